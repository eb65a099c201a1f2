/- Functions: their trees, functions over lists that answer as they do, and that they do. -/
import Derived.Test.YtdjeadgebcndeaaRxU
import Derived.Test.YtdjeadgebcndeaaRxSeat
import Derived.Test.YtdjeadgebcndeaaProg
import Derived.Test.YtdjeadgebcndeaaRa
import Derived.Test.YtdjeadgebcndeaaSli
namespace Go.Proofs.Ytdjeadgebcndeaa.X
open Go Go.RowKit Go.Proofs.YtdjeadgebcndeaaW.Rx
set_option linter.unusedVariables false
set_option linter.unusedSimpArgs false
set_option maxRecDepth 10000
/-! ### (*turnbuckle/reasm.Stream).put: function 23 -/
abbrev reasm_Stream_put.S (a0 A0_2 A0_3 : Option Addr) : Nat → Prop := fun b => blk (a0, 0, 0) b ∨ blk (A0_2, 0, 0) b ∨ blk (A0_3, 0, 0) b
def reasm_Stream_put.s7 (k : Nat) (a1 : Int) (l2 : List Int) (v3_0 : Int) : (Int × (Int × Int × (List Int) × (List (Int × Int)) × Int × Bool × Bool)) → Option (Sum (Int × (Int × Int × (List Int) × (List (Int × Int)) × Int × Bool × Bool)) (Sum (Int × (Int × Int × (List Int) × (List (Int × Int)) × Int × Bool × Bool)) (Sum (Int × (Int × Int × (List Int) × (List (Int × Int)) × Int × Bool × Bool)) ((Int × Int × (List Int) × (List (Int × Int)) × Int × Bool × Bool))))) := fun (v7_0, q7_a0) => bif decide (v3_0 < v7_0) then ((getI q7_a0.2.2.2.1 (IntKind.wrap IntKind.i64 (v7_0 - 1))).bind fun r31 => bif decide (IntKind.wrap IntKind.i64 (IntKind.wrap IntKind.i64 (IntKind.wrap IntKind.i64 (a1 + ((l2.length : Nat) : Int)) - 1) + 1) < r31.1) then (some (.inl ((IntKind.wrap IntKind.i64 (v7_0 - 1), q7_a0)))) else (bif decide (v3_0 < v7_0) then ((getI q7_a0.2.2.2.1 v3_0).bind fun r35 => (getI q7_a0.2.2.2.1 (IntKind.wrap IntKind.i64 (v7_0 - 1))).bind fun r37 => bif decide ((0 : Int) ≤ v3_0 ∧ v3_0 ≤ v7_0 ∧ v7_0 ≤ (q7_a0.2.2.2.1.length : Int) ∧ (q7_a0.2.2.2.1.length + 1) * 16 ≤ 140737488355328) then (some (.inr (.inr (.inr (((q7_a0.1, q7_a0.2.1, q7_a0.2.2.1, (q7_a0.2.2.2.1.take (Int.toNat v3_0) ++ [(if r35.1 < a1 then r35.1 else a1, if IntKind.wrap IntKind.i64 (IntKind.wrap IntKind.i64 (a1 + ((l2.length : Nat) : Int)) - 1) < r37.2 then r37.2 else IntKind.wrap IntKind.i64 (IntKind.wrap IntKind.i64 (a1 + ((l2.length : Nat) : Int)) - 1))] ++ q7_a0.2.2.2.1.drop (Int.toNat v7_0)), q7_a0.2.2.2.2.1, q7_a0.2.2.2.2.2.1, q7_a0.2.2.2.2.2.2))))))) else none) else (bif decide ((0 : Int) ≤ v3_0 ∧ v3_0 ≤ v7_0 ∧ v7_0 ≤ (q7_a0.2.2.2.1.length : Int) ∧ (q7_a0.2.2.2.1.length + 1) * 16 ≤ 140737488355328) then (some (.inr (.inr (.inr (((q7_a0.1, q7_a0.2.1, q7_a0.2.2.1, (q7_a0.2.2.2.1.take (Int.toNat v3_0) ++ [(a1, IntKind.wrap IntKind.i64 (IntKind.wrap IntKind.i64 (a1 + ((l2.length : Nat) : Int)) - 1))] ++ q7_a0.2.2.2.1.drop (Int.toNat v7_0)), q7_a0.2.2.2.2.1, q7_a0.2.2.2.2.2.1, q7_a0.2.2.2.2.2.2))))))) else none))) else (bif decide (v3_0 < v7_0) then ((getI q7_a0.2.2.2.1 v3_0).bind fun r48 => (getI q7_a0.2.2.2.1 (IntKind.wrap IntKind.i64 (v7_0 - 1))).bind fun r50 => bif decide ((0 : Int) ≤ v3_0 ∧ v3_0 ≤ v7_0 ∧ v7_0 ≤ (q7_a0.2.2.2.1.length : Int) ∧ (q7_a0.2.2.2.1.length + 1) * 16 ≤ 140737488355328) then (some (.inr (.inr (.inr (((q7_a0.1, q7_a0.2.1, q7_a0.2.2.1, (q7_a0.2.2.2.1.take (Int.toNat v3_0) ++ [(if r48.1 < a1 then r48.1 else a1, if IntKind.wrap IntKind.i64 (IntKind.wrap IntKind.i64 (a1 + ((l2.length : Nat) : Int)) - 1) < r50.2 then r50.2 else IntKind.wrap IntKind.i64 (IntKind.wrap IntKind.i64 (a1 + ((l2.length : Nat) : Int)) - 1))] ++ q7_a0.2.2.2.1.drop (Int.toNat v7_0)), q7_a0.2.2.2.2.1, q7_a0.2.2.2.2.2.1, q7_a0.2.2.2.2.2.2))))))) else none) else (bif decide ((0 : Int) ≤ v3_0 ∧ v3_0 ≤ v7_0 ∧ v7_0 ≤ (q7_a0.2.2.2.1.length : Int) ∧ (q7_a0.2.2.2.1.length + 1) * 16 ≤ 140737488355328) then (some (.inr (.inr (.inr (((q7_a0.1, q7_a0.2.1, q7_a0.2.2.1, (q7_a0.2.2.2.1.take (Int.toNat v3_0) ++ [(a1, IntKind.wrap IntKind.i64 (IntKind.wrap IntKind.i64 (a1 + ((l2.length : Nat) : Int)) - 1))] ++ q7_a0.2.2.2.1.drop (Int.toNat v7_0)), q7_a0.2.2.2.2.1, q7_a0.2.2.2.2.2.1, q7_a0.2.2.2.2.2.2))))))) else none))
def reasm_Stream_put.s5 (k : Nat) (a1 : Int) (l2 : List Int) (v3_0 : Int) : (Int × (Int × Int × (List Int) × (List (Int × Int)) × Int × Bool × Bool)) → Option (Sum (Int × (Int × Int × (List Int) × (List (Int × Int)) × Int × Bool × Bool)) (Sum (Int × (Int × Int × (List Int) × (List (Int × Int)) × Int × Bool × Bool)) (Sum (Int × (Int × Int × (List Int) × (List (Int × Int)) × Int × Bool × Bool)) ((Int × Int × (List Int) × (List (Int × Int)) × Int × Bool × Bool))))) := fun (v5_0, q5_a0) => bif decide (v3_0 < v5_0) then ((getI q5_a0.2.2.2.1 (IntKind.wrap IntKind.i64 (v5_0 - 1))).bind fun r65 => bif decide (IntKind.wrap IntKind.i64 (IntKind.wrap IntKind.i64 (IntKind.wrap IntKind.i64 (a1 + ((l2.length : Nat) : Int)) - 1) + 1) < r65.1) then (some (.inl ((IntKind.wrap IntKind.i64 (v5_0 - 1), q5_a0)))) else (bif decide (v3_0 < v5_0) then ((getI q5_a0.2.2.2.1 v3_0).bind fun r69 => (getI q5_a0.2.2.2.1 (IntKind.wrap IntKind.i64 (v5_0 - 1))).bind fun r71 => bif decide ((0 : Int) ≤ v3_0 ∧ v3_0 ≤ v5_0 ∧ v5_0 ≤ (q5_a0.2.2.2.1.length : Int) ∧ (q5_a0.2.2.2.1.length + 1) * 16 ≤ 140737488355328) then (some (.inr (.inr (.inr (((q5_a0.1, q5_a0.2.1, q5_a0.2.2.1, (q5_a0.2.2.2.1.take (Int.toNat v3_0) ++ [(if r69.1 < a1 then r69.1 else a1, if IntKind.wrap IntKind.i64 (IntKind.wrap IntKind.i64 (a1 + ((l2.length : Nat) : Int)) - 1) < r71.2 then r71.2 else IntKind.wrap IntKind.i64 (IntKind.wrap IntKind.i64 (a1 + ((l2.length : Nat) : Int)) - 1))] ++ q5_a0.2.2.2.1.drop (Int.toNat v5_0)), q5_a0.2.2.2.2.1, q5_a0.2.2.2.2.2.1, q5_a0.2.2.2.2.2.2))))))) else none) else (bif decide ((0 : Int) ≤ v3_0 ∧ v3_0 ≤ v5_0 ∧ v5_0 ≤ (q5_a0.2.2.2.1.length : Int) ∧ (q5_a0.2.2.2.1.length + 1) * 16 ≤ 140737488355328) then (some (.inr (.inr (.inr (((q5_a0.1, q5_a0.2.1, q5_a0.2.2.1, (q5_a0.2.2.2.1.take (Int.toNat v3_0) ++ [(a1, IntKind.wrap IntKind.i64 (IntKind.wrap IntKind.i64 (a1 + ((l2.length : Nat) : Int)) - 1))] ++ q5_a0.2.2.2.1.drop (Int.toNat v5_0)), q5_a0.2.2.2.2.1, q5_a0.2.2.2.2.2.1, q5_a0.2.2.2.2.2.2))))))) else none))) else (bif decide (v3_0 < v5_0) then ((getI q5_a0.2.2.2.1 v3_0).bind fun r82 => (getI q5_a0.2.2.2.1 (IntKind.wrap IntKind.i64 (v5_0 - 1))).bind fun r84 => bif decide ((0 : Int) ≤ v3_0 ∧ v3_0 ≤ v5_0 ∧ v5_0 ≤ (q5_a0.2.2.2.1.length : Int) ∧ (q5_a0.2.2.2.1.length + 1) * 16 ≤ 140737488355328) then (some (.inr (.inr (.inr (((q5_a0.1, q5_a0.2.1, q5_a0.2.2.1, (q5_a0.2.2.2.1.take (Int.toNat v3_0) ++ [(if r82.1 < a1 then r82.1 else a1, if IntKind.wrap IntKind.i64 (IntKind.wrap IntKind.i64 (a1 + ((l2.length : Nat) : Int)) - 1) < r84.2 then r84.2 else IntKind.wrap IntKind.i64 (IntKind.wrap IntKind.i64 (a1 + ((l2.length : Nat) : Int)) - 1))] ++ q5_a0.2.2.2.1.drop (Int.toNat v5_0)), q5_a0.2.2.2.2.1, q5_a0.2.2.2.2.2.1, q5_a0.2.2.2.2.2.2))))))) else none) else (bif decide ((0 : Int) ≤ v3_0 ∧ v3_0 ≤ v5_0 ∧ v5_0 ≤ (q5_a0.2.2.2.1.length : Int) ∧ (q5_a0.2.2.2.1.length + 1) * 16 ≤ 140737488355328) then (some (.inr (.inr (.inr (((q5_a0.1, q5_a0.2.1, q5_a0.2.2.1, (q5_a0.2.2.2.1.take (Int.toNat v3_0) ++ [(a1, IntKind.wrap IntKind.i64 (IntKind.wrap IntKind.i64 (a1 + ((l2.length : Nat) : Int)) - 1))] ++ q5_a0.2.2.2.1.drop (Int.toNat v5_0)), q5_a0.2.2.2.2.1, q5_a0.2.2.2.2.2.1, q5_a0.2.2.2.2.2.2))))))) else none))
def reasm_Stream_put.s3 (k : Nat) (a1 : Int) (l2 : List Int) (q1_a0 : Int × Int × (List Int) × (List (Int × Int)) × Int × Bool × Bool) : (Int × (Int × Int × (List Int) × (List (Int × Int)) × Int × Bool × Bool)) → Option (Sum (Int × (Int × Int × (List Int) × (List (Int × Int)) × Int × Bool × Bool)) (Sum (Int × (Int × Int × (List Int) × (List (Int × Int)) × Int × Bool × Bool)) ((Int × Int × (List Int) × (List (Int × Int)) × Int × Bool × Bool)))) := fun (v3_0, q3_a0) => bif decide (v3_0 < (((q3_a0.2.2.2.1).length : Nat) : Int)) then ((getI q3_a0.2.2.2.1 v3_0).bind fun r23 => bif decide (r23.2 < IntKind.wrap IntKind.i64 (a1 - 1)) then (some (.inl ((IntKind.wrap IntKind.i64 (v3_0 + 1), q3_a0)))) else (iter (reasm_Stream_put.s7 k a1 l2 v3_0) k ((((q1_a0.2.2.2.1).length : Nat) : Int), q3_a0))) else (iter (reasm_Stream_put.s5 k a1 l2 v3_0) k ((((q1_a0.2.2.2.1).length : Nat) : Int), q3_a0))
def reasm_Stream_put.s1 (k : Nat) (a1 : Int) (l2 : List Int) (s0_0 : List (Int × Int)) : (Int × (Int × Int × (List Int) × (List (Int × Int)) × Int × Bool × Bool)) → Option (Sum (Int × (Int × Int × (List Int) × (List (Int × Int)) × Int × Bool × Bool)) ((Int × Int × (List Int) × (List (Int × Int)) × Int × Bool × Bool))) := fun (v1_0, q1_a0) => bif decide (v1_0 < ((s0_0.length : Nat) : Int)) then ((getI s0_0 v1_0).bind fun r11 => bif decide ((0 : Int) ≤ (IntKind.wrap IntKind.i64 (r11.1 - q1_a0.2.1)) ∧ (IntKind.wrap IntKind.i64 (r11.1 - q1_a0.2.1)) ≤ ((((q1_a0.2.2.1).length : Nat) : Int)) ∧ ((((q1_a0.2.2.1).length : Nat) : Int)) ≤ ((q1_a0.2.2.1).length : Int)) then (bif decide ((0 : Int) ≤ (IntKind.wrap IntKind.i64 (r11.1 - a1)) ∧ (IntKind.wrap IntKind.i64 (r11.1 - a1)) ≤ (IntKind.wrap IntKind.i64 (IntKind.wrap IntKind.i64 (r11.2 - a1) + 1)) ∧ (IntKind.wrap IntKind.i64 (IntKind.wrap IntKind.i64 (r11.2 - a1) + 1)) ≤ (l2.length : Int)) then (some (.inl ((IntKind.wrap IntKind.i64 (v1_0 + 1), (q1_a0.1, q1_a0.2.1, (cop (Int.toNat (IntKind.wrap IntKind.i64 (r11.1 - q1_a0.2.1))) q1_a0.2.2.1 (((l2.drop (Int.toNat (IntKind.wrap IntKind.i64 (r11.1 - a1)))).take (Int.toNat (IntKind.wrap IntKind.i64 (IntKind.wrap IntKind.i64 (r11.2 - a1) + 1)) - Int.toNat (IntKind.wrap IntKind.i64 (r11.1 - a1)))))), q1_a0.2.2.2.1, q1_a0.2.2.2.2.1, q1_a0.2.2.2.2.2.1, q1_a0.2.2.2.2.2.2))))) else none) else none) else (iter (reasm_Stream_put.s3 k a1 l2 q1_a0) k (0, q1_a0))
def reasm_Stream_put.F (k : Nat) (q0 : Int × Int × (List Int) × (List (Int × Int)) × Int × Bool × Bool) (a1 : Int) (l2 : List Int) : Option ((Int × Int × (List Int) × (List (Int × Int)) × Int × Bool × Bool)) := bif ((l2.length : Nat) : Int) == 0 then (some q0) else ((reasm_Stream_gaps.F k (some q0) a1 (IntKind.wrap IntKind.i64 (IntKind.wrap IntKind.i64 (a1 + ((l2.length : Nat) : Int)) - 1))).bind fun s0_0 => iter (reasm_Stream_put.s1 k a1 l2 s0_0) k (0, q0))
abbrev reasm_Stream_put.A : Nat → LA := fun r => if r = 3 then ⟨[(25, false, [Lf.i IntKind.i64])], []⟩ else if r = 9 then ⟨[(9, false, [Lf.i IntKind.i64])], []⟩ else if r = 11 then ⟨[(10, false, [Lf.i IntKind.i64])], []⟩ else ⟨[], []⟩
set_option maxHeartbeats 4000000 in
theorem reasm_Stream_put.t (a0 : Option Addr) (a1 : Int) (A2 : Option Addr) (n2 c2 : Nat) : tree Try.prog reasm_Stream_put.A noC Try.f23 [AV.v (Value.pointer a0), AV.v (Value.int IntKind.i64 a1), AV.v (Value.slice A2 n2 c2)] [] =
  bif ((n2 : Nat) : Int) == 0 then (
   .done (AV.tup []) ([]))
  else (
   .call 25 ([AV.v (Value.pointer a0), AV.v (Value.int IntKind.i64 a1), AV.v (Value.int IntKind.i64 (IntKind.wrap IntKind.i64 (IntKind.wrap IntKind.i64 (a1 + ((n2 : Nat) : Int)) - 1)))]) ([]) (Sh.one) ([Lf.sl]) ([]) (fun x0 =>
    .loop ([Lf.i IntKind.i64]) ((0, PUnit.unit)) 0 (fun x1 =>
     bif decide (x1.1 < ((x0.1.2.1 : Nat) : Int)) then (
      .need (decide (0 ≤ x1.1) && decide (x1.1 < ((x0.1.2.1 : Nat) : Int)) && Option.isSome x0.1.1) (
      .ld (Option.map (fun x => Addr.add x (Int.toNat x1.1 * 2)) x0.1.1) ([Lf.i IntKind.i64, Lf.i IntKind.i64]) (fun x2 =>
       .need (Option.isSome a0) (
       .need (Option.isSome a0) (
       .ld (Option.map (fun x => Addr.add x 2) a0) ([Lf.sl]) (fun x3 =>
        .need (Option.isSome a0) (
        .need (Option.isSome a0) (
        .ld (Option.map (fun x => Addr.add x 1) a0) ([Lf.i IntKind.i64]) (fun x4 =>
         .need (decide (0 ≤ IntKind.wrap IntKind.i64 (x2.1 - x4.1)) && decide (IntKind.wrap IntKind.i64 (x2.1 - x4.1) ≤ ((x3.1.2.1 : Nat) : Int)) && decide (((x3.1.2.1 : Nat) : Int) ≤ ((x3.1.2.1 : Nat) : Int))) (
         .need (decide (0 ≤ IntKind.wrap IntKind.i64 (x2.1 - a1)) && decide (IntKind.wrap IntKind.i64 (x2.1 - a1) ≤ IntKind.wrap IntKind.i64 (IntKind.wrap IntKind.i64 (x2.2.1 - a1) + 1)) && decide (IntKind.wrap IntKind.i64 (IntKind.wrap IntKind.i64 (x2.2.1 - a1) + 1) ≤ ((c2 : Nat) : Int))) (
         .sem (Builtin.copy_ { toList := [22, 22] } 3 { toList := [Value.slice (if ((x3.1.2.2 : Nat) : Int) = IntKind.wrap IntKind.i64 (x2.1 - x4.1) then x3.1.1 else Option.map (fun x => Addr.add x (Int.toNat (IntKind.wrap IntKind.i64 (x2.1 - x4.1)) * 1)) x3.1.1) (Int.toNat ((x3.1.2.1 : Nat) : Int) - Int.toNat (IntKind.wrap IntKind.i64 (x2.1 - x4.1))) (x3.1.2.2 - Int.toNat (IntKind.wrap IntKind.i64 (x2.1 - x4.1))), Value.slice (if ((c2 : Nat) : Int) = IntKind.wrap IntKind.i64 (x2.1 - a1) then A2 else Option.map (fun x => Addr.add x (Int.toNat (IntKind.wrap IntKind.i64 (x2.1 - a1)) * 1)) A2) (Int.toNat (IntKind.wrap IntKind.i64 (IntKind.wrap IntKind.i64 (x2.2.1 - a1) + 1)) - Int.toNat (IntKind.wrap IntKind.i64 (x2.1 - a1))) (c2 - Int.toNat (IntKind.wrap IntKind.i64 (x2.1 - a1)))] }) ([Lf.i IntKind.i64]) (Sh.one) (fun x5 =>
          .again 0 ([Lf.i IntKind.i64]) ((IntKind.wrap IntKind.i64 (x1.1 + 1), PUnit.unit))))))))))))))
     else (
      .need (Option.isSome a0) (
      .need (Option.isSome a0) (
      .ld (Option.map (fun x => Addr.add x 3) a0) ([Lf.sl]) (fun x2 =>
       .loop ([Lf.i IntKind.i64]) ((0, PUnit.unit)) 0 (fun x3 =>
        .need (Option.isSome a0) (
        .need (Option.isSome a0) (
        .ld (Option.map (fun x => Addr.add x 3) a0) ([Lf.sl]) (fun x4 =>
         bif decide (x3.1 < ((x4.1.2.1 : Nat) : Int)) then (
          .need (Option.isSome a0) (
          .need (Option.isSome a0) (
          .ld (Option.map (fun x => Addr.add x 3) a0) ([Lf.sl]) (fun x5 =>
           .need (decide (0 ≤ x3.1) && decide (x3.1 < ((x5.1.2.1 : Nat) : Int)) && Option.isSome x5.1.1) (
           .need (Option.isSome (Option.map (fun x => Addr.add x (Int.toNat x3.1 * 2)) x5.1.1)) (
           .ld (Option.map (fun x => Addr.add x 1) (Option.map (fun x => Addr.add x (Int.toNat x3.1 * 2)) x5.1.1)) ([Lf.i IntKind.i64]) (fun x6 =>
            bif decide (x6.1 < IntKind.wrap IntKind.i64 (a1 - 1)) then (
             .again 0 ([Lf.i IntKind.i64]) ((IntKind.wrap IntKind.i64 (x3.1 + 1), PUnit.unit)))
            else (
             .loop ([Lf.i IntKind.i64]) ((((x2.1.2.1 : Nat) : Int), PUnit.unit)) 0 (fun x7 =>
              bif decide (x3.1 < x7.1) then (
               .need (Option.isSome a0) (
               .need (Option.isSome a0) (
               .ld (Option.map (fun x => Addr.add x 3) a0) ([Lf.sl]) (fun x8 =>
                .need (decide (0 ≤ IntKind.wrap IntKind.i64 (x7.1 - 1)) && decide (IntKind.wrap IntKind.i64 (x7.1 - 1) < ((x8.1.2.1 : Nat) : Int)) && Option.isSome x8.1.1) (
                .need (Option.isSome (Option.map (fun x => Addr.add x (Int.toNat (IntKind.wrap IntKind.i64 (x7.1 - 1)) * 2)) x8.1.1)) (
                .ld (Option.map (fun x => Addr.add x 0) (Option.map (fun x => Addr.add x (Int.toNat (IntKind.wrap IntKind.i64 (x7.1 - 1)) * 2)) x8.1.1)) ([Lf.i IntKind.i64]) (fun x9 =>
                 bif decide (IntKind.wrap IntKind.i64 (IntKind.wrap IntKind.i64 (IntKind.wrap IntKind.i64 (a1 + ((n2 : Nat) : Int)) - 1) + 1) < x9.1) then (
                  .again 0 ([Lf.i IntKind.i64]) ((IntKind.wrap IntKind.i64 (x7.1 - 1), PUnit.unit)))
                 else (
                  bif decide (x3.1 < x7.1) then (
                   .need (Option.isSome a0) (
                   .need (Option.isSome a0) (
                   .ld (Option.map (fun x => Addr.add x 3) a0) ([Lf.sl]) (fun x10 =>
                    .need (decide (0 ≤ x3.1) && decide (x3.1 < ((x10.1.2.1 : Nat) : Int)) && Option.isSome x10.1.1) (
                    .need (Option.isSome (Option.map (fun x => Addr.add x (Int.toNat x3.1 * 2)) x10.1.1)) (
                    .ld (Option.map (fun x => Addr.add x 0) (Option.map (fun x => Addr.add x (Int.toNat x3.1 * 2)) x10.1.1)) ([Lf.i IntKind.i64]) (fun x11 =>
                     .need (Option.isSome a0) (
                     .need (Option.isSome a0) (
                     .ld (Option.map (fun x => Addr.add x 3) a0) ([Lf.sl]) (fun x12 =>
                      .need (decide (0 ≤ IntKind.wrap IntKind.i64 (x7.1 - 1)) && decide (IntKind.wrap IntKind.i64 (x7.1 - 1) < ((x12.1.2.1 : Nat) : Int)) && Option.isSome x12.1.1) (
                      .need (Option.isSome (Option.map (fun x => Addr.add x (Int.toNat (IntKind.wrap IntKind.i64 (x7.1 - 1)) * 2)) x12.1.1)) (
                      .ld (Option.map (fun x => Addr.add x 1) (Option.map (fun x => Addr.add x (Int.toNat (IntKind.wrap IntKind.i64 (x7.1 - 1)) * 2)) x12.1.1)) ([Lf.i IntKind.i64]) (fun x13 =>
                       .need (Option.isSome a0) (
                       .need (Option.isSome a0) (
                       .ld (Option.map (fun x => Addr.add x 3) a0) ([Lf.sl]) (fun x14 =>
                        .sem (Instr.buildSlice 43 1 { toList := [(0, Value.agg { toList := [Value.int IntKind.i64 (if x11.1 < a1 then x11.1 else a1), Value.int IntKind.i64 (if IntKind.wrap IntKind.i64 (IntKind.wrap IntKind.i64 (a1 + ((n2 : Nat) : Int)) - 1) < x13.1 then x13.1 else IntKind.wrap IntKind.i64 (IntKind.wrap IntKind.i64 (a1 + ((n2 : Nat) : Int)) - 1))] })] }) ([Lf.sl]) (Sh.one) (fun x15 =>
                         .keep (Option.map (fun x => Addr.add x 3) a0) ([AV.v (Value.slice x14.1.1 x14.1.2.1 x14.1.2.2)]) (
                         .call 26 ([AV.v (Value.slice x14.1.1 x14.1.2.1 x14.1.2.2), AV.v (Value.int IntKind.i64 x3.1), AV.v (Value.int IntKind.i64 x7.1), AV.v (Value.slice x15.1.1 x15.1.2.1 x15.1.2.2)]) ([]) (Sh.one) ([Lf.sl]) ([]) (fun x16 =>
                          .need (Option.isSome a0) (
                          .need (Option.isSome a0) (
                          .sto (Option.map (fun x => Addr.add x 3) a0) ([AV.v (Value.slice x16.1.1 x16.1.2.1 x16.1.2.2)]) ([]) (
                          .done (AV.tup []) ([])))))))))))))))))))))))
                  else (
                   .need (Option.isSome a0) (
                   .need (Option.isSome a0) (
                   .ld (Option.map (fun x => Addr.add x 3) a0) ([Lf.sl]) (fun x10 =>
                    .sem (Instr.buildSlice 43 1 { toList := [(0, Value.agg { toList := [Value.int IntKind.i64 a1, Value.int IntKind.i64 (IntKind.wrap IntKind.i64 (IntKind.wrap IntKind.i64 (a1 + ((n2 : Nat) : Int)) - 1))] })] }) ([Lf.sl]) (Sh.one) (fun x11 =>
                     .keep (Option.map (fun x => Addr.add x 3) a0) ([AV.v (Value.slice x10.1.1 x10.1.2.1 x10.1.2.2)]) (
                     .call 26 ([AV.v (Value.slice x10.1.1 x10.1.2.1 x10.1.2.2), AV.v (Value.int IntKind.i64 x3.1), AV.v (Value.int IntKind.i64 x7.1), AV.v (Value.slice x11.1.1 x11.1.2.1 x11.1.2.2)]) ([]) (Sh.one) ([Lf.sl]) ([]) (fun x12 =>
                      .need (Option.isSome a0) (
                      .need (Option.isSome a0) (
                      .sto (Option.map (fun x => Addr.add x 3) a0) ([AV.v (Value.slice x12.1.1 x12.1.2.1 x12.1.2.2)]) ([]) (
                      .done (AV.tup []) ([])))))))))))))))))))
              else (
               bif decide (x3.1 < x7.1) then (
                .need (Option.isSome a0) (
                .need (Option.isSome a0) (
                .ld (Option.map (fun x => Addr.add x 3) a0) ([Lf.sl]) (fun x8 =>
                 .need (decide (0 ≤ x3.1) && decide (x3.1 < ((x8.1.2.1 : Nat) : Int)) && Option.isSome x8.1.1) (
                 .need (Option.isSome (Option.map (fun x => Addr.add x (Int.toNat x3.1 * 2)) x8.1.1)) (
                 .ld (Option.map (fun x => Addr.add x 0) (Option.map (fun x => Addr.add x (Int.toNat x3.1 * 2)) x8.1.1)) ([Lf.i IntKind.i64]) (fun x9 =>
                  .need (Option.isSome a0) (
                  .need (Option.isSome a0) (
                  .ld (Option.map (fun x => Addr.add x 3) a0) ([Lf.sl]) (fun x10 =>
                   .need (decide (0 ≤ IntKind.wrap IntKind.i64 (x7.1 - 1)) && decide (IntKind.wrap IntKind.i64 (x7.1 - 1) < ((x10.1.2.1 : Nat) : Int)) && Option.isSome x10.1.1) (
                   .need (Option.isSome (Option.map (fun x => Addr.add x (Int.toNat (IntKind.wrap IntKind.i64 (x7.1 - 1)) * 2)) x10.1.1)) (
                   .ld (Option.map (fun x => Addr.add x 1) (Option.map (fun x => Addr.add x (Int.toNat (IntKind.wrap IntKind.i64 (x7.1 - 1)) * 2)) x10.1.1)) ([Lf.i IntKind.i64]) (fun x11 =>
                    .need (Option.isSome a0) (
                    .need (Option.isSome a0) (
                    .ld (Option.map (fun x => Addr.add x 3) a0) ([Lf.sl]) (fun x12 =>
                     .sem (Instr.buildSlice 43 1 { toList := [(0, Value.agg { toList := [Value.int IntKind.i64 (if x9.1 < a1 then x9.1 else a1), Value.int IntKind.i64 (if IntKind.wrap IntKind.i64 (IntKind.wrap IntKind.i64 (a1 + ((n2 : Nat) : Int)) - 1) < x11.1 then x11.1 else IntKind.wrap IntKind.i64 (IntKind.wrap IntKind.i64 (a1 + ((n2 : Nat) : Int)) - 1))] })] }) ([Lf.sl]) (Sh.one) (fun x13 =>
                      .keep (Option.map (fun x => Addr.add x 3) a0) ([AV.v (Value.slice x12.1.1 x12.1.2.1 x12.1.2.2)]) (
                      .call 26 ([AV.v (Value.slice x12.1.1 x12.1.2.1 x12.1.2.2), AV.v (Value.int IntKind.i64 x3.1), AV.v (Value.int IntKind.i64 x7.1), AV.v (Value.slice x13.1.1 x13.1.2.1 x13.1.2.2)]) ([]) (Sh.one) ([Lf.sl]) ([]) (fun x14 =>
                       .need (Option.isSome a0) (
                       .need (Option.isSome a0) (
                       .sto (Option.map (fun x => Addr.add x 3) a0) ([AV.v (Value.slice x14.1.1 x14.1.2.1 x14.1.2.2)]) ([]) (
                       .done (AV.tup []) ([])))))))))))))))))))))))
               else (
                .need (Option.isSome a0) (
                .need (Option.isSome a0) (
                .ld (Option.map (fun x => Addr.add x 3) a0) ([Lf.sl]) (fun x8 =>
                 .sem (Instr.buildSlice 43 1 { toList := [(0, Value.agg { toList := [Value.int IntKind.i64 a1, Value.int IntKind.i64 (IntKind.wrap IntKind.i64 (IntKind.wrap IntKind.i64 (a1 + ((n2 : Nat) : Int)) - 1))] })] }) ([Lf.sl]) (Sh.one) (fun x9 =>
                  .keep (Option.map (fun x => Addr.add x 3) a0) ([AV.v (Value.slice x8.1.1 x8.1.2.1 x8.1.2.2)]) (
                  .call 26 ([AV.v (Value.slice x8.1.1 x8.1.2.1 x8.1.2.2), AV.v (Value.int IntKind.i64 x3.1), AV.v (Value.int IntKind.i64 x7.1), AV.v (Value.slice x9.1.1 x9.1.2.1 x9.1.2.2)]) ([]) (Sh.one) ([Lf.sl]) ([]) (fun x10 =>
                   .need (Option.isSome a0) (
                   .need (Option.isSome a0) (
                   .sto (Option.map (fun x => Addr.add x 3) a0) ([AV.v (Value.slice x10.1.1 x10.1.2.1 x10.1.2.2)]) ([]) (
                   .done (AV.tup []) ([])))))))))))))))))))))
         else (
          .loop ([Lf.i IntKind.i64]) ((((x2.1.2.1 : Nat) : Int), PUnit.unit)) 0 (fun x5 =>
           bif decide (x3.1 < x5.1) then (
            .need (Option.isSome a0) (
            .need (Option.isSome a0) (
            .ld (Option.map (fun x => Addr.add x 3) a0) ([Lf.sl]) (fun x6 =>
             .need (decide (0 ≤ IntKind.wrap IntKind.i64 (x5.1 - 1)) && decide (IntKind.wrap IntKind.i64 (x5.1 - 1) < ((x6.1.2.1 : Nat) : Int)) && Option.isSome x6.1.1) (
             .need (Option.isSome (Option.map (fun x => Addr.add x (Int.toNat (IntKind.wrap IntKind.i64 (x5.1 - 1)) * 2)) x6.1.1)) (
             .ld (Option.map (fun x => Addr.add x 0) (Option.map (fun x => Addr.add x (Int.toNat (IntKind.wrap IntKind.i64 (x5.1 - 1)) * 2)) x6.1.1)) ([Lf.i IntKind.i64]) (fun x7 =>
              bif decide (IntKind.wrap IntKind.i64 (IntKind.wrap IntKind.i64 (IntKind.wrap IntKind.i64 (a1 + ((n2 : Nat) : Int)) - 1) + 1) < x7.1) then (
               .again 0 ([Lf.i IntKind.i64]) ((IntKind.wrap IntKind.i64 (x5.1 - 1), PUnit.unit)))
              else (
               bif decide (x3.1 < x5.1) then (
                .need (Option.isSome a0) (
                .need (Option.isSome a0) (
                .ld (Option.map (fun x => Addr.add x 3) a0) ([Lf.sl]) (fun x8 =>
                 .need (decide (0 ≤ x3.1) && decide (x3.1 < ((x8.1.2.1 : Nat) : Int)) && Option.isSome x8.1.1) (
                 .need (Option.isSome (Option.map (fun x => Addr.add x (Int.toNat x3.1 * 2)) x8.1.1)) (
                 .ld (Option.map (fun x => Addr.add x 0) (Option.map (fun x => Addr.add x (Int.toNat x3.1 * 2)) x8.1.1)) ([Lf.i IntKind.i64]) (fun x9 =>
                  .need (Option.isSome a0) (
                  .need (Option.isSome a0) (
                  .ld (Option.map (fun x => Addr.add x 3) a0) ([Lf.sl]) (fun x10 =>
                   .need (decide (0 ≤ IntKind.wrap IntKind.i64 (x5.1 - 1)) && decide (IntKind.wrap IntKind.i64 (x5.1 - 1) < ((x10.1.2.1 : Nat) : Int)) && Option.isSome x10.1.1) (
                   .need (Option.isSome (Option.map (fun x => Addr.add x (Int.toNat (IntKind.wrap IntKind.i64 (x5.1 - 1)) * 2)) x10.1.1)) (
                   .ld (Option.map (fun x => Addr.add x 1) (Option.map (fun x => Addr.add x (Int.toNat (IntKind.wrap IntKind.i64 (x5.1 - 1)) * 2)) x10.1.1)) ([Lf.i IntKind.i64]) (fun x11 =>
                    .need (Option.isSome a0) (
                    .need (Option.isSome a0) (
                    .ld (Option.map (fun x => Addr.add x 3) a0) ([Lf.sl]) (fun x12 =>
                     .sem (Instr.buildSlice 43 1 { toList := [(0, Value.agg { toList := [Value.int IntKind.i64 (if x9.1 < a1 then x9.1 else a1), Value.int IntKind.i64 (if IntKind.wrap IntKind.i64 (IntKind.wrap IntKind.i64 (a1 + ((n2 : Nat) : Int)) - 1) < x11.1 then x11.1 else IntKind.wrap IntKind.i64 (IntKind.wrap IntKind.i64 (a1 + ((n2 : Nat) : Int)) - 1))] })] }) ([Lf.sl]) (Sh.one) (fun x13 =>
                      .keep (Option.map (fun x => Addr.add x 3) a0) ([AV.v (Value.slice x12.1.1 x12.1.2.1 x12.1.2.2)]) (
                      .call 26 ([AV.v (Value.slice x12.1.1 x12.1.2.1 x12.1.2.2), AV.v (Value.int IntKind.i64 x3.1), AV.v (Value.int IntKind.i64 x5.1), AV.v (Value.slice x13.1.1 x13.1.2.1 x13.1.2.2)]) ([]) (Sh.one) ([Lf.sl]) ([]) (fun x14 =>
                       .need (Option.isSome a0) (
                       .need (Option.isSome a0) (
                       .sto (Option.map (fun x => Addr.add x 3) a0) ([AV.v (Value.slice x14.1.1 x14.1.2.1 x14.1.2.2)]) ([]) (
                       .done (AV.tup []) ([])))))))))))))))))))))))
               else (
                .need (Option.isSome a0) (
                .need (Option.isSome a0) (
                .ld (Option.map (fun x => Addr.add x 3) a0) ([Lf.sl]) (fun x8 =>
                 .sem (Instr.buildSlice 43 1 { toList := [(0, Value.agg { toList := [Value.int IntKind.i64 a1, Value.int IntKind.i64 (IntKind.wrap IntKind.i64 (IntKind.wrap IntKind.i64 (a1 + ((n2 : Nat) : Int)) - 1))] })] }) ([Lf.sl]) (Sh.one) (fun x9 =>
                  .keep (Option.map (fun x => Addr.add x 3) a0) ([AV.v (Value.slice x8.1.1 x8.1.2.1 x8.1.2.2)]) (
                  .call 26 ([AV.v (Value.slice x8.1.1 x8.1.2.1 x8.1.2.2), AV.v (Value.int IntKind.i64 x3.1), AV.v (Value.int IntKind.i64 x5.1), AV.v (Value.slice x9.1.1 x9.1.2.1 x9.1.2.2)]) ([]) (Sh.one) ([Lf.sl]) ([]) (fun x10 =>
                   .need (Option.isSome a0) (
                   .need (Option.isSome a0) (
                   .sto (Option.map (fun x => Addr.add x 3) a0) ([AV.v (Value.slice x10.1.1 x10.1.2.1 x10.1.2.2)]) ([]) (
                   .done (AV.tup []) ([])))))))))))))))))))
           else (
            bif decide (x3.1 < x5.1) then (
             .need (Option.isSome a0) (
             .need (Option.isSome a0) (
             .ld (Option.map (fun x => Addr.add x 3) a0) ([Lf.sl]) (fun x6 =>
              .need (decide (0 ≤ x3.1) && decide (x3.1 < ((x6.1.2.1 : Nat) : Int)) && Option.isSome x6.1.1) (
              .need (Option.isSome (Option.map (fun x => Addr.add x (Int.toNat x3.1 * 2)) x6.1.1)) (
              .ld (Option.map (fun x => Addr.add x 0) (Option.map (fun x => Addr.add x (Int.toNat x3.1 * 2)) x6.1.1)) ([Lf.i IntKind.i64]) (fun x7 =>
               .need (Option.isSome a0) (
               .need (Option.isSome a0) (
               .ld (Option.map (fun x => Addr.add x 3) a0) ([Lf.sl]) (fun x8 =>
                .need (decide (0 ≤ IntKind.wrap IntKind.i64 (x5.1 - 1)) && decide (IntKind.wrap IntKind.i64 (x5.1 - 1) < ((x8.1.2.1 : Nat) : Int)) && Option.isSome x8.1.1) (
                .need (Option.isSome (Option.map (fun x => Addr.add x (Int.toNat (IntKind.wrap IntKind.i64 (x5.1 - 1)) * 2)) x8.1.1)) (
                .ld (Option.map (fun x => Addr.add x 1) (Option.map (fun x => Addr.add x (Int.toNat (IntKind.wrap IntKind.i64 (x5.1 - 1)) * 2)) x8.1.1)) ([Lf.i IntKind.i64]) (fun x9 =>
                 .need (Option.isSome a0) (
                 .need (Option.isSome a0) (
                 .ld (Option.map (fun x => Addr.add x 3) a0) ([Lf.sl]) (fun x10 =>
                  .sem (Instr.buildSlice 43 1 { toList := [(0, Value.agg { toList := [Value.int IntKind.i64 (if x7.1 < a1 then x7.1 else a1), Value.int IntKind.i64 (if IntKind.wrap IntKind.i64 (IntKind.wrap IntKind.i64 (a1 + ((n2 : Nat) : Int)) - 1) < x9.1 then x9.1 else IntKind.wrap IntKind.i64 (IntKind.wrap IntKind.i64 (a1 + ((n2 : Nat) : Int)) - 1))] })] }) ([Lf.sl]) (Sh.one) (fun x11 =>
                   .keep (Option.map (fun x => Addr.add x 3) a0) ([AV.v (Value.slice x10.1.1 x10.1.2.1 x10.1.2.2)]) (
                   .call 26 ([AV.v (Value.slice x10.1.1 x10.1.2.1 x10.1.2.2), AV.v (Value.int IntKind.i64 x3.1), AV.v (Value.int IntKind.i64 x5.1), AV.v (Value.slice x11.1.1 x11.1.2.1 x11.1.2.2)]) ([]) (Sh.one) ([Lf.sl]) ([]) (fun x12 =>
                    .need (Option.isSome a0) (
                    .need (Option.isSome a0) (
                    .sto (Option.map (fun x => Addr.add x 3) a0) ([AV.v (Value.slice x12.1.1 x12.1.2.1 x12.1.2.2)]) ([]) (
                    .done (AV.tup []) ([])))))))))))))))))))))))
            else (
             .need (Option.isSome a0) (
             .need (Option.isSome a0) (
             .ld (Option.map (fun x => Addr.add x 3) a0) ([Lf.sl]) (fun x6 =>
              .sem (Instr.buildSlice 43 1 { toList := [(0, Value.agg { toList := [Value.int IntKind.i64 a1, Value.int IntKind.i64 (IntKind.wrap IntKind.i64 (IntKind.wrap IntKind.i64 (a1 + ((n2 : Nat) : Int)) - 1))] })] }) ([Lf.sl]) (Sh.one) (fun x7 =>
               .keep (Option.map (fun x => Addr.add x 3) a0) ([AV.v (Value.slice x6.1.1 x6.1.2.1 x6.1.2.2)]) (
               .call 26 ([AV.v (Value.slice x6.1.1 x6.1.2.1 x6.1.2.2), AV.v (Value.int IntKind.i64 x3.1), AV.v (Value.int IntKind.i64 x5.1), AV.v (Value.slice x7.1.1 x7.1.2.1 x7.1.2.2)]) ([]) (Sh.one) ([Lf.sl]) ([]) (fun x8 =>
                .need (Option.isSome a0) (
                .need (Option.isSome a0) (
                .sto (Option.map (fun x => Addr.add x 3) a0) ([AV.v (Value.slice x8.1.1 x8.1.2.1 x8.1.2.2)]) ([]) (
                .done (AV.tup []) ([]))))))))))))))))))))))))) := by kernel_rfl
/-! ### (*turnbuckle/reasm.Stream).Data: function 10 -/
abbrev reasm_Stream_Data.S (a0 A0_2 A0_3 : Option Addr) : Nat → Prop := fun b => blk (a0, 0, 0) b ∨ blk (A0_2, 0, 0) b ∨ blk (A0_3, 0, 0) b
def reasm_Stream_Data.F (k : Nat) (q0 : Int × Int × (List Int) × (List (Int × Int)) × Int × Bool × Bool) (a1 : Int) (l2 : List Int) (a3 : Bool) : Option (Int × (Int × Int × (List Int) × (List (Int × Int)) × Int × Bool × Bool)) := (reasm_Stream_ok.F k (some q0)).bind fun v0_0 => bif v0_0 then (bif decide (a1 < 0) then (some ((1, q0))) else (bif decide (IntKind.wrap IntKind.i64 (4611686018427387903 - ((l2.length : Nat) : Int)) < a1) then (some ((1, q0))) else (bif q0.2.2.2.2.2.2 then (some ((18, q0))) else ((reasm_Stream_Limit.F k (some q0)).bind fun v2_0 => bif decide (v2_0 < IntKind.wrap IntKind.i64 (a1 + ((l2.length : Nat) : Int))) then (some ((7, q0))) else (bif q0.2.2.2.2.2.1 then (bif decide (q0.2.2.2.2.1 < IntKind.wrap IntKind.i64 (a1 + ((l2.length : Nat) : Int))) then (some ((8, q0))) else (bif q0.2.2.2.2.2.1 then (bif a3 then (bif IntKind.wrap IntKind.i64 (a1 + ((l2.length : Nat) : Int)) != q0.2.2.2.2.1 then (some ((8, q0))) else (bif a3 then ((reasm_Stream_last.F k (some q0)).bind fun v7_0 => bif decide (IntKind.wrap IntKind.i64 (a1 + ((l2.length : Nat) : Int)) < v7_0) then (some ((8, q0))) else (bif decide ((0 : Int) ≤ ((if ((l2.length : Nat) : Int) < if IntKind.wrap IntKind.i64 (q0.2.1 - a1) < 0 then 0 else IntKind.wrap IntKind.i64 (q0.2.1 - a1) then ((l2.length : Nat) : Int) else if IntKind.wrap IntKind.i64 (q0.2.1 - a1) < 0 then 0 else IntKind.wrap IntKind.i64 (q0.2.1 - a1))) ∧ ((if ((l2.length : Nat) : Int) < if IntKind.wrap IntKind.i64 (q0.2.1 - a1) < 0 then 0 else IntKind.wrap IntKind.i64 (q0.2.1 - a1) then ((l2.length : Nat) : Int) else if IntKind.wrap IntKind.i64 (q0.2.1 - a1) < 0 then 0 else IntKind.wrap IntKind.i64 (q0.2.1 - a1))) ≤ (((l2.length : Nat) : Int)) ∧ (((l2.length : Nat) : Int)) ≤ (l2.length : Int)) then ((reasm_Stream_put.F k q0 (IntKind.wrap IntKind.i64 (a1 + if ((l2.length : Nat) : Int) < if IntKind.wrap IntKind.i64 (q0.2.1 - a1) < 0 then 0 else IntKind.wrap IntKind.i64 (q0.2.1 - a1) then ((l2.length : Nat) : Int) else if IntKind.wrap IntKind.i64 (q0.2.1 - a1) < 0 then 0 else IntKind.wrap IntKind.i64 (q0.2.1 - a1))) (((l2.drop (Int.toNat (if ((l2.length : Nat) : Int) < if IntKind.wrap IntKind.i64 (q0.2.1 - a1) < 0 then 0 else IntKind.wrap IntKind.i64 (q0.2.1 - a1) then ((l2.length : Nat) : Int) else if IntKind.wrap IntKind.i64 (q0.2.1 - a1) < 0 then 0 else IntKind.wrap IntKind.i64 (q0.2.1 - a1)))).take (Int.toNat (((l2.length : Nat) : Int)) - Int.toNat (if ((l2.length : Nat) : Int) < if IntKind.wrap IntKind.i64 (q0.2.1 - a1) < 0 then 0 else IntKind.wrap IntKind.i64 (q0.2.1 - a1) then ((l2.length : Nat) : Int) else if IntKind.wrap IntKind.i64 (q0.2.1 - a1) < 0 then 0 else IntKind.wrap IntKind.i64 (q0.2.1 - a1)))))).bind fun q9 => bif a3 then (some ((0, (q9.1, q9.2.1, q9.2.2.1, q9.2.2.2.1, (IntKind.wrap IntKind.i64 (a1 + ((l2.length : Nat) : Int))), true, q9.2.2.2.2.2.2)))) else (some ((0, q9)))) else none)) else (bif decide ((0 : Int) ≤ ((if ((l2.length : Nat) : Int) < if IntKind.wrap IntKind.i64 (q0.2.1 - a1) < 0 then 0 else IntKind.wrap IntKind.i64 (q0.2.1 - a1) then ((l2.length : Nat) : Int) else if IntKind.wrap IntKind.i64 (q0.2.1 - a1) < 0 then 0 else IntKind.wrap IntKind.i64 (q0.2.1 - a1))) ∧ ((if ((l2.length : Nat) : Int) < if IntKind.wrap IntKind.i64 (q0.2.1 - a1) < 0 then 0 else IntKind.wrap IntKind.i64 (q0.2.1 - a1) then ((l2.length : Nat) : Int) else if IntKind.wrap IntKind.i64 (q0.2.1 - a1) < 0 then 0 else IntKind.wrap IntKind.i64 (q0.2.1 - a1))) ≤ (((l2.length : Nat) : Int)) ∧ (((l2.length : Nat) : Int)) ≤ (l2.length : Int)) then ((reasm_Stream_put.F k q0 (IntKind.wrap IntKind.i64 (a1 + if ((l2.length : Nat) : Int) < if IntKind.wrap IntKind.i64 (q0.2.1 - a1) < 0 then 0 else IntKind.wrap IntKind.i64 (q0.2.1 - a1) then ((l2.length : Nat) : Int) else if IntKind.wrap IntKind.i64 (q0.2.1 - a1) < 0 then 0 else IntKind.wrap IntKind.i64 (q0.2.1 - a1))) (((l2.drop (Int.toNat (if ((l2.length : Nat) : Int) < if IntKind.wrap IntKind.i64 (q0.2.1 - a1) < 0 then 0 else IntKind.wrap IntKind.i64 (q0.2.1 - a1) then ((l2.length : Nat) : Int) else if IntKind.wrap IntKind.i64 (q0.2.1 - a1) < 0 then 0 else IntKind.wrap IntKind.i64 (q0.2.1 - a1)))).take (Int.toNat (((l2.length : Nat) : Int)) - Int.toNat (if ((l2.length : Nat) : Int) < if IntKind.wrap IntKind.i64 (q0.2.1 - a1) < 0 then 0 else IntKind.wrap IntKind.i64 (q0.2.1 - a1) then ((l2.length : Nat) : Int) else if IntKind.wrap IntKind.i64 (q0.2.1 - a1) < 0 then 0 else IntKind.wrap IntKind.i64 (q0.2.1 - a1)))))).bind fun q8 => bif a3 then (some ((0, (q8.1, q8.2.1, q8.2.2.1, q8.2.2.2.1, (IntKind.wrap IntKind.i64 (a1 + ((l2.length : Nat) : Int))), true, q8.2.2.2.2.2.2)))) else (some ((0, q8)))) else none))) else (bif a3 then ((reasm_Stream_last.F k (some q0)).bind fun v6_0 => bif decide (IntKind.wrap IntKind.i64 (a1 + ((l2.length : Nat) : Int)) < v6_0) then (some ((8, q0))) else (bif decide ((0 : Int) ≤ ((if ((l2.length : Nat) : Int) < if IntKind.wrap IntKind.i64 (q0.2.1 - a1) < 0 then 0 else IntKind.wrap IntKind.i64 (q0.2.1 - a1) then ((l2.length : Nat) : Int) else if IntKind.wrap IntKind.i64 (q0.2.1 - a1) < 0 then 0 else IntKind.wrap IntKind.i64 (q0.2.1 - a1))) ∧ ((if ((l2.length : Nat) : Int) < if IntKind.wrap IntKind.i64 (q0.2.1 - a1) < 0 then 0 else IntKind.wrap IntKind.i64 (q0.2.1 - a1) then ((l2.length : Nat) : Int) else if IntKind.wrap IntKind.i64 (q0.2.1 - a1) < 0 then 0 else IntKind.wrap IntKind.i64 (q0.2.1 - a1))) ≤ (((l2.length : Nat) : Int)) ∧ (((l2.length : Nat) : Int)) ≤ (l2.length : Int)) then ((reasm_Stream_put.F k q0 (IntKind.wrap IntKind.i64 (a1 + if ((l2.length : Nat) : Int) < if IntKind.wrap IntKind.i64 (q0.2.1 - a1) < 0 then 0 else IntKind.wrap IntKind.i64 (q0.2.1 - a1) then ((l2.length : Nat) : Int) else if IntKind.wrap IntKind.i64 (q0.2.1 - a1) < 0 then 0 else IntKind.wrap IntKind.i64 (q0.2.1 - a1))) (((l2.drop (Int.toNat (if ((l2.length : Nat) : Int) < if IntKind.wrap IntKind.i64 (q0.2.1 - a1) < 0 then 0 else IntKind.wrap IntKind.i64 (q0.2.1 - a1) then ((l2.length : Nat) : Int) else if IntKind.wrap IntKind.i64 (q0.2.1 - a1) < 0 then 0 else IntKind.wrap IntKind.i64 (q0.2.1 - a1)))).take (Int.toNat (((l2.length : Nat) : Int)) - Int.toNat (if ((l2.length : Nat) : Int) < if IntKind.wrap IntKind.i64 (q0.2.1 - a1) < 0 then 0 else IntKind.wrap IntKind.i64 (q0.2.1 - a1) then ((l2.length : Nat) : Int) else if IntKind.wrap IntKind.i64 (q0.2.1 - a1) < 0 then 0 else IntKind.wrap IntKind.i64 (q0.2.1 - a1)))))).bind fun q8 => bif a3 then (some ((0, (q8.1, q8.2.1, q8.2.2.1, q8.2.2.2.1, (IntKind.wrap IntKind.i64 (a1 + ((l2.length : Nat) : Int))), true, q8.2.2.2.2.2.2)))) else (some ((0, q8)))) else none)) else (bif decide ((0 : Int) ≤ ((if ((l2.length : Nat) : Int) < if IntKind.wrap IntKind.i64 (q0.2.1 - a1) < 0 then 0 else IntKind.wrap IntKind.i64 (q0.2.1 - a1) then ((l2.length : Nat) : Int) else if IntKind.wrap IntKind.i64 (q0.2.1 - a1) < 0 then 0 else IntKind.wrap IntKind.i64 (q0.2.1 - a1))) ∧ ((if ((l2.length : Nat) : Int) < if IntKind.wrap IntKind.i64 (q0.2.1 - a1) < 0 then 0 else IntKind.wrap IntKind.i64 (q0.2.1 - a1) then ((l2.length : Nat) : Int) else if IntKind.wrap IntKind.i64 (q0.2.1 - a1) < 0 then 0 else IntKind.wrap IntKind.i64 (q0.2.1 - a1))) ≤ (((l2.length : Nat) : Int)) ∧ (((l2.length : Nat) : Int)) ≤ (l2.length : Int)) then ((reasm_Stream_put.F k q0 (IntKind.wrap IntKind.i64 (a1 + if ((l2.length : Nat) : Int) < if IntKind.wrap IntKind.i64 (q0.2.1 - a1) < 0 then 0 else IntKind.wrap IntKind.i64 (q0.2.1 - a1) then ((l2.length : Nat) : Int) else if IntKind.wrap IntKind.i64 (q0.2.1 - a1) < 0 then 0 else IntKind.wrap IntKind.i64 (q0.2.1 - a1))) (((l2.drop (Int.toNat (if ((l2.length : Nat) : Int) < if IntKind.wrap IntKind.i64 (q0.2.1 - a1) < 0 then 0 else IntKind.wrap IntKind.i64 (q0.2.1 - a1) then ((l2.length : Nat) : Int) else if IntKind.wrap IntKind.i64 (q0.2.1 - a1) < 0 then 0 else IntKind.wrap IntKind.i64 (q0.2.1 - a1)))).take (Int.toNat (((l2.length : Nat) : Int)) - Int.toNat (if ((l2.length : Nat) : Int) < if IntKind.wrap IntKind.i64 (q0.2.1 - a1) < 0 then 0 else IntKind.wrap IntKind.i64 (q0.2.1 - a1) then ((l2.length : Nat) : Int) else if IntKind.wrap IntKind.i64 (q0.2.1 - a1) < 0 then 0 else IntKind.wrap IntKind.i64 (q0.2.1 - a1)))))).bind fun q7 => bif a3 then (some ((0, (q7.1, q7.2.1, q7.2.2.1, q7.2.2.2.1, (IntKind.wrap IntKind.i64 (a1 + ((l2.length : Nat) : Int))), true, q7.2.2.2.2.2.2)))) else (some ((0, q7)))) else none))) else (bif a3 then ((reasm_Stream_last.F k (some q0)).bind fun v6_0 => bif decide (IntKind.wrap IntKind.i64 (a1 + ((l2.length : Nat) : Int)) < v6_0) then (some ((8, q0))) else (bif decide ((0 : Int) ≤ ((if ((l2.length : Nat) : Int) < if IntKind.wrap IntKind.i64 (q0.2.1 - a1) < 0 then 0 else IntKind.wrap IntKind.i64 (q0.2.1 - a1) then ((l2.length : Nat) : Int) else if IntKind.wrap IntKind.i64 (q0.2.1 - a1) < 0 then 0 else IntKind.wrap IntKind.i64 (q0.2.1 - a1))) ∧ ((if ((l2.length : Nat) : Int) < if IntKind.wrap IntKind.i64 (q0.2.1 - a1) < 0 then 0 else IntKind.wrap IntKind.i64 (q0.2.1 - a1) then ((l2.length : Nat) : Int) else if IntKind.wrap IntKind.i64 (q0.2.1 - a1) < 0 then 0 else IntKind.wrap IntKind.i64 (q0.2.1 - a1))) ≤ (((l2.length : Nat) : Int)) ∧ (((l2.length : Nat) : Int)) ≤ (l2.length : Int)) then ((reasm_Stream_put.F k q0 (IntKind.wrap IntKind.i64 (a1 + if ((l2.length : Nat) : Int) < if IntKind.wrap IntKind.i64 (q0.2.1 - a1) < 0 then 0 else IntKind.wrap IntKind.i64 (q0.2.1 - a1) then ((l2.length : Nat) : Int) else if IntKind.wrap IntKind.i64 (q0.2.1 - a1) < 0 then 0 else IntKind.wrap IntKind.i64 (q0.2.1 - a1))) (((l2.drop (Int.toNat (if ((l2.length : Nat) : Int) < if IntKind.wrap IntKind.i64 (q0.2.1 - a1) < 0 then 0 else IntKind.wrap IntKind.i64 (q0.2.1 - a1) then ((l2.length : Nat) : Int) else if IntKind.wrap IntKind.i64 (q0.2.1 - a1) < 0 then 0 else IntKind.wrap IntKind.i64 (q0.2.1 - a1)))).take (Int.toNat (((l2.length : Nat) : Int)) - Int.toNat (if ((l2.length : Nat) : Int) < if IntKind.wrap IntKind.i64 (q0.2.1 - a1) < 0 then 0 else IntKind.wrap IntKind.i64 (q0.2.1 - a1) then ((l2.length : Nat) : Int) else if IntKind.wrap IntKind.i64 (q0.2.1 - a1) < 0 then 0 else IntKind.wrap IntKind.i64 (q0.2.1 - a1)))))).bind fun q8 => bif a3 then (some ((0, (q8.1, q8.2.1, q8.2.2.1, q8.2.2.2.1, (IntKind.wrap IntKind.i64 (a1 + ((l2.length : Nat) : Int))), true, q8.2.2.2.2.2.2)))) else (some ((0, q8)))) else none)) else (bif decide ((0 : Int) ≤ ((if ((l2.length : Nat) : Int) < if IntKind.wrap IntKind.i64 (q0.2.1 - a1) < 0 then 0 else IntKind.wrap IntKind.i64 (q0.2.1 - a1) then ((l2.length : Nat) : Int) else if IntKind.wrap IntKind.i64 (q0.2.1 - a1) < 0 then 0 else IntKind.wrap IntKind.i64 (q0.2.1 - a1))) ∧ ((if ((l2.length : Nat) : Int) < if IntKind.wrap IntKind.i64 (q0.2.1 - a1) < 0 then 0 else IntKind.wrap IntKind.i64 (q0.2.1 - a1) then ((l2.length : Nat) : Int) else if IntKind.wrap IntKind.i64 (q0.2.1 - a1) < 0 then 0 else IntKind.wrap IntKind.i64 (q0.2.1 - a1))) ≤ (((l2.length : Nat) : Int)) ∧ (((l2.length : Nat) : Int)) ≤ (l2.length : Int)) then ((reasm_Stream_put.F k q0 (IntKind.wrap IntKind.i64 (a1 + if ((l2.length : Nat) : Int) < if IntKind.wrap IntKind.i64 (q0.2.1 - a1) < 0 then 0 else IntKind.wrap IntKind.i64 (q0.2.1 - a1) then ((l2.length : Nat) : Int) else if IntKind.wrap IntKind.i64 (q0.2.1 - a1) < 0 then 0 else IntKind.wrap IntKind.i64 (q0.2.1 - a1))) (((l2.drop (Int.toNat (if ((l2.length : Nat) : Int) < if IntKind.wrap IntKind.i64 (q0.2.1 - a1) < 0 then 0 else IntKind.wrap IntKind.i64 (q0.2.1 - a1) then ((l2.length : Nat) : Int) else if IntKind.wrap IntKind.i64 (q0.2.1 - a1) < 0 then 0 else IntKind.wrap IntKind.i64 (q0.2.1 - a1)))).take (Int.toNat (((l2.length : Nat) : Int)) - Int.toNat (if ((l2.length : Nat) : Int) < if IntKind.wrap IntKind.i64 (q0.2.1 - a1) < 0 then 0 else IntKind.wrap IntKind.i64 (q0.2.1 - a1) then ((l2.length : Nat) : Int) else if IntKind.wrap IntKind.i64 (q0.2.1 - a1) < 0 then 0 else IntKind.wrap IntKind.i64 (q0.2.1 - a1)))))).bind fun q7 => bif a3 then (some ((0, (q7.1, q7.2.1, q7.2.2.1, q7.2.2.2.1, (IntKind.wrap IntKind.i64 (a1 + ((l2.length : Nat) : Int))), true, q7.2.2.2.2.2.2)))) else (some ((0, q7)))) else none)))) else (bif q0.2.2.2.2.2.1 then (bif a3 then (bif IntKind.wrap IntKind.i64 (a1 + ((l2.length : Nat) : Int)) != q0.2.2.2.2.1 then (some ((8, q0))) else (bif a3 then ((reasm_Stream_last.F k (some q0)).bind fun v6_0 => bif decide (IntKind.wrap IntKind.i64 (a1 + ((l2.length : Nat) : Int)) < v6_0) then (some ((8, q0))) else (bif decide ((0 : Int) ≤ ((if ((l2.length : Nat) : Int) < if IntKind.wrap IntKind.i64 (q0.2.1 - a1) < 0 then 0 else IntKind.wrap IntKind.i64 (q0.2.1 - a1) then ((l2.length : Nat) : Int) else if IntKind.wrap IntKind.i64 (q0.2.1 - a1) < 0 then 0 else IntKind.wrap IntKind.i64 (q0.2.1 - a1))) ∧ ((if ((l2.length : Nat) : Int) < if IntKind.wrap IntKind.i64 (q0.2.1 - a1) < 0 then 0 else IntKind.wrap IntKind.i64 (q0.2.1 - a1) then ((l2.length : Nat) : Int) else if IntKind.wrap IntKind.i64 (q0.2.1 - a1) < 0 then 0 else IntKind.wrap IntKind.i64 (q0.2.1 - a1))) ≤ (((l2.length : Nat) : Int)) ∧ (((l2.length : Nat) : Int)) ≤ (l2.length : Int)) then ((reasm_Stream_put.F k q0 (IntKind.wrap IntKind.i64 (a1 + if ((l2.length : Nat) : Int) < if IntKind.wrap IntKind.i64 (q0.2.1 - a1) < 0 then 0 else IntKind.wrap IntKind.i64 (q0.2.1 - a1) then ((l2.length : Nat) : Int) else if IntKind.wrap IntKind.i64 (q0.2.1 - a1) < 0 then 0 else IntKind.wrap IntKind.i64 (q0.2.1 - a1))) (((l2.drop (Int.toNat (if ((l2.length : Nat) : Int) < if IntKind.wrap IntKind.i64 (q0.2.1 - a1) < 0 then 0 else IntKind.wrap IntKind.i64 (q0.2.1 - a1) then ((l2.length : Nat) : Int) else if IntKind.wrap IntKind.i64 (q0.2.1 - a1) < 0 then 0 else IntKind.wrap IntKind.i64 (q0.2.1 - a1)))).take (Int.toNat (((l2.length : Nat) : Int)) - Int.toNat (if ((l2.length : Nat) : Int) < if IntKind.wrap IntKind.i64 (q0.2.1 - a1) < 0 then 0 else IntKind.wrap IntKind.i64 (q0.2.1 - a1) then ((l2.length : Nat) : Int) else if IntKind.wrap IntKind.i64 (q0.2.1 - a1) < 0 then 0 else IntKind.wrap IntKind.i64 (q0.2.1 - a1)))))).bind fun q8 => bif a3 then (some ((0, (q8.1, q8.2.1, q8.2.2.1, q8.2.2.2.1, (IntKind.wrap IntKind.i64 (a1 + ((l2.length : Nat) : Int))), true, q8.2.2.2.2.2.2)))) else (some ((0, q8)))) else none)) else (bif decide ((0 : Int) ≤ ((if ((l2.length : Nat) : Int) < if IntKind.wrap IntKind.i64 (q0.2.1 - a1) < 0 then 0 else IntKind.wrap IntKind.i64 (q0.2.1 - a1) then ((l2.length : Nat) : Int) else if IntKind.wrap IntKind.i64 (q0.2.1 - a1) < 0 then 0 else IntKind.wrap IntKind.i64 (q0.2.1 - a1))) ∧ ((if ((l2.length : Nat) : Int) < if IntKind.wrap IntKind.i64 (q0.2.1 - a1) < 0 then 0 else IntKind.wrap IntKind.i64 (q0.2.1 - a1) then ((l2.length : Nat) : Int) else if IntKind.wrap IntKind.i64 (q0.2.1 - a1) < 0 then 0 else IntKind.wrap IntKind.i64 (q0.2.1 - a1))) ≤ (((l2.length : Nat) : Int)) ∧ (((l2.length : Nat) : Int)) ≤ (l2.length : Int)) then ((reasm_Stream_put.F k q0 (IntKind.wrap IntKind.i64 (a1 + if ((l2.length : Nat) : Int) < if IntKind.wrap IntKind.i64 (q0.2.1 - a1) < 0 then 0 else IntKind.wrap IntKind.i64 (q0.2.1 - a1) then ((l2.length : Nat) : Int) else if IntKind.wrap IntKind.i64 (q0.2.1 - a1) < 0 then 0 else IntKind.wrap IntKind.i64 (q0.2.1 - a1))) (((l2.drop (Int.toNat (if ((l2.length : Nat) : Int) < if IntKind.wrap IntKind.i64 (q0.2.1 - a1) < 0 then 0 else IntKind.wrap IntKind.i64 (q0.2.1 - a1) then ((l2.length : Nat) : Int) else if IntKind.wrap IntKind.i64 (q0.2.1 - a1) < 0 then 0 else IntKind.wrap IntKind.i64 (q0.2.1 - a1)))).take (Int.toNat (((l2.length : Nat) : Int)) - Int.toNat (if ((l2.length : Nat) : Int) < if IntKind.wrap IntKind.i64 (q0.2.1 - a1) < 0 then 0 else IntKind.wrap IntKind.i64 (q0.2.1 - a1) then ((l2.length : Nat) : Int) else if IntKind.wrap IntKind.i64 (q0.2.1 - a1) < 0 then 0 else IntKind.wrap IntKind.i64 (q0.2.1 - a1)))))).bind fun q7 => bif a3 then (some ((0, (q7.1, q7.2.1, q7.2.2.1, q7.2.2.2.1, (IntKind.wrap IntKind.i64 (a1 + ((l2.length : Nat) : Int))), true, q7.2.2.2.2.2.2)))) else (some ((0, q7)))) else none))) else (bif a3 then ((reasm_Stream_last.F k (some q0)).bind fun v5_0 => bif decide (IntKind.wrap IntKind.i64 (a1 + ((l2.length : Nat) : Int)) < v5_0) then (some ((8, q0))) else (bif decide ((0 : Int) ≤ ((if ((l2.length : Nat) : Int) < if IntKind.wrap IntKind.i64 (q0.2.1 - a1) < 0 then 0 else IntKind.wrap IntKind.i64 (q0.2.1 - a1) then ((l2.length : Nat) : Int) else if IntKind.wrap IntKind.i64 (q0.2.1 - a1) < 0 then 0 else IntKind.wrap IntKind.i64 (q0.2.1 - a1))) ∧ ((if ((l2.length : Nat) : Int) < if IntKind.wrap IntKind.i64 (q0.2.1 - a1) < 0 then 0 else IntKind.wrap IntKind.i64 (q0.2.1 - a1) then ((l2.length : Nat) : Int) else if IntKind.wrap IntKind.i64 (q0.2.1 - a1) < 0 then 0 else IntKind.wrap IntKind.i64 (q0.2.1 - a1))) ≤ (((l2.length : Nat) : Int)) ∧ (((l2.length : Nat) : Int)) ≤ (l2.length : Int)) then ((reasm_Stream_put.F k q0 (IntKind.wrap IntKind.i64 (a1 + if ((l2.length : Nat) : Int) < if IntKind.wrap IntKind.i64 (q0.2.1 - a1) < 0 then 0 else IntKind.wrap IntKind.i64 (q0.2.1 - a1) then ((l2.length : Nat) : Int) else if IntKind.wrap IntKind.i64 (q0.2.1 - a1) < 0 then 0 else IntKind.wrap IntKind.i64 (q0.2.1 - a1))) (((l2.drop (Int.toNat (if ((l2.length : Nat) : Int) < if IntKind.wrap IntKind.i64 (q0.2.1 - a1) < 0 then 0 else IntKind.wrap IntKind.i64 (q0.2.1 - a1) then ((l2.length : Nat) : Int) else if IntKind.wrap IntKind.i64 (q0.2.1 - a1) < 0 then 0 else IntKind.wrap IntKind.i64 (q0.2.1 - a1)))).take (Int.toNat (((l2.length : Nat) : Int)) - Int.toNat (if ((l2.length : Nat) : Int) < if IntKind.wrap IntKind.i64 (q0.2.1 - a1) < 0 then 0 else IntKind.wrap IntKind.i64 (q0.2.1 - a1) then ((l2.length : Nat) : Int) else if IntKind.wrap IntKind.i64 (q0.2.1 - a1) < 0 then 0 else IntKind.wrap IntKind.i64 (q0.2.1 - a1)))))).bind fun q7 => bif a3 then (some ((0, (q7.1, q7.2.1, q7.2.2.1, q7.2.2.2.1, (IntKind.wrap IntKind.i64 (a1 + ((l2.length : Nat) : Int))), true, q7.2.2.2.2.2.2)))) else (some ((0, q7)))) else none)) else (bif decide ((0 : Int) ≤ ((if ((l2.length : Nat) : Int) < if IntKind.wrap IntKind.i64 (q0.2.1 - a1) < 0 then 0 else IntKind.wrap IntKind.i64 (q0.2.1 - a1) then ((l2.length : Nat) : Int) else if IntKind.wrap IntKind.i64 (q0.2.1 - a1) < 0 then 0 else IntKind.wrap IntKind.i64 (q0.2.1 - a1))) ∧ ((if ((l2.length : Nat) : Int) < if IntKind.wrap IntKind.i64 (q0.2.1 - a1) < 0 then 0 else IntKind.wrap IntKind.i64 (q0.2.1 - a1) then ((l2.length : Nat) : Int) else if IntKind.wrap IntKind.i64 (q0.2.1 - a1) < 0 then 0 else IntKind.wrap IntKind.i64 (q0.2.1 - a1))) ≤ (((l2.length : Nat) : Int)) ∧ (((l2.length : Nat) : Int)) ≤ (l2.length : Int)) then ((reasm_Stream_put.F k q0 (IntKind.wrap IntKind.i64 (a1 + if ((l2.length : Nat) : Int) < if IntKind.wrap IntKind.i64 (q0.2.1 - a1) < 0 then 0 else IntKind.wrap IntKind.i64 (q0.2.1 - a1) then ((l2.length : Nat) : Int) else if IntKind.wrap IntKind.i64 (q0.2.1 - a1) < 0 then 0 else IntKind.wrap IntKind.i64 (q0.2.1 - a1))) (((l2.drop (Int.toNat (if ((l2.length : Nat) : Int) < if IntKind.wrap IntKind.i64 (q0.2.1 - a1) < 0 then 0 else IntKind.wrap IntKind.i64 (q0.2.1 - a1) then ((l2.length : Nat) : Int) else if IntKind.wrap IntKind.i64 (q0.2.1 - a1) < 0 then 0 else IntKind.wrap IntKind.i64 (q0.2.1 - a1)))).take (Int.toNat (((l2.length : Nat) : Int)) - Int.toNat (if ((l2.length : Nat) : Int) < if IntKind.wrap IntKind.i64 (q0.2.1 - a1) < 0 then 0 else IntKind.wrap IntKind.i64 (q0.2.1 - a1) then ((l2.length : Nat) : Int) else if IntKind.wrap IntKind.i64 (q0.2.1 - a1) < 0 then 0 else IntKind.wrap IntKind.i64 (q0.2.1 - a1)))))).bind fun q6 => bif a3 then (some ((0, (q6.1, q6.2.1, q6.2.2.1, q6.2.2.2.1, (IntKind.wrap IntKind.i64 (a1 + ((l2.length : Nat) : Int))), true, q6.2.2.2.2.2.2)))) else (some ((0, q6)))) else none))) else (bif a3 then ((reasm_Stream_last.F k (some q0)).bind fun v5_0 => bif decide (IntKind.wrap IntKind.i64 (a1 + ((l2.length : Nat) : Int)) < v5_0) then (some ((8, q0))) else (bif decide ((0 : Int) ≤ ((if ((l2.length : Nat) : Int) < if IntKind.wrap IntKind.i64 (q0.2.1 - a1) < 0 then 0 else IntKind.wrap IntKind.i64 (q0.2.1 - a1) then ((l2.length : Nat) : Int) else if IntKind.wrap IntKind.i64 (q0.2.1 - a1) < 0 then 0 else IntKind.wrap IntKind.i64 (q0.2.1 - a1))) ∧ ((if ((l2.length : Nat) : Int) < if IntKind.wrap IntKind.i64 (q0.2.1 - a1) < 0 then 0 else IntKind.wrap IntKind.i64 (q0.2.1 - a1) then ((l2.length : Nat) : Int) else if IntKind.wrap IntKind.i64 (q0.2.1 - a1) < 0 then 0 else IntKind.wrap IntKind.i64 (q0.2.1 - a1))) ≤ (((l2.length : Nat) : Int)) ∧ (((l2.length : Nat) : Int)) ≤ (l2.length : Int)) then ((reasm_Stream_put.F k q0 (IntKind.wrap IntKind.i64 (a1 + if ((l2.length : Nat) : Int) < if IntKind.wrap IntKind.i64 (q0.2.1 - a1) < 0 then 0 else IntKind.wrap IntKind.i64 (q0.2.1 - a1) then ((l2.length : Nat) : Int) else if IntKind.wrap IntKind.i64 (q0.2.1 - a1) < 0 then 0 else IntKind.wrap IntKind.i64 (q0.2.1 - a1))) (((l2.drop (Int.toNat (if ((l2.length : Nat) : Int) < if IntKind.wrap IntKind.i64 (q0.2.1 - a1) < 0 then 0 else IntKind.wrap IntKind.i64 (q0.2.1 - a1) then ((l2.length : Nat) : Int) else if IntKind.wrap IntKind.i64 (q0.2.1 - a1) < 0 then 0 else IntKind.wrap IntKind.i64 (q0.2.1 - a1)))).take (Int.toNat (((l2.length : Nat) : Int)) - Int.toNat (if ((l2.length : Nat) : Int) < if IntKind.wrap IntKind.i64 (q0.2.1 - a1) < 0 then 0 else IntKind.wrap IntKind.i64 (q0.2.1 - a1) then ((l2.length : Nat) : Int) else if IntKind.wrap IntKind.i64 (q0.2.1 - a1) < 0 then 0 else IntKind.wrap IntKind.i64 (q0.2.1 - a1)))))).bind fun q7 => bif a3 then (some ((0, (q7.1, q7.2.1, q7.2.2.1, q7.2.2.2.1, (IntKind.wrap IntKind.i64 (a1 + ((l2.length : Nat) : Int))), true, q7.2.2.2.2.2.2)))) else (some ((0, q7)))) else none)) else (bif decide ((0 : Int) ≤ ((if ((l2.length : Nat) : Int) < if IntKind.wrap IntKind.i64 (q0.2.1 - a1) < 0 then 0 else IntKind.wrap IntKind.i64 (q0.2.1 - a1) then ((l2.length : Nat) : Int) else if IntKind.wrap IntKind.i64 (q0.2.1 - a1) < 0 then 0 else IntKind.wrap IntKind.i64 (q0.2.1 - a1))) ∧ ((if ((l2.length : Nat) : Int) < if IntKind.wrap IntKind.i64 (q0.2.1 - a1) < 0 then 0 else IntKind.wrap IntKind.i64 (q0.2.1 - a1) then ((l2.length : Nat) : Int) else if IntKind.wrap IntKind.i64 (q0.2.1 - a1) < 0 then 0 else IntKind.wrap IntKind.i64 (q0.2.1 - a1))) ≤ (((l2.length : Nat) : Int)) ∧ (((l2.length : Nat) : Int)) ≤ (l2.length : Int)) then ((reasm_Stream_put.F k q0 (IntKind.wrap IntKind.i64 (a1 + if ((l2.length : Nat) : Int) < if IntKind.wrap IntKind.i64 (q0.2.1 - a1) < 0 then 0 else IntKind.wrap IntKind.i64 (q0.2.1 - a1) then ((l2.length : Nat) : Int) else if IntKind.wrap IntKind.i64 (q0.2.1 - a1) < 0 then 0 else IntKind.wrap IntKind.i64 (q0.2.1 - a1))) (((l2.drop (Int.toNat (if ((l2.length : Nat) : Int) < if IntKind.wrap IntKind.i64 (q0.2.1 - a1) < 0 then 0 else IntKind.wrap IntKind.i64 (q0.2.1 - a1) then ((l2.length : Nat) : Int) else if IntKind.wrap IntKind.i64 (q0.2.1 - a1) < 0 then 0 else IntKind.wrap IntKind.i64 (q0.2.1 - a1)))).take (Int.toNat (((l2.length : Nat) : Int)) - Int.toNat (if ((l2.length : Nat) : Int) < if IntKind.wrap IntKind.i64 (q0.2.1 - a1) < 0 then 0 else IntKind.wrap IntKind.i64 (q0.2.1 - a1) then ((l2.length : Nat) : Int) else if IntKind.wrap IntKind.i64 (q0.2.1 - a1) < 0 then 0 else IntKind.wrap IntKind.i64 (q0.2.1 - a1)))))).bind fun q6 => bif a3 then (some ((0, (q6.1, q6.2.1, q6.2.2.1, q6.2.2.2.1, (IntKind.wrap IntKind.i64 (a1 + ((l2.length : Nat) : Int))), true, q6.2.2.2.2.2.2)))) else (some ((0, q6)))) else none)))))))) else (some ((2, q0)))
abbrev reasm_Stream_Data.A : Nat → LA := noA
set_option maxHeartbeats 4000000 in
theorem reasm_Stream_Data.t (a0 : Option Addr) (a1 : Int) (A2 : Option Addr) (n2 c2 : Nat) (a3 : Bool) : tree Try.prog reasm_Stream_Data.A noC Try.f10 [AV.v (Value.pointer a0), AV.v (Value.int IntKind.i64 a1), AV.v (Value.slice A2 n2 c2), AV.v (Value.bool a3)] [] =
  .call 21 ([AV.v (Value.pointer a0)]) ([]) (Sh.one) ([Lf.b]) ([]) (fun x0 =>
   bif x0.1 then (
    bif decide (a1 < 0) then (
     .done (AV.v (Value.int IntKind.i64 1)) ([]))
    else (
     bif decide (IntKind.wrap IntKind.i64 (4611686018427387903 - ((n2 : Nat) : Int)) < a1) then (
      .done (AV.v (Value.int IntKind.i64 1)) ([]))
     else (
      .need (Option.isSome a0) (
      .need (Option.isSome a0) (
      .ld (Option.map (fun x => Addr.add x 6) a0) ([Lf.b]) (fun x1 =>
       bif x1.1 then (
        .done (AV.v (Value.int IntKind.i64 18)) ([]))
       else (
        .call 18 ([AV.v (Value.pointer a0)]) ([]) (Sh.one) ([Lf.i IntKind.i64]) ([]) (fun x2 =>
         bif decide (x2.1 < IntKind.wrap IntKind.i64 (a1 + ((n2 : Nat) : Int))) then (
          .done (AV.v (Value.int IntKind.i64 7)) ([]))
         else (
          .need (Option.isSome a0) (
          .need (Option.isSome a0) (
          .ld (Option.map (fun x => Addr.add x 5) a0) ([Lf.b]) (fun x3 =>
           bif x3.1 then (
            .need (Option.isSome a0) (
            .need (Option.isSome a0) (
            .ld (Option.map (fun x => Addr.add x 4) a0) ([Lf.i IntKind.i64]) (fun x4 =>
             bif decide (x4.1 < IntKind.wrap IntKind.i64 (a1 + ((n2 : Nat) : Int))) then (
              .done (AV.v (Value.int IntKind.i64 8)) ([]))
             else (
              .need (Option.isSome a0) (
              .need (Option.isSome a0) (
              .ld (Option.map (fun x => Addr.add x 5) a0) ([Lf.b]) (fun x5 =>
               bif x5.1 then (
                bif a3 then (
                 .need (Option.isSome a0) (
                 .need (Option.isSome a0) (
                 .ld (Option.map (fun x => Addr.add x 4) a0) ([Lf.i IntKind.i64]) (fun x6 =>
                  bif IntKind.wrap IntKind.i64 (a1 + ((n2 : Nat) : Int)) != x6.1 then (
                   .done (AV.v (Value.int IntKind.i64 8)) ([]))
                  else (
                   bif a3 then (
                    .call 22 ([AV.v (Value.pointer a0)]) ([]) (Sh.one) ([Lf.i IntKind.i64]) ([]) (fun x7 =>
                     bif decide (IntKind.wrap IntKind.i64 (a1 + ((n2 : Nat) : Int)) < x7.1) then (
                      .done (AV.v (Value.int IntKind.i64 8)) ([]))
                     else (
                      .need (Option.isSome a0) (
                      .need (Option.isSome a0) (
                      .ld (Option.map (fun x => Addr.add x 1) a0) ([Lf.i IntKind.i64]) (fun x8 =>
                       .need (decide (0 ≤ if ((n2 : Nat) : Int) < if IntKind.wrap IntKind.i64 (x8.1 - a1) < 0 then 0 else IntKind.wrap IntKind.i64 (x8.1 - a1) then ((n2 : Nat) : Int) else if IntKind.wrap IntKind.i64 (x8.1 - a1) < 0 then 0 else IntKind.wrap IntKind.i64 (x8.1 - a1)) && decide ((if ((n2 : Nat) : Int) < if IntKind.wrap IntKind.i64 (x8.1 - a1) < 0 then 0 else IntKind.wrap IntKind.i64 (x8.1 - a1) then ((n2 : Nat) : Int) else if IntKind.wrap IntKind.i64 (x8.1 - a1) < 0 then 0 else IntKind.wrap IntKind.i64 (x8.1 - a1)) ≤ ((n2 : Nat) : Int)) && decide (((n2 : Nat) : Int) ≤ ((n2 : Nat) : Int))) (
                       .call 23 ([AV.v (Value.pointer a0), AV.v (Value.int IntKind.i64 (IntKind.wrap IntKind.i64 (a1 + if ((n2 : Nat) : Int) < if IntKind.wrap IntKind.i64 (x8.1 - a1) < 0 then 0 else IntKind.wrap IntKind.i64 (x8.1 - a1) then ((n2 : Nat) : Int) else if IntKind.wrap IntKind.i64 (x8.1 - a1) < 0 then 0 else IntKind.wrap IntKind.i64 (x8.1 - a1)))), AV.v (Value.slice (if ((c2 : Nat) : Int) = if ((n2 : Nat) : Int) < if IntKind.wrap IntKind.i64 (x8.1 - a1) < 0 then 0 else IntKind.wrap IntKind.i64 (x8.1 - a1) then ((n2 : Nat) : Int) else if IntKind.wrap IntKind.i64 (x8.1 - a1) < 0 then 0 else IntKind.wrap IntKind.i64 (x8.1 - a1) then A2 else Option.map (fun x => Addr.add x (Int.toNat (if ((n2 : Nat) : Int) < if IntKind.wrap IntKind.i64 (x8.1 - a1) < 0 then 0 else IntKind.wrap IntKind.i64 (x8.1 - a1) then ((n2 : Nat) : Int) else if IntKind.wrap IntKind.i64 (x8.1 - a1) < 0 then 0 else IntKind.wrap IntKind.i64 (x8.1 - a1)) * 1)) A2) (Int.toNat ((n2 : Nat) : Int) - Int.toNat (if ((n2 : Nat) : Int) < if IntKind.wrap IntKind.i64 (x8.1 - a1) < 0 then 0 else IntKind.wrap IntKind.i64 (x8.1 - a1) then ((n2 : Nat) : Int) else if IntKind.wrap IntKind.i64 (x8.1 - a1) < 0 then 0 else IntKind.wrap IntKind.i64 (x8.1 - a1))) (c2 - Int.toNat (if ((n2 : Nat) : Int) < if IntKind.wrap IntKind.i64 (x8.1 - a1) < 0 then 0 else IntKind.wrap IntKind.i64 (x8.1 - a1) then ((n2 : Nat) : Int) else if IntKind.wrap IntKind.i64 (x8.1 - a1) < 0 then 0 else IntKind.wrap IntKind.i64 (x8.1 - a1))))]) ([]) (Sh.tup []) ([]) ([]) (fun x9 =>
                        bif a3 then (
                         .need (Option.isSome a0) (
                         .need (Option.isSome a0) (
                         .sto (Option.map (fun x => Addr.add x 4) a0) ([AV.v (Value.int IntKind.i64 (IntKind.wrap IntKind.i64 (a1 + ((n2 : Nat) : Int))))]) ([]) (
                         .need (Option.isSome a0) (
                         .need (Option.isSome a0) (
                         .sto (Option.map (fun x => Addr.add x 5) a0) ([AV.v (Value.bool true)]) ([]) (
                         .done (AV.v (Value.int IntKind.i64 0)) ([]))))))))
                        else (
                         .done (AV.v (Value.int IntKind.i64 0)) ([]))))))))))
                   else (
                    .need (Option.isSome a0) (
                    .need (Option.isSome a0) (
                    .ld (Option.map (fun x => Addr.add x 1) a0) ([Lf.i IntKind.i64]) (fun x7 =>
                     .need (decide (0 ≤ if ((n2 : Nat) : Int) < if IntKind.wrap IntKind.i64 (x7.1 - a1) < 0 then 0 else IntKind.wrap IntKind.i64 (x7.1 - a1) then ((n2 : Nat) : Int) else if IntKind.wrap IntKind.i64 (x7.1 - a1) < 0 then 0 else IntKind.wrap IntKind.i64 (x7.1 - a1)) && decide ((if ((n2 : Nat) : Int) < if IntKind.wrap IntKind.i64 (x7.1 - a1) < 0 then 0 else IntKind.wrap IntKind.i64 (x7.1 - a1) then ((n2 : Nat) : Int) else if IntKind.wrap IntKind.i64 (x7.1 - a1) < 0 then 0 else IntKind.wrap IntKind.i64 (x7.1 - a1)) ≤ ((n2 : Nat) : Int)) && decide (((n2 : Nat) : Int) ≤ ((n2 : Nat) : Int))) (
                     .call 23 ([AV.v (Value.pointer a0), AV.v (Value.int IntKind.i64 (IntKind.wrap IntKind.i64 (a1 + if ((n2 : Nat) : Int) < if IntKind.wrap IntKind.i64 (x7.1 - a1) < 0 then 0 else IntKind.wrap IntKind.i64 (x7.1 - a1) then ((n2 : Nat) : Int) else if IntKind.wrap IntKind.i64 (x7.1 - a1) < 0 then 0 else IntKind.wrap IntKind.i64 (x7.1 - a1)))), AV.v (Value.slice (if ((c2 : Nat) : Int) = if ((n2 : Nat) : Int) < if IntKind.wrap IntKind.i64 (x7.1 - a1) < 0 then 0 else IntKind.wrap IntKind.i64 (x7.1 - a1) then ((n2 : Nat) : Int) else if IntKind.wrap IntKind.i64 (x7.1 - a1) < 0 then 0 else IntKind.wrap IntKind.i64 (x7.1 - a1) then A2 else Option.map (fun x => Addr.add x (Int.toNat (if ((n2 : Nat) : Int) < if IntKind.wrap IntKind.i64 (x7.1 - a1) < 0 then 0 else IntKind.wrap IntKind.i64 (x7.1 - a1) then ((n2 : Nat) : Int) else if IntKind.wrap IntKind.i64 (x7.1 - a1) < 0 then 0 else IntKind.wrap IntKind.i64 (x7.1 - a1)) * 1)) A2) (Int.toNat ((n2 : Nat) : Int) - Int.toNat (if ((n2 : Nat) : Int) < if IntKind.wrap IntKind.i64 (x7.1 - a1) < 0 then 0 else IntKind.wrap IntKind.i64 (x7.1 - a1) then ((n2 : Nat) : Int) else if IntKind.wrap IntKind.i64 (x7.1 - a1) < 0 then 0 else IntKind.wrap IntKind.i64 (x7.1 - a1))) (c2 - Int.toNat (if ((n2 : Nat) : Int) < if IntKind.wrap IntKind.i64 (x7.1 - a1) < 0 then 0 else IntKind.wrap IntKind.i64 (x7.1 - a1) then ((n2 : Nat) : Int) else if IntKind.wrap IntKind.i64 (x7.1 - a1) < 0 then 0 else IntKind.wrap IntKind.i64 (x7.1 - a1))))]) ([]) (Sh.tup []) ([]) ([]) (fun x8 =>
                      bif a3 then (
                       .need (Option.isSome a0) (
                       .need (Option.isSome a0) (
                       .sto (Option.map (fun x => Addr.add x 4) a0) ([AV.v (Value.int IntKind.i64 (IntKind.wrap IntKind.i64 (a1 + ((n2 : Nat) : Int))))]) ([]) (
                       .need (Option.isSome a0) (
                       .need (Option.isSome a0) (
                       .sto (Option.map (fun x => Addr.add x 5) a0) ([AV.v (Value.bool true)]) ([]) (
                       .done (AV.v (Value.int IntKind.i64 0)) ([]))))))))
                      else (
                       .done (AV.v (Value.int IntKind.i64 0)) ([])))))))))))))
                else (
                 bif a3 then (
                  .call 22 ([AV.v (Value.pointer a0)]) ([]) (Sh.one) ([Lf.i IntKind.i64]) ([]) (fun x6 =>
                   bif decide (IntKind.wrap IntKind.i64 (a1 + ((n2 : Nat) : Int)) < x6.1) then (
                    .done (AV.v (Value.int IntKind.i64 8)) ([]))
                   else (
                    .need (Option.isSome a0) (
                    .need (Option.isSome a0) (
                    .ld (Option.map (fun x => Addr.add x 1) a0) ([Lf.i IntKind.i64]) (fun x7 =>
                     .need (decide (0 ≤ if ((n2 : Nat) : Int) < if IntKind.wrap IntKind.i64 (x7.1 - a1) < 0 then 0 else IntKind.wrap IntKind.i64 (x7.1 - a1) then ((n2 : Nat) : Int) else if IntKind.wrap IntKind.i64 (x7.1 - a1) < 0 then 0 else IntKind.wrap IntKind.i64 (x7.1 - a1)) && decide ((if ((n2 : Nat) : Int) < if IntKind.wrap IntKind.i64 (x7.1 - a1) < 0 then 0 else IntKind.wrap IntKind.i64 (x7.1 - a1) then ((n2 : Nat) : Int) else if IntKind.wrap IntKind.i64 (x7.1 - a1) < 0 then 0 else IntKind.wrap IntKind.i64 (x7.1 - a1)) ≤ ((n2 : Nat) : Int)) && decide (((n2 : Nat) : Int) ≤ ((n2 : Nat) : Int))) (
                     .call 23 ([AV.v (Value.pointer a0), AV.v (Value.int IntKind.i64 (IntKind.wrap IntKind.i64 (a1 + if ((n2 : Nat) : Int) < if IntKind.wrap IntKind.i64 (x7.1 - a1) < 0 then 0 else IntKind.wrap IntKind.i64 (x7.1 - a1) then ((n2 : Nat) : Int) else if IntKind.wrap IntKind.i64 (x7.1 - a1) < 0 then 0 else IntKind.wrap IntKind.i64 (x7.1 - a1)))), AV.v (Value.slice (if ((c2 : Nat) : Int) = if ((n2 : Nat) : Int) < if IntKind.wrap IntKind.i64 (x7.1 - a1) < 0 then 0 else IntKind.wrap IntKind.i64 (x7.1 - a1) then ((n2 : Nat) : Int) else if IntKind.wrap IntKind.i64 (x7.1 - a1) < 0 then 0 else IntKind.wrap IntKind.i64 (x7.1 - a1) then A2 else Option.map (fun x => Addr.add x (Int.toNat (if ((n2 : Nat) : Int) < if IntKind.wrap IntKind.i64 (x7.1 - a1) < 0 then 0 else IntKind.wrap IntKind.i64 (x7.1 - a1) then ((n2 : Nat) : Int) else if IntKind.wrap IntKind.i64 (x7.1 - a1) < 0 then 0 else IntKind.wrap IntKind.i64 (x7.1 - a1)) * 1)) A2) (Int.toNat ((n2 : Nat) : Int) - Int.toNat (if ((n2 : Nat) : Int) < if IntKind.wrap IntKind.i64 (x7.1 - a1) < 0 then 0 else IntKind.wrap IntKind.i64 (x7.1 - a1) then ((n2 : Nat) : Int) else if IntKind.wrap IntKind.i64 (x7.1 - a1) < 0 then 0 else IntKind.wrap IntKind.i64 (x7.1 - a1))) (c2 - Int.toNat (if ((n2 : Nat) : Int) < if IntKind.wrap IntKind.i64 (x7.1 - a1) < 0 then 0 else IntKind.wrap IntKind.i64 (x7.1 - a1) then ((n2 : Nat) : Int) else if IntKind.wrap IntKind.i64 (x7.1 - a1) < 0 then 0 else IntKind.wrap IntKind.i64 (x7.1 - a1))))]) ([]) (Sh.tup []) ([]) ([]) (fun x8 =>
                      bif a3 then (
                       .need (Option.isSome a0) (
                       .need (Option.isSome a0) (
                       .sto (Option.map (fun x => Addr.add x 4) a0) ([AV.v (Value.int IntKind.i64 (IntKind.wrap IntKind.i64 (a1 + ((n2 : Nat) : Int))))]) ([]) (
                       .need (Option.isSome a0) (
                       .need (Option.isSome a0) (
                       .sto (Option.map (fun x => Addr.add x 5) a0) ([AV.v (Value.bool true)]) ([]) (
                       .done (AV.v (Value.int IntKind.i64 0)) ([]))))))))
                      else (
                       .done (AV.v (Value.int IntKind.i64 0)) ([]))))))))))
                 else (
                  .need (Option.isSome a0) (
                  .need (Option.isSome a0) (
                  .ld (Option.map (fun x => Addr.add x 1) a0) ([Lf.i IntKind.i64]) (fun x6 =>
                   .need (decide (0 ≤ if ((n2 : Nat) : Int) < if IntKind.wrap IntKind.i64 (x6.1 - a1) < 0 then 0 else IntKind.wrap IntKind.i64 (x6.1 - a1) then ((n2 : Nat) : Int) else if IntKind.wrap IntKind.i64 (x6.1 - a1) < 0 then 0 else IntKind.wrap IntKind.i64 (x6.1 - a1)) && decide ((if ((n2 : Nat) : Int) < if IntKind.wrap IntKind.i64 (x6.1 - a1) < 0 then 0 else IntKind.wrap IntKind.i64 (x6.1 - a1) then ((n2 : Nat) : Int) else if IntKind.wrap IntKind.i64 (x6.1 - a1) < 0 then 0 else IntKind.wrap IntKind.i64 (x6.1 - a1)) ≤ ((n2 : Nat) : Int)) && decide (((n2 : Nat) : Int) ≤ ((n2 : Nat) : Int))) (
                   .call 23 ([AV.v (Value.pointer a0), AV.v (Value.int IntKind.i64 (IntKind.wrap IntKind.i64 (a1 + if ((n2 : Nat) : Int) < if IntKind.wrap IntKind.i64 (x6.1 - a1) < 0 then 0 else IntKind.wrap IntKind.i64 (x6.1 - a1) then ((n2 : Nat) : Int) else if IntKind.wrap IntKind.i64 (x6.1 - a1) < 0 then 0 else IntKind.wrap IntKind.i64 (x6.1 - a1)))), AV.v (Value.slice (if ((c2 : Nat) : Int) = if ((n2 : Nat) : Int) < if IntKind.wrap IntKind.i64 (x6.1 - a1) < 0 then 0 else IntKind.wrap IntKind.i64 (x6.1 - a1) then ((n2 : Nat) : Int) else if IntKind.wrap IntKind.i64 (x6.1 - a1) < 0 then 0 else IntKind.wrap IntKind.i64 (x6.1 - a1) then A2 else Option.map (fun x => Addr.add x (Int.toNat (if ((n2 : Nat) : Int) < if IntKind.wrap IntKind.i64 (x6.1 - a1) < 0 then 0 else IntKind.wrap IntKind.i64 (x6.1 - a1) then ((n2 : Nat) : Int) else if IntKind.wrap IntKind.i64 (x6.1 - a1) < 0 then 0 else IntKind.wrap IntKind.i64 (x6.1 - a1)) * 1)) A2) (Int.toNat ((n2 : Nat) : Int) - Int.toNat (if ((n2 : Nat) : Int) < if IntKind.wrap IntKind.i64 (x6.1 - a1) < 0 then 0 else IntKind.wrap IntKind.i64 (x6.1 - a1) then ((n2 : Nat) : Int) else if IntKind.wrap IntKind.i64 (x6.1 - a1) < 0 then 0 else IntKind.wrap IntKind.i64 (x6.1 - a1))) (c2 - Int.toNat (if ((n2 : Nat) : Int) < if IntKind.wrap IntKind.i64 (x6.1 - a1) < 0 then 0 else IntKind.wrap IntKind.i64 (x6.1 - a1) then ((n2 : Nat) : Int) else if IntKind.wrap IntKind.i64 (x6.1 - a1) < 0 then 0 else IntKind.wrap IntKind.i64 (x6.1 - a1))))]) ([]) (Sh.tup []) ([]) ([]) (fun x7 =>
                    bif a3 then (
                     .need (Option.isSome a0) (
                     .need (Option.isSome a0) (
                     .sto (Option.map (fun x => Addr.add x 4) a0) ([AV.v (Value.int IntKind.i64 (IntKind.wrap IntKind.i64 (a1 + ((n2 : Nat) : Int))))]) ([]) (
                     .need (Option.isSome a0) (
                     .need (Option.isSome a0) (
                     .sto (Option.map (fun x => Addr.add x 5) a0) ([AV.v (Value.bool true)]) ([]) (
                     .done (AV.v (Value.int IntKind.i64 0)) ([]))))))))
                    else (
                     .done (AV.v (Value.int IntKind.i64 0)) ([]))))))))))
               else (
                bif a3 then (
                 .call 22 ([AV.v (Value.pointer a0)]) ([]) (Sh.one) ([Lf.i IntKind.i64]) ([]) (fun x6 =>
                  bif decide (IntKind.wrap IntKind.i64 (a1 + ((n2 : Nat) : Int)) < x6.1) then (
                   .done (AV.v (Value.int IntKind.i64 8)) ([]))
                  else (
                   .need (Option.isSome a0) (
                   .need (Option.isSome a0) (
                   .ld (Option.map (fun x => Addr.add x 1) a0) ([Lf.i IntKind.i64]) (fun x7 =>
                    .need (decide (0 ≤ if ((n2 : Nat) : Int) < if IntKind.wrap IntKind.i64 (x7.1 - a1) < 0 then 0 else IntKind.wrap IntKind.i64 (x7.1 - a1) then ((n2 : Nat) : Int) else if IntKind.wrap IntKind.i64 (x7.1 - a1) < 0 then 0 else IntKind.wrap IntKind.i64 (x7.1 - a1)) && decide ((if ((n2 : Nat) : Int) < if IntKind.wrap IntKind.i64 (x7.1 - a1) < 0 then 0 else IntKind.wrap IntKind.i64 (x7.1 - a1) then ((n2 : Nat) : Int) else if IntKind.wrap IntKind.i64 (x7.1 - a1) < 0 then 0 else IntKind.wrap IntKind.i64 (x7.1 - a1)) ≤ ((n2 : Nat) : Int)) && decide (((n2 : Nat) : Int) ≤ ((n2 : Nat) : Int))) (
                    .call 23 ([AV.v (Value.pointer a0), AV.v (Value.int IntKind.i64 (IntKind.wrap IntKind.i64 (a1 + if ((n2 : Nat) : Int) < if IntKind.wrap IntKind.i64 (x7.1 - a1) < 0 then 0 else IntKind.wrap IntKind.i64 (x7.1 - a1) then ((n2 : Nat) : Int) else if IntKind.wrap IntKind.i64 (x7.1 - a1) < 0 then 0 else IntKind.wrap IntKind.i64 (x7.1 - a1)))), AV.v (Value.slice (if ((c2 : Nat) : Int) = if ((n2 : Nat) : Int) < if IntKind.wrap IntKind.i64 (x7.1 - a1) < 0 then 0 else IntKind.wrap IntKind.i64 (x7.1 - a1) then ((n2 : Nat) : Int) else if IntKind.wrap IntKind.i64 (x7.1 - a1) < 0 then 0 else IntKind.wrap IntKind.i64 (x7.1 - a1) then A2 else Option.map (fun x => Addr.add x (Int.toNat (if ((n2 : Nat) : Int) < if IntKind.wrap IntKind.i64 (x7.1 - a1) < 0 then 0 else IntKind.wrap IntKind.i64 (x7.1 - a1) then ((n2 : Nat) : Int) else if IntKind.wrap IntKind.i64 (x7.1 - a1) < 0 then 0 else IntKind.wrap IntKind.i64 (x7.1 - a1)) * 1)) A2) (Int.toNat ((n2 : Nat) : Int) - Int.toNat (if ((n2 : Nat) : Int) < if IntKind.wrap IntKind.i64 (x7.1 - a1) < 0 then 0 else IntKind.wrap IntKind.i64 (x7.1 - a1) then ((n2 : Nat) : Int) else if IntKind.wrap IntKind.i64 (x7.1 - a1) < 0 then 0 else IntKind.wrap IntKind.i64 (x7.1 - a1))) (c2 - Int.toNat (if ((n2 : Nat) : Int) < if IntKind.wrap IntKind.i64 (x7.1 - a1) < 0 then 0 else IntKind.wrap IntKind.i64 (x7.1 - a1) then ((n2 : Nat) : Int) else if IntKind.wrap IntKind.i64 (x7.1 - a1) < 0 then 0 else IntKind.wrap IntKind.i64 (x7.1 - a1))))]) ([]) (Sh.tup []) ([]) ([]) (fun x8 =>
                     bif a3 then (
                      .need (Option.isSome a0) (
                      .need (Option.isSome a0) (
                      .sto (Option.map (fun x => Addr.add x 4) a0) ([AV.v (Value.int IntKind.i64 (IntKind.wrap IntKind.i64 (a1 + ((n2 : Nat) : Int))))]) ([]) (
                      .need (Option.isSome a0) (
                      .need (Option.isSome a0) (
                      .sto (Option.map (fun x => Addr.add x 5) a0) ([AV.v (Value.bool true)]) ([]) (
                      .done (AV.v (Value.int IntKind.i64 0)) ([]))))))))
                     else (
                      .done (AV.v (Value.int IntKind.i64 0)) ([]))))))))))
                else (
                 .need (Option.isSome a0) (
                 .need (Option.isSome a0) (
                 .ld (Option.map (fun x => Addr.add x 1) a0) ([Lf.i IntKind.i64]) (fun x6 =>
                  .need (decide (0 ≤ if ((n2 : Nat) : Int) < if IntKind.wrap IntKind.i64 (x6.1 - a1) < 0 then 0 else IntKind.wrap IntKind.i64 (x6.1 - a1) then ((n2 : Nat) : Int) else if IntKind.wrap IntKind.i64 (x6.1 - a1) < 0 then 0 else IntKind.wrap IntKind.i64 (x6.1 - a1)) && decide ((if ((n2 : Nat) : Int) < if IntKind.wrap IntKind.i64 (x6.1 - a1) < 0 then 0 else IntKind.wrap IntKind.i64 (x6.1 - a1) then ((n2 : Nat) : Int) else if IntKind.wrap IntKind.i64 (x6.1 - a1) < 0 then 0 else IntKind.wrap IntKind.i64 (x6.1 - a1)) ≤ ((n2 : Nat) : Int)) && decide (((n2 : Nat) : Int) ≤ ((n2 : Nat) : Int))) (
                  .call 23 ([AV.v (Value.pointer a0), AV.v (Value.int IntKind.i64 (IntKind.wrap IntKind.i64 (a1 + if ((n2 : Nat) : Int) < if IntKind.wrap IntKind.i64 (x6.1 - a1) < 0 then 0 else IntKind.wrap IntKind.i64 (x6.1 - a1) then ((n2 : Nat) : Int) else if IntKind.wrap IntKind.i64 (x6.1 - a1) < 0 then 0 else IntKind.wrap IntKind.i64 (x6.1 - a1)))), AV.v (Value.slice (if ((c2 : Nat) : Int) = if ((n2 : Nat) : Int) < if IntKind.wrap IntKind.i64 (x6.1 - a1) < 0 then 0 else IntKind.wrap IntKind.i64 (x6.1 - a1) then ((n2 : Nat) : Int) else if IntKind.wrap IntKind.i64 (x6.1 - a1) < 0 then 0 else IntKind.wrap IntKind.i64 (x6.1 - a1) then A2 else Option.map (fun x => Addr.add x (Int.toNat (if ((n2 : Nat) : Int) < if IntKind.wrap IntKind.i64 (x6.1 - a1) < 0 then 0 else IntKind.wrap IntKind.i64 (x6.1 - a1) then ((n2 : Nat) : Int) else if IntKind.wrap IntKind.i64 (x6.1 - a1) < 0 then 0 else IntKind.wrap IntKind.i64 (x6.1 - a1)) * 1)) A2) (Int.toNat ((n2 : Nat) : Int) - Int.toNat (if ((n2 : Nat) : Int) < if IntKind.wrap IntKind.i64 (x6.1 - a1) < 0 then 0 else IntKind.wrap IntKind.i64 (x6.1 - a1) then ((n2 : Nat) : Int) else if IntKind.wrap IntKind.i64 (x6.1 - a1) < 0 then 0 else IntKind.wrap IntKind.i64 (x6.1 - a1))) (c2 - Int.toNat (if ((n2 : Nat) : Int) < if IntKind.wrap IntKind.i64 (x6.1 - a1) < 0 then 0 else IntKind.wrap IntKind.i64 (x6.1 - a1) then ((n2 : Nat) : Int) else if IntKind.wrap IntKind.i64 (x6.1 - a1) < 0 then 0 else IntKind.wrap IntKind.i64 (x6.1 - a1))))]) ([]) (Sh.tup []) ([]) ([]) (fun x7 =>
                   bif a3 then (
                    .need (Option.isSome a0) (
                    .need (Option.isSome a0) (
                    .sto (Option.map (fun x => Addr.add x 4) a0) ([AV.v (Value.int IntKind.i64 (IntKind.wrap IntKind.i64 (a1 + ((n2 : Nat) : Int))))]) ([]) (
                    .need (Option.isSome a0) (
                    .need (Option.isSome a0) (
                    .sto (Option.map (fun x => Addr.add x 5) a0) ([AV.v (Value.bool true)]) ([]) (
                    .done (AV.v (Value.int IntKind.i64 0)) ([]))))))))
                   else (
                    .done (AV.v (Value.int IntKind.i64 0)) ([])))))))))))))))))
           else (
            .need (Option.isSome a0) (
            .need (Option.isSome a0) (
            .ld (Option.map (fun x => Addr.add x 5) a0) ([Lf.b]) (fun x4 =>
             bif x4.1 then (
              bif a3 then (
               .need (Option.isSome a0) (
               .need (Option.isSome a0) (
               .ld (Option.map (fun x => Addr.add x 4) a0) ([Lf.i IntKind.i64]) (fun x5 =>
                bif IntKind.wrap IntKind.i64 (a1 + ((n2 : Nat) : Int)) != x5.1 then (
                 .done (AV.v (Value.int IntKind.i64 8)) ([]))
                else (
                 bif a3 then (
                  .call 22 ([AV.v (Value.pointer a0)]) ([]) (Sh.one) ([Lf.i IntKind.i64]) ([]) (fun x6 =>
                   bif decide (IntKind.wrap IntKind.i64 (a1 + ((n2 : Nat) : Int)) < x6.1) then (
                    .done (AV.v (Value.int IntKind.i64 8)) ([]))
                   else (
                    .need (Option.isSome a0) (
                    .need (Option.isSome a0) (
                    .ld (Option.map (fun x => Addr.add x 1) a0) ([Lf.i IntKind.i64]) (fun x7 =>
                     .need (decide (0 ≤ if ((n2 : Nat) : Int) < if IntKind.wrap IntKind.i64 (x7.1 - a1) < 0 then 0 else IntKind.wrap IntKind.i64 (x7.1 - a1) then ((n2 : Nat) : Int) else if IntKind.wrap IntKind.i64 (x7.1 - a1) < 0 then 0 else IntKind.wrap IntKind.i64 (x7.1 - a1)) && decide ((if ((n2 : Nat) : Int) < if IntKind.wrap IntKind.i64 (x7.1 - a1) < 0 then 0 else IntKind.wrap IntKind.i64 (x7.1 - a1) then ((n2 : Nat) : Int) else if IntKind.wrap IntKind.i64 (x7.1 - a1) < 0 then 0 else IntKind.wrap IntKind.i64 (x7.1 - a1)) ≤ ((n2 : Nat) : Int)) && decide (((n2 : Nat) : Int) ≤ ((n2 : Nat) : Int))) (
                     .call 23 ([AV.v (Value.pointer a0), AV.v (Value.int IntKind.i64 (IntKind.wrap IntKind.i64 (a1 + if ((n2 : Nat) : Int) < if IntKind.wrap IntKind.i64 (x7.1 - a1) < 0 then 0 else IntKind.wrap IntKind.i64 (x7.1 - a1) then ((n2 : Nat) : Int) else if IntKind.wrap IntKind.i64 (x7.1 - a1) < 0 then 0 else IntKind.wrap IntKind.i64 (x7.1 - a1)))), AV.v (Value.slice (if ((c2 : Nat) : Int) = if ((n2 : Nat) : Int) < if IntKind.wrap IntKind.i64 (x7.1 - a1) < 0 then 0 else IntKind.wrap IntKind.i64 (x7.1 - a1) then ((n2 : Nat) : Int) else if IntKind.wrap IntKind.i64 (x7.1 - a1) < 0 then 0 else IntKind.wrap IntKind.i64 (x7.1 - a1) then A2 else Option.map (fun x => Addr.add x (Int.toNat (if ((n2 : Nat) : Int) < if IntKind.wrap IntKind.i64 (x7.1 - a1) < 0 then 0 else IntKind.wrap IntKind.i64 (x7.1 - a1) then ((n2 : Nat) : Int) else if IntKind.wrap IntKind.i64 (x7.1 - a1) < 0 then 0 else IntKind.wrap IntKind.i64 (x7.1 - a1)) * 1)) A2) (Int.toNat ((n2 : Nat) : Int) - Int.toNat (if ((n2 : Nat) : Int) < if IntKind.wrap IntKind.i64 (x7.1 - a1) < 0 then 0 else IntKind.wrap IntKind.i64 (x7.1 - a1) then ((n2 : Nat) : Int) else if IntKind.wrap IntKind.i64 (x7.1 - a1) < 0 then 0 else IntKind.wrap IntKind.i64 (x7.1 - a1))) (c2 - Int.toNat (if ((n2 : Nat) : Int) < if IntKind.wrap IntKind.i64 (x7.1 - a1) < 0 then 0 else IntKind.wrap IntKind.i64 (x7.1 - a1) then ((n2 : Nat) : Int) else if IntKind.wrap IntKind.i64 (x7.1 - a1) < 0 then 0 else IntKind.wrap IntKind.i64 (x7.1 - a1))))]) ([]) (Sh.tup []) ([]) ([]) (fun x8 =>
                      bif a3 then (
                       .need (Option.isSome a0) (
                       .need (Option.isSome a0) (
                       .sto (Option.map (fun x => Addr.add x 4) a0) ([AV.v (Value.int IntKind.i64 (IntKind.wrap IntKind.i64 (a1 + ((n2 : Nat) : Int))))]) ([]) (
                       .need (Option.isSome a0) (
                       .need (Option.isSome a0) (
                       .sto (Option.map (fun x => Addr.add x 5) a0) ([AV.v (Value.bool true)]) ([]) (
                       .done (AV.v (Value.int IntKind.i64 0)) ([]))))))))
                      else (
                       .done (AV.v (Value.int IntKind.i64 0)) ([]))))))))))
                 else (
                  .need (Option.isSome a0) (
                  .need (Option.isSome a0) (
                  .ld (Option.map (fun x => Addr.add x 1) a0) ([Lf.i IntKind.i64]) (fun x6 =>
                   .need (decide (0 ≤ if ((n2 : Nat) : Int) < if IntKind.wrap IntKind.i64 (x6.1 - a1) < 0 then 0 else IntKind.wrap IntKind.i64 (x6.1 - a1) then ((n2 : Nat) : Int) else if IntKind.wrap IntKind.i64 (x6.1 - a1) < 0 then 0 else IntKind.wrap IntKind.i64 (x6.1 - a1)) && decide ((if ((n2 : Nat) : Int) < if IntKind.wrap IntKind.i64 (x6.1 - a1) < 0 then 0 else IntKind.wrap IntKind.i64 (x6.1 - a1) then ((n2 : Nat) : Int) else if IntKind.wrap IntKind.i64 (x6.1 - a1) < 0 then 0 else IntKind.wrap IntKind.i64 (x6.1 - a1)) ≤ ((n2 : Nat) : Int)) && decide (((n2 : Nat) : Int) ≤ ((n2 : Nat) : Int))) (
                   .call 23 ([AV.v (Value.pointer a0), AV.v (Value.int IntKind.i64 (IntKind.wrap IntKind.i64 (a1 + if ((n2 : Nat) : Int) < if IntKind.wrap IntKind.i64 (x6.1 - a1) < 0 then 0 else IntKind.wrap IntKind.i64 (x6.1 - a1) then ((n2 : Nat) : Int) else if IntKind.wrap IntKind.i64 (x6.1 - a1) < 0 then 0 else IntKind.wrap IntKind.i64 (x6.1 - a1)))), AV.v (Value.slice (if ((c2 : Nat) : Int) = if ((n2 : Nat) : Int) < if IntKind.wrap IntKind.i64 (x6.1 - a1) < 0 then 0 else IntKind.wrap IntKind.i64 (x6.1 - a1) then ((n2 : Nat) : Int) else if IntKind.wrap IntKind.i64 (x6.1 - a1) < 0 then 0 else IntKind.wrap IntKind.i64 (x6.1 - a1) then A2 else Option.map (fun x => Addr.add x (Int.toNat (if ((n2 : Nat) : Int) < if IntKind.wrap IntKind.i64 (x6.1 - a1) < 0 then 0 else IntKind.wrap IntKind.i64 (x6.1 - a1) then ((n2 : Nat) : Int) else if IntKind.wrap IntKind.i64 (x6.1 - a1) < 0 then 0 else IntKind.wrap IntKind.i64 (x6.1 - a1)) * 1)) A2) (Int.toNat ((n2 : Nat) : Int) - Int.toNat (if ((n2 : Nat) : Int) < if IntKind.wrap IntKind.i64 (x6.1 - a1) < 0 then 0 else IntKind.wrap IntKind.i64 (x6.1 - a1) then ((n2 : Nat) : Int) else if IntKind.wrap IntKind.i64 (x6.1 - a1) < 0 then 0 else IntKind.wrap IntKind.i64 (x6.1 - a1))) (c2 - Int.toNat (if ((n2 : Nat) : Int) < if IntKind.wrap IntKind.i64 (x6.1 - a1) < 0 then 0 else IntKind.wrap IntKind.i64 (x6.1 - a1) then ((n2 : Nat) : Int) else if IntKind.wrap IntKind.i64 (x6.1 - a1) < 0 then 0 else IntKind.wrap IntKind.i64 (x6.1 - a1))))]) ([]) (Sh.tup []) ([]) ([]) (fun x7 =>
                    bif a3 then (
                     .need (Option.isSome a0) (
                     .need (Option.isSome a0) (
                     .sto (Option.map (fun x => Addr.add x 4) a0) ([AV.v (Value.int IntKind.i64 (IntKind.wrap IntKind.i64 (a1 + ((n2 : Nat) : Int))))]) ([]) (
                     .need (Option.isSome a0) (
                     .need (Option.isSome a0) (
                     .sto (Option.map (fun x => Addr.add x 5) a0) ([AV.v (Value.bool true)]) ([]) (
                     .done (AV.v (Value.int IntKind.i64 0)) ([]))))))))
                    else (
                     .done (AV.v (Value.int IntKind.i64 0)) ([])))))))))))))
              else (
               bif a3 then (
                .call 22 ([AV.v (Value.pointer a0)]) ([]) (Sh.one) ([Lf.i IntKind.i64]) ([]) (fun x5 =>
                 bif decide (IntKind.wrap IntKind.i64 (a1 + ((n2 : Nat) : Int)) < x5.1) then (
                  .done (AV.v (Value.int IntKind.i64 8)) ([]))
                 else (
                  .need (Option.isSome a0) (
                  .need (Option.isSome a0) (
                  .ld (Option.map (fun x => Addr.add x 1) a0) ([Lf.i IntKind.i64]) (fun x6 =>
                   .need (decide (0 ≤ if ((n2 : Nat) : Int) < if IntKind.wrap IntKind.i64 (x6.1 - a1) < 0 then 0 else IntKind.wrap IntKind.i64 (x6.1 - a1) then ((n2 : Nat) : Int) else if IntKind.wrap IntKind.i64 (x6.1 - a1) < 0 then 0 else IntKind.wrap IntKind.i64 (x6.1 - a1)) && decide ((if ((n2 : Nat) : Int) < if IntKind.wrap IntKind.i64 (x6.1 - a1) < 0 then 0 else IntKind.wrap IntKind.i64 (x6.1 - a1) then ((n2 : Nat) : Int) else if IntKind.wrap IntKind.i64 (x6.1 - a1) < 0 then 0 else IntKind.wrap IntKind.i64 (x6.1 - a1)) ≤ ((n2 : Nat) : Int)) && decide (((n2 : Nat) : Int) ≤ ((n2 : Nat) : Int))) (
                   .call 23 ([AV.v (Value.pointer a0), AV.v (Value.int IntKind.i64 (IntKind.wrap IntKind.i64 (a1 + if ((n2 : Nat) : Int) < if IntKind.wrap IntKind.i64 (x6.1 - a1) < 0 then 0 else IntKind.wrap IntKind.i64 (x6.1 - a1) then ((n2 : Nat) : Int) else if IntKind.wrap IntKind.i64 (x6.1 - a1) < 0 then 0 else IntKind.wrap IntKind.i64 (x6.1 - a1)))), AV.v (Value.slice (if ((c2 : Nat) : Int) = if ((n2 : Nat) : Int) < if IntKind.wrap IntKind.i64 (x6.1 - a1) < 0 then 0 else IntKind.wrap IntKind.i64 (x6.1 - a1) then ((n2 : Nat) : Int) else if IntKind.wrap IntKind.i64 (x6.1 - a1) < 0 then 0 else IntKind.wrap IntKind.i64 (x6.1 - a1) then A2 else Option.map (fun x => Addr.add x (Int.toNat (if ((n2 : Nat) : Int) < if IntKind.wrap IntKind.i64 (x6.1 - a1) < 0 then 0 else IntKind.wrap IntKind.i64 (x6.1 - a1) then ((n2 : Nat) : Int) else if IntKind.wrap IntKind.i64 (x6.1 - a1) < 0 then 0 else IntKind.wrap IntKind.i64 (x6.1 - a1)) * 1)) A2) (Int.toNat ((n2 : Nat) : Int) - Int.toNat (if ((n2 : Nat) : Int) < if IntKind.wrap IntKind.i64 (x6.1 - a1) < 0 then 0 else IntKind.wrap IntKind.i64 (x6.1 - a1) then ((n2 : Nat) : Int) else if IntKind.wrap IntKind.i64 (x6.1 - a1) < 0 then 0 else IntKind.wrap IntKind.i64 (x6.1 - a1))) (c2 - Int.toNat (if ((n2 : Nat) : Int) < if IntKind.wrap IntKind.i64 (x6.1 - a1) < 0 then 0 else IntKind.wrap IntKind.i64 (x6.1 - a1) then ((n2 : Nat) : Int) else if IntKind.wrap IntKind.i64 (x6.1 - a1) < 0 then 0 else IntKind.wrap IntKind.i64 (x6.1 - a1))))]) ([]) (Sh.tup []) ([]) ([]) (fun x7 =>
                    bif a3 then (
                     .need (Option.isSome a0) (
                     .need (Option.isSome a0) (
                     .sto (Option.map (fun x => Addr.add x 4) a0) ([AV.v (Value.int IntKind.i64 (IntKind.wrap IntKind.i64 (a1 + ((n2 : Nat) : Int))))]) ([]) (
                     .need (Option.isSome a0) (
                     .need (Option.isSome a0) (
                     .sto (Option.map (fun x => Addr.add x 5) a0) ([AV.v (Value.bool true)]) ([]) (
                     .done (AV.v (Value.int IntKind.i64 0)) ([]))))))))
                    else (
                     .done (AV.v (Value.int IntKind.i64 0)) ([]))))))))))
               else (
                .need (Option.isSome a0) (
                .need (Option.isSome a0) (
                .ld (Option.map (fun x => Addr.add x 1) a0) ([Lf.i IntKind.i64]) (fun x5 =>
                 .need (decide (0 ≤ if ((n2 : Nat) : Int) < if IntKind.wrap IntKind.i64 (x5.1 - a1) < 0 then 0 else IntKind.wrap IntKind.i64 (x5.1 - a1) then ((n2 : Nat) : Int) else if IntKind.wrap IntKind.i64 (x5.1 - a1) < 0 then 0 else IntKind.wrap IntKind.i64 (x5.1 - a1)) && decide ((if ((n2 : Nat) : Int) < if IntKind.wrap IntKind.i64 (x5.1 - a1) < 0 then 0 else IntKind.wrap IntKind.i64 (x5.1 - a1) then ((n2 : Nat) : Int) else if IntKind.wrap IntKind.i64 (x5.1 - a1) < 0 then 0 else IntKind.wrap IntKind.i64 (x5.1 - a1)) ≤ ((n2 : Nat) : Int)) && decide (((n2 : Nat) : Int) ≤ ((n2 : Nat) : Int))) (
                 .call 23 ([AV.v (Value.pointer a0), AV.v (Value.int IntKind.i64 (IntKind.wrap IntKind.i64 (a1 + if ((n2 : Nat) : Int) < if IntKind.wrap IntKind.i64 (x5.1 - a1) < 0 then 0 else IntKind.wrap IntKind.i64 (x5.1 - a1) then ((n2 : Nat) : Int) else if IntKind.wrap IntKind.i64 (x5.1 - a1) < 0 then 0 else IntKind.wrap IntKind.i64 (x5.1 - a1)))), AV.v (Value.slice (if ((c2 : Nat) : Int) = if ((n2 : Nat) : Int) < if IntKind.wrap IntKind.i64 (x5.1 - a1) < 0 then 0 else IntKind.wrap IntKind.i64 (x5.1 - a1) then ((n2 : Nat) : Int) else if IntKind.wrap IntKind.i64 (x5.1 - a1) < 0 then 0 else IntKind.wrap IntKind.i64 (x5.1 - a1) then A2 else Option.map (fun x => Addr.add x (Int.toNat (if ((n2 : Nat) : Int) < if IntKind.wrap IntKind.i64 (x5.1 - a1) < 0 then 0 else IntKind.wrap IntKind.i64 (x5.1 - a1) then ((n2 : Nat) : Int) else if IntKind.wrap IntKind.i64 (x5.1 - a1) < 0 then 0 else IntKind.wrap IntKind.i64 (x5.1 - a1)) * 1)) A2) (Int.toNat ((n2 : Nat) : Int) - Int.toNat (if ((n2 : Nat) : Int) < if IntKind.wrap IntKind.i64 (x5.1 - a1) < 0 then 0 else IntKind.wrap IntKind.i64 (x5.1 - a1) then ((n2 : Nat) : Int) else if IntKind.wrap IntKind.i64 (x5.1 - a1) < 0 then 0 else IntKind.wrap IntKind.i64 (x5.1 - a1))) (c2 - Int.toNat (if ((n2 : Nat) : Int) < if IntKind.wrap IntKind.i64 (x5.1 - a1) < 0 then 0 else IntKind.wrap IntKind.i64 (x5.1 - a1) then ((n2 : Nat) : Int) else if IntKind.wrap IntKind.i64 (x5.1 - a1) < 0 then 0 else IntKind.wrap IntKind.i64 (x5.1 - a1))))]) ([]) (Sh.tup []) ([]) ([]) (fun x6 =>
                  bif a3 then (
                   .need (Option.isSome a0) (
                   .need (Option.isSome a0) (
                   .sto (Option.map (fun x => Addr.add x 4) a0) ([AV.v (Value.int IntKind.i64 (IntKind.wrap IntKind.i64 (a1 + ((n2 : Nat) : Int))))]) ([]) (
                   .need (Option.isSome a0) (
                   .need (Option.isSome a0) (
                   .sto (Option.map (fun x => Addr.add x 5) a0) ([AV.v (Value.bool true)]) ([]) (
                   .done (AV.v (Value.int IntKind.i64 0)) ([]))))))))
                  else (
                   .done (AV.v (Value.int IntKind.i64 0)) ([]))))))))))
             else (
              bif a3 then (
               .call 22 ([AV.v (Value.pointer a0)]) ([]) (Sh.one) ([Lf.i IntKind.i64]) ([]) (fun x5 =>
                bif decide (IntKind.wrap IntKind.i64 (a1 + ((n2 : Nat) : Int)) < x5.1) then (
                 .done (AV.v (Value.int IntKind.i64 8)) ([]))
                else (
                 .need (Option.isSome a0) (
                 .need (Option.isSome a0) (
                 .ld (Option.map (fun x => Addr.add x 1) a0) ([Lf.i IntKind.i64]) (fun x6 =>
                  .need (decide (0 ≤ if ((n2 : Nat) : Int) < if IntKind.wrap IntKind.i64 (x6.1 - a1) < 0 then 0 else IntKind.wrap IntKind.i64 (x6.1 - a1) then ((n2 : Nat) : Int) else if IntKind.wrap IntKind.i64 (x6.1 - a1) < 0 then 0 else IntKind.wrap IntKind.i64 (x6.1 - a1)) && decide ((if ((n2 : Nat) : Int) < if IntKind.wrap IntKind.i64 (x6.1 - a1) < 0 then 0 else IntKind.wrap IntKind.i64 (x6.1 - a1) then ((n2 : Nat) : Int) else if IntKind.wrap IntKind.i64 (x6.1 - a1) < 0 then 0 else IntKind.wrap IntKind.i64 (x6.1 - a1)) ≤ ((n2 : Nat) : Int)) && decide (((n2 : Nat) : Int) ≤ ((n2 : Nat) : Int))) (
                  .call 23 ([AV.v (Value.pointer a0), AV.v (Value.int IntKind.i64 (IntKind.wrap IntKind.i64 (a1 + if ((n2 : Nat) : Int) < if IntKind.wrap IntKind.i64 (x6.1 - a1) < 0 then 0 else IntKind.wrap IntKind.i64 (x6.1 - a1) then ((n2 : Nat) : Int) else if IntKind.wrap IntKind.i64 (x6.1 - a1) < 0 then 0 else IntKind.wrap IntKind.i64 (x6.1 - a1)))), AV.v (Value.slice (if ((c2 : Nat) : Int) = if ((n2 : Nat) : Int) < if IntKind.wrap IntKind.i64 (x6.1 - a1) < 0 then 0 else IntKind.wrap IntKind.i64 (x6.1 - a1) then ((n2 : Nat) : Int) else if IntKind.wrap IntKind.i64 (x6.1 - a1) < 0 then 0 else IntKind.wrap IntKind.i64 (x6.1 - a1) then A2 else Option.map (fun x => Addr.add x (Int.toNat (if ((n2 : Nat) : Int) < if IntKind.wrap IntKind.i64 (x6.1 - a1) < 0 then 0 else IntKind.wrap IntKind.i64 (x6.1 - a1) then ((n2 : Nat) : Int) else if IntKind.wrap IntKind.i64 (x6.1 - a1) < 0 then 0 else IntKind.wrap IntKind.i64 (x6.1 - a1)) * 1)) A2) (Int.toNat ((n2 : Nat) : Int) - Int.toNat (if ((n2 : Nat) : Int) < if IntKind.wrap IntKind.i64 (x6.1 - a1) < 0 then 0 else IntKind.wrap IntKind.i64 (x6.1 - a1) then ((n2 : Nat) : Int) else if IntKind.wrap IntKind.i64 (x6.1 - a1) < 0 then 0 else IntKind.wrap IntKind.i64 (x6.1 - a1))) (c2 - Int.toNat (if ((n2 : Nat) : Int) < if IntKind.wrap IntKind.i64 (x6.1 - a1) < 0 then 0 else IntKind.wrap IntKind.i64 (x6.1 - a1) then ((n2 : Nat) : Int) else if IntKind.wrap IntKind.i64 (x6.1 - a1) < 0 then 0 else IntKind.wrap IntKind.i64 (x6.1 - a1))))]) ([]) (Sh.tup []) ([]) ([]) (fun x7 =>
                   bif a3 then (
                    .need (Option.isSome a0) (
                    .need (Option.isSome a0) (
                    .sto (Option.map (fun x => Addr.add x 4) a0) ([AV.v (Value.int IntKind.i64 (IntKind.wrap IntKind.i64 (a1 + ((n2 : Nat) : Int))))]) ([]) (
                    .need (Option.isSome a0) (
                    .need (Option.isSome a0) (
                    .sto (Option.map (fun x => Addr.add x 5) a0) ([AV.v (Value.bool true)]) ([]) (
                    .done (AV.v (Value.int IntKind.i64 0)) ([]))))))))
                   else (
                    .done (AV.v (Value.int IntKind.i64 0)) ([]))))))))))
              else (
               .need (Option.isSome a0) (
               .need (Option.isSome a0) (
               .ld (Option.map (fun x => Addr.add x 1) a0) ([Lf.i IntKind.i64]) (fun x5 =>
                .need (decide (0 ≤ if ((n2 : Nat) : Int) < if IntKind.wrap IntKind.i64 (x5.1 - a1) < 0 then 0 else IntKind.wrap IntKind.i64 (x5.1 - a1) then ((n2 : Nat) : Int) else if IntKind.wrap IntKind.i64 (x5.1 - a1) < 0 then 0 else IntKind.wrap IntKind.i64 (x5.1 - a1)) && decide ((if ((n2 : Nat) : Int) < if IntKind.wrap IntKind.i64 (x5.1 - a1) < 0 then 0 else IntKind.wrap IntKind.i64 (x5.1 - a1) then ((n2 : Nat) : Int) else if IntKind.wrap IntKind.i64 (x5.1 - a1) < 0 then 0 else IntKind.wrap IntKind.i64 (x5.1 - a1)) ≤ ((n2 : Nat) : Int)) && decide (((n2 : Nat) : Int) ≤ ((n2 : Nat) : Int))) (
                .call 23 ([AV.v (Value.pointer a0), AV.v (Value.int IntKind.i64 (IntKind.wrap IntKind.i64 (a1 + if ((n2 : Nat) : Int) < if IntKind.wrap IntKind.i64 (x5.1 - a1) < 0 then 0 else IntKind.wrap IntKind.i64 (x5.1 - a1) then ((n2 : Nat) : Int) else if IntKind.wrap IntKind.i64 (x5.1 - a1) < 0 then 0 else IntKind.wrap IntKind.i64 (x5.1 - a1)))), AV.v (Value.slice (if ((c2 : Nat) : Int) = if ((n2 : Nat) : Int) < if IntKind.wrap IntKind.i64 (x5.1 - a1) < 0 then 0 else IntKind.wrap IntKind.i64 (x5.1 - a1) then ((n2 : Nat) : Int) else if IntKind.wrap IntKind.i64 (x5.1 - a1) < 0 then 0 else IntKind.wrap IntKind.i64 (x5.1 - a1) then A2 else Option.map (fun x => Addr.add x (Int.toNat (if ((n2 : Nat) : Int) < if IntKind.wrap IntKind.i64 (x5.1 - a1) < 0 then 0 else IntKind.wrap IntKind.i64 (x5.1 - a1) then ((n2 : Nat) : Int) else if IntKind.wrap IntKind.i64 (x5.1 - a1) < 0 then 0 else IntKind.wrap IntKind.i64 (x5.1 - a1)) * 1)) A2) (Int.toNat ((n2 : Nat) : Int) - Int.toNat (if ((n2 : Nat) : Int) < if IntKind.wrap IntKind.i64 (x5.1 - a1) < 0 then 0 else IntKind.wrap IntKind.i64 (x5.1 - a1) then ((n2 : Nat) : Int) else if IntKind.wrap IntKind.i64 (x5.1 - a1) < 0 then 0 else IntKind.wrap IntKind.i64 (x5.1 - a1))) (c2 - Int.toNat (if ((n2 : Nat) : Int) < if IntKind.wrap IntKind.i64 (x5.1 - a1) < 0 then 0 else IntKind.wrap IntKind.i64 (x5.1 - a1) then ((n2 : Nat) : Int) else if IntKind.wrap IntKind.i64 (x5.1 - a1) < 0 then 0 else IntKind.wrap IntKind.i64 (x5.1 - a1))))]) ([]) (Sh.tup []) ([]) ([]) (fun x6 =>
                 bif a3 then (
                  .need (Option.isSome a0) (
                  .need (Option.isSome a0) (
                  .sto (Option.map (fun x => Addr.add x 4) a0) ([AV.v (Value.int IntKind.i64 (IntKind.wrap IntKind.i64 (a1 + ((n2 : Nat) : Int))))]) ([]) (
                  .need (Option.isSome a0) (
                  .need (Option.isSome a0) (
                  .sto (Option.map (fun x => Addr.add x 5) a0) ([AV.v (Value.bool true)]) ([]) (
                  .done (AV.v (Value.int IntKind.i64 0)) ([]))))))))
                 else (
                  .done (AV.v (Value.int IntKind.i64 0)) ([])))))))))))))))))))))))))
   else (
    .done (AV.v (Value.int IntKind.i64 2)) ([]))) := by kernel_rfl
/-! ### (*turnbuckle/reasm.Stream).Reset: function 17 -/
abbrev reasm_Stream_Reset.S (a0 A0_2 A0_3 : Option Addr) : Nat → Prop := fun b => blk (a0, 0, 0) b ∨ blk (A0_2, 0, 0) b ∨ blk (A0_3, 0, 0) b
def reasm_Stream_Reset.F (k : Nat) (q0 : Int × Int × (List Int) × (List (Int × Int)) × Int × Bool × Bool) (a1 : Int) : Option (Int × (Int × Int × (List Int) × (List (Int × Int)) × Int × Bool × Bool)) := (reasm_Stream_ok.F k (some q0)).bind fun v0_0 => bif v0_0 then (bif decide (a1 < 0) then (some ((1, q0))) else (bif decide (4611686018427387903 < a1) then (some ((1, q0))) else (bif q0.2.2.2.2.2.2 then (some ((18, q0))) else (bif q0.2.2.2.2.2.1 then ((reasm_Stream_Ready.F k (some q0)).bind fun v5_0 => bif IntKind.wrap IntKind.i64 (q0.2.1 + v5_0) == q0.2.2.2.2.1 then (some ((18, q0))) else ((reasm_Stream_Limit.F k (some q0)).bind fun v6_0 => bif decide (v6_0 < a1) then (some ((7, q0))) else (bif q0.2.2.2.2.2.1 then (bif q0.2.2.2.2.1 != a1 then (some ((8, q0))) else ((reasm_Stream_last.F k (some q0)).bind fun v9_0 => bif decide (a1 < v9_0) then (some ((8, q0))) else (some ((0, (q0.1, q0.2.1, q0.2.2.1, ([] : List (Int × Int)), a1, true, true)))))) else ((reasm_Stream_last.F k (some q0)).bind fun v8_0 => bif decide (a1 < v8_0) then (some ((8, q0))) else (some ((0, (q0.1, q0.2.1, q0.2.2.1, ([] : List (Int × Int)), a1, true, true)))))))) else ((reasm_Stream_Limit.F k (some q0)).bind fun v3_0 => bif decide (v3_0 < a1) then (some ((7, q0))) else (bif q0.2.2.2.2.2.1 then (bif q0.2.2.2.2.1 != a1 then (some ((8, q0))) else ((reasm_Stream_last.F k (some q0)).bind fun v6_0 => bif decide (a1 < v6_0) then (some ((8, q0))) else (some ((0, (q0.1, q0.2.1, q0.2.2.1, ([] : List (Int × Int)), a1, true, true)))))) else ((reasm_Stream_last.F k (some q0)).bind fun v5_0 => bif decide (a1 < v5_0) then (some ((8, q0))) else (some ((0, (q0.1, q0.2.1, q0.2.2.1, ([] : List (Int × Int)), a1, true, true))))))))))) else (some ((2, q0)))
abbrev reasm_Stream_Reset.A : Nat → LA := noA
set_option maxHeartbeats 4000000 in
theorem reasm_Stream_Reset.t (a0 : Option Addr) (a1 : Int) : tree Try.prog reasm_Stream_Reset.A noC Try.f17 [AV.v (Value.pointer a0), AV.v (Value.int IntKind.i64 a1)] [] =
  .call 21 ([AV.v (Value.pointer a0)]) ([]) (Sh.one) ([Lf.b]) ([]) (fun x0 =>
   bif x0.1 then (
    bif decide (a1 < 0) then (
     .done (AV.v (Value.int IntKind.i64 1)) ([]))
    else (
     bif decide (4611686018427387903 < a1) then (
      .done (AV.v (Value.int IntKind.i64 1)) ([]))
     else (
      .need (Option.isSome a0) (
      .need (Option.isSome a0) (
      .ld (Option.map (fun x => Addr.add x 6) a0) ([Lf.b]) (fun x1 =>
       bif x1.1 then (
        .done (AV.v (Value.int IntKind.i64 18)) ([]))
       else (
        .need (Option.isSome a0) (
        .need (Option.isSome a0) (
        .ld (Option.map (fun x => Addr.add x 5) a0) ([Lf.b]) (fun x2 =>
         bif x2.1 then (
          .need (Option.isSome a0) (
          .need (Option.isSome a0) (
          .ld (Option.map (fun x => Addr.add x 1) a0) ([Lf.i IntKind.i64]) (fun x3 =>
           .need (Option.isSome a0) (
           .need (Option.isSome a0) (
           .ld (Option.map (fun x => Addr.add x 4) a0) ([Lf.i IntKind.i64]) (fun x4 =>
            .call 20 ([AV.v (Value.pointer a0)]) ([]) (Sh.one) ([Lf.i IntKind.i64]) ([]) (fun x5 =>
             .keep (Option.map (fun x => Addr.add x 4) a0) ([AV.v (Value.int IntKind.i64 x4.1)]) (
             .keep (Option.map (fun x => Addr.add x 1) a0) ([AV.v (Value.int IntKind.i64 x3.1)]) (
             bif IntKind.wrap IntKind.i64 (x3.1 + x5.1) == x4.1 then (
              .done (AV.v (Value.int IntKind.i64 18)) ([]))
             else (
              .call 18 ([AV.v (Value.pointer a0)]) ([]) (Sh.one) ([Lf.i IntKind.i64]) ([]) (fun x6 =>
               bif decide (x6.1 < a1) then (
                .done (AV.v (Value.int IntKind.i64 7)) ([]))
               else (
                .need (Option.isSome a0) (
                .need (Option.isSome a0) (
                .ld (Option.map (fun x => Addr.add x 5) a0) ([Lf.b]) (fun x7 =>
                 bif x7.1 then (
                  .need (Option.isSome a0) (
                  .need (Option.isSome a0) (
                  .ld (Option.map (fun x => Addr.add x 4) a0) ([Lf.i IntKind.i64]) (fun x8 =>
                   bif x8.1 != a1 then (
                    .done (AV.v (Value.int IntKind.i64 8)) ([]))
                   else (
                    .call 22 ([AV.v (Value.pointer a0)]) ([]) (Sh.one) ([Lf.i IntKind.i64]) ([]) (fun x9 =>
                     bif decide (a1 < x9.1) then (
                      .done (AV.v (Value.int IntKind.i64 8)) ([]))
                     else (
                      .need (Option.isSome a0) (
                      .need (Option.isSome a0) (
                      .sto (Option.map (fun x => Addr.add x 6) a0) ([AV.v (Value.bool true)]) ([]) (
                      .need (Option.isSome a0) (
                      .need (Option.isSome a0) (
                      .sto (Option.map (fun x => Addr.add x 5) a0) ([AV.v (Value.bool true)]) ([]) (
                      .need (Option.isSome a0) (
                      .need (Option.isSome a0) (
                      .sto (Option.map (fun x => Addr.add x 4) a0) ([AV.v (Value.int IntKind.i64 a1)]) ([]) (
                      .need (Option.isSome a0) (
                      .need (Option.isSome a0) (
                      .sto (Option.map (fun x => Addr.add x 3) a0) ([AV.v (Value.slice none 0 0)]) ([]) (
                      .done (AV.v (Value.int IntKind.i64 0)) ([]))))))))))))))))))))
                 else (
                  .call 22 ([AV.v (Value.pointer a0)]) ([]) (Sh.one) ([Lf.i IntKind.i64]) ([]) (fun x8 =>
                   bif decide (a1 < x8.1) then (
                    .done (AV.v (Value.int IntKind.i64 8)) ([]))
                   else (
                    .need (Option.isSome a0) (
                    .need (Option.isSome a0) (
                    .sto (Option.map (fun x => Addr.add x 6) a0) ([AV.v (Value.bool true)]) ([]) (
                    .need (Option.isSome a0) (
                    .need (Option.isSome a0) (
                    .sto (Option.map (fun x => Addr.add x 5) a0) ([AV.v (Value.bool true)]) ([]) (
                    .need (Option.isSome a0) (
                    .need (Option.isSome a0) (
                    .sto (Option.map (fun x => Addr.add x 4) a0) ([AV.v (Value.int IntKind.i64 a1)]) ([]) (
                    .need (Option.isSome a0) (
                    .need (Option.isSome a0) (
                    .sto (Option.map (fun x => Addr.add x 3) a0) ([AV.v (Value.slice none 0 0)]) ([]) (
                    .done (AV.v (Value.int IntKind.i64 0)) ([]))))))))))))))))))))))))))))))))
         else (
          .call 18 ([AV.v (Value.pointer a0)]) ([]) (Sh.one) ([Lf.i IntKind.i64]) ([]) (fun x3 =>
           bif decide (x3.1 < a1) then (
            .done (AV.v (Value.int IntKind.i64 7)) ([]))
           else (
            .need (Option.isSome a0) (
            .need (Option.isSome a0) (
            .ld (Option.map (fun x => Addr.add x 5) a0) ([Lf.b]) (fun x4 =>
             bif x4.1 then (
              .need (Option.isSome a0) (
              .need (Option.isSome a0) (
              .ld (Option.map (fun x => Addr.add x 4) a0) ([Lf.i IntKind.i64]) (fun x5 =>
               bif x5.1 != a1 then (
                .done (AV.v (Value.int IntKind.i64 8)) ([]))
               else (
                .call 22 ([AV.v (Value.pointer a0)]) ([]) (Sh.one) ([Lf.i IntKind.i64]) ([]) (fun x6 =>
                 bif decide (a1 < x6.1) then (
                  .done (AV.v (Value.int IntKind.i64 8)) ([]))
                 else (
                  .need (Option.isSome a0) (
                  .need (Option.isSome a0) (
                  .sto (Option.map (fun x => Addr.add x 6) a0) ([AV.v (Value.bool true)]) ([]) (
                  .need (Option.isSome a0) (
                  .need (Option.isSome a0) (
                  .sto (Option.map (fun x => Addr.add x 5) a0) ([AV.v (Value.bool true)]) ([]) (
                  .need (Option.isSome a0) (
                  .need (Option.isSome a0) (
                  .sto (Option.map (fun x => Addr.add x 4) a0) ([AV.v (Value.int IntKind.i64 a1)]) ([]) (
                  .need (Option.isSome a0) (
                  .need (Option.isSome a0) (
                  .sto (Option.map (fun x => Addr.add x 3) a0) ([AV.v (Value.slice none 0 0)]) ([]) (
                  .done (AV.v (Value.int IntKind.i64 0)) ([]))))))))))))))))))))
             else (
              .call 22 ([AV.v (Value.pointer a0)]) ([]) (Sh.one) ([Lf.i IntKind.i64]) ([]) (fun x5 =>
               bif decide (a1 < x5.1) then (
                .done (AV.v (Value.int IntKind.i64 8)) ([]))
               else (
                .need (Option.isSome a0) (
                .need (Option.isSome a0) (
                .sto (Option.map (fun x => Addr.add x 6) a0) ([AV.v (Value.bool true)]) ([]) (
                .need (Option.isSome a0) (
                .need (Option.isSome a0) (
                .sto (Option.map (fun x => Addr.add x 5) a0) ([AV.v (Value.bool true)]) ([]) (
                .need (Option.isSome a0) (
                .need (Option.isSome a0) (
                .sto (Option.map (fun x => Addr.add x 4) a0) ([AV.v (Value.int IntKind.i64 a1)]) ([]) (
                .need (Option.isSome a0) (
                .need (Option.isSome a0) (
                .sto (Option.map (fun x => Addr.add x 3) a0) ([AV.v (Value.slice none 0 0)]) ([]) (
                .done (AV.v (Value.int IntKind.i64 0)) ([]))))))))))))))))))))))))))))))))
   else (
    .done (AV.v (Value.int IntKind.i64 2)) ([]))) := by kernel_rfl
/-! ### (*turnbuckle/reasm.Stream).Read: function 11 -/
abbrev reasm_Stream_Read.S (a0 A0_2 A0_3 : Option Addr) : Nat → Prop := fun b => blk (a0, 0, 0) b ∨ blk (A0_2, 0, 0) b ∨ blk (A0_3, 0, 0) b
def reasm_Stream_Read.F (k : Nat) (q0 : Int × Int × (List Int) × (List (Int × Int)) × Int × Bool × Bool) (a1 : Int) : Option ((List Int) × (Int × Int × (List Int) × (List (Int × Int)) × Int × Bool × Bool)) := (reasm_Stream_Ready.F k (some q0)).bind fun v0_0 => bif decide ((if v0_0 < a1 then v0_0 else a1) < 1) then (some (([], q0))) else (bif decide ((0 : Int) ≤ (0 : Int) ∧ (0 : Int) ≤ (if v0_0 < a1 then v0_0 else a1) ∧ (if v0_0 < a1 then v0_0 else a1) ≤ ((q0.2.2.1).length : Int)) then ((slices_Clone_byte_byte.F k (((q0.2.2.1.drop (Int.toNat 0)).take (Int.toNat (if v0_0 < a1 then v0_0 else a1) - Int.toNat 0)))).bind fun s2_0 => bif decide ((0 : Int) ≤ ((if v0_0 < a1 then v0_0 else a1)) ∧ ((if v0_0 < a1 then v0_0 else a1)) ≤ ((((q0.2.2.1).length : Nat) : Int)) ∧ ((((q0.2.2.1).length : Nat) : Int)) ≤ ((q0.2.2.1).length : Int)) then ((getI q0.2.2.2.1 0).bind fun r12 => (getI (q0.2.2.2.1.set (Int.toNat 0) ((((IntKind.wrap IntKind.i64 (q0.2.1 + if v0_0 < a1 then v0_0 else a1))), r12.2))) 0).bind fun r16 => (getI (q0.2.2.2.1.set (Int.toNat 0) ((((IntKind.wrap IntKind.i64 (q0.2.1 + if v0_0 < a1 then v0_0 else a1))), r12.2))) 0).bind fun r18 => bif decide (r18.2 < r16.1) then (bif decide ((0 : Int) ≤ (1 : Int) ∧ (1 : Int) ≤ (((((q0.2.2.2.1.set (Int.toNat 0) ((((IntKind.wrap IntKind.i64 (q0.2.1 + if v0_0 < a1 then v0_0 else a1))), r12.2)))).length : Nat) : Int)) ∧ (((((q0.2.2.2.1.set (Int.toNat 0) ((((IntKind.wrap IntKind.i64 (q0.2.1 + if v0_0 < a1 then v0_0 else a1))), r12.2)))).length : Nat) : Int)) ≤ (((q0.2.2.2.1.set (Int.toNat 0) ((((IntKind.wrap IntKind.i64 (q0.2.1 + if v0_0 < a1 then v0_0 else a1))), r12.2)))).length : Int)) then (some ((s2_0, (q0.1, (IntKind.wrap IntKind.i64 (q0.2.1 + if v0_0 < a1 then v0_0 else a1)), (cop 0 q0.2.2.1 (((q0.2.2.1.drop (Int.toNat (if v0_0 < a1 then v0_0 else a1))).take (Int.toNat ((((q0.2.2.1).length : Nat) : Int)) - Int.toNat (if v0_0 < a1 then v0_0 else a1))))), (((q0.2.2.2.1.set (Int.toNat 0) ((((IntKind.wrap IntKind.i64 (q0.2.1 + if v0_0 < a1 then v0_0 else a1))), r12.2))).drop (Int.toNat 1)).take (Int.toNat (((((q0.2.2.2.1.set (Int.toNat 0) ((((IntKind.wrap IntKind.i64 (q0.2.1 + if v0_0 < a1 then v0_0 else a1))), r12.2)))).length : Nat) : Int)) - Int.toNat 1)), q0.2.2.2.2.1, q0.2.2.2.2.2.1, q0.2.2.2.2.2.2)))) else none) else (some ((s2_0, (q0.1, (IntKind.wrap IntKind.i64 (q0.2.1 + if v0_0 < a1 then v0_0 else a1)), (cop 0 q0.2.2.1 (((q0.2.2.1.drop (Int.toNat (if v0_0 < a1 then v0_0 else a1))).take (Int.toNat ((((q0.2.2.1).length : Nat) : Int)) - Int.toNat (if v0_0 < a1 then v0_0 else a1))))), (q0.2.2.2.1.set (Int.toNat 0) ((((IntKind.wrap IntKind.i64 (q0.2.1 + if v0_0 < a1 then v0_0 else a1))), r12.2))), q0.2.2.2.2.1, q0.2.2.2.2.2.1, q0.2.2.2.2.2.2))))) else none) else none)
abbrev reasm_Stream_Read.A : Nat → LA := noA
set_option maxHeartbeats 4000000 in
theorem reasm_Stream_Read.t (a0 : Option Addr) (a1 : Int) : tree Try.prog reasm_Stream_Read.A noC Try.f11 [AV.v (Value.pointer a0), AV.v (Value.int IntKind.i64 a1)] [] =
  .call 20 ([AV.v (Value.pointer a0)]) ([]) (Sh.one) ([Lf.i IntKind.i64]) ([]) (fun x0 =>
   bif decide ((if x0.1 < a1 then x0.1 else a1) < 1) then (
    .done (AV.v (Value.slice none 0 0)) ([]))
   else (
    .need (Option.isSome a0) (
    .need (Option.isSome a0) (
    .ld (Option.map (fun x => Addr.add x 2) a0) ([Lf.sl]) (fun x1 =>
     .need (true && decide (0 ≤ if x0.1 < a1 then x0.1 else a1) && decide ((if x0.1 < a1 then x0.1 else a1) ≤ ((x1.1.2.2 : Nat) : Int))) (
     .call 24 ([AV.v (Value.slice (if ((x1.1.2.2 : Nat) : Int) = 0 then x1.1.1 else Option.map (fun x => Addr.add x 0) x1.1.1) (Int.toNat (if x0.1 < a1 then x0.1 else a1) - 0) (x1.1.2.2 - 0))]) ([]) (Sh.one) ([Lf.sl]) ([]) (fun x2 =>
      .need (Option.isSome a0) (
      .need (Option.isSome a0) (
      .ld (Option.map (fun x => Addr.add x 2) a0) ([Lf.sl]) (fun x3 =>
       .need (Option.isSome a0) (
       .need (Option.isSome a0) (
       .ld (Option.map (fun x => Addr.add x 2) a0) ([Lf.sl]) (fun x4 =>
        .need (decide (0 ≤ if x0.1 < a1 then x0.1 else a1) && decide ((if x0.1 < a1 then x0.1 else a1) ≤ ((x4.1.2.1 : Nat) : Int)) && decide (((x4.1.2.1 : Nat) : Int) ≤ ((x4.1.2.1 : Nat) : Int))) (
        .sem (Builtin.copy_ { toList := [22, 22] } 3 { toList := [Value.slice x3.1.1 x3.1.2.1 x3.1.2.2, Value.slice (if ((x4.1.2.2 : Nat) : Int) = if x0.1 < a1 then x0.1 else a1 then x4.1.1 else Option.map (fun x => Addr.add x (Int.toNat (if x0.1 < a1 then x0.1 else a1) * 1)) x4.1.1) (Int.toNat ((x4.1.2.1 : Nat) : Int) - Int.toNat (if x0.1 < a1 then x0.1 else a1)) (x4.1.2.2 - Int.toNat (if x0.1 < a1 then x0.1 else a1))] }) ([Lf.i IntKind.i64]) (Sh.one) (fun x5 =>
         .need (Option.isSome a0) (
         .need (Option.isSome a0) (
         .ld (Option.map (fun x => Addr.add x 1) a0) ([Lf.i IntKind.i64]) (fun x6 =>
          .need (Option.isSome a0) (
          .need (Option.isSome a0) (
          .sto (Option.map (fun x => Addr.add x 1) a0) ([AV.v (Value.int IntKind.i64 (IntKind.wrap IntKind.i64 (x6.1 + if x0.1 < a1 then x0.1 else a1)))]) ([]) (
          .need (Option.isSome a0) (
          .need (Option.isSome a0) (
          .ld (Option.map (fun x => Addr.add x 3) a0) ([Lf.sl]) (fun x7 =>
           .need (Option.isSome a0) (
           .need (Option.isSome a0) (
           .ld (Option.map (fun x => Addr.add x 1) a0) ([Lf.i IntKind.i64]) (fun x8 =>
            .need (true && decide (0 < ((x7.1.2.1 : Nat) : Int)) && Option.isSome x7.1.1) (
            .need (Option.isSome (Option.map (fun x => Addr.add x 0) x7.1.1)) (
            .sto (Option.map (fun x => Addr.add x 0) (Option.map (fun x => Addr.add x 0) x7.1.1)) ([AV.v (Value.int IntKind.i64 x8.1)]) ([]) (
            .need (Option.isSome a0) (
            .need (Option.isSome a0) (
            .ld (Option.map (fun x => Addr.add x 3) a0) ([Lf.sl]) (fun x9 =>
             .need (true && decide (0 < ((x9.1.2.1 : Nat) : Int)) && Option.isSome x9.1.1) (
             .need (Option.isSome (Option.map (fun x => Addr.add x 0) x9.1.1)) (
             .ld (Option.map (fun x => Addr.add x 0) (Option.map (fun x => Addr.add x 0) x9.1.1)) ([Lf.i IntKind.i64]) (fun x10 =>
              .need (Option.isSome a0) (
              .need (Option.isSome a0) (
              .ld (Option.map (fun x => Addr.add x 3) a0) ([Lf.sl]) (fun x11 =>
               .need (true && decide (0 < ((x11.1.2.1 : Nat) : Int)) && Option.isSome x11.1.1) (
               .need (Option.isSome (Option.map (fun x => Addr.add x 0) x11.1.1)) (
               .ld (Option.map (fun x => Addr.add x 1) (Option.map (fun x => Addr.add x 0) x11.1.1)) ([Lf.i IntKind.i64]) (fun x12 =>
                bif decide (x12.1 < x10.1) then (
                 .need (Option.isSome a0) (
                 .need (Option.isSome a0) (
                 .ld (Option.map (fun x => Addr.add x 3) a0) ([Lf.sl]) (fun x13 =>
                  .need (true && decide (1 ≤ ((x13.1.2.1 : Nat) : Int)) && decide (((x13.1.2.1 : Nat) : Int) ≤ ((x13.1.2.1 : Nat) : Int))) (
                  .need (Option.isSome a0) (
                  .need (Option.isSome a0) (
                  .sto (Option.map (fun x => Addr.add x 3) a0) ([AV.v (Value.slice (if ((x13.1.2.2 : Nat) : Int) = 1 then x13.1.1 else Option.map (fun x => Addr.add x 2) x13.1.1) (Int.toNat ((x13.1.2.1 : Nat) : Int) - 1) (x13.1.2.2 - 1))]) ([]) (
                  .done (AV.v (Value.slice x2.1.1 x2.1.2.1 x2.1.2.2)) ([])))))))))
                else (
                 .done (AV.v (Value.slice x2.1.1 x2.1.2.1 x2.1.2.2)) ([])))))))))))))))))))))))))))))))))))))))))))) := by kernel_rfl
end Go.Proofs.Ytdjeadgebcndeaa.X
