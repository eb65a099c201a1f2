/- Functions: their trees, functions over lists that answer as they do, and that they do. -/
import Derived.Test.YtdjeadgebcndeaaRxU
import Derived.Test.YtdjeadgebcndeaaRxSeat
import Derived.Test.YtdjeadgebcndeaaProg
import Derived.Test.YtdjeadgebcndeaaRl0
namespace Go.Proofs.Ytdjeadgebcndeaa.X
open Go Go.RowKit Go.Proofs.YtdjeadgebcndeaaW.Rx
set_option linter.unusedVariables false
set_option linter.unusedSimpArgs false
set_option maxRecDepth 10000
/-! ### turnbuckle/turnbucklelaw09.ReasmBack: function 3 -/
def law09_ReasmBack.s2 (k : Nat) (l0 : List Int) (l1 : List (Int × Int)) (l2 : List Int) : ((List Int) × Int × (Int × Int × (List Int) × (List (Int × Int)) × Int × Bool × Bool)) → Option (Sum ((List Int) × Int × (Int × Int × (List Int) × (List (Int × Int)) × Int × Bool × Bool)) Bool) := fun (s2_0, v2_1, q2_b0) => bif decide (v2_1 < ((l1.length : Nat) : Int)) then ((getI l1 v2_1).bind fun r15 => bif decide (0 < (((Int.toNat (if 4096 < ((l0.length : Nat) : Int) then 4096 else ((l0.length : Nat) : Int)) - 0) : Nat) : Int)) then (bif decide ((((Int.toNat (if 4096 < ((l0.length : Nat) : Int) then 4096 else ((l0.length : Nat) : Int)) - 0) : Nat) : Int) ≠ 0) then (bif decide ((0 : Int) ≤ (Int.tmod (IntKind.wrap IntKind.i64 r15.1) (((Int.toNat (if 4096 < ((l0.length : Nat) : Int) then 4096 else ((l0.length : Nat) : Int)) - 0) : Nat) : Int)) ∧ (Int.tmod (IntKind.wrap IntKind.i64 r15.1) (((Int.toNat (if 4096 < ((l0.length : Nat) : Int) then 4096 else ((l0.length : Nat) : Int)) - 0) : Nat) : Int)) ≤ (if (((Int.toNat (if 4096 < ((l0.length : Nat) : Int) then 4096 else ((l0.length : Nat) : Int)) - 0) : Nat) : Int) < IntKind.wrap IntKind.i64 (Int.tmod (IntKind.wrap IntKind.i64 r15.1) (((Int.toNat (if 4096 < ((l0.length : Nat) : Int) then 4096 else ((l0.length : Nat) : Int)) - 0) : Nat) : Int) + IntKind.wrap IntKind.i64 r15.2) then (((Int.toNat (if 4096 < ((l0.length : Nat) : Int) then 4096 else ((l0.length : Nat) : Int)) - 0) : Nat) : Int) else IntKind.wrap IntKind.i64 (Int.tmod (IntKind.wrap IntKind.i64 r15.1) (((Int.toNat (if 4096 < ((l0.length : Nat) : Int) then 4096 else ((l0.length : Nat) : Int)) - 0) : Nat) : Int) + IntKind.wrap IntKind.i64 r15.2)) ∧ (if (((Int.toNat (if 4096 < ((l0.length : Nat) : Int) then 4096 else ((l0.length : Nat) : Int)) - 0) : Nat) : Int) < IntKind.wrap IntKind.i64 (Int.tmod (IntKind.wrap IntKind.i64 r15.1) (((Int.toNat (if 4096 < ((l0.length : Nat) : Int) then 4096 else ((l0.length : Nat) : Int)) - 0) : Nat) : Int) + IntKind.wrap IntKind.i64 r15.2) then (((Int.toNat (if 4096 < ((l0.length : Nat) : Int) then 4096 else ((l0.length : Nat) : Int)) - 0) : Nat) : Int) else IntKind.wrap IntKind.i64 (Int.tmod (IntKind.wrap IntKind.i64 r15.1) (((Int.toNat (if 4096 < ((l0.length : Nat) : Int) then 4096 else ((l0.length : Nat) : Int)) - 0) : Nat) : Int) + IntKind.wrap IntKind.i64 r15.2)) ≤ ((((l0.drop (Int.toNat 0)).take (Int.toNat (if 4096 < ((l0.length : Nat) : Int) then 4096 else ((l0.length : Nat) : Int)) - Int.toNat 0))).length : Int)) then (bif (if (((Int.toNat (if 4096 < ((l0.length : Nat) : Int) then 4096 else ((l0.length : Nat) : Int)) - 0) : Nat) : Int) < IntKind.wrap IntKind.i64 (Int.tmod (IntKind.wrap IntKind.i64 r15.1) (((Int.toNat (if 4096 < ((l0.length : Nat) : Int) then 4096 else ((l0.length : Nat) : Int)) - 0) : Nat) : Int) + IntKind.wrap IntKind.i64 r15.2) then (((Int.toNat (if 4096 < ((l0.length : Nat) : Int) then 4096 else ((l0.length : Nat) : Int)) - 0) : Nat) : Int) else IntKind.wrap IntKind.i64 (Int.tmod (IntKind.wrap IntKind.i64 r15.1) (((Int.toNat (if 4096 < ((l0.length : Nat) : Int) then 4096 else ((l0.length : Nat) : Int)) - 0) : Nat) : Int) + IntKind.wrap IntKind.i64 r15.2)) == (((Int.toNat (if 4096 < ((l0.length : Nat) : Int) then 4096 else ((l0.length : Nat) : Int)) - 0) : Nat) : Int) then ((reasm_Stream_Data.F k q2_b0 (Int.tmod (IntKind.wrap IntKind.i64 r15.1) (((Int.toNat (if 4096 < ((l0.length : Nat) : Int) then 4096 else ((l0.length : Nat) : Int)) - 0) : Nat) : Int)) (((((l0.drop (Int.toNat 0)).take (Int.toNat (if 4096 < ((l0.length : Nat) : Int) then 4096 else ((l0.length : Nat) : Int)) - Int.toNat 0)).drop (Int.toNat (Int.tmod (IntKind.wrap IntKind.i64 r15.1) (((Int.toNat (if 4096 < ((l0.length : Nat) : Int) then 4096 else ((l0.length : Nat) : Int)) - 0) : Nat) : Int)))).take (Int.toNat (if (((Int.toNat (if 4096 < ((l0.length : Nat) : Int) then 4096 else ((l0.length : Nat) : Int)) - 0) : Nat) : Int) < IntKind.wrap IntKind.i64 (Int.tmod (IntKind.wrap IntKind.i64 r15.1) (((Int.toNat (if 4096 < ((l0.length : Nat) : Int) then 4096 else ((l0.length : Nat) : Int)) - 0) : Nat) : Int) + IntKind.wrap IntKind.i64 r15.2) then (((Int.toNat (if 4096 < ((l0.length : Nat) : Int) then 4096 else ((l0.length : Nat) : Int)) - 0) : Nat) : Int) else IntKind.wrap IntKind.i64 (Int.tmod (IntKind.wrap IntKind.i64 r15.1) (((Int.toNat (if 4096 < ((l0.length : Nat) : Int) then 4096 else ((l0.length : Nat) : Int)) - 0) : Nat) : Int) + IntKind.wrap IntKind.i64 r15.2)) - Int.toNat (Int.tmod (IntKind.wrap IntKind.i64 r15.1) (((Int.toNat (if 4096 < ((l0.length : Nat) : Int) then 4096 else ((l0.length : Nat) : Int)) - 0) : Nat) : Int))))) true).bind fun (v4_0, q4) => bif v4_0 != 0 then (some (.inr false)) else (bif decide (v2_1 < ((l2.length : Nat) : Int)) then ((getI l2 v2_1).bind fun r27 => (reasm_Stream_Read.F k q4 (IntKind.wrap IntKind.i64 r27)).bind fun (s6_0, q6) => bif decide ((s2_0.length + s6_0.length) * 1 ≤ 140737488355328) then (bif decide ((((Int.toNat (if 4096 < ((l0.length : Nat) : Int) then 4096 else ((l0.length : Nat) : Int)) - 0) : Nat) : Int) < ((((s2_0 ++ s6_0)).length : Nat) : Int)) then (some (.inr false)) else (bif decide ((0 : Int) ≤ (0 : Int) ∧ (0 : Int) ≤ (((((s2_0 ++ s6_0)).length : Nat) : Int)) ∧ (((((s2_0 ++ s6_0)).length : Nat) : Int)) ≤ ((((l0.drop (Int.toNat 0)).take (Int.toNat (if 4096 < ((l0.length : Nat) : Int) then 4096 else ((l0.length : Nat) : Int)) - Int.toNat 0))).length : Int)) then ((ref01_Same.F k ((s2_0 ++ s6_0)) (((((l0.drop (Int.toNat 0)).take (Int.toNat (if 4096 < ((l0.length : Nat) : Int) then 4096 else ((l0.length : Nat) : Int)) - Int.toNat 0)).drop (Int.toNat 0)).take (Int.toNat (((((s2_0 ++ s6_0)).length : Nat) : Int)) - Int.toNat 0)))).bind fun v8_0 => bif v8_0 then (some (.inl (((s2_0 ++ s6_0), IntKind.wrap IntKind.i64 (v2_1 + 1), q6)))) else (some (.inr false))) else none)) else none) else (bif decide ((((Int.toNat (if 4096 < ((l0.length : Nat) : Int) then 4096 else ((l0.length : Nat) : Int)) - 0) : Nat) : Int) < ((s2_0.length : Nat) : Int)) then (some (.inr false)) else (bif decide ((0 : Int) ≤ (0 : Int) ∧ (0 : Int) ≤ (((s2_0.length : Nat) : Int)) ∧ (((s2_0.length : Nat) : Int)) ≤ ((((l0.drop (Int.toNat 0)).take (Int.toNat (if 4096 < ((l0.length : Nat) : Int) then 4096 else ((l0.length : Nat) : Int)) - Int.toNat 0))).length : Int)) then ((ref01_Same.F k s2_0 (((((l0.drop (Int.toNat 0)).take (Int.toNat (if 4096 < ((l0.length : Nat) : Int) then 4096 else ((l0.length : Nat) : Int)) - Int.toNat 0)).drop (Int.toNat 0)).take (Int.toNat (((s2_0.length : Nat) : Int)) - Int.toNat 0)))).bind fun v5_0 => bif v5_0 then (some (.inl ((s2_0, IntKind.wrap IntKind.i64 (v2_1 + 1), q4)))) else (some (.inr false))) else none)))) else ((reasm_Stream_Data.F k q2_b0 (Int.tmod (IntKind.wrap IntKind.i64 r15.1) (((Int.toNat (if 4096 < ((l0.length : Nat) : Int) then 4096 else ((l0.length : Nat) : Int)) - 0) : Nat) : Int)) (((((l0.drop (Int.toNat 0)).take (Int.toNat (if 4096 < ((l0.length : Nat) : Int) then 4096 else ((l0.length : Nat) : Int)) - Int.toNat 0)).drop (Int.toNat (Int.tmod (IntKind.wrap IntKind.i64 r15.1) (((Int.toNat (if 4096 < ((l0.length : Nat) : Int) then 4096 else ((l0.length : Nat) : Int)) - 0) : Nat) : Int)))).take (Int.toNat (if (((Int.toNat (if 4096 < ((l0.length : Nat) : Int) then 4096 else ((l0.length : Nat) : Int)) - 0) : Nat) : Int) < IntKind.wrap IntKind.i64 (Int.tmod (IntKind.wrap IntKind.i64 r15.1) (((Int.toNat (if 4096 < ((l0.length : Nat) : Int) then 4096 else ((l0.length : Nat) : Int)) - 0) : Nat) : Int) + IntKind.wrap IntKind.i64 r15.2) then (((Int.toNat (if 4096 < ((l0.length : Nat) : Int) then 4096 else ((l0.length : Nat) : Int)) - 0) : Nat) : Int) else IntKind.wrap IntKind.i64 (Int.tmod (IntKind.wrap IntKind.i64 r15.1) (((Int.toNat (if 4096 < ((l0.length : Nat) : Int) then 4096 else ((l0.length : Nat) : Int)) - 0) : Nat) : Int) + IntKind.wrap IntKind.i64 r15.2)) - Int.toNat (Int.tmod (IntKind.wrap IntKind.i64 r15.1) (((Int.toNat (if 4096 < ((l0.length : Nat) : Int) then 4096 else ((l0.length : Nat) : Int)) - 0) : Nat) : Int))))) false).bind fun (v4_0, q4) => bif v4_0 != 0 then (some (.inr false)) else (bif decide (v2_1 < ((l2.length : Nat) : Int)) then ((getI l2 v2_1).bind fun r48 => (reasm_Stream_Read.F k q4 (IntKind.wrap IntKind.i64 r48)).bind fun (s6_0, q6) => bif decide ((s2_0.length + s6_0.length) * 1 ≤ 140737488355328) then (bif decide ((((Int.toNat (if 4096 < ((l0.length : Nat) : Int) then 4096 else ((l0.length : Nat) : Int)) - 0) : Nat) : Int) < ((((s2_0 ++ s6_0)).length : Nat) : Int)) then (some (.inr false)) else (bif decide ((0 : Int) ≤ (0 : Int) ∧ (0 : Int) ≤ (((((s2_0 ++ s6_0)).length : Nat) : Int)) ∧ (((((s2_0 ++ s6_0)).length : Nat) : Int)) ≤ ((((l0.drop (Int.toNat 0)).take (Int.toNat (if 4096 < ((l0.length : Nat) : Int) then 4096 else ((l0.length : Nat) : Int)) - Int.toNat 0))).length : Int)) then ((ref01_Same.F k ((s2_0 ++ s6_0)) (((((l0.drop (Int.toNat 0)).take (Int.toNat (if 4096 < ((l0.length : Nat) : Int) then 4096 else ((l0.length : Nat) : Int)) - Int.toNat 0)).drop (Int.toNat 0)).take (Int.toNat (((((s2_0 ++ s6_0)).length : Nat) : Int)) - Int.toNat 0)))).bind fun v8_0 => bif v8_0 then (some (.inl (((s2_0 ++ s6_0), IntKind.wrap IntKind.i64 (v2_1 + 1), q6)))) else (some (.inr false))) else none)) else none) else (bif decide ((((Int.toNat (if 4096 < ((l0.length : Nat) : Int) then 4096 else ((l0.length : Nat) : Int)) - 0) : Nat) : Int) < ((s2_0.length : Nat) : Int)) then (some (.inr false)) else (bif decide ((0 : Int) ≤ (0 : Int) ∧ (0 : Int) ≤ (((s2_0.length : Nat) : Int)) ∧ (((s2_0.length : Nat) : Int)) ≤ ((((l0.drop (Int.toNat 0)).take (Int.toNat (if 4096 < ((l0.length : Nat) : Int) then 4096 else ((l0.length : Nat) : Int)) - Int.toNat 0))).length : Int)) then ((ref01_Same.F k s2_0 (((((l0.drop (Int.toNat 0)).take (Int.toNat (if 4096 < ((l0.length : Nat) : Int) then 4096 else ((l0.length : Nat) : Int)) - Int.toNat 0)).drop (Int.toNat 0)).take (Int.toNat (((s2_0.length : Nat) : Int)) - Int.toNat 0)))).bind fun v5_0 => bif v5_0 then (some (.inl ((s2_0, IntKind.wrap IntKind.i64 (v2_1 + 1), q4)))) else (some (.inr false))) else none))))) else none) else none) else (bif decide (v2_1 < ((l2.length : Nat) : Int)) then ((getI l2 v2_1).bind fun r65 => (reasm_Stream_Read.F k q2_b0 (IntKind.wrap IntKind.i64 r65)).bind fun (s5_0, q5) => bif decide ((s2_0.length + s5_0.length) * 1 ≤ 140737488355328) then (bif decide ((((Int.toNat (if 4096 < ((l0.length : Nat) : Int) then 4096 else ((l0.length : Nat) : Int)) - 0) : Nat) : Int) < ((((s2_0 ++ s5_0)).length : Nat) : Int)) then (some (.inr false)) else (bif decide ((0 : Int) ≤ (0 : Int) ∧ (0 : Int) ≤ (((((s2_0 ++ s5_0)).length : Nat) : Int)) ∧ (((((s2_0 ++ s5_0)).length : Nat) : Int)) ≤ ((((l0.drop (Int.toNat 0)).take (Int.toNat (if 4096 < ((l0.length : Nat) : Int) then 4096 else ((l0.length : Nat) : Int)) - Int.toNat 0))).length : Int)) then ((ref01_Same.F k ((s2_0 ++ s5_0)) (((((l0.drop (Int.toNat 0)).take (Int.toNat (if 4096 < ((l0.length : Nat) : Int) then 4096 else ((l0.length : Nat) : Int)) - Int.toNat 0)).drop (Int.toNat 0)).take (Int.toNat (((((s2_0 ++ s5_0)).length : Nat) : Int)) - Int.toNat 0)))).bind fun v7_0 => bif v7_0 then (some (.inl (((s2_0 ++ s5_0), IntKind.wrap IntKind.i64 (v2_1 + 1), q5)))) else (some (.inr false))) else none)) else none) else (bif decide ((((Int.toNat (if 4096 < ((l0.length : Nat) : Int) then 4096 else ((l0.length : Nat) : Int)) - 0) : Nat) : Int) < ((s2_0.length : Nat) : Int)) then (some (.inr false)) else (bif decide ((0 : Int) ≤ (0 : Int) ∧ (0 : Int) ≤ (((s2_0.length : Nat) : Int)) ∧ (((s2_0.length : Nat) : Int)) ≤ ((((l0.drop (Int.toNat 0)).take (Int.toNat (if 4096 < ((l0.length : Nat) : Int) then 4096 else ((l0.length : Nat) : Int)) - Int.toNat 0))).length : Int)) then ((ref01_Same.F k s2_0 (((((l0.drop (Int.toNat 0)).take (Int.toNat (if 4096 < ((l0.length : Nat) : Int) then 4096 else ((l0.length : Nat) : Int)) - Int.toNat 0)).drop (Int.toNat 0)).take (Int.toNat (((s2_0.length : Nat) : Int)) - Int.toNat 0)))).bind fun v4_0 => bif v4_0 then (some (.inl ((s2_0, IntKind.wrap IntKind.i64 (v2_1 + 1), q2_b0)))) else (some (.inr false))) else none)))) else ((reasm_Stream_Data.F k q2_b0 0 (((l0.drop (Int.toNat 0)).take (Int.toNat (if 4096 < ((l0.length : Nat) : Int) then 4096 else ((l0.length : Nat) : Int)) - Int.toNat 0))) true).bind fun (v3_0, q3) => bif v3_0 != 0 then (some (.inr false)) else ((reasm_Stream_Read.F k q3 (IntKind.wrap IntKind.i64 ((((Int.toNat (if 4096 < ((l0.length : Nat) : Int) then 4096 else ((l0.length : Nat) : Int)) - 0) : Nat) : Int) + 1))).bind fun (s4_0, q4) => bif decide ((s2_0.length + s4_0.length) * 1 ≤ 140737488355328) then ((ref01_Same.F k ((s2_0 ++ s4_0)) (((l0.drop (Int.toNat 0)).take (Int.toNat (if 4096 < ((l0.length : Nat) : Int) then 4096 else ((l0.length : Nat) : Int)) - Int.toNat 0)))).bind fun v6_0 => bif v6_0 then ((reasm_Stream_Over.F k (some q4)).bind fun v7_0 => bif v7_0 then (some (.inr true)) else (some (.inr false))) else (some (.inr false))) else none))
def law09_ReasmBack.F (k : Nat) (l0 : List Int) (l1 : List (Int × Int)) (l2 : List Int) : Option Bool := (reasm_New.F k 4096).bind fun (p0, v0_1) => match p0 with | none => bif v0_1 != 0 then (some false) else (some false) | some q0 => bif v0_1 != 0 then (some false) else ((law09_alive.F k ).bind fun v1_0 => bif v1_0 then (bif decide ((0 : Int) ≤ (0 : Int) ∧ (0 : Int) ≤ (if 4096 < ((l0.length : Nat) : Int) then 4096 else ((l0.length : Nat) : Int)) ∧ (if 4096 < ((l0.length : Nat) : Int) then 4096 else ((l0.length : Nat) : Int)) ≤ (l0.length : Int)) then (iter (law09_ReasmBack.s2 k l0 l1 l2) k ([], 0, q0)) else none) else (some false))
abbrev law09_ReasmBack.A : Nat → LA := fun r => if r = 7 then ⟨[(9, false, [Lf.sl]), (35, false, [Lf.i IntKind.i64])], []⟩ else ⟨[], []⟩
set_option maxHeartbeats 4000000 in
theorem law09_ReasmBack.t (A0 : Option Addr) (n0 c0 : Nat) (A1 : Option Addr) (n1 c1 : Nat) (A2 : Option Addr) (n2 c2 : Nat) : tree Try.prog law09_ReasmBack.A noC Try.f3 [AV.v (Value.slice A0 n0 c0), AV.v (Value.slice A1 n1 c1), AV.v (Value.slice A2 n2 c2)] [] =
  .call 8 ([AV.v (Value.int IntKind.i64 4096)]) ([]) (Sh.tup [(false, 1), (false, 1)]) ([Lf.p, Lf.i IntKind.i64]) ([]) (fun x0 =>
   bif x0.2.1 != 0 then (
    .done (AV.v (Value.bool false)) ([]))
   else (
    bif Option.isNone x0.1 then (
     .done (AV.v (Value.bool false)) ([]))
    else (
     .call 9 ([]) ([]) (Sh.one) ([Lf.b]) ([]) (fun x1 =>
      bif x1.1 then (
       .need (true && decide (0 ≤ if 4096 < ((n0 : Nat) : Int) then 4096 else ((n0 : Nat) : Int)) && decide ((if 4096 < ((n0 : Nat) : Int) then 4096 else ((n0 : Nat) : Int)) ≤ ((c0 : Nat) : Int))) (
       .loop ([Lf.sl, Lf.i IntKind.i64]) (((none, 0, 0), 0, PUnit.unit)) 0 (fun x2 =>
        bif decide (x2.2.1 < ((n1 : Nat) : Int)) then (
         .need (decide (0 ≤ x2.2.1) && decide (x2.2.1 < ((n1 : Nat) : Int)) && Option.isSome A1) (
         .ld (Option.map (fun x => Addr.add x (Int.toNat x2.2.1 * 2)) A1) ([Lf.i IntKind.u8, Lf.i IntKind.u8]) (fun x3 =>
          bif decide (0 < (((Int.toNat (if 4096 < ((n0 : Nat) : Int) then 4096 else ((n0 : Nat) : Int)) - 0) : Nat) : Int)) then (
           .need (decide ((((Int.toNat (if 4096 < ((n0 : Nat) : Int) then 4096 else ((n0 : Nat) : Int)) - 0) : Nat) : Int) ≠ 0)) (
           .need (decide (0 ≤ Int.tmod (IntKind.wrap IntKind.i64 x3.1) (((Int.toNat (if 4096 < ((n0 : Nat) : Int) then 4096 else ((n0 : Nat) : Int)) - 0) : Nat) : Int)) && decide (Int.tmod (IntKind.wrap IntKind.i64 x3.1) (((Int.toNat (if 4096 < ((n0 : Nat) : Int) then 4096 else ((n0 : Nat) : Int)) - 0) : Nat) : Int) ≤ if (((Int.toNat (if 4096 < ((n0 : Nat) : Int) then 4096 else ((n0 : Nat) : Int)) - 0) : Nat) : Int) < IntKind.wrap IntKind.i64 (Int.tmod (IntKind.wrap IntKind.i64 x3.1) (((Int.toNat (if 4096 < ((n0 : Nat) : Int) then 4096 else ((n0 : Nat) : Int)) - 0) : Nat) : Int) + IntKind.wrap IntKind.i64 x3.2.1) then (((Int.toNat (if 4096 < ((n0 : Nat) : Int) then 4096 else ((n0 : Nat) : Int)) - 0) : Nat) : Int) else IntKind.wrap IntKind.i64 (Int.tmod (IntKind.wrap IntKind.i64 x3.1) (((Int.toNat (if 4096 < ((n0 : Nat) : Int) then 4096 else ((n0 : Nat) : Int)) - 0) : Nat) : Int) + IntKind.wrap IntKind.i64 x3.2.1)) && decide ((if (((Int.toNat (if 4096 < ((n0 : Nat) : Int) then 4096 else ((n0 : Nat) : Int)) - 0) : Nat) : Int) < IntKind.wrap IntKind.i64 (Int.tmod (IntKind.wrap IntKind.i64 x3.1) (((Int.toNat (if 4096 < ((n0 : Nat) : Int) then 4096 else ((n0 : Nat) : Int)) - 0) : Nat) : Int) + IntKind.wrap IntKind.i64 x3.2.1) then (((Int.toNat (if 4096 < ((n0 : Nat) : Int) then 4096 else ((n0 : Nat) : Int)) - 0) : Nat) : Int) else IntKind.wrap IntKind.i64 (Int.tmod (IntKind.wrap IntKind.i64 x3.1) (((Int.toNat (if 4096 < ((n0 : Nat) : Int) then 4096 else ((n0 : Nat) : Int)) - 0) : Nat) : Int) + IntKind.wrap IntKind.i64 x3.2.1)) ≤ (((c0 - 0) : Nat) : Int))) (
           bif (if (((Int.toNat (if 4096 < ((n0 : Nat) : Int) then 4096 else ((n0 : Nat) : Int)) - 0) : Nat) : Int) < IntKind.wrap IntKind.i64 (Int.tmod (IntKind.wrap IntKind.i64 x3.1) (((Int.toNat (if 4096 < ((n0 : Nat) : Int) then 4096 else ((n0 : Nat) : Int)) - 0) : Nat) : Int) + IntKind.wrap IntKind.i64 x3.2.1) then (((Int.toNat (if 4096 < ((n0 : Nat) : Int) then 4096 else ((n0 : Nat) : Int)) - 0) : Nat) : Int) else IntKind.wrap IntKind.i64 (Int.tmod (IntKind.wrap IntKind.i64 x3.1) (((Int.toNat (if 4096 < ((n0 : Nat) : Int) then 4096 else ((n0 : Nat) : Int)) - 0) : Nat) : Int) + IntKind.wrap IntKind.i64 x3.2.1)) == (((Int.toNat (if 4096 < ((n0 : Nat) : Int) then 4096 else ((n0 : Nat) : Int)) - 0) : Nat) : Int) then (
            .call 10 ([AV.v (Value.pointer x0.1), AV.v (Value.int IntKind.i64 (Int.tmod (IntKind.wrap IntKind.i64 x3.1) (((Int.toNat (if 4096 < ((n0 : Nat) : Int) then 4096 else ((n0 : Nat) : Int)) - 0) : Nat) : Int))), AV.v (Value.slice (if (((c0 - 0) : Nat) : Int) = Int.tmod (IntKind.wrap IntKind.i64 x3.1) (((Int.toNat (if 4096 < ((n0 : Nat) : Int) then 4096 else ((n0 : Nat) : Int)) - 0) : Nat) : Int) then if ((c0 : Nat) : Int) = 0 then A0 else Option.map (fun x => Addr.add x 0) A0 else Option.map (fun x => Addr.add x (Int.toNat (Int.tmod (IntKind.wrap IntKind.i64 x3.1) (((Int.toNat (if 4096 < ((n0 : Nat) : Int) then 4096 else ((n0 : Nat) : Int)) - 0) : Nat) : Int)) * 1)) (if ((c0 : Nat) : Int) = 0 then A0 else Option.map (fun x => Addr.add x 0) A0)) (Int.toNat (if (((Int.toNat (if 4096 < ((n0 : Nat) : Int) then 4096 else ((n0 : Nat) : Int)) - 0) : Nat) : Int) < IntKind.wrap IntKind.i64 (Int.tmod (IntKind.wrap IntKind.i64 x3.1) (((Int.toNat (if 4096 < ((n0 : Nat) : Int) then 4096 else ((n0 : Nat) : Int)) - 0) : Nat) : Int) + IntKind.wrap IntKind.i64 x3.2.1) then (((Int.toNat (if 4096 < ((n0 : Nat) : Int) then 4096 else ((n0 : Nat) : Int)) - 0) : Nat) : Int) else IntKind.wrap IntKind.i64 (Int.tmod (IntKind.wrap IntKind.i64 x3.1) (((Int.toNat (if 4096 < ((n0 : Nat) : Int) then 4096 else ((n0 : Nat) : Int)) - 0) : Nat) : Int) + IntKind.wrap IntKind.i64 x3.2.1)) - Int.toNat (Int.tmod (IntKind.wrap IntKind.i64 x3.1) (((Int.toNat (if 4096 < ((n0 : Nat) : Int) then 4096 else ((n0 : Nat) : Int)) - 0) : Nat) : Int))) (c0 - 0 - Int.toNat (Int.tmod (IntKind.wrap IntKind.i64 x3.1) (((Int.toNat (if 4096 < ((n0 : Nat) : Int) then 4096 else ((n0 : Nat) : Int)) - 0) : Nat) : Int)))), AV.v (Value.bool true)]) ([]) (Sh.one) ([Lf.i IntKind.i64]) ([]) (fun x4 =>
             bif x4.1 != 0 then (
              .done (AV.v (Value.bool false)) ([]))
             else (
              bif decide (x2.2.1 < ((n2 : Nat) : Int)) then (
               .need (decide (0 ≤ x2.2.1) && decide (x2.2.1 < ((n2 : Nat) : Int)) && Option.isSome A2) (
               .ld (Option.map (fun x => Addr.add x (Int.toNat x2.2.1 * 1)) A2) ([Lf.i IntKind.u8]) (fun x5 =>
                .call 11 ([AV.v (Value.pointer x0.1), AV.v (Value.int IntKind.i64 (IntKind.wrap IntKind.i64 x5.1))]) ([]) (Sh.one) ([Lf.sl]) ([]) (fun x6 =>
                 .sem (Builtin.append_ { toList := [22, 22] } 22 { toList := [Value.slice x2.1.1 x2.1.2.1 x2.1.2.2, Value.slice x6.1.1 x6.1.2.1 x6.1.2.2] }) ([Lf.sl]) (Sh.one) (fun x7 =>
                  bif decide ((((Int.toNat (if 4096 < ((n0 : Nat) : Int) then 4096 else ((n0 : Nat) : Int)) - 0) : Nat) : Int) < ((x7.1.2.1 : Nat) : Int)) then (
                   .done (AV.v (Value.bool false)) ([]))
                  else (
                   .need (true && decide (((x7.1.2.1 : Nat) : Int) ≤ (((c0 - 0) : Nat) : Int))) (
                   .call 12 ([AV.v (Value.slice x7.1.1 x7.1.2.1 x7.1.2.2), AV.v (Value.slice (if (((c0 - 0) : Nat) : Int) = 0 then if ((c0 : Nat) : Int) = 0 then A0 else Option.map (fun x => Addr.add x 0) A0 else Option.map (fun x => Addr.add x 0) (if ((c0 : Nat) : Int) = 0 then A0 else Option.map (fun x => Addr.add x 0) A0)) (Int.toNat ((x7.1.2.1 : Nat) : Int) - 0) (c0 - 0 - 0))]) ([]) (Sh.one) ([Lf.b]) ([]) (fun x8 =>
                    bif x8.1 then (
                     .again 0 ([Lf.sl, Lf.i IntKind.i64]) (((x7.1.1, x7.1.2.1, x7.1.2.2), IntKind.wrap IntKind.i64 (x2.2.1 + 1), PUnit.unit)))
                    else (
                     .done (AV.v (Value.bool false)) ([]))))))))))
              else (
               bif decide ((((Int.toNat (if 4096 < ((n0 : Nat) : Int) then 4096 else ((n0 : Nat) : Int)) - 0) : Nat) : Int) < ((x2.1.2.1 : Nat) : Int)) then (
                .done (AV.v (Value.bool false)) ([]))
               else (
                .need (true && decide (((x2.1.2.1 : Nat) : Int) ≤ (((c0 - 0) : Nat) : Int))) (
                .call 12 ([AV.v (Value.slice x2.1.1 x2.1.2.1 x2.1.2.2), AV.v (Value.slice (if (((c0 - 0) : Nat) : Int) = 0 then if ((c0 : Nat) : Int) = 0 then A0 else Option.map (fun x => Addr.add x 0) A0 else Option.map (fun x => Addr.add x 0) (if ((c0 : Nat) : Int) = 0 then A0 else Option.map (fun x => Addr.add x 0) A0)) (Int.toNat ((x2.1.2.1 : Nat) : Int) - 0) (c0 - 0 - 0))]) ([]) (Sh.one) ([Lf.b]) ([]) (fun x5 =>
                 bif x5.1 then (
                  .again 0 ([Lf.sl, Lf.i IntKind.i64]) (((x2.1.1, x2.1.2.1, x2.1.2.2), IntKind.wrap IntKind.i64 (x2.2.1 + 1), PUnit.unit)))
                 else (
                  .done (AV.v (Value.bool false)) ([])))))))))
           else (
            .call 10 ([AV.v (Value.pointer x0.1), AV.v (Value.int IntKind.i64 (Int.tmod (IntKind.wrap IntKind.i64 x3.1) (((Int.toNat (if 4096 < ((n0 : Nat) : Int) then 4096 else ((n0 : Nat) : Int)) - 0) : Nat) : Int))), AV.v (Value.slice (if (((c0 - 0) : Nat) : Int) = Int.tmod (IntKind.wrap IntKind.i64 x3.1) (((Int.toNat (if 4096 < ((n0 : Nat) : Int) then 4096 else ((n0 : Nat) : Int)) - 0) : Nat) : Int) then if ((c0 : Nat) : Int) = 0 then A0 else Option.map (fun x => Addr.add x 0) A0 else Option.map (fun x => Addr.add x (Int.toNat (Int.tmod (IntKind.wrap IntKind.i64 x3.1) (((Int.toNat (if 4096 < ((n0 : Nat) : Int) then 4096 else ((n0 : Nat) : Int)) - 0) : Nat) : Int)) * 1)) (if ((c0 : Nat) : Int) = 0 then A0 else Option.map (fun x => Addr.add x 0) A0)) (Int.toNat (if (((Int.toNat (if 4096 < ((n0 : Nat) : Int) then 4096 else ((n0 : Nat) : Int)) - 0) : Nat) : Int) < IntKind.wrap IntKind.i64 (Int.tmod (IntKind.wrap IntKind.i64 x3.1) (((Int.toNat (if 4096 < ((n0 : Nat) : Int) then 4096 else ((n0 : Nat) : Int)) - 0) : Nat) : Int) + IntKind.wrap IntKind.i64 x3.2.1) then (((Int.toNat (if 4096 < ((n0 : Nat) : Int) then 4096 else ((n0 : Nat) : Int)) - 0) : Nat) : Int) else IntKind.wrap IntKind.i64 (Int.tmod (IntKind.wrap IntKind.i64 x3.1) (((Int.toNat (if 4096 < ((n0 : Nat) : Int) then 4096 else ((n0 : Nat) : Int)) - 0) : Nat) : Int) + IntKind.wrap IntKind.i64 x3.2.1)) - Int.toNat (Int.tmod (IntKind.wrap IntKind.i64 x3.1) (((Int.toNat (if 4096 < ((n0 : Nat) : Int) then 4096 else ((n0 : Nat) : Int)) - 0) : Nat) : Int))) (c0 - 0 - Int.toNat (Int.tmod (IntKind.wrap IntKind.i64 x3.1) (((Int.toNat (if 4096 < ((n0 : Nat) : Int) then 4096 else ((n0 : Nat) : Int)) - 0) : Nat) : Int)))), AV.v (Value.bool false)]) ([]) (Sh.one) ([Lf.i IntKind.i64]) ([]) (fun x4 =>
             bif x4.1 != 0 then (
              .done (AV.v (Value.bool false)) ([]))
             else (
              bif decide (x2.2.1 < ((n2 : Nat) : Int)) then (
               .need (decide (0 ≤ x2.2.1) && decide (x2.2.1 < ((n2 : Nat) : Int)) && Option.isSome A2) (
               .ld (Option.map (fun x => Addr.add x (Int.toNat x2.2.1 * 1)) A2) ([Lf.i IntKind.u8]) (fun x5 =>
                .call 11 ([AV.v (Value.pointer x0.1), AV.v (Value.int IntKind.i64 (IntKind.wrap IntKind.i64 x5.1))]) ([]) (Sh.one) ([Lf.sl]) ([]) (fun x6 =>
                 .sem (Builtin.append_ { toList := [22, 22] } 22 { toList := [Value.slice x2.1.1 x2.1.2.1 x2.1.2.2, Value.slice x6.1.1 x6.1.2.1 x6.1.2.2] }) ([Lf.sl]) (Sh.one) (fun x7 =>
                  bif decide ((((Int.toNat (if 4096 < ((n0 : Nat) : Int) then 4096 else ((n0 : Nat) : Int)) - 0) : Nat) : Int) < ((x7.1.2.1 : Nat) : Int)) then (
                   .done (AV.v (Value.bool false)) ([]))
                  else (
                   .need (true && decide (((x7.1.2.1 : Nat) : Int) ≤ (((c0 - 0) : Nat) : Int))) (
                   .call 12 ([AV.v (Value.slice x7.1.1 x7.1.2.1 x7.1.2.2), AV.v (Value.slice (if (((c0 - 0) : Nat) : Int) = 0 then if ((c0 : Nat) : Int) = 0 then A0 else Option.map (fun x => Addr.add x 0) A0 else Option.map (fun x => Addr.add x 0) (if ((c0 : Nat) : Int) = 0 then A0 else Option.map (fun x => Addr.add x 0) A0)) (Int.toNat ((x7.1.2.1 : Nat) : Int) - 0) (c0 - 0 - 0))]) ([]) (Sh.one) ([Lf.b]) ([]) (fun x8 =>
                    bif x8.1 then (
                     .again 0 ([Lf.sl, Lf.i IntKind.i64]) (((x7.1.1, x7.1.2.1, x7.1.2.2), IntKind.wrap IntKind.i64 (x2.2.1 + 1), PUnit.unit)))
                    else (
                     .done (AV.v (Value.bool false)) ([]))))))))))
              else (
               bif decide ((((Int.toNat (if 4096 < ((n0 : Nat) : Int) then 4096 else ((n0 : Nat) : Int)) - 0) : Nat) : Int) < ((x2.1.2.1 : Nat) : Int)) then (
                .done (AV.v (Value.bool false)) ([]))
               else (
                .need (true && decide (((x2.1.2.1 : Nat) : Int) ≤ (((c0 - 0) : Nat) : Int))) (
                .call 12 ([AV.v (Value.slice x2.1.1 x2.1.2.1 x2.1.2.2), AV.v (Value.slice (if (((c0 - 0) : Nat) : Int) = 0 then if ((c0 : Nat) : Int) = 0 then A0 else Option.map (fun x => Addr.add x 0) A0 else Option.map (fun x => Addr.add x 0) (if ((c0 : Nat) : Int) = 0 then A0 else Option.map (fun x => Addr.add x 0) A0)) (Int.toNat ((x2.1.2.1 : Nat) : Int) - 0) (c0 - 0 - 0))]) ([]) (Sh.one) ([Lf.b]) ([]) (fun x5 =>
                 bif x5.1 then (
                  .again 0 ([Lf.sl, Lf.i IntKind.i64]) (((x2.1.1, x2.1.2.1, x2.1.2.2), IntKind.wrap IntKind.i64 (x2.2.1 + 1), PUnit.unit)))
                 else (
                  .done (AV.v (Value.bool false)) ([]))))))))))))
          else (
           bif decide (x2.2.1 < ((n2 : Nat) : Int)) then (
            .need (decide (0 ≤ x2.2.1) && decide (x2.2.1 < ((n2 : Nat) : Int)) && Option.isSome A2) (
            .ld (Option.map (fun x => Addr.add x (Int.toNat x2.2.1 * 1)) A2) ([Lf.i IntKind.u8]) (fun x4 =>
             .call 11 ([AV.v (Value.pointer x0.1), AV.v (Value.int IntKind.i64 (IntKind.wrap IntKind.i64 x4.1))]) ([]) (Sh.one) ([Lf.sl]) ([]) (fun x5 =>
              .sem (Builtin.append_ { toList := [22, 22] } 22 { toList := [Value.slice x2.1.1 x2.1.2.1 x2.1.2.2, Value.slice x5.1.1 x5.1.2.1 x5.1.2.2] }) ([Lf.sl]) (Sh.one) (fun x6 =>
               bif decide ((((Int.toNat (if 4096 < ((n0 : Nat) : Int) then 4096 else ((n0 : Nat) : Int)) - 0) : Nat) : Int) < ((x6.1.2.1 : Nat) : Int)) then (
                .done (AV.v (Value.bool false)) ([]))
               else (
                .need (true && decide (((x6.1.2.1 : Nat) : Int) ≤ (((c0 - 0) : Nat) : Int))) (
                .call 12 ([AV.v (Value.slice x6.1.1 x6.1.2.1 x6.1.2.2), AV.v (Value.slice (if (((c0 - 0) : Nat) : Int) = 0 then if ((c0 : Nat) : Int) = 0 then A0 else Option.map (fun x => Addr.add x 0) A0 else Option.map (fun x => Addr.add x 0) (if ((c0 : Nat) : Int) = 0 then A0 else Option.map (fun x => Addr.add x 0) A0)) (Int.toNat ((x6.1.2.1 : Nat) : Int) - 0) (c0 - 0 - 0))]) ([]) (Sh.one) ([Lf.b]) ([]) (fun x7 =>
                 bif x7.1 then (
                  .again 0 ([Lf.sl, Lf.i IntKind.i64]) (((x6.1.1, x6.1.2.1, x6.1.2.2), IntKind.wrap IntKind.i64 (x2.2.1 + 1), PUnit.unit)))
                 else (
                  .done (AV.v (Value.bool false)) ([]))))))))))
           else (
            bif decide ((((Int.toNat (if 4096 < ((n0 : Nat) : Int) then 4096 else ((n0 : Nat) : Int)) - 0) : Nat) : Int) < ((x2.1.2.1 : Nat) : Int)) then (
             .done (AV.v (Value.bool false)) ([]))
            else (
             .need (true && decide (((x2.1.2.1 : Nat) : Int) ≤ (((c0 - 0) : Nat) : Int))) (
             .call 12 ([AV.v (Value.slice x2.1.1 x2.1.2.1 x2.1.2.2), AV.v (Value.slice (if (((c0 - 0) : Nat) : Int) = 0 then if ((c0 : Nat) : Int) = 0 then A0 else Option.map (fun x => Addr.add x 0) A0 else Option.map (fun x => Addr.add x 0) (if ((c0 : Nat) : Int) = 0 then A0 else Option.map (fun x => Addr.add x 0) A0)) (Int.toNat ((x2.1.2.1 : Nat) : Int) - 0) (c0 - 0 - 0))]) ([]) (Sh.one) ([Lf.b]) ([]) (fun x4 =>
              bif x4.1 then (
               .again 0 ([Lf.sl, Lf.i IntKind.i64]) (((x2.1.1, x2.1.2.1, x2.1.2.2), IntKind.wrap IntKind.i64 (x2.2.1 + 1), PUnit.unit)))
              else (
               .done (AV.v (Value.bool false)) ([]))))))))))
        else (
         .call 10 ([AV.v (Value.pointer x0.1), AV.v (Value.int IntKind.i64 0), AV.v (Value.slice (if ((c0 : Nat) : Int) = 0 then A0 else Option.map (fun x => Addr.add x 0) A0) (Int.toNat (if 4096 < ((n0 : Nat) : Int) then 4096 else ((n0 : Nat) : Int)) - 0) (c0 - 0)), AV.v (Value.bool true)]) ([]) (Sh.one) ([Lf.i IntKind.i64]) ([]) (fun x3 =>
          bif x3.1 != 0 then (
           .done (AV.v (Value.bool false)) ([]))
          else (
           .call 11 ([AV.v (Value.pointer x0.1), AV.v (Value.int IntKind.i64 (IntKind.wrap IntKind.i64 ((((Int.toNat (if 4096 < ((n0 : Nat) : Int) then 4096 else ((n0 : Nat) : Int)) - 0) : Nat) : Int) + 1)))]) ([]) (Sh.one) ([Lf.sl]) ([]) (fun x4 =>
            .sem (Builtin.append_ { toList := [22, 22] } 22 { toList := [Value.slice x2.1.1 x2.1.2.1 x2.1.2.2, Value.slice x4.1.1 x4.1.2.1 x4.1.2.2] }) ([Lf.sl]) (Sh.one) (fun x5 =>
             .call 12 ([AV.v (Value.slice x5.1.1 x5.1.2.1 x5.1.2.2), AV.v (Value.slice (if ((c0 : Nat) : Int) = 0 then A0 else Option.map (fun x => Addr.add x 0) A0) (Int.toNat (if 4096 < ((n0 : Nat) : Int) then 4096 else ((n0 : Nat) : Int)) - 0) (c0 - 0))]) ([]) (Sh.one) ([Lf.b]) ([]) (fun x6 =>
              bif x6.1 then (
               .call 13 ([AV.v (Value.pointer x0.1)]) ([]) (Sh.one) ([Lf.b]) ([]) (fun x7 =>
                bif x7.1 then (
                 .done (AV.v (Value.bool true)) ([]))
                else (
                 .done (AV.v (Value.bool false)) ([]))))
              else (
               .done (AV.v (Value.bool false)) ([])))))))))))
      else (
       .done (AV.v (Value.bool false)) ([])))))) := by kernel_rfl
set_option maxHeartbeats 4000000 in
theorem law09_ReasmBack.c (k : Nat) (A0 : Option Addr) (n0 c0 : Nat) (l0 : List Int) (A1 : Option Addr) (n1 c1 : Nat) (l1 : List (Int × Int)) (A2 : Option Addr) (n2 c2 : Nat) (l2 : List Int) (r : Bool) (h : law09_ReasmBack.F k l0 l1 l2 = some r) (hn0 : n0 = l0.length) (hn1 : n1 = l1.length) (hn2 : n2 = l2.length) (w : World) (hS0 : SlR R22.row (fun _ => False) w A0 c0 l0) (hS1 : SlR R23.row (fun _ => False) w A1 c1 l1) (hS2 : SlR R22.row (fun _ => False) w A2 c2 l2) : Calls Try.prog 3 (AV.gs id [AV.v (Value.slice A0 n0 c0), AV.v (Value.slice A1 n1 c1), AV.v (Value.slice A2 n2 c2)]).toArray w fun e w' => e = .returned (((Sh.one : Sh).av (vs [Lf.b] (r, ()))).g id) ∧ Below w.heap.size w w' := by
  subst hn0
  subst hn1
  subst hn2
  refine enter0 mixed law09_ReasmBack.A noC [AV.v (Value.slice A0 l0.length c0), AV.v (Value.slice A1 l1.length c1), AV.v (Value.slice A2 l2.length c2)] Try.func3 rfl rfl rfl (fun hF => ?_)
  rw [law09_ReasmBack.t]
  unfold law09_ReasmBack.F at h
  try dsimp only at h
  obtain ⟨r0, hr0, h⟩ := Option.bind_eq_some_iff.1 h
  obtain ⟨p0, v0_1⟩ := r0
  try dsimp only at h
  refine ok_callm rfl (fun L0 w0 g0 lt0 => ?_)
  refine (reasm_New.c k 4096 (p0, v0_1) hr0  w0 ).mono ?_
  rintro e w0' ⟨b0, A0_w2, c0_w2, A0_w3, c0_w3, rfl, hb0, hN0⟩
  refine ⟨(b0, v0_1, ()), rfl, hb0, fun g0' => ?_⟩
  try dsimp only
  cases p0 with
  | none =>
    obtain rfl := hN0
    have hF := hF.trans g0'
    refine ok_if (fun hc1 => ?_) (fun hc1 => ?_)
    · have h := bif_t h hc1
      obtain rfl := Option.some.inj h
      intro ρ L w' _ he _ _
      exact ⟨rfl, (hF.ext he).below⟩
    · have h := bif_f h hc1
      refine ok_if (fun hc2 => ?_) (fun hc2 => absurd (hc2.symm.trans rfl) (by decide))
      obtain rfl := Option.some.inj h
      intro ρ L w' _ he _ _
      exact ⟨rfl, (hF.ext he).below⟩
  | some q0 =>
    obtain ⟨hWn0, hWn0_2, hWn0_3, djn0_1_0, djn0_2_0, djn0_2_1⟩ := hN0
    have hmn0 : ∀ b, blk (b0, 0, 0) b → (fun _ => False) b ∨ w.heap.size ≤ b := fun b hb => Or.inr (Nat.le_trans (hF.trans g0).size (hWn0.lt b hb).2.2)
    have hmn0_2 : ∀ b, blk (A0_w2, 0, 0) b → (fun _ => False) b ∨ w.heap.size ≤ b := fun b hb => Or.inr (Nat.le_trans (hF.trans g0).size (hWn0_2.lt b hb).2.2)
    have hmn0_3 : ∀ b, blk (A0_w3, 0, 0) b → (fun _ => False) b ∨ w.heap.size ≤ b := fun b hb => Or.inr (Nat.le_trans (hF.trans g0).size (hWn0_3.lt b hb).2.2)
    have hWn0 := hWn0.call0 lt0
    have hWn0_2 := hWn0_2.call0 lt0
    have hWn0_3 := hWn0_3.call0 lt0
    have hF := hF.trans g0'
    have hA_b0 : Option.isSome b0 = true := hWn0.sl.some (by simp)
    have hN_b0 : Option.isNone b0 = false := by cases b0 <;> simp_all
    refine ok_if (fun hc6 => ?_) (fun hc6 => ?_)
    · have h := bif_t h hc6
      obtain rfl := Option.some.inj h
      intro ρ L w' _ he _ _
      exact ⟨rfl, (hF.ext he).below⟩
    · have h := bif_f h hc6
      refine ok_if (fun hc93 => absurd (hc93.symm.trans hN_b0) (by decide)) (fun hc93 => ?_)
      obtain ⟨v1_0, hr1, h⟩ := Option.bind_eq_some_iff.1 h
      refine ok_callm rfl (fun L1 w1 g1 lt1 => ?_)
      refine (law09_alive.c k  v1_0 hr1  w1 ).mono ?_
      rintro e w1' ⟨rfl, hb1⟩
      refine ⟨(v1_0, ()), rfl, hb1, fun g1' => ?_⟩
      try dsimp only
      have hF := hF.trans g1'
      have hWn0 := hWn0.later g1'
      have hWn0_2 := hWn0_2.later g1'
      have hWn0_3 := hWn0_3.later g1'
      refine ok_if (fun hc7 => ?_) (fun hc7 => ?_)
      · have h := bif_t h hc7
        obtain ⟨hs8, h⟩ := bif_need h
        have hs8 := of_decide_eq_true hs8
        have hcap := (hS0.later hF).2.1
        refine ok_need (by first | exact part3 hs8 hcap | exact part3 hs8 (Nat.le_refl _)) ?_
        obtain ⟨I2, hI2⟩ : ∃ I : Nat → Tup [Lf.sl, Lf.i IntKind.i64] → (Nat → Prop) → World → Prop, I = (fun m_ y L w' => ∃ (A2_0 : Option Addr) (c2_0 : Nat) (s2_0 : List Int) (v2_1 : Int) (q2_b0 : Int × Int × (List Int) × (List (Int × Int)) × Int × Bool × Bool) (A2_b0_2 : Option Addr) (c2_b0_2 : Nat) (A2_b0_3 : Option Addr) (c2_b0_3 : Nat), y = ((A2_0, s2_0.length, c2_0), v2_1, ()) ∧ iter (law09_ReasmBack.s2 k l0 l1 l2) m_ (s2_0, v2_1, q2_b0) = some r ∧ Fine (fun _ => False) w L w' ∧ OwnF w.heap.size L w' 5 R22 A2_0 c2_0 s2_0 ∧ OwnO 0 L w' 45 RW45 b0 1 [(q2_b0.1, q2_b0.2.1, (A2_b0_2, q2_b0.2.2.1.length, c2_b0_2), (A2_b0_3, q2_b0.2.2.2.1.length, c2_b0_3), q2_b0.2.2.2.2.1, q2_b0.2.2.2.2.2.1, q2_b0.2.2.2.2.2.2)] ∧ OwnO 0 L w' 5 R22 A2_b0_2 c2_b0_2 q2_b0.2.2.1 ∧ OwnO 0 L w' 51 R43 A2_b0_3 c2_b0_3 q2_b0.2.2.2.1 ∧ Dj b0 A2_0 ∧ Dj A2_b0_2 A2_0 ∧ Dj A2_b0_2 b0 ∧ Dj A2_b0_3 A2_0 ∧ Dj A2_b0_3 b0 ∧ Dj A2_b0_3 A2_b0_2 ∧ (∀ b, blk (A2_b0_2, 0, 0) b → (fun _ => False) b ∨ w.heap.size ≤ b) ∧ (∀ b, blk (A2_b0_3, 0, 0) b → (fun _ => False) b ∨ w.heap.size ≤ b)) := ⟨_, rfl⟩
        refine ok_loop I2 k (by rw [hI2]; exact ⟨none, 0, [], _, q0, A0_w2, c0_w2, A0_w3, c0_w3, rfl, h, hF, OwnF.nil _ _ _ _ _, hWn0, hWn0_2, hWn0_3, Dj.nil, Dj.nil, djn0_1_0, Dj.nil, djn0_2_0, djn0_2_1, hmn0_2, hmn0_3⟩) ?_
        clear h
        intro m_ y L2 w2 hy
        rw [hI2] at hy
        obtain ⟨A2_0, c2_0, s2_0, v2_1, q2_b0, A2_b0_2, c2_b0_2, A2_b0_3, c2_b0_3, rfl, h, hF, hO_s2_0, hW2_b0, hW2_b0_2, hW2_b0_3, dj_w11_s2_0, dj_w12_s2_0, dj_w12_w11, dj_w13_s2_0, dj_w13_w11, dj_w13_w12, hm2_b0_2, hm2_b0_3⟩ := hy
        obtain ⟨m2, o2, rfl, h, hl2, hr_2⟩ := iter_some h
        unfold law09_ReasmBack.s2 at h
        try dsimp only at h
        try dsimp only
        refine ok_if (fun hc14 => ?_) (fun hc14 => ?_)
        · have h := bif_t h hc14
          obtain ⟨r15, hr16, h⟩ := Option.bind_eq_some_iff.1 h
          refine ok_need (getI_need (hS1.later hF) hr16) ?_
          refine ok_get hS1 hF hr16 (by simp) (fun cs hcs => ⟨(r15.1, r15.2, ()), hcs.symm, ?_⟩)
          try dsimp only
          refine ok_if (fun hc17 => ?_) (fun hc17 => ?_)
          · have h := bif_t h hc17
            obtain ⟨hn18, h⟩ := bif_need h
            refine ok_need hn18 ?_
            obtain ⟨hs19, h⟩ := bif_need h
            have hs19 := of_decide_eq_true hs19
            have hcap := ((hS0.later hF).sub _ _ hs8.1 hs8.2.1 hs8.2.2).2.1
            refine ok_need (by first | exact part3 hs19 hcap | exact part3 hs19 (Nat.le_refl _)) ?_
            refine ok_if (fun hc21 => ?_) (fun hc21 => ?_)
            · have h := bif_t h hc21
              obtain ⟨r4, hr4, h⟩ := Option.bind_eq_some_iff.1 h
              obtain ⟨v4_0, q4⟩ := r4
              try dsimp only at h
              have hBv4 : ∀ b, (reasm_Stream_Data.S b0 A2_b0_2 A2_b0_3) b → ¬ _ ∧ b < _ := fun b hb => by rcases hb with hb | hb | hb; exact ⟨(hW2_b0.lt b hb).2.1, hW2_b0.lt1 b hb⟩; exact ⟨(hW2_b0_2.lt b hb).2.1, hW2_b0_2.lt1 b hb⟩; exact ⟨(hW2_b0_3.lt b hb).2.1, hW2_b0_3.lt1 b hb⟩
              have hBm4 : ∀ b, (reasm_Stream_Data.S b0 A2_b0_2 A2_b0_3) b → (fun _ => False) b ∨ w.heap.size ≤ b := fun b hb => by rcases hb with hb | hb | hb; exact hmn0 b hb; exact hm2_b0_2 b hb; exact hm2_b0_3 b hb
              have hjB4_s2_0 : ∀ b, blk (A2_0, 0, 0) b → ¬ (reasm_Stream_Data.S b0 A2_b0_2 A2_b0_3) b := fun b h0 hb => by rcases hb with hb | hb | hb; exact (Dj.symm dj_w11_s2_0) b h0 hb; exact (Dj.symm dj_w12_s2_0) b h0 hb; exact (Dj.symm dj_w13_s2_0) b h0 hb
              refine ok_callo (reasm_Stream_Data.S b0 A2_b0_2 A2_b0_3) rfl hBv4 (fun L4 w4 g4 lt4 => ?_)
              refine (reasm_Stream_Data.c k _ q2_b0 _ _ _ _ (Int.tmod (IntKind.wrap IntKind.i64 r15.1) (((Int.toNat (if 4096 < ((l0.length : Nat) : Int) then 4096 else ((l0.length : Nat) : Int)) - 0) : Nat) : Int)) _ _ _ (((((l0.drop (Int.toNat 0)).take (Int.toNat (if 4096 < ((l0.length : Nat) : Int) then 4096 else ((l0.length : Nat) : Int)) - Int.toNat 0)).drop (Int.toNat (Int.tmod (IntKind.wrap IntKind.i64 r15.1) (((Int.toNat (if 4096 < ((l0.length : Nat) : Int) then 4096 else ((l0.length : Nat) : Int)) - 0) : Nat) : Int)))).take (Int.toNat (if (((Int.toNat (if 4096 < ((l0.length : Nat) : Int) then 4096 else ((l0.length : Nat) : Int)) - 0) : Nat) : Int) < IntKind.wrap IntKind.i64 (Int.tmod (IntKind.wrap IntKind.i64 r15.1) (((Int.toNat (if 4096 < ((l0.length : Nat) : Int) then 4096 else ((l0.length : Nat) : Int)) - 0) : Nat) : Int) + IntKind.wrap IntKind.i64 r15.2) then (((Int.toNat (if 4096 < ((l0.length : Nat) : Int) then 4096 else ((l0.length : Nat) : Int)) - 0) : Nat) : Int) else IntKind.wrap IntKind.i64 (Int.tmod (IntKind.wrap IntKind.i64 r15.1) (((Int.toNat (if 4096 < ((l0.length : Nat) : Int) then 4096 else ((l0.length : Nat) : Int)) - 0) : Nat) : Int) + IntKind.wrap IntKind.i64 r15.2)) - Int.toNat (Int.tmod (IntKind.wrap IntKind.i64 r15.1) (((Int.toNat (if 4096 < ((l0.length : Nat) : Int) then 4096 else ((l0.length : Nat) : Int)) - 0) : Nat) : Int))))) true (v4_0, q4) hr4 (sub_len hs19.1 hs19.2.1 hs19.2.2) w4 (hW2_b0.later g4).bare' (hW2_b0_2.later g4).bare' (hW2_b0_3.later g4).bare' dj_w12_w11 dj_w13_w11 dj_w13_w12 (((hS0.later ((hF.trans g4).with hBm4)).sub _ _ hs8.1 hs8.2.1 hs8.2.2).sub _ _ hs19.1 hs19.2.1 hs19.2.2)).mono ?_
              rintro e w4' ⟨A4_w2, c4_w2, A4_w3, c4_w3, rfl, hf4, hWc4, hWc4_2, hWc4_3, djc4_1_0, djc4_2_0, djc4_2_1, hzc4_2, hzc4_3⟩
              refine ⟨(v4_0, ()), rfl, hf4, fun g4' hid4 hv4 => ?_⟩
              try dsimp only
              have dn4_2_s2_0 : Dj A4_w2 A2_0 := Dj.byB hzc4_2 hjB4_s2_0 (hO_s2_0.later g4).lt
              have dn4_3_s2_0 : Dj A4_w3 A2_0 := Dj.byB hzc4_3 hjB4_s2_0 (hO_s2_0.later g4).lt
              have hmc4 := hmn0
              have hmc4_2 : ∀ b, blk (A4_w2, 0, 0) b → (fun _ => False) b ∨ w.heap.size ≤ b := fun b hb => (hzc4_2 b hb).elim (hBm4 b) (fun h => Or.inr (Nat.le_trans (hF.trans g4).size h))
              have hmc4_3 : ∀ b, blk (A4_w3, 0, 0) b → (fun _ => False) b ∨ w.heap.size ≤ b := fun b hb => (hzc4_3 b hb).elim (hBm4 b) (fun h => Or.inr (Nat.le_trans (hF.trans g4).size h))
              have hWc4 := hWc4.vis (fun b hb => hv4 b (Or.inl (Or.inl hb)))
              have hWc4_2 := hWc4_2.vis (fun b hb => hv4 b (hzc4_2 b hb))
              have hWc4_3 := hWc4_3.vis (fun b hb => hv4 b (hzc4_3 b hb))
              have hO_s2_0 := OwnF.others hO_s2_0 hjB4_s2_0 g4'
              have hF := Fine.own hF g4' hBm4 hid4
              refine ok_if (fun hc25 => ?_) (fun hc25 => ?_)
              · have h := bif_t h hc25
                obtain rfl := Option.some.inj h
                obtain rfl := hr_2 _ rfl
                intro ρ L w' _ he _ _
                exact ⟨rfl, (hF.ext he).below⟩
              · have h := bif_f h hc25
                refine ok_if (fun hc26 => ?_) (fun hc26 => ?_)
                · have h := bif_t h hc26
                  obtain ⟨r27, hr28, h⟩ := Option.bind_eq_some_iff.1 h
                  refine ok_need (getI_need (hS2.later hF) hr28) ?_
                  refine ok_get hS2 hF hr28 (by simp) (fun cs hcs => ⟨(r27, ()), hcs.symm, ?_⟩)
                  try dsimp only
                  obtain ⟨r6, hr6, h⟩ := Option.bind_eq_some_iff.1 h
                  obtain ⟨s6_0, q6⟩ := r6
                  try dsimp only at h
                  have hBv6 : ∀ b, (reasm_Stream_Read.S b0 A4_w2 A4_w3) b → ¬ _ ∧ b < _ := fun b hb => by rcases hb with hb | hb | hb; exact ⟨(hWc4.lt b hb).2.1, hWc4.lt1 b hb⟩; exact ⟨(hWc4_2.lt b hb).2.1, hWc4_2.lt1 b hb⟩; exact ⟨(hWc4_3.lt b hb).2.1, hWc4_3.lt1 b hb⟩
                  have hBm6 : ∀ b, (reasm_Stream_Read.S b0 A4_w2 A4_w3) b → (fun _ => False) b ∨ w.heap.size ≤ b := fun b hb => by rcases hb with hb | hb | hb; exact hmc4 b hb; exact hmc4_2 b hb; exact hmc4_3 b hb
                  have hjB6_s2_0 : ∀ b, blk (A2_0, 0, 0) b → ¬ (reasm_Stream_Read.S b0 A4_w2 A4_w3) b := fun b h0 hb => by rcases hb with hb | hb | hb; exact (Dj.symm dj_w11_s2_0) b h0 hb; exact (Dj.symm dn4_2_s2_0) b h0 hb; exact (Dj.symm dn4_3_s2_0) b h0 hb
                  refine ok_callo (reasm_Stream_Read.S b0 A4_w2 A4_w3) rfl hBv6 (fun L6 w6 g6 lt6 => ?_)
                  refine (reasm_Stream_Read.c k _ q4 _ _ _ _ (IntKind.wrap IntKind.i64 r27) (s6_0, q6) hr6  w6 (hWc4.later g6).bare' (hWc4_2.later g6).bare' (hWc4_3.later g6).bare' djc4_1_0 djc4_2_0 djc4_2_1).mono ?_
                  rintro e w6' ⟨A6_w2, c6_w2, A6_w3, c6_w3, A6_0, c6_0, rfl, hf6, hWc6, hWc6_2, hWc6_3, djc6_1_0, djc6_2_0, djc6_2_1, hzc6_2, hzc6_3, hO6_0, dr6_o29_2, dr6_o29_3⟩
                  refine ⟨((A6_0, s6_0.length, c6_0), ()), rfl, hf6, fun g6' hid6 hv6 => ?_⟩
                  try dsimp only
                  have dn6_2_s2_0 : Dj A6_w2 A2_0 := Dj.byB hzc6_2 hjB6_s2_0 (hO_s2_0.later g6).lt
                  have dn6_3_s2_0 : Dj A6_w3 A2_0 := Dj.byB hzc6_3 hjB6_s2_0 (hO_s2_0.later g6).lt
                  have dj_o29_s2_0 : Dj A6_0 A2_0 := Dj.new hO6_0.fresh (hO_s2_0.later g6).lt
                  have dk6_o29 : Dj A6_0 b0 := Dj.new hO6_0.fresh (fun b hb => Nat.lt_of_lt_of_le (hBv6 b (Or.inl hb)).2 g6.size)
                  have hmc6 := hmc4
                  have hmc6_2 : ∀ b, blk (A6_w2, 0, 0) b → (fun _ => False) b ∨ w.heap.size ≤ b := fun b hb => (hzc6_2 b hb).elim (hBm6 b) (fun h => Or.inr (Nat.le_trans (hF.trans g6).size h))
                  have hmc6_3 : ∀ b, blk (A6_w3, 0, 0) b → (fun _ => False) b ∨ w.heap.size ≤ b := fun b hb => (hzc6_3 b hb).elim (hBm6 b) (fun h => Or.inr (Nat.le_trans (hF.trans g6).size h))
                  have hWc6 := hWc6.vis (fun b hb => hv6 b (Or.inl (Or.inl hb)))
                  have hWc6_2 := hWc6_2.vis (fun b hb => hv6 b (hzc6_2 b hb))
                  have hWc6_3 := hWc6_3.vis (fun b hb => hv6 b (hzc6_3 b hb))
                  have hO6_0 := hO6_0.call (hF.trans g6).size lt6
                  have hO_s2_0 := OwnF.others hO_s2_0 hjB6_s2_0 g6'
                  have hF := Fine.own hF g6' hBm6 hid6
                  obtain ⟨hq33, h⟩ := bif_need h
                  have hq33 := of_decide_eq_true hq33
                  refine ok_app (R := R22) (base := w.heap.size) (xs := s2_0) (ys := s6_0) rfl rfl E22 hO_s2_0 hO6_0.sl (by decide) hq33 hF.size (fun A7 c7 L7 w7 hO7 g7 hid7 hbl7 => ?_)
                  try dsimp only
                  have dj_o34_o29 : Dj A7 A6_0 := Dj.grow (Dj.symm dj_o29_s2_0) hbl7 hO6_0.lt
                  have dj_o34_w30 : Dj A7 b0 := Dj.grow (Dj.symm dj_w11_s2_0) hbl7 hWc6.lt1
                  have dj_o34_w31 : Dj A7 A6_w2 := Dj.grow (Dj.symm dn6_2_s2_0) hbl7 hWc6_2.lt1
                  have dj_o34_w32 : Dj A7 A6_w3 := Dj.grow (Dj.symm dn6_3_s2_0) hbl7 hWc6_3.lt1
                  have hO6_0 := hO6_0.other dj_o29_s2_0 g7
                  have hWc6 := hWc6.other dj_w11_s2_0 g7
                  have hWc6_2 := hWc6_2.other dn6_2_s2_0 g7
                  have hWc6_3 := hWc6_3.other dn6_3_s2_0 g7
                  have hF := Fine.own hF g7 (fun b hb => Or.inr (Own.base hO_s2_0 hb)) hid7
                  refine ok_if (fun hc35 => ?_) (fun hc35 => ?_)
                  · have h := bif_t h hc35
                    obtain rfl := Option.some.inj h
                    obtain rfl := hr_2 _ rfl
                    intro ρ L w' _ he _ _
                    exact ⟨rfl, (hF.ext he).below⟩
                  · have h := bif_f h hc35
                    obtain ⟨hs36, h⟩ := bif_need h
                    have hs36 := of_decide_eq_true hs36
                    have hcap := ((hS0.later hF).sub _ _ hs8.1 hs8.2.1 hs8.2.2).2.1
                    refine ok_need (by first | exact part3 hs36 hcap | exact part3 hs36 (Nat.le_refl _)) ?_
                    obtain ⟨v8_0, hr8, h⟩ := Option.bind_eq_some_iff.1 h
                    refine ok_callm rfl (fun L8 w8 g8 lt8 => ?_)
                    refine (ref01_Same.c k _ _ _ ((s2_0 ++ s6_0)) _ _ _ (((((l0.drop (Int.toNat 0)).take (Int.toNat (if 4096 < ((l0.length : Nat) : Int) then 4096 else ((l0.length : Nat) : Int)) - Int.toNat 0)).drop (Int.toNat 0)).take (Int.toNat (((((s2_0 ++ s6_0)).length : Nat) : Int)) - Int.toNat 0))) v8_0 hr8 rfl (sub_len hs36.1 hs36.2.1 hs36.2.2) w8 (hO7.later g8).sl.bare (((hS0.later (hF.trans g8)).sub _ _ hs8.1 hs8.2.1 hs8.2.2).sub _ _ hs36.1 hs36.2.1 hs36.2.2).bare).mono ?_
                    rintro e w8' ⟨rfl, hb8⟩
                    refine ⟨(v8_0, ()), rfl, hb8, fun g8' => ?_⟩
                    try dsimp only
                    have hF := hF.trans g8'
                    have hO6_0 := hO6_0.later g8'
                    have hWc6 := hWc6.later g8'
                    have hWc6_2 := hWc6_2.later g8'
                    have hWc6_3 := hWc6_3.later g8'
                    have hO7 := hO7.later g8'
                    refine ok_if (fun hc38 => ?_) (fun hc38 => ?_)
                    · have h := bif_t h hc38
                      obtain rfl := Option.some.inj h
                      have h := hl2 _ rfl
                      exact ok_again (I := I2) m2 (Nat.lt_succ_self _) (fun L w' he => by rw [hI2]; exact ⟨A7, c7, (s2_0 ++ s6_0), _, q6, A6_w2, c6_w2, A6_w3, c6_w3, rfl, h, hF.trans he.fine, hO7.later he.fine, hWc6.later he.fine, hWc6_2.later he.fine, hWc6_3.later he.fine, (Dj.symm dj_o34_w30), (Dj.symm dj_o34_w31), djc6_1_0, (Dj.symm dj_o34_w32), djc6_2_0, djc6_2_1, hmc6_2, hmc6_3⟩)
                    · have h := bif_f h hc38
                      obtain rfl := Option.some.inj h
                      obtain rfl := hr_2 _ rfl
                      intro ρ L w' _ he _ _
                      exact ⟨rfl, (hF.ext he).below⟩
                · have h := bif_f h hc26
                  refine ok_if (fun hc39 => ?_) (fun hc39 => ?_)
                  · have h := bif_t h hc39
                    obtain rfl := Option.some.inj h
                    obtain rfl := hr_2 _ rfl
                    intro ρ L w' _ he _ _
                    exact ⟨rfl, (hF.ext he).below⟩
                  · have h := bif_f h hc39
                    obtain ⟨hs40, h⟩ := bif_need h
                    have hs40 := of_decide_eq_true hs40
                    have hcap := ((hS0.later hF).sub _ _ hs8.1 hs8.2.1 hs8.2.2).2.1
                    refine ok_need (by first | exact part3 hs40 hcap | exact part3 hs40 (Nat.le_refl _)) ?_
                    obtain ⟨v5_0, hr5, h⟩ := Option.bind_eq_some_iff.1 h
                    refine ok_callm rfl (fun L5 w5 g5 lt5 => ?_)
                    refine (ref01_Same.c k _ _ _ s2_0 _ _ _ (((((l0.drop (Int.toNat 0)).take (Int.toNat (if 4096 < ((l0.length : Nat) : Int) then 4096 else ((l0.length : Nat) : Int)) - Int.toNat 0)).drop (Int.toNat 0)).take (Int.toNat (((s2_0.length : Nat) : Int)) - Int.toNat 0))) v5_0 hr5 rfl (sub_len hs40.1 hs40.2.1 hs40.2.2) w5 (hO_s2_0.later g5).sl.bare (((hS0.later (hF.trans g5)).sub _ _ hs8.1 hs8.2.1 hs8.2.2).sub _ _ hs40.1 hs40.2.1 hs40.2.2).bare).mono ?_
                    rintro e w5' ⟨rfl, hb5⟩
                    refine ⟨(v5_0, ()), rfl, hb5, fun g5' => ?_⟩
                    try dsimp only
                    have hF := hF.trans g5'
                    have hO_s2_0 := hO_s2_0.later g5'
                    have hWc4 := hWc4.later g5'
                    have hWc4_2 := hWc4_2.later g5'
                    have hWc4_3 := hWc4_3.later g5'
                    refine ok_if (fun hc42 => ?_) (fun hc42 => ?_)
                    · have h := bif_t h hc42
                      obtain rfl := Option.some.inj h
                      have h := hl2 _ rfl
                      exact ok_again (I := I2) m2 (Nat.lt_succ_self _) (fun L w' he => by rw [hI2]; exact ⟨A2_0, c2_0, s2_0, _, q4, A4_w2, c4_w2, A4_w3, c4_w3, rfl, h, hF.trans he.fine, hO_s2_0.later he.fine, hWc4.later he.fine, hWc4_2.later he.fine, hWc4_3.later he.fine, dj_w11_s2_0, dn4_2_s2_0, djc4_1_0, dn4_3_s2_0, djc4_2_0, djc4_2_1, hmc4_2, hmc4_3⟩)
                    · have h := bif_f h hc42
                      obtain rfl := Option.some.inj h
                      obtain rfl := hr_2 _ rfl
                      intro ρ L w' _ he _ _
                      exact ⟨rfl, (hF.ext he).below⟩
            · have h := bif_f h hc21
              obtain ⟨r4, hr4, h⟩ := Option.bind_eq_some_iff.1 h
              obtain ⟨v4_0, q4⟩ := r4
              try dsimp only at h
              have hBv4 : ∀ b, (reasm_Stream_Data.S b0 A2_b0_2 A2_b0_3) b → ¬ _ ∧ b < _ := fun b hb => by rcases hb with hb | hb | hb; exact ⟨(hW2_b0.lt b hb).2.1, hW2_b0.lt1 b hb⟩; exact ⟨(hW2_b0_2.lt b hb).2.1, hW2_b0_2.lt1 b hb⟩; exact ⟨(hW2_b0_3.lt b hb).2.1, hW2_b0_3.lt1 b hb⟩
              have hBm4 : ∀ b, (reasm_Stream_Data.S b0 A2_b0_2 A2_b0_3) b → (fun _ => False) b ∨ w.heap.size ≤ b := fun b hb => by rcases hb with hb | hb | hb; exact hmn0 b hb; exact hm2_b0_2 b hb; exact hm2_b0_3 b hb
              have hjB4_s2_0 : ∀ b, blk (A2_0, 0, 0) b → ¬ (reasm_Stream_Data.S b0 A2_b0_2 A2_b0_3) b := fun b h0 hb => by rcases hb with hb | hb | hb; exact (Dj.symm dj_w11_s2_0) b h0 hb; exact (Dj.symm dj_w12_s2_0) b h0 hb; exact (Dj.symm dj_w13_s2_0) b h0 hb
              refine ok_callo (reasm_Stream_Data.S b0 A2_b0_2 A2_b0_3) rfl hBv4 (fun L4 w4 g4 lt4 => ?_)
              refine (reasm_Stream_Data.c k _ q2_b0 _ _ _ _ (Int.tmod (IntKind.wrap IntKind.i64 r15.1) (((Int.toNat (if 4096 < ((l0.length : Nat) : Int) then 4096 else ((l0.length : Nat) : Int)) - 0) : Nat) : Int)) _ _ _ (((((l0.drop (Int.toNat 0)).take (Int.toNat (if 4096 < ((l0.length : Nat) : Int) then 4096 else ((l0.length : Nat) : Int)) - Int.toNat 0)).drop (Int.toNat (Int.tmod (IntKind.wrap IntKind.i64 r15.1) (((Int.toNat (if 4096 < ((l0.length : Nat) : Int) then 4096 else ((l0.length : Nat) : Int)) - 0) : Nat) : Int)))).take (Int.toNat (if (((Int.toNat (if 4096 < ((l0.length : Nat) : Int) then 4096 else ((l0.length : Nat) : Int)) - 0) : Nat) : Int) < IntKind.wrap IntKind.i64 (Int.tmod (IntKind.wrap IntKind.i64 r15.1) (((Int.toNat (if 4096 < ((l0.length : Nat) : Int) then 4096 else ((l0.length : Nat) : Int)) - 0) : Nat) : Int) + IntKind.wrap IntKind.i64 r15.2) then (((Int.toNat (if 4096 < ((l0.length : Nat) : Int) then 4096 else ((l0.length : Nat) : Int)) - 0) : Nat) : Int) else IntKind.wrap IntKind.i64 (Int.tmod (IntKind.wrap IntKind.i64 r15.1) (((Int.toNat (if 4096 < ((l0.length : Nat) : Int) then 4096 else ((l0.length : Nat) : Int)) - 0) : Nat) : Int) + IntKind.wrap IntKind.i64 r15.2)) - Int.toNat (Int.tmod (IntKind.wrap IntKind.i64 r15.1) (((Int.toNat (if 4096 < ((l0.length : Nat) : Int) then 4096 else ((l0.length : Nat) : Int)) - 0) : Nat) : Int))))) false (v4_0, q4) hr4 (sub_len hs19.1 hs19.2.1 hs19.2.2) w4 (hW2_b0.later g4).bare' (hW2_b0_2.later g4).bare' (hW2_b0_3.later g4).bare' dj_w12_w11 dj_w13_w11 dj_w13_w12 (((hS0.later ((hF.trans g4).with hBm4)).sub _ _ hs8.1 hs8.2.1 hs8.2.2).sub _ _ hs19.1 hs19.2.1 hs19.2.2)).mono ?_
              rintro e w4' ⟨A4_w2, c4_w2, A4_w3, c4_w3, rfl, hf4, hWc4, hWc4_2, hWc4_3, djc4_1_0, djc4_2_0, djc4_2_1, hzc4_2, hzc4_3⟩
              refine ⟨(v4_0, ()), rfl, hf4, fun g4' hid4 hv4 => ?_⟩
              try dsimp only
              have dn4_2_s2_0 : Dj A4_w2 A2_0 := Dj.byB hzc4_2 hjB4_s2_0 (hO_s2_0.later g4).lt
              have dn4_3_s2_0 : Dj A4_w3 A2_0 := Dj.byB hzc4_3 hjB4_s2_0 (hO_s2_0.later g4).lt
              have hmc4 := hmn0
              have hmc4_2 : ∀ b, blk (A4_w2, 0, 0) b → (fun _ => False) b ∨ w.heap.size ≤ b := fun b hb => (hzc4_2 b hb).elim (hBm4 b) (fun h => Or.inr (Nat.le_trans (hF.trans g4).size h))
              have hmc4_3 : ∀ b, blk (A4_w3, 0, 0) b → (fun _ => False) b ∨ w.heap.size ≤ b := fun b hb => (hzc4_3 b hb).elim (hBm4 b) (fun h => Or.inr (Nat.le_trans (hF.trans g4).size h))
              have hWc4 := hWc4.vis (fun b hb => hv4 b (Or.inl (Or.inl hb)))
              have hWc4_2 := hWc4_2.vis (fun b hb => hv4 b (hzc4_2 b hb))
              have hWc4_3 := hWc4_3.vis (fun b hb => hv4 b (hzc4_3 b hb))
              have hO_s2_0 := OwnF.others hO_s2_0 hjB4_s2_0 g4'
              have hF := Fine.own hF g4' hBm4 hid4
              refine ok_if (fun hc46 => ?_) (fun hc46 => ?_)
              · have h := bif_t h hc46
                obtain rfl := Option.some.inj h
                obtain rfl := hr_2 _ rfl
                intro ρ L w' _ he _ _
                exact ⟨rfl, (hF.ext he).below⟩
              · have h := bif_f h hc46
                refine ok_if (fun hc47 => ?_) (fun hc47 => ?_)
                · have h := bif_t h hc47
                  obtain ⟨r48, hr49, h⟩ := Option.bind_eq_some_iff.1 h
                  refine ok_need (getI_need (hS2.later hF) hr49) ?_
                  refine ok_get hS2 hF hr49 (by simp) (fun cs hcs => ⟨(r48, ()), hcs.symm, ?_⟩)
                  try dsimp only
                  obtain ⟨r6, hr6, h⟩ := Option.bind_eq_some_iff.1 h
                  obtain ⟨s6_0, q6⟩ := r6
                  try dsimp only at h
                  have hBv6 : ∀ b, (reasm_Stream_Read.S b0 A4_w2 A4_w3) b → ¬ _ ∧ b < _ := fun b hb => by rcases hb with hb | hb | hb; exact ⟨(hWc4.lt b hb).2.1, hWc4.lt1 b hb⟩; exact ⟨(hWc4_2.lt b hb).2.1, hWc4_2.lt1 b hb⟩; exact ⟨(hWc4_3.lt b hb).2.1, hWc4_3.lt1 b hb⟩
                  have hBm6 : ∀ b, (reasm_Stream_Read.S b0 A4_w2 A4_w3) b → (fun _ => False) b ∨ w.heap.size ≤ b := fun b hb => by rcases hb with hb | hb | hb; exact hmc4 b hb; exact hmc4_2 b hb; exact hmc4_3 b hb
                  have hjB6_s2_0 : ∀ b, blk (A2_0, 0, 0) b → ¬ (reasm_Stream_Read.S b0 A4_w2 A4_w3) b := fun b h0 hb => by rcases hb with hb | hb | hb; exact (Dj.symm dj_w11_s2_0) b h0 hb; exact (Dj.symm dn4_2_s2_0) b h0 hb; exact (Dj.symm dn4_3_s2_0) b h0 hb
                  refine ok_callo (reasm_Stream_Read.S b0 A4_w2 A4_w3) rfl hBv6 (fun L6 w6 g6 lt6 => ?_)
                  refine (reasm_Stream_Read.c k _ q4 _ _ _ _ (IntKind.wrap IntKind.i64 r48) (s6_0, q6) hr6  w6 (hWc4.later g6).bare' (hWc4_2.later g6).bare' (hWc4_3.later g6).bare' djc4_1_0 djc4_2_0 djc4_2_1).mono ?_
                  rintro e w6' ⟨A6_w2, c6_w2, A6_w3, c6_w3, A6_0, c6_0, rfl, hf6, hWc6, hWc6_2, hWc6_3, djc6_1_0, djc6_2_0, djc6_2_1, hzc6_2, hzc6_3, hO6_0, dr6_o50_2, dr6_o50_3⟩
                  refine ⟨((A6_0, s6_0.length, c6_0), ()), rfl, hf6, fun g6' hid6 hv6 => ?_⟩
                  try dsimp only
                  have dn6_2_s2_0 : Dj A6_w2 A2_0 := Dj.byB hzc6_2 hjB6_s2_0 (hO_s2_0.later g6).lt
                  have dn6_3_s2_0 : Dj A6_w3 A2_0 := Dj.byB hzc6_3 hjB6_s2_0 (hO_s2_0.later g6).lt
                  have dj_o50_s2_0 : Dj A6_0 A2_0 := Dj.new hO6_0.fresh (hO_s2_0.later g6).lt
                  have dk6_o50 : Dj A6_0 b0 := Dj.new hO6_0.fresh (fun b hb => Nat.lt_of_lt_of_le (hBv6 b (Or.inl hb)).2 g6.size)
                  have hmc6 := hmc4
                  have hmc6_2 : ∀ b, blk (A6_w2, 0, 0) b → (fun _ => False) b ∨ w.heap.size ≤ b := fun b hb => (hzc6_2 b hb).elim (hBm6 b) (fun h => Or.inr (Nat.le_trans (hF.trans g6).size h))
                  have hmc6_3 : ∀ b, blk (A6_w3, 0, 0) b → (fun _ => False) b ∨ w.heap.size ≤ b := fun b hb => (hzc6_3 b hb).elim (hBm6 b) (fun h => Or.inr (Nat.le_trans (hF.trans g6).size h))
                  have hWc6 := hWc6.vis (fun b hb => hv6 b (Or.inl (Or.inl hb)))
                  have hWc6_2 := hWc6_2.vis (fun b hb => hv6 b (hzc6_2 b hb))
                  have hWc6_3 := hWc6_3.vis (fun b hb => hv6 b (hzc6_3 b hb))
                  have hO6_0 := hO6_0.call (hF.trans g6).size lt6
                  have hO_s2_0 := OwnF.others hO_s2_0 hjB6_s2_0 g6'
                  have hF := Fine.own hF g6' hBm6 hid6
                  obtain ⟨hq54, h⟩ := bif_need h
                  have hq54 := of_decide_eq_true hq54
                  refine ok_app (R := R22) (base := w.heap.size) (xs := s2_0) (ys := s6_0) rfl rfl E22 hO_s2_0 hO6_0.sl (by decide) hq54 hF.size (fun A7 c7 L7 w7 hO7 g7 hid7 hbl7 => ?_)
                  try dsimp only
                  have dj_o55_o50 : Dj A7 A6_0 := Dj.grow (Dj.symm dj_o50_s2_0) hbl7 hO6_0.lt
                  have dj_o55_w51 : Dj A7 b0 := Dj.grow (Dj.symm dj_w11_s2_0) hbl7 hWc6.lt1
                  have dj_o55_w52 : Dj A7 A6_w2 := Dj.grow (Dj.symm dn6_2_s2_0) hbl7 hWc6_2.lt1
                  have dj_o55_w53 : Dj A7 A6_w3 := Dj.grow (Dj.symm dn6_3_s2_0) hbl7 hWc6_3.lt1
                  have hO6_0 := hO6_0.other dj_o50_s2_0 g7
                  have hWc6 := hWc6.other dj_w11_s2_0 g7
                  have hWc6_2 := hWc6_2.other dn6_2_s2_0 g7
                  have hWc6_3 := hWc6_3.other dn6_3_s2_0 g7
                  have hF := Fine.own hF g7 (fun b hb => Or.inr (Own.base hO_s2_0 hb)) hid7
                  refine ok_if (fun hc56 => ?_) (fun hc56 => ?_)
                  · have h := bif_t h hc56
                    obtain rfl := Option.some.inj h
                    obtain rfl := hr_2 _ rfl
                    intro ρ L w' _ he _ _
                    exact ⟨rfl, (hF.ext he).below⟩
                  · have h := bif_f h hc56
                    obtain ⟨hs57, h⟩ := bif_need h
                    have hs57 := of_decide_eq_true hs57
                    have hcap := ((hS0.later hF).sub _ _ hs8.1 hs8.2.1 hs8.2.2).2.1
                    refine ok_need (by first | exact part3 hs57 hcap | exact part3 hs57 (Nat.le_refl _)) ?_
                    obtain ⟨v8_0, hr8, h⟩ := Option.bind_eq_some_iff.1 h
                    refine ok_callm rfl (fun L8 w8 g8 lt8 => ?_)
                    refine (ref01_Same.c k _ _ _ ((s2_0 ++ s6_0)) _ _ _ (((((l0.drop (Int.toNat 0)).take (Int.toNat (if 4096 < ((l0.length : Nat) : Int) then 4096 else ((l0.length : Nat) : Int)) - Int.toNat 0)).drop (Int.toNat 0)).take (Int.toNat (((((s2_0 ++ s6_0)).length : Nat) : Int)) - Int.toNat 0))) v8_0 hr8 rfl (sub_len hs57.1 hs57.2.1 hs57.2.2) w8 (hO7.later g8).sl.bare (((hS0.later (hF.trans g8)).sub _ _ hs8.1 hs8.2.1 hs8.2.2).sub _ _ hs57.1 hs57.2.1 hs57.2.2).bare).mono ?_
                    rintro e w8' ⟨rfl, hb8⟩
                    refine ⟨(v8_0, ()), rfl, hb8, fun g8' => ?_⟩
                    try dsimp only
                    have hF := hF.trans g8'
                    have hO6_0 := hO6_0.later g8'
                    have hWc6 := hWc6.later g8'
                    have hWc6_2 := hWc6_2.later g8'
                    have hWc6_3 := hWc6_3.later g8'
                    have hO7 := hO7.later g8'
                    refine ok_if (fun hc59 => ?_) (fun hc59 => ?_)
                    · have h := bif_t h hc59
                      obtain rfl := Option.some.inj h
                      have h := hl2 _ rfl
                      exact ok_again (I := I2) m2 (Nat.lt_succ_self _) (fun L w' he => by rw [hI2]; exact ⟨A7, c7, (s2_0 ++ s6_0), _, q6, A6_w2, c6_w2, A6_w3, c6_w3, rfl, h, hF.trans he.fine, hO7.later he.fine, hWc6.later he.fine, hWc6_2.later he.fine, hWc6_3.later he.fine, (Dj.symm dj_o55_w51), (Dj.symm dj_o55_w52), djc6_1_0, (Dj.symm dj_o55_w53), djc6_2_0, djc6_2_1, hmc6_2, hmc6_3⟩)
                    · have h := bif_f h hc59
                      obtain rfl := Option.some.inj h
                      obtain rfl := hr_2 _ rfl
                      intro ρ L w' _ he _ _
                      exact ⟨rfl, (hF.ext he).below⟩
                · have h := bif_f h hc47
                  refine ok_if (fun hc60 => ?_) (fun hc60 => ?_)
                  · have h := bif_t h hc60
                    obtain rfl := Option.some.inj h
                    obtain rfl := hr_2 _ rfl
                    intro ρ L w' _ he _ _
                    exact ⟨rfl, (hF.ext he).below⟩
                  · have h := bif_f h hc60
                    obtain ⟨hs61, h⟩ := bif_need h
                    have hs61 := of_decide_eq_true hs61
                    have hcap := ((hS0.later hF).sub _ _ hs8.1 hs8.2.1 hs8.2.2).2.1
                    refine ok_need (by first | exact part3 hs61 hcap | exact part3 hs61 (Nat.le_refl _)) ?_
                    obtain ⟨v5_0, hr5, h⟩ := Option.bind_eq_some_iff.1 h
                    refine ok_callm rfl (fun L5 w5 g5 lt5 => ?_)
                    refine (ref01_Same.c k _ _ _ s2_0 _ _ _ (((((l0.drop (Int.toNat 0)).take (Int.toNat (if 4096 < ((l0.length : Nat) : Int) then 4096 else ((l0.length : Nat) : Int)) - Int.toNat 0)).drop (Int.toNat 0)).take (Int.toNat (((s2_0.length : Nat) : Int)) - Int.toNat 0))) v5_0 hr5 rfl (sub_len hs61.1 hs61.2.1 hs61.2.2) w5 (hO_s2_0.later g5).sl.bare (((hS0.later (hF.trans g5)).sub _ _ hs8.1 hs8.2.1 hs8.2.2).sub _ _ hs61.1 hs61.2.1 hs61.2.2).bare).mono ?_
                    rintro e w5' ⟨rfl, hb5⟩
                    refine ⟨(v5_0, ()), rfl, hb5, fun g5' => ?_⟩
                    try dsimp only
                    have hF := hF.trans g5'
                    have hO_s2_0 := hO_s2_0.later g5'
                    have hWc4 := hWc4.later g5'
                    have hWc4_2 := hWc4_2.later g5'
                    have hWc4_3 := hWc4_3.later g5'
                    refine ok_if (fun hc63 => ?_) (fun hc63 => ?_)
                    · have h := bif_t h hc63
                      obtain rfl := Option.some.inj h
                      have h := hl2 _ rfl
                      exact ok_again (I := I2) m2 (Nat.lt_succ_self _) (fun L w' he => by rw [hI2]; exact ⟨A2_0, c2_0, s2_0, _, q4, A4_w2, c4_w2, A4_w3, c4_w3, rfl, h, hF.trans he.fine, hO_s2_0.later he.fine, hWc4.later he.fine, hWc4_2.later he.fine, hWc4_3.later he.fine, dj_w11_s2_0, dn4_2_s2_0, djc4_1_0, dn4_3_s2_0, djc4_2_0, djc4_2_1, hmc4_2, hmc4_3⟩)
                    · have h := bif_f h hc63
                      obtain rfl := Option.some.inj h
                      obtain rfl := hr_2 _ rfl
                      intro ρ L w' _ he _ _
                      exact ⟨rfl, (hF.ext he).below⟩
          · have h := bif_f h hc17
            refine ok_if (fun hc64 => ?_) (fun hc64 => ?_)
            · have h := bif_t h hc64
              obtain ⟨r65, hr66, h⟩ := Option.bind_eq_some_iff.1 h
              refine ok_need (getI_need (hS2.later hF) hr66) ?_
              refine ok_get hS2 hF hr66 (by simp) (fun cs hcs => ⟨(r65, ()), hcs.symm, ?_⟩)
              try dsimp only
              obtain ⟨r5, hr5, h⟩ := Option.bind_eq_some_iff.1 h
              obtain ⟨s5_0, q5⟩ := r5
              try dsimp only at h
              have hBv5 : ∀ b, (reasm_Stream_Read.S b0 A2_b0_2 A2_b0_3) b → ¬ _ ∧ b < _ := fun b hb => by rcases hb with hb | hb | hb; exact ⟨(hW2_b0.lt b hb).2.1, hW2_b0.lt1 b hb⟩; exact ⟨(hW2_b0_2.lt b hb).2.1, hW2_b0_2.lt1 b hb⟩; exact ⟨(hW2_b0_3.lt b hb).2.1, hW2_b0_3.lt1 b hb⟩
              have hBm5 : ∀ b, (reasm_Stream_Read.S b0 A2_b0_2 A2_b0_3) b → (fun _ => False) b ∨ w.heap.size ≤ b := fun b hb => by rcases hb with hb | hb | hb; exact hmn0 b hb; exact hm2_b0_2 b hb; exact hm2_b0_3 b hb
              have hjB5_s2_0 : ∀ b, blk (A2_0, 0, 0) b → ¬ (reasm_Stream_Read.S b0 A2_b0_2 A2_b0_3) b := fun b h0 hb => by rcases hb with hb | hb | hb; exact (Dj.symm dj_w11_s2_0) b h0 hb; exact (Dj.symm dj_w12_s2_0) b h0 hb; exact (Dj.symm dj_w13_s2_0) b h0 hb
              refine ok_callo (reasm_Stream_Read.S b0 A2_b0_2 A2_b0_3) rfl hBv5 (fun L5 w5 g5 lt5 => ?_)
              refine (reasm_Stream_Read.c k _ q2_b0 _ _ _ _ (IntKind.wrap IntKind.i64 r65) (s5_0, q5) hr5  w5 (hW2_b0.later g5).bare' (hW2_b0_2.later g5).bare' (hW2_b0_3.later g5).bare' dj_w12_w11 dj_w13_w11 dj_w13_w12).mono ?_
              rintro e w5' ⟨A5_w2, c5_w2, A5_w3, c5_w3, A5_0, c5_0, rfl, hf5, hWc5, hWc5_2, hWc5_3, djc5_1_0, djc5_2_0, djc5_2_1, hzc5_2, hzc5_3, hO5_0, dr5_o67_2, dr5_o67_3⟩
              refine ⟨((A5_0, s5_0.length, c5_0), ()), rfl, hf5, fun g5' hid5 hv5 => ?_⟩
              try dsimp only
              have dn5_2_s2_0 : Dj A5_w2 A2_0 := Dj.byB hzc5_2 hjB5_s2_0 (hO_s2_0.later g5).lt
              have dn5_3_s2_0 : Dj A5_w3 A2_0 := Dj.byB hzc5_3 hjB5_s2_0 (hO_s2_0.later g5).lt
              have dj_o67_s2_0 : Dj A5_0 A2_0 := Dj.new hO5_0.fresh (hO_s2_0.later g5).lt
              have dk5_o67 : Dj A5_0 b0 := Dj.new hO5_0.fresh (fun b hb => Nat.lt_of_lt_of_le (hBv5 b (Or.inl hb)).2 g5.size)
              have hmc5 := hmn0
              have hmc5_2 : ∀ b, blk (A5_w2, 0, 0) b → (fun _ => False) b ∨ w.heap.size ≤ b := fun b hb => (hzc5_2 b hb).elim (hBm5 b) (fun h => Or.inr (Nat.le_trans (hF.trans g5).size h))
              have hmc5_3 : ∀ b, blk (A5_w3, 0, 0) b → (fun _ => False) b ∨ w.heap.size ≤ b := fun b hb => (hzc5_3 b hb).elim (hBm5 b) (fun h => Or.inr (Nat.le_trans (hF.trans g5).size h))
              have hWc5 := hWc5.vis (fun b hb => hv5 b (Or.inl (Or.inl hb)))
              have hWc5_2 := hWc5_2.vis (fun b hb => hv5 b (hzc5_2 b hb))
              have hWc5_3 := hWc5_3.vis (fun b hb => hv5 b (hzc5_3 b hb))
              have hO5_0 := hO5_0.call (hF.trans g5).size lt5
              have hO_s2_0 := OwnF.others hO_s2_0 hjB5_s2_0 g5'
              have hF := Fine.own hF g5' hBm5 hid5
              obtain ⟨hq71, h⟩ := bif_need h
              have hq71 := of_decide_eq_true hq71
              refine ok_app (R := R22) (base := w.heap.size) (xs := s2_0) (ys := s5_0) rfl rfl E22 hO_s2_0 hO5_0.sl (by decide) hq71 hF.size (fun A6 c6 L6 w6 hO6 g6 hid6 hbl6 => ?_)
              try dsimp only
              have dj_o72_o67 : Dj A6 A5_0 := Dj.grow (Dj.symm dj_o67_s2_0) hbl6 hO5_0.lt
              have dj_o72_w68 : Dj A6 b0 := Dj.grow (Dj.symm dj_w11_s2_0) hbl6 hWc5.lt1
              have dj_o72_w69 : Dj A6 A5_w2 := Dj.grow (Dj.symm dn5_2_s2_0) hbl6 hWc5_2.lt1
              have dj_o72_w70 : Dj A6 A5_w3 := Dj.grow (Dj.symm dn5_3_s2_0) hbl6 hWc5_3.lt1
              have hO5_0 := hO5_0.other dj_o67_s2_0 g6
              have hWc5 := hWc5.other dj_w11_s2_0 g6
              have hWc5_2 := hWc5_2.other dn5_2_s2_0 g6
              have hWc5_3 := hWc5_3.other dn5_3_s2_0 g6
              have hF := Fine.own hF g6 (fun b hb => Or.inr (Own.base hO_s2_0 hb)) hid6
              refine ok_if (fun hc73 => ?_) (fun hc73 => ?_)
              · have h := bif_t h hc73
                obtain rfl := Option.some.inj h
                obtain rfl := hr_2 _ rfl
                intro ρ L w' _ he _ _
                exact ⟨rfl, (hF.ext he).below⟩
              · have h := bif_f h hc73
                obtain ⟨hs74, h⟩ := bif_need h
                have hs74 := of_decide_eq_true hs74
                have hcap := ((hS0.later hF).sub _ _ hs8.1 hs8.2.1 hs8.2.2).2.1
                refine ok_need (by first | exact part3 hs74 hcap | exact part3 hs74 (Nat.le_refl _)) ?_
                obtain ⟨v7_0, hr7, h⟩ := Option.bind_eq_some_iff.1 h
                refine ok_callm rfl (fun L7 w7 g7 lt7 => ?_)
                refine (ref01_Same.c k _ _ _ ((s2_0 ++ s5_0)) _ _ _ (((((l0.drop (Int.toNat 0)).take (Int.toNat (if 4096 < ((l0.length : Nat) : Int) then 4096 else ((l0.length : Nat) : Int)) - Int.toNat 0)).drop (Int.toNat 0)).take (Int.toNat (((((s2_0 ++ s5_0)).length : Nat) : Int)) - Int.toNat 0))) v7_0 hr7 rfl (sub_len hs74.1 hs74.2.1 hs74.2.2) w7 (hO6.later g7).sl.bare (((hS0.later (hF.trans g7)).sub _ _ hs8.1 hs8.2.1 hs8.2.2).sub _ _ hs74.1 hs74.2.1 hs74.2.2).bare).mono ?_
                rintro e w7' ⟨rfl, hb7⟩
                refine ⟨(v7_0, ()), rfl, hb7, fun g7' => ?_⟩
                try dsimp only
                have hF := hF.trans g7'
                have hO5_0 := hO5_0.later g7'
                have hWc5 := hWc5.later g7'
                have hWc5_2 := hWc5_2.later g7'
                have hWc5_3 := hWc5_3.later g7'
                have hO6 := hO6.later g7'
                refine ok_if (fun hc76 => ?_) (fun hc76 => ?_)
                · have h := bif_t h hc76
                  obtain rfl := Option.some.inj h
                  have h := hl2 _ rfl
                  exact ok_again (I := I2) m2 (Nat.lt_succ_self _) (fun L w' he => by rw [hI2]; exact ⟨A6, c6, (s2_0 ++ s5_0), _, q5, A5_w2, c5_w2, A5_w3, c5_w3, rfl, h, hF.trans he.fine, hO6.later he.fine, hWc5.later he.fine, hWc5_2.later he.fine, hWc5_3.later he.fine, (Dj.symm dj_o72_w68), (Dj.symm dj_o72_w69), djc5_1_0, (Dj.symm dj_o72_w70), djc5_2_0, djc5_2_1, hmc5_2, hmc5_3⟩)
                · have h := bif_f h hc76
                  obtain rfl := Option.some.inj h
                  obtain rfl := hr_2 _ rfl
                  intro ρ L w' _ he _ _
                  exact ⟨rfl, (hF.ext he).below⟩
            · have h := bif_f h hc64
              refine ok_if (fun hc77 => ?_) (fun hc77 => ?_)
              · have h := bif_t h hc77
                obtain rfl := Option.some.inj h
                obtain rfl := hr_2 _ rfl
                intro ρ L w' _ he _ _
                exact ⟨rfl, (hF.ext he).below⟩
              · have h := bif_f h hc77
                obtain ⟨hs78, h⟩ := bif_need h
                have hs78 := of_decide_eq_true hs78
                have hcap := ((hS0.later hF).sub _ _ hs8.1 hs8.2.1 hs8.2.2).2.1
                refine ok_need (by first | exact part3 hs78 hcap | exact part3 hs78 (Nat.le_refl _)) ?_
                obtain ⟨v4_0, hr4, h⟩ := Option.bind_eq_some_iff.1 h
                refine ok_callm rfl (fun L4 w4 g4 lt4 => ?_)
                refine (ref01_Same.c k _ _ _ s2_0 _ _ _ (((((l0.drop (Int.toNat 0)).take (Int.toNat (if 4096 < ((l0.length : Nat) : Int) then 4096 else ((l0.length : Nat) : Int)) - Int.toNat 0)).drop (Int.toNat 0)).take (Int.toNat (((s2_0.length : Nat) : Int)) - Int.toNat 0))) v4_0 hr4 rfl (sub_len hs78.1 hs78.2.1 hs78.2.2) w4 (hO_s2_0.later g4).sl.bare (((hS0.later (hF.trans g4)).sub _ _ hs8.1 hs8.2.1 hs8.2.2).sub _ _ hs78.1 hs78.2.1 hs78.2.2).bare).mono ?_
                rintro e w4' ⟨rfl, hb4⟩
                refine ⟨(v4_0, ()), rfl, hb4, fun g4' => ?_⟩
                try dsimp only
                have hF := hF.trans g4'
                have hO_s2_0 := hO_s2_0.later g4'
                have hW2_b0 := hW2_b0.later g4'
                have hW2_b0_2 := hW2_b0_2.later g4'
                have hW2_b0_3 := hW2_b0_3.later g4'
                refine ok_if (fun hc80 => ?_) (fun hc80 => ?_)
                · have h := bif_t h hc80
                  obtain rfl := Option.some.inj h
                  have h := hl2 _ rfl
                  exact ok_again (I := I2) m2 (Nat.lt_succ_self _) (fun L w' he => by rw [hI2]; exact ⟨A2_0, c2_0, s2_0, _, q2_b0, A2_b0_2, c2_b0_2, A2_b0_3, c2_b0_3, rfl, h, hF.trans he.fine, hO_s2_0.later he.fine, hW2_b0.later he.fine, hW2_b0_2.later he.fine, hW2_b0_3.later he.fine, dj_w11_s2_0, dj_w12_s2_0, dj_w12_w11, dj_w13_s2_0, dj_w13_w11, dj_w13_w12, hm2_b0_2, hm2_b0_3⟩)
                · have h := bif_f h hc80
                  obtain rfl := Option.some.inj h
                  obtain rfl := hr_2 _ rfl
                  intro ρ L w' _ he _ _
                  exact ⟨rfl, (hF.ext he).below⟩
        · have h := bif_f h hc14
          obtain ⟨r3, hr3, h⟩ := Option.bind_eq_some_iff.1 h
          obtain ⟨v3_0, q3⟩ := r3
          try dsimp only at h
          have hBv3 : ∀ b, (reasm_Stream_Data.S b0 A2_b0_2 A2_b0_3) b → ¬ _ ∧ b < _ := fun b hb => by rcases hb with hb | hb | hb; exact ⟨(hW2_b0.lt b hb).2.1, hW2_b0.lt1 b hb⟩; exact ⟨(hW2_b0_2.lt b hb).2.1, hW2_b0_2.lt1 b hb⟩; exact ⟨(hW2_b0_3.lt b hb).2.1, hW2_b0_3.lt1 b hb⟩
          have hBm3 : ∀ b, (reasm_Stream_Data.S b0 A2_b0_2 A2_b0_3) b → (fun _ => False) b ∨ w.heap.size ≤ b := fun b hb => by rcases hb with hb | hb | hb; exact hmn0 b hb; exact hm2_b0_2 b hb; exact hm2_b0_3 b hb
          have hjB3_s2_0 : ∀ b, blk (A2_0, 0, 0) b → ¬ (reasm_Stream_Data.S b0 A2_b0_2 A2_b0_3) b := fun b h0 hb => by rcases hb with hb | hb | hb; exact (Dj.symm dj_w11_s2_0) b h0 hb; exact (Dj.symm dj_w12_s2_0) b h0 hb; exact (Dj.symm dj_w13_s2_0) b h0 hb
          refine ok_callo (reasm_Stream_Data.S b0 A2_b0_2 A2_b0_3) rfl hBv3 (fun L3 w3 g3 lt3 => ?_)
          refine (reasm_Stream_Data.c k _ q2_b0 _ _ _ _ 0 _ _ _ (((l0.drop (Int.toNat 0)).take (Int.toNat (if 4096 < ((l0.length : Nat) : Int) then 4096 else ((l0.length : Nat) : Int)) - Int.toNat 0))) true (v3_0, q3) hr3 (sub_len hs8.1 hs8.2.1 hs8.2.2) w3 (hW2_b0.later g3).bare' (hW2_b0_2.later g3).bare' (hW2_b0_3.later g3).bare' dj_w12_w11 dj_w13_w11 dj_w13_w12 ((hS0.later ((hF.trans g3).with hBm3)).sub _ _ hs8.1 hs8.2.1 hs8.2.2)).mono ?_
          rintro e w3' ⟨A3_w2, c3_w2, A3_w3, c3_w3, rfl, hf3, hWc3, hWc3_2, hWc3_3, djc3_1_0, djc3_2_0, djc3_2_1, hzc3_2, hzc3_3⟩
          refine ⟨(v3_0, ()), rfl, hf3, fun g3' hid3 hv3 => ?_⟩
          try dsimp only
          have dn3_2_s2_0 : Dj A3_w2 A2_0 := Dj.byB hzc3_2 hjB3_s2_0 (hO_s2_0.later g3).lt
          have dn3_3_s2_0 : Dj A3_w3 A2_0 := Dj.byB hzc3_3 hjB3_s2_0 (hO_s2_0.later g3).lt
          have hmc3 := hmn0
          have hmc3_2 : ∀ b, blk (A3_w2, 0, 0) b → (fun _ => False) b ∨ w.heap.size ≤ b := fun b hb => (hzc3_2 b hb).elim (hBm3 b) (fun h => Or.inr (Nat.le_trans (hF.trans g3).size h))
          have hmc3_3 : ∀ b, blk (A3_w3, 0, 0) b → (fun _ => False) b ∨ w.heap.size ≤ b := fun b hb => (hzc3_3 b hb).elim (hBm3 b) (fun h => Or.inr (Nat.le_trans (hF.trans g3).size h))
          have hWc3 := hWc3.vis (fun b hb => hv3 b (Or.inl (Or.inl hb)))
          have hWc3_2 := hWc3_2.vis (fun b hb => hv3 b (hzc3_2 b hb))
          have hWc3_3 := hWc3_3.vis (fun b hb => hv3 b (hzc3_3 b hb))
          have hO_s2_0 := OwnF.others hO_s2_0 hjB3_s2_0 g3'
          have hF := Fine.own hF g3' hBm3 hid3
          refine ok_if (fun hc84 => ?_) (fun hc84 => ?_)
          · have h := bif_t h hc84
            obtain rfl := Option.some.inj h
            obtain rfl := hr_2 _ rfl
            intro ρ L w' _ he _ _
            exact ⟨rfl, (hF.ext he).below⟩
          · have h := bif_f h hc84
            obtain ⟨r4, hr4, h⟩ := Option.bind_eq_some_iff.1 h
            obtain ⟨s4_0, q4⟩ := r4
            try dsimp only at h
            have hBv4 : ∀ b, (reasm_Stream_Read.S b0 A3_w2 A3_w3) b → ¬ _ ∧ b < _ := fun b hb => by rcases hb with hb | hb | hb; exact ⟨(hWc3.lt b hb).2.1, hWc3.lt1 b hb⟩; exact ⟨(hWc3_2.lt b hb).2.1, hWc3_2.lt1 b hb⟩; exact ⟨(hWc3_3.lt b hb).2.1, hWc3_3.lt1 b hb⟩
            have hBm4 : ∀ b, (reasm_Stream_Read.S b0 A3_w2 A3_w3) b → (fun _ => False) b ∨ w.heap.size ≤ b := fun b hb => by rcases hb with hb | hb | hb; exact hmc3 b hb; exact hmc3_2 b hb; exact hmc3_3 b hb
            have hjB4_s2_0 : ∀ b, blk (A2_0, 0, 0) b → ¬ (reasm_Stream_Read.S b0 A3_w2 A3_w3) b := fun b h0 hb => by rcases hb with hb | hb | hb; exact (Dj.symm dj_w11_s2_0) b h0 hb; exact (Dj.symm dn3_2_s2_0) b h0 hb; exact (Dj.symm dn3_3_s2_0) b h0 hb
            refine ok_callo (reasm_Stream_Read.S b0 A3_w2 A3_w3) rfl hBv4 (fun L4 w4 g4 lt4 => ?_)
            refine (reasm_Stream_Read.c k _ q3 _ _ _ _ (IntKind.wrap IntKind.i64 ((((Int.toNat (if 4096 < ((l0.length : Nat) : Int) then 4096 else ((l0.length : Nat) : Int)) - 0) : Nat) : Int) + 1)) (s4_0, q4) hr4  w4 (hWc3.later g4).bare' (hWc3_2.later g4).bare' (hWc3_3.later g4).bare' djc3_1_0 djc3_2_0 djc3_2_1).mono ?_
            rintro e w4' ⟨A4_w2, c4_w2, A4_w3, c4_w3, A4_0, c4_0, rfl, hf4, hWc4, hWc4_2, hWc4_3, djc4_1_0, djc4_2_0, djc4_2_1, hzc4_2, hzc4_3, hO4_0, dr4_o85_2, dr4_o85_3⟩
            refine ⟨((A4_0, s4_0.length, c4_0), ()), rfl, hf4, fun g4' hid4 hv4 => ?_⟩
            try dsimp only
            have dn4_2_s2_0 : Dj A4_w2 A2_0 := Dj.byB hzc4_2 hjB4_s2_0 (hO_s2_0.later g4).lt
            have dn4_3_s2_0 : Dj A4_w3 A2_0 := Dj.byB hzc4_3 hjB4_s2_0 (hO_s2_0.later g4).lt
            have dj_o85_s2_0 : Dj A4_0 A2_0 := Dj.new hO4_0.fresh (hO_s2_0.later g4).lt
            have dk4_o85 : Dj A4_0 b0 := Dj.new hO4_0.fresh (fun b hb => Nat.lt_of_lt_of_le (hBv4 b (Or.inl hb)).2 g4.size)
            have hmc4 := hmc3
            have hmc4_2 : ∀ b, blk (A4_w2, 0, 0) b → (fun _ => False) b ∨ w.heap.size ≤ b := fun b hb => (hzc4_2 b hb).elim (hBm4 b) (fun h => Or.inr (Nat.le_trans (hF.trans g4).size h))
            have hmc4_3 : ∀ b, blk (A4_w3, 0, 0) b → (fun _ => False) b ∨ w.heap.size ≤ b := fun b hb => (hzc4_3 b hb).elim (hBm4 b) (fun h => Or.inr (Nat.le_trans (hF.trans g4).size h))
            have hWc4 := hWc4.vis (fun b hb => hv4 b (Or.inl (Or.inl hb)))
            have hWc4_2 := hWc4_2.vis (fun b hb => hv4 b (hzc4_2 b hb))
            have hWc4_3 := hWc4_3.vis (fun b hb => hv4 b (hzc4_3 b hb))
            have hO4_0 := hO4_0.call (hF.trans g4).size lt4
            have hO_s2_0 := OwnF.others hO_s2_0 hjB4_s2_0 g4'
            have hF := Fine.own hF g4' hBm4 hid4
            obtain ⟨hq89, h⟩ := bif_need h
            have hq89 := of_decide_eq_true hq89
            refine ok_app (R := R22) (base := w.heap.size) (xs := s2_0) (ys := s4_0) rfl rfl E22 hO_s2_0 hO4_0.sl (by decide) hq89 hF.size (fun A5 c5 L5 w5 hO5 g5 hid5 hbl5 => ?_)
            try dsimp only
            have dj_o90_o85 : Dj A5 A4_0 := Dj.grow (Dj.symm dj_o85_s2_0) hbl5 hO4_0.lt
            have dj_o90_w86 : Dj A5 b0 := Dj.grow (Dj.symm dj_w11_s2_0) hbl5 hWc4.lt1
            have dj_o90_w87 : Dj A5 A4_w2 := Dj.grow (Dj.symm dn4_2_s2_0) hbl5 hWc4_2.lt1
            have dj_o90_w88 : Dj A5 A4_w3 := Dj.grow (Dj.symm dn4_3_s2_0) hbl5 hWc4_3.lt1
            have hO4_0 := hO4_0.other dj_o85_s2_0 g5
            have hWc4 := hWc4.other dj_w11_s2_0 g5
            have hWc4_2 := hWc4_2.other dn4_2_s2_0 g5
            have hWc4_3 := hWc4_3.other dn4_3_s2_0 g5
            have hF := Fine.own hF g5 (fun b hb => Or.inr (Own.base hO_s2_0 hb)) hid5
            obtain ⟨v6_0, hr6, h⟩ := Option.bind_eq_some_iff.1 h
            refine ok_callm rfl (fun L6 w6 g6 lt6 => ?_)
            refine (ref01_Same.c k _ _ _ ((s2_0 ++ s4_0)) _ _ _ (((l0.drop (Int.toNat 0)).take (Int.toNat (if 4096 < ((l0.length : Nat) : Int) then 4096 else ((l0.length : Nat) : Int)) - Int.toNat 0))) v6_0 hr6 rfl (sub_len hs8.1 hs8.2.1 hs8.2.2) w6 (hO5.later g6).sl.bare ((hS0.later (hF.trans g6)).sub _ _ hs8.1 hs8.2.1 hs8.2.2).bare).mono ?_
            rintro e w6' ⟨rfl, hb6⟩
            refine ⟨(v6_0, ()), rfl, hb6, fun g6' => ?_⟩
            try dsimp only
            have hF := hF.trans g6'
            have hO4_0 := hO4_0.later g6'
            have hWc4 := hWc4.later g6'
            have hWc4_2 := hWc4_2.later g6'
            have hWc4_3 := hWc4_3.later g6'
            have hO5 := hO5.later g6'
            refine ok_if (fun hc91 => ?_) (fun hc91 => ?_)
            · have h := bif_t h hc91
              obtain ⟨v7_0, hr7, h⟩ := Option.bind_eq_some_iff.1 h
              refine ok_callm rfl (fun L7 w7 g7 lt7 => ?_)
              refine (reasm_Stream_Over.c k _ (some q4) v7_0 hr7  w7 ((obr45 hWc4.sl hWc4_2.sl hWc4_3.sl).later g7).bare).mono ?_
              rintro e w7' ⟨rfl, hb7⟩
              refine ⟨(v7_0, ()), rfl, hb7, fun g7' => ?_⟩
              try dsimp only
              have hF := hF.trans g7'
              have hO4_0 := hO4_0.later g7'
              have hWc4 := hWc4.later g7'
              have hWc4_2 := hWc4_2.later g7'
              have hWc4_3 := hWc4_3.later g7'
              have hO5 := hO5.later g7'
              refine ok_if (fun hc92 => ?_) (fun hc92 => ?_)
              · have h := bif_t h hc92
                obtain rfl := Option.some.inj h
                obtain rfl := hr_2 _ rfl
                intro ρ L w' _ he _ _
                exact ⟨rfl, (hF.ext he).below⟩
              · have h := bif_f h hc92
                obtain rfl := Option.some.inj h
                obtain rfl := hr_2 _ rfl
                intro ρ L w' _ he _ _
                exact ⟨rfl, (hF.ext he).below⟩
            · have h := bif_f h hc91
              obtain rfl := Option.some.inj h
              obtain rfl := hr_2 _ rfl
              intro ρ L w' _ he _ _
              exact ⟨rfl, (hF.ext he).below⟩
      · have h := bif_f h hc7
        obtain rfl := Option.some.inj h
        intro ρ L w' _ he _ _
        exact ⟨rfl, (hF.ext he).below⟩
end Go.Proofs.Ytdjeadgebcndeaa.X
