/- Functions: their trees, functions over lists that answer as they do, and that they do. -/
import Derived.Test.YtdjeadgebcndeaaRxU
import Derived.Test.YtdjeadgebcndeaaRxSeat
import Derived.Test.YtdjeadgebcndeaaProg
import Derived.Test.YtdjeadgebcndeaaRl0
namespace Go.Proofs.Ytdjeadgebcndeaa.X
open Go Go.RowKit Go.Proofs.YtdjeadgebcndeaaW.Rx
set_option linter.unusedVariables false
set_option linter.unusedSimpArgs false
set_option maxRecDepth 10000
/-! ### turnbuckle/turnbucklelaw09.ReasmRefused: function 6 -/
def law09_ReasmRefused.s2 (k : Nat) (l1 : List (Int × Int × (List Int) × Bool)) : (Int × (Int × Int × (List Int) × (List (Int × Int)) × Int × Bool × Bool)) → Option (Sum (Int × (Int × Int × (List Int) × (List (Int × Int)) × Int × Bool × Bool)) Bool) := fun (v2_0, q2_b0) => bif decide (v2_0 < ((l1.length : Nat) : Int)) then ((getI l1 v2_0).bind fun r16 => (reasm_Stream_Held.F k (some q2_b0)).bind fun v4_0 => (reasm_Stream_Ready.F k (some q2_b0)).bind fun v5_0 => (reasm_Stream_End.F k (some q2_b0)).bind fun (v6_0, v6_1) => bif v6_1 then (bif Int.tmod r16.1 3 == 0 then (bif r16.2.2.2 then ((reasm_Stream_Data.F k q2_b0 r16.2.1 r16.2.2.1 true).bind fun (v7_0, q7) => (reasm_Stream_End.F k (some q7)).bind fun (v8_0, v8_1) => bif v8_1 then (bif v7_0 != 0 then ((reasm_Stream_Held.F k (some q7)).bind fun v9_0 => bif v9_0 != v4_0 then (some (.inr false)) else ((reasm_Stream_Ready.F k (some q7)).bind fun v10_0 => bif v10_0 != v5_0 then (some (.inr false)) else (bif v8_0 != v6_0 then (some (.inr false)) else (some (.inl ((IntKind.wrap IntKind.i64 (v2_0 + 1), q7))))))) else (some (.inl ((IntKind.wrap IntKind.i64 (v2_0 + 1), q7))))) else (bif v7_0 != 0 then ((reasm_Stream_Held.F k (some q7)).bind fun v9_0 => bif v9_0 != v4_0 then (some (.inr false)) else ((reasm_Stream_Ready.F k (some q7)).bind fun v10_0 => bif v10_0 != v5_0 then (some (.inr false)) else (bif v8_0 != v6_0 then (some (.inr false)) else (some (.inr false))))) else (some (.inl ((IntKind.wrap IntKind.i64 (v2_0 + 1), q7)))))) else ((reasm_Stream_Data.F k q2_b0 r16.2.1 r16.2.2.1 false).bind fun (v7_0, q7) => (reasm_Stream_End.F k (some q7)).bind fun (v8_0, v8_1) => bif v8_1 then (bif v7_0 != 0 then ((reasm_Stream_Held.F k (some q7)).bind fun v9_0 => bif v9_0 != v4_0 then (some (.inr false)) else ((reasm_Stream_Ready.F k (some q7)).bind fun v10_0 => bif v10_0 != v5_0 then (some (.inr false)) else (bif v8_0 != v6_0 then (some (.inr false)) else (some (.inl ((IntKind.wrap IntKind.i64 (v2_0 + 1), q7))))))) else (some (.inl ((IntKind.wrap IntKind.i64 (v2_0 + 1), q7))))) else (bif v7_0 != 0 then ((reasm_Stream_Held.F k (some q7)).bind fun v9_0 => bif v9_0 != v4_0 then (some (.inr false)) else ((reasm_Stream_Ready.F k (some q7)).bind fun v10_0 => bif v10_0 != v5_0 then (some (.inr false)) else (bif v8_0 != v6_0 then (some (.inr false)) else (some (.inr false))))) else (some (.inl ((IntKind.wrap IntKind.i64 (v2_0 + 1), q7))))))) else (bif Int.tmod r16.1 3 == 1 then ((reasm_Stream_Read.F k q2_b0 r16.2.1).bind fun (s7_0, q7) => some (.inl ((IntKind.wrap IntKind.i64 (v2_0 + 1), q7)))) else ((reasm_Stream_Reset.F k q2_b0 r16.2.1).bind fun (v7_0, q7) => (reasm_Stream_End.F k (some q7)).bind fun (v8_0, v8_1) => bif v8_1 then (bif v7_0 != 0 then ((reasm_Stream_Held.F k (some q7)).bind fun v9_0 => bif v9_0 != v4_0 then (some (.inr false)) else ((reasm_Stream_Ready.F k (some q7)).bind fun v10_0 => bif v10_0 != v5_0 then (some (.inr false)) else (bif v8_0 != v6_0 then (some (.inr false)) else (some (.inl ((IntKind.wrap IntKind.i64 (v2_0 + 1), q7))))))) else (some (.inl ((IntKind.wrap IntKind.i64 (v2_0 + 1), q7))))) else (bif v7_0 != 0 then ((reasm_Stream_Held.F k (some q7)).bind fun v9_0 => bif v9_0 != v4_0 then (some (.inr false)) else ((reasm_Stream_Ready.F k (some q7)).bind fun v10_0 => bif v10_0 != v5_0 then (some (.inr false)) else (bif v8_0 != v6_0 then (some (.inr false)) else (some (.inr false))))) else (some (.inl ((IntKind.wrap IntKind.i64 (v2_0 + 1), q7)))))))) else (bif Int.tmod r16.1 3 == 0 then (bif r16.2.2.2 then ((reasm_Stream_Data.F k q2_b0 r16.2.1 r16.2.2.1 true).bind fun (v7_0, q7) => (reasm_Stream_End.F k (some q7)).bind fun (v8_0, v8_1) => bif v8_1 then (bif v7_0 != 0 then ((reasm_Stream_Held.F k (some q7)).bind fun v9_0 => bif v9_0 != v4_0 then (some (.inr false)) else ((reasm_Stream_Ready.F k (some q7)).bind fun v10_0 => bif v10_0 != v5_0 then (some (.inr false)) else (bif v8_0 != v6_0 then (some (.inr false)) else (some (.inr false))))) else (some (.inl ((IntKind.wrap IntKind.i64 (v2_0 + 1), q7))))) else (bif v7_0 != 0 then ((reasm_Stream_Held.F k (some q7)).bind fun v9_0 => bif v9_0 != v4_0 then (some (.inr false)) else ((reasm_Stream_Ready.F k (some q7)).bind fun v10_0 => bif v10_0 != v5_0 then (some (.inr false)) else (bif v8_0 != v6_0 then (some (.inr false)) else (some (.inl ((IntKind.wrap IntKind.i64 (v2_0 + 1), q7))))))) else (some (.inl ((IntKind.wrap IntKind.i64 (v2_0 + 1), q7)))))) else ((reasm_Stream_Data.F k q2_b0 r16.2.1 r16.2.2.1 false).bind fun (v7_0, q7) => (reasm_Stream_End.F k (some q7)).bind fun (v8_0, v8_1) => bif v8_1 then (bif v7_0 != 0 then ((reasm_Stream_Held.F k (some q7)).bind fun v9_0 => bif v9_0 != v4_0 then (some (.inr false)) else ((reasm_Stream_Ready.F k (some q7)).bind fun v10_0 => bif v10_0 != v5_0 then (some (.inr false)) else (bif v8_0 != v6_0 then (some (.inr false)) else (some (.inr false))))) else (some (.inl ((IntKind.wrap IntKind.i64 (v2_0 + 1), q7))))) else (bif v7_0 != 0 then ((reasm_Stream_Held.F k (some q7)).bind fun v9_0 => bif v9_0 != v4_0 then (some (.inr false)) else ((reasm_Stream_Ready.F k (some q7)).bind fun v10_0 => bif v10_0 != v5_0 then (some (.inr false)) else (bif v8_0 != v6_0 then (some (.inr false)) else (some (.inl ((IntKind.wrap IntKind.i64 (v2_0 + 1), q7))))))) else (some (.inl ((IntKind.wrap IntKind.i64 (v2_0 + 1), q7))))))) else (bif Int.tmod r16.1 3 == 1 then ((reasm_Stream_Read.F k q2_b0 r16.2.1).bind fun (s7_0, q7) => some (.inl ((IntKind.wrap IntKind.i64 (v2_0 + 1), q7)))) else ((reasm_Stream_Reset.F k q2_b0 r16.2.1).bind fun (v7_0, q7) => (reasm_Stream_End.F k (some q7)).bind fun (v8_0, v8_1) => bif v8_1 then (bif v7_0 != 0 then ((reasm_Stream_Held.F k (some q7)).bind fun v9_0 => bif v9_0 != v4_0 then (some (.inr false)) else ((reasm_Stream_Ready.F k (some q7)).bind fun v10_0 => bif v10_0 != v5_0 then (some (.inr false)) else (bif v8_0 != v6_0 then (some (.inr false)) else (some (.inr false))))) else (some (.inl ((IntKind.wrap IntKind.i64 (v2_0 + 1), q7))))) else (bif v7_0 != 0 then ((reasm_Stream_Held.F k (some q7)).bind fun v9_0 => bif v9_0 != v4_0 then (some (.inr false)) else ((reasm_Stream_Ready.F k (some q7)).bind fun v10_0 => bif v10_0 != v5_0 then (some (.inr false)) else (bif v8_0 != v6_0 then (some (.inr false)) else (some (.inl ((IntKind.wrap IntKind.i64 (v2_0 + 1), q7))))))) else (some (.inl ((IntKind.wrap IntKind.i64 (v2_0 + 1), q7))))))))) else (some (.inr true))
def law09_ReasmRefused.F (k : Nat) (a0 : Int) (l1 : List (Int × Int × (List Int) × Bool)) : Option Bool := (reasm_New.F k a0).bind fun (p0, v0_1) => match p0 with | none => bif v0_1 != 0 then ((law09_alive.F k ).bind fun v1_0 => bif v1_0 then (some true) else (some false)) else ((law09_alive.F k ).bind fun v1_0 => bif v1_0 then (some true) else (some false)) | some q0 => bif v0_1 != 0 then ((law09_alive.F k ).bind fun v1_0 => bif v1_0 then (some true) else (some false)) else ((law09_alive.F k ).bind fun v1_0 => bif v1_0 then (iter (law09_ReasmRefused.s2 k l1) k (0, q0)) else ((law09_alive.F k ).bind fun v2_0 => bif v2_0 then (some true) else (some false)))
abbrev law09_ReasmRefused.A : Nat → LA := fun r => if r = 5 then ⟨[(34, false, [Lf.i IntKind.i64])], []⟩ else ⟨[], []⟩
set_option maxHeartbeats 4000000 in
theorem law09_ReasmRefused.t (a0 : Int) (A1 : Option Addr) (n1 c1 : Nat) : tree Try.prog law09_ReasmRefused.A noC Try.f6 [AV.v (Value.int IntKind.i64 a0), AV.v (Value.slice A1 n1 c1)] [] =
  .call 8 ([AV.v (Value.int IntKind.i64 a0)]) ([]) (Sh.tup [(false, 1), (false, 1)]) ([Lf.p, Lf.i IntKind.i64]) ([]) (fun x0 =>
   bif x0.2.1 != 0 then (
    .call 9 ([]) ([]) (Sh.one) ([Lf.b]) ([]) (fun x1 =>
     bif x1.1 then (
      .done (AV.v (Value.bool true)) ([]))
     else (
      .done (AV.v (Value.bool false)) ([]))))
   else (
    bif Option.isNone x0.1 then (
     .call 9 ([]) ([]) (Sh.one) ([Lf.b]) ([]) (fun x1 =>
      bif x1.1 then (
       .done (AV.v (Value.bool true)) ([]))
      else (
       .done (AV.v (Value.bool false)) ([]))))
    else (
     .call 9 ([]) ([]) (Sh.one) ([Lf.b]) ([]) (fun x1 =>
      bif x1.1 then (
       .loop ([Lf.i IntKind.i64]) ((0, PUnit.unit)) 0 (fun x2 =>
        bif decide (x2.1 < ((n1 : Nat) : Int)) then (
         .need (decide (0 ≤ x2.1) && decide (x2.1 < ((n1 : Nat) : Int)) && Option.isSome A1) (
         .ld (Option.map (fun x => Addr.add x (Int.toNat x2.1 * 4)) A1) ([Lf.i IntKind.u8, Lf.i IntKind.i64, Lf.sl, Lf.b]) (fun x3 =>
          .call 19 ([AV.v (Value.pointer x0.1)]) ([]) (Sh.one) ([Lf.i IntKind.i64]) ([]) (fun x4 =>
           .call 20 ([AV.v (Value.pointer x0.1)]) ([]) (Sh.one) ([Lf.i IntKind.i64]) ([]) (fun x5 =>
            .call 16 ([AV.v (Value.pointer x0.1)]) ([]) (Sh.tup [(false, 1), (false, 1)]) ([Lf.i IntKind.i64, Lf.b]) ([]) (fun x6 =>
             bif x6.2.1 then (
              .need (true) (
              bif Int.tmod x3.1 3 == 0 then (
               bif x3.2.2.2.1 then (
                .call 10 ([AV.v (Value.pointer x0.1), AV.v (Value.int IntKind.i64 x3.2.1), AV.v (Value.slice x3.2.2.1.1 x3.2.2.1.2.1 x3.2.2.1.2.2), AV.v (Value.bool true)]) ([]) (Sh.one) ([Lf.i IntKind.i64]) ([]) (fun x7 =>
                 .call 16 ([AV.v (Value.pointer x0.1)]) ([]) (Sh.tup [(false, 1), (false, 1)]) ([Lf.i IntKind.i64, Lf.b]) ([]) (fun x8 =>
                  bif x8.2.1 then (
                   bif x7.1 != 0 then (
                    .call 19 ([AV.v (Value.pointer x0.1)]) ([]) (Sh.one) ([Lf.i IntKind.i64]) ([]) (fun x9 =>
                     bif x9.1 != x4.1 then (
                      .done (AV.v (Value.bool false)) ([]))
                     else (
                      .call 20 ([AV.v (Value.pointer x0.1)]) ([]) (Sh.one) ([Lf.i IntKind.i64]) ([]) (fun x10 =>
                       bif x10.1 != x5.1 then (
                        .done (AV.v (Value.bool false)) ([]))
                       else (
                        bif x8.1 != x6.1 then (
                         .done (AV.v (Value.bool false)) ([]))
                        else (
                         .again 0 ([Lf.i IntKind.i64]) ((IntKind.wrap IntKind.i64 (x2.1 + 1), PUnit.unit))))))))
                   else (
                    .again 0 ([Lf.i IntKind.i64]) ((IntKind.wrap IntKind.i64 (x2.1 + 1), PUnit.unit))))
                  else (
                   bif x7.1 != 0 then (
                    .call 19 ([AV.v (Value.pointer x0.1)]) ([]) (Sh.one) ([Lf.i IntKind.i64]) ([]) (fun x9 =>
                     bif x9.1 != x4.1 then (
                      .done (AV.v (Value.bool false)) ([]))
                     else (
                      .call 20 ([AV.v (Value.pointer x0.1)]) ([]) (Sh.one) ([Lf.i IntKind.i64]) ([]) (fun x10 =>
                       bif x10.1 != x5.1 then (
                        .done (AV.v (Value.bool false)) ([]))
                       else (
                        bif x8.1 != x6.1 then (
                         .done (AV.v (Value.bool false)) ([]))
                        else (
                         .done (AV.v (Value.bool false)) ([])))))))
                   else (
                    .again 0 ([Lf.i IntKind.i64]) ((IntKind.wrap IntKind.i64 (x2.1 + 1), PUnit.unit)))))))
               else (
                .call 10 ([AV.v (Value.pointer x0.1), AV.v (Value.int IntKind.i64 x3.2.1), AV.v (Value.slice x3.2.2.1.1 x3.2.2.1.2.1 x3.2.2.1.2.2), AV.v (Value.bool false)]) ([]) (Sh.one) ([Lf.i IntKind.i64]) ([]) (fun x7 =>
                 .call 16 ([AV.v (Value.pointer x0.1)]) ([]) (Sh.tup [(false, 1), (false, 1)]) ([Lf.i IntKind.i64, Lf.b]) ([]) (fun x8 =>
                  bif x8.2.1 then (
                   bif x7.1 != 0 then (
                    .call 19 ([AV.v (Value.pointer x0.1)]) ([]) (Sh.one) ([Lf.i IntKind.i64]) ([]) (fun x9 =>
                     bif x9.1 != x4.1 then (
                      .done (AV.v (Value.bool false)) ([]))
                     else (
                      .call 20 ([AV.v (Value.pointer x0.1)]) ([]) (Sh.one) ([Lf.i IntKind.i64]) ([]) (fun x10 =>
                       bif x10.1 != x5.1 then (
                        .done (AV.v (Value.bool false)) ([]))
                       else (
                        bif x8.1 != x6.1 then (
                         .done (AV.v (Value.bool false)) ([]))
                        else (
                         .again 0 ([Lf.i IntKind.i64]) ((IntKind.wrap IntKind.i64 (x2.1 + 1), PUnit.unit))))))))
                   else (
                    .again 0 ([Lf.i IntKind.i64]) ((IntKind.wrap IntKind.i64 (x2.1 + 1), PUnit.unit))))
                  else (
                   bif x7.1 != 0 then (
                    .call 19 ([AV.v (Value.pointer x0.1)]) ([]) (Sh.one) ([Lf.i IntKind.i64]) ([]) (fun x9 =>
                     bif x9.1 != x4.1 then (
                      .done (AV.v (Value.bool false)) ([]))
                     else (
                      .call 20 ([AV.v (Value.pointer x0.1)]) ([]) (Sh.one) ([Lf.i IntKind.i64]) ([]) (fun x10 =>
                       bif x10.1 != x5.1 then (
                        .done (AV.v (Value.bool false)) ([]))
                       else (
                        bif x8.1 != x6.1 then (
                         .done (AV.v (Value.bool false)) ([]))
                        else (
                         .done (AV.v (Value.bool false)) ([])))))))
                   else (
                    .again 0 ([Lf.i IntKind.i64]) ((IntKind.wrap IntKind.i64 (x2.1 + 1), PUnit.unit))))))))
              else (
               bif Int.tmod x3.1 3 == 1 then (
                .call 11 ([AV.v (Value.pointer x0.1), AV.v (Value.int IntKind.i64 x3.2.1)]) ([]) (Sh.one) ([Lf.sl]) ([]) (fun x7 =>
                 .again 0 ([Lf.i IntKind.i64]) ((IntKind.wrap IntKind.i64 (x2.1 + 1), PUnit.unit))))
               else (
                .call 17 ([AV.v (Value.pointer x0.1), AV.v (Value.int IntKind.i64 x3.2.1)]) ([]) (Sh.one) ([Lf.i IntKind.i64]) ([]) (fun x7 =>
                 .call 16 ([AV.v (Value.pointer x0.1)]) ([]) (Sh.tup [(false, 1), (false, 1)]) ([Lf.i IntKind.i64, Lf.b]) ([]) (fun x8 =>
                  bif x8.2.1 then (
                   bif x7.1 != 0 then (
                    .call 19 ([AV.v (Value.pointer x0.1)]) ([]) (Sh.one) ([Lf.i IntKind.i64]) ([]) (fun x9 =>
                     bif x9.1 != x4.1 then (
                      .done (AV.v (Value.bool false)) ([]))
                     else (
                      .call 20 ([AV.v (Value.pointer x0.1)]) ([]) (Sh.one) ([Lf.i IntKind.i64]) ([]) (fun x10 =>
                       bif x10.1 != x5.1 then (
                        .done (AV.v (Value.bool false)) ([]))
                       else (
                        bif x8.1 != x6.1 then (
                         .done (AV.v (Value.bool false)) ([]))
                        else (
                         .again 0 ([Lf.i IntKind.i64]) ((IntKind.wrap IntKind.i64 (x2.1 + 1), PUnit.unit))))))))
                   else (
                    .again 0 ([Lf.i IntKind.i64]) ((IntKind.wrap IntKind.i64 (x2.1 + 1), PUnit.unit))))
                  else (
                   bif x7.1 != 0 then (
                    .call 19 ([AV.v (Value.pointer x0.1)]) ([]) (Sh.one) ([Lf.i IntKind.i64]) ([]) (fun x9 =>
                     bif x9.1 != x4.1 then (
                      .done (AV.v (Value.bool false)) ([]))
                     else (
                      .call 20 ([AV.v (Value.pointer x0.1)]) ([]) (Sh.one) ([Lf.i IntKind.i64]) ([]) (fun x10 =>
                       bif x10.1 != x5.1 then (
                        .done (AV.v (Value.bool false)) ([]))
                       else (
                        bif x8.1 != x6.1 then (
                         .done (AV.v (Value.bool false)) ([]))
                        else (
                         .done (AV.v (Value.bool false)) ([])))))))
                   else (
                    .again 0 ([Lf.i IntKind.i64]) ((IntKind.wrap IntKind.i64 (x2.1 + 1), PUnit.unit))))))))))
             else (
              .need (true) (
              bif Int.tmod x3.1 3 == 0 then (
               bif x3.2.2.2.1 then (
                .call 10 ([AV.v (Value.pointer x0.1), AV.v (Value.int IntKind.i64 x3.2.1), AV.v (Value.slice x3.2.2.1.1 x3.2.2.1.2.1 x3.2.2.1.2.2), AV.v (Value.bool true)]) ([]) (Sh.one) ([Lf.i IntKind.i64]) ([]) (fun x7 =>
                 .call 16 ([AV.v (Value.pointer x0.1)]) ([]) (Sh.tup [(false, 1), (false, 1)]) ([Lf.i IntKind.i64, Lf.b]) ([]) (fun x8 =>
                  bif x8.2.1 then (
                   bif x7.1 != 0 then (
                    .call 19 ([AV.v (Value.pointer x0.1)]) ([]) (Sh.one) ([Lf.i IntKind.i64]) ([]) (fun x9 =>
                     bif x9.1 != x4.1 then (
                      .done (AV.v (Value.bool false)) ([]))
                     else (
                      .call 20 ([AV.v (Value.pointer x0.1)]) ([]) (Sh.one) ([Lf.i IntKind.i64]) ([]) (fun x10 =>
                       bif x10.1 != x5.1 then (
                        .done (AV.v (Value.bool false)) ([]))
                       else (
                        bif x8.1 != x6.1 then (
                         .done (AV.v (Value.bool false)) ([]))
                        else (
                         .done (AV.v (Value.bool false)) ([])))))))
                   else (
                    .again 0 ([Lf.i IntKind.i64]) ((IntKind.wrap IntKind.i64 (x2.1 + 1), PUnit.unit))))
                  else (
                   bif x7.1 != 0 then (
                    .call 19 ([AV.v (Value.pointer x0.1)]) ([]) (Sh.one) ([Lf.i IntKind.i64]) ([]) (fun x9 =>
                     bif x9.1 != x4.1 then (
                      .done (AV.v (Value.bool false)) ([]))
                     else (
                      .call 20 ([AV.v (Value.pointer x0.1)]) ([]) (Sh.one) ([Lf.i IntKind.i64]) ([]) (fun x10 =>
                       bif x10.1 != x5.1 then (
                        .done (AV.v (Value.bool false)) ([]))
                       else (
                        bif x8.1 != x6.1 then (
                         .done (AV.v (Value.bool false)) ([]))
                        else (
                         .again 0 ([Lf.i IntKind.i64]) ((IntKind.wrap IntKind.i64 (x2.1 + 1), PUnit.unit))))))))
                   else (
                    .again 0 ([Lf.i IntKind.i64]) ((IntKind.wrap IntKind.i64 (x2.1 + 1), PUnit.unit)))))))
               else (
                .call 10 ([AV.v (Value.pointer x0.1), AV.v (Value.int IntKind.i64 x3.2.1), AV.v (Value.slice x3.2.2.1.1 x3.2.2.1.2.1 x3.2.2.1.2.2), AV.v (Value.bool false)]) ([]) (Sh.one) ([Lf.i IntKind.i64]) ([]) (fun x7 =>
                 .call 16 ([AV.v (Value.pointer x0.1)]) ([]) (Sh.tup [(false, 1), (false, 1)]) ([Lf.i IntKind.i64, Lf.b]) ([]) (fun x8 =>
                  bif x8.2.1 then (
                   bif x7.1 != 0 then (
                    .call 19 ([AV.v (Value.pointer x0.1)]) ([]) (Sh.one) ([Lf.i IntKind.i64]) ([]) (fun x9 =>
                     bif x9.1 != x4.1 then (
                      .done (AV.v (Value.bool false)) ([]))
                     else (
                      .call 20 ([AV.v (Value.pointer x0.1)]) ([]) (Sh.one) ([Lf.i IntKind.i64]) ([]) (fun x10 =>
                       bif x10.1 != x5.1 then (
                        .done (AV.v (Value.bool false)) ([]))
                       else (
                        bif x8.1 != x6.1 then (
                         .done (AV.v (Value.bool false)) ([]))
                        else (
                         .done (AV.v (Value.bool false)) ([])))))))
                   else (
                    .again 0 ([Lf.i IntKind.i64]) ((IntKind.wrap IntKind.i64 (x2.1 + 1), PUnit.unit))))
                  else (
                   bif x7.1 != 0 then (
                    .call 19 ([AV.v (Value.pointer x0.1)]) ([]) (Sh.one) ([Lf.i IntKind.i64]) ([]) (fun x9 =>
                     bif x9.1 != x4.1 then (
                      .done (AV.v (Value.bool false)) ([]))
                     else (
                      .call 20 ([AV.v (Value.pointer x0.1)]) ([]) (Sh.one) ([Lf.i IntKind.i64]) ([]) (fun x10 =>
                       bif x10.1 != x5.1 then (
                        .done (AV.v (Value.bool false)) ([]))
                       else (
                        bif x8.1 != x6.1 then (
                         .done (AV.v (Value.bool false)) ([]))
                        else (
                         .again 0 ([Lf.i IntKind.i64]) ((IntKind.wrap IntKind.i64 (x2.1 + 1), PUnit.unit))))))))
                   else (
                    .again 0 ([Lf.i IntKind.i64]) ((IntKind.wrap IntKind.i64 (x2.1 + 1), PUnit.unit))))))))
              else (
               bif Int.tmod x3.1 3 == 1 then (
                .call 11 ([AV.v (Value.pointer x0.1), AV.v (Value.int IntKind.i64 x3.2.1)]) ([]) (Sh.one) ([Lf.sl]) ([]) (fun x7 =>
                 .again 0 ([Lf.i IntKind.i64]) ((IntKind.wrap IntKind.i64 (x2.1 + 1), PUnit.unit))))
               else (
                .call 17 ([AV.v (Value.pointer x0.1), AV.v (Value.int IntKind.i64 x3.2.1)]) ([]) (Sh.one) ([Lf.i IntKind.i64]) ([]) (fun x7 =>
                 .call 16 ([AV.v (Value.pointer x0.1)]) ([]) (Sh.tup [(false, 1), (false, 1)]) ([Lf.i IntKind.i64, Lf.b]) ([]) (fun x8 =>
                  bif x8.2.1 then (
                   bif x7.1 != 0 then (
                    .call 19 ([AV.v (Value.pointer x0.1)]) ([]) (Sh.one) ([Lf.i IntKind.i64]) ([]) (fun x9 =>
                     bif x9.1 != x4.1 then (
                      .done (AV.v (Value.bool false)) ([]))
                     else (
                      .call 20 ([AV.v (Value.pointer x0.1)]) ([]) (Sh.one) ([Lf.i IntKind.i64]) ([]) (fun x10 =>
                       bif x10.1 != x5.1 then (
                        .done (AV.v (Value.bool false)) ([]))
                       else (
                        bif x8.1 != x6.1 then (
                         .done (AV.v (Value.bool false)) ([]))
                        else (
                         .done (AV.v (Value.bool false)) ([])))))))
                   else (
                    .again 0 ([Lf.i IntKind.i64]) ((IntKind.wrap IntKind.i64 (x2.1 + 1), PUnit.unit))))
                  else (
                   bif x7.1 != 0 then (
                    .call 19 ([AV.v (Value.pointer x0.1)]) ([]) (Sh.one) ([Lf.i IntKind.i64]) ([]) (fun x9 =>
                     bif x9.1 != x4.1 then (
                      .done (AV.v (Value.bool false)) ([]))
                     else (
                      .call 20 ([AV.v (Value.pointer x0.1)]) ([]) (Sh.one) ([Lf.i IntKind.i64]) ([]) (fun x10 =>
                       bif x10.1 != x5.1 then (
                        .done (AV.v (Value.bool false)) ([]))
                       else (
                        bif x8.1 != x6.1 then (
                         .done (AV.v (Value.bool false)) ([]))
                        else (
                         .again 0 ([Lf.i IntKind.i64]) ((IntKind.wrap IntKind.i64 (x2.1 + 1), PUnit.unit))))))))
                   else (
                    .again 0 ([Lf.i IntKind.i64]) ((IntKind.wrap IntKind.i64 (x2.1 + 1), PUnit.unit))))))))))))))))
        else (
         .done (AV.v (Value.bool true)) ([]))))
      else (
       .call 9 ([]) ([]) (Sh.one) ([Lf.b]) ([]) (fun x2 =>
        bif x2.1 then (
         .done (AV.v (Value.bool true)) ([]))
        else (
         .done (AV.v (Value.bool false)) ([])))))))) := by kernel_rfl
set_option maxHeartbeats 4000000 in
theorem law09_ReasmRefused.c (k : Nat) (a0 : Int) (A1 : Option Addr) (n1 c1 : Nat) (l1 : List (Int × Int × (List Int) × Bool)) (r : Bool) (h : law09_ReasmRefused.F k a0 l1 = some r) (hn1 : n1 = l1.length) (w : World) (hS1 : SlR R35 (fun _ => False) w A1 c1 l1) : Calls Try.prog 6 (AV.gs id [AV.v (Value.int IntKind.i64 a0), AV.v (Value.slice A1 n1 c1)]).toArray w fun e w' => e = .returned (((Sh.one : Sh).av (vs [Lf.b] (r, ()))).g id) ∧ Below w.heap.size w w' := by
  subst hn1
  refine enter0 mixed law09_ReasmRefused.A noC [AV.v (Value.int IntKind.i64 a0), AV.v (Value.slice A1 l1.length c1)] Try.func6 rfl rfl rfl (fun hF => ?_)
  rw [law09_ReasmRefused.t]
  unfold law09_ReasmRefused.F at h
  try dsimp only at h
  obtain ⟨r0, hr0, h⟩ := Option.bind_eq_some_iff.1 h
  obtain ⟨p0, v0_1⟩ := r0
  try dsimp only at h
  refine ok_callm rfl (fun L0 w0 g0 lt0 => ?_)
  refine (reasm_New.c k a0 (p0, v0_1) hr0  w0 ).mono ?_
  rintro e w0' ⟨b0, A0_w2, c0_w2, A0_w3, c0_w3, rfl, hb0, hN0⟩
  refine ⟨(b0, v0_1, ()), rfl, hb0, fun g0' => ?_⟩
  try dsimp only
  cases p0 with
  | none =>
    obtain rfl := hN0
    have hF := hF.trans g0'
    refine ok_if (fun hc1 => ?_) (fun hc1 => ?_)
    · have h := bif_t h hc1
      obtain ⟨v1_0, hr1, h⟩ := Option.bind_eq_some_iff.1 h
      refine ok_callm rfl (fun L1 w1 g1 lt1 => ?_)
      refine (law09_alive.c k  v1_0 hr1  w1 ).mono ?_
      rintro e w1' ⟨rfl, hb1⟩
      refine ⟨(v1_0, ()), rfl, hb1, fun g1' => ?_⟩
      try dsimp only
      have hF := hF.trans g1'
      refine ok_if (fun hc2 => ?_) (fun hc2 => ?_)
      · have h := bif_t h hc2
        obtain rfl := Option.some.inj h
        intro ρ L w' _ he _ _
        exact ⟨rfl, (hF.ext he).below⟩
      · have h := bif_f h hc2
        obtain rfl := Option.some.inj h
        intro ρ L w' _ he _ _
        exact ⟨rfl, (hF.ext he).below⟩
    · have h := bif_f h hc1
      refine ok_if (fun hc4 => ?_) (fun hc4 => absurd (hc4.symm.trans rfl) (by decide))
      obtain ⟨v1_0, hr1, h⟩ := Option.bind_eq_some_iff.1 h
      refine ok_callm rfl (fun L1 w1 g1 lt1 => ?_)
      refine (law09_alive.c k  v1_0 hr1  w1 ).mono ?_
      rintro e w1' ⟨rfl, hb1⟩
      refine ⟨(v1_0, ()), rfl, hb1, fun g1' => ?_⟩
      try dsimp only
      have hF := hF.trans g1'
      refine ok_if (fun hc3 => ?_) (fun hc3 => ?_)
      · have h := bif_t h hc3
        obtain rfl := Option.some.inj h
        intro ρ L w' _ he _ _
        exact ⟨rfl, (hF.ext he).below⟩
      · have h := bif_f h hc3
        obtain rfl := Option.some.inj h
        intro ρ L w' _ he _ _
        exact ⟨rfl, (hF.ext he).below⟩
  | some q0 =>
    obtain ⟨hWn0, hWn0_2, hWn0_3, djn0_1_0, djn0_2_0, djn0_2_1⟩ := hN0
    have hmn0 : ∀ b, blk (b0, 0, 0) b → (fun _ => False) b ∨ w.heap.size ≤ b := fun b hb => Or.inr (Nat.le_trans (hF.trans g0).size (hWn0.lt b hb).2.2)
    have hmn0_2 : ∀ b, blk (A0_w2, 0, 0) b → (fun _ => False) b ∨ w.heap.size ≤ b := fun b hb => Or.inr (Nat.le_trans (hF.trans g0).size (hWn0_2.lt b hb).2.2)
    have hmn0_3 : ∀ b, blk (A0_w3, 0, 0) b → (fun _ => False) b ∨ w.heap.size ≤ b := fun b hb => Or.inr (Nat.le_trans (hF.trans g0).size (hWn0_3.lt b hb).2.2)
    have hWn0 := hWn0.call0 lt0
    have hWn0_2 := hWn0_2.call0 lt0
    have hWn0_3 := hWn0_3.call0 lt0
    have hF := hF.trans g0'
    have hA_b0 : Option.isSome b0 = true := hWn0.sl.some (by simp)
    have hN_b0 : Option.isNone b0 = false := by cases b0 <;> simp_all
    refine ok_if (fun hc8 => ?_) (fun hc8 => ?_)
    · have h := bif_t h hc8
      obtain ⟨v1_0, hr1, h⟩ := Option.bind_eq_some_iff.1 h
      refine ok_callm rfl (fun L1 w1 g1 lt1 => ?_)
      refine (law09_alive.c k  v1_0 hr1  w1 ).mono ?_
      rintro e w1' ⟨rfl, hb1⟩
      refine ⟨(v1_0, ()), rfl, hb1, fun g1' => ?_⟩
      try dsimp only
      have hF := hF.trans g1'
      have hWn0 := hWn0.later g1'
      have hWn0_2 := hWn0_2.later g1'
      have hWn0_3 := hWn0_3.later g1'
      refine ok_if (fun hc9 => ?_) (fun hc9 => ?_)
      · have h := bif_t h hc9
        obtain rfl := Option.some.inj h
        intro ρ L w' _ he _ _
        exact ⟨rfl, (hF.ext he).below⟩
      · have h := bif_f h hc9
        obtain rfl := Option.some.inj h
        intro ρ L w' _ he _ _
        exact ⟨rfl, (hF.ext he).below⟩
    · have h := bif_f h hc8
      refine ok_if (fun hc107 => absurd (hc107.symm.trans hN_b0) (by decide)) (fun hc107 => ?_)
      obtain ⟨v1_0, hr1, h⟩ := Option.bind_eq_some_iff.1 h
      refine ok_callm rfl (fun L1 w1 g1 lt1 => ?_)
      refine (law09_alive.c k  v1_0 hr1  w1 ).mono ?_
      rintro e w1' ⟨rfl, hb1⟩
      refine ⟨(v1_0, ()), rfl, hb1, fun g1' => ?_⟩
      try dsimp only
      have hF := hF.trans g1'
      have hWn0 := hWn0.later g1'
      have hWn0_2 := hWn0_2.later g1'
      have hWn0_3 := hWn0_3.later g1'
      refine ok_if (fun hc10 => ?_) (fun hc10 => ?_)
      · have h := bif_t h hc10
        obtain ⟨I2, hI2⟩ : ∃ I : Nat → Tup [Lf.i IntKind.i64] → (Nat → Prop) → World → Prop, I = (fun m_ y L w' => ∃ (v2_0 : Int) (q2_b0 : Int × Int × (List Int) × (List (Int × Int)) × Int × Bool × Bool) (A2_b0_2 : Option Addr) (c2_b0_2 : Nat) (A2_b0_3 : Option Addr) (c2_b0_3 : Nat), y = (v2_0, ()) ∧ iter (law09_ReasmRefused.s2 k l1) m_ (v2_0, q2_b0) = some r ∧ Fine (fun _ => False) w L w' ∧ OwnO 0 L w' 45 RW45 b0 1 [(q2_b0.1, q2_b0.2.1, (A2_b0_2, q2_b0.2.2.1.length, c2_b0_2), (A2_b0_3, q2_b0.2.2.2.1.length, c2_b0_3), q2_b0.2.2.2.2.1, q2_b0.2.2.2.2.2.1, q2_b0.2.2.2.2.2.2)] ∧ OwnO 0 L w' 5 R22 A2_b0_2 c2_b0_2 q2_b0.2.2.1 ∧ OwnO 0 L w' 51 R43 A2_b0_3 c2_b0_3 q2_b0.2.2.2.1 ∧ Dj A2_b0_2 b0 ∧ Dj A2_b0_3 b0 ∧ Dj A2_b0_3 A2_b0_2 ∧ (∀ b, blk (A2_b0_2, 0, 0) b → (fun _ => False) b ∨ w.heap.size ≤ b) ∧ (∀ b, blk (A2_b0_3, 0, 0) b → (fun _ => False) b ∨ w.heap.size ≤ b)) := ⟨_, rfl⟩
        refine ok_loop I2 k (by rw [hI2]; exact ⟨_, q0, A0_w2, c0_w2, A0_w3, c0_w3, rfl, h, hF, hWn0, hWn0_2, hWn0_3, djn0_1_0, djn0_2_0, djn0_2_1, hmn0_2, hmn0_3⟩) ?_
        clear h
        intro m_ y L2 w2 hy
        rw [hI2] at hy
        obtain ⟨v2_0, q2_b0, A2_b0_2, c2_b0_2, A2_b0_3, c2_b0_3, rfl, h, hF, hW2_b0, hW2_b0_2, hW2_b0_3, dj_w13_w12, dj_w14_w12, dj_w14_w13, hm2_b0_2, hm2_b0_3⟩ := hy
        obtain ⟨m2, o2, rfl, h, hl2, hr_2⟩ := iter_some h
        unfold law09_ReasmRefused.s2 at h
        try dsimp only at h
        try dsimp only
        refine ok_if (fun hc15 => ?_) (fun hc15 => ?_)
        · have h := bif_t h hc15
          obtain ⟨r16, hr17, h⟩ := Option.bind_eq_some_iff.1 h
          refine ok_need (getI_need (hS1.later hF) hr17) ?_
          refine ok_get hS1 hF hr17 (by simp) (fun cs hcs => ?_)
          obtain ⟨A3_2, q3_2, c3_2, rfl, hm3_2, hE3_2⟩ := hcs
          subst hm3_2
          refine ⟨(r16.1, r16.2.1, (A3_2, (r16.2.2.1).length, c3_2), r16.2.2.2, ()), rfl, ?_⟩
          try dsimp only
          obtain ⟨v4_0, hr4, h⟩ := Option.bind_eq_some_iff.1 h
          refine ok_callm rfl (fun L4 w4 g4 lt4 => ?_)
          refine (reasm_Stream_Held.c k _ (some q2_b0) v4_0 hr4  w4 ((obr45 hW2_b0.sl hW2_b0_2.sl hW2_b0_3.sl).later g4).bare).mono ?_
          rintro e w4' ⟨rfl, hb4⟩
          refine ⟨(v4_0, ()), rfl, hb4, fun g4' => ?_⟩
          try dsimp only
          have hF := hF.trans g4'
          have hW2_b0 := hW2_b0.later g4'
          have hW2_b0_2 := hW2_b0_2.later g4'
          have hW2_b0_3 := hW2_b0_3.later g4'
          obtain ⟨v5_0, hr5, h⟩ := Option.bind_eq_some_iff.1 h
          refine ok_callm rfl (fun L5 w5 g5 lt5 => ?_)
          refine (reasm_Stream_Ready.c k _ (some q2_b0) v5_0 hr5  w5 ((obr45 hW2_b0.sl hW2_b0_2.sl hW2_b0_3.sl).later g5).bare).mono ?_
          rintro e w5' ⟨rfl, hb5⟩
          refine ⟨(v5_0, ()), rfl, hb5, fun g5' => ?_⟩
          try dsimp only
          have hF := hF.trans g5'
          have hW2_b0 := hW2_b0.later g5'
          have hW2_b0_2 := hW2_b0_2.later g5'
          have hW2_b0_3 := hW2_b0_3.later g5'
          obtain ⟨r6, hr6, h⟩ := Option.bind_eq_some_iff.1 h
          obtain ⟨v6_0, v6_1⟩ := r6
          try dsimp only at h
          refine ok_callm rfl (fun L6 w6 g6 lt6 => ?_)
          refine (reasm_Stream_End.c k _ (some q2_b0) (v6_0, v6_1) hr6  w6 ((obr45 hW2_b0.sl hW2_b0_2.sl hW2_b0_3.sl).later g6).bare).mono ?_
          rintro e w6' ⟨rfl, hb6⟩
          refine ⟨(v6_0, v6_1, ()), rfl, hb6, fun g6' => ?_⟩
          try dsimp only
          have hF := hF.trans g6'
          have hW2_b0 := hW2_b0.later g6'
          have hW2_b0_2 := hW2_b0_2.later g6'
          have hW2_b0_3 := hW2_b0_3.later g6'
          refine ok_if (fun hc19 => ?_) (fun hc19 => ?_)
          · have h := bif_t h hc19
            refine ok_need rfl ?_
            refine ok_if (fun hc20 => ?_) (fun hc20 => ?_)
            · have h := bif_t h hc20
              refine ok_if (fun hc21 => ?_) (fun hc21 => ?_)
              · have h := bif_t h hc21
                obtain ⟨r7, hr7, h⟩ := Option.bind_eq_some_iff.1 h
                obtain ⟨v7_0, q7⟩ := r7
                try dsimp only at h
                have hBv7 : ∀ b, (reasm_Stream_Data.S b0 A2_b0_2 A2_b0_3) b → ¬ _ ∧ b < _ := fun b hb => by rcases hb with hb | hb | hb; exact ⟨(hW2_b0.lt b hb).2.1, hW2_b0.lt1 b hb⟩; exact ⟨(hW2_b0_2.lt b hb).2.1, hW2_b0_2.lt1 b hb⟩; exact ⟨(hW2_b0_3.lt b hb).2.1, hW2_b0_3.lt1 b hb⟩
                have hBm7 : ∀ b, (reasm_Stream_Data.S b0 A2_b0_2 A2_b0_3) b → (fun _ => False) b ∨ w.heap.size ≤ b := fun b hb => by rcases hb with hb | hb | hb; exact hmn0 b hb; exact hm2_b0_2 b hb; exact hm2_b0_3 b hb
                refine ok_callo (reasm_Stream_Data.S b0 A2_b0_2 A2_b0_3) rfl hBv7 (fun L7 w7 g7 lt7 => ?_)
                refine (reasm_Stream_Data.c k _ q2_b0 _ _ _ _ r16.2.1 _ _ _ r16.2.2.1 true (v7_0, q7) hr7 rfl w7 (hW2_b0.later g7).bare' (hW2_b0_2.later g7).bare' (hW2_b0_3.later g7).bare' dj_w13_w12 dj_w14_w12 dj_w14_w13 (hE3_2.later ((hF.trans g7).with hBm7))).mono ?_
                rintro e w7' ⟨A7_w2, c7_w2, A7_w3, c7_w3, rfl, hf7, hWc7, hWc7_2, hWc7_3, djc7_1_0, djc7_2_0, djc7_2_1, hzc7_2, hzc7_3⟩
                refine ⟨(v7_0, ()), rfl, hf7, fun g7' hid7 hv7 => ?_⟩
                try dsimp only
                have hmc7 := hmn0
                have hmc7_2 : ∀ b, blk (A7_w2, 0, 0) b → (fun _ => False) b ∨ w.heap.size ≤ b := fun b hb => (hzc7_2 b hb).elim (hBm7 b) (fun h => Or.inr (Nat.le_trans (hF.trans g7).size h))
                have hmc7_3 : ∀ b, blk (A7_w3, 0, 0) b → (fun _ => False) b ∨ w.heap.size ≤ b := fun b hb => (hzc7_3 b hb).elim (hBm7 b) (fun h => Or.inr (Nat.le_trans (hF.trans g7).size h))
                have hWc7 := hWc7.vis (fun b hb => hv7 b (Or.inl (Or.inl hb)))
                have hWc7_2 := hWc7_2.vis (fun b hb => hv7 b (hzc7_2 b hb))
                have hWc7_3 := hWc7_3.vis (fun b hb => hv7 b (hzc7_3 b hb))
                have hF := Fine.own hF g7' hBm7 hid7
                obtain ⟨r8, hr8, h⟩ := Option.bind_eq_some_iff.1 h
                obtain ⟨v8_0, v8_1⟩ := r8
                try dsimp only at h
                refine ok_callm rfl (fun L8 w8 g8 lt8 => ?_)
                refine (reasm_Stream_End.c k _ (some q7) (v8_0, v8_1) hr8  w8 ((obr45 hWc7.sl hWc7_2.sl hWc7_3.sl).later g8).bare).mono ?_
                rintro e w8' ⟨rfl, hb8⟩
                refine ⟨(v8_0, v8_1, ()), rfl, hb8, fun g8' => ?_⟩
                try dsimp only
                have hF := hF.trans g8'
                have hWc7 := hWc7.later g8'
                have hWc7_2 := hWc7_2.later g8'
                have hWc7_3 := hWc7_3.later g8'
                refine ok_if (fun hc25 => ?_) (fun hc25 => ?_)
                · have h := bif_t h hc25
                  refine ok_if (fun hc26 => ?_) (fun hc26 => ?_)
                  · have h := bif_t h hc26
                    obtain ⟨v9_0, hr9, h⟩ := Option.bind_eq_some_iff.1 h
                    refine ok_callm rfl (fun L9 w9 g9 lt9 => ?_)
                    refine (reasm_Stream_Held.c k _ (some q7) v9_0 hr9  w9 ((obr45 hWc7.sl hWc7_2.sl hWc7_3.sl).later g9).bare).mono ?_
                    rintro e w9' ⟨rfl, hb9⟩
                    refine ⟨(v9_0, ()), rfl, hb9, fun g9' => ?_⟩
                    try dsimp only
                    have hF := hF.trans g9'
                    have hWc7 := hWc7.later g9'
                    have hWc7_2 := hWc7_2.later g9'
                    have hWc7_3 := hWc7_3.later g9'
                    refine ok_if (fun hc27 => ?_) (fun hc27 => ?_)
                    · have h := bif_t h hc27
                      obtain rfl := Option.some.inj h
                      obtain rfl := hr_2 _ rfl
                      intro ρ L w' _ he _ _
                      exact ⟨rfl, (hF.ext he).below⟩
                    · have h := bif_f h hc27
                      obtain ⟨v10_0, hr10, h⟩ := Option.bind_eq_some_iff.1 h
                      refine ok_callm rfl (fun L10 w10 g10 lt10 => ?_)
                      refine (reasm_Stream_Ready.c k _ (some q7) v10_0 hr10  w10 ((obr45 hWc7.sl hWc7_2.sl hWc7_3.sl).later g10).bare).mono ?_
                      rintro e w10' ⟨rfl, hb10⟩
                      refine ⟨(v10_0, ()), rfl, hb10, fun g10' => ?_⟩
                      try dsimp only
                      have hF := hF.trans g10'
                      have hWc7 := hWc7.later g10'
                      have hWc7_2 := hWc7_2.later g10'
                      have hWc7_3 := hWc7_3.later g10'
                      refine ok_if (fun hc28 => ?_) (fun hc28 => ?_)
                      · have h := bif_t h hc28
                        obtain rfl := Option.some.inj h
                        obtain rfl := hr_2 _ rfl
                        intro ρ L w' _ he _ _
                        exact ⟨rfl, (hF.ext he).below⟩
                      · have h := bif_f h hc28
                        refine ok_if (fun hc29 => ?_) (fun hc29 => ?_)
                        · have h := bif_t h hc29
                          obtain rfl := Option.some.inj h
                          obtain rfl := hr_2 _ rfl
                          intro ρ L w' _ he _ _
                          exact ⟨rfl, (hF.ext he).below⟩
                        · have h := bif_f h hc29
                          obtain rfl := Option.some.inj h
                          have h := hl2 _ rfl
                          exact ok_again (I := I2) m2 (Nat.lt_succ_self _) (fun L w' he => by rw [hI2]; exact ⟨_, q7, A7_w2, c7_w2, A7_w3, c7_w3, rfl, h, hF.trans he.fine, hWc7.later he.fine, hWc7_2.later he.fine, hWc7_3.later he.fine, djc7_1_0, djc7_2_0, djc7_2_1, hmc7_2, hmc7_3⟩)
                  · have h := bif_f h hc26
                    obtain rfl := Option.some.inj h
                    have h := hl2 _ rfl
                    exact ok_again (I := I2) m2 (Nat.lt_succ_self _) (fun L w' he => by rw [hI2]; exact ⟨_, q7, A7_w2, c7_w2, A7_w3, c7_w3, rfl, h, hF.trans he.fine, hWc7.later he.fine, hWc7_2.later he.fine, hWc7_3.later he.fine, djc7_1_0, djc7_2_0, djc7_2_1, hmc7_2, hmc7_3⟩)
                · have h := bif_f h hc25
                  refine ok_if (fun hc30 => ?_) (fun hc30 => ?_)
                  · have h := bif_t h hc30
                    obtain ⟨v9_0, hr9, h⟩ := Option.bind_eq_some_iff.1 h
                    refine ok_callm rfl (fun L9 w9 g9 lt9 => ?_)
                    refine (reasm_Stream_Held.c k _ (some q7) v9_0 hr9  w9 ((obr45 hWc7.sl hWc7_2.sl hWc7_3.sl).later g9).bare).mono ?_
                    rintro e w9' ⟨rfl, hb9⟩
                    refine ⟨(v9_0, ()), rfl, hb9, fun g9' => ?_⟩
                    try dsimp only
                    have hF := hF.trans g9'
                    have hWc7 := hWc7.later g9'
                    have hWc7_2 := hWc7_2.later g9'
                    have hWc7_3 := hWc7_3.later g9'
                    refine ok_if (fun hc31 => ?_) (fun hc31 => ?_)
                    · have h := bif_t h hc31
                      obtain rfl := Option.some.inj h
                      obtain rfl := hr_2 _ rfl
                      intro ρ L w' _ he _ _
                      exact ⟨rfl, (hF.ext he).below⟩
                    · have h := bif_f h hc31
                      obtain ⟨v10_0, hr10, h⟩ := Option.bind_eq_some_iff.1 h
                      refine ok_callm rfl (fun L10 w10 g10 lt10 => ?_)
                      refine (reasm_Stream_Ready.c k _ (some q7) v10_0 hr10  w10 ((obr45 hWc7.sl hWc7_2.sl hWc7_3.sl).later g10).bare).mono ?_
                      rintro e w10' ⟨rfl, hb10⟩
                      refine ⟨(v10_0, ()), rfl, hb10, fun g10' => ?_⟩
                      try dsimp only
                      have hF := hF.trans g10'
                      have hWc7 := hWc7.later g10'
                      have hWc7_2 := hWc7_2.later g10'
                      have hWc7_3 := hWc7_3.later g10'
                      refine ok_if (fun hc32 => ?_) (fun hc32 => ?_)
                      · have h := bif_t h hc32
                        obtain rfl := Option.some.inj h
                        obtain rfl := hr_2 _ rfl
                        intro ρ L w' _ he _ _
                        exact ⟨rfl, (hF.ext he).below⟩
                      · have h := bif_f h hc32
                        refine ok_if (fun hc33 => ?_) (fun hc33 => ?_)
                        · have h := bif_t h hc33
                          obtain rfl := Option.some.inj h
                          obtain rfl := hr_2 _ rfl
                          intro ρ L w' _ he _ _
                          exact ⟨rfl, (hF.ext he).below⟩
                        · have h := bif_f h hc33
                          obtain rfl := Option.some.inj h
                          obtain rfl := hr_2 _ rfl
                          intro ρ L w' _ he _ _
                          exact ⟨rfl, (hF.ext he).below⟩
                  · have h := bif_f h hc30
                    obtain rfl := Option.some.inj h
                    have h := hl2 _ rfl
                    exact ok_again (I := I2) m2 (Nat.lt_succ_self _) (fun L w' he => by rw [hI2]; exact ⟨_, q7, A7_w2, c7_w2, A7_w3, c7_w3, rfl, h, hF.trans he.fine, hWc7.later he.fine, hWc7_2.later he.fine, hWc7_3.later he.fine, djc7_1_0, djc7_2_0, djc7_2_1, hmc7_2, hmc7_3⟩)
              · have h := bif_f h hc21
                obtain ⟨r7, hr7, h⟩ := Option.bind_eq_some_iff.1 h
                obtain ⟨v7_0, q7⟩ := r7
                try dsimp only at h
                have hBv7 : ∀ b, (reasm_Stream_Data.S b0 A2_b0_2 A2_b0_3) b → ¬ _ ∧ b < _ := fun b hb => by rcases hb with hb | hb | hb; exact ⟨(hW2_b0.lt b hb).2.1, hW2_b0.lt1 b hb⟩; exact ⟨(hW2_b0_2.lt b hb).2.1, hW2_b0_2.lt1 b hb⟩; exact ⟨(hW2_b0_3.lt b hb).2.1, hW2_b0_3.lt1 b hb⟩
                have hBm7 : ∀ b, (reasm_Stream_Data.S b0 A2_b0_2 A2_b0_3) b → (fun _ => False) b ∨ w.heap.size ≤ b := fun b hb => by rcases hb with hb | hb | hb; exact hmn0 b hb; exact hm2_b0_2 b hb; exact hm2_b0_3 b hb
                refine ok_callo (reasm_Stream_Data.S b0 A2_b0_2 A2_b0_3) rfl hBv7 (fun L7 w7 g7 lt7 => ?_)
                refine (reasm_Stream_Data.c k _ q2_b0 _ _ _ _ r16.2.1 _ _ _ r16.2.2.1 false (v7_0, q7) hr7 rfl w7 (hW2_b0.later g7).bare' (hW2_b0_2.later g7).bare' (hW2_b0_3.later g7).bare' dj_w13_w12 dj_w14_w12 dj_w14_w13 (hE3_2.later ((hF.trans g7).with hBm7))).mono ?_
                rintro e w7' ⟨A7_w2, c7_w2, A7_w3, c7_w3, rfl, hf7, hWc7, hWc7_2, hWc7_3, djc7_1_0, djc7_2_0, djc7_2_1, hzc7_2, hzc7_3⟩
                refine ⟨(v7_0, ()), rfl, hf7, fun g7' hid7 hv7 => ?_⟩
                try dsimp only
                have hmc7 := hmn0
                have hmc7_2 : ∀ b, blk (A7_w2, 0, 0) b → (fun _ => False) b ∨ w.heap.size ≤ b := fun b hb => (hzc7_2 b hb).elim (hBm7 b) (fun h => Or.inr (Nat.le_trans (hF.trans g7).size h))
                have hmc7_3 : ∀ b, blk (A7_w3, 0, 0) b → (fun _ => False) b ∨ w.heap.size ≤ b := fun b hb => (hzc7_3 b hb).elim (hBm7 b) (fun h => Or.inr (Nat.le_trans (hF.trans g7).size h))
                have hWc7 := hWc7.vis (fun b hb => hv7 b (Or.inl (Or.inl hb)))
                have hWc7_2 := hWc7_2.vis (fun b hb => hv7 b (hzc7_2 b hb))
                have hWc7_3 := hWc7_3.vis (fun b hb => hv7 b (hzc7_3 b hb))
                have hF := Fine.own hF g7' hBm7 hid7
                obtain ⟨r8, hr8, h⟩ := Option.bind_eq_some_iff.1 h
                obtain ⟨v8_0, v8_1⟩ := r8
                try dsimp only at h
                refine ok_callm rfl (fun L8 w8 g8 lt8 => ?_)
                refine (reasm_Stream_End.c k _ (some q7) (v8_0, v8_1) hr8  w8 ((obr45 hWc7.sl hWc7_2.sl hWc7_3.sl).later g8).bare).mono ?_
                rintro e w8' ⟨rfl, hb8⟩
                refine ⟨(v8_0, v8_1, ()), rfl, hb8, fun g8' => ?_⟩
                try dsimp only
                have hF := hF.trans g8'
                have hWc7 := hWc7.later g8'
                have hWc7_2 := hWc7_2.later g8'
                have hWc7_3 := hWc7_3.later g8'
                refine ok_if (fun hc37 => ?_) (fun hc37 => ?_)
                · have h := bif_t h hc37
                  refine ok_if (fun hc38 => ?_) (fun hc38 => ?_)
                  · have h := bif_t h hc38
                    obtain ⟨v9_0, hr9, h⟩ := Option.bind_eq_some_iff.1 h
                    refine ok_callm rfl (fun L9 w9 g9 lt9 => ?_)
                    refine (reasm_Stream_Held.c k _ (some q7) v9_0 hr9  w9 ((obr45 hWc7.sl hWc7_2.sl hWc7_3.sl).later g9).bare).mono ?_
                    rintro e w9' ⟨rfl, hb9⟩
                    refine ⟨(v9_0, ()), rfl, hb9, fun g9' => ?_⟩
                    try dsimp only
                    have hF := hF.trans g9'
                    have hWc7 := hWc7.later g9'
                    have hWc7_2 := hWc7_2.later g9'
                    have hWc7_3 := hWc7_3.later g9'
                    refine ok_if (fun hc39 => ?_) (fun hc39 => ?_)
                    · have h := bif_t h hc39
                      obtain rfl := Option.some.inj h
                      obtain rfl := hr_2 _ rfl
                      intro ρ L w' _ he _ _
                      exact ⟨rfl, (hF.ext he).below⟩
                    · have h := bif_f h hc39
                      obtain ⟨v10_0, hr10, h⟩ := Option.bind_eq_some_iff.1 h
                      refine ok_callm rfl (fun L10 w10 g10 lt10 => ?_)
                      refine (reasm_Stream_Ready.c k _ (some q7) v10_0 hr10  w10 ((obr45 hWc7.sl hWc7_2.sl hWc7_3.sl).later g10).bare).mono ?_
                      rintro e w10' ⟨rfl, hb10⟩
                      refine ⟨(v10_0, ()), rfl, hb10, fun g10' => ?_⟩
                      try dsimp only
                      have hF := hF.trans g10'
                      have hWc7 := hWc7.later g10'
                      have hWc7_2 := hWc7_2.later g10'
                      have hWc7_3 := hWc7_3.later g10'
                      refine ok_if (fun hc40 => ?_) (fun hc40 => ?_)
                      · have h := bif_t h hc40
                        obtain rfl := Option.some.inj h
                        obtain rfl := hr_2 _ rfl
                        intro ρ L w' _ he _ _
                        exact ⟨rfl, (hF.ext he).below⟩
                      · have h := bif_f h hc40
                        refine ok_if (fun hc41 => ?_) (fun hc41 => ?_)
                        · have h := bif_t h hc41
                          obtain rfl := Option.some.inj h
                          obtain rfl := hr_2 _ rfl
                          intro ρ L w' _ he _ _
                          exact ⟨rfl, (hF.ext he).below⟩
                        · have h := bif_f h hc41
                          obtain rfl := Option.some.inj h
                          have h := hl2 _ rfl
                          exact ok_again (I := I2) m2 (Nat.lt_succ_self _) (fun L w' he => by rw [hI2]; exact ⟨_, q7, A7_w2, c7_w2, A7_w3, c7_w3, rfl, h, hF.trans he.fine, hWc7.later he.fine, hWc7_2.later he.fine, hWc7_3.later he.fine, djc7_1_0, djc7_2_0, djc7_2_1, hmc7_2, hmc7_3⟩)
                  · have h := bif_f h hc38
                    obtain rfl := Option.some.inj h
                    have h := hl2 _ rfl
                    exact ok_again (I := I2) m2 (Nat.lt_succ_self _) (fun L w' he => by rw [hI2]; exact ⟨_, q7, A7_w2, c7_w2, A7_w3, c7_w3, rfl, h, hF.trans he.fine, hWc7.later he.fine, hWc7_2.later he.fine, hWc7_3.later he.fine, djc7_1_0, djc7_2_0, djc7_2_1, hmc7_2, hmc7_3⟩)
                · have h := bif_f h hc37
                  refine ok_if (fun hc42 => ?_) (fun hc42 => ?_)
                  · have h := bif_t h hc42
                    obtain ⟨v9_0, hr9, h⟩ := Option.bind_eq_some_iff.1 h
                    refine ok_callm rfl (fun L9 w9 g9 lt9 => ?_)
                    refine (reasm_Stream_Held.c k _ (some q7) v9_0 hr9  w9 ((obr45 hWc7.sl hWc7_2.sl hWc7_3.sl).later g9).bare).mono ?_
                    rintro e w9' ⟨rfl, hb9⟩
                    refine ⟨(v9_0, ()), rfl, hb9, fun g9' => ?_⟩
                    try dsimp only
                    have hF := hF.trans g9'
                    have hWc7 := hWc7.later g9'
                    have hWc7_2 := hWc7_2.later g9'
                    have hWc7_3 := hWc7_3.later g9'
                    refine ok_if (fun hc43 => ?_) (fun hc43 => ?_)
                    · have h := bif_t h hc43
                      obtain rfl := Option.some.inj h
                      obtain rfl := hr_2 _ rfl
                      intro ρ L w' _ he _ _
                      exact ⟨rfl, (hF.ext he).below⟩
                    · have h := bif_f h hc43
                      obtain ⟨v10_0, hr10, h⟩ := Option.bind_eq_some_iff.1 h
                      refine ok_callm rfl (fun L10 w10 g10 lt10 => ?_)
                      refine (reasm_Stream_Ready.c k _ (some q7) v10_0 hr10  w10 ((obr45 hWc7.sl hWc7_2.sl hWc7_3.sl).later g10).bare).mono ?_
                      rintro e w10' ⟨rfl, hb10⟩
                      refine ⟨(v10_0, ()), rfl, hb10, fun g10' => ?_⟩
                      try dsimp only
                      have hF := hF.trans g10'
                      have hWc7 := hWc7.later g10'
                      have hWc7_2 := hWc7_2.later g10'
                      have hWc7_3 := hWc7_3.later g10'
                      refine ok_if (fun hc44 => ?_) (fun hc44 => ?_)
                      · have h := bif_t h hc44
                        obtain rfl := Option.some.inj h
                        obtain rfl := hr_2 _ rfl
                        intro ρ L w' _ he _ _
                        exact ⟨rfl, (hF.ext he).below⟩
                      · have h := bif_f h hc44
                        refine ok_if (fun hc45 => ?_) (fun hc45 => ?_)
                        · have h := bif_t h hc45
                          obtain rfl := Option.some.inj h
                          obtain rfl := hr_2 _ rfl
                          intro ρ L w' _ he _ _
                          exact ⟨rfl, (hF.ext he).below⟩
                        · have h := bif_f h hc45
                          obtain rfl := Option.some.inj h
                          obtain rfl := hr_2 _ rfl
                          intro ρ L w' _ he _ _
                          exact ⟨rfl, (hF.ext he).below⟩
                  · have h := bif_f h hc42
                    obtain rfl := Option.some.inj h
                    have h := hl2 _ rfl
                    exact ok_again (I := I2) m2 (Nat.lt_succ_self _) (fun L w' he => by rw [hI2]; exact ⟨_, q7, A7_w2, c7_w2, A7_w3, c7_w3, rfl, h, hF.trans he.fine, hWc7.later he.fine, hWc7_2.later he.fine, hWc7_3.later he.fine, djc7_1_0, djc7_2_0, djc7_2_1, hmc7_2, hmc7_3⟩)
            · have h := bif_f h hc20
              refine ok_if (fun hc46 => ?_) (fun hc46 => ?_)
              · have h := bif_t h hc46
                obtain ⟨r7, hr7, h⟩ := Option.bind_eq_some_iff.1 h
                obtain ⟨s7_0, q7⟩ := r7
                try dsimp only at h
                have hBv7 : ∀ b, (reasm_Stream_Read.S b0 A2_b0_2 A2_b0_3) b → ¬ _ ∧ b < _ := fun b hb => by rcases hb with hb | hb | hb; exact ⟨(hW2_b0.lt b hb).2.1, hW2_b0.lt1 b hb⟩; exact ⟨(hW2_b0_2.lt b hb).2.1, hW2_b0_2.lt1 b hb⟩; exact ⟨(hW2_b0_3.lt b hb).2.1, hW2_b0_3.lt1 b hb⟩
                have hBm7 : ∀ b, (reasm_Stream_Read.S b0 A2_b0_2 A2_b0_3) b → (fun _ => False) b ∨ w.heap.size ≤ b := fun b hb => by rcases hb with hb | hb | hb; exact hmn0 b hb; exact hm2_b0_2 b hb; exact hm2_b0_3 b hb
                refine ok_callo (reasm_Stream_Read.S b0 A2_b0_2 A2_b0_3) rfl hBv7 (fun L7 w7 g7 lt7 => ?_)
                refine (reasm_Stream_Read.c k _ q2_b0 _ _ _ _ r16.2.1 (s7_0, q7) hr7  w7 (hW2_b0.later g7).bare' (hW2_b0_2.later g7).bare' (hW2_b0_3.later g7).bare' dj_w13_w12 dj_w14_w12 dj_w14_w13).mono ?_
                rintro e w7' ⟨A7_w2, c7_w2, A7_w3, c7_w3, A7_0, c7_0, rfl, hf7, hWc7, hWc7_2, hWc7_3, djc7_1_0, djc7_2_0, djc7_2_1, hzc7_2, hzc7_3, hO7_0, dr7_o47_2, dr7_o47_3⟩
                refine ⟨((A7_0, s7_0.length, c7_0), ()), rfl, hf7, fun g7' hid7 hv7 => ?_⟩
                try dsimp only
                have dk7_o47 : Dj A7_0 b0 := Dj.new hO7_0.fresh (fun b hb => Nat.lt_of_lt_of_le (hBv7 b (Or.inl hb)).2 g7.size)
                have hmc7 := hmn0
                have hmc7_2 : ∀ b, blk (A7_w2, 0, 0) b → (fun _ => False) b ∨ w.heap.size ≤ b := fun b hb => (hzc7_2 b hb).elim (hBm7 b) (fun h => Or.inr (Nat.le_trans (hF.trans g7).size h))
                have hmc7_3 : ∀ b, blk (A7_w3, 0, 0) b → (fun _ => False) b ∨ w.heap.size ≤ b := fun b hb => (hzc7_3 b hb).elim (hBm7 b) (fun h => Or.inr (Nat.le_trans (hF.trans g7).size h))
                have hWc7 := hWc7.vis (fun b hb => hv7 b (Or.inl (Or.inl hb)))
                have hWc7_2 := hWc7_2.vis (fun b hb => hv7 b (hzc7_2 b hb))
                have hWc7_3 := hWc7_3.vis (fun b hb => hv7 b (hzc7_3 b hb))
                have hO7_0 := hO7_0.call (hF.trans g7).size lt7
                have hF := Fine.own hF g7' hBm7 hid7
                obtain rfl := Option.some.inj h
                have h := hl2 _ rfl
                exact ok_again (I := I2) m2 (Nat.lt_succ_self _) (fun L w' he => by rw [hI2]; exact ⟨_, q7, A7_w2, c7_w2, A7_w3, c7_w3, rfl, h, hF.trans he.fine, hWc7.later he.fine, hWc7_2.later he.fine, hWc7_3.later he.fine, djc7_1_0, djc7_2_0, djc7_2_1, hmc7_2, hmc7_3⟩)
              · have h := bif_f h hc46
                obtain ⟨r7, hr7, h⟩ := Option.bind_eq_some_iff.1 h
                obtain ⟨v7_0, q7⟩ := r7
                try dsimp only at h
                have hBv7 : ∀ b, (reasm_Stream_Reset.S b0 A2_b0_2 A2_b0_3) b → ¬ _ ∧ b < _ := fun b hb => by rcases hb with hb | hb | hb; exact ⟨(hW2_b0.lt b hb).2.1, hW2_b0.lt1 b hb⟩; exact ⟨(hW2_b0_2.lt b hb).2.1, hW2_b0_2.lt1 b hb⟩; exact ⟨(hW2_b0_3.lt b hb).2.1, hW2_b0_3.lt1 b hb⟩
                have hBm7 : ∀ b, (reasm_Stream_Reset.S b0 A2_b0_2 A2_b0_3) b → (fun _ => False) b ∨ w.heap.size ≤ b := fun b hb => by rcases hb with hb | hb | hb; exact hmn0 b hb; exact hm2_b0_2 b hb; exact hm2_b0_3 b hb
                refine ok_callo (reasm_Stream_Reset.S b0 A2_b0_2 A2_b0_3) rfl hBv7 (fun L7 w7 g7 lt7 => ?_)
                refine (reasm_Stream_Reset.c k _ q2_b0 _ _ _ _ r16.2.1 (v7_0, q7) hr7  w7 (hW2_b0.later g7).bare' (hW2_b0_2.later g7).bare' (hW2_b0_3.later g7).bare' dj_w13_w12 dj_w14_w12 dj_w14_w13).mono ?_
                rintro e w7' ⟨A7_w2, c7_w2, A7_w3, c7_w3, rfl, hf7, hWc7, hWc7_2, hWc7_3, djc7_1_0, djc7_2_0, djc7_2_1, hzc7_2, hzc7_3⟩
                refine ⟨(v7_0, ()), rfl, hf7, fun g7' hid7 hv7 => ?_⟩
                try dsimp only
                have hmc7 := hmn0
                have hmc7_2 : ∀ b, blk (A7_w2, 0, 0) b → (fun _ => False) b ∨ w.heap.size ≤ b := fun b hb => (hzc7_2 b hb).elim (hBm7 b) (fun h => Or.inr (Nat.le_trans (hF.trans g7).size h))
                have hmc7_3 : ∀ b, blk (A7_w3, 0, 0) b → (fun _ => False) b ∨ w.heap.size ≤ b := fun b hb => (hzc7_3 b hb).elim (hBm7 b) (fun h => Or.inr (Nat.le_trans (hF.trans g7).size h))
                have hWc7 := hWc7.vis (fun b hb => hv7 b (Or.inl (Or.inl hb)))
                have hWc7_2 := hWc7_2.vis (fun b hb => hv7 b (hzc7_2 b hb))
                have hWc7_3 := hWc7_3.vis (fun b hb => hv7 b (hzc7_3 b hb))
                have hF := Fine.own hF g7' hBm7 hid7
                obtain ⟨r8, hr8, h⟩ := Option.bind_eq_some_iff.1 h
                obtain ⟨v8_0, v8_1⟩ := r8
                try dsimp only at h
                refine ok_callm rfl (fun L8 w8 g8 lt8 => ?_)
                refine (reasm_Stream_End.c k _ (some q7) (v8_0, v8_1) hr8  w8 ((obr45 hWc7.sl hWc7_2.sl hWc7_3.sl).later g8).bare).mono ?_
                rintro e w8' ⟨rfl, hb8⟩
                refine ⟨(v8_0, v8_1, ()), rfl, hb8, fun g8' => ?_⟩
                try dsimp only
                have hF := hF.trans g8'
                have hWc7 := hWc7.later g8'
                have hWc7_2 := hWc7_2.later g8'
                have hWc7_3 := hWc7_3.later g8'
                refine ok_if (fun hc54 => ?_) (fun hc54 => ?_)
                · have h := bif_t h hc54
                  refine ok_if (fun hc55 => ?_) (fun hc55 => ?_)
                  · have h := bif_t h hc55
                    obtain ⟨v9_0, hr9, h⟩ := Option.bind_eq_some_iff.1 h
                    refine ok_callm rfl (fun L9 w9 g9 lt9 => ?_)
                    refine (reasm_Stream_Held.c k _ (some q7) v9_0 hr9  w9 ((obr45 hWc7.sl hWc7_2.sl hWc7_3.sl).later g9).bare).mono ?_
                    rintro e w9' ⟨rfl, hb9⟩
                    refine ⟨(v9_0, ()), rfl, hb9, fun g9' => ?_⟩
                    try dsimp only
                    have hF := hF.trans g9'
                    have hWc7 := hWc7.later g9'
                    have hWc7_2 := hWc7_2.later g9'
                    have hWc7_3 := hWc7_3.later g9'
                    refine ok_if (fun hc56 => ?_) (fun hc56 => ?_)
                    · have h := bif_t h hc56
                      obtain rfl := Option.some.inj h
                      obtain rfl := hr_2 _ rfl
                      intro ρ L w' _ he _ _
                      exact ⟨rfl, (hF.ext he).below⟩
                    · have h := bif_f h hc56
                      obtain ⟨v10_0, hr10, h⟩ := Option.bind_eq_some_iff.1 h
                      refine ok_callm rfl (fun L10 w10 g10 lt10 => ?_)
                      refine (reasm_Stream_Ready.c k _ (some q7) v10_0 hr10  w10 ((obr45 hWc7.sl hWc7_2.sl hWc7_3.sl).later g10).bare).mono ?_
                      rintro e w10' ⟨rfl, hb10⟩
                      refine ⟨(v10_0, ()), rfl, hb10, fun g10' => ?_⟩
                      try dsimp only
                      have hF := hF.trans g10'
                      have hWc7 := hWc7.later g10'
                      have hWc7_2 := hWc7_2.later g10'
                      have hWc7_3 := hWc7_3.later g10'
                      refine ok_if (fun hc57 => ?_) (fun hc57 => ?_)
                      · have h := bif_t h hc57
                        obtain rfl := Option.some.inj h
                        obtain rfl := hr_2 _ rfl
                        intro ρ L w' _ he _ _
                        exact ⟨rfl, (hF.ext he).below⟩
                      · have h := bif_f h hc57
                        refine ok_if (fun hc58 => ?_) (fun hc58 => ?_)
                        · have h := bif_t h hc58
                          obtain rfl := Option.some.inj h
                          obtain rfl := hr_2 _ rfl
                          intro ρ L w' _ he _ _
                          exact ⟨rfl, (hF.ext he).below⟩
                        · have h := bif_f h hc58
                          obtain rfl := Option.some.inj h
                          have h := hl2 _ rfl
                          exact ok_again (I := I2) m2 (Nat.lt_succ_self _) (fun L w' he => by rw [hI2]; exact ⟨_, q7, A7_w2, c7_w2, A7_w3, c7_w3, rfl, h, hF.trans he.fine, hWc7.later he.fine, hWc7_2.later he.fine, hWc7_3.later he.fine, djc7_1_0, djc7_2_0, djc7_2_1, hmc7_2, hmc7_3⟩)
                  · have h := bif_f h hc55
                    obtain rfl := Option.some.inj h
                    have h := hl2 _ rfl
                    exact ok_again (I := I2) m2 (Nat.lt_succ_self _) (fun L w' he => by rw [hI2]; exact ⟨_, q7, A7_w2, c7_w2, A7_w3, c7_w3, rfl, h, hF.trans he.fine, hWc7.later he.fine, hWc7_2.later he.fine, hWc7_3.later he.fine, djc7_1_0, djc7_2_0, djc7_2_1, hmc7_2, hmc7_3⟩)
                · have h := bif_f h hc54
                  refine ok_if (fun hc59 => ?_) (fun hc59 => ?_)
                  · have h := bif_t h hc59
                    obtain ⟨v9_0, hr9, h⟩ := Option.bind_eq_some_iff.1 h
                    refine ok_callm rfl (fun L9 w9 g9 lt9 => ?_)
                    refine (reasm_Stream_Held.c k _ (some q7) v9_0 hr9  w9 ((obr45 hWc7.sl hWc7_2.sl hWc7_3.sl).later g9).bare).mono ?_
                    rintro e w9' ⟨rfl, hb9⟩
                    refine ⟨(v9_0, ()), rfl, hb9, fun g9' => ?_⟩
                    try dsimp only
                    have hF := hF.trans g9'
                    have hWc7 := hWc7.later g9'
                    have hWc7_2 := hWc7_2.later g9'
                    have hWc7_3 := hWc7_3.later g9'
                    refine ok_if (fun hc60 => ?_) (fun hc60 => ?_)
                    · have h := bif_t h hc60
                      obtain rfl := Option.some.inj h
                      obtain rfl := hr_2 _ rfl
                      intro ρ L w' _ he _ _
                      exact ⟨rfl, (hF.ext he).below⟩
                    · have h := bif_f h hc60
                      obtain ⟨v10_0, hr10, h⟩ := Option.bind_eq_some_iff.1 h
                      refine ok_callm rfl (fun L10 w10 g10 lt10 => ?_)
                      refine (reasm_Stream_Ready.c k _ (some q7) v10_0 hr10  w10 ((obr45 hWc7.sl hWc7_2.sl hWc7_3.sl).later g10).bare).mono ?_
                      rintro e w10' ⟨rfl, hb10⟩
                      refine ⟨(v10_0, ()), rfl, hb10, fun g10' => ?_⟩
                      try dsimp only
                      have hF := hF.trans g10'
                      have hWc7 := hWc7.later g10'
                      have hWc7_2 := hWc7_2.later g10'
                      have hWc7_3 := hWc7_3.later g10'
                      refine ok_if (fun hc61 => ?_) (fun hc61 => ?_)
                      · have h := bif_t h hc61
                        obtain rfl := Option.some.inj h
                        obtain rfl := hr_2 _ rfl
                        intro ρ L w' _ he _ _
                        exact ⟨rfl, (hF.ext he).below⟩
                      · have h := bif_f h hc61
                        refine ok_if (fun hc62 => ?_) (fun hc62 => ?_)
                        · have h := bif_t h hc62
                          obtain rfl := Option.some.inj h
                          obtain rfl := hr_2 _ rfl
                          intro ρ L w' _ he _ _
                          exact ⟨rfl, (hF.ext he).below⟩
                        · have h := bif_f h hc62
                          obtain rfl := Option.some.inj h
                          obtain rfl := hr_2 _ rfl
                          intro ρ L w' _ he _ _
                          exact ⟨rfl, (hF.ext he).below⟩
                  · have h := bif_f h hc59
                    obtain rfl := Option.some.inj h
                    have h := hl2 _ rfl
                    exact ok_again (I := I2) m2 (Nat.lt_succ_self _) (fun L w' he => by rw [hI2]; exact ⟨_, q7, A7_w2, c7_w2, A7_w3, c7_w3, rfl, h, hF.trans he.fine, hWc7.later he.fine, hWc7_2.later he.fine, hWc7_3.later he.fine, djc7_1_0, djc7_2_0, djc7_2_1, hmc7_2, hmc7_3⟩)
          · have h := bif_f h hc19
            refine ok_need rfl ?_
            refine ok_if (fun hc63 => ?_) (fun hc63 => ?_)
            · have h := bif_t h hc63
              refine ok_if (fun hc64 => ?_) (fun hc64 => ?_)
              · have h := bif_t h hc64
                obtain ⟨r7, hr7, h⟩ := Option.bind_eq_some_iff.1 h
                obtain ⟨v7_0, q7⟩ := r7
                try dsimp only at h
                have hBv7 : ∀ b, (reasm_Stream_Data.S b0 A2_b0_2 A2_b0_3) b → ¬ _ ∧ b < _ := fun b hb => by rcases hb with hb | hb | hb; exact ⟨(hW2_b0.lt b hb).2.1, hW2_b0.lt1 b hb⟩; exact ⟨(hW2_b0_2.lt b hb).2.1, hW2_b0_2.lt1 b hb⟩; exact ⟨(hW2_b0_3.lt b hb).2.1, hW2_b0_3.lt1 b hb⟩
                have hBm7 : ∀ b, (reasm_Stream_Data.S b0 A2_b0_2 A2_b0_3) b → (fun _ => False) b ∨ w.heap.size ≤ b := fun b hb => by rcases hb with hb | hb | hb; exact hmn0 b hb; exact hm2_b0_2 b hb; exact hm2_b0_3 b hb
                refine ok_callo (reasm_Stream_Data.S b0 A2_b0_2 A2_b0_3) rfl hBv7 (fun L7 w7 g7 lt7 => ?_)
                refine (reasm_Stream_Data.c k _ q2_b0 _ _ _ _ r16.2.1 _ _ _ r16.2.2.1 true (v7_0, q7) hr7 rfl w7 (hW2_b0.later g7).bare' (hW2_b0_2.later g7).bare' (hW2_b0_3.later g7).bare' dj_w13_w12 dj_w14_w12 dj_w14_w13 (hE3_2.later ((hF.trans g7).with hBm7))).mono ?_
                rintro e w7' ⟨A7_w2, c7_w2, A7_w3, c7_w3, rfl, hf7, hWc7, hWc7_2, hWc7_3, djc7_1_0, djc7_2_0, djc7_2_1, hzc7_2, hzc7_3⟩
                refine ⟨(v7_0, ()), rfl, hf7, fun g7' hid7 hv7 => ?_⟩
                try dsimp only
                have hmc7 := hmn0
                have hmc7_2 : ∀ b, blk (A7_w2, 0, 0) b → (fun _ => False) b ∨ w.heap.size ≤ b := fun b hb => (hzc7_2 b hb).elim (hBm7 b) (fun h => Or.inr (Nat.le_trans (hF.trans g7).size h))
                have hmc7_3 : ∀ b, blk (A7_w3, 0, 0) b → (fun _ => False) b ∨ w.heap.size ≤ b := fun b hb => (hzc7_3 b hb).elim (hBm7 b) (fun h => Or.inr (Nat.le_trans (hF.trans g7).size h))
                have hWc7 := hWc7.vis (fun b hb => hv7 b (Or.inl (Or.inl hb)))
                have hWc7_2 := hWc7_2.vis (fun b hb => hv7 b (hzc7_2 b hb))
                have hWc7_3 := hWc7_3.vis (fun b hb => hv7 b (hzc7_3 b hb))
                have hF := Fine.own hF g7' hBm7 hid7
                obtain ⟨r8, hr8, h⟩ := Option.bind_eq_some_iff.1 h
                obtain ⟨v8_0, v8_1⟩ := r8
                try dsimp only at h
                refine ok_callm rfl (fun L8 w8 g8 lt8 => ?_)
                refine (reasm_Stream_End.c k _ (some q7) (v8_0, v8_1) hr8  w8 ((obr45 hWc7.sl hWc7_2.sl hWc7_3.sl).later g8).bare).mono ?_
                rintro e w8' ⟨rfl, hb8⟩
                refine ⟨(v8_0, v8_1, ()), rfl, hb8, fun g8' => ?_⟩
                try dsimp only
                have hF := hF.trans g8'
                have hWc7 := hWc7.later g8'
                have hWc7_2 := hWc7_2.later g8'
                have hWc7_3 := hWc7_3.later g8'
                refine ok_if (fun hc68 => ?_) (fun hc68 => ?_)
                · have h := bif_t h hc68
                  refine ok_if (fun hc69 => ?_) (fun hc69 => ?_)
                  · have h := bif_t h hc69
                    obtain ⟨v9_0, hr9, h⟩ := Option.bind_eq_some_iff.1 h
                    refine ok_callm rfl (fun L9 w9 g9 lt9 => ?_)
                    refine (reasm_Stream_Held.c k _ (some q7) v9_0 hr9  w9 ((obr45 hWc7.sl hWc7_2.sl hWc7_3.sl).later g9).bare).mono ?_
                    rintro e w9' ⟨rfl, hb9⟩
                    refine ⟨(v9_0, ()), rfl, hb9, fun g9' => ?_⟩
                    try dsimp only
                    have hF := hF.trans g9'
                    have hWc7 := hWc7.later g9'
                    have hWc7_2 := hWc7_2.later g9'
                    have hWc7_3 := hWc7_3.later g9'
                    refine ok_if (fun hc70 => ?_) (fun hc70 => ?_)
                    · have h := bif_t h hc70
                      obtain rfl := Option.some.inj h
                      obtain rfl := hr_2 _ rfl
                      intro ρ L w' _ he _ _
                      exact ⟨rfl, (hF.ext he).below⟩
                    · have h := bif_f h hc70
                      obtain ⟨v10_0, hr10, h⟩ := Option.bind_eq_some_iff.1 h
                      refine ok_callm rfl (fun L10 w10 g10 lt10 => ?_)
                      refine (reasm_Stream_Ready.c k _ (some q7) v10_0 hr10  w10 ((obr45 hWc7.sl hWc7_2.sl hWc7_3.sl).later g10).bare).mono ?_
                      rintro e w10' ⟨rfl, hb10⟩
                      refine ⟨(v10_0, ()), rfl, hb10, fun g10' => ?_⟩
                      try dsimp only
                      have hF := hF.trans g10'
                      have hWc7 := hWc7.later g10'
                      have hWc7_2 := hWc7_2.later g10'
                      have hWc7_3 := hWc7_3.later g10'
                      refine ok_if (fun hc71 => ?_) (fun hc71 => ?_)
                      · have h := bif_t h hc71
                        obtain rfl := Option.some.inj h
                        obtain rfl := hr_2 _ rfl
                        intro ρ L w' _ he _ _
                        exact ⟨rfl, (hF.ext he).below⟩
                      · have h := bif_f h hc71
                        refine ok_if (fun hc72 => ?_) (fun hc72 => ?_)
                        · have h := bif_t h hc72
                          obtain rfl := Option.some.inj h
                          obtain rfl := hr_2 _ rfl
                          intro ρ L w' _ he _ _
                          exact ⟨rfl, (hF.ext he).below⟩
                        · have h := bif_f h hc72
                          obtain rfl := Option.some.inj h
                          obtain rfl := hr_2 _ rfl
                          intro ρ L w' _ he _ _
                          exact ⟨rfl, (hF.ext he).below⟩
                  · have h := bif_f h hc69
                    obtain rfl := Option.some.inj h
                    have h := hl2 _ rfl
                    exact ok_again (I := I2) m2 (Nat.lt_succ_self _) (fun L w' he => by rw [hI2]; exact ⟨_, q7, A7_w2, c7_w2, A7_w3, c7_w3, rfl, h, hF.trans he.fine, hWc7.later he.fine, hWc7_2.later he.fine, hWc7_3.later he.fine, djc7_1_0, djc7_2_0, djc7_2_1, hmc7_2, hmc7_3⟩)
                · have h := bif_f h hc68
                  refine ok_if (fun hc73 => ?_) (fun hc73 => ?_)
                  · have h := bif_t h hc73
                    obtain ⟨v9_0, hr9, h⟩ := Option.bind_eq_some_iff.1 h
                    refine ok_callm rfl (fun L9 w9 g9 lt9 => ?_)
                    refine (reasm_Stream_Held.c k _ (some q7) v9_0 hr9  w9 ((obr45 hWc7.sl hWc7_2.sl hWc7_3.sl).later g9).bare).mono ?_
                    rintro e w9' ⟨rfl, hb9⟩
                    refine ⟨(v9_0, ()), rfl, hb9, fun g9' => ?_⟩
                    try dsimp only
                    have hF := hF.trans g9'
                    have hWc7 := hWc7.later g9'
                    have hWc7_2 := hWc7_2.later g9'
                    have hWc7_3 := hWc7_3.later g9'
                    refine ok_if (fun hc74 => ?_) (fun hc74 => ?_)
                    · have h := bif_t h hc74
                      obtain rfl := Option.some.inj h
                      obtain rfl := hr_2 _ rfl
                      intro ρ L w' _ he _ _
                      exact ⟨rfl, (hF.ext he).below⟩
                    · have h := bif_f h hc74
                      obtain ⟨v10_0, hr10, h⟩ := Option.bind_eq_some_iff.1 h
                      refine ok_callm rfl (fun L10 w10 g10 lt10 => ?_)
                      refine (reasm_Stream_Ready.c k _ (some q7) v10_0 hr10  w10 ((obr45 hWc7.sl hWc7_2.sl hWc7_3.sl).later g10).bare).mono ?_
                      rintro e w10' ⟨rfl, hb10⟩
                      refine ⟨(v10_0, ()), rfl, hb10, fun g10' => ?_⟩
                      try dsimp only
                      have hF := hF.trans g10'
                      have hWc7 := hWc7.later g10'
                      have hWc7_2 := hWc7_2.later g10'
                      have hWc7_3 := hWc7_3.later g10'
                      refine ok_if (fun hc75 => ?_) (fun hc75 => ?_)
                      · have h := bif_t h hc75
                        obtain rfl := Option.some.inj h
                        obtain rfl := hr_2 _ rfl
                        intro ρ L w' _ he _ _
                        exact ⟨rfl, (hF.ext he).below⟩
                      · have h := bif_f h hc75
                        refine ok_if (fun hc76 => ?_) (fun hc76 => ?_)
                        · have h := bif_t h hc76
                          obtain rfl := Option.some.inj h
                          obtain rfl := hr_2 _ rfl
                          intro ρ L w' _ he _ _
                          exact ⟨rfl, (hF.ext he).below⟩
                        · have h := bif_f h hc76
                          obtain rfl := Option.some.inj h
                          have h := hl2 _ rfl
                          exact ok_again (I := I2) m2 (Nat.lt_succ_self _) (fun L w' he => by rw [hI2]; exact ⟨_, q7, A7_w2, c7_w2, A7_w3, c7_w3, rfl, h, hF.trans he.fine, hWc7.later he.fine, hWc7_2.later he.fine, hWc7_3.later he.fine, djc7_1_0, djc7_2_0, djc7_2_1, hmc7_2, hmc7_3⟩)
                  · have h := bif_f h hc73
                    obtain rfl := Option.some.inj h
                    have h := hl2 _ rfl
                    exact ok_again (I := I2) m2 (Nat.lt_succ_self _) (fun L w' he => by rw [hI2]; exact ⟨_, q7, A7_w2, c7_w2, A7_w3, c7_w3, rfl, h, hF.trans he.fine, hWc7.later he.fine, hWc7_2.later he.fine, hWc7_3.later he.fine, djc7_1_0, djc7_2_0, djc7_2_1, hmc7_2, hmc7_3⟩)
              · have h := bif_f h hc64
                obtain ⟨r7, hr7, h⟩ := Option.bind_eq_some_iff.1 h
                obtain ⟨v7_0, q7⟩ := r7
                try dsimp only at h
                have hBv7 : ∀ b, (reasm_Stream_Data.S b0 A2_b0_2 A2_b0_3) b → ¬ _ ∧ b < _ := fun b hb => by rcases hb with hb | hb | hb; exact ⟨(hW2_b0.lt b hb).2.1, hW2_b0.lt1 b hb⟩; exact ⟨(hW2_b0_2.lt b hb).2.1, hW2_b0_2.lt1 b hb⟩; exact ⟨(hW2_b0_3.lt b hb).2.1, hW2_b0_3.lt1 b hb⟩
                have hBm7 : ∀ b, (reasm_Stream_Data.S b0 A2_b0_2 A2_b0_3) b → (fun _ => False) b ∨ w.heap.size ≤ b := fun b hb => by rcases hb with hb | hb | hb; exact hmn0 b hb; exact hm2_b0_2 b hb; exact hm2_b0_3 b hb
                refine ok_callo (reasm_Stream_Data.S b0 A2_b0_2 A2_b0_3) rfl hBv7 (fun L7 w7 g7 lt7 => ?_)
                refine (reasm_Stream_Data.c k _ q2_b0 _ _ _ _ r16.2.1 _ _ _ r16.2.2.1 false (v7_0, q7) hr7 rfl w7 (hW2_b0.later g7).bare' (hW2_b0_2.later g7).bare' (hW2_b0_3.later g7).bare' dj_w13_w12 dj_w14_w12 dj_w14_w13 (hE3_2.later ((hF.trans g7).with hBm7))).mono ?_
                rintro e w7' ⟨A7_w2, c7_w2, A7_w3, c7_w3, rfl, hf7, hWc7, hWc7_2, hWc7_3, djc7_1_0, djc7_2_0, djc7_2_1, hzc7_2, hzc7_3⟩
                refine ⟨(v7_0, ()), rfl, hf7, fun g7' hid7 hv7 => ?_⟩
                try dsimp only
                have hmc7 := hmn0
                have hmc7_2 : ∀ b, blk (A7_w2, 0, 0) b → (fun _ => False) b ∨ w.heap.size ≤ b := fun b hb => (hzc7_2 b hb).elim (hBm7 b) (fun h => Or.inr (Nat.le_trans (hF.trans g7).size h))
                have hmc7_3 : ∀ b, blk (A7_w3, 0, 0) b → (fun _ => False) b ∨ w.heap.size ≤ b := fun b hb => (hzc7_3 b hb).elim (hBm7 b) (fun h => Or.inr (Nat.le_trans (hF.trans g7).size h))
                have hWc7 := hWc7.vis (fun b hb => hv7 b (Or.inl (Or.inl hb)))
                have hWc7_2 := hWc7_2.vis (fun b hb => hv7 b (hzc7_2 b hb))
                have hWc7_3 := hWc7_3.vis (fun b hb => hv7 b (hzc7_3 b hb))
                have hF := Fine.own hF g7' hBm7 hid7
                obtain ⟨r8, hr8, h⟩ := Option.bind_eq_some_iff.1 h
                obtain ⟨v8_0, v8_1⟩ := r8
                try dsimp only at h
                refine ok_callm rfl (fun L8 w8 g8 lt8 => ?_)
                refine (reasm_Stream_End.c k _ (some q7) (v8_0, v8_1) hr8  w8 ((obr45 hWc7.sl hWc7_2.sl hWc7_3.sl).later g8).bare).mono ?_
                rintro e w8' ⟨rfl, hb8⟩
                refine ⟨(v8_0, v8_1, ()), rfl, hb8, fun g8' => ?_⟩
                try dsimp only
                have hF := hF.trans g8'
                have hWc7 := hWc7.later g8'
                have hWc7_2 := hWc7_2.later g8'
                have hWc7_3 := hWc7_3.later g8'
                refine ok_if (fun hc80 => ?_) (fun hc80 => ?_)
                · have h := bif_t h hc80
                  refine ok_if (fun hc81 => ?_) (fun hc81 => ?_)
                  · have h := bif_t h hc81
                    obtain ⟨v9_0, hr9, h⟩ := Option.bind_eq_some_iff.1 h
                    refine ok_callm rfl (fun L9 w9 g9 lt9 => ?_)
                    refine (reasm_Stream_Held.c k _ (some q7) v9_0 hr9  w9 ((obr45 hWc7.sl hWc7_2.sl hWc7_3.sl).later g9).bare).mono ?_
                    rintro e w9' ⟨rfl, hb9⟩
                    refine ⟨(v9_0, ()), rfl, hb9, fun g9' => ?_⟩
                    try dsimp only
                    have hF := hF.trans g9'
                    have hWc7 := hWc7.later g9'
                    have hWc7_2 := hWc7_2.later g9'
                    have hWc7_3 := hWc7_3.later g9'
                    refine ok_if (fun hc82 => ?_) (fun hc82 => ?_)
                    · have h := bif_t h hc82
                      obtain rfl := Option.some.inj h
                      obtain rfl := hr_2 _ rfl
                      intro ρ L w' _ he _ _
                      exact ⟨rfl, (hF.ext he).below⟩
                    · have h := bif_f h hc82
                      obtain ⟨v10_0, hr10, h⟩ := Option.bind_eq_some_iff.1 h
                      refine ok_callm rfl (fun L10 w10 g10 lt10 => ?_)
                      refine (reasm_Stream_Ready.c k _ (some q7) v10_0 hr10  w10 ((obr45 hWc7.sl hWc7_2.sl hWc7_3.sl).later g10).bare).mono ?_
                      rintro e w10' ⟨rfl, hb10⟩
                      refine ⟨(v10_0, ()), rfl, hb10, fun g10' => ?_⟩
                      try dsimp only
                      have hF := hF.trans g10'
                      have hWc7 := hWc7.later g10'
                      have hWc7_2 := hWc7_2.later g10'
                      have hWc7_3 := hWc7_3.later g10'
                      refine ok_if (fun hc83 => ?_) (fun hc83 => ?_)
                      · have h := bif_t h hc83
                        obtain rfl := Option.some.inj h
                        obtain rfl := hr_2 _ rfl
                        intro ρ L w' _ he _ _
                        exact ⟨rfl, (hF.ext he).below⟩
                      · have h := bif_f h hc83
                        refine ok_if (fun hc84 => ?_) (fun hc84 => ?_)
                        · have h := bif_t h hc84
                          obtain rfl := Option.some.inj h
                          obtain rfl := hr_2 _ rfl
                          intro ρ L w' _ he _ _
                          exact ⟨rfl, (hF.ext he).below⟩
                        · have h := bif_f h hc84
                          obtain rfl := Option.some.inj h
                          obtain rfl := hr_2 _ rfl
                          intro ρ L w' _ he _ _
                          exact ⟨rfl, (hF.ext he).below⟩
                  · have h := bif_f h hc81
                    obtain rfl := Option.some.inj h
                    have h := hl2 _ rfl
                    exact ok_again (I := I2) m2 (Nat.lt_succ_self _) (fun L w' he => by rw [hI2]; exact ⟨_, q7, A7_w2, c7_w2, A7_w3, c7_w3, rfl, h, hF.trans he.fine, hWc7.later he.fine, hWc7_2.later he.fine, hWc7_3.later he.fine, djc7_1_0, djc7_2_0, djc7_2_1, hmc7_2, hmc7_3⟩)
                · have h := bif_f h hc80
                  refine ok_if (fun hc85 => ?_) (fun hc85 => ?_)
                  · have h := bif_t h hc85
                    obtain ⟨v9_0, hr9, h⟩ := Option.bind_eq_some_iff.1 h
                    refine ok_callm rfl (fun L9 w9 g9 lt9 => ?_)
                    refine (reasm_Stream_Held.c k _ (some q7) v9_0 hr9  w9 ((obr45 hWc7.sl hWc7_2.sl hWc7_3.sl).later g9).bare).mono ?_
                    rintro e w9' ⟨rfl, hb9⟩
                    refine ⟨(v9_0, ()), rfl, hb9, fun g9' => ?_⟩
                    try dsimp only
                    have hF := hF.trans g9'
                    have hWc7 := hWc7.later g9'
                    have hWc7_2 := hWc7_2.later g9'
                    have hWc7_3 := hWc7_3.later g9'
                    refine ok_if (fun hc86 => ?_) (fun hc86 => ?_)
                    · have h := bif_t h hc86
                      obtain rfl := Option.some.inj h
                      obtain rfl := hr_2 _ rfl
                      intro ρ L w' _ he _ _
                      exact ⟨rfl, (hF.ext he).below⟩
                    · have h := bif_f h hc86
                      obtain ⟨v10_0, hr10, h⟩ := Option.bind_eq_some_iff.1 h
                      refine ok_callm rfl (fun L10 w10 g10 lt10 => ?_)
                      refine (reasm_Stream_Ready.c k _ (some q7) v10_0 hr10  w10 ((obr45 hWc7.sl hWc7_2.sl hWc7_3.sl).later g10).bare).mono ?_
                      rintro e w10' ⟨rfl, hb10⟩
                      refine ⟨(v10_0, ()), rfl, hb10, fun g10' => ?_⟩
                      try dsimp only
                      have hF := hF.trans g10'
                      have hWc7 := hWc7.later g10'
                      have hWc7_2 := hWc7_2.later g10'
                      have hWc7_3 := hWc7_3.later g10'
                      refine ok_if (fun hc87 => ?_) (fun hc87 => ?_)
                      · have h := bif_t h hc87
                        obtain rfl := Option.some.inj h
                        obtain rfl := hr_2 _ rfl
                        intro ρ L w' _ he _ _
                        exact ⟨rfl, (hF.ext he).below⟩
                      · have h := bif_f h hc87
                        refine ok_if (fun hc88 => ?_) (fun hc88 => ?_)
                        · have h := bif_t h hc88
                          obtain rfl := Option.some.inj h
                          obtain rfl := hr_2 _ rfl
                          intro ρ L w' _ he _ _
                          exact ⟨rfl, (hF.ext he).below⟩
                        · have h := bif_f h hc88
                          obtain rfl := Option.some.inj h
                          have h := hl2 _ rfl
                          exact ok_again (I := I2) m2 (Nat.lt_succ_self _) (fun L w' he => by rw [hI2]; exact ⟨_, q7, A7_w2, c7_w2, A7_w3, c7_w3, rfl, h, hF.trans he.fine, hWc7.later he.fine, hWc7_2.later he.fine, hWc7_3.later he.fine, djc7_1_0, djc7_2_0, djc7_2_1, hmc7_2, hmc7_3⟩)
                  · have h := bif_f h hc85
                    obtain rfl := Option.some.inj h
                    have h := hl2 _ rfl
                    exact ok_again (I := I2) m2 (Nat.lt_succ_self _) (fun L w' he => by rw [hI2]; exact ⟨_, q7, A7_w2, c7_w2, A7_w3, c7_w3, rfl, h, hF.trans he.fine, hWc7.later he.fine, hWc7_2.later he.fine, hWc7_3.later he.fine, djc7_1_0, djc7_2_0, djc7_2_1, hmc7_2, hmc7_3⟩)
            · have h := bif_f h hc63
              refine ok_if (fun hc89 => ?_) (fun hc89 => ?_)
              · have h := bif_t h hc89
                obtain ⟨r7, hr7, h⟩ := Option.bind_eq_some_iff.1 h
                obtain ⟨s7_0, q7⟩ := r7
                try dsimp only at h
                have hBv7 : ∀ b, (reasm_Stream_Read.S b0 A2_b0_2 A2_b0_3) b → ¬ _ ∧ b < _ := fun b hb => by rcases hb with hb | hb | hb; exact ⟨(hW2_b0.lt b hb).2.1, hW2_b0.lt1 b hb⟩; exact ⟨(hW2_b0_2.lt b hb).2.1, hW2_b0_2.lt1 b hb⟩; exact ⟨(hW2_b0_3.lt b hb).2.1, hW2_b0_3.lt1 b hb⟩
                have hBm7 : ∀ b, (reasm_Stream_Read.S b0 A2_b0_2 A2_b0_3) b → (fun _ => False) b ∨ w.heap.size ≤ b := fun b hb => by rcases hb with hb | hb | hb; exact hmn0 b hb; exact hm2_b0_2 b hb; exact hm2_b0_3 b hb
                refine ok_callo (reasm_Stream_Read.S b0 A2_b0_2 A2_b0_3) rfl hBv7 (fun L7 w7 g7 lt7 => ?_)
                refine (reasm_Stream_Read.c k _ q2_b0 _ _ _ _ r16.2.1 (s7_0, q7) hr7  w7 (hW2_b0.later g7).bare' (hW2_b0_2.later g7).bare' (hW2_b0_3.later g7).bare' dj_w13_w12 dj_w14_w12 dj_w14_w13).mono ?_
                rintro e w7' ⟨A7_w2, c7_w2, A7_w3, c7_w3, A7_0, c7_0, rfl, hf7, hWc7, hWc7_2, hWc7_3, djc7_1_0, djc7_2_0, djc7_2_1, hzc7_2, hzc7_3, hO7_0, dr7_o90_2, dr7_o90_3⟩
                refine ⟨((A7_0, s7_0.length, c7_0), ()), rfl, hf7, fun g7' hid7 hv7 => ?_⟩
                try dsimp only
                have dk7_o90 : Dj A7_0 b0 := Dj.new hO7_0.fresh (fun b hb => Nat.lt_of_lt_of_le (hBv7 b (Or.inl hb)).2 g7.size)
                have hmc7 := hmn0
                have hmc7_2 : ∀ b, blk (A7_w2, 0, 0) b → (fun _ => False) b ∨ w.heap.size ≤ b := fun b hb => (hzc7_2 b hb).elim (hBm7 b) (fun h => Or.inr (Nat.le_trans (hF.trans g7).size h))
                have hmc7_3 : ∀ b, blk (A7_w3, 0, 0) b → (fun _ => False) b ∨ w.heap.size ≤ b := fun b hb => (hzc7_3 b hb).elim (hBm7 b) (fun h => Or.inr (Nat.le_trans (hF.trans g7).size h))
                have hWc7 := hWc7.vis (fun b hb => hv7 b (Or.inl (Or.inl hb)))
                have hWc7_2 := hWc7_2.vis (fun b hb => hv7 b (hzc7_2 b hb))
                have hWc7_3 := hWc7_3.vis (fun b hb => hv7 b (hzc7_3 b hb))
                have hO7_0 := hO7_0.call (hF.trans g7).size lt7
                have hF := Fine.own hF g7' hBm7 hid7
                obtain rfl := Option.some.inj h
                have h := hl2 _ rfl
                exact ok_again (I := I2) m2 (Nat.lt_succ_self _) (fun L w' he => by rw [hI2]; exact ⟨_, q7, A7_w2, c7_w2, A7_w3, c7_w3, rfl, h, hF.trans he.fine, hWc7.later he.fine, hWc7_2.later he.fine, hWc7_3.later he.fine, djc7_1_0, djc7_2_0, djc7_2_1, hmc7_2, hmc7_3⟩)
              · have h := bif_f h hc89
                obtain ⟨r7, hr7, h⟩ := Option.bind_eq_some_iff.1 h
                obtain ⟨v7_0, q7⟩ := r7
                try dsimp only at h
                have hBv7 : ∀ b, (reasm_Stream_Reset.S b0 A2_b0_2 A2_b0_3) b → ¬ _ ∧ b < _ := fun b hb => by rcases hb with hb | hb | hb; exact ⟨(hW2_b0.lt b hb).2.1, hW2_b0.lt1 b hb⟩; exact ⟨(hW2_b0_2.lt b hb).2.1, hW2_b0_2.lt1 b hb⟩; exact ⟨(hW2_b0_3.lt b hb).2.1, hW2_b0_3.lt1 b hb⟩
                have hBm7 : ∀ b, (reasm_Stream_Reset.S b0 A2_b0_2 A2_b0_3) b → (fun _ => False) b ∨ w.heap.size ≤ b := fun b hb => by rcases hb with hb | hb | hb; exact hmn0 b hb; exact hm2_b0_2 b hb; exact hm2_b0_3 b hb
                refine ok_callo (reasm_Stream_Reset.S b0 A2_b0_2 A2_b0_3) rfl hBv7 (fun L7 w7 g7 lt7 => ?_)
                refine (reasm_Stream_Reset.c k _ q2_b0 _ _ _ _ r16.2.1 (v7_0, q7) hr7  w7 (hW2_b0.later g7).bare' (hW2_b0_2.later g7).bare' (hW2_b0_3.later g7).bare' dj_w13_w12 dj_w14_w12 dj_w14_w13).mono ?_
                rintro e w7' ⟨A7_w2, c7_w2, A7_w3, c7_w3, rfl, hf7, hWc7, hWc7_2, hWc7_3, djc7_1_0, djc7_2_0, djc7_2_1, hzc7_2, hzc7_3⟩
                refine ⟨(v7_0, ()), rfl, hf7, fun g7' hid7 hv7 => ?_⟩
                try dsimp only
                have hmc7 := hmn0
                have hmc7_2 : ∀ b, blk (A7_w2, 0, 0) b → (fun _ => False) b ∨ w.heap.size ≤ b := fun b hb => (hzc7_2 b hb).elim (hBm7 b) (fun h => Or.inr (Nat.le_trans (hF.trans g7).size h))
                have hmc7_3 : ∀ b, blk (A7_w3, 0, 0) b → (fun _ => False) b ∨ w.heap.size ≤ b := fun b hb => (hzc7_3 b hb).elim (hBm7 b) (fun h => Or.inr (Nat.le_trans (hF.trans g7).size h))
                have hWc7 := hWc7.vis (fun b hb => hv7 b (Or.inl (Or.inl hb)))
                have hWc7_2 := hWc7_2.vis (fun b hb => hv7 b (hzc7_2 b hb))
                have hWc7_3 := hWc7_3.vis (fun b hb => hv7 b (hzc7_3 b hb))
                have hF := Fine.own hF g7' hBm7 hid7
                obtain ⟨r8, hr8, h⟩ := Option.bind_eq_some_iff.1 h
                obtain ⟨v8_0, v8_1⟩ := r8
                try dsimp only at h
                refine ok_callm rfl (fun L8 w8 g8 lt8 => ?_)
                refine (reasm_Stream_End.c k _ (some q7) (v8_0, v8_1) hr8  w8 ((obr45 hWc7.sl hWc7_2.sl hWc7_3.sl).later g8).bare).mono ?_
                rintro e w8' ⟨rfl, hb8⟩
                refine ⟨(v8_0, v8_1, ()), rfl, hb8, fun g8' => ?_⟩
                try dsimp only
                have hF := hF.trans g8'
                have hWc7 := hWc7.later g8'
                have hWc7_2 := hWc7_2.later g8'
                have hWc7_3 := hWc7_3.later g8'
                refine ok_if (fun hc97 => ?_) (fun hc97 => ?_)
                · have h := bif_t h hc97
                  refine ok_if (fun hc98 => ?_) (fun hc98 => ?_)
                  · have h := bif_t h hc98
                    obtain ⟨v9_0, hr9, h⟩ := Option.bind_eq_some_iff.1 h
                    refine ok_callm rfl (fun L9 w9 g9 lt9 => ?_)
                    refine (reasm_Stream_Held.c k _ (some q7) v9_0 hr9  w9 ((obr45 hWc7.sl hWc7_2.sl hWc7_3.sl).later g9).bare).mono ?_
                    rintro e w9' ⟨rfl, hb9⟩
                    refine ⟨(v9_0, ()), rfl, hb9, fun g9' => ?_⟩
                    try dsimp only
                    have hF := hF.trans g9'
                    have hWc7 := hWc7.later g9'
                    have hWc7_2 := hWc7_2.later g9'
                    have hWc7_3 := hWc7_3.later g9'
                    refine ok_if (fun hc99 => ?_) (fun hc99 => ?_)
                    · have h := bif_t h hc99
                      obtain rfl := Option.some.inj h
                      obtain rfl := hr_2 _ rfl
                      intro ρ L w' _ he _ _
                      exact ⟨rfl, (hF.ext he).below⟩
                    · have h := bif_f h hc99
                      obtain ⟨v10_0, hr10, h⟩ := Option.bind_eq_some_iff.1 h
                      refine ok_callm rfl (fun L10 w10 g10 lt10 => ?_)
                      refine (reasm_Stream_Ready.c k _ (some q7) v10_0 hr10  w10 ((obr45 hWc7.sl hWc7_2.sl hWc7_3.sl).later g10).bare).mono ?_
                      rintro e w10' ⟨rfl, hb10⟩
                      refine ⟨(v10_0, ()), rfl, hb10, fun g10' => ?_⟩
                      try dsimp only
                      have hF := hF.trans g10'
                      have hWc7 := hWc7.later g10'
                      have hWc7_2 := hWc7_2.later g10'
                      have hWc7_3 := hWc7_3.later g10'
                      refine ok_if (fun hc100 => ?_) (fun hc100 => ?_)
                      · have h := bif_t h hc100
                        obtain rfl := Option.some.inj h
                        obtain rfl := hr_2 _ rfl
                        intro ρ L w' _ he _ _
                        exact ⟨rfl, (hF.ext he).below⟩
                      · have h := bif_f h hc100
                        refine ok_if (fun hc101 => ?_) (fun hc101 => ?_)
                        · have h := bif_t h hc101
                          obtain rfl := Option.some.inj h
                          obtain rfl := hr_2 _ rfl
                          intro ρ L w' _ he _ _
                          exact ⟨rfl, (hF.ext he).below⟩
                        · have h := bif_f h hc101
                          obtain rfl := Option.some.inj h
                          obtain rfl := hr_2 _ rfl
                          intro ρ L w' _ he _ _
                          exact ⟨rfl, (hF.ext he).below⟩
                  · have h := bif_f h hc98
                    obtain rfl := Option.some.inj h
                    have h := hl2 _ rfl
                    exact ok_again (I := I2) m2 (Nat.lt_succ_self _) (fun L w' he => by rw [hI2]; exact ⟨_, q7, A7_w2, c7_w2, A7_w3, c7_w3, rfl, h, hF.trans he.fine, hWc7.later he.fine, hWc7_2.later he.fine, hWc7_3.later he.fine, djc7_1_0, djc7_2_0, djc7_2_1, hmc7_2, hmc7_3⟩)
                · have h := bif_f h hc97
                  refine ok_if (fun hc102 => ?_) (fun hc102 => ?_)
                  · have h := bif_t h hc102
                    obtain ⟨v9_0, hr9, h⟩ := Option.bind_eq_some_iff.1 h
                    refine ok_callm rfl (fun L9 w9 g9 lt9 => ?_)
                    refine (reasm_Stream_Held.c k _ (some q7) v9_0 hr9  w9 ((obr45 hWc7.sl hWc7_2.sl hWc7_3.sl).later g9).bare).mono ?_
                    rintro e w9' ⟨rfl, hb9⟩
                    refine ⟨(v9_0, ()), rfl, hb9, fun g9' => ?_⟩
                    try dsimp only
                    have hF := hF.trans g9'
                    have hWc7 := hWc7.later g9'
                    have hWc7_2 := hWc7_2.later g9'
                    have hWc7_3 := hWc7_3.later g9'
                    refine ok_if (fun hc103 => ?_) (fun hc103 => ?_)
                    · have h := bif_t h hc103
                      obtain rfl := Option.some.inj h
                      obtain rfl := hr_2 _ rfl
                      intro ρ L w' _ he _ _
                      exact ⟨rfl, (hF.ext he).below⟩
                    · have h := bif_f h hc103
                      obtain ⟨v10_0, hr10, h⟩ := Option.bind_eq_some_iff.1 h
                      refine ok_callm rfl (fun L10 w10 g10 lt10 => ?_)
                      refine (reasm_Stream_Ready.c k _ (some q7) v10_0 hr10  w10 ((obr45 hWc7.sl hWc7_2.sl hWc7_3.sl).later g10).bare).mono ?_
                      rintro e w10' ⟨rfl, hb10⟩
                      refine ⟨(v10_0, ()), rfl, hb10, fun g10' => ?_⟩
                      try dsimp only
                      have hF := hF.trans g10'
                      have hWc7 := hWc7.later g10'
                      have hWc7_2 := hWc7_2.later g10'
                      have hWc7_3 := hWc7_3.later g10'
                      refine ok_if (fun hc104 => ?_) (fun hc104 => ?_)
                      · have h := bif_t h hc104
                        obtain rfl := Option.some.inj h
                        obtain rfl := hr_2 _ rfl
                        intro ρ L w' _ he _ _
                        exact ⟨rfl, (hF.ext he).below⟩
                      · have h := bif_f h hc104
                        refine ok_if (fun hc105 => ?_) (fun hc105 => ?_)
                        · have h := bif_t h hc105
                          obtain rfl := Option.some.inj h
                          obtain rfl := hr_2 _ rfl
                          intro ρ L w' _ he _ _
                          exact ⟨rfl, (hF.ext he).below⟩
                        · have h := bif_f h hc105
                          obtain rfl := Option.some.inj h
                          have h := hl2 _ rfl
                          exact ok_again (I := I2) m2 (Nat.lt_succ_self _) (fun L w' he => by rw [hI2]; exact ⟨_, q7, A7_w2, c7_w2, A7_w3, c7_w3, rfl, h, hF.trans he.fine, hWc7.later he.fine, hWc7_2.later he.fine, hWc7_3.later he.fine, djc7_1_0, djc7_2_0, djc7_2_1, hmc7_2, hmc7_3⟩)
                  · have h := bif_f h hc102
                    obtain rfl := Option.some.inj h
                    have h := hl2 _ rfl
                    exact ok_again (I := I2) m2 (Nat.lt_succ_self _) (fun L w' he => by rw [hI2]; exact ⟨_, q7, A7_w2, c7_w2, A7_w3, c7_w3, rfl, h, hF.trans he.fine, hWc7.later he.fine, hWc7_2.later he.fine, hWc7_3.later he.fine, djc7_1_0, djc7_2_0, djc7_2_1, hmc7_2, hmc7_3⟩)
        · have h := bif_f h hc15
          obtain rfl := Option.some.inj h
          obtain rfl := hr_2 _ rfl
          intro ρ L w' _ he _ _
          exact ⟨rfl, (hF.ext he).below⟩
      · have h := bif_f h hc10
        obtain ⟨v2_0, hr2, h⟩ := Option.bind_eq_some_iff.1 h
        refine ok_callm rfl (fun L2 w2 g2 lt2 => ?_)
        refine (law09_alive.c k  v2_0 hr2  w2 ).mono ?_
        rintro e w2' ⟨rfl, hb2⟩
        refine ⟨(v2_0, ()), rfl, hb2, fun g2' => ?_⟩
        try dsimp only
        have hF := hF.trans g2'
        have hWn0 := hWn0.later g2'
        have hWn0_2 := hWn0_2.later g2'
        have hWn0_3 := hWn0_3.later g2'
        refine ok_if (fun hc106 => ?_) (fun hc106 => ?_)
        · have h := bif_t h hc106
          obtain rfl := Option.some.inj h
          intro ρ L w' _ he _ _
          exact ⟨rfl, (hF.ext he).below⟩
        · have h := bif_f h hc106
          obtain rfl := Option.some.inj h
          intro ρ L w' _ he _ _
          exact ⟨rfl, (hF.ext he).below⟩
end Go.Proofs.Ytdjeadgebcndeaa.X
