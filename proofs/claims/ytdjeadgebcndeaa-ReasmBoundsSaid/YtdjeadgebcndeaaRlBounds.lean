/- Functions: their trees, functions over lists that answer as they do, and that they do. -/
import Derived.Test.YtdjeadgebcndeaaRxU
import Derived.Test.YtdjeadgebcndeaaRxSeat
import Derived.Test.YtdjeadgebcndeaaProg
import Derived.Test.YtdjeadgebcndeaaRl0
namespace Go.Proofs.Ytdjeadgebcndeaa.X
open Go Go.RowKit Go.Proofs.YtdjeadgebcndeaaW.Rx
set_option linter.unusedVariables false
set_option linter.unusedSimpArgs false
set_option maxRecDepth 10000
/-! ### turnbuckle/turnbucklelaw09.ReasmBounds: function 5 -/
def law09_ReasmBounds.s2 (k : Nat) (a0 : Int) (l1 : List (Int × Int × (List Int) × Bool)) : (Int × Int × (Int × Int × (List Int) × (List (Int × Int)) × Int × Bool × Bool)) → Option (Sum (Int × Int × (Int × Int × (List Int) × (List (Int × Int)) × Int × Bool × Bool)) Bool) := fun (v2_0, v2_1, q2_b0) => bif decide (v2_1 < ((l1.length : Nat) : Int)) then ((getI l1 v2_1).bind fun r16 => (reasm_Stream_Limit.F k (some q2_b0)).bind fun v4_0 => bif Int.tmod r16.1 3 == 0 then (bif r16.2.2.2 then ((reasm_Stream_Data.F k q2_b0 r16.2.1 r16.2.2.1 true).bind fun (v5_0, q5) => bif v5_0 == 0 then (bif decide (v4_0 < IntKind.wrap IntKind.i64 (r16.2.1 + (((r16.2.2.1).length : Nat) : Int))) then (some (.inr false)) else ((reasm_Stream_Held.F k (some q5)).bind fun v6_0 => bif decide (v6_0 < 0) then (some (.inr false)) else ((reasm_Stream_Held.F k (some q5)).bind fun v7_0 => bif decide (a0 < v7_0) then (some (.inr false)) else ((reasm_Stream_Ready.F k (some q5)).bind fun v8_0 => (reasm_Stream_Held.F k (some q5)).bind fun v9_0 => bif decide (v9_0 < v8_0) then (some (.inr false)) else ((reasm_Stream_At.F k (some q5)).bind fun v10_0 => bif decide ((if v2_0 < IntKind.wrap IntKind.i64 (r16.2.1 + (((r16.2.2.1).length : Nat) : Int)) then IntKind.wrap IntKind.i64 (r16.2.1 + (((r16.2.2.1).length : Nat) : Int)) else v2_0) < v10_0) then (some (.inr false)) else ((reasm_Stream_Limit.F k (some q5)).bind fun v11_0 => (reasm_Stream_At.F k (some q5)).bind fun v12_0 => bif v11_0 != IntKind.wrap IntKind.i64 (v12_0 + a0) then (some (.inr false)) else (some (.inl ((if v2_0 < IntKind.wrap IntKind.i64 (r16.2.1 + (((r16.2.2.1).length : Nat) : Int)) then IntKind.wrap IntKind.i64 (r16.2.1 + (((r16.2.2.1).length : Nat) : Int)) else v2_0, IntKind.wrap IntKind.i64 (v2_1 + 1), q5)))))))))) else ((reasm_Stream_Held.F k (some q5)).bind fun v6_0 => bif decide (v6_0 < 0) then (some (.inr false)) else ((reasm_Stream_Held.F k (some q5)).bind fun v7_0 => bif decide (a0 < v7_0) then (some (.inr false)) else ((reasm_Stream_Ready.F k (some q5)).bind fun v8_0 => (reasm_Stream_Held.F k (some q5)).bind fun v9_0 => bif decide (v9_0 < v8_0) then (some (.inr false)) else ((reasm_Stream_At.F k (some q5)).bind fun v10_0 => bif decide (v2_0 < v10_0) then (some (.inr false)) else ((reasm_Stream_Limit.F k (some q5)).bind fun v11_0 => (reasm_Stream_At.F k (some q5)).bind fun v12_0 => bif v11_0 != IntKind.wrap IntKind.i64 (v12_0 + a0) then (some (.inr false)) else (some (.inl ((v2_0, IntKind.wrap IntKind.i64 (v2_1 + 1), q5)))))))))) else ((reasm_Stream_Data.F k q2_b0 r16.2.1 r16.2.2.1 false).bind fun (v5_0, q5) => bif v5_0 == 0 then (bif decide (v4_0 < IntKind.wrap IntKind.i64 (r16.2.1 + (((r16.2.2.1).length : Nat) : Int))) then (some (.inr false)) else ((reasm_Stream_Held.F k (some q5)).bind fun v6_0 => bif decide (v6_0 < 0) then (some (.inr false)) else ((reasm_Stream_Held.F k (some q5)).bind fun v7_0 => bif decide (a0 < v7_0) then (some (.inr false)) else ((reasm_Stream_Ready.F k (some q5)).bind fun v8_0 => (reasm_Stream_Held.F k (some q5)).bind fun v9_0 => bif decide (v9_0 < v8_0) then (some (.inr false)) else ((reasm_Stream_At.F k (some q5)).bind fun v10_0 => bif decide ((if v2_0 < IntKind.wrap IntKind.i64 (r16.2.1 + (((r16.2.2.1).length : Nat) : Int)) then IntKind.wrap IntKind.i64 (r16.2.1 + (((r16.2.2.1).length : Nat) : Int)) else v2_0) < v10_0) then (some (.inr false)) else ((reasm_Stream_Limit.F k (some q5)).bind fun v11_0 => (reasm_Stream_At.F k (some q5)).bind fun v12_0 => bif v11_0 != IntKind.wrap IntKind.i64 (v12_0 + a0) then (some (.inr false)) else (some (.inl ((if v2_0 < IntKind.wrap IntKind.i64 (r16.2.1 + (((r16.2.2.1).length : Nat) : Int)) then IntKind.wrap IntKind.i64 (r16.2.1 + (((r16.2.2.1).length : Nat) : Int)) else v2_0, IntKind.wrap IntKind.i64 (v2_1 + 1), q5)))))))))) else ((reasm_Stream_Held.F k (some q5)).bind fun v6_0 => bif decide (v6_0 < 0) then (some (.inr false)) else ((reasm_Stream_Held.F k (some q5)).bind fun v7_0 => bif decide (a0 < v7_0) then (some (.inr false)) else ((reasm_Stream_Ready.F k (some q5)).bind fun v8_0 => (reasm_Stream_Held.F k (some q5)).bind fun v9_0 => bif decide (v9_0 < v8_0) then (some (.inr false)) else ((reasm_Stream_At.F k (some q5)).bind fun v10_0 => bif decide (v2_0 < v10_0) then (some (.inr false)) else ((reasm_Stream_Limit.F k (some q5)).bind fun v11_0 => (reasm_Stream_At.F k (some q5)).bind fun v12_0 => bif v11_0 != IntKind.wrap IntKind.i64 (v12_0 + a0) then (some (.inr false)) else (some (.inl ((v2_0, IntKind.wrap IntKind.i64 (v2_1 + 1), q5))))))))))) else (bif Int.tmod r16.1 3 == 1 then ((reasm_Stream_Read.F k q2_b0 r16.2.1).bind fun (s5_0, q5) => bif decide ((if r16.2.1 < 0 then 0 else r16.2.1) < ((s5_0.length : Nat) : Int)) then (some (.inr false)) else ((reasm_Stream_Held.F k (some q5)).bind fun v6_0 => bif decide (v6_0 < 0) then (some (.inr false)) else ((reasm_Stream_Held.F k (some q5)).bind fun v7_0 => bif decide (a0 < v7_0) then (some (.inr false)) else ((reasm_Stream_Ready.F k (some q5)).bind fun v8_0 => (reasm_Stream_Held.F k (some q5)).bind fun v9_0 => bif decide (v9_0 < v8_0) then (some (.inr false)) else ((reasm_Stream_At.F k (some q5)).bind fun v10_0 => bif decide (v2_0 < v10_0) then (some (.inr false)) else ((reasm_Stream_Limit.F k (some q5)).bind fun v11_0 => (reasm_Stream_At.F k (some q5)).bind fun v12_0 => bif v11_0 != IntKind.wrap IntKind.i64 (v12_0 + a0) then (some (.inr false)) else (some (.inl ((v2_0, IntKind.wrap IntKind.i64 (v2_1 + 1), q5)))))))))) else ((reasm_Stream_Reset.F k q2_b0 r16.2.1).bind fun (v5_0, q5) => (reasm_Stream_Held.F k (some q5)).bind fun v6_0 => bif decide (v6_0 < 0) then (some (.inr false)) else ((reasm_Stream_Held.F k (some q5)).bind fun v7_0 => bif decide (a0 < v7_0) then (some (.inr false)) else ((reasm_Stream_Ready.F k (some q5)).bind fun v8_0 => (reasm_Stream_Held.F k (some q5)).bind fun v9_0 => bif decide (v9_0 < v8_0) then (some (.inr false)) else ((reasm_Stream_At.F k (some q5)).bind fun v10_0 => bif decide (v2_0 < v10_0) then (some (.inr false)) else ((reasm_Stream_Limit.F k (some q5)).bind fun v11_0 => (reasm_Stream_At.F k (some q5)).bind fun v12_0 => bif v11_0 != IntKind.wrap IntKind.i64 (v12_0 + a0) then (some (.inr false)) else (some (.inl ((v2_0, IntKind.wrap IntKind.i64 (v2_1 + 1), q5))))))))))) else (some (.inr true))
def law09_ReasmBounds.F (k : Nat) (a0 : Int) (l1 : List (Int × Int × (List Int) × Bool)) : Option Bool := (reasm_New.F k a0).bind fun (p0, v0_1) => match p0 with | none => bif v0_1 != 0 then ((law09_alive.F k ).bind fun v1_0 => bif v1_0 then (some true) else (some false)) else ((law09_alive.F k ).bind fun v1_0 => bif v1_0 then (some true) else (some false)) | some q0 => bif v0_1 != 0 then ((law09_alive.F k ).bind fun v1_0 => bif v1_0 then (some true) else (some false)) else ((law09_alive.F k ).bind fun v1_0 => bif v1_0 then (iter (law09_ReasmBounds.s2 k a0 l1) k (0, 0, q0)) else ((law09_alive.F k ).bind fun v2_0 => bif v2_0 then (some true) else (some false)))
abbrev law09_ReasmBounds.A : Nat → LA := fun r => if r = 6 then ⟨[(7, false, [Lf.i IntKind.i64]), (29, false, [Lf.i IntKind.i64])], []⟩ else ⟨[], []⟩
set_option maxHeartbeats 4000000 in
theorem law09_ReasmBounds.t (a0 : Int) (A1 : Option Addr) (n1 c1 : Nat) : tree Try.prog law09_ReasmBounds.A noC Try.f5 [AV.v (Value.int IntKind.i64 a0), AV.v (Value.slice A1 n1 c1)] [] =
  .call 8 ([AV.v (Value.int IntKind.i64 a0)]) ([]) (Sh.tup [(false, 1), (false, 1)]) ([Lf.p, Lf.i IntKind.i64]) ([]) (fun x0 =>
   bif x0.2.1 != 0 then (
    .call 9 ([]) ([]) (Sh.one) ([Lf.b]) ([]) (fun x1 =>
     bif x1.1 then (
      .done (AV.v (Value.bool true)) ([]))
     else (
      .done (AV.v (Value.bool false)) ([]))))
   else (
    bif Option.isNone x0.1 then (
     .call 9 ([]) ([]) (Sh.one) ([Lf.b]) ([]) (fun x1 =>
      bif x1.1 then (
       .done (AV.v (Value.bool true)) ([]))
      else (
       .done (AV.v (Value.bool false)) ([]))))
    else (
     .call 9 ([]) ([]) (Sh.one) ([Lf.b]) ([]) (fun x1 =>
      bif x1.1 then (
       .loop ([Lf.i IntKind.i64, Lf.i IntKind.i64]) ((0, 0, PUnit.unit)) 0 (fun x2 =>
        bif decide (x2.2.1 < ((n1 : Nat) : Int)) then (
         .need (decide (0 ≤ x2.2.1) && decide (x2.2.1 < ((n1 : Nat) : Int)) && Option.isSome A1) (
         .ld (Option.map (fun x => Addr.add x (Int.toNat x2.2.1 * 4)) A1) ([Lf.i IntKind.u8, Lf.i IntKind.i64, Lf.sl, Lf.b]) (fun x3 =>
          .call 18 ([AV.v (Value.pointer x0.1)]) ([]) (Sh.one) ([Lf.i IntKind.i64]) ([]) (fun x4 =>
           .need (true) (
           bif Int.tmod x3.1 3 == 0 then (
            bif x3.2.2.2.1 then (
             .call 10 ([AV.v (Value.pointer x0.1), AV.v (Value.int IntKind.i64 x3.2.1), AV.v (Value.slice x3.2.2.1.1 x3.2.2.1.2.1 x3.2.2.1.2.2), AV.v (Value.bool true)]) ([]) (Sh.one) ([Lf.i IntKind.i64]) ([]) (fun x5 =>
              bif x5.1 == 0 then (
               bif decide (x4.1 < IntKind.wrap IntKind.i64 (x3.2.1 + ((x3.2.2.1.2.1 : Nat) : Int))) then (
                .done (AV.v (Value.bool false)) ([]))
               else (
                .call 19 ([AV.v (Value.pointer x0.1)]) ([]) (Sh.one) ([Lf.i IntKind.i64]) ([]) (fun x6 =>
                 bif decide (x6.1 < 0) then (
                  .done (AV.v (Value.bool false)) ([]))
                 else (
                  .call 19 ([AV.v (Value.pointer x0.1)]) ([]) (Sh.one) ([Lf.i IntKind.i64]) ([]) (fun x7 =>
                   bif decide (a0 < x7.1) then (
                    .done (AV.v (Value.bool false)) ([]))
                   else (
                    .call 20 ([AV.v (Value.pointer x0.1)]) ([]) (Sh.one) ([Lf.i IntKind.i64]) ([]) (fun x8 =>
                     .call 19 ([AV.v (Value.pointer x0.1)]) ([]) (Sh.one) ([Lf.i IntKind.i64]) ([]) (fun x9 =>
                      bif decide (x9.1 < x8.1) then (
                       .done (AV.v (Value.bool false)) ([]))
                      else (
                       .call 14 ([AV.v (Value.pointer x0.1)]) ([]) (Sh.one) ([Lf.i IntKind.i64]) ([]) (fun x10 =>
                        bif decide ((if x2.1 < IntKind.wrap IntKind.i64 (x3.2.1 + ((x3.2.2.1.2.1 : Nat) : Int)) then IntKind.wrap IntKind.i64 (x3.2.1 + ((x3.2.2.1.2.1 : Nat) : Int)) else x2.1) < x10.1) then (
                         .done (AV.v (Value.bool false)) ([]))
                        else (
                         .call 18 ([AV.v (Value.pointer x0.1)]) ([]) (Sh.one) ([Lf.i IntKind.i64]) ([]) (fun x11 =>
                          .call 14 ([AV.v (Value.pointer x0.1)]) ([]) (Sh.one) ([Lf.i IntKind.i64]) ([]) (fun x12 =>
                           bif x11.1 != IntKind.wrap IntKind.i64 (x12.1 + a0) then (
                            .done (AV.v (Value.bool false)) ([]))
                           else (
                            .again 0 ([Lf.i IntKind.i64, Lf.i IntKind.i64]) ((if x2.1 < IntKind.wrap IntKind.i64 (x3.2.1 + ((x3.2.2.1.2.1 : Nat) : Int)) then IntKind.wrap IntKind.i64 (x3.2.1 + ((x3.2.2.1.2.1 : Nat) : Int)) else x2.1, IntKind.wrap IntKind.i64 (x2.2.1 + 1), PUnit.unit))))))))))))))))
              else (
               .call 19 ([AV.v (Value.pointer x0.1)]) ([]) (Sh.one) ([Lf.i IntKind.i64]) ([]) (fun x6 =>
                bif decide (x6.1 < 0) then (
                 .done (AV.v (Value.bool false)) ([]))
                else (
                 .call 19 ([AV.v (Value.pointer x0.1)]) ([]) (Sh.one) ([Lf.i IntKind.i64]) ([]) (fun x7 =>
                  bif decide (a0 < x7.1) then (
                   .done (AV.v (Value.bool false)) ([]))
                  else (
                   .call 20 ([AV.v (Value.pointer x0.1)]) ([]) (Sh.one) ([Lf.i IntKind.i64]) ([]) (fun x8 =>
                    .call 19 ([AV.v (Value.pointer x0.1)]) ([]) (Sh.one) ([Lf.i IntKind.i64]) ([]) (fun x9 =>
                     bif decide (x9.1 < x8.1) then (
                      .done (AV.v (Value.bool false)) ([]))
                     else (
                      .call 14 ([AV.v (Value.pointer x0.1)]) ([]) (Sh.one) ([Lf.i IntKind.i64]) ([]) (fun x10 =>
                       bif decide (x2.1 < x10.1) then (
                        .done (AV.v (Value.bool false)) ([]))
                       else (
                        .call 18 ([AV.v (Value.pointer x0.1)]) ([]) (Sh.one) ([Lf.i IntKind.i64]) ([]) (fun x11 =>
                         .call 14 ([AV.v (Value.pointer x0.1)]) ([]) (Sh.one) ([Lf.i IntKind.i64]) ([]) (fun x12 =>
                          bif x11.1 != IntKind.wrap IntKind.i64 (x12.1 + a0) then (
                           .done (AV.v (Value.bool false)) ([]))
                          else (
                           .again 0 ([Lf.i IntKind.i64, Lf.i IntKind.i64]) ((x2.1, IntKind.wrap IntKind.i64 (x2.2.1 + 1), PUnit.unit)))))))))))))))))
            else (
             .call 10 ([AV.v (Value.pointer x0.1), AV.v (Value.int IntKind.i64 x3.2.1), AV.v (Value.slice x3.2.2.1.1 x3.2.2.1.2.1 x3.2.2.1.2.2), AV.v (Value.bool false)]) ([]) (Sh.one) ([Lf.i IntKind.i64]) ([]) (fun x5 =>
              bif x5.1 == 0 then (
               bif decide (x4.1 < IntKind.wrap IntKind.i64 (x3.2.1 + ((x3.2.2.1.2.1 : Nat) : Int))) then (
                .done (AV.v (Value.bool false)) ([]))
               else (
                .call 19 ([AV.v (Value.pointer x0.1)]) ([]) (Sh.one) ([Lf.i IntKind.i64]) ([]) (fun x6 =>
                 bif decide (x6.1 < 0) then (
                  .done (AV.v (Value.bool false)) ([]))
                 else (
                  .call 19 ([AV.v (Value.pointer x0.1)]) ([]) (Sh.one) ([Lf.i IntKind.i64]) ([]) (fun x7 =>
                   bif decide (a0 < x7.1) then (
                    .done (AV.v (Value.bool false)) ([]))
                   else (
                    .call 20 ([AV.v (Value.pointer x0.1)]) ([]) (Sh.one) ([Lf.i IntKind.i64]) ([]) (fun x8 =>
                     .call 19 ([AV.v (Value.pointer x0.1)]) ([]) (Sh.one) ([Lf.i IntKind.i64]) ([]) (fun x9 =>
                      bif decide (x9.1 < x8.1) then (
                       .done (AV.v (Value.bool false)) ([]))
                      else (
                       .call 14 ([AV.v (Value.pointer x0.1)]) ([]) (Sh.one) ([Lf.i IntKind.i64]) ([]) (fun x10 =>
                        bif decide ((if x2.1 < IntKind.wrap IntKind.i64 (x3.2.1 + ((x3.2.2.1.2.1 : Nat) : Int)) then IntKind.wrap IntKind.i64 (x3.2.1 + ((x3.2.2.1.2.1 : Nat) : Int)) else x2.1) < x10.1) then (
                         .done (AV.v (Value.bool false)) ([]))
                        else (
                         .call 18 ([AV.v (Value.pointer x0.1)]) ([]) (Sh.one) ([Lf.i IntKind.i64]) ([]) (fun x11 =>
                          .call 14 ([AV.v (Value.pointer x0.1)]) ([]) (Sh.one) ([Lf.i IntKind.i64]) ([]) (fun x12 =>
                           bif x11.1 != IntKind.wrap IntKind.i64 (x12.1 + a0) then (
                            .done (AV.v (Value.bool false)) ([]))
                           else (
                            .again 0 ([Lf.i IntKind.i64, Lf.i IntKind.i64]) ((if x2.1 < IntKind.wrap IntKind.i64 (x3.2.1 + ((x3.2.2.1.2.1 : Nat) : Int)) then IntKind.wrap IntKind.i64 (x3.2.1 + ((x3.2.2.1.2.1 : Nat) : Int)) else x2.1, IntKind.wrap IntKind.i64 (x2.2.1 + 1), PUnit.unit))))))))))))))))
              else (
               .call 19 ([AV.v (Value.pointer x0.1)]) ([]) (Sh.one) ([Lf.i IntKind.i64]) ([]) (fun x6 =>
                bif decide (x6.1 < 0) then (
                 .done (AV.v (Value.bool false)) ([]))
                else (
                 .call 19 ([AV.v (Value.pointer x0.1)]) ([]) (Sh.one) ([Lf.i IntKind.i64]) ([]) (fun x7 =>
                  bif decide (a0 < x7.1) then (
                   .done (AV.v (Value.bool false)) ([]))
                  else (
                   .call 20 ([AV.v (Value.pointer x0.1)]) ([]) (Sh.one) ([Lf.i IntKind.i64]) ([]) (fun x8 =>
                    .call 19 ([AV.v (Value.pointer x0.1)]) ([]) (Sh.one) ([Lf.i IntKind.i64]) ([]) (fun x9 =>
                     bif decide (x9.1 < x8.1) then (
                      .done (AV.v (Value.bool false)) ([]))
                     else (
                      .call 14 ([AV.v (Value.pointer x0.1)]) ([]) (Sh.one) ([Lf.i IntKind.i64]) ([]) (fun x10 =>
                       bif decide (x2.1 < x10.1) then (
                        .done (AV.v (Value.bool false)) ([]))
                       else (
                        .call 18 ([AV.v (Value.pointer x0.1)]) ([]) (Sh.one) ([Lf.i IntKind.i64]) ([]) (fun x11 =>
                         .call 14 ([AV.v (Value.pointer x0.1)]) ([]) (Sh.one) ([Lf.i IntKind.i64]) ([]) (fun x12 =>
                          bif x11.1 != IntKind.wrap IntKind.i64 (x12.1 + a0) then (
                           .done (AV.v (Value.bool false)) ([]))
                          else (
                           .again 0 ([Lf.i IntKind.i64, Lf.i IntKind.i64]) ((x2.1, IntKind.wrap IntKind.i64 (x2.2.1 + 1), PUnit.unit))))))))))))))))))
           else (
            bif Int.tmod x3.1 3 == 1 then (
             .call 11 ([AV.v (Value.pointer x0.1), AV.v (Value.int IntKind.i64 x3.2.1)]) ([]) (Sh.one) ([Lf.sl]) ([]) (fun x5 =>
              bif decide ((if x3.2.1 < 0 then 0 else x3.2.1) < ((x5.1.2.1 : Nat) : Int)) then (
               .done (AV.v (Value.bool false)) ([]))
              else (
               .call 19 ([AV.v (Value.pointer x0.1)]) ([]) (Sh.one) ([Lf.i IntKind.i64]) ([]) (fun x6 =>
                bif decide (x6.1 < 0) then (
                 .done (AV.v (Value.bool false)) ([]))
                else (
                 .call 19 ([AV.v (Value.pointer x0.1)]) ([]) (Sh.one) ([Lf.i IntKind.i64]) ([]) (fun x7 =>
                  bif decide (a0 < x7.1) then (
                   .done (AV.v (Value.bool false)) ([]))
                  else (
                   .call 20 ([AV.v (Value.pointer x0.1)]) ([]) (Sh.one) ([Lf.i IntKind.i64]) ([]) (fun x8 =>
                    .call 19 ([AV.v (Value.pointer x0.1)]) ([]) (Sh.one) ([Lf.i IntKind.i64]) ([]) (fun x9 =>
                     bif decide (x9.1 < x8.1) then (
                      .done (AV.v (Value.bool false)) ([]))
                     else (
                      .call 14 ([AV.v (Value.pointer x0.1)]) ([]) (Sh.one) ([Lf.i IntKind.i64]) ([]) (fun x10 =>
                       bif decide (x2.1 < x10.1) then (
                        .done (AV.v (Value.bool false)) ([]))
                       else (
                        .call 18 ([AV.v (Value.pointer x0.1)]) ([]) (Sh.one) ([Lf.i IntKind.i64]) ([]) (fun x11 =>
                         .call 14 ([AV.v (Value.pointer x0.1)]) ([]) (Sh.one) ([Lf.i IntKind.i64]) ([]) (fun x12 =>
                          bif x11.1 != IntKind.wrap IntKind.i64 (x12.1 + a0) then (
                           .done (AV.v (Value.bool false)) ([]))
                          else (
                           .again 0 ([Lf.i IntKind.i64, Lf.i IntKind.i64]) ((x2.1, IntKind.wrap IntKind.i64 (x2.2.1 + 1), PUnit.unit)))))))))))))))))
            else (
             .call 17 ([AV.v (Value.pointer x0.1), AV.v (Value.int IntKind.i64 x3.2.1)]) ([]) (Sh.one) ([Lf.i IntKind.i64]) ([]) (fun x5 =>
              .call 19 ([AV.v (Value.pointer x0.1)]) ([]) (Sh.one) ([Lf.i IntKind.i64]) ([]) (fun x6 =>
               bif decide (x6.1 < 0) then (
                .done (AV.v (Value.bool false)) ([]))
               else (
                .call 19 ([AV.v (Value.pointer x0.1)]) ([]) (Sh.one) ([Lf.i IntKind.i64]) ([]) (fun x7 =>
                 bif decide (a0 < x7.1) then (
                  .done (AV.v (Value.bool false)) ([]))
                 else (
                  .call 20 ([AV.v (Value.pointer x0.1)]) ([]) (Sh.one) ([Lf.i IntKind.i64]) ([]) (fun x8 =>
                   .call 19 ([AV.v (Value.pointer x0.1)]) ([]) (Sh.one) ([Lf.i IntKind.i64]) ([]) (fun x9 =>
                    bif decide (x9.1 < x8.1) then (
                     .done (AV.v (Value.bool false)) ([]))
                    else (
                     .call 14 ([AV.v (Value.pointer x0.1)]) ([]) (Sh.one) ([Lf.i IntKind.i64]) ([]) (fun x10 =>
                      bif decide (x2.1 < x10.1) then (
                       .done (AV.v (Value.bool false)) ([]))
                      else (
                       .call 18 ([AV.v (Value.pointer x0.1)]) ([]) (Sh.one) ([Lf.i IntKind.i64]) ([]) (fun x11 =>
                        .call 14 ([AV.v (Value.pointer x0.1)]) ([]) (Sh.one) ([Lf.i IntKind.i64]) ([]) (fun x12 =>
                         bif x11.1 != IntKind.wrap IntKind.i64 (x12.1 + a0) then (
                          .done (AV.v (Value.bool false)) ([]))
                         else (
                          .again 0 ([Lf.i IntKind.i64, Lf.i IntKind.i64]) ((x2.1, IntKind.wrap IntKind.i64 (x2.2.1 + 1), PUnit.unit))))))))))))))))))))))
        else (
         .done (AV.v (Value.bool true)) ([]))))
      else (
       .call 9 ([]) ([]) (Sh.one) ([Lf.b]) ([]) (fun x2 =>
        bif x2.1 then (
         .done (AV.v (Value.bool true)) ([]))
        else (
         .done (AV.v (Value.bool false)) ([])))))))) := by kernel_rfl
set_option maxHeartbeats 4000000 in
theorem law09_ReasmBounds.c (k : Nat) (a0 : Int) (A1 : Option Addr) (n1 c1 : Nat) (l1 : List (Int × Int × (List Int) × Bool)) (r : Bool) (h : law09_ReasmBounds.F k a0 l1 = some r) (hn1 : n1 = l1.length) (w : World) (hS1 : SlR R35 (fun _ => False) w A1 c1 l1) : Calls Try.prog 5 (AV.gs id [AV.v (Value.int IntKind.i64 a0), AV.v (Value.slice A1 n1 c1)]).toArray w fun e w' => e = .returned (((Sh.one : Sh).av (vs [Lf.b] (r, ()))).g id) ∧ Below w.heap.size w w' := by
  subst hn1
  refine enter0 mixed law09_ReasmBounds.A noC [AV.v (Value.int IntKind.i64 a0), AV.v (Value.slice A1 l1.length c1)] Try.func5 rfl rfl rfl (fun hF => ?_)
  rw [law09_ReasmBounds.t]
  unfold law09_ReasmBounds.F at h
  try dsimp only at h
  obtain ⟨r0, hr0, h⟩ := Option.bind_eq_some_iff.1 h
  obtain ⟨p0, v0_1⟩ := r0
  try dsimp only at h
  refine ok_callm rfl (fun L0 w0 g0 lt0 => ?_)
  refine (reasm_New.c k a0 (p0, v0_1) hr0  w0 ).mono ?_
  rintro e w0' ⟨b0, A0_w2, c0_w2, A0_w3, c0_w3, rfl, hb0, hN0⟩
  refine ⟨(b0, v0_1, ()), rfl, hb0, fun g0' => ?_⟩
  try dsimp only
  cases p0 with
  | none =>
    obtain rfl := hN0
    have hF := hF.trans g0'
    refine ok_if (fun hc1 => ?_) (fun hc1 => ?_)
    · have h := bif_t h hc1
      obtain ⟨v1_0, hr1, h⟩ := Option.bind_eq_some_iff.1 h
      refine ok_callm rfl (fun L1 w1 g1 lt1 => ?_)
      refine (law09_alive.c k  v1_0 hr1  w1 ).mono ?_
      rintro e w1' ⟨rfl, hb1⟩
      refine ⟨(v1_0, ()), rfl, hb1, fun g1' => ?_⟩
      try dsimp only
      have hF := hF.trans g1'
      refine ok_if (fun hc2 => ?_) (fun hc2 => ?_)
      · have h := bif_t h hc2
        obtain rfl := Option.some.inj h
        intro ρ L w' _ he _ _
        exact ⟨rfl, (hF.ext he).below⟩
      · have h := bif_f h hc2
        obtain rfl := Option.some.inj h
        intro ρ L w' _ he _ _
        exact ⟨rfl, (hF.ext he).below⟩
    · have h := bif_f h hc1
      refine ok_if (fun hc4 => ?_) (fun hc4 => absurd (hc4.symm.trans rfl) (by decide))
      obtain ⟨v1_0, hr1, h⟩ := Option.bind_eq_some_iff.1 h
      refine ok_callm rfl (fun L1 w1 g1 lt1 => ?_)
      refine (law09_alive.c k  v1_0 hr1  w1 ).mono ?_
      rintro e w1' ⟨rfl, hb1⟩
      refine ⟨(v1_0, ()), rfl, hb1, fun g1' => ?_⟩
      try dsimp only
      have hF := hF.trans g1'
      refine ok_if (fun hc3 => ?_) (fun hc3 => ?_)
      · have h := bif_t h hc3
        obtain rfl := Option.some.inj h
        intro ρ L w' _ he _ _
        exact ⟨rfl, (hF.ext he).below⟩
      · have h := bif_f h hc3
        obtain rfl := Option.some.inj h
        intro ρ L w' _ he _ _
        exact ⟨rfl, (hF.ext he).below⟩
  | some q0 =>
    obtain ⟨hWn0, hWn0_2, hWn0_3, djn0_1_0, djn0_2_0, djn0_2_1⟩ := hN0
    have hmn0 : ∀ b, blk (b0, 0, 0) b → (fun _ => False) b ∨ w.heap.size ≤ b := fun b hb => Or.inr (Nat.le_trans (hF.trans g0).size (hWn0.lt b hb).2.2)
    have hmn0_2 : ∀ b, blk (A0_w2, 0, 0) b → (fun _ => False) b ∨ w.heap.size ≤ b := fun b hb => Or.inr (Nat.le_trans (hF.trans g0).size (hWn0_2.lt b hb).2.2)
    have hmn0_3 : ∀ b, blk (A0_w3, 0, 0) b → (fun _ => False) b ∨ w.heap.size ≤ b := fun b hb => Or.inr (Nat.le_trans (hF.trans g0).size (hWn0_3.lt b hb).2.2)
    have hWn0 := hWn0.call0 lt0
    have hWn0_2 := hWn0_2.call0 lt0
    have hWn0_3 := hWn0_3.call0 lt0
    have hF := hF.trans g0'
    have hA_b0 : Option.isSome b0 = true := hWn0.sl.some (by simp)
    have hN_b0 : Option.isNone b0 = false := by cases b0 <;> simp_all
    refine ok_if (fun hc8 => ?_) (fun hc8 => ?_)
    · have h := bif_t h hc8
      obtain ⟨v1_0, hr1, h⟩ := Option.bind_eq_some_iff.1 h
      refine ok_callm rfl (fun L1 w1 g1 lt1 => ?_)
      refine (law09_alive.c k  v1_0 hr1  w1 ).mono ?_
      rintro e w1' ⟨rfl, hb1⟩
      refine ⟨(v1_0, ()), rfl, hb1, fun g1' => ?_⟩
      try dsimp only
      have hF := hF.trans g1'
      have hWn0 := hWn0.later g1'
      have hWn0_2 := hWn0_2.later g1'
      have hWn0_3 := hWn0_3.later g1'
      refine ok_if (fun hc9 => ?_) (fun hc9 => ?_)
      · have h := bif_t h hc9
        obtain rfl := Option.some.inj h
        intro ρ L w' _ he _ _
        exact ⟨rfl, (hF.ext he).below⟩
      · have h := bif_f h hc9
        obtain rfl := Option.some.inj h
        intro ρ L w' _ he _ _
        exact ⟨rfl, (hF.ext he).below⟩
    · have h := bif_f h hc8
      refine ok_if (fun hc71 => absurd (hc71.symm.trans hN_b0) (by decide)) (fun hc71 => ?_)
      obtain ⟨v1_0, hr1, h⟩ := Option.bind_eq_some_iff.1 h
      refine ok_callm rfl (fun L1 w1 g1 lt1 => ?_)
      refine (law09_alive.c k  v1_0 hr1  w1 ).mono ?_
      rintro e w1' ⟨rfl, hb1⟩
      refine ⟨(v1_0, ()), rfl, hb1, fun g1' => ?_⟩
      try dsimp only
      have hF := hF.trans g1'
      have hWn0 := hWn0.later g1'
      have hWn0_2 := hWn0_2.later g1'
      have hWn0_3 := hWn0_3.later g1'
      refine ok_if (fun hc10 => ?_) (fun hc10 => ?_)
      · have h := bif_t h hc10
        obtain ⟨I2, hI2⟩ : ∃ I : Nat → Tup [Lf.i IntKind.i64, Lf.i IntKind.i64] → (Nat → Prop) → World → Prop, I = (fun m_ y L w' => ∃ (v2_0 : Int) (v2_1 : Int) (q2_b0 : Int × Int × (List Int) × (List (Int × Int)) × Int × Bool × Bool) (A2_b0_2 : Option Addr) (c2_b0_2 : Nat) (A2_b0_3 : Option Addr) (c2_b0_3 : Nat), y = (v2_0, v2_1, ()) ∧ iter (law09_ReasmBounds.s2 k a0 l1) m_ (v2_0, v2_1, q2_b0) = some r ∧ Fine (fun _ => False) w L w' ∧ OwnO 0 L w' 45 RW45 b0 1 [(q2_b0.1, q2_b0.2.1, (A2_b0_2, q2_b0.2.2.1.length, c2_b0_2), (A2_b0_3, q2_b0.2.2.2.1.length, c2_b0_3), q2_b0.2.2.2.2.1, q2_b0.2.2.2.2.2.1, q2_b0.2.2.2.2.2.2)] ∧ OwnO 0 L w' 5 R22 A2_b0_2 c2_b0_2 q2_b0.2.2.1 ∧ OwnO 0 L w' 51 R43 A2_b0_3 c2_b0_3 q2_b0.2.2.2.1 ∧ Dj A2_b0_2 b0 ∧ Dj A2_b0_3 b0 ∧ Dj A2_b0_3 A2_b0_2 ∧ (∀ b, blk (A2_b0_2, 0, 0) b → (fun _ => False) b ∨ w.heap.size ≤ b) ∧ (∀ b, blk (A2_b0_3, 0, 0) b → (fun _ => False) b ∨ w.heap.size ≤ b)) := ⟨_, rfl⟩
        refine ok_loop I2 k (by rw [hI2]; exact ⟨_, _, q0, A0_w2, c0_w2, A0_w3, c0_w3, rfl, h, hF, hWn0, hWn0_2, hWn0_3, djn0_1_0, djn0_2_0, djn0_2_1, hmn0_2, hmn0_3⟩) ?_
        clear h
        intro m_ y L2 w2 hy
        rw [hI2] at hy
        obtain ⟨v2_0, v2_1, q2_b0, A2_b0_2, c2_b0_2, A2_b0_3, c2_b0_3, rfl, h, hF, hW2_b0, hW2_b0_2, hW2_b0_3, dj_w13_w12, dj_w14_w12, dj_w14_w13, hm2_b0_2, hm2_b0_3⟩ := hy
        obtain ⟨m2, o2, rfl, h, hl2, hr_2⟩ := iter_some h
        unfold law09_ReasmBounds.s2 at h
        try dsimp only at h
        try dsimp only
        refine ok_if (fun hc15 => ?_) (fun hc15 => ?_)
        · have h := bif_t h hc15
          obtain ⟨r16, hr17, h⟩ := Option.bind_eq_some_iff.1 h
          refine ok_need (getI_need (hS1.later hF) hr17) ?_
          refine ok_get hS1 hF hr17 (by simp) (fun cs hcs => ?_)
          obtain ⟨A3_2, q3_2, c3_2, rfl, hm3_2, hE3_2⟩ := hcs
          subst hm3_2
          refine ⟨(r16.1, r16.2.1, (A3_2, (r16.2.2.1).length, c3_2), r16.2.2.2, ()), rfl, ?_⟩
          try dsimp only
          obtain ⟨v4_0, hr4, h⟩ := Option.bind_eq_some_iff.1 h
          refine ok_callm rfl (fun L4 w4 g4 lt4 => ?_)
          refine (reasm_Stream_Limit.c k _ (some q2_b0) v4_0 hr4  w4 ((obr45 hW2_b0.sl hW2_b0_2.sl hW2_b0_3.sl).later g4).bare).mono ?_
          rintro e w4' ⟨rfl, hb4⟩
          refine ⟨(v4_0, ()), rfl, hb4, fun g4' => ?_⟩
          try dsimp only
          have hF := hF.trans g4'
          have hW2_b0 := hW2_b0.later g4'
          have hW2_b0_2 := hW2_b0_2.later g4'
          have hW2_b0_3 := hW2_b0_3.later g4'
          refine ok_need rfl ?_
          refine ok_if (fun hc19 => ?_) (fun hc19 => ?_)
          · have h := bif_t h hc19
            refine ok_if (fun hc20 => ?_) (fun hc20 => ?_)
            · have h := bif_t h hc20
              obtain ⟨r5, hr5, h⟩ := Option.bind_eq_some_iff.1 h
              obtain ⟨v5_0, q5⟩ := r5
              try dsimp only at h
              have hBv5 : ∀ b, (reasm_Stream_Data.S b0 A2_b0_2 A2_b0_3) b → ¬ _ ∧ b < _ := fun b hb => by rcases hb with hb | hb | hb; exact ⟨(hW2_b0.lt b hb).2.1, hW2_b0.lt1 b hb⟩; exact ⟨(hW2_b0_2.lt b hb).2.1, hW2_b0_2.lt1 b hb⟩; exact ⟨(hW2_b0_3.lt b hb).2.1, hW2_b0_3.lt1 b hb⟩
              have hBm5 : ∀ b, (reasm_Stream_Data.S b0 A2_b0_2 A2_b0_3) b → (fun _ => False) b ∨ w.heap.size ≤ b := fun b hb => by rcases hb with hb | hb | hb; exact hmn0 b hb; exact hm2_b0_2 b hb; exact hm2_b0_3 b hb
              refine ok_callo (reasm_Stream_Data.S b0 A2_b0_2 A2_b0_3) rfl hBv5 (fun L5 w5 g5 lt5 => ?_)
              refine (reasm_Stream_Data.c k _ q2_b0 _ _ _ _ r16.2.1 _ _ _ r16.2.2.1 true (v5_0, q5) hr5 rfl w5 (hW2_b0.later g5).bare' (hW2_b0_2.later g5).bare' (hW2_b0_3.later g5).bare' dj_w13_w12 dj_w14_w12 dj_w14_w13 (hE3_2.later ((hF.trans g5).with hBm5))).mono ?_
              rintro e w5' ⟨A5_w2, c5_w2, A5_w3, c5_w3, rfl, hf5, hWc5, hWc5_2, hWc5_3, djc5_1_0, djc5_2_0, djc5_2_1, hzc5_2, hzc5_3⟩
              refine ⟨(v5_0, ()), rfl, hf5, fun g5' hid5 hv5 => ?_⟩
              try dsimp only
              have hmc5 := hmn0
              have hmc5_2 : ∀ b, blk (A5_w2, 0, 0) b → (fun _ => False) b ∨ w.heap.size ≤ b := fun b hb => (hzc5_2 b hb).elim (hBm5 b) (fun h => Or.inr (Nat.le_trans (hF.trans g5).size h))
              have hmc5_3 : ∀ b, blk (A5_w3, 0, 0) b → (fun _ => False) b ∨ w.heap.size ≤ b := fun b hb => (hzc5_3 b hb).elim (hBm5 b) (fun h => Or.inr (Nat.le_trans (hF.trans g5).size h))
              have hWc5 := hWc5.vis (fun b hb => hv5 b (Or.inl (Or.inl hb)))
              have hWc5_2 := hWc5_2.vis (fun b hb => hv5 b (hzc5_2 b hb))
              have hWc5_3 := hWc5_3.vis (fun b hb => hv5 b (hzc5_3 b hb))
              have hF := Fine.own hF g5' hBm5 hid5
              refine ok_if (fun hc24 => ?_) (fun hc24 => ?_)
              · have h := bif_t h hc24
                refine ok_if (fun hc25 => ?_) (fun hc25 => ?_)
                · have h := bif_t h hc25
                  obtain rfl := Option.some.inj h
                  obtain rfl := hr_2 _ rfl
                  intro ρ L w' _ he _ _
                  exact ⟨rfl, (hF.ext he).below⟩
                · have h := bif_f h hc25
                  obtain ⟨v6_0, hr6, h⟩ := Option.bind_eq_some_iff.1 h
                  refine ok_callm rfl (fun L6 w6 g6 lt6 => ?_)
                  refine (reasm_Stream_Held.c k _ (some q5) v6_0 hr6  w6 ((obr45 hWc5.sl hWc5_2.sl hWc5_3.sl).later g6).bare).mono ?_
                  rintro e w6' ⟨rfl, hb6⟩
                  refine ⟨(v6_0, ()), rfl, hb6, fun g6' => ?_⟩
                  try dsimp only
                  have hF := hF.trans g6'
                  have hWc5 := hWc5.later g6'
                  have hWc5_2 := hWc5_2.later g6'
                  have hWc5_3 := hWc5_3.later g6'
                  refine ok_if (fun hc26 => ?_) (fun hc26 => ?_)
                  · have h := bif_t h hc26
                    obtain rfl := Option.some.inj h
                    obtain rfl := hr_2 _ rfl
                    intro ρ L w' _ he _ _
                    exact ⟨rfl, (hF.ext he).below⟩
                  · have h := bif_f h hc26
                    obtain ⟨v7_0, hr7, h⟩ := Option.bind_eq_some_iff.1 h
                    refine ok_callm rfl (fun L7 w7 g7 lt7 => ?_)
                    refine (reasm_Stream_Held.c k _ (some q5) v7_0 hr7  w7 ((obr45 hWc5.sl hWc5_2.sl hWc5_3.sl).later g7).bare).mono ?_
                    rintro e w7' ⟨rfl, hb7⟩
                    refine ⟨(v7_0, ()), rfl, hb7, fun g7' => ?_⟩
                    try dsimp only
                    have hF := hF.trans g7'
                    have hWc5 := hWc5.later g7'
                    have hWc5_2 := hWc5_2.later g7'
                    have hWc5_3 := hWc5_3.later g7'
                    refine ok_if (fun hc27 => ?_) (fun hc27 => ?_)
                    · have h := bif_t h hc27
                      obtain rfl := Option.some.inj h
                      obtain rfl := hr_2 _ rfl
                      intro ρ L w' _ he _ _
                      exact ⟨rfl, (hF.ext he).below⟩
                    · have h := bif_f h hc27
                      obtain ⟨v8_0, hr8, h⟩ := Option.bind_eq_some_iff.1 h
                      refine ok_callm rfl (fun L8 w8 g8 lt8 => ?_)
                      refine (reasm_Stream_Ready.c k _ (some q5) v8_0 hr8  w8 ((obr45 hWc5.sl hWc5_2.sl hWc5_3.sl).later g8).bare).mono ?_
                      rintro e w8' ⟨rfl, hb8⟩
                      refine ⟨(v8_0, ()), rfl, hb8, fun g8' => ?_⟩
                      try dsimp only
                      have hF := hF.trans g8'
                      have hWc5 := hWc5.later g8'
                      have hWc5_2 := hWc5_2.later g8'
                      have hWc5_3 := hWc5_3.later g8'
                      obtain ⟨v9_0, hr9, h⟩ := Option.bind_eq_some_iff.1 h
                      refine ok_callm rfl (fun L9 w9 g9 lt9 => ?_)
                      refine (reasm_Stream_Held.c k _ (some q5) v9_0 hr9  w9 ((obr45 hWc5.sl hWc5_2.sl hWc5_3.sl).later g9).bare).mono ?_
                      rintro e w9' ⟨rfl, hb9⟩
                      refine ⟨(v9_0, ()), rfl, hb9, fun g9' => ?_⟩
                      try dsimp only
                      have hF := hF.trans g9'
                      have hWc5 := hWc5.later g9'
                      have hWc5_2 := hWc5_2.later g9'
                      have hWc5_3 := hWc5_3.later g9'
                      refine ok_if (fun hc28 => ?_) (fun hc28 => ?_)
                      · have h := bif_t h hc28
                        obtain rfl := Option.some.inj h
                        obtain rfl := hr_2 _ rfl
                        intro ρ L w' _ he _ _
                        exact ⟨rfl, (hF.ext he).below⟩
                      · have h := bif_f h hc28
                        obtain ⟨v10_0, hr10, h⟩ := Option.bind_eq_some_iff.1 h
                        refine ok_callm rfl (fun L10 w10 g10 lt10 => ?_)
                        refine (reasm_Stream_At.c k _ (some q5) v10_0 hr10  w10 ((obr45 hWc5.sl hWc5_2.sl hWc5_3.sl).later g10).bare).mono ?_
                        rintro e w10' ⟨rfl, hb10⟩
                        refine ⟨(v10_0, ()), rfl, hb10, fun g10' => ?_⟩
                        try dsimp only
                        have hF := hF.trans g10'
                        have hWc5 := hWc5.later g10'
                        have hWc5_2 := hWc5_2.later g10'
                        have hWc5_3 := hWc5_3.later g10'
                        refine ok_if (fun hc29 => ?_) (fun hc29 => ?_)
                        · have h := bif_t h hc29
                          obtain rfl := Option.some.inj h
                          obtain rfl := hr_2 _ rfl
                          intro ρ L w' _ he _ _
                          exact ⟨rfl, (hF.ext he).below⟩
                        · have h := bif_f h hc29
                          obtain ⟨v11_0, hr11, h⟩ := Option.bind_eq_some_iff.1 h
                          refine ok_callm rfl (fun L11 w11 g11 lt11 => ?_)
                          refine (reasm_Stream_Limit.c k _ (some q5) v11_0 hr11  w11 ((obr45 hWc5.sl hWc5_2.sl hWc5_3.sl).later g11).bare).mono ?_
                          rintro e w11' ⟨rfl, hb11⟩
                          refine ⟨(v11_0, ()), rfl, hb11, fun g11' => ?_⟩
                          try dsimp only
                          have hF := hF.trans g11'
                          have hWc5 := hWc5.later g11'
                          have hWc5_2 := hWc5_2.later g11'
                          have hWc5_3 := hWc5_3.later g11'
                          obtain ⟨v12_0, hr12, h⟩ := Option.bind_eq_some_iff.1 h
                          refine ok_callm rfl (fun L12 w12 g12 lt12 => ?_)
                          refine (reasm_Stream_At.c k _ (some q5) v12_0 hr12  w12 ((obr45 hWc5.sl hWc5_2.sl hWc5_3.sl).later g12).bare).mono ?_
                          rintro e w12' ⟨rfl, hb12⟩
                          refine ⟨(v12_0, ()), rfl, hb12, fun g12' => ?_⟩
                          try dsimp only
                          have hF := hF.trans g12'
                          have hWc5 := hWc5.later g12'
                          have hWc5_2 := hWc5_2.later g12'
                          have hWc5_3 := hWc5_3.later g12'
                          refine ok_if (fun hc30 => ?_) (fun hc30 => ?_)
                          · have h := bif_t h hc30
                            obtain rfl := Option.some.inj h
                            obtain rfl := hr_2 _ rfl
                            intro ρ L w' _ he _ _
                            exact ⟨rfl, (hF.ext he).below⟩
                          · have h := bif_f h hc30
                            obtain rfl := Option.some.inj h
                            have h := hl2 _ rfl
                            exact ok_again (I := I2) m2 (Nat.lt_succ_self _) (fun L w' he => by rw [hI2]; exact ⟨_, _, q5, A5_w2, c5_w2, A5_w3, c5_w3, rfl, h, hF.trans he.fine, hWc5.later he.fine, hWc5_2.later he.fine, hWc5_3.later he.fine, djc5_1_0, djc5_2_0, djc5_2_1, hmc5_2, hmc5_3⟩)
              · have h := bif_f h hc24
                obtain ⟨v6_0, hr6, h⟩ := Option.bind_eq_some_iff.1 h
                refine ok_callm rfl (fun L6 w6 g6 lt6 => ?_)
                refine (reasm_Stream_Held.c k _ (some q5) v6_0 hr6  w6 ((obr45 hWc5.sl hWc5_2.sl hWc5_3.sl).later g6).bare).mono ?_
                rintro e w6' ⟨rfl, hb6⟩
                refine ⟨(v6_0, ()), rfl, hb6, fun g6' => ?_⟩
                try dsimp only
                have hF := hF.trans g6'
                have hWc5 := hWc5.later g6'
                have hWc5_2 := hWc5_2.later g6'
                have hWc5_3 := hWc5_3.later g6'
                refine ok_if (fun hc31 => ?_) (fun hc31 => ?_)
                · have h := bif_t h hc31
                  obtain rfl := Option.some.inj h
                  obtain rfl := hr_2 _ rfl
                  intro ρ L w' _ he _ _
                  exact ⟨rfl, (hF.ext he).below⟩
                · have h := bif_f h hc31
                  obtain ⟨v7_0, hr7, h⟩ := Option.bind_eq_some_iff.1 h
                  refine ok_callm rfl (fun L7 w7 g7 lt7 => ?_)
                  refine (reasm_Stream_Held.c k _ (some q5) v7_0 hr7  w7 ((obr45 hWc5.sl hWc5_2.sl hWc5_3.sl).later g7).bare).mono ?_
                  rintro e w7' ⟨rfl, hb7⟩
                  refine ⟨(v7_0, ()), rfl, hb7, fun g7' => ?_⟩
                  try dsimp only
                  have hF := hF.trans g7'
                  have hWc5 := hWc5.later g7'
                  have hWc5_2 := hWc5_2.later g7'
                  have hWc5_3 := hWc5_3.later g7'
                  refine ok_if (fun hc32 => ?_) (fun hc32 => ?_)
                  · have h := bif_t h hc32
                    obtain rfl := Option.some.inj h
                    obtain rfl := hr_2 _ rfl
                    intro ρ L w' _ he _ _
                    exact ⟨rfl, (hF.ext he).below⟩
                  · have h := bif_f h hc32
                    obtain ⟨v8_0, hr8, h⟩ := Option.bind_eq_some_iff.1 h
                    refine ok_callm rfl (fun L8 w8 g8 lt8 => ?_)
                    refine (reasm_Stream_Ready.c k _ (some q5) v8_0 hr8  w8 ((obr45 hWc5.sl hWc5_2.sl hWc5_3.sl).later g8).bare).mono ?_
                    rintro e w8' ⟨rfl, hb8⟩
                    refine ⟨(v8_0, ()), rfl, hb8, fun g8' => ?_⟩
                    try dsimp only
                    have hF := hF.trans g8'
                    have hWc5 := hWc5.later g8'
                    have hWc5_2 := hWc5_2.later g8'
                    have hWc5_3 := hWc5_3.later g8'
                    obtain ⟨v9_0, hr9, h⟩ := Option.bind_eq_some_iff.1 h
                    refine ok_callm rfl (fun L9 w9 g9 lt9 => ?_)
                    refine (reasm_Stream_Held.c k _ (some q5) v9_0 hr9  w9 ((obr45 hWc5.sl hWc5_2.sl hWc5_3.sl).later g9).bare).mono ?_
                    rintro e w9' ⟨rfl, hb9⟩
                    refine ⟨(v9_0, ()), rfl, hb9, fun g9' => ?_⟩
                    try dsimp only
                    have hF := hF.trans g9'
                    have hWc5 := hWc5.later g9'
                    have hWc5_2 := hWc5_2.later g9'
                    have hWc5_3 := hWc5_3.later g9'
                    refine ok_if (fun hc33 => ?_) (fun hc33 => ?_)
                    · have h := bif_t h hc33
                      obtain rfl := Option.some.inj h
                      obtain rfl := hr_2 _ rfl
                      intro ρ L w' _ he _ _
                      exact ⟨rfl, (hF.ext he).below⟩
                    · have h := bif_f h hc33
                      obtain ⟨v10_0, hr10, h⟩ := Option.bind_eq_some_iff.1 h
                      refine ok_callm rfl (fun L10 w10 g10 lt10 => ?_)
                      refine (reasm_Stream_At.c k _ (some q5) v10_0 hr10  w10 ((obr45 hWc5.sl hWc5_2.sl hWc5_3.sl).later g10).bare).mono ?_
                      rintro e w10' ⟨rfl, hb10⟩
                      refine ⟨(v10_0, ()), rfl, hb10, fun g10' => ?_⟩
                      try dsimp only
                      have hF := hF.trans g10'
                      have hWc5 := hWc5.later g10'
                      have hWc5_2 := hWc5_2.later g10'
                      have hWc5_3 := hWc5_3.later g10'
                      refine ok_if (fun hc34 => ?_) (fun hc34 => ?_)
                      · have h := bif_t h hc34
                        obtain rfl := Option.some.inj h
                        obtain rfl := hr_2 _ rfl
                        intro ρ L w' _ he _ _
                        exact ⟨rfl, (hF.ext he).below⟩
                      · have h := bif_f h hc34
                        obtain ⟨v11_0, hr11, h⟩ := Option.bind_eq_some_iff.1 h
                        refine ok_callm rfl (fun L11 w11 g11 lt11 => ?_)
                        refine (reasm_Stream_Limit.c k _ (some q5) v11_0 hr11  w11 ((obr45 hWc5.sl hWc5_2.sl hWc5_3.sl).later g11).bare).mono ?_
                        rintro e w11' ⟨rfl, hb11⟩
                        refine ⟨(v11_0, ()), rfl, hb11, fun g11' => ?_⟩
                        try dsimp only
                        have hF := hF.trans g11'
                        have hWc5 := hWc5.later g11'
                        have hWc5_2 := hWc5_2.later g11'
                        have hWc5_3 := hWc5_3.later g11'
                        obtain ⟨v12_0, hr12, h⟩ := Option.bind_eq_some_iff.1 h
                        refine ok_callm rfl (fun L12 w12 g12 lt12 => ?_)
                        refine (reasm_Stream_At.c k _ (some q5) v12_0 hr12  w12 ((obr45 hWc5.sl hWc5_2.sl hWc5_3.sl).later g12).bare).mono ?_
                        rintro e w12' ⟨rfl, hb12⟩
                        refine ⟨(v12_0, ()), rfl, hb12, fun g12' => ?_⟩
                        try dsimp only
                        have hF := hF.trans g12'
                        have hWc5 := hWc5.later g12'
                        have hWc5_2 := hWc5_2.later g12'
                        have hWc5_3 := hWc5_3.later g12'
                        refine ok_if (fun hc35 => ?_) (fun hc35 => ?_)
                        · have h := bif_t h hc35
                          obtain rfl := Option.some.inj h
                          obtain rfl := hr_2 _ rfl
                          intro ρ L w' _ he _ _
                          exact ⟨rfl, (hF.ext he).below⟩
                        · have h := bif_f h hc35
                          obtain rfl := Option.some.inj h
                          have h := hl2 _ rfl
                          exact ok_again (I := I2) m2 (Nat.lt_succ_self _) (fun L w' he => by rw [hI2]; exact ⟨_, _, q5, A5_w2, c5_w2, A5_w3, c5_w3, rfl, h, hF.trans he.fine, hWc5.later he.fine, hWc5_2.later he.fine, hWc5_3.later he.fine, djc5_1_0, djc5_2_0, djc5_2_1, hmc5_2, hmc5_3⟩)
            · have h := bif_f h hc20
              obtain ⟨r5, hr5, h⟩ := Option.bind_eq_some_iff.1 h
              obtain ⟨v5_0, q5⟩ := r5
              try dsimp only at h
              have hBv5 : ∀ b, (reasm_Stream_Data.S b0 A2_b0_2 A2_b0_3) b → ¬ _ ∧ b < _ := fun b hb => by rcases hb with hb | hb | hb; exact ⟨(hW2_b0.lt b hb).2.1, hW2_b0.lt1 b hb⟩; exact ⟨(hW2_b0_2.lt b hb).2.1, hW2_b0_2.lt1 b hb⟩; exact ⟨(hW2_b0_3.lt b hb).2.1, hW2_b0_3.lt1 b hb⟩
              have hBm5 : ∀ b, (reasm_Stream_Data.S b0 A2_b0_2 A2_b0_3) b → (fun _ => False) b ∨ w.heap.size ≤ b := fun b hb => by rcases hb with hb | hb | hb; exact hmn0 b hb; exact hm2_b0_2 b hb; exact hm2_b0_3 b hb
              refine ok_callo (reasm_Stream_Data.S b0 A2_b0_2 A2_b0_3) rfl hBv5 (fun L5 w5 g5 lt5 => ?_)
              refine (reasm_Stream_Data.c k _ q2_b0 _ _ _ _ r16.2.1 _ _ _ r16.2.2.1 false (v5_0, q5) hr5 rfl w5 (hW2_b0.later g5).bare' (hW2_b0_2.later g5).bare' (hW2_b0_3.later g5).bare' dj_w13_w12 dj_w14_w12 dj_w14_w13 (hE3_2.later ((hF.trans g5).with hBm5))).mono ?_
              rintro e w5' ⟨A5_w2, c5_w2, A5_w3, c5_w3, rfl, hf5, hWc5, hWc5_2, hWc5_3, djc5_1_0, djc5_2_0, djc5_2_1, hzc5_2, hzc5_3⟩
              refine ⟨(v5_0, ()), rfl, hf5, fun g5' hid5 hv5 => ?_⟩
              try dsimp only
              have hmc5 := hmn0
              have hmc5_2 : ∀ b, blk (A5_w2, 0, 0) b → (fun _ => False) b ∨ w.heap.size ≤ b := fun b hb => (hzc5_2 b hb).elim (hBm5 b) (fun h => Or.inr (Nat.le_trans (hF.trans g5).size h))
              have hmc5_3 : ∀ b, blk (A5_w3, 0, 0) b → (fun _ => False) b ∨ w.heap.size ≤ b := fun b hb => (hzc5_3 b hb).elim (hBm5 b) (fun h => Or.inr (Nat.le_trans (hF.trans g5).size h))
              have hWc5 := hWc5.vis (fun b hb => hv5 b (Or.inl (Or.inl hb)))
              have hWc5_2 := hWc5_2.vis (fun b hb => hv5 b (hzc5_2 b hb))
              have hWc5_3 := hWc5_3.vis (fun b hb => hv5 b (hzc5_3 b hb))
              have hF := Fine.own hF g5' hBm5 hid5
              refine ok_if (fun hc39 => ?_) (fun hc39 => ?_)
              · have h := bif_t h hc39
                refine ok_if (fun hc40 => ?_) (fun hc40 => ?_)
                · have h := bif_t h hc40
                  obtain rfl := Option.some.inj h
                  obtain rfl := hr_2 _ rfl
                  intro ρ L w' _ he _ _
                  exact ⟨rfl, (hF.ext he).below⟩
                · have h := bif_f h hc40
                  obtain ⟨v6_0, hr6, h⟩ := Option.bind_eq_some_iff.1 h
                  refine ok_callm rfl (fun L6 w6 g6 lt6 => ?_)
                  refine (reasm_Stream_Held.c k _ (some q5) v6_0 hr6  w6 ((obr45 hWc5.sl hWc5_2.sl hWc5_3.sl).later g6).bare).mono ?_
                  rintro e w6' ⟨rfl, hb6⟩
                  refine ⟨(v6_0, ()), rfl, hb6, fun g6' => ?_⟩
                  try dsimp only
                  have hF := hF.trans g6'
                  have hWc5 := hWc5.later g6'
                  have hWc5_2 := hWc5_2.later g6'
                  have hWc5_3 := hWc5_3.later g6'
                  refine ok_if (fun hc41 => ?_) (fun hc41 => ?_)
                  · have h := bif_t h hc41
                    obtain rfl := Option.some.inj h
                    obtain rfl := hr_2 _ rfl
                    intro ρ L w' _ he _ _
                    exact ⟨rfl, (hF.ext he).below⟩
                  · have h := bif_f h hc41
                    obtain ⟨v7_0, hr7, h⟩ := Option.bind_eq_some_iff.1 h
                    refine ok_callm rfl (fun L7 w7 g7 lt7 => ?_)
                    refine (reasm_Stream_Held.c k _ (some q5) v7_0 hr7  w7 ((obr45 hWc5.sl hWc5_2.sl hWc5_3.sl).later g7).bare).mono ?_
                    rintro e w7' ⟨rfl, hb7⟩
                    refine ⟨(v7_0, ()), rfl, hb7, fun g7' => ?_⟩
                    try dsimp only
                    have hF := hF.trans g7'
                    have hWc5 := hWc5.later g7'
                    have hWc5_2 := hWc5_2.later g7'
                    have hWc5_3 := hWc5_3.later g7'
                    refine ok_if (fun hc42 => ?_) (fun hc42 => ?_)
                    · have h := bif_t h hc42
                      obtain rfl := Option.some.inj h
                      obtain rfl := hr_2 _ rfl
                      intro ρ L w' _ he _ _
                      exact ⟨rfl, (hF.ext he).below⟩
                    · have h := bif_f h hc42
                      obtain ⟨v8_0, hr8, h⟩ := Option.bind_eq_some_iff.1 h
                      refine ok_callm rfl (fun L8 w8 g8 lt8 => ?_)
                      refine (reasm_Stream_Ready.c k _ (some q5) v8_0 hr8  w8 ((obr45 hWc5.sl hWc5_2.sl hWc5_3.sl).later g8).bare).mono ?_
                      rintro e w8' ⟨rfl, hb8⟩
                      refine ⟨(v8_0, ()), rfl, hb8, fun g8' => ?_⟩
                      try dsimp only
                      have hF := hF.trans g8'
                      have hWc5 := hWc5.later g8'
                      have hWc5_2 := hWc5_2.later g8'
                      have hWc5_3 := hWc5_3.later g8'
                      obtain ⟨v9_0, hr9, h⟩ := Option.bind_eq_some_iff.1 h
                      refine ok_callm rfl (fun L9 w9 g9 lt9 => ?_)
                      refine (reasm_Stream_Held.c k _ (some q5) v9_0 hr9  w9 ((obr45 hWc5.sl hWc5_2.sl hWc5_3.sl).later g9).bare).mono ?_
                      rintro e w9' ⟨rfl, hb9⟩
                      refine ⟨(v9_0, ()), rfl, hb9, fun g9' => ?_⟩
                      try dsimp only
                      have hF := hF.trans g9'
                      have hWc5 := hWc5.later g9'
                      have hWc5_2 := hWc5_2.later g9'
                      have hWc5_3 := hWc5_3.later g9'
                      refine ok_if (fun hc43 => ?_) (fun hc43 => ?_)
                      · have h := bif_t h hc43
                        obtain rfl := Option.some.inj h
                        obtain rfl := hr_2 _ rfl
                        intro ρ L w' _ he _ _
                        exact ⟨rfl, (hF.ext he).below⟩
                      · have h := bif_f h hc43
                        obtain ⟨v10_0, hr10, h⟩ := Option.bind_eq_some_iff.1 h
                        refine ok_callm rfl (fun L10 w10 g10 lt10 => ?_)
                        refine (reasm_Stream_At.c k _ (some q5) v10_0 hr10  w10 ((obr45 hWc5.sl hWc5_2.sl hWc5_3.sl).later g10).bare).mono ?_
                        rintro e w10' ⟨rfl, hb10⟩
                        refine ⟨(v10_0, ()), rfl, hb10, fun g10' => ?_⟩
                        try dsimp only
                        have hF := hF.trans g10'
                        have hWc5 := hWc5.later g10'
                        have hWc5_2 := hWc5_2.later g10'
                        have hWc5_3 := hWc5_3.later g10'
                        refine ok_if (fun hc44 => ?_) (fun hc44 => ?_)
                        · have h := bif_t h hc44
                          obtain rfl := Option.some.inj h
                          obtain rfl := hr_2 _ rfl
                          intro ρ L w' _ he _ _
                          exact ⟨rfl, (hF.ext he).below⟩
                        · have h := bif_f h hc44
                          obtain ⟨v11_0, hr11, h⟩ := Option.bind_eq_some_iff.1 h
                          refine ok_callm rfl (fun L11 w11 g11 lt11 => ?_)
                          refine (reasm_Stream_Limit.c k _ (some q5) v11_0 hr11  w11 ((obr45 hWc5.sl hWc5_2.sl hWc5_3.sl).later g11).bare).mono ?_
                          rintro e w11' ⟨rfl, hb11⟩
                          refine ⟨(v11_0, ()), rfl, hb11, fun g11' => ?_⟩
                          try dsimp only
                          have hF := hF.trans g11'
                          have hWc5 := hWc5.later g11'
                          have hWc5_2 := hWc5_2.later g11'
                          have hWc5_3 := hWc5_3.later g11'
                          obtain ⟨v12_0, hr12, h⟩ := Option.bind_eq_some_iff.1 h
                          refine ok_callm rfl (fun L12 w12 g12 lt12 => ?_)
                          refine (reasm_Stream_At.c k _ (some q5) v12_0 hr12  w12 ((obr45 hWc5.sl hWc5_2.sl hWc5_3.sl).later g12).bare).mono ?_
                          rintro e w12' ⟨rfl, hb12⟩
                          refine ⟨(v12_0, ()), rfl, hb12, fun g12' => ?_⟩
                          try dsimp only
                          have hF := hF.trans g12'
                          have hWc5 := hWc5.later g12'
                          have hWc5_2 := hWc5_2.later g12'
                          have hWc5_3 := hWc5_3.later g12'
                          refine ok_if (fun hc45 => ?_) (fun hc45 => ?_)
                          · have h := bif_t h hc45
                            obtain rfl := Option.some.inj h
                            obtain rfl := hr_2 _ rfl
                            intro ρ L w' _ he _ _
                            exact ⟨rfl, (hF.ext he).below⟩
                          · have h := bif_f h hc45
                            obtain rfl := Option.some.inj h
                            have h := hl2 _ rfl
                            exact ok_again (I := I2) m2 (Nat.lt_succ_self _) (fun L w' he => by rw [hI2]; exact ⟨_, _, q5, A5_w2, c5_w2, A5_w3, c5_w3, rfl, h, hF.trans he.fine, hWc5.later he.fine, hWc5_2.later he.fine, hWc5_3.later he.fine, djc5_1_0, djc5_2_0, djc5_2_1, hmc5_2, hmc5_3⟩)
              · have h := bif_f h hc39
                obtain ⟨v6_0, hr6, h⟩ := Option.bind_eq_some_iff.1 h
                refine ok_callm rfl (fun L6 w6 g6 lt6 => ?_)
                refine (reasm_Stream_Held.c k _ (some q5) v6_0 hr6  w6 ((obr45 hWc5.sl hWc5_2.sl hWc5_3.sl).later g6).bare).mono ?_
                rintro e w6' ⟨rfl, hb6⟩
                refine ⟨(v6_0, ()), rfl, hb6, fun g6' => ?_⟩
                try dsimp only
                have hF := hF.trans g6'
                have hWc5 := hWc5.later g6'
                have hWc5_2 := hWc5_2.later g6'
                have hWc5_3 := hWc5_3.later g6'
                refine ok_if (fun hc46 => ?_) (fun hc46 => ?_)
                · have h := bif_t h hc46
                  obtain rfl := Option.some.inj h
                  obtain rfl := hr_2 _ rfl
                  intro ρ L w' _ he _ _
                  exact ⟨rfl, (hF.ext he).below⟩
                · have h := bif_f h hc46
                  obtain ⟨v7_0, hr7, h⟩ := Option.bind_eq_some_iff.1 h
                  refine ok_callm rfl (fun L7 w7 g7 lt7 => ?_)
                  refine (reasm_Stream_Held.c k _ (some q5) v7_0 hr7  w7 ((obr45 hWc5.sl hWc5_2.sl hWc5_3.sl).later g7).bare).mono ?_
                  rintro e w7' ⟨rfl, hb7⟩
                  refine ⟨(v7_0, ()), rfl, hb7, fun g7' => ?_⟩
                  try dsimp only
                  have hF := hF.trans g7'
                  have hWc5 := hWc5.later g7'
                  have hWc5_2 := hWc5_2.later g7'
                  have hWc5_3 := hWc5_3.later g7'
                  refine ok_if (fun hc47 => ?_) (fun hc47 => ?_)
                  · have h := bif_t h hc47
                    obtain rfl := Option.some.inj h
                    obtain rfl := hr_2 _ rfl
                    intro ρ L w' _ he _ _
                    exact ⟨rfl, (hF.ext he).below⟩
                  · have h := bif_f h hc47
                    obtain ⟨v8_0, hr8, h⟩ := Option.bind_eq_some_iff.1 h
                    refine ok_callm rfl (fun L8 w8 g8 lt8 => ?_)
                    refine (reasm_Stream_Ready.c k _ (some q5) v8_0 hr8  w8 ((obr45 hWc5.sl hWc5_2.sl hWc5_3.sl).later g8).bare).mono ?_
                    rintro e w8' ⟨rfl, hb8⟩
                    refine ⟨(v8_0, ()), rfl, hb8, fun g8' => ?_⟩
                    try dsimp only
                    have hF := hF.trans g8'
                    have hWc5 := hWc5.later g8'
                    have hWc5_2 := hWc5_2.later g8'
                    have hWc5_3 := hWc5_3.later g8'
                    obtain ⟨v9_0, hr9, h⟩ := Option.bind_eq_some_iff.1 h
                    refine ok_callm rfl (fun L9 w9 g9 lt9 => ?_)
                    refine (reasm_Stream_Held.c k _ (some q5) v9_0 hr9  w9 ((obr45 hWc5.sl hWc5_2.sl hWc5_3.sl).later g9).bare).mono ?_
                    rintro e w9' ⟨rfl, hb9⟩
                    refine ⟨(v9_0, ()), rfl, hb9, fun g9' => ?_⟩
                    try dsimp only
                    have hF := hF.trans g9'
                    have hWc5 := hWc5.later g9'
                    have hWc5_2 := hWc5_2.later g9'
                    have hWc5_3 := hWc5_3.later g9'
                    refine ok_if (fun hc48 => ?_) (fun hc48 => ?_)
                    · have h := bif_t h hc48
                      obtain rfl := Option.some.inj h
                      obtain rfl := hr_2 _ rfl
                      intro ρ L w' _ he _ _
                      exact ⟨rfl, (hF.ext he).below⟩
                    · have h := bif_f h hc48
                      obtain ⟨v10_0, hr10, h⟩ := Option.bind_eq_some_iff.1 h
                      refine ok_callm rfl (fun L10 w10 g10 lt10 => ?_)
                      refine (reasm_Stream_At.c k _ (some q5) v10_0 hr10  w10 ((obr45 hWc5.sl hWc5_2.sl hWc5_3.sl).later g10).bare).mono ?_
                      rintro e w10' ⟨rfl, hb10⟩
                      refine ⟨(v10_0, ()), rfl, hb10, fun g10' => ?_⟩
                      try dsimp only
                      have hF := hF.trans g10'
                      have hWc5 := hWc5.later g10'
                      have hWc5_2 := hWc5_2.later g10'
                      have hWc5_3 := hWc5_3.later g10'
                      refine ok_if (fun hc49 => ?_) (fun hc49 => ?_)
                      · have h := bif_t h hc49
                        obtain rfl := Option.some.inj h
                        obtain rfl := hr_2 _ rfl
                        intro ρ L w' _ he _ _
                        exact ⟨rfl, (hF.ext he).below⟩
                      · have h := bif_f h hc49
                        obtain ⟨v11_0, hr11, h⟩ := Option.bind_eq_some_iff.1 h
                        refine ok_callm rfl (fun L11 w11 g11 lt11 => ?_)
                        refine (reasm_Stream_Limit.c k _ (some q5) v11_0 hr11  w11 ((obr45 hWc5.sl hWc5_2.sl hWc5_3.sl).later g11).bare).mono ?_
                        rintro e w11' ⟨rfl, hb11⟩
                        refine ⟨(v11_0, ()), rfl, hb11, fun g11' => ?_⟩
                        try dsimp only
                        have hF := hF.trans g11'
                        have hWc5 := hWc5.later g11'
                        have hWc5_2 := hWc5_2.later g11'
                        have hWc5_3 := hWc5_3.later g11'
                        obtain ⟨v12_0, hr12, h⟩ := Option.bind_eq_some_iff.1 h
                        refine ok_callm rfl (fun L12 w12 g12 lt12 => ?_)
                        refine (reasm_Stream_At.c k _ (some q5) v12_0 hr12  w12 ((obr45 hWc5.sl hWc5_2.sl hWc5_3.sl).later g12).bare).mono ?_
                        rintro e w12' ⟨rfl, hb12⟩
                        refine ⟨(v12_0, ()), rfl, hb12, fun g12' => ?_⟩
                        try dsimp only
                        have hF := hF.trans g12'
                        have hWc5 := hWc5.later g12'
                        have hWc5_2 := hWc5_2.later g12'
                        have hWc5_3 := hWc5_3.later g12'
                        refine ok_if (fun hc50 => ?_) (fun hc50 => ?_)
                        · have h := bif_t h hc50
                          obtain rfl := Option.some.inj h
                          obtain rfl := hr_2 _ rfl
                          intro ρ L w' _ he _ _
                          exact ⟨rfl, (hF.ext he).below⟩
                        · have h := bif_f h hc50
                          obtain rfl := Option.some.inj h
                          have h := hl2 _ rfl
                          exact ok_again (I := I2) m2 (Nat.lt_succ_self _) (fun L w' he => by rw [hI2]; exact ⟨_, _, q5, A5_w2, c5_w2, A5_w3, c5_w3, rfl, h, hF.trans he.fine, hWc5.later he.fine, hWc5_2.later he.fine, hWc5_3.later he.fine, djc5_1_0, djc5_2_0, djc5_2_1, hmc5_2, hmc5_3⟩)
          · have h := bif_f h hc19
            refine ok_if (fun hc51 => ?_) (fun hc51 => ?_)
            · have h := bif_t h hc51
              obtain ⟨r5, hr5, h⟩ := Option.bind_eq_some_iff.1 h
              obtain ⟨s5_0, q5⟩ := r5
              try dsimp only at h
              have hBv5 : ∀ b, (reasm_Stream_Read.S b0 A2_b0_2 A2_b0_3) b → ¬ _ ∧ b < _ := fun b hb => by rcases hb with hb | hb | hb; exact ⟨(hW2_b0.lt b hb).2.1, hW2_b0.lt1 b hb⟩; exact ⟨(hW2_b0_2.lt b hb).2.1, hW2_b0_2.lt1 b hb⟩; exact ⟨(hW2_b0_3.lt b hb).2.1, hW2_b0_3.lt1 b hb⟩
              have hBm5 : ∀ b, (reasm_Stream_Read.S b0 A2_b0_2 A2_b0_3) b → (fun _ => False) b ∨ w.heap.size ≤ b := fun b hb => by rcases hb with hb | hb | hb; exact hmn0 b hb; exact hm2_b0_2 b hb; exact hm2_b0_3 b hb
              refine ok_callo (reasm_Stream_Read.S b0 A2_b0_2 A2_b0_3) rfl hBv5 (fun L5 w5 g5 lt5 => ?_)
              refine (reasm_Stream_Read.c k _ q2_b0 _ _ _ _ r16.2.1 (s5_0, q5) hr5  w5 (hW2_b0.later g5).bare' (hW2_b0_2.later g5).bare' (hW2_b0_3.later g5).bare' dj_w13_w12 dj_w14_w12 dj_w14_w13).mono ?_
              rintro e w5' ⟨A5_w2, c5_w2, A5_w3, c5_w3, A5_0, c5_0, rfl, hf5, hWc5, hWc5_2, hWc5_3, djc5_1_0, djc5_2_0, djc5_2_1, hzc5_2, hzc5_3, hO5_0, dr5_o52_2, dr5_o52_3⟩
              refine ⟨((A5_0, s5_0.length, c5_0), ()), rfl, hf5, fun g5' hid5 hv5 => ?_⟩
              try dsimp only
              have dk5_o52 : Dj A5_0 b0 := Dj.new hO5_0.fresh (fun b hb => Nat.lt_of_lt_of_le (hBv5 b (Or.inl hb)).2 g5.size)
              have hmc5 := hmn0
              have hmc5_2 : ∀ b, blk (A5_w2, 0, 0) b → (fun _ => False) b ∨ w.heap.size ≤ b := fun b hb => (hzc5_2 b hb).elim (hBm5 b) (fun h => Or.inr (Nat.le_trans (hF.trans g5).size h))
              have hmc5_3 : ∀ b, blk (A5_w3, 0, 0) b → (fun _ => False) b ∨ w.heap.size ≤ b := fun b hb => (hzc5_3 b hb).elim (hBm5 b) (fun h => Or.inr (Nat.le_trans (hF.trans g5).size h))
              have hWc5 := hWc5.vis (fun b hb => hv5 b (Or.inl (Or.inl hb)))
              have hWc5_2 := hWc5_2.vis (fun b hb => hv5 b (hzc5_2 b hb))
              have hWc5_3 := hWc5_3.vis (fun b hb => hv5 b (hzc5_3 b hb))
              have hO5_0 := hO5_0.call (hF.trans g5).size lt5
              have hF := Fine.own hF g5' hBm5 hid5
              refine ok_if (fun hc56 => ?_) (fun hc56 => ?_)
              · have h := bif_t h hc56
                obtain rfl := Option.some.inj h
                obtain rfl := hr_2 _ rfl
                intro ρ L w' _ he _ _
                exact ⟨rfl, (hF.ext he).below⟩
              · have h := bif_f h hc56
                obtain ⟨v6_0, hr6, h⟩ := Option.bind_eq_some_iff.1 h
                refine ok_callm rfl (fun L6 w6 g6 lt6 => ?_)
                refine (reasm_Stream_Held.c k _ (some q5) v6_0 hr6  w6 ((obr45 hWc5.sl hWc5_2.sl hWc5_3.sl).later g6).bare).mono ?_
                rintro e w6' ⟨rfl, hb6⟩
                refine ⟨(v6_0, ()), rfl, hb6, fun g6' => ?_⟩
                try dsimp only
                have hF := hF.trans g6'
                have hO5_0 := hO5_0.later g6'
                have hWc5 := hWc5.later g6'
                have hWc5_2 := hWc5_2.later g6'
                have hWc5_3 := hWc5_3.later g6'
                refine ok_if (fun hc57 => ?_) (fun hc57 => ?_)
                · have h := bif_t h hc57
                  obtain rfl := Option.some.inj h
                  obtain rfl := hr_2 _ rfl
                  intro ρ L w' _ he _ _
                  exact ⟨rfl, (hF.ext he).below⟩
                · have h := bif_f h hc57
                  obtain ⟨v7_0, hr7, h⟩ := Option.bind_eq_some_iff.1 h
                  refine ok_callm rfl (fun L7 w7 g7 lt7 => ?_)
                  refine (reasm_Stream_Held.c k _ (some q5) v7_0 hr7  w7 ((obr45 hWc5.sl hWc5_2.sl hWc5_3.sl).later g7).bare).mono ?_
                  rintro e w7' ⟨rfl, hb7⟩
                  refine ⟨(v7_0, ()), rfl, hb7, fun g7' => ?_⟩
                  try dsimp only
                  have hF := hF.trans g7'
                  have hO5_0 := hO5_0.later g7'
                  have hWc5 := hWc5.later g7'
                  have hWc5_2 := hWc5_2.later g7'
                  have hWc5_3 := hWc5_3.later g7'
                  refine ok_if (fun hc58 => ?_) (fun hc58 => ?_)
                  · have h := bif_t h hc58
                    obtain rfl := Option.some.inj h
                    obtain rfl := hr_2 _ rfl
                    intro ρ L w' _ he _ _
                    exact ⟨rfl, (hF.ext he).below⟩
                  · have h := bif_f h hc58
                    obtain ⟨v8_0, hr8, h⟩ := Option.bind_eq_some_iff.1 h
                    refine ok_callm rfl (fun L8 w8 g8 lt8 => ?_)
                    refine (reasm_Stream_Ready.c k _ (some q5) v8_0 hr8  w8 ((obr45 hWc5.sl hWc5_2.sl hWc5_3.sl).later g8).bare).mono ?_
                    rintro e w8' ⟨rfl, hb8⟩
                    refine ⟨(v8_0, ()), rfl, hb8, fun g8' => ?_⟩
                    try dsimp only
                    have hF := hF.trans g8'
                    have hO5_0 := hO5_0.later g8'
                    have hWc5 := hWc5.later g8'
                    have hWc5_2 := hWc5_2.later g8'
                    have hWc5_3 := hWc5_3.later g8'
                    obtain ⟨v9_0, hr9, h⟩ := Option.bind_eq_some_iff.1 h
                    refine ok_callm rfl (fun L9 w9 g9 lt9 => ?_)
                    refine (reasm_Stream_Held.c k _ (some q5) v9_0 hr9  w9 ((obr45 hWc5.sl hWc5_2.sl hWc5_3.sl).later g9).bare).mono ?_
                    rintro e w9' ⟨rfl, hb9⟩
                    refine ⟨(v9_0, ()), rfl, hb9, fun g9' => ?_⟩
                    try dsimp only
                    have hF := hF.trans g9'
                    have hO5_0 := hO5_0.later g9'
                    have hWc5 := hWc5.later g9'
                    have hWc5_2 := hWc5_2.later g9'
                    have hWc5_3 := hWc5_3.later g9'
                    refine ok_if (fun hc59 => ?_) (fun hc59 => ?_)
                    · have h := bif_t h hc59
                      obtain rfl := Option.some.inj h
                      obtain rfl := hr_2 _ rfl
                      intro ρ L w' _ he _ _
                      exact ⟨rfl, (hF.ext he).below⟩
                    · have h := bif_f h hc59
                      obtain ⟨v10_0, hr10, h⟩ := Option.bind_eq_some_iff.1 h
                      refine ok_callm rfl (fun L10 w10 g10 lt10 => ?_)
                      refine (reasm_Stream_At.c k _ (some q5) v10_0 hr10  w10 ((obr45 hWc5.sl hWc5_2.sl hWc5_3.sl).later g10).bare).mono ?_
                      rintro e w10' ⟨rfl, hb10⟩
                      refine ⟨(v10_0, ()), rfl, hb10, fun g10' => ?_⟩
                      try dsimp only
                      have hF := hF.trans g10'
                      have hO5_0 := hO5_0.later g10'
                      have hWc5 := hWc5.later g10'
                      have hWc5_2 := hWc5_2.later g10'
                      have hWc5_3 := hWc5_3.later g10'
                      refine ok_if (fun hc60 => ?_) (fun hc60 => ?_)
                      · have h := bif_t h hc60
                        obtain rfl := Option.some.inj h
                        obtain rfl := hr_2 _ rfl
                        intro ρ L w' _ he _ _
                        exact ⟨rfl, (hF.ext he).below⟩
                      · have h := bif_f h hc60
                        obtain ⟨v11_0, hr11, h⟩ := Option.bind_eq_some_iff.1 h
                        refine ok_callm rfl (fun L11 w11 g11 lt11 => ?_)
                        refine (reasm_Stream_Limit.c k _ (some q5) v11_0 hr11  w11 ((obr45 hWc5.sl hWc5_2.sl hWc5_3.sl).later g11).bare).mono ?_
                        rintro e w11' ⟨rfl, hb11⟩
                        refine ⟨(v11_0, ()), rfl, hb11, fun g11' => ?_⟩
                        try dsimp only
                        have hF := hF.trans g11'
                        have hO5_0 := hO5_0.later g11'
                        have hWc5 := hWc5.later g11'
                        have hWc5_2 := hWc5_2.later g11'
                        have hWc5_3 := hWc5_3.later g11'
                        obtain ⟨v12_0, hr12, h⟩ := Option.bind_eq_some_iff.1 h
                        refine ok_callm rfl (fun L12 w12 g12 lt12 => ?_)
                        refine (reasm_Stream_At.c k _ (some q5) v12_0 hr12  w12 ((obr45 hWc5.sl hWc5_2.sl hWc5_3.sl).later g12).bare).mono ?_
                        rintro e w12' ⟨rfl, hb12⟩
                        refine ⟨(v12_0, ()), rfl, hb12, fun g12' => ?_⟩
                        try dsimp only
                        have hF := hF.trans g12'
                        have hO5_0 := hO5_0.later g12'
                        have hWc5 := hWc5.later g12'
                        have hWc5_2 := hWc5_2.later g12'
                        have hWc5_3 := hWc5_3.later g12'
                        refine ok_if (fun hc61 => ?_) (fun hc61 => ?_)
                        · have h := bif_t h hc61
                          obtain rfl := Option.some.inj h
                          obtain rfl := hr_2 _ rfl
                          intro ρ L w' _ he _ _
                          exact ⟨rfl, (hF.ext he).below⟩
                        · have h := bif_f h hc61
                          obtain rfl := Option.some.inj h
                          have h := hl2 _ rfl
                          exact ok_again (I := I2) m2 (Nat.lt_succ_self _) (fun L w' he => by rw [hI2]; exact ⟨_, _, q5, A5_w2, c5_w2, A5_w3, c5_w3, rfl, h, hF.trans he.fine, hWc5.later he.fine, hWc5_2.later he.fine, hWc5_3.later he.fine, djc5_1_0, djc5_2_0, djc5_2_1, hmc5_2, hmc5_3⟩)
            · have h := bif_f h hc51
              obtain ⟨r5, hr5, h⟩ := Option.bind_eq_some_iff.1 h
              obtain ⟨v5_0, q5⟩ := r5
              try dsimp only at h
              have hBv5 : ∀ b, (reasm_Stream_Reset.S b0 A2_b0_2 A2_b0_3) b → ¬ _ ∧ b < _ := fun b hb => by rcases hb with hb | hb | hb; exact ⟨(hW2_b0.lt b hb).2.1, hW2_b0.lt1 b hb⟩; exact ⟨(hW2_b0_2.lt b hb).2.1, hW2_b0_2.lt1 b hb⟩; exact ⟨(hW2_b0_3.lt b hb).2.1, hW2_b0_3.lt1 b hb⟩
              have hBm5 : ∀ b, (reasm_Stream_Reset.S b0 A2_b0_2 A2_b0_3) b → (fun _ => False) b ∨ w.heap.size ≤ b := fun b hb => by rcases hb with hb | hb | hb; exact hmn0 b hb; exact hm2_b0_2 b hb; exact hm2_b0_3 b hb
              refine ok_callo (reasm_Stream_Reset.S b0 A2_b0_2 A2_b0_3) rfl hBv5 (fun L5 w5 g5 lt5 => ?_)
              refine (reasm_Stream_Reset.c k _ q2_b0 _ _ _ _ r16.2.1 (v5_0, q5) hr5  w5 (hW2_b0.later g5).bare' (hW2_b0_2.later g5).bare' (hW2_b0_3.later g5).bare' dj_w13_w12 dj_w14_w12 dj_w14_w13).mono ?_
              rintro e w5' ⟨A5_w2, c5_w2, A5_w3, c5_w3, rfl, hf5, hWc5, hWc5_2, hWc5_3, djc5_1_0, djc5_2_0, djc5_2_1, hzc5_2, hzc5_3⟩
              refine ⟨(v5_0, ()), rfl, hf5, fun g5' hid5 hv5 => ?_⟩
              try dsimp only
              have hmc5 := hmn0
              have hmc5_2 : ∀ b, blk (A5_w2, 0, 0) b → (fun _ => False) b ∨ w.heap.size ≤ b := fun b hb => (hzc5_2 b hb).elim (hBm5 b) (fun h => Or.inr (Nat.le_trans (hF.trans g5).size h))
              have hmc5_3 : ∀ b, blk (A5_w3, 0, 0) b → (fun _ => False) b ∨ w.heap.size ≤ b := fun b hb => (hzc5_3 b hb).elim (hBm5 b) (fun h => Or.inr (Nat.le_trans (hF.trans g5).size h))
              have hWc5 := hWc5.vis (fun b hb => hv5 b (Or.inl (Or.inl hb)))
              have hWc5_2 := hWc5_2.vis (fun b hb => hv5 b (hzc5_2 b hb))
              have hWc5_3 := hWc5_3.vis (fun b hb => hv5 b (hzc5_3 b hb))
              have hF := Fine.own hF g5' hBm5 hid5
              obtain ⟨v6_0, hr6, h⟩ := Option.bind_eq_some_iff.1 h
              refine ok_callm rfl (fun L6 w6 g6 lt6 => ?_)
              refine (reasm_Stream_Held.c k _ (some q5) v6_0 hr6  w6 ((obr45 hWc5.sl hWc5_2.sl hWc5_3.sl).later g6).bare).mono ?_
              rintro e w6' ⟨rfl, hb6⟩
              refine ⟨(v6_0, ()), rfl, hb6, fun g6' => ?_⟩
              try dsimp only
              have hF := hF.trans g6'
              have hWc5 := hWc5.later g6'
              have hWc5_2 := hWc5_2.later g6'
              have hWc5_3 := hWc5_3.later g6'
              refine ok_if (fun hc65 => ?_) (fun hc65 => ?_)
              · have h := bif_t h hc65
                obtain rfl := Option.some.inj h
                obtain rfl := hr_2 _ rfl
                intro ρ L w' _ he _ _
                exact ⟨rfl, (hF.ext he).below⟩
              · have h := bif_f h hc65
                obtain ⟨v7_0, hr7, h⟩ := Option.bind_eq_some_iff.1 h
                refine ok_callm rfl (fun L7 w7 g7 lt7 => ?_)
                refine (reasm_Stream_Held.c k _ (some q5) v7_0 hr7  w7 ((obr45 hWc5.sl hWc5_2.sl hWc5_3.sl).later g7).bare).mono ?_
                rintro e w7' ⟨rfl, hb7⟩
                refine ⟨(v7_0, ()), rfl, hb7, fun g7' => ?_⟩
                try dsimp only
                have hF := hF.trans g7'
                have hWc5 := hWc5.later g7'
                have hWc5_2 := hWc5_2.later g7'
                have hWc5_3 := hWc5_3.later g7'
                refine ok_if (fun hc66 => ?_) (fun hc66 => ?_)
                · have h := bif_t h hc66
                  obtain rfl := Option.some.inj h
                  obtain rfl := hr_2 _ rfl
                  intro ρ L w' _ he _ _
                  exact ⟨rfl, (hF.ext he).below⟩
                · have h := bif_f h hc66
                  obtain ⟨v8_0, hr8, h⟩ := Option.bind_eq_some_iff.1 h
                  refine ok_callm rfl (fun L8 w8 g8 lt8 => ?_)
                  refine (reasm_Stream_Ready.c k _ (some q5) v8_0 hr8  w8 ((obr45 hWc5.sl hWc5_2.sl hWc5_3.sl).later g8).bare).mono ?_
                  rintro e w8' ⟨rfl, hb8⟩
                  refine ⟨(v8_0, ()), rfl, hb8, fun g8' => ?_⟩
                  try dsimp only
                  have hF := hF.trans g8'
                  have hWc5 := hWc5.later g8'
                  have hWc5_2 := hWc5_2.later g8'
                  have hWc5_3 := hWc5_3.later g8'
                  obtain ⟨v9_0, hr9, h⟩ := Option.bind_eq_some_iff.1 h
                  refine ok_callm rfl (fun L9 w9 g9 lt9 => ?_)
                  refine (reasm_Stream_Held.c k _ (some q5) v9_0 hr9  w9 ((obr45 hWc5.sl hWc5_2.sl hWc5_3.sl).later g9).bare).mono ?_
                  rintro e w9' ⟨rfl, hb9⟩
                  refine ⟨(v9_0, ()), rfl, hb9, fun g9' => ?_⟩
                  try dsimp only
                  have hF := hF.trans g9'
                  have hWc5 := hWc5.later g9'
                  have hWc5_2 := hWc5_2.later g9'
                  have hWc5_3 := hWc5_3.later g9'
                  refine ok_if (fun hc67 => ?_) (fun hc67 => ?_)
                  · have h := bif_t h hc67
                    obtain rfl := Option.some.inj h
                    obtain rfl := hr_2 _ rfl
                    intro ρ L w' _ he _ _
                    exact ⟨rfl, (hF.ext he).below⟩
                  · have h := bif_f h hc67
                    obtain ⟨v10_0, hr10, h⟩ := Option.bind_eq_some_iff.1 h
                    refine ok_callm rfl (fun L10 w10 g10 lt10 => ?_)
                    refine (reasm_Stream_At.c k _ (some q5) v10_0 hr10  w10 ((obr45 hWc5.sl hWc5_2.sl hWc5_3.sl).later g10).bare).mono ?_
                    rintro e w10' ⟨rfl, hb10⟩
                    refine ⟨(v10_0, ()), rfl, hb10, fun g10' => ?_⟩
                    try dsimp only
                    have hF := hF.trans g10'
                    have hWc5 := hWc5.later g10'
                    have hWc5_2 := hWc5_2.later g10'
                    have hWc5_3 := hWc5_3.later g10'
                    refine ok_if (fun hc68 => ?_) (fun hc68 => ?_)
                    · have h := bif_t h hc68
                      obtain rfl := Option.some.inj h
                      obtain rfl := hr_2 _ rfl
                      intro ρ L w' _ he _ _
                      exact ⟨rfl, (hF.ext he).below⟩
                    · have h := bif_f h hc68
                      obtain ⟨v11_0, hr11, h⟩ := Option.bind_eq_some_iff.1 h
                      refine ok_callm rfl (fun L11 w11 g11 lt11 => ?_)
                      refine (reasm_Stream_Limit.c k _ (some q5) v11_0 hr11  w11 ((obr45 hWc5.sl hWc5_2.sl hWc5_3.sl).later g11).bare).mono ?_
                      rintro e w11' ⟨rfl, hb11⟩
                      refine ⟨(v11_0, ()), rfl, hb11, fun g11' => ?_⟩
                      try dsimp only
                      have hF := hF.trans g11'
                      have hWc5 := hWc5.later g11'
                      have hWc5_2 := hWc5_2.later g11'
                      have hWc5_3 := hWc5_3.later g11'
                      obtain ⟨v12_0, hr12, h⟩ := Option.bind_eq_some_iff.1 h
                      refine ok_callm rfl (fun L12 w12 g12 lt12 => ?_)
                      refine (reasm_Stream_At.c k _ (some q5) v12_0 hr12  w12 ((obr45 hWc5.sl hWc5_2.sl hWc5_3.sl).later g12).bare).mono ?_
                      rintro e w12' ⟨rfl, hb12⟩
                      refine ⟨(v12_0, ()), rfl, hb12, fun g12' => ?_⟩
                      try dsimp only
                      have hF := hF.trans g12'
                      have hWc5 := hWc5.later g12'
                      have hWc5_2 := hWc5_2.later g12'
                      have hWc5_3 := hWc5_3.later g12'
                      refine ok_if (fun hc69 => ?_) (fun hc69 => ?_)
                      · have h := bif_t h hc69
                        obtain rfl := Option.some.inj h
                        obtain rfl := hr_2 _ rfl
                        intro ρ L w' _ he _ _
                        exact ⟨rfl, (hF.ext he).below⟩
                      · have h := bif_f h hc69
                        obtain rfl := Option.some.inj h
                        have h := hl2 _ rfl
                        exact ok_again (I := I2) m2 (Nat.lt_succ_self _) (fun L w' he => by rw [hI2]; exact ⟨_, _, q5, A5_w2, c5_w2, A5_w3, c5_w3, rfl, h, hF.trans he.fine, hWc5.later he.fine, hWc5_2.later he.fine, hWc5_3.later he.fine, djc5_1_0, djc5_2_0, djc5_2_1, hmc5_2, hmc5_3⟩)
        · have h := bif_f h hc15
          obtain rfl := Option.some.inj h
          obtain rfl := hr_2 _ rfl
          intro ρ L w' _ he _ _
          exact ⟨rfl, (hF.ext he).below⟩
      · have h := bif_f h hc10
        obtain ⟨v2_0, hr2, h⟩ := Option.bind_eq_some_iff.1 h
        refine ok_callm rfl (fun L2 w2 g2 lt2 => ?_)
        refine (law09_alive.c k  v2_0 hr2  w2 ).mono ?_
        rintro e w2' ⟨rfl, hb2⟩
        refine ⟨(v2_0, ()), rfl, hb2, fun g2' => ?_⟩
        try dsimp only
        have hF := hF.trans g2'
        have hWn0 := hWn0.later g2'
        have hWn0_2 := hWn0_2.later g2'
        have hWn0_3 := hWn0_3.later g2'
        refine ok_if (fun hc70 => ?_) (fun hc70 => ?_)
        · have h := bif_t h hc70
          obtain rfl := Option.some.inj h
          intro ρ L w' _ he _ _
          exact ⟨rfl, (hF.ext he).below⟩
        · have h := bif_f h hc70
          obtain rfl := Option.some.inj h
          intro ρ L w' _ he _ _
          exact ⟨rfl, (hF.ext he).below⟩
end Go.Proofs.Ytdjeadgebcndeaa.X
