import Derived.Test.YtpdchohbmmfemaazFfa
namespace Go.Proofs.Ytpdchohbmmfemaa.X
open Go Go.RowKit Go.Proofs.YtpdchohbmmfemaaW.Rx
set_option linter.unusedVariables false
set_option linter.unusedSimpArgs false
set_option maxRecDepth 10000
abbrev r4_stream.S (a0 : Option Addr) : Nat → Prop := fun b => blk (a0, 0, 0) b
def r4_stream.F (k : Nat) (q0 : (List Int) × Int × Int × Int) (a1 : Int) (a2 : Int) : Option (Int × Int × Int × Int × Int × Bool × (List Int) × (List (Int × Int)) × ((List Int) × Int × Int × Int)) := (r4_number.F k q0).bind fun (v0_0, qc0) => bif IntKind.i64.wrap (((BitVec.toNat (BitVec.ofInt 64 a1 &&& BitVec.ofInt 64 1)) : Nat) : Int) == 1 then (bif IntKind.i64.wrap (((BitVec.toNat (BitVec.ofInt 64 a1 &&& BitVec.ofInt 64 4)) : Nat) : Int) != 0 then ((r4_number.F k qc0).bind fun (v1_0, qc1) => bif IntKind.i64.wrap (((BitVec.toNat (BitVec.ofInt 64 a1 &&& BitVec.ofInt 64 2)) : Nat) : Int) != 0 then ((r4_number.F k qc1).bind fun (v4_0, qc4) => (r4_ok.F k qc4).bind fun (v5_0, qc5) => bif v5_0 then (bif decide (IntKind.i64.wrap (4611686018427387903 - v1_0) < v4_0) then ((r4_fails.F k qc5 7 a2).bind fun qc6 => (r4_take.F k qc6 v4_0).bind fun (s7_0, qc7) => some ((8, v0_0, v1_0, 0, 0, true, s7_0, [], qc7))) else ((r4_take.F k qc5 v4_0).bind fun (s6_0, qc6) => some ((8, v0_0, v1_0, 0, 0, true, s6_0, [], qc6)))) else ((r4_take.F k qc5 v4_0).bind fun (s6_0, qc6) => some ((8, v0_0, v1_0, 0, 0, true, s6_0, [], qc6)))) else ((r4_ok.F k qc1).bind fun (v4_0, qc4) => bif v4_0 then (bif decide (IntKind.i64.wrap (4611686018427387903 - v1_0) < IntKind.i64.wrap ((((qc1.1).length : Nat) : Int) - qc1.2.1)) then ((r4_fails.F k qc4 7 a2).bind fun qc5 => (r4_take.F k qc5 (IntKind.i64.wrap ((((qc1.1).length : Nat) : Int) - qc1.2.1))).bind fun (s6_0, qc6) => some ((8, v0_0, v1_0, 0, 0, true, s6_0, [], qc6))) else ((r4_take.F k qc4 (IntKind.i64.wrap ((((qc1.1).length : Nat) : Int) - qc1.2.1))).bind fun (s5_0, qc5) => some ((8, v0_0, v1_0, 0, 0, true, s5_0, [], qc5)))) else ((r4_take.F k qc4 (IntKind.i64.wrap ((((qc1.1).length : Nat) : Int) - qc1.2.1))).bind fun (s5_0, qc5) => some ((8, v0_0, v1_0, 0, 0, true, s5_0, [], qc5))))) else (bif IntKind.i64.wrap (((BitVec.toNat (BitVec.ofInt 64 a1 &&& BitVec.ofInt 64 2)) : Nat) : Int) != 0 then ((r4_number.F k qc0).bind fun (v3_0, qc3) => (r4_ok.F k qc3).bind fun (v4_0, qc4) => bif v4_0 then (bif decide (IntKind.i64.wrap (4611686018427387903 - 0) < v3_0) then ((r4_fails.F k qc4 7 a2).bind fun qc5 => (r4_take.F k qc5 v3_0).bind fun (s6_0, qc6) => some ((8, v0_0, 0, 0, 0, true, s6_0, [], qc6))) else ((r4_take.F k qc4 v3_0).bind fun (s5_0, qc5) => some ((8, v0_0, 0, 0, 0, true, s5_0, [], qc5)))) else ((r4_take.F k qc4 v3_0).bind fun (s5_0, qc5) => some ((8, v0_0, 0, 0, 0, true, s5_0, [], qc5)))) else ((r4_ok.F k qc0).bind fun (v3_0, qc3) => bif v3_0 then (bif decide (IntKind.i64.wrap (4611686018427387903 - 0) < IntKind.i64.wrap ((((qc0.1).length : Nat) : Int) - qc0.2.1)) then ((r4_fails.F k qc3 7 a2).bind fun qc4 => (r4_take.F k qc4 (IntKind.i64.wrap ((((qc0.1).length : Nat) : Int) - qc0.2.1))).bind fun (s5_0, qc5) => some ((8, v0_0, 0, 0, 0, true, s5_0, [], qc5))) else ((r4_take.F k qc3 (IntKind.i64.wrap ((((qc0.1).length : Nat) : Int) - qc0.2.1))).bind fun (s4_0, qc4) => some ((8, v0_0, 0, 0, 0, true, s4_0, [], qc4)))) else ((r4_take.F k qc3 (IntKind.i64.wrap ((((qc0.1).length : Nat) : Int) - qc0.2.1))).bind fun (s4_0, qc4) => some ((8, v0_0, 0, 0, 0, true, s4_0, [], qc4)))))) else (bif IntKind.i64.wrap (((BitVec.toNat (BitVec.ofInt 64 a1 &&& BitVec.ofInt 64 4)) : Nat) : Int) != 0 then ((r4_number.F k qc0).bind fun (v1_0, qc1) => bif IntKind.i64.wrap (((BitVec.toNat (BitVec.ofInt 64 a1 &&& BitVec.ofInt 64 2)) : Nat) : Int) != 0 then ((r4_number.F k qc1).bind fun (v4_0, qc4) => (r4_ok.F k qc4).bind fun (v5_0, qc5) => bif v5_0 then (bif decide (IntKind.i64.wrap (4611686018427387903 - v1_0) < v4_0) then ((r4_fails.F k qc5 7 a2).bind fun qc6 => (r4_take.F k qc6 v4_0).bind fun (s7_0, qc7) => some ((8, v0_0, v1_0, 0, 0, false, s7_0, [], qc7))) else ((r4_take.F k qc5 v4_0).bind fun (s6_0, qc6) => some ((8, v0_0, v1_0, 0, 0, false, s6_0, [], qc6)))) else ((r4_take.F k qc5 v4_0).bind fun (s6_0, qc6) => some ((8, v0_0, v1_0, 0, 0, false, s6_0, [], qc6)))) else ((r4_ok.F k qc1).bind fun (v4_0, qc4) => bif v4_0 then (bif decide (IntKind.i64.wrap (4611686018427387903 - v1_0) < IntKind.i64.wrap ((((qc1.1).length : Nat) : Int) - qc1.2.1)) then ((r4_fails.F k qc4 7 a2).bind fun qc5 => (r4_take.F k qc5 (IntKind.i64.wrap ((((qc1.1).length : Nat) : Int) - qc1.2.1))).bind fun (s6_0, qc6) => some ((8, v0_0, v1_0, 0, 0, false, s6_0, [], qc6))) else ((r4_take.F k qc4 (IntKind.i64.wrap ((((qc1.1).length : Nat) : Int) - qc1.2.1))).bind fun (s5_0, qc5) => some ((8, v0_0, v1_0, 0, 0, false, s5_0, [], qc5)))) else ((r4_take.F k qc4 (IntKind.i64.wrap ((((qc1.1).length : Nat) : Int) - qc1.2.1))).bind fun (s5_0, qc5) => some ((8, v0_0, v1_0, 0, 0, false, s5_0, [], qc5))))) else (bif IntKind.i64.wrap (((BitVec.toNat (BitVec.ofInt 64 a1 &&& BitVec.ofInt 64 2)) : Nat) : Int) != 0 then ((r4_number.F k qc0).bind fun (v3_0, qc3) => (r4_ok.F k qc3).bind fun (v4_0, qc4) => bif v4_0 then (bif decide (IntKind.i64.wrap (4611686018427387903 - 0) < v3_0) then ((r4_fails.F k qc4 7 a2).bind fun qc5 => (r4_take.F k qc5 v3_0).bind fun (s6_0, qc6) => some ((8, v0_0, 0, 0, 0, false, s6_0, [], qc6))) else ((r4_take.F k qc4 v3_0).bind fun (s5_0, qc5) => some ((8, v0_0, 0, 0, 0, false, s5_0, [], qc5)))) else ((r4_take.F k qc4 v3_0).bind fun (s5_0, qc5) => some ((8, v0_0, 0, 0, 0, false, s5_0, [], qc5)))) else ((r4_ok.F k qc0).bind fun (v3_0, qc3) => bif v3_0 then (bif decide (IntKind.i64.wrap (4611686018427387903 - 0) < IntKind.i64.wrap ((((qc0.1).length : Nat) : Int) - qc0.2.1)) then ((r4_fails.F k qc3 7 a2).bind fun qc4 => (r4_take.F k qc4 (IntKind.i64.wrap ((((qc0.1).length : Nat) : Int) - qc0.2.1))).bind fun (s5_0, qc5) => some ((8, v0_0, 0, 0, 0, false, s5_0, [], qc5))) else ((r4_take.F k qc3 (IntKind.i64.wrap ((((qc0.1).length : Nat) : Int) - qc0.2.1))).bind fun (s4_0, qc4) => some ((8, v0_0, 0, 0, 0, false, s4_0, [], qc4)))) else ((r4_take.F k qc3 (IntKind.i64.wrap ((((qc0.1).length : Nat) : Int) - qc0.2.1))).bind fun (s4_0, qc4) => some ((8, v0_0, 0, 0, 0, false, s4_0, [], qc4))))))
abbrev r4_stream.A : Nat → LA := noA
set_option maxHeartbeats 4000000 in
theorem r4_stream.t (a0 : Option Addr) (a1 : Int) (a2 : Int) : tree Try.prog r4_stream.A noC Try.f50 [AV.v (Value.pointer a0), AV.v (.int .i64 a1), AV.v (.int .i64 a2)] [] =
  .call 49 ([AV.v (Value.pointer a0)]) ([]) (Sh.one) ([Lf.i .i64]) ([]) (fun x0 =>
   bif IntKind.i64.wrap (((BitVec.toNat (BitVec.ofInt 64 a1 &&& BitVec.ofInt 64 1)) : Nat) : Int) == 1 then (
    bif IntKind.i64.wrap (((BitVec.toNat (BitVec.ofInt 64 a1 &&& BitVec.ofInt 64 4)) : Nat) : Int) != 0 then (
     .call 49 ([AV.v (Value.pointer a0)]) ([]) (Sh.one) ([Lf.i .i64]) ([]) (fun x1 =>
      .need (Option.isSome a0) (
      .need (Option.isSome a0) (
      .ld (Option.map (fun x => Addr.add x 0) a0) ([Lf.sl]) (fun x2 =>
       .need (Option.isSome a0) (
       .need (Option.isSome a0) (
       .ld (Option.map (fun x => Addr.add x 1) a0) ([Lf.i .i64]) (fun x3 =>
        bif IntKind.i64.wrap (((BitVec.toNat (BitVec.ofInt 64 a1 &&& BitVec.ofInt 64 2)) : Nat) : Int) != 0 then (
         .call 49 ([AV.v (Value.pointer a0)]) ([]) (Sh.one) ([Lf.i .i64]) ([]) (fun x4 =>
          .call 33 ([AV.v (Value.pointer a0)]) ([]) (Sh.one) ([Lf.b]) ([]) (fun x5 =>
           bif x5.1 then (
            bif decide (IntKind.i64.wrap (4611686018427387903 - x1.1) < x4.1) then (
             .call 31 ([AV.v (Value.pointer a0), AV.v (.int .i64 7), AV.v (.int .i64 a2)]) ([]) (Sh.tup []) ([]) ([]) (fun x6 =>
              .call 51 ([AV.v (Value.pointer a0), AV.v (.int .i64 x4.1)]) ([]) (Sh.one) ([Lf.sl]) ([]) (fun x7 =>
               .done (AV.agg [AV.v (.int .i64 8), AV.v (.int .i64 x0.1), AV.v (.int .i64 x1.1), AV.v (.int .i64 0), AV.v (.int .i64 0), AV.v (Value.bool true), AV.v (Value.slice x7.1.1 x7.1.2.1 x7.1.2.2), AV.v (Value.slice none 0 0)]) ([]))))
            else (
             .call 51 ([AV.v (Value.pointer a0), AV.v (.int .i64 x4.1)]) ([]) (Sh.one) ([Lf.sl]) ([]) (fun x6 =>
              .done (AV.agg [AV.v (.int .i64 8), AV.v (.int .i64 x0.1), AV.v (.int .i64 x1.1), AV.v (.int .i64 0), AV.v (.int .i64 0), AV.v (Value.bool true), AV.v (Value.slice x6.1.1 x6.1.2.1 x6.1.2.2), AV.v (Value.slice none 0 0)]) ([]))))
           else (
            .call 51 ([AV.v (Value.pointer a0), AV.v (.int .i64 x4.1)]) ([]) (Sh.one) ([Lf.sl]) ([]) (fun x6 =>
             .done (AV.agg [AV.v (.int .i64 8), AV.v (.int .i64 x0.1), AV.v (.int .i64 x1.1), AV.v (.int .i64 0), AV.v (.int .i64 0), AV.v (Value.bool true), AV.v (Value.slice x6.1.1 x6.1.2.1 x6.1.2.2), AV.v (Value.slice none 0 0)]) ([]))))))
        else (
         .call 33 ([AV.v (Value.pointer a0)]) ([]) (Sh.one) ([Lf.b]) ([]) (fun x4 =>
          bif x4.1 then (
           bif decide (IntKind.i64.wrap (4611686018427387903 - x1.1) < IntKind.i64.wrap (((x2.1.2.1 : Nat) : Int) - x3.1)) then (
            .call 31 ([AV.v (Value.pointer a0), AV.v (.int .i64 7), AV.v (.int .i64 a2)]) ([]) (Sh.tup []) ([]) ([]) (fun x5 =>
             .call 51 ([AV.v (Value.pointer a0), AV.v (.int .i64 (IntKind.i64.wrap (((x2.1.2.1 : Nat) : Int) - x3.1)))]) ([]) (Sh.one) ([Lf.sl]) ([]) (fun x6 =>
              .done (AV.agg [AV.v (.int .i64 8), AV.v (.int .i64 x0.1), AV.v (.int .i64 x1.1), AV.v (.int .i64 0), AV.v (.int .i64 0), AV.v (Value.bool true), AV.v (Value.slice x6.1.1 x6.1.2.1 x6.1.2.2), AV.v (Value.slice none 0 0)]) ([]))))
           else (
            .call 51 ([AV.v (Value.pointer a0), AV.v (.int .i64 (IntKind.i64.wrap (((x2.1.2.1 : Nat) : Int) - x3.1)))]) ([]) (Sh.one) ([Lf.sl]) ([]) (fun x5 =>
             .done (AV.agg [AV.v (.int .i64 8), AV.v (.int .i64 x0.1), AV.v (.int .i64 x1.1), AV.v (.int .i64 0), AV.v (.int .i64 0), AV.v (Value.bool true), AV.v (Value.slice x5.1.1 x5.1.2.1 x5.1.2.2), AV.v (Value.slice none 0 0)]) ([]))))
          else (
           .call 51 ([AV.v (Value.pointer a0), AV.v (.int .i64 (IntKind.i64.wrap (((x2.1.2.1 : Nat) : Int) - x3.1)))]) ([]) (Sh.one) ([Lf.sl]) ([]) (fun x5 =>
            .done (AV.agg [AV.v (.int .i64 8), AV.v (.int .i64 x0.1), AV.v (.int .i64 x1.1), AV.v (.int .i64 0), AV.v (.int .i64 0), AV.v (Value.bool true), AV.v (Value.slice x5.1.1 x5.1.2.1 x5.1.2.2), AV.v (Value.slice none 0 0)]) ([])))))))))))))
    else (
     .need (Option.isSome a0) (
     .need (Option.isSome a0) (
     .ld (Option.map (fun x => Addr.add x 0) a0) ([Lf.sl]) (fun x1 =>
      .need (Option.isSome a0) (
      .need (Option.isSome a0) (
      .ld (Option.map (fun x => Addr.add x 1) a0) ([Lf.i .i64]) (fun x2 =>
       bif IntKind.i64.wrap (((BitVec.toNat (BitVec.ofInt 64 a1 &&& BitVec.ofInt 64 2)) : Nat) : Int) != 0 then (
        .call 49 ([AV.v (Value.pointer a0)]) ([]) (Sh.one) ([Lf.i .i64]) ([]) (fun x3 =>
         .call 33 ([AV.v (Value.pointer a0)]) ([]) (Sh.one) ([Lf.b]) ([]) (fun x4 =>
          bif x4.1 then (
           bif decide (IntKind.i64.wrap (4611686018427387903 - 0) < x3.1) then (
            .call 31 ([AV.v (Value.pointer a0), AV.v (.int .i64 7), AV.v (.int .i64 a2)]) ([]) (Sh.tup []) ([]) ([]) (fun x5 =>
             .call 51 ([AV.v (Value.pointer a0), AV.v (.int .i64 x3.1)]) ([]) (Sh.one) ([Lf.sl]) ([]) (fun x6 =>
              .done (AV.agg [AV.v (.int .i64 8), AV.v (.int .i64 x0.1), AV.v (.int .i64 0), AV.v (.int .i64 0), AV.v (.int .i64 0), AV.v (Value.bool true), AV.v (Value.slice x6.1.1 x6.1.2.1 x6.1.2.2), AV.v (Value.slice none 0 0)]) ([]))))
           else (
            .call 51 ([AV.v (Value.pointer a0), AV.v (.int .i64 x3.1)]) ([]) (Sh.one) ([Lf.sl]) ([]) (fun x5 =>
             .done (AV.agg [AV.v (.int .i64 8), AV.v (.int .i64 x0.1), AV.v (.int .i64 0), AV.v (.int .i64 0), AV.v (.int .i64 0), AV.v (Value.bool true), AV.v (Value.slice x5.1.1 x5.1.2.1 x5.1.2.2), AV.v (Value.slice none 0 0)]) ([]))))
          else (
           .call 51 ([AV.v (Value.pointer a0), AV.v (.int .i64 x3.1)]) ([]) (Sh.one) ([Lf.sl]) ([]) (fun x5 =>
            .done (AV.agg [AV.v (.int .i64 8), AV.v (.int .i64 x0.1), AV.v (.int .i64 0), AV.v (.int .i64 0), AV.v (.int .i64 0), AV.v (Value.bool true), AV.v (Value.slice x5.1.1 x5.1.2.1 x5.1.2.2), AV.v (Value.slice none 0 0)]) ([]))))))
       else (
        .call 33 ([AV.v (Value.pointer a0)]) ([]) (Sh.one) ([Lf.b]) ([]) (fun x3 =>
         bif x3.1 then (
          bif decide (IntKind.i64.wrap (4611686018427387903 - 0) < IntKind.i64.wrap (((x1.1.2.1 : Nat) : Int) - x2.1)) then (
           .call 31 ([AV.v (Value.pointer a0), AV.v (.int .i64 7), AV.v (.int .i64 a2)]) ([]) (Sh.tup []) ([]) ([]) (fun x4 =>
            .call 51 ([AV.v (Value.pointer a0), AV.v (.int .i64 (IntKind.i64.wrap (((x1.1.2.1 : Nat) : Int) - x2.1)))]) ([]) (Sh.one) ([Lf.sl]) ([]) (fun x5 =>
             .done (AV.agg [AV.v (.int .i64 8), AV.v (.int .i64 x0.1), AV.v (.int .i64 0), AV.v (.int .i64 0), AV.v (.int .i64 0), AV.v (Value.bool true), AV.v (Value.slice x5.1.1 x5.1.2.1 x5.1.2.2), AV.v (Value.slice none 0 0)]) ([]))))
          else (
           .call 51 ([AV.v (Value.pointer a0), AV.v (.int .i64 (IntKind.i64.wrap (((x1.1.2.1 : Nat) : Int) - x2.1)))]) ([]) (Sh.one) ([Lf.sl]) ([]) (fun x4 =>
            .done (AV.agg [AV.v (.int .i64 8), AV.v (.int .i64 x0.1), AV.v (.int .i64 0), AV.v (.int .i64 0), AV.v (.int .i64 0), AV.v (Value.bool true), AV.v (Value.slice x4.1.1 x4.1.2.1 x4.1.2.2), AV.v (Value.slice none 0 0)]) ([]))))
         else (
          .call 51 ([AV.v (Value.pointer a0), AV.v (.int .i64 (IntKind.i64.wrap (((x1.1.2.1 : Nat) : Int) - x2.1)))]) ([]) (Sh.one) ([Lf.sl]) ([]) (fun x4 =>
           .done (AV.agg [AV.v (.int .i64 8), AV.v (.int .i64 x0.1), AV.v (.int .i64 0), AV.v (.int .i64 0), AV.v (.int .i64 0), AV.v (Value.bool true), AV.v (Value.slice x4.1.1 x4.1.2.1 x4.1.2.2), AV.v (Value.slice none 0 0)]) ([])))))))))))))
   else (
    bif IntKind.i64.wrap (((BitVec.toNat (BitVec.ofInt 64 a1 &&& BitVec.ofInt 64 4)) : Nat) : Int) != 0 then (
     .call 49 ([AV.v (Value.pointer a0)]) ([]) (Sh.one) ([Lf.i .i64]) ([]) (fun x1 =>
      .need (Option.isSome a0) (
      .need (Option.isSome a0) (
      .ld (Option.map (fun x => Addr.add x 0) a0) ([Lf.sl]) (fun x2 =>
       .need (Option.isSome a0) (
       .need (Option.isSome a0) (
       .ld (Option.map (fun x => Addr.add x 1) a0) ([Lf.i .i64]) (fun x3 =>
        bif IntKind.i64.wrap (((BitVec.toNat (BitVec.ofInt 64 a1 &&& BitVec.ofInt 64 2)) : Nat) : Int) != 0 then (
         .call 49 ([AV.v (Value.pointer a0)]) ([]) (Sh.one) ([Lf.i .i64]) ([]) (fun x4 =>
          .call 33 ([AV.v (Value.pointer a0)]) ([]) (Sh.one) ([Lf.b]) ([]) (fun x5 =>
           bif x5.1 then (
            bif decide (IntKind.i64.wrap (4611686018427387903 - x1.1) < x4.1) then (
             .call 31 ([AV.v (Value.pointer a0), AV.v (.int .i64 7), AV.v (.int .i64 a2)]) ([]) (Sh.tup []) ([]) ([]) (fun x6 =>
              .call 51 ([AV.v (Value.pointer a0), AV.v (.int .i64 x4.1)]) ([]) (Sh.one) ([Lf.sl]) ([]) (fun x7 =>
               .done (AV.agg [AV.v (.int .i64 8), AV.v (.int .i64 x0.1), AV.v (.int .i64 x1.1), AV.v (.int .i64 0), AV.v (.int .i64 0), AV.v (Value.bool false), AV.v (Value.slice x7.1.1 x7.1.2.1 x7.1.2.2), AV.v (Value.slice none 0 0)]) ([]))))
            else (
             .call 51 ([AV.v (Value.pointer a0), AV.v (.int .i64 x4.1)]) ([]) (Sh.one) ([Lf.sl]) ([]) (fun x6 =>
              .done (AV.agg [AV.v (.int .i64 8), AV.v (.int .i64 x0.1), AV.v (.int .i64 x1.1), AV.v (.int .i64 0), AV.v (.int .i64 0), AV.v (Value.bool false), AV.v (Value.slice x6.1.1 x6.1.2.1 x6.1.2.2), AV.v (Value.slice none 0 0)]) ([]))))
           else (
            .call 51 ([AV.v (Value.pointer a0), AV.v (.int .i64 x4.1)]) ([]) (Sh.one) ([Lf.sl]) ([]) (fun x6 =>
             .done (AV.agg [AV.v (.int .i64 8), AV.v (.int .i64 x0.1), AV.v (.int .i64 x1.1), AV.v (.int .i64 0), AV.v (.int .i64 0), AV.v (Value.bool false), AV.v (Value.slice x6.1.1 x6.1.2.1 x6.1.2.2), AV.v (Value.slice none 0 0)]) ([]))))))
        else (
         .call 33 ([AV.v (Value.pointer a0)]) ([]) (Sh.one) ([Lf.b]) ([]) (fun x4 =>
          bif x4.1 then (
           bif decide (IntKind.i64.wrap (4611686018427387903 - x1.1) < IntKind.i64.wrap (((x2.1.2.1 : Nat) : Int) - x3.1)) then (
            .call 31 ([AV.v (Value.pointer a0), AV.v (.int .i64 7), AV.v (.int .i64 a2)]) ([]) (Sh.tup []) ([]) ([]) (fun x5 =>
             .call 51 ([AV.v (Value.pointer a0), AV.v (.int .i64 (IntKind.i64.wrap (((x2.1.2.1 : Nat) : Int) - x3.1)))]) ([]) (Sh.one) ([Lf.sl]) ([]) (fun x6 =>
              .done (AV.agg [AV.v (.int .i64 8), AV.v (.int .i64 x0.1), AV.v (.int .i64 x1.1), AV.v (.int .i64 0), AV.v (.int .i64 0), AV.v (Value.bool false), AV.v (Value.slice x6.1.1 x6.1.2.1 x6.1.2.2), AV.v (Value.slice none 0 0)]) ([]))))
           else (
            .call 51 ([AV.v (Value.pointer a0), AV.v (.int .i64 (IntKind.i64.wrap (((x2.1.2.1 : Nat) : Int) - x3.1)))]) ([]) (Sh.one) ([Lf.sl]) ([]) (fun x5 =>
             .done (AV.agg [AV.v (.int .i64 8), AV.v (.int .i64 x0.1), AV.v (.int .i64 x1.1), AV.v (.int .i64 0), AV.v (.int .i64 0), AV.v (Value.bool false), AV.v (Value.slice x5.1.1 x5.1.2.1 x5.1.2.2), AV.v (Value.slice none 0 0)]) ([]))))
          else (
           .call 51 ([AV.v (Value.pointer a0), AV.v (.int .i64 (IntKind.i64.wrap (((x2.1.2.1 : Nat) : Int) - x3.1)))]) ([]) (Sh.one) ([Lf.sl]) ([]) (fun x5 =>
            .done (AV.agg [AV.v (.int .i64 8), AV.v (.int .i64 x0.1), AV.v (.int .i64 x1.1), AV.v (.int .i64 0), AV.v (.int .i64 0), AV.v (Value.bool false), AV.v (Value.slice x5.1.1 x5.1.2.1 x5.1.2.2), AV.v (Value.slice none 0 0)]) ([])))))))))))))
    else (
     .need (Option.isSome a0) (
     .need (Option.isSome a0) (
     .ld (Option.map (fun x => Addr.add x 0) a0) ([Lf.sl]) (fun x1 =>
      .need (Option.isSome a0) (
      .need (Option.isSome a0) (
      .ld (Option.map (fun x => Addr.add x 1) a0) ([Lf.i .i64]) (fun x2 =>
       bif IntKind.i64.wrap (((BitVec.toNat (BitVec.ofInt 64 a1 &&& BitVec.ofInt 64 2)) : Nat) : Int) != 0 then (
        .call 49 ([AV.v (Value.pointer a0)]) ([]) (Sh.one) ([Lf.i .i64]) ([]) (fun x3 =>
         .call 33 ([AV.v (Value.pointer a0)]) ([]) (Sh.one) ([Lf.b]) ([]) (fun x4 =>
          bif x4.1 then (
           bif decide (IntKind.i64.wrap (4611686018427387903 - 0) < x3.1) then (
            .call 31 ([AV.v (Value.pointer a0), AV.v (.int .i64 7), AV.v (.int .i64 a2)]) ([]) (Sh.tup []) ([]) ([]) (fun x5 =>
             .call 51 ([AV.v (Value.pointer a0), AV.v (.int .i64 x3.1)]) ([]) (Sh.one) ([Lf.sl]) ([]) (fun x6 =>
              .done (AV.agg [AV.v (.int .i64 8), AV.v (.int .i64 x0.1), AV.v (.int .i64 0), AV.v (.int .i64 0), AV.v (.int .i64 0), AV.v (Value.bool false), AV.v (Value.slice x6.1.1 x6.1.2.1 x6.1.2.2), AV.v (Value.slice none 0 0)]) ([]))))
           else (
            .call 51 ([AV.v (Value.pointer a0), AV.v (.int .i64 x3.1)]) ([]) (Sh.one) ([Lf.sl]) ([]) (fun x5 =>
             .done (AV.agg [AV.v (.int .i64 8), AV.v (.int .i64 x0.1), AV.v (.int .i64 0), AV.v (.int .i64 0), AV.v (.int .i64 0), AV.v (Value.bool false), AV.v (Value.slice x5.1.1 x5.1.2.1 x5.1.2.2), AV.v (Value.slice none 0 0)]) ([]))))
          else (
           .call 51 ([AV.v (Value.pointer a0), AV.v (.int .i64 x3.1)]) ([]) (Sh.one) ([Lf.sl]) ([]) (fun x5 =>
            .done (AV.agg [AV.v (.int .i64 8), AV.v (.int .i64 x0.1), AV.v (.int .i64 0), AV.v (.int .i64 0), AV.v (.int .i64 0), AV.v (Value.bool false), AV.v (Value.slice x5.1.1 x5.1.2.1 x5.1.2.2), AV.v (Value.slice none 0 0)]) ([]))))))
       else (
        .call 33 ([AV.v (Value.pointer a0)]) ([]) (Sh.one) ([Lf.b]) ([]) (fun x3 =>
         bif x3.1 then (
          bif decide (IntKind.i64.wrap (4611686018427387903 - 0) < IntKind.i64.wrap (((x1.1.2.1 : Nat) : Int) - x2.1)) then (
           .call 31 ([AV.v (Value.pointer a0), AV.v (.int .i64 7), AV.v (.int .i64 a2)]) ([]) (Sh.tup []) ([]) ([]) (fun x4 =>
            .call 51 ([AV.v (Value.pointer a0), AV.v (.int .i64 (IntKind.i64.wrap (((x1.1.2.1 : Nat) : Int) - x2.1)))]) ([]) (Sh.one) ([Lf.sl]) ([]) (fun x5 =>
             .done (AV.agg [AV.v (.int .i64 8), AV.v (.int .i64 x0.1), AV.v (.int .i64 0), AV.v (.int .i64 0), AV.v (.int .i64 0), AV.v (Value.bool false), AV.v (Value.slice x5.1.1 x5.1.2.1 x5.1.2.2), AV.v (Value.slice none 0 0)]) ([]))))
          else (
           .call 51 ([AV.v (Value.pointer a0), AV.v (.int .i64 (IntKind.i64.wrap (((x1.1.2.1 : Nat) : Int) - x2.1)))]) ([]) (Sh.one) ([Lf.sl]) ([]) (fun x4 =>
            .done (AV.agg [AV.v (.int .i64 8), AV.v (.int .i64 x0.1), AV.v (.int .i64 0), AV.v (.int .i64 0), AV.v (.int .i64 0), AV.v (Value.bool false), AV.v (Value.slice x4.1.1 x4.1.2.1 x4.1.2.2), AV.v (Value.slice none 0 0)]) ([]))))
         else (
          .call 51 ([AV.v (Value.pointer a0), AV.v (.int .i64 (IntKind.i64.wrap (((x1.1.2.1 : Nat) : Int) - x2.1)))]) ([]) (Sh.one) ([Lf.sl]) ([]) (fun x4 =>
           .done (AV.agg [AV.v (.int .i64 8), AV.v (.int .i64 x0.1), AV.v (.int .i64 0), AV.v (.int .i64 0), AV.v (.int .i64 0), AV.v (Value.bool false), AV.v (Value.slice x4.1.1 x4.1.2.1 x4.1.2.2), AV.v (Value.slice none 0 0)]) ([])))))))))))))) := by kernel_rfl
set_option maxHeartbeats 4000000 in
theorem r4_stream.c (k : Nat) (a0 : Option Addr) (q0 : (List Int) × Int × Int × Int) (A0_0 : Option Addr) (c0_0 : Nat) (a1 : Int) (a2 : Int) (r : Int × Int × Int × Int × Int × Bool × (List Int) × (List (Int × Int)) × ((List Int) × Int × Int × Int)) (h : r4_stream.F k q0 a1 a2 = some r)  (w : World) (hW0 : OwnO 0 (fun _ => False) w 61 RW61 a0 1 [((A0_0, q0.1.length, c0_0), q0.2.1, q0.2.2.1, q0.2.2.2)]) (hS0_0 : SlR R23.row (r4_stream.S a0) w A0_0 c0_0 q0.1) : Calls Try.prog 50 (AV.gs id [AV.v (Value.pointer a0), AV.v (.int .i64 a1), AV.v (.int .i64 a2)]).toArray w fun e w' => ∃ (B6 : Option Addr) (d6 : Nat) (B7 : Option Addr) (d7 : Nat), e = .returned (((Sh.agg 8 : Sh).av (vs [Lf.i .i64, Lf.i .i64, Lf.i .i64, Lf.i .i64, Lf.i .i64, Lf.b, Lf.sl, Lf.sl] (r.1, r.2.1, r.2.2.1, r.2.2.2.1, r.2.2.2.2.1, r.2.2.2.2.2.1, (B6, (r.2.2.2.2.2.2.1).length, d6), (B7, (r.2.2.2.2.2.2.2.1).length, d7), ()))).g id) ∧ Fine (r4_stream.S a0) w (r4_stream.S a0) w' ∧ OwnO 0 (fun _ => False) w' 61 RW61 a0 1 [((A0_0, r.2.2.2.2.2.2.2.2.1.length, c0_0), r.2.2.2.2.2.2.2.2.2.1, r.2.2.2.2.2.2.2.2.2.2.1, r.2.2.2.2.2.2.2.2.2.2.2)] ∧ OwnF w.heap.size (fun b => b < w.heap.size) w' 5 R23 B6 d6 r.2.2.2.2.2.2.1 ∧ OwnF w.heap.size (fun b => b < w.heap.size) w' 42 R34 B7 d7 r.2.2.2.2.2.2.2.1 ∧ Dj B7 B6 ∧ r.2.2.2.2.2.2.2.2.1 = q0.1 := by
 refine enter0 mixed r4_stream.A noC [AV.v (Value.pointer a0), AV.v (.int .i64 a1), AV.v (.int .i64 a2)] Try.func50 rfl rfl rfl (fun hF => ?_)
 have hA_a0 : Option.isSome a0 = true := hW0.sl.some (by simp)
 have hN_a0 : Option.isNone a0 = false := by cases a0 <;> simp_all
 have hF : Fine (r4_stream.S a0) w (fun _ => False) w := ⟨rfl, rfl, rfl, Nat.le_refl _, fun _ _ _ => rfl, fun b h => h.elim⟩
 have hm0 : ∀ b, blk (a0, 0, 0) b → (r4_stream.S a0) b ∨ w.heap.size ≤ b := fun b hb => Or.inl hb
 rw [r4_stream.t]
 unfold r4_stream.F at h
 try dsimp only at h
 obtain ⟨r0, hr0, h⟩ := bse h
 obtain ⟨v0_0, qc0⟩ := r0
 try dsimp only at h
 have hBv0 : ∀ b, (r4_number.S a0) b → ¬ _ ∧ b < _ := fun b hb => by exact ⟨(hW0.lt b hb).2.1, hW0.lt1 b hb⟩
 have hBm0 : ∀ b, (r4_number.S a0) b → (r4_stream.S a0) b ∨ w.heap.size ≤ b := fun b hb => by exact hm0 b hb
 refine ok_callo (r4_number.S a0) rfl hBv0 (fun L0 w0 g0 lt0 => ?_)
 refine (r4_number.c k _ q0 _ _ (v0_0, qc0) hr0  w0 (hW0.later g0).bare' (hS0_0.later ((hF.trans g0).with hBm0))).mono ?_
 rintro e w0' ⟨rfl, hf0, hWc0, hq0_0⟩
 refine ⟨(v0_0, ()), rfl, hf0, fun g0' hid0 hv0 => ?_⟩
 try dsimp only
 have hSc0_0 : SlR R23.row (r4_stream.S a0) w A0_0 c0_0 qc0.1 := by rw [hq0_0]; exact hS0_0
 have hmc0 := hm0
 have hWc0 := hWc0.vis (fun b hb => hv0 b (Or.inl hb))
 have hF := Fine.own hF g0' hBm0 hid0
 refine ok_if (fun hc5 => ?_) (fun hc5 => ?_)
 ·have h := bif_t h hc5
  refine ok_if (fun hc6 => ?_) (fun hc6 => ?_)
  ·have h := bif_t h hc6
   obtain ⟨r1, hr1, h⟩ := bse h
   obtain ⟨v1_0, qc1⟩ := r1
   try dsimp only at h
   have hBv1 : ∀ b, (r4_number.S a0) b → ¬ _ ∧ b < _ := fun b hb => by exact ⟨(hWc0.lt b hb).2.1, hWc0.lt1 b hb⟩
   have hBm1 : ∀ b, (r4_number.S a0) b → (r4_stream.S a0) b ∨ w.heap.size ≤ b := fun b hb => by exact hmc0 b hb
   refine ok_callo (r4_number.S a0) rfl hBv1 (fun L1 w1 g1 lt1 => ?_)
   refine (r4_number.c k _ qc0 _ _ (v1_0, qc1) hr1  w1 (hWc0.later g1).bare' (hSc0_0.later ((hF.trans g1).with hBm1))).mono ?_
   rintro e w1' ⟨rfl, hf1, hWc1, hq1_0⟩
   refine ⟨(v1_0, ()), rfl, hf1, fun g1' hid1 hv1 => ?_⟩
   try dsimp only
   have hSc1_0 : SlR R23.row (r4_stream.S a0) w A0_0 c0_0 qc1.1 := by rw [hq1_0]; exact hSc0_0
   have hmc1 := hmc0
   have hWc1 := hWc1.vis (fun b hb => hv1 b (Or.inl hb))
   have hF := Fine.own hF g1' hBm1 hid1
   refine ok_need hA_a0 ?_
   refine ok_need hA_a0 ?_
   refine ok_ob 0 hWc1.sl (Fine.refl _ _) (fun cs hcs => ⟨(A0_0, qc1.1.length, c0_0), by rw [hcs]; rfl, ?_⟩)
   try dsimp only
   refine ok_need hA_a0 ?_
   refine ok_need hA_a0 ?_
   refine ok_ob 1 hWc1.sl (Fine.refl _ _) (fun cs hcs => ⟨qc1.2.1, by rw [hcs]; rfl, ?_⟩)
   try dsimp only
   refine ok_if (fun hc9 => ?_) (fun hc9 => ?_)
   ·have h := bif_t h hc9
    obtain ⟨r4, hr4, h⟩ := bse h
    obtain ⟨v4_0, qc4⟩ := r4
    try dsimp only at h
    have hBv4 : ∀ b, (r4_number.S a0) b → ¬ _ ∧ b < _ := fun b hb => by exact ⟨(hWc1.lt b hb).2.1, hWc1.lt1 b hb⟩
    have hBm4 : ∀ b, (r4_number.S a0) b → (r4_stream.S a0) b ∨ w.heap.size ≤ b := fun b hb => by exact hmc1 b hb
    refine ok_callo (r4_number.S a0) rfl hBv4 (fun L4 w4 g4 lt4 => ?_)
    refine (r4_number.c k _ qc1 _ _ (v4_0, qc4) hr4  w4 (hWc1.later g4).bare' (hSc1_0.later ((hF.trans g4).with hBm4))).mono ?_
    rintro e w4' ⟨rfl, hf4, hWc4, hq4_0⟩
    refine ⟨(v4_0, ()), rfl, hf4, fun g4' hid4 hv4 => ?_⟩
    try dsimp only
    have hSc4_0 : SlR R23.row (r4_stream.S a0) w A0_0 c0_0 qc4.1 := by rw [hq4_0]; exact hSc1_0
    have hmc4 := hmc1
    have hWc4 := hWc4.vis (fun b hb => hv4 b (Or.inl hb))
    have hF := Fine.own hF g4' hBm4 hid4
    obtain ⟨r5, hr5, h⟩ := bse h
    obtain ⟨v5_0, qc5⟩ := r5
    try dsimp only at h
    have hBv5 : ∀ b, (r4_ok.S a0) b → ¬ _ ∧ b < _ := fun b hb => by exact ⟨(hWc4.lt b hb).2.1, hWc4.lt1 b hb⟩
    have hBm5 : ∀ b, (r4_ok.S a0) b → (r4_stream.S a0) b ∨ w.heap.size ≤ b := fun b hb => by exact hmc4 b hb
    refine ok_callo (r4_ok.S a0) rfl hBv5 (fun L5 w5 g5 lt5 => ?_)
    refine (r4_ok.c k _ qc4 _ _ (v5_0, qc5) hr5  w5 (hWc4.later g5).bare' (hSc4_0.later ((hF.trans g5).with hBm5))).mono ?_
    rintro e w5' ⟨rfl, hf5, hWc5, hq5_0⟩
    refine ⟨(v5_0, ()), rfl, hf5, fun g5' hid5 hv5 => ?_⟩
    try dsimp only
    have hSc5_0 : SlR R23.row (r4_stream.S a0) w A0_0 c0_0 qc5.1 := by rw [hq5_0]; exact hSc4_0
    have hmc5 := hmc4
    have hWc5 := hWc5.vis (fun b hb => hv5 b (Or.inl hb))
    have hF := Fine.own hF g5' hBm5 hid5
    refine ok_if (fun hc14 => ?_) (fun hc14 => ?_)
    ·have h := bif_t h hc14
     refine ok_if (fun hc15 => ?_) (fun hc15 => ?_)
     ·have h := bif_t h hc15
      obtain ⟨qc6, hr6, h⟩ := bse h
      have hBv6 : ∀ b, (r4_fails.S a0) b → ¬ _ ∧ b < _ := fun b hb => by exact ⟨(hWc5.lt b hb).2.1, hWc5.lt1 b hb⟩
      have hBm6 : ∀ b, (r4_fails.S a0) b → (r4_stream.S a0) b ∨ w.heap.size ≤ b := fun b hb => by exact hmc5 b hb
      refine ok_callo (r4_fails.S a0) rfl hBv6 (fun L6 w6 g6 lt6 => ?_)
      refine (r4_fails.c k _ qc5 _ _ 7 a2 qc6 hr6  w6 (hWc5.later g6).bare' (hSc5_0.later ((hF.trans g6).with hBm6))).mono ?_
      rintro e w6' ⟨rfl, hf6, hWc6, hq6_0⟩
      refine ⟨(()), rfl, hf6, fun g6' hid6 hv6 => ?_⟩
      try dsimp only
      have hSc6_0 : SlR R23.row (r4_stream.S a0) w A0_0 c0_0 qc6.1 := by rw [hq6_0]; exact hSc5_0
      have hmc6 := hmc5
      have hWc6 := hWc6.vis (fun b hb => hv6 b (Or.inl hb))
      have hF := Fine.own hF g6' hBm6 hid6
      obtain ⟨r7, hr7, h⟩ := bse h
      obtain ⟨s7_0, qc7⟩ := r7
      try dsimp only at h
      have hBv7 : ∀ b, (r4_take.S a0) b → ¬ _ ∧ b < _ := fun b hb => by exact ⟨(hWc6.lt b hb).2.1, hWc6.lt1 b hb⟩
      have hBm7 : ∀ b, (r4_take.S a0) b → (r4_stream.S a0) b ∨ w.heap.size ≤ b := fun b hb => by exact hmc6 b hb
      refine ok_callo (r4_take.S a0) rfl hBv7 (fun L7 w7 g7 lt7 => ?_)
      refine (r4_take.c k _ qc6 _ _ v4_0 (s7_0, qc7) hr7  w7 (hWc6.later g7).bare' (hSc6_0.later ((hF.trans g7).with hBm7))).mono ?_
      rintro e w7' ⟨A7_0, c7_0, rfl, hf7, hWc7, hO7_0, hq7_0⟩
      refine ⟨((A7_0, s7_0.length, c7_0), ()), rfl, hf7, fun g7' hid7 hv7 => ?_⟩
      try dsimp only
      have hSc7_0 : SlR R23.row (r4_stream.S a0) w A0_0 c0_0 qc7.1 := by rw [hq7_0]; exact hSc6_0
      have dk7_o18 : Dj A7_0 a0 := Dj.new hO7_0.fresh (fun b hb => Nat.lt_of_lt_of_le (hBv7 b hb).2 g7.size)
      have hmc7 := hmc6
      have hWc7 := hWc7.vis (fun b hb => hv7 b (Or.inl hb))
      have hO7_0 := hO7_0.call (hF.trans g7).size lt7
      have hF := Fine.own hF g7' hBm7 hid7
      obtain rfl := Option.some.inj h
      have homes := fun (b : Nat) (h : b < w.heap.size) => h
      intro ρ L w' _ he _ _
      exact ⟨A7_0, c7_0, none, 0, rfl, (hF.ext he).with (fun b h => Or.inl h), (hWc7.later he.fine).bare', (hO7_0.later he.fine).ret, OwnF.ret (OwnF.nil _ (fun _ => False) _ _ _), Dj.nil2, (hq7_0.trans (hq6_0.trans (hq5_0.trans (hq4_0.trans (hq1_0.trans (hq0_0.trans rfl))))))⟩
     ·have h := bif_f h hc15
      obtain ⟨r6, hr6, h⟩ := bse h
      obtain ⟨s6_0, qc6⟩ := r6
      try dsimp only at h
      have hBv6 : ∀ b, (r4_take.S a0) b → ¬ _ ∧ b < _ := fun b hb => by exact ⟨(hWc5.lt b hb).2.1, hWc5.lt1 b hb⟩
      have hBm6 : ∀ b, (r4_take.S a0) b → (r4_stream.S a0) b ∨ w.heap.size ≤ b := fun b hb => by exact hmc5 b hb
      refine ok_callo (r4_take.S a0) rfl hBv6 (fun L6 w6 g6 lt6 => ?_)
      refine (r4_take.c k _ qc5 _ _ v4_0 (s6_0, qc6) hr6  w6 (hWc5.later g6).bare' (hSc5_0.later ((hF.trans g6).with hBm6))).mono ?_
      rintro e w6' ⟨A6_0, c6_0, rfl, hf6, hWc6, hO6_0, hq6_0⟩
      refine ⟨((A6_0, s6_0.length, c6_0), ()), rfl, hf6, fun g6' hid6 hv6 => ?_⟩
      try dsimp only
      have hSc6_0 : SlR R23.row (r4_stream.S a0) w A0_0 c0_0 qc6.1 := by rw [hq6_0]; exact hSc5_0
      have dk6_o21 : Dj A6_0 a0 := Dj.new hO6_0.fresh (fun b hb => Nat.lt_of_lt_of_le (hBv6 b hb).2 g6.size)
      have hmc6 := hmc5
      have hWc6 := hWc6.vis (fun b hb => hv6 b (Or.inl hb))
      have hO6_0 := hO6_0.call (hF.trans g6).size lt6
      have hF := Fine.own hF g6' hBm6 hid6
      obtain rfl := Option.some.inj h
      have homes := fun (b : Nat) (h : b < w.heap.size) => h
      intro ρ L w' _ he _ _
      exact ⟨A6_0, c6_0, none, 0, rfl, (hF.ext he).with (fun b h => Or.inl h), (hWc6.later he.fine).bare', (hO6_0.later he.fine).ret, OwnF.ret (OwnF.nil _ (fun _ => False) _ _ _), Dj.nil2, (hq6_0.trans (hq5_0.trans (hq4_0.trans (hq1_0.trans (hq0_0.trans rfl)))))⟩
    ·have h := bif_f h hc14
     obtain ⟨r6, hr6, h⟩ := bse h
     obtain ⟨s6_0, qc6⟩ := r6
     try dsimp only at h
     have hBv6 : ∀ b, (r4_take.S a0) b → ¬ _ ∧ b < _ := fun b hb => by exact ⟨(hWc5.lt b hb).2.1, hWc5.lt1 b hb⟩
     have hBm6 : ∀ b, (r4_take.S a0) b → (r4_stream.S a0) b ∨ w.heap.size ≤ b := fun b hb => by exact hmc5 b hb
     refine ok_callo (r4_take.S a0) rfl hBv6 (fun L6 w6 g6 lt6 => ?_)
     refine (r4_take.c k _ qc5 _ _ v4_0 (s6_0, qc6) hr6  w6 (hWc5.later g6).bare' (hSc5_0.later ((hF.trans g6).with hBm6))).mono ?_
     rintro e w6' ⟨A6_0, c6_0, rfl, hf6, hWc6, hO6_0, hq6_0⟩
     refine ⟨((A6_0, s6_0.length, c6_0), ()), rfl, hf6, fun g6' hid6 hv6 => ?_⟩
     try dsimp only
     have hSc6_0 : SlR R23.row (r4_stream.S a0) w A0_0 c0_0 qc6.1 := by rw [hq6_0]; exact hSc5_0
     have dk6_o24 : Dj A6_0 a0 := Dj.new hO6_0.fresh (fun b hb => Nat.lt_of_lt_of_le (hBv6 b hb).2 g6.size)
     have hmc6 := hmc5
     have hWc6 := hWc6.vis (fun b hb => hv6 b (Or.inl hb))
     have hO6_0 := hO6_0.call (hF.trans g6).size lt6
     have hF := Fine.own hF g6' hBm6 hid6
     obtain rfl := Option.some.inj h
     have homes := fun (b : Nat) (h : b < w.heap.size) => h
     intro ρ L w' _ he _ _
     exact ⟨A6_0, c6_0, none, 0, rfl, (hF.ext he).with (fun b h => Or.inl h), (hWc6.later he.fine).bare', (hO6_0.later he.fine).ret, OwnF.ret (OwnF.nil _ (fun _ => False) _ _ _), Dj.nil2, (hq6_0.trans (hq5_0.trans (hq4_0.trans (hq1_0.trans (hq0_0.trans rfl)))))⟩
   ·have h := bif_f h hc9
    obtain ⟨r4, hr4, h⟩ := bse h
    obtain ⟨v4_0, qc4⟩ := r4
    try dsimp only at h
    have hBv4 : ∀ b, (r4_ok.S a0) b → ¬ _ ∧ b < _ := fun b hb => by exact ⟨(hWc1.lt b hb).2.1, hWc1.lt1 b hb⟩
    have hBm4 : ∀ b, (r4_ok.S a0) b → (r4_stream.S a0) b ∨ w.heap.size ≤ b := fun b hb => by exact hmc1 b hb
    refine ok_callo (r4_ok.S a0) rfl hBv4 (fun L4 w4 g4 lt4 => ?_)
    refine (r4_ok.c k _ qc1 _ _ (v4_0, qc4) hr4  w4 (hWc1.later g4).bare' (hSc1_0.later ((hF.trans g4).with hBm4))).mono ?_
    rintro e w4' ⟨rfl, hf4, hWc4, hq4_0⟩
    refine ⟨(v4_0, ()), rfl, hf4, fun g4' hid4 hv4 => ?_⟩
    try dsimp only
    have hSc4_0 : SlR R23.row (r4_stream.S a0) w A0_0 c0_0 qc4.1 := by rw [hq4_0]; exact hSc1_0
    have hmc4 := hmc1
    have hWc4 := hWc4.vis (fun b hb => hv4 b (Or.inl hb))
    have hF := Fine.own hF g4' hBm4 hid4
    refine ok_if (fun hc29 => ?_) (fun hc29 => ?_)
    ·have h := bif_t h hc29
     refine ok_if (fun hc30 => ?_) (fun hc30 => ?_)
     ·have h := bif_t h hc30
      obtain ⟨qc5, hr5, h⟩ := bse h
      have hBv5 : ∀ b, (r4_fails.S a0) b → ¬ _ ∧ b < _ := fun b hb => by exact ⟨(hWc4.lt b hb).2.1, hWc4.lt1 b hb⟩
      have hBm5 : ∀ b, (r4_fails.S a0) b → (r4_stream.S a0) b ∨ w.heap.size ≤ b := fun b hb => by exact hmc4 b hb
      refine ok_callo (r4_fails.S a0) rfl hBv5 (fun L5 w5 g5 lt5 => ?_)
      refine (r4_fails.c k _ qc4 _ _ 7 a2 qc5 hr5  w5 (hWc4.later g5).bare' (hSc4_0.later ((hF.trans g5).with hBm5))).mono ?_
      rintro e w5' ⟨rfl, hf5, hWc5, hq5_0⟩
      refine ⟨(()), rfl, hf5, fun g5' hid5 hv5 => ?_⟩
      try dsimp only
      have hSc5_0 : SlR R23.row (r4_stream.S a0) w A0_0 c0_0 qc5.1 := by rw [hq5_0]; exact hSc4_0
      have hmc5 := hmc4
      have hWc5 := hWc5.vis (fun b hb => hv5 b (Or.inl hb))
      have hF := Fine.own hF g5' hBm5 hid5
      obtain ⟨r6, hr6, h⟩ := bse h
      obtain ⟨s6_0, qc6⟩ := r6
      try dsimp only at h
      have hBv6 : ∀ b, (r4_take.S a0) b → ¬ _ ∧ b < _ := fun b hb => by exact ⟨(hWc5.lt b hb).2.1, hWc5.lt1 b hb⟩
      have hBm6 : ∀ b, (r4_take.S a0) b → (r4_stream.S a0) b ∨ w.heap.size ≤ b := fun b hb => by exact hmc5 b hb
      refine ok_callo (r4_take.S a0) rfl hBv6 (fun L6 w6 g6 lt6 => ?_)
      refine (r4_take.c k _ qc5 _ _ (IntKind.i64.wrap ((((qc1.1).length : Nat) : Int) - qc1.2.1)) (s6_0, qc6) hr6  w6 (hWc5.later g6).bare' (hSc5_0.later ((hF.trans g6).with hBm6))).mono ?_
      rintro e w6' ⟨A6_0, c6_0, rfl, hf6, hWc6, hO6_0, hq6_0⟩
      refine ⟨((A6_0, s6_0.length, c6_0), ()), rfl, hf6, fun g6' hid6 hv6 => ?_⟩
      try dsimp only
      have hSc6_0 : SlR R23.row (r4_stream.S a0) w A0_0 c0_0 qc6.1 := by rw [hq6_0]; exact hSc5_0
      have dk6_o33 : Dj A6_0 a0 := Dj.new hO6_0.fresh (fun b hb => Nat.lt_of_lt_of_le (hBv6 b hb).2 g6.size)
      have hmc6 := hmc5
      have hWc6 := hWc6.vis (fun b hb => hv6 b (Or.inl hb))
      have hO6_0 := hO6_0.call (hF.trans g6).size lt6
      have hF := Fine.own hF g6' hBm6 hid6
      obtain rfl := Option.some.inj h
      have homes := fun (b : Nat) (h : b < w.heap.size) => h
      intro ρ L w' _ he _ _
      exact ⟨A6_0, c6_0, none, 0, rfl, (hF.ext he).with (fun b h => Or.inl h), (hWc6.later he.fine).bare', (hO6_0.later he.fine).ret, OwnF.ret (OwnF.nil _ (fun _ => False) _ _ _), Dj.nil2, (hq6_0.trans (hq5_0.trans (hq4_0.trans (hq1_0.trans (hq0_0.trans rfl)))))⟩
     ·have h := bif_f h hc30
      obtain ⟨r5, hr5, h⟩ := bse h
      obtain ⟨s5_0, qc5⟩ := r5
      try dsimp only at h
      have hBv5 : ∀ b, (r4_take.S a0) b → ¬ _ ∧ b < _ := fun b hb => by exact ⟨(hWc4.lt b hb).2.1, hWc4.lt1 b hb⟩
      have hBm5 : ∀ b, (r4_take.S a0) b → (r4_stream.S a0) b ∨ w.heap.size ≤ b := fun b hb => by exact hmc4 b hb
      refine ok_callo (r4_take.S a0) rfl hBv5 (fun L5 w5 g5 lt5 => ?_)
      refine (r4_take.c k _ qc4 _ _ (IntKind.i64.wrap ((((qc1.1).length : Nat) : Int) - qc1.2.1)) (s5_0, qc5) hr5  w5 (hWc4.later g5).bare' (hSc4_0.later ((hF.trans g5).with hBm5))).mono ?_
      rintro e w5' ⟨A5_0, c5_0, rfl, hf5, hWc5, hO5_0, hq5_0⟩
      refine ⟨((A5_0, s5_0.length, c5_0), ()), rfl, hf5, fun g5' hid5 hv5 => ?_⟩
      try dsimp only
      have hSc5_0 : SlR R23.row (r4_stream.S a0) w A0_0 c0_0 qc5.1 := by rw [hq5_0]; exact hSc4_0
      have dk5_o36 : Dj A5_0 a0 := Dj.new hO5_0.fresh (fun b hb => Nat.lt_of_lt_of_le (hBv5 b hb).2 g5.size)
      have hmc5 := hmc4
      have hWc5 := hWc5.vis (fun b hb => hv5 b (Or.inl hb))
      have hO5_0 := hO5_0.call (hF.trans g5).size lt5
      have hF := Fine.own hF g5' hBm5 hid5
      obtain rfl := Option.some.inj h
      have homes := fun (b : Nat) (h : b < w.heap.size) => h
      intro ρ L w' _ he _ _
      exact ⟨A5_0, c5_0, none, 0, rfl, (hF.ext he).with (fun b h => Or.inl h), (hWc5.later he.fine).bare', (hO5_0.later he.fine).ret, OwnF.ret (OwnF.nil _ (fun _ => False) _ _ _), Dj.nil2, (hq5_0.trans (hq4_0.trans (hq1_0.trans (hq0_0.trans rfl))))⟩
    ·have h := bif_f h hc29
     obtain ⟨r5, hr5, h⟩ := bse h
     obtain ⟨s5_0, qc5⟩ := r5
     try dsimp only at h
     have hBv5 : ∀ b, (r4_take.S a0) b → ¬ _ ∧ b < _ := fun b hb => by exact ⟨(hWc4.lt b hb).2.1, hWc4.lt1 b hb⟩
     have hBm5 : ∀ b, (r4_take.S a0) b → (r4_stream.S a0) b ∨ w.heap.size ≤ b := fun b hb => by exact hmc4 b hb
     refine ok_callo (r4_take.S a0) rfl hBv5 (fun L5 w5 g5 lt5 => ?_)
     refine (r4_take.c k _ qc4 _ _ (IntKind.i64.wrap ((((qc1.1).length : Nat) : Int) - qc1.2.1)) (s5_0, qc5) hr5  w5 (hWc4.later g5).bare' (hSc4_0.later ((hF.trans g5).with hBm5))).mono ?_
     rintro e w5' ⟨A5_0, c5_0, rfl, hf5, hWc5, hO5_0, hq5_0⟩
     refine ⟨((A5_0, s5_0.length, c5_0), ()), rfl, hf5, fun g5' hid5 hv5 => ?_⟩
     try dsimp only
     have hSc5_0 : SlR R23.row (r4_stream.S a0) w A0_0 c0_0 qc5.1 := by rw [hq5_0]; exact hSc4_0
     have dk5_o39 : Dj A5_0 a0 := Dj.new hO5_0.fresh (fun b hb => Nat.lt_of_lt_of_le (hBv5 b hb).2 g5.size)
     have hmc5 := hmc4
     have hWc5 := hWc5.vis (fun b hb => hv5 b (Or.inl hb))
     have hO5_0 := hO5_0.call (hF.trans g5).size lt5
     have hF := Fine.own hF g5' hBm5 hid5
     obtain rfl := Option.some.inj h
     have homes := fun (b : Nat) (h : b < w.heap.size) => h
     intro ρ L w' _ he _ _
     exact ⟨A5_0, c5_0, none, 0, rfl, (hF.ext he).with (fun b h => Or.inl h), (hWc5.later he.fine).bare', (hO5_0.later he.fine).ret, OwnF.ret (OwnF.nil _ (fun _ => False) _ _ _), Dj.nil2, (hq5_0.trans (hq4_0.trans (hq1_0.trans (hq0_0.trans rfl))))⟩
  ·have h := bif_f h hc6
   refine ok_need hA_a0 ?_
   refine ok_need hA_a0 ?_
   refine ok_ob 0 hWc0.sl (Fine.refl _ _) (fun cs hcs => ⟨(A0_0, qc0.1.length, c0_0), by rw [hcs]; rfl, ?_⟩)
   try dsimp only
   refine ok_need hA_a0 ?_
   refine ok_need hA_a0 ?_
   refine ok_ob 1 hWc0.sl (Fine.refl _ _) (fun cs hcs => ⟨qc0.2.1, by rw [hcs]; rfl, ?_⟩)
   try dsimp only
   refine ok_if (fun hc42 => ?_) (fun hc42 => ?_)
   ·have h := bif_t h hc42
    obtain ⟨r3, hr3, h⟩ := bse h
    obtain ⟨v3_0, qc3⟩ := r3
    try dsimp only at h
    have hBv3 : ∀ b, (r4_number.S a0) b → ¬ _ ∧ b < _ := fun b hb => by exact ⟨(hWc0.lt b hb).2.1, hWc0.lt1 b hb⟩
    have hBm3 : ∀ b, (r4_number.S a0) b → (r4_stream.S a0) b ∨ w.heap.size ≤ b := fun b hb => by exact hmc0 b hb
    refine ok_callo (r4_number.S a0) rfl hBv3 (fun L3 w3 g3 lt3 => ?_)
    refine (r4_number.c k _ qc0 _ _ (v3_0, qc3) hr3  w3 (hWc0.later g3).bare' (hSc0_0.later ((hF.trans g3).with hBm3))).mono ?_
    rintro e w3' ⟨rfl, hf3, hWc3, hq3_0⟩
    refine ⟨(v3_0, ()), rfl, hf3, fun g3' hid3 hv3 => ?_⟩
    try dsimp only
    have hSc3_0 : SlR R23.row (r4_stream.S a0) w A0_0 c0_0 qc3.1 := by rw [hq3_0]; exact hSc0_0
    have hmc3 := hmc0
    have hWc3 := hWc3.vis (fun b hb => hv3 b (Or.inl hb))
    have hF := Fine.own hF g3' hBm3 hid3
    obtain ⟨r4, hr4, h⟩ := bse h
    obtain ⟨v4_0, qc4⟩ := r4
    try dsimp only at h
    have hBv4 : ∀ b, (r4_ok.S a0) b → ¬ _ ∧ b < _ := fun b hb => by exact ⟨(hWc3.lt b hb).2.1, hWc3.lt1 b hb⟩
    have hBm4 : ∀ b, (r4_ok.S a0) b → (r4_stream.S a0) b ∨ w.heap.size ≤ b := fun b hb => by exact hmc3 b hb
    refine ok_callo (r4_ok.S a0) rfl hBv4 (fun L4 w4 g4 lt4 => ?_)
    refine (r4_ok.c k _ qc3 _ _ (v4_0, qc4) hr4  w4 (hWc3.later g4).bare' (hSc3_0.later ((hF.trans g4).with hBm4))).mono ?_
    rintro e w4' ⟨rfl, hf4, hWc4, hq4_0⟩
    refine ⟨(v4_0, ()), rfl, hf4, fun g4' hid4 hv4 => ?_⟩
    try dsimp only
    have hSc4_0 : SlR R23.row (r4_stream.S a0) w A0_0 c0_0 qc4.1 := by rw [hq4_0]; exact hSc3_0
    have hmc4 := hmc3
    have hWc4 := hWc4.vis (fun b hb => hv4 b (Or.inl hb))
    have hF := Fine.own hF g4' hBm4 hid4
    refine ok_if (fun hc47 => ?_) (fun hc47 => ?_)
    ·have h := bif_t h hc47
     refine ok_if (fun hc48 => ?_) (fun hc48 => ?_)
     ·have h := bif_t h hc48
      obtain ⟨qc5, hr5, h⟩ := bse h
      have hBv5 : ∀ b, (r4_fails.S a0) b → ¬ _ ∧ b < _ := fun b hb => by exact ⟨(hWc4.lt b hb).2.1, hWc4.lt1 b hb⟩
      have hBm5 : ∀ b, (r4_fails.S a0) b → (r4_stream.S a0) b ∨ w.heap.size ≤ b := fun b hb => by exact hmc4 b hb
      refine ok_callo (r4_fails.S a0) rfl hBv5 (fun L5 w5 g5 lt5 => ?_)
      refine (r4_fails.c k _ qc4 _ _ 7 a2 qc5 hr5  w5 (hWc4.later g5).bare' (hSc4_0.later ((hF.trans g5).with hBm5))).mono ?_
      rintro e w5' ⟨rfl, hf5, hWc5, hq5_0⟩
      refine ⟨(()), rfl, hf5, fun g5' hid5 hv5 => ?_⟩
      try dsimp only
      have hSc5_0 : SlR R23.row (r4_stream.S a0) w A0_0 c0_0 qc5.1 := by rw [hq5_0]; exact hSc4_0
      have hmc5 := hmc4
      have hWc5 := hWc5.vis (fun b hb => hv5 b (Or.inl hb))
      have hF := Fine.own hF g5' hBm5 hid5
      obtain ⟨r6, hr6, h⟩ := bse h
      obtain ⟨s6_0, qc6⟩ := r6
      try dsimp only at h
      have hBv6 : ∀ b, (r4_take.S a0) b → ¬ _ ∧ b < _ := fun b hb => by exact ⟨(hWc5.lt b hb).2.1, hWc5.lt1 b hb⟩
      have hBm6 : ∀ b, (r4_take.S a0) b → (r4_stream.S a0) b ∨ w.heap.size ≤ b := fun b hb => by exact hmc5 b hb
      refine ok_callo (r4_take.S a0) rfl hBv6 (fun L6 w6 g6 lt6 => ?_)
      refine (r4_take.c k _ qc5 _ _ v3_0 (s6_0, qc6) hr6  w6 (hWc5.later g6).bare' (hSc5_0.later ((hF.trans g6).with hBm6))).mono ?_
      rintro e w6' ⟨A6_0, c6_0, rfl, hf6, hWc6, hO6_0, hq6_0⟩
      refine ⟨((A6_0, s6_0.length, c6_0), ()), rfl, hf6, fun g6' hid6 hv6 => ?_⟩
      try dsimp only
      have hSc6_0 : SlR R23.row (r4_stream.S a0) w A0_0 c0_0 qc6.1 := by rw [hq6_0]; exact hSc5_0
      have dk6_o51 : Dj A6_0 a0 := Dj.new hO6_0.fresh (fun b hb => Nat.lt_of_lt_of_le (hBv6 b hb).2 g6.size)
      have hmc6 := hmc5
      have hWc6 := hWc6.vis (fun b hb => hv6 b (Or.inl hb))
      have hO6_0 := hO6_0.call (hF.trans g6).size lt6
      have hF := Fine.own hF g6' hBm6 hid6
      obtain rfl := Option.some.inj h
      have homes := fun (b : Nat) (h : b < w.heap.size) => h
      intro ρ L w' _ he _ _
      exact ⟨A6_0, c6_0, none, 0, rfl, (hF.ext he).with (fun b h => Or.inl h), (hWc6.later he.fine).bare', (hO6_0.later he.fine).ret, OwnF.ret (OwnF.nil _ (fun _ => False) _ _ _), Dj.nil2, (hq6_0.trans (hq5_0.trans (hq4_0.trans (hq3_0.trans (hq0_0.trans rfl)))))⟩
     ·have h := bif_f h hc48
      obtain ⟨r5, hr5, h⟩ := bse h
      obtain ⟨s5_0, qc5⟩ := r5
      try dsimp only at h
      have hBv5 : ∀ b, (r4_take.S a0) b → ¬ _ ∧ b < _ := fun b hb => by exact ⟨(hWc4.lt b hb).2.1, hWc4.lt1 b hb⟩
      have hBm5 : ∀ b, (r4_take.S a0) b → (r4_stream.S a0) b ∨ w.heap.size ≤ b := fun b hb => by exact hmc4 b hb
      refine ok_callo (r4_take.S a0) rfl hBv5 (fun L5 w5 g5 lt5 => ?_)
      refine (r4_take.c k _ qc4 _ _ v3_0 (s5_0, qc5) hr5  w5 (hWc4.later g5).bare' (hSc4_0.later ((hF.trans g5).with hBm5))).mono ?_
      rintro e w5' ⟨A5_0, c5_0, rfl, hf5, hWc5, hO5_0, hq5_0⟩
      refine ⟨((A5_0, s5_0.length, c5_0), ()), rfl, hf5, fun g5' hid5 hv5 => ?_⟩
      try dsimp only
      have hSc5_0 : SlR R23.row (r4_stream.S a0) w A0_0 c0_0 qc5.1 := by rw [hq5_0]; exact hSc4_0
      have dk5_o54 : Dj A5_0 a0 := Dj.new hO5_0.fresh (fun b hb => Nat.lt_of_lt_of_le (hBv5 b hb).2 g5.size)
      have hmc5 := hmc4
      have hWc5 := hWc5.vis (fun b hb => hv5 b (Or.inl hb))
      have hO5_0 := hO5_0.call (hF.trans g5).size lt5
      have hF := Fine.own hF g5' hBm5 hid5
      obtain rfl := Option.some.inj h
      have homes := fun (b : Nat) (h : b < w.heap.size) => h
      intro ρ L w' _ he _ _
      exact ⟨A5_0, c5_0, none, 0, rfl, (hF.ext he).with (fun b h => Or.inl h), (hWc5.later he.fine).bare', (hO5_0.later he.fine).ret, OwnF.ret (OwnF.nil _ (fun _ => False) _ _ _), Dj.nil2, (hq5_0.trans (hq4_0.trans (hq3_0.trans (hq0_0.trans rfl))))⟩
    ·have h := bif_f h hc47
     obtain ⟨r5, hr5, h⟩ := bse h
     obtain ⟨s5_0, qc5⟩ := r5
     try dsimp only at h
     have hBv5 : ∀ b, (r4_take.S a0) b → ¬ _ ∧ b < _ := fun b hb => by exact ⟨(hWc4.lt b hb).2.1, hWc4.lt1 b hb⟩
     have hBm5 : ∀ b, (r4_take.S a0) b → (r4_stream.S a0) b ∨ w.heap.size ≤ b := fun b hb => by exact hmc4 b hb
     refine ok_callo (r4_take.S a0) rfl hBv5 (fun L5 w5 g5 lt5 => ?_)
     refine (r4_take.c k _ qc4 _ _ v3_0 (s5_0, qc5) hr5  w5 (hWc4.later g5).bare' (hSc4_0.later ((hF.trans g5).with hBm5))).mono ?_
     rintro e w5' ⟨A5_0, c5_0, rfl, hf5, hWc5, hO5_0, hq5_0⟩
     refine ⟨((A5_0, s5_0.length, c5_0), ()), rfl, hf5, fun g5' hid5 hv5 => ?_⟩
     try dsimp only
     have hSc5_0 : SlR R23.row (r4_stream.S a0) w A0_0 c0_0 qc5.1 := by rw [hq5_0]; exact hSc4_0
     have dk5_o57 : Dj A5_0 a0 := Dj.new hO5_0.fresh (fun b hb => Nat.lt_of_lt_of_le (hBv5 b hb).2 g5.size)
     have hmc5 := hmc4
     have hWc5 := hWc5.vis (fun b hb => hv5 b (Or.inl hb))
     have hO5_0 := hO5_0.call (hF.trans g5).size lt5
     have hF := Fine.own hF g5' hBm5 hid5
     obtain rfl := Option.some.inj h
     have homes := fun (b : Nat) (h : b < w.heap.size) => h
     intro ρ L w' _ he _ _
     exact ⟨A5_0, c5_0, none, 0, rfl, (hF.ext he).with (fun b h => Or.inl h), (hWc5.later he.fine).bare', (hO5_0.later he.fine).ret, OwnF.ret (OwnF.nil _ (fun _ => False) _ _ _), Dj.nil2, (hq5_0.trans (hq4_0.trans (hq3_0.trans (hq0_0.trans rfl))))⟩
   ·have h := bif_f h hc42
    obtain ⟨r3, hr3, h⟩ := bse h
    obtain ⟨v3_0, qc3⟩ := r3
    try dsimp only at h
    have hBv3 : ∀ b, (r4_ok.S a0) b → ¬ _ ∧ b < _ := fun b hb => by exact ⟨(hWc0.lt b hb).2.1, hWc0.lt1 b hb⟩
    have hBm3 : ∀ b, (r4_ok.S a0) b → (r4_stream.S a0) b ∨ w.heap.size ≤ b := fun b hb => by exact hmc0 b hb
    refine ok_callo (r4_ok.S a0) rfl hBv3 (fun L3 w3 g3 lt3 => ?_)
    refine (r4_ok.c k _ qc0 _ _ (v3_0, qc3) hr3  w3 (hWc0.later g3).bare' (hSc0_0.later ((hF.trans g3).with hBm3))).mono ?_
    rintro e w3' ⟨rfl, hf3, hWc3, hq3_0⟩
    refine ⟨(v3_0, ()), rfl, hf3, fun g3' hid3 hv3 => ?_⟩
    try dsimp only
    have hSc3_0 : SlR R23.row (r4_stream.S a0) w A0_0 c0_0 qc3.1 := by rw [hq3_0]; exact hSc0_0
    have hmc3 := hmc0
    have hWc3 := hWc3.vis (fun b hb => hv3 b (Or.inl hb))
    have hF := Fine.own hF g3' hBm3 hid3
    refine ok_if (fun hc62 => ?_) (fun hc62 => ?_)
    ·have h := bif_t h hc62
     refine ok_if (fun hc63 => ?_) (fun hc63 => ?_)
     ·have h := bif_t h hc63
      obtain ⟨qc4, hr4, h⟩ := bse h
      have hBv4 : ∀ b, (r4_fails.S a0) b → ¬ _ ∧ b < _ := fun b hb => by exact ⟨(hWc3.lt b hb).2.1, hWc3.lt1 b hb⟩
      have hBm4 : ∀ b, (r4_fails.S a0) b → (r4_stream.S a0) b ∨ w.heap.size ≤ b := fun b hb => by exact hmc3 b hb
      refine ok_callo (r4_fails.S a0) rfl hBv4 (fun L4 w4 g4 lt4 => ?_)
      refine (r4_fails.c k _ qc3 _ _ 7 a2 qc4 hr4  w4 (hWc3.later g4).bare' (hSc3_0.later ((hF.trans g4).with hBm4))).mono ?_
      rintro e w4' ⟨rfl, hf4, hWc4, hq4_0⟩
      refine ⟨(()), rfl, hf4, fun g4' hid4 hv4 => ?_⟩
      try dsimp only
      have hSc4_0 : SlR R23.row (r4_stream.S a0) w A0_0 c0_0 qc4.1 := by rw [hq4_0]; exact hSc3_0
      have hmc4 := hmc3
      have hWc4 := hWc4.vis (fun b hb => hv4 b (Or.inl hb))
      have hF := Fine.own hF g4' hBm4 hid4
      obtain ⟨r5, hr5, h⟩ := bse h
      obtain ⟨s5_0, qc5⟩ := r5
      try dsimp only at h
      have hBv5 : ∀ b, (r4_take.S a0) b → ¬ _ ∧ b < _ := fun b hb => by exact ⟨(hWc4.lt b hb).2.1, hWc4.lt1 b hb⟩
      have hBm5 : ∀ b, (r4_take.S a0) b → (r4_stream.S a0) b ∨ w.heap.size ≤ b := fun b hb => by exact hmc4 b hb
      refine ok_callo (r4_take.S a0) rfl hBv5 (fun L5 w5 g5 lt5 => ?_)
      refine (r4_take.c k _ qc4 _ _ (IntKind.i64.wrap ((((qc0.1).length : Nat) : Int) - qc0.2.1)) (s5_0, qc5) hr5  w5 (hWc4.later g5).bare' (hSc4_0.later ((hF.trans g5).with hBm5))).mono ?_
      rintro e w5' ⟨A5_0, c5_0, rfl, hf5, hWc5, hO5_0, hq5_0⟩
      refine ⟨((A5_0, s5_0.length, c5_0), ()), rfl, hf5, fun g5' hid5 hv5 => ?_⟩
      try dsimp only
      have hSc5_0 : SlR R23.row (r4_stream.S a0) w A0_0 c0_0 qc5.1 := by rw [hq5_0]; exact hSc4_0
      have dk5_o66 : Dj A5_0 a0 := Dj.new hO5_0.fresh (fun b hb => Nat.lt_of_lt_of_le (hBv5 b hb).2 g5.size)
      have hmc5 := hmc4
      have hWc5 := hWc5.vis (fun b hb => hv5 b (Or.inl hb))
      have hO5_0 := hO5_0.call (hF.trans g5).size lt5
      have hF := Fine.own hF g5' hBm5 hid5
      obtain rfl := Option.some.inj h
      have homes := fun (b : Nat) (h : b < w.heap.size) => h
      intro ρ L w' _ he _ _
      exact ⟨A5_0, c5_0, none, 0, rfl, (hF.ext he).with (fun b h => Or.inl h), (hWc5.later he.fine).bare', (hO5_0.later he.fine).ret, OwnF.ret (OwnF.nil _ (fun _ => False) _ _ _), Dj.nil2, (hq5_0.trans (hq4_0.trans (hq3_0.trans (hq0_0.trans rfl))))⟩
     ·have h := bif_f h hc63
      obtain ⟨r4, hr4, h⟩ := bse h
      obtain ⟨s4_0, qc4⟩ := r4
      try dsimp only at h
      have hBv4 : ∀ b, (r4_take.S a0) b → ¬ _ ∧ b < _ := fun b hb => by exact ⟨(hWc3.lt b hb).2.1, hWc3.lt1 b hb⟩
      have hBm4 : ∀ b, (r4_take.S a0) b → (r4_stream.S a0) b ∨ w.heap.size ≤ b := fun b hb => by exact hmc3 b hb
      refine ok_callo (r4_take.S a0) rfl hBv4 (fun L4 w4 g4 lt4 => ?_)
      refine (r4_take.c k _ qc3 _ _ (IntKind.i64.wrap ((((qc0.1).length : Nat) : Int) - qc0.2.1)) (s4_0, qc4) hr4  w4 (hWc3.later g4).bare' (hSc3_0.later ((hF.trans g4).with hBm4))).mono ?_
      rintro e w4' ⟨A4_0, c4_0, rfl, hf4, hWc4, hO4_0, hq4_0⟩
      refine ⟨((A4_0, s4_0.length, c4_0), ()), rfl, hf4, fun g4' hid4 hv4 => ?_⟩
      try dsimp only
      have hSc4_0 : SlR R23.row (r4_stream.S a0) w A0_0 c0_0 qc4.1 := by rw [hq4_0]; exact hSc3_0
      have dk4_o69 : Dj A4_0 a0 := Dj.new hO4_0.fresh (fun b hb => Nat.lt_of_lt_of_le (hBv4 b hb).2 g4.size)
      have hmc4 := hmc3
      have hWc4 := hWc4.vis (fun b hb => hv4 b (Or.inl hb))
      have hO4_0 := hO4_0.call (hF.trans g4).size lt4
      have hF := Fine.own hF g4' hBm4 hid4
      obtain rfl := Option.some.inj h
      have homes := fun (b : Nat) (h : b < w.heap.size) => h
      intro ρ L w' _ he _ _
      exact ⟨A4_0, c4_0, none, 0, rfl, (hF.ext he).with (fun b h => Or.inl h), (hWc4.later he.fine).bare', (hO4_0.later he.fine).ret, OwnF.ret (OwnF.nil _ (fun _ => False) _ _ _), Dj.nil2, (hq4_0.trans (hq3_0.trans (hq0_0.trans rfl)))⟩
    ·have h := bif_f h hc62
     obtain ⟨r4, hr4, h⟩ := bse h
     obtain ⟨s4_0, qc4⟩ := r4
     try dsimp only at h
     have hBv4 : ∀ b, (r4_take.S a0) b → ¬ _ ∧ b < _ := fun b hb => by exact ⟨(hWc3.lt b hb).2.1, hWc3.lt1 b hb⟩
     have hBm4 : ∀ b, (r4_take.S a0) b → (r4_stream.S a0) b ∨ w.heap.size ≤ b := fun b hb => by exact hmc3 b hb
     refine ok_callo (r4_take.S a0) rfl hBv4 (fun L4 w4 g4 lt4 => ?_)
     refine (r4_take.c k _ qc3 _ _ (IntKind.i64.wrap ((((qc0.1).length : Nat) : Int) - qc0.2.1)) (s4_0, qc4) hr4  w4 (hWc3.later g4).bare' (hSc3_0.later ((hF.trans g4).with hBm4))).mono ?_
     rintro e w4' ⟨A4_0, c4_0, rfl, hf4, hWc4, hO4_0, hq4_0⟩
     refine ⟨((A4_0, s4_0.length, c4_0), ()), rfl, hf4, fun g4' hid4 hv4 => ?_⟩
     try dsimp only
     have hSc4_0 : SlR R23.row (r4_stream.S a0) w A0_0 c0_0 qc4.1 := by rw [hq4_0]; exact hSc3_0
     have dk4_o72 : Dj A4_0 a0 := Dj.new hO4_0.fresh (fun b hb => Nat.lt_of_lt_of_le (hBv4 b hb).2 g4.size)
     have hmc4 := hmc3
     have hWc4 := hWc4.vis (fun b hb => hv4 b (Or.inl hb))
     have hO4_0 := hO4_0.call (hF.trans g4).size lt4
     have hF := Fine.own hF g4' hBm4 hid4
     obtain rfl := Option.some.inj h
     have homes := fun (b : Nat) (h : b < w.heap.size) => h
     intro ρ L w' _ he _ _
     exact ⟨A4_0, c4_0, none, 0, rfl, (hF.ext he).with (fun b h => Or.inl h), (hWc4.later he.fine).bare', (hO4_0.later he.fine).ret, OwnF.ret (OwnF.nil _ (fun _ => False) _ _ _), Dj.nil2, (hq4_0.trans (hq3_0.trans (hq0_0.trans rfl)))⟩
 ·have h := bif_f h hc5
  refine ok_if (fun hc75 => ?_) (fun hc75 => ?_)
  ·have h := bif_t h hc75
   obtain ⟨r1, hr1, h⟩ := bse h
   obtain ⟨v1_0, qc1⟩ := r1
   try dsimp only at h
   have hBv1 : ∀ b, (r4_number.S a0) b → ¬ _ ∧ b < _ := fun b hb => by exact ⟨(hWc0.lt b hb).2.1, hWc0.lt1 b hb⟩
   have hBm1 : ∀ b, (r4_number.S a0) b → (r4_stream.S a0) b ∨ w.heap.size ≤ b := fun b hb => by exact hmc0 b hb
   refine ok_callo (r4_number.S a0) rfl hBv1 (fun L1 w1 g1 lt1 => ?_)
   refine (r4_number.c k _ qc0 _ _ (v1_0, qc1) hr1  w1 (hWc0.later g1).bare' (hSc0_0.later ((hF.trans g1).with hBm1))).mono ?_
   rintro e w1' ⟨rfl, hf1, hWc1, hq1_0⟩
   refine ⟨(v1_0, ()), rfl, hf1, fun g1' hid1 hv1 => ?_⟩
   try dsimp only
   have hSc1_0 : SlR R23.row (r4_stream.S a0) w A0_0 c0_0 qc1.1 := by rw [hq1_0]; exact hSc0_0
   have hmc1 := hmc0
   have hWc1 := hWc1.vis (fun b hb => hv1 b (Or.inl hb))
   have hF := Fine.own hF g1' hBm1 hid1
   refine ok_need hA_a0 ?_
   refine ok_need hA_a0 ?_
   refine ok_ob 0 hWc1.sl (Fine.refl _ _) (fun cs hcs => ⟨(A0_0, qc1.1.length, c0_0), by rw [hcs]; rfl, ?_⟩)
   try dsimp only
   refine ok_need hA_a0 ?_
   refine ok_need hA_a0 ?_
   refine ok_ob 1 hWc1.sl (Fine.refl _ _) (fun cs hcs => ⟨qc1.2.1, by rw [hcs]; rfl, ?_⟩)
   try dsimp only
   refine ok_if (fun hc78 => ?_) (fun hc78 => ?_)
   ·have h := bif_t h hc78
    obtain ⟨r4, hr4, h⟩ := bse h
    obtain ⟨v4_0, qc4⟩ := r4
    try dsimp only at h
    have hBv4 : ∀ b, (r4_number.S a0) b → ¬ _ ∧ b < _ := fun b hb => by exact ⟨(hWc1.lt b hb).2.1, hWc1.lt1 b hb⟩
    have hBm4 : ∀ b, (r4_number.S a0) b → (r4_stream.S a0) b ∨ w.heap.size ≤ b := fun b hb => by exact hmc1 b hb
    refine ok_callo (r4_number.S a0) rfl hBv4 (fun L4 w4 g4 lt4 => ?_)
    refine (r4_number.c k _ qc1 _ _ (v4_0, qc4) hr4  w4 (hWc1.later g4).bare' (hSc1_0.later ((hF.trans g4).with hBm4))).mono ?_
    rintro e w4' ⟨rfl, hf4, hWc4, hq4_0⟩
    refine ⟨(v4_0, ()), rfl, hf4, fun g4' hid4 hv4 => ?_⟩
    try dsimp only
    have hSc4_0 : SlR R23.row (r4_stream.S a0) w A0_0 c0_0 qc4.1 := by rw [hq4_0]; exact hSc1_0
    have hmc4 := hmc1
    have hWc4 := hWc4.vis (fun b hb => hv4 b (Or.inl hb))
    have hF := Fine.own hF g4' hBm4 hid4
    obtain ⟨r5, hr5, h⟩ := bse h
    obtain ⟨v5_0, qc5⟩ := r5
    try dsimp only at h
    have hBv5 : ∀ b, (r4_ok.S a0) b → ¬ _ ∧ b < _ := fun b hb => by exact ⟨(hWc4.lt b hb).2.1, hWc4.lt1 b hb⟩
    have hBm5 : ∀ b, (r4_ok.S a0) b → (r4_stream.S a0) b ∨ w.heap.size ≤ b := fun b hb => by exact hmc4 b hb
    refine ok_callo (r4_ok.S a0) rfl hBv5 (fun L5 w5 g5 lt5 => ?_)
    refine (r4_ok.c k _ qc4 _ _ (v5_0, qc5) hr5  w5 (hWc4.later g5).bare' (hSc4_0.later ((hF.trans g5).with hBm5))).mono ?_
    rintro e w5' ⟨rfl, hf5, hWc5, hq5_0⟩
    refine ⟨(v5_0, ()), rfl, hf5, fun g5' hid5 hv5 => ?_⟩
    try dsimp only
    have hSc5_0 : SlR R23.row (r4_stream.S a0) w A0_0 c0_0 qc5.1 := by rw [hq5_0]; exact hSc4_0
    have hmc5 := hmc4
    have hWc5 := hWc5.vis (fun b hb => hv5 b (Or.inl hb))
    have hF := Fine.own hF g5' hBm5 hid5
    refine ok_if (fun hc83 => ?_) (fun hc83 => ?_)
    ·have h := bif_t h hc83
     refine ok_if (fun hc84 => ?_) (fun hc84 => ?_)
     ·have h := bif_t h hc84
      obtain ⟨qc6, hr6, h⟩ := bse h
      have hBv6 : ∀ b, (r4_fails.S a0) b → ¬ _ ∧ b < _ := fun b hb => by exact ⟨(hWc5.lt b hb).2.1, hWc5.lt1 b hb⟩
      have hBm6 : ∀ b, (r4_fails.S a0) b → (r4_stream.S a0) b ∨ w.heap.size ≤ b := fun b hb => by exact hmc5 b hb
      refine ok_callo (r4_fails.S a0) rfl hBv6 (fun L6 w6 g6 lt6 => ?_)
      refine (r4_fails.c k _ qc5 _ _ 7 a2 qc6 hr6  w6 (hWc5.later g6).bare' (hSc5_0.later ((hF.trans g6).with hBm6))).mono ?_
      rintro e w6' ⟨rfl, hf6, hWc6, hq6_0⟩
      refine ⟨(()), rfl, hf6, fun g6' hid6 hv6 => ?_⟩
      try dsimp only
      have hSc6_0 : SlR R23.row (r4_stream.S a0) w A0_0 c0_0 qc6.1 := by rw [hq6_0]; exact hSc5_0
      have hmc6 := hmc5
      have hWc6 := hWc6.vis (fun b hb => hv6 b (Or.inl hb))
      have hF := Fine.own hF g6' hBm6 hid6
      obtain ⟨r7, hr7, h⟩ := bse h
      obtain ⟨s7_0, qc7⟩ := r7
      try dsimp only at h
      have hBv7 : ∀ b, (r4_take.S a0) b → ¬ _ ∧ b < _ := fun b hb => by exact ⟨(hWc6.lt b hb).2.1, hWc6.lt1 b hb⟩
      have hBm7 : ∀ b, (r4_take.S a0) b → (r4_stream.S a0) b ∨ w.heap.size ≤ b := fun b hb => by exact hmc6 b hb
      refine ok_callo (r4_take.S a0) rfl hBv7 (fun L7 w7 g7 lt7 => ?_)
      refine (r4_take.c k _ qc6 _ _ v4_0 (s7_0, qc7) hr7  w7 (hWc6.later g7).bare' (hSc6_0.later ((hF.trans g7).with hBm7))).mono ?_
      rintro e w7' ⟨A7_0, c7_0, rfl, hf7, hWc7, hO7_0, hq7_0⟩
      refine ⟨((A7_0, s7_0.length, c7_0), ()), rfl, hf7, fun g7' hid7 hv7 => ?_⟩
      try dsimp only
      have hSc7_0 : SlR R23.row (r4_stream.S a0) w A0_0 c0_0 qc7.1 := by rw [hq7_0]; exact hSc6_0
      have dk7_o87 : Dj A7_0 a0 := Dj.new hO7_0.fresh (fun b hb => Nat.lt_of_lt_of_le (hBv7 b hb).2 g7.size)
      have hmc7 := hmc6
      have hWc7 := hWc7.vis (fun b hb => hv7 b (Or.inl hb))
      have hO7_0 := hO7_0.call (hF.trans g7).size lt7
      have hF := Fine.own hF g7' hBm7 hid7
      obtain rfl := Option.some.inj h
      have homes := fun (b : Nat) (h : b < w.heap.size) => h
      intro ρ L w' _ he _ _
      exact ⟨A7_0, c7_0, none, 0, rfl, (hF.ext he).with (fun b h => Or.inl h), (hWc7.later he.fine).bare', (hO7_0.later he.fine).ret, OwnF.ret (OwnF.nil _ (fun _ => False) _ _ _), Dj.nil2, (hq7_0.trans (hq6_0.trans (hq5_0.trans (hq4_0.trans (hq1_0.trans (hq0_0.trans rfl))))))⟩
     ·have h := bif_f h hc84
      obtain ⟨r6, hr6, h⟩ := bse h
      obtain ⟨s6_0, qc6⟩ := r6
      try dsimp only at h
      have hBv6 : ∀ b, (r4_take.S a0) b → ¬ _ ∧ b < _ := fun b hb => by exact ⟨(hWc5.lt b hb).2.1, hWc5.lt1 b hb⟩
      have hBm6 : ∀ b, (r4_take.S a0) b → (r4_stream.S a0) b ∨ w.heap.size ≤ b := fun b hb => by exact hmc5 b hb
      refine ok_callo (r4_take.S a0) rfl hBv6 (fun L6 w6 g6 lt6 => ?_)
      refine (r4_take.c k _ qc5 _ _ v4_0 (s6_0, qc6) hr6  w6 (hWc5.later g6).bare' (hSc5_0.later ((hF.trans g6).with hBm6))).mono ?_
      rintro e w6' ⟨A6_0, c6_0, rfl, hf6, hWc6, hO6_0, hq6_0⟩
      refine ⟨((A6_0, s6_0.length, c6_0), ()), rfl, hf6, fun g6' hid6 hv6 => ?_⟩
      try dsimp only
      have hSc6_0 : SlR R23.row (r4_stream.S a0) w A0_0 c0_0 qc6.1 := by rw [hq6_0]; exact hSc5_0
      have dk6_o90 : Dj A6_0 a0 := Dj.new hO6_0.fresh (fun b hb => Nat.lt_of_lt_of_le (hBv6 b hb).2 g6.size)
      have hmc6 := hmc5
      have hWc6 := hWc6.vis (fun b hb => hv6 b (Or.inl hb))
      have hO6_0 := hO6_0.call (hF.trans g6).size lt6
      have hF := Fine.own hF g6' hBm6 hid6
      obtain rfl := Option.some.inj h
      have homes := fun (b : Nat) (h : b < w.heap.size) => h
      intro ρ L w' _ he _ _
      exact ⟨A6_0, c6_0, none, 0, rfl, (hF.ext he).with (fun b h => Or.inl h), (hWc6.later he.fine).bare', (hO6_0.later he.fine).ret, OwnF.ret (OwnF.nil _ (fun _ => False) _ _ _), Dj.nil2, (hq6_0.trans (hq5_0.trans (hq4_0.trans (hq1_0.trans (hq0_0.trans rfl)))))⟩
    ·have h := bif_f h hc83
     obtain ⟨r6, hr6, h⟩ := bse h
     obtain ⟨s6_0, qc6⟩ := r6
     try dsimp only at h
     have hBv6 : ∀ b, (r4_take.S a0) b → ¬ _ ∧ b < _ := fun b hb => by exact ⟨(hWc5.lt b hb).2.1, hWc5.lt1 b hb⟩
     have hBm6 : ∀ b, (r4_take.S a0) b → (r4_stream.S a0) b ∨ w.heap.size ≤ b := fun b hb => by exact hmc5 b hb
     refine ok_callo (r4_take.S a0) rfl hBv6 (fun L6 w6 g6 lt6 => ?_)
     refine (r4_take.c k _ qc5 _ _ v4_0 (s6_0, qc6) hr6  w6 (hWc5.later g6).bare' (hSc5_0.later ((hF.trans g6).with hBm6))).mono ?_
     rintro e w6' ⟨A6_0, c6_0, rfl, hf6, hWc6, hO6_0, hq6_0⟩
     refine ⟨((A6_0, s6_0.length, c6_0), ()), rfl, hf6, fun g6' hid6 hv6 => ?_⟩
     try dsimp only
     have hSc6_0 : SlR R23.row (r4_stream.S a0) w A0_0 c0_0 qc6.1 := by rw [hq6_0]; exact hSc5_0
     have dk6_o93 : Dj A6_0 a0 := Dj.new hO6_0.fresh (fun b hb => Nat.lt_of_lt_of_le (hBv6 b hb).2 g6.size)
     have hmc6 := hmc5
     have hWc6 := hWc6.vis (fun b hb => hv6 b (Or.inl hb))
     have hO6_0 := hO6_0.call (hF.trans g6).size lt6
     have hF := Fine.own hF g6' hBm6 hid6
     obtain rfl := Option.some.inj h
     have homes := fun (b : Nat) (h : b < w.heap.size) => h
     intro ρ L w' _ he _ _
     exact ⟨A6_0, c6_0, none, 0, rfl, (hF.ext he).with (fun b h => Or.inl h), (hWc6.later he.fine).bare', (hO6_0.later he.fine).ret, OwnF.ret (OwnF.nil _ (fun _ => False) _ _ _), Dj.nil2, (hq6_0.trans (hq5_0.trans (hq4_0.trans (hq1_0.trans (hq0_0.trans rfl)))))⟩
   ·have h := bif_f h hc78
    obtain ⟨r4, hr4, h⟩ := bse h
    obtain ⟨v4_0, qc4⟩ := r4
    try dsimp only at h
    have hBv4 : ∀ b, (r4_ok.S a0) b → ¬ _ ∧ b < _ := fun b hb => by exact ⟨(hWc1.lt b hb).2.1, hWc1.lt1 b hb⟩
    have hBm4 : ∀ b, (r4_ok.S a0) b → (r4_stream.S a0) b ∨ w.heap.size ≤ b := fun b hb => by exact hmc1 b hb
    refine ok_callo (r4_ok.S a0) rfl hBv4 (fun L4 w4 g4 lt4 => ?_)
    refine (r4_ok.c k _ qc1 _ _ (v4_0, qc4) hr4  w4 (hWc1.later g4).bare' (hSc1_0.later ((hF.trans g4).with hBm4))).mono ?_
    rintro e w4' ⟨rfl, hf4, hWc4, hq4_0⟩
    refine ⟨(v4_0, ()), rfl, hf4, fun g4' hid4 hv4 => ?_⟩
    try dsimp only
    have hSc4_0 : SlR R23.row (r4_stream.S a0) w A0_0 c0_0 qc4.1 := by rw [hq4_0]; exact hSc1_0
    have hmc4 := hmc1
    have hWc4 := hWc4.vis (fun b hb => hv4 b (Or.inl hb))
    have hF := Fine.own hF g4' hBm4 hid4
    refine ok_if (fun hc98 => ?_) (fun hc98 => ?_)
    ·have h := bif_t h hc98
     refine ok_if (fun hc99 => ?_) (fun hc99 => ?_)
     ·have h := bif_t h hc99
      obtain ⟨qc5, hr5, h⟩ := bse h
      have hBv5 : ∀ b, (r4_fails.S a0) b → ¬ _ ∧ b < _ := fun b hb => by exact ⟨(hWc4.lt b hb).2.1, hWc4.lt1 b hb⟩
      have hBm5 : ∀ b, (r4_fails.S a0) b → (r4_stream.S a0) b ∨ w.heap.size ≤ b := fun b hb => by exact hmc4 b hb
      refine ok_callo (r4_fails.S a0) rfl hBv5 (fun L5 w5 g5 lt5 => ?_)
      refine (r4_fails.c k _ qc4 _ _ 7 a2 qc5 hr5  w5 (hWc4.later g5).bare' (hSc4_0.later ((hF.trans g5).with hBm5))).mono ?_
      rintro e w5' ⟨rfl, hf5, hWc5, hq5_0⟩
      refine ⟨(()), rfl, hf5, fun g5' hid5 hv5 => ?_⟩
      try dsimp only
      have hSc5_0 : SlR R23.row (r4_stream.S a0) w A0_0 c0_0 qc5.1 := by rw [hq5_0]; exact hSc4_0
      have hmc5 := hmc4
      have hWc5 := hWc5.vis (fun b hb => hv5 b (Or.inl hb))
      have hF := Fine.own hF g5' hBm5 hid5
      obtain ⟨r6, hr6, h⟩ := bse h
      obtain ⟨s6_0, qc6⟩ := r6
      try dsimp only at h
      have hBv6 : ∀ b, (r4_take.S a0) b → ¬ _ ∧ b < _ := fun b hb => by exact ⟨(hWc5.lt b hb).2.1, hWc5.lt1 b hb⟩
      have hBm6 : ∀ b, (r4_take.S a0) b → (r4_stream.S a0) b ∨ w.heap.size ≤ b := fun b hb => by exact hmc5 b hb
      refine ok_callo (r4_take.S a0) rfl hBv6 (fun L6 w6 g6 lt6 => ?_)
      refine (r4_take.c k _ qc5 _ _ (IntKind.i64.wrap ((((qc1.1).length : Nat) : Int) - qc1.2.1)) (s6_0, qc6) hr6  w6 (hWc5.later g6).bare' (hSc5_0.later ((hF.trans g6).with hBm6))).mono ?_
      rintro e w6' ⟨A6_0, c6_0, rfl, hf6, hWc6, hO6_0, hq6_0⟩
      refine ⟨((A6_0, s6_0.length, c6_0), ()), rfl, hf6, fun g6' hid6 hv6 => ?_⟩
      try dsimp only
      have hSc6_0 : SlR R23.row (r4_stream.S a0) w A0_0 c0_0 qc6.1 := by rw [hq6_0]; exact hSc5_0
      have dk6_o102 : Dj A6_0 a0 := Dj.new hO6_0.fresh (fun b hb => Nat.lt_of_lt_of_le (hBv6 b hb).2 g6.size)
      have hmc6 := hmc5
      have hWc6 := hWc6.vis (fun b hb => hv6 b (Or.inl hb))
      have hO6_0 := hO6_0.call (hF.trans g6).size lt6
      have hF := Fine.own hF g6' hBm6 hid6
      obtain rfl := Option.some.inj h
      have homes := fun (b : Nat) (h : b < w.heap.size) => h
      intro ρ L w' _ he _ _
      exact ⟨A6_0, c6_0, none, 0, rfl, (hF.ext he).with (fun b h => Or.inl h), (hWc6.later he.fine).bare', (hO6_0.later he.fine).ret, OwnF.ret (OwnF.nil _ (fun _ => False) _ _ _), Dj.nil2, (hq6_0.trans (hq5_0.trans (hq4_0.trans (hq1_0.trans (hq0_0.trans rfl)))))⟩
     ·have h := bif_f h hc99
      obtain ⟨r5, hr5, h⟩ := bse h
      obtain ⟨s5_0, qc5⟩ := r5
      try dsimp only at h
      have hBv5 : ∀ b, (r4_take.S a0) b → ¬ _ ∧ b < _ := fun b hb => by exact ⟨(hWc4.lt b hb).2.1, hWc4.lt1 b hb⟩
      have hBm5 : ∀ b, (r4_take.S a0) b → (r4_stream.S a0) b ∨ w.heap.size ≤ b := fun b hb => by exact hmc4 b hb
      refine ok_callo (r4_take.S a0) rfl hBv5 (fun L5 w5 g5 lt5 => ?_)
      refine (r4_take.c k _ qc4 _ _ (IntKind.i64.wrap ((((qc1.1).length : Nat) : Int) - qc1.2.1)) (s5_0, qc5) hr5  w5 (hWc4.later g5).bare' (hSc4_0.later ((hF.trans g5).with hBm5))).mono ?_
      rintro e w5' ⟨A5_0, c5_0, rfl, hf5, hWc5, hO5_0, hq5_0⟩
      refine ⟨((A5_0, s5_0.length, c5_0), ()), rfl, hf5, fun g5' hid5 hv5 => ?_⟩
      try dsimp only
      have hSc5_0 : SlR R23.row (r4_stream.S a0) w A0_0 c0_0 qc5.1 := by rw [hq5_0]; exact hSc4_0
      have dk5_o105 : Dj A5_0 a0 := Dj.new hO5_0.fresh (fun b hb => Nat.lt_of_lt_of_le (hBv5 b hb).2 g5.size)
      have hmc5 := hmc4
      have hWc5 := hWc5.vis (fun b hb => hv5 b (Or.inl hb))
      have hO5_0 := hO5_0.call (hF.trans g5).size lt5
      have hF := Fine.own hF g5' hBm5 hid5
      obtain rfl := Option.some.inj h
      have homes := fun (b : Nat) (h : b < w.heap.size) => h
      intro ρ L w' _ he _ _
      exact ⟨A5_0, c5_0, none, 0, rfl, (hF.ext he).with (fun b h => Or.inl h), (hWc5.later he.fine).bare', (hO5_0.later he.fine).ret, OwnF.ret (OwnF.nil _ (fun _ => False) _ _ _), Dj.nil2, (hq5_0.trans (hq4_0.trans (hq1_0.trans (hq0_0.trans rfl))))⟩
    ·have h := bif_f h hc98
     obtain ⟨r5, hr5, h⟩ := bse h
     obtain ⟨s5_0, qc5⟩ := r5
     try dsimp only at h
     have hBv5 : ∀ b, (r4_take.S a0) b → ¬ _ ∧ b < _ := fun b hb => by exact ⟨(hWc4.lt b hb).2.1, hWc4.lt1 b hb⟩
     have hBm5 : ∀ b, (r4_take.S a0) b → (r4_stream.S a0) b ∨ w.heap.size ≤ b := fun b hb => by exact hmc4 b hb
     refine ok_callo (r4_take.S a0) rfl hBv5 (fun L5 w5 g5 lt5 => ?_)
     refine (r4_take.c k _ qc4 _ _ (IntKind.i64.wrap ((((qc1.1).length : Nat) : Int) - qc1.2.1)) (s5_0, qc5) hr5  w5 (hWc4.later g5).bare' (hSc4_0.later ((hF.trans g5).with hBm5))).mono ?_
     rintro e w5' ⟨A5_0, c5_0, rfl, hf5, hWc5, hO5_0, hq5_0⟩
     refine ⟨((A5_0, s5_0.length, c5_0), ()), rfl, hf5, fun g5' hid5 hv5 => ?_⟩
     try dsimp only
     have hSc5_0 : SlR R23.row (r4_stream.S a0) w A0_0 c0_0 qc5.1 := by rw [hq5_0]; exact hSc4_0
     have dk5_o108 : Dj A5_0 a0 := Dj.new hO5_0.fresh (fun b hb => Nat.lt_of_lt_of_le (hBv5 b hb).2 g5.size)
     have hmc5 := hmc4
     have hWc5 := hWc5.vis (fun b hb => hv5 b (Or.inl hb))
     have hO5_0 := hO5_0.call (hF.trans g5).size lt5
     have hF := Fine.own hF g5' hBm5 hid5
     obtain rfl := Option.some.inj h
     have homes := fun (b : Nat) (h : b < w.heap.size) => h
     intro ρ L w' _ he _ _
     exact ⟨A5_0, c5_0, none, 0, rfl, (hF.ext he).with (fun b h => Or.inl h), (hWc5.later he.fine).bare', (hO5_0.later he.fine).ret, OwnF.ret (OwnF.nil _ (fun _ => False) _ _ _), Dj.nil2, (hq5_0.trans (hq4_0.trans (hq1_0.trans (hq0_0.trans rfl))))⟩
  ·have h := bif_f h hc75
   refine ok_need hA_a0 ?_
   refine ok_need hA_a0 ?_
   refine ok_ob 0 hWc0.sl (Fine.refl _ _) (fun cs hcs => ⟨(A0_0, qc0.1.length, c0_0), by rw [hcs]; rfl, ?_⟩)
   try dsimp only
   refine ok_need hA_a0 ?_
   refine ok_need hA_a0 ?_
   refine ok_ob 1 hWc0.sl (Fine.refl _ _) (fun cs hcs => ⟨qc0.2.1, by rw [hcs]; rfl, ?_⟩)
   try dsimp only
   refine ok_if (fun hc111 => ?_) (fun hc111 => ?_)
   ·have h := bif_t h hc111
    obtain ⟨r3, hr3, h⟩ := bse h
    obtain ⟨v3_0, qc3⟩ := r3
    try dsimp only at h
    have hBv3 : ∀ b, (r4_number.S a0) b → ¬ _ ∧ b < _ := fun b hb => by exact ⟨(hWc0.lt b hb).2.1, hWc0.lt1 b hb⟩
    have hBm3 : ∀ b, (r4_number.S a0) b → (r4_stream.S a0) b ∨ w.heap.size ≤ b := fun b hb => by exact hmc0 b hb
    refine ok_callo (r4_number.S a0) rfl hBv3 (fun L3 w3 g3 lt3 => ?_)
    refine (r4_number.c k _ qc0 _ _ (v3_0, qc3) hr3  w3 (hWc0.later g3).bare' (hSc0_0.later ((hF.trans g3).with hBm3))).mono ?_
    rintro e w3' ⟨rfl, hf3, hWc3, hq3_0⟩
    refine ⟨(v3_0, ()), rfl, hf3, fun g3' hid3 hv3 => ?_⟩
    try dsimp only
    have hSc3_0 : SlR R23.row (r4_stream.S a0) w A0_0 c0_0 qc3.1 := by rw [hq3_0]; exact hSc0_0
    have hmc3 := hmc0
    have hWc3 := hWc3.vis (fun b hb => hv3 b (Or.inl hb))
    have hF := Fine.own hF g3' hBm3 hid3
    obtain ⟨r4, hr4, h⟩ := bse h
    obtain ⟨v4_0, qc4⟩ := r4
    try dsimp only at h
    have hBv4 : ∀ b, (r4_ok.S a0) b → ¬ _ ∧ b < _ := fun b hb => by exact ⟨(hWc3.lt b hb).2.1, hWc3.lt1 b hb⟩
    have hBm4 : ∀ b, (r4_ok.S a0) b → (r4_stream.S a0) b ∨ w.heap.size ≤ b := fun b hb => by exact hmc3 b hb
    refine ok_callo (r4_ok.S a0) rfl hBv4 (fun L4 w4 g4 lt4 => ?_)
    refine (r4_ok.c k _ qc3 _ _ (v4_0, qc4) hr4  w4 (hWc3.later g4).bare' (hSc3_0.later ((hF.trans g4).with hBm4))).mono ?_
    rintro e w4' ⟨rfl, hf4, hWc4, hq4_0⟩
    refine ⟨(v4_0, ()), rfl, hf4, fun g4' hid4 hv4 => ?_⟩
    try dsimp only
    have hSc4_0 : SlR R23.row (r4_stream.S a0) w A0_0 c0_0 qc4.1 := by rw [hq4_0]; exact hSc3_0
    have hmc4 := hmc3
    have hWc4 := hWc4.vis (fun b hb => hv4 b (Or.inl hb))
    have hF := Fine.own hF g4' hBm4 hid4
    refine ok_if (fun hc116 => ?_) (fun hc116 => ?_)
    ·have h := bif_t h hc116
     refine ok_if (fun hc117 => ?_) (fun hc117 => ?_)
     ·have h := bif_t h hc117
      obtain ⟨qc5, hr5, h⟩ := bse h
      have hBv5 : ∀ b, (r4_fails.S a0) b → ¬ _ ∧ b < _ := fun b hb => by exact ⟨(hWc4.lt b hb).2.1, hWc4.lt1 b hb⟩
      have hBm5 : ∀ b, (r4_fails.S a0) b → (r4_stream.S a0) b ∨ w.heap.size ≤ b := fun b hb => by exact hmc4 b hb
      refine ok_callo (r4_fails.S a0) rfl hBv5 (fun L5 w5 g5 lt5 => ?_)
      refine (r4_fails.c k _ qc4 _ _ 7 a2 qc5 hr5  w5 (hWc4.later g5).bare' (hSc4_0.later ((hF.trans g5).with hBm5))).mono ?_
      rintro e w5' ⟨rfl, hf5, hWc5, hq5_0⟩
      refine ⟨(()), rfl, hf5, fun g5' hid5 hv5 => ?_⟩
      try dsimp only
      have hSc5_0 : SlR R23.row (r4_stream.S a0) w A0_0 c0_0 qc5.1 := by rw [hq5_0]; exact hSc4_0
      have hmc5 := hmc4
      have hWc5 := hWc5.vis (fun b hb => hv5 b (Or.inl hb))
      have hF := Fine.own hF g5' hBm5 hid5
      obtain ⟨r6, hr6, h⟩ := bse h
      obtain ⟨s6_0, qc6⟩ := r6
      try dsimp only at h
      have hBv6 : ∀ b, (r4_take.S a0) b → ¬ _ ∧ b < _ := fun b hb => by exact ⟨(hWc5.lt b hb).2.1, hWc5.lt1 b hb⟩
      have hBm6 : ∀ b, (r4_take.S a0) b → (r4_stream.S a0) b ∨ w.heap.size ≤ b := fun b hb => by exact hmc5 b hb
      refine ok_callo (r4_take.S a0) rfl hBv6 (fun L6 w6 g6 lt6 => ?_)
      refine (r4_take.c k _ qc5 _ _ v3_0 (s6_0, qc6) hr6  w6 (hWc5.later g6).bare' (hSc5_0.later ((hF.trans g6).with hBm6))).mono ?_
      rintro e w6' ⟨A6_0, c6_0, rfl, hf6, hWc6, hO6_0, hq6_0⟩
      refine ⟨((A6_0, s6_0.length, c6_0), ()), rfl, hf6, fun g6' hid6 hv6 => ?_⟩
      try dsimp only
      have hSc6_0 : SlR R23.row (r4_stream.S a0) w A0_0 c0_0 qc6.1 := by rw [hq6_0]; exact hSc5_0
      have dk6_o120 : Dj A6_0 a0 := Dj.new hO6_0.fresh (fun b hb => Nat.lt_of_lt_of_le (hBv6 b hb).2 g6.size)
      have hmc6 := hmc5
      have hWc6 := hWc6.vis (fun b hb => hv6 b (Or.inl hb))
      have hO6_0 := hO6_0.call (hF.trans g6).size lt6
      have hF := Fine.own hF g6' hBm6 hid6
      obtain rfl := Option.some.inj h
      have homes := fun (b : Nat) (h : b < w.heap.size) => h
      intro ρ L w' _ he _ _
      exact ⟨A6_0, c6_0, none, 0, rfl, (hF.ext he).with (fun b h => Or.inl h), (hWc6.later he.fine).bare', (hO6_0.later he.fine).ret, OwnF.ret (OwnF.nil _ (fun _ => False) _ _ _), Dj.nil2, (hq6_0.trans (hq5_0.trans (hq4_0.trans (hq3_0.trans (hq0_0.trans rfl)))))⟩
     ·have h := bif_f h hc117
      obtain ⟨r5, hr5, h⟩ := bse h
      obtain ⟨s5_0, qc5⟩ := r5
      try dsimp only at h
      have hBv5 : ∀ b, (r4_take.S a0) b → ¬ _ ∧ b < _ := fun b hb => by exact ⟨(hWc4.lt b hb).2.1, hWc4.lt1 b hb⟩
      have hBm5 : ∀ b, (r4_take.S a0) b → (r4_stream.S a0) b ∨ w.heap.size ≤ b := fun b hb => by exact hmc4 b hb
      refine ok_callo (r4_take.S a0) rfl hBv5 (fun L5 w5 g5 lt5 => ?_)
      refine (r4_take.c k _ qc4 _ _ v3_0 (s5_0, qc5) hr5  w5 (hWc4.later g5).bare' (hSc4_0.later ((hF.trans g5).with hBm5))).mono ?_
      rintro e w5' ⟨A5_0, c5_0, rfl, hf5, hWc5, hO5_0, hq5_0⟩
      refine ⟨((A5_0, s5_0.length, c5_0), ()), rfl, hf5, fun g5' hid5 hv5 => ?_⟩
      try dsimp only
      have hSc5_0 : SlR R23.row (r4_stream.S a0) w A0_0 c0_0 qc5.1 := by rw [hq5_0]; exact hSc4_0
      have dk5_o123 : Dj A5_0 a0 := Dj.new hO5_0.fresh (fun b hb => Nat.lt_of_lt_of_le (hBv5 b hb).2 g5.size)
      have hmc5 := hmc4
      have hWc5 := hWc5.vis (fun b hb => hv5 b (Or.inl hb))
      have hO5_0 := hO5_0.call (hF.trans g5).size lt5
      have hF := Fine.own hF g5' hBm5 hid5
      obtain rfl := Option.some.inj h
      have homes := fun (b : Nat) (h : b < w.heap.size) => h
      intro ρ L w' _ he _ _
      exact ⟨A5_0, c5_0, none, 0, rfl, (hF.ext he).with (fun b h => Or.inl h), (hWc5.later he.fine).bare', (hO5_0.later he.fine).ret, OwnF.ret (OwnF.nil _ (fun _ => False) _ _ _), Dj.nil2, (hq5_0.trans (hq4_0.trans (hq3_0.trans (hq0_0.trans rfl))))⟩
    ·have h := bif_f h hc116
     obtain ⟨r5, hr5, h⟩ := bse h
     obtain ⟨s5_0, qc5⟩ := r5
     try dsimp only at h
     have hBv5 : ∀ b, (r4_take.S a0) b → ¬ _ ∧ b < _ := fun b hb => by exact ⟨(hWc4.lt b hb).2.1, hWc4.lt1 b hb⟩
     have hBm5 : ∀ b, (r4_take.S a0) b → (r4_stream.S a0) b ∨ w.heap.size ≤ b := fun b hb => by exact hmc4 b hb
     refine ok_callo (r4_take.S a0) rfl hBv5 (fun L5 w5 g5 lt5 => ?_)
     refine (r4_take.c k _ qc4 _ _ v3_0 (s5_0, qc5) hr5  w5 (hWc4.later g5).bare' (hSc4_0.later ((hF.trans g5).with hBm5))).mono ?_
     rintro e w5' ⟨A5_0, c5_0, rfl, hf5, hWc5, hO5_0, hq5_0⟩
     refine ⟨((A5_0, s5_0.length, c5_0), ()), rfl, hf5, fun g5' hid5 hv5 => ?_⟩
     try dsimp only
     have hSc5_0 : SlR R23.row (r4_stream.S a0) w A0_0 c0_0 qc5.1 := by rw [hq5_0]; exact hSc4_0
     have dk5_o126 : Dj A5_0 a0 := Dj.new hO5_0.fresh (fun b hb => Nat.lt_of_lt_of_le (hBv5 b hb).2 g5.size)
     have hmc5 := hmc4
     have hWc5 := hWc5.vis (fun b hb => hv5 b (Or.inl hb))
     have hO5_0 := hO5_0.call (hF.trans g5).size lt5
     have hF := Fine.own hF g5' hBm5 hid5
     obtain rfl := Option.some.inj h
     have homes := fun (b : Nat) (h : b < w.heap.size) => h
     intro ρ L w' _ he _ _
     exact ⟨A5_0, c5_0, none, 0, rfl, (hF.ext he).with (fun b h => Or.inl h), (hWc5.later he.fine).bare', (hO5_0.later he.fine).ret, OwnF.ret (OwnF.nil _ (fun _ => False) _ _ _), Dj.nil2, (hq5_0.trans (hq4_0.trans (hq3_0.trans (hq0_0.trans rfl))))⟩
   ·have h := bif_f h hc111
    obtain ⟨r3, hr3, h⟩ := bse h
    obtain ⟨v3_0, qc3⟩ := r3
    try dsimp only at h
    have hBv3 : ∀ b, (r4_ok.S a0) b → ¬ _ ∧ b < _ := fun b hb => by exact ⟨(hWc0.lt b hb).2.1, hWc0.lt1 b hb⟩
    have hBm3 : ∀ b, (r4_ok.S a0) b → (r4_stream.S a0) b ∨ w.heap.size ≤ b := fun b hb => by exact hmc0 b hb
    refine ok_callo (r4_ok.S a0) rfl hBv3 (fun L3 w3 g3 lt3 => ?_)
    refine (r4_ok.c k _ qc0 _ _ (v3_0, qc3) hr3  w3 (hWc0.later g3).bare' (hSc0_0.later ((hF.trans g3).with hBm3))).mono ?_
    rintro e w3' ⟨rfl, hf3, hWc3, hq3_0⟩
    refine ⟨(v3_0, ()), rfl, hf3, fun g3' hid3 hv3 => ?_⟩
    try dsimp only
    have hSc3_0 : SlR R23.row (r4_stream.S a0) w A0_0 c0_0 qc3.1 := by rw [hq3_0]; exact hSc0_0
    have hmc3 := hmc0
    have hWc3 := hWc3.vis (fun b hb => hv3 b (Or.inl hb))
    have hF := Fine.own hF g3' hBm3 hid3
    refine ok_if (fun hc131 => ?_) (fun hc131 => ?_)
    ·have h := bif_t h hc131
     refine ok_if (fun hc132 => ?_) (fun hc132 => ?_)
     ·have h := bif_t h hc132
      obtain ⟨qc4, hr4, h⟩ := bse h
      have hBv4 : ∀ b, (r4_fails.S a0) b → ¬ _ ∧ b < _ := fun b hb => by exact ⟨(hWc3.lt b hb).2.1, hWc3.lt1 b hb⟩
      have hBm4 : ∀ b, (r4_fails.S a0) b → (r4_stream.S a0) b ∨ w.heap.size ≤ b := fun b hb => by exact hmc3 b hb
      refine ok_callo (r4_fails.S a0) rfl hBv4 (fun L4 w4 g4 lt4 => ?_)
      refine (r4_fails.c k _ qc3 _ _ 7 a2 qc4 hr4  w4 (hWc3.later g4).bare' (hSc3_0.later ((hF.trans g4).with hBm4))).mono ?_
      rintro e w4' ⟨rfl, hf4, hWc4, hq4_0⟩
      refine ⟨(()), rfl, hf4, fun g4' hid4 hv4 => ?_⟩
      try dsimp only
      have hSc4_0 : SlR R23.row (r4_stream.S a0) w A0_0 c0_0 qc4.1 := by rw [hq4_0]; exact hSc3_0
      have hmc4 := hmc3
      have hWc4 := hWc4.vis (fun b hb => hv4 b (Or.inl hb))
      have hF := Fine.own hF g4' hBm4 hid4
      obtain ⟨r5, hr5, h⟩ := bse h
      obtain ⟨s5_0, qc5⟩ := r5
      try dsimp only at h
      have hBv5 : ∀ b, (r4_take.S a0) b → ¬ _ ∧ b < _ := fun b hb => by exact ⟨(hWc4.lt b hb).2.1, hWc4.lt1 b hb⟩
      have hBm5 : ∀ b, (r4_take.S a0) b → (r4_stream.S a0) b ∨ w.heap.size ≤ b := fun b hb => by exact hmc4 b hb
      refine ok_callo (r4_take.S a0) rfl hBv5 (fun L5 w5 g5 lt5 => ?_)
      refine (r4_take.c k _ qc4 _ _ (IntKind.i64.wrap ((((qc0.1).length : Nat) : Int) - qc0.2.1)) (s5_0, qc5) hr5  w5 (hWc4.later g5).bare' (hSc4_0.later ((hF.trans g5).with hBm5))).mono ?_
      rintro e w5' ⟨A5_0, c5_0, rfl, hf5, hWc5, hO5_0, hq5_0⟩
      refine ⟨((A5_0, s5_0.length, c5_0), ()), rfl, hf5, fun g5' hid5 hv5 => ?_⟩
      try dsimp only
      have hSc5_0 : SlR R23.row (r4_stream.S a0) w A0_0 c0_0 qc5.1 := by rw [hq5_0]; exact hSc4_0
      have dk5_o135 : Dj A5_0 a0 := Dj.new hO5_0.fresh (fun b hb => Nat.lt_of_lt_of_le (hBv5 b hb).2 g5.size)
      have hmc5 := hmc4
      have hWc5 := hWc5.vis (fun b hb => hv5 b (Or.inl hb))
      have hO5_0 := hO5_0.call (hF.trans g5).size lt5
      have hF := Fine.own hF g5' hBm5 hid5
      obtain rfl := Option.some.inj h
      have homes := fun (b : Nat) (h : b < w.heap.size) => h
      intro ρ L w' _ he _ _
      exact ⟨A5_0, c5_0, none, 0, rfl, (hF.ext he).with (fun b h => Or.inl h), (hWc5.later he.fine).bare', (hO5_0.later he.fine).ret, OwnF.ret (OwnF.nil _ (fun _ => False) _ _ _), Dj.nil2, (hq5_0.trans (hq4_0.trans (hq3_0.trans (hq0_0.trans rfl))))⟩
     ·have h := bif_f h hc132
      obtain ⟨r4, hr4, h⟩ := bse h
      obtain ⟨s4_0, qc4⟩ := r4
      try dsimp only at h
      have hBv4 : ∀ b, (r4_take.S a0) b → ¬ _ ∧ b < _ := fun b hb => by exact ⟨(hWc3.lt b hb).2.1, hWc3.lt1 b hb⟩
      have hBm4 : ∀ b, (r4_take.S a0) b → (r4_stream.S a0) b ∨ w.heap.size ≤ b := fun b hb => by exact hmc3 b hb
      refine ok_callo (r4_take.S a0) rfl hBv4 (fun L4 w4 g4 lt4 => ?_)
      refine (r4_take.c k _ qc3 _ _ (IntKind.i64.wrap ((((qc0.1).length : Nat) : Int) - qc0.2.1)) (s4_0, qc4) hr4  w4 (hWc3.later g4).bare' (hSc3_0.later ((hF.trans g4).with hBm4))).mono ?_
      rintro e w4' ⟨A4_0, c4_0, rfl, hf4, hWc4, hO4_0, hq4_0⟩
      refine ⟨((A4_0, s4_0.length, c4_0), ()), rfl, hf4, fun g4' hid4 hv4 => ?_⟩
      try dsimp only
      have hSc4_0 : SlR R23.row (r4_stream.S a0) w A0_0 c0_0 qc4.1 := by rw [hq4_0]; exact hSc3_0
      have dk4_o138 : Dj A4_0 a0 := Dj.new hO4_0.fresh (fun b hb => Nat.lt_of_lt_of_le (hBv4 b hb).2 g4.size)
      have hmc4 := hmc3
      have hWc4 := hWc4.vis (fun b hb => hv4 b (Or.inl hb))
      have hO4_0 := hO4_0.call (hF.trans g4).size lt4
      have hF := Fine.own hF g4' hBm4 hid4
      obtain rfl := Option.some.inj h
      have homes := fun (b : Nat) (h : b < w.heap.size) => h
      intro ρ L w' _ he _ _
      exact ⟨A4_0, c4_0, none, 0, rfl, (hF.ext he).with (fun b h => Or.inl h), (hWc4.later he.fine).bare', (hO4_0.later he.fine).ret, OwnF.ret (OwnF.nil _ (fun _ => False) _ _ _), Dj.nil2, (hq4_0.trans (hq3_0.trans (hq0_0.trans rfl)))⟩
    ·have h := bif_f h hc131
     obtain ⟨r4, hr4, h⟩ := bse h
     obtain ⟨s4_0, qc4⟩ := r4
     try dsimp only at h
     have hBv4 : ∀ b, (r4_take.S a0) b → ¬ _ ∧ b < _ := fun b hb => by exact ⟨(hWc3.lt b hb).2.1, hWc3.lt1 b hb⟩
     have hBm4 : ∀ b, (r4_take.S a0) b → (r4_stream.S a0) b ∨ w.heap.size ≤ b := fun b hb => by exact hmc3 b hb
     refine ok_callo (r4_take.S a0) rfl hBv4 (fun L4 w4 g4 lt4 => ?_)
     refine (r4_take.c k _ qc3 _ _ (IntKind.i64.wrap ((((qc0.1).length : Nat) : Int) - qc0.2.1)) (s4_0, qc4) hr4  w4 (hWc3.later g4).bare' (hSc3_0.later ((hF.trans g4).with hBm4))).mono ?_
     rintro e w4' ⟨A4_0, c4_0, rfl, hf4, hWc4, hO4_0, hq4_0⟩
     refine ⟨((A4_0, s4_0.length, c4_0), ()), rfl, hf4, fun g4' hid4 hv4 => ?_⟩
     try dsimp only
     have hSc4_0 : SlR R23.row (r4_stream.S a0) w A0_0 c0_0 qc4.1 := by rw [hq4_0]; exact hSc3_0
     have dk4_o141 : Dj A4_0 a0 := Dj.new hO4_0.fresh (fun b hb => Nat.lt_of_lt_of_le (hBv4 b hb).2 g4.size)
     have hmc4 := hmc3
     have hWc4 := hWc4.vis (fun b hb => hv4 b (Or.inl hb))
     have hO4_0 := hO4_0.call (hF.trans g4).size lt4
     have hF := Fine.own hF g4' hBm4 hid4
     obtain rfl := Option.some.inj h
     have homes := fun (b : Nat) (h : b < w.heap.size) => h
     intro ρ L w' _ he _ _
     exact ⟨A4_0, c4_0, none, 0, rfl, (hF.ext he).with (fun b h => Or.inl h), (hWc4.later he.fine).bare', (hO4_0.later he.fine).ret, OwnF.ret (OwnF.nil _ (fun _ => False) _ _ _), Dj.nil2, (hq4_0.trans (hq3_0.trans (hq0_0.trans rfl)))⟩
abbrev r4_frame.S (a0 : Option Addr) : Nat → Prop := fun b => blk (a0, 0, 0) b
def r4_frame.F (k : Nat) (q0 : (List Int) × Int × Int × Int) : Option (Int × Int × Int × Int × Int × Bool × (List Int) × (List (Int × Int)) × ((List Int) × Int × Int × Int)) := (getI q0.1 q0.2.1).bind fun r3 => bif IntKind.i64.wrap r3 == 0 then (some ((IntKind.i64.wrap r3, 0, 0, 0, 0, false, [], [], (q0.1, (IntKind.i64.wrap (q0.2.1 + 1)), q0.2.2.1, q0.2.2.2)))) else (bif IntKind.i64.wrap r3 == 1 then (some ((IntKind.i64.wrap r3, 0, 0, 0, 0, false, [], [], (q0.1, (IntKind.i64.wrap (q0.2.1 + 1)), q0.2.2.1, q0.2.2.2)))) else (bif IntKind.i64.wrap r3 == 30 then (some ((IntKind.i64.wrap r3, 0, 0, 0, 0, false, [], [], (q0.1, (IntKind.i64.wrap (q0.2.1 + 1)), q0.2.2.1, q0.2.2.2)))) else (bif IntKind.i64.wrap r3 == 2 then ((r4_ack.F k ((q0.1, (IntKind.i64.wrap (q0.2.1 + 1)), q0.2.2.1, q0.2.2.2))).bind fun (v4_0, v4_1, v4_2, v4_3, v4_4, v4_5, s4_6, s4_7, qc4) => some ((v4_0, v4_1, v4_2, v4_3, v4_4, v4_5, s4_6, s4_7, qc4))) else (bif IntKind.i64.wrap r3 == 4 then ((r4_number.F k ((q0.1, (IntKind.i64.wrap (q0.2.1 + 1)), q0.2.2.1, q0.2.2.2))).bind fun (v4_0, qc4) => (r4_number.F k qc4).bind fun (v5_0, qc5) => (r4_number.F k qc5).bind fun (v6_0, qc6) => some ((IntKind.i64.wrap r3, v4_0, v6_0, 0, v5_0, false, [], [], qc6))) else (bif IntKind.i64.wrap r3 == 5 then ((r4_number.F k ((q0.1, (IntKind.i64.wrap (q0.2.1 + 1)), q0.2.2.1, q0.2.2.2))).bind fun (v4_0, qc4) => (r4_number.F k qc4).bind fun (v5_0, qc5) => some ((IntKind.i64.wrap r3, v4_0, 0, 0, v5_0, false, [], [], qc5))) else (bif IntKind.i64.wrap r3 == 8 then ((r4_stream.F k ((q0.1, (IntKind.i64.wrap (q0.2.1 + 1)), q0.2.2.1, q0.2.2.2)) (IntKind.i64.wrap r3) q0.2.1).bind fun (v4_0, v4_1, v4_2, v4_3, v4_4, v4_5, s4_6, s4_7, qc4) => some ((v4_0, v4_1, v4_2, v4_3, v4_4, v4_5, s4_6, s4_7, qc4))) else (bif IntKind.i64.wrap r3 == 9 then ((r4_stream.F k ((q0.1, (IntKind.i64.wrap (q0.2.1 + 1)), q0.2.2.1, q0.2.2.2)) (IntKind.i64.wrap r3) q0.2.1).bind fun (v4_0, v4_1, v4_2, v4_3, v4_4, v4_5, s4_6, s4_7, qc4) => some ((v4_0, v4_1, v4_2, v4_3, v4_4, v4_5, s4_6, s4_7, qc4))) else (bif IntKind.i64.wrap r3 == 10 then ((r4_stream.F k ((q0.1, (IntKind.i64.wrap (q0.2.1 + 1)), q0.2.2.1, q0.2.2.2)) (IntKind.i64.wrap r3) q0.2.1).bind fun (v4_0, v4_1, v4_2, v4_3, v4_4, v4_5, s4_6, s4_7, qc4) => some ((v4_0, v4_1, v4_2, v4_3, v4_4, v4_5, s4_6, s4_7, qc4))) else (bif IntKind.i64.wrap r3 == 11 then ((r4_stream.F k ((q0.1, (IntKind.i64.wrap (q0.2.1 + 1)), q0.2.2.1, q0.2.2.2)) (IntKind.i64.wrap r3) q0.2.1).bind fun (v4_0, v4_1, v4_2, v4_3, v4_4, v4_5, s4_6, s4_7, qc4) => some ((v4_0, v4_1, v4_2, v4_3, v4_4, v4_5, s4_6, s4_7, qc4))) else (bif IntKind.i64.wrap r3 == 12 then ((r4_stream.F k ((q0.1, (IntKind.i64.wrap (q0.2.1 + 1)), q0.2.2.1, q0.2.2.2)) (IntKind.i64.wrap r3) q0.2.1).bind fun (v4_0, v4_1, v4_2, v4_3, v4_4, v4_5, s4_6, s4_7, qc4) => some ((v4_0, v4_1, v4_2, v4_3, v4_4, v4_5, s4_6, s4_7, qc4))) else (bif IntKind.i64.wrap r3 == 13 then ((r4_stream.F k ((q0.1, (IntKind.i64.wrap (q0.2.1 + 1)), q0.2.2.1, q0.2.2.2)) (IntKind.i64.wrap r3) q0.2.1).bind fun (v4_0, v4_1, v4_2, v4_3, v4_4, v4_5, s4_6, s4_7, qc4) => some ((v4_0, v4_1, v4_2, v4_3, v4_4, v4_5, s4_6, s4_7, qc4))) else (bif IntKind.i64.wrap r3 == 14 then ((r4_stream.F k ((q0.1, (IntKind.i64.wrap (q0.2.1 + 1)), q0.2.2.1, q0.2.2.2)) (IntKind.i64.wrap r3) q0.2.1).bind fun (v4_0, v4_1, v4_2, v4_3, v4_4, v4_5, s4_6, s4_7, qc4) => some ((v4_0, v4_1, v4_2, v4_3, v4_4, v4_5, s4_6, s4_7, qc4))) else (bif IntKind.i64.wrap r3 == 15 then ((r4_stream.F k ((q0.1, (IntKind.i64.wrap (q0.2.1 + 1)), q0.2.2.1, q0.2.2.2)) (IntKind.i64.wrap r3) q0.2.1).bind fun (v4_0, v4_1, v4_2, v4_3, v4_4, v4_5, s4_6, s4_7, qc4) => some ((v4_0, v4_1, v4_2, v4_3, v4_4, v4_5, s4_6, s4_7, qc4))) else (bif IntKind.i64.wrap r3 == 16 then ((r4_number.F k ((q0.1, (IntKind.i64.wrap (q0.2.1 + 1)), q0.2.2.1, q0.2.2.2))).bind fun (v4_0, qc4) => some ((IntKind.i64.wrap r3, 0, 0, v4_0, 0, false, [], [], qc4))) else (bif IntKind.i64.wrap r3 == 18 then ((r4_number.F k ((q0.1, (IntKind.i64.wrap (q0.2.1 + 1)), q0.2.2.1, q0.2.2.2))).bind fun (v4_0, qc4) => some ((IntKind.i64.wrap r3, 0, 0, v4_0, 0, false, [], [], qc4))) else (bif IntKind.i64.wrap r3 == 17 then ((r4_number.F k ((q0.1, (IntKind.i64.wrap (q0.2.1 + 1)), q0.2.2.1, q0.2.2.2))).bind fun (v4_0, qc4) => (r4_number.F k qc4).bind fun (v5_0, qc5) => some ((IntKind.i64.wrap r3, v4_0, 0, v5_0, 0, false, [], [], qc5))) else (bif IntKind.i64.wrap r3 == 28 then ((r4_number.F k ((q0.1, (IntKind.i64.wrap (q0.2.1 + 1)), q0.2.2.1, q0.2.2.2))).bind fun (v4_0, qc4) => (r4_number.F k qc4).bind fun (v5_0, qc5) => (r4_take.F k qc5 v5_0).bind fun (s6_0, qc6) => some ((IntKind.i64.wrap r3, 0, 0, 0, v4_0, false, s6_0, [], qc6))) else ((r4_fails.F k ((q0.1, (IntKind.i64.wrap (q0.2.1 + 1)), q0.2.2.1, q0.2.2.2)) 5 q0.2.1).bind fun qc4 => some ((0, 0, 0, 0, 0, false, [], [], qc4))))))))))))))))))))
abbrev r4_frame.A : Nat → LA := noA
set_option maxHeartbeats 4000000 in
theorem r4_frame.t (a0 : Option Addr) : tree Try.prog r4_frame.A noC Try.f32 [AV.v (Value.pointer a0)] [] =
  .need (Option.isSome a0) (
  .need (Option.isSome a0) (
  .ld (Option.map (fun x => Addr.add x 1) a0) ([Lf.i .i64]) (fun x0 =>
   .need (Option.isSome a0) (
   .need (Option.isSome a0) (
   .ld (Option.map (fun x => Addr.add x 0) a0) ([Lf.sl]) (fun x1 =>
    .need (decide (0 ≤ x0.1) && decide (x0.1 < ((x1.1.2.1 : Nat) : Int)) && Option.isSome x1.1.1) (
    .ld (Option.map (fun x => Addr.add x (Int.toNat x0.1 * 1)) x1.1.1) ([Lf.i IntKind.u8]) (fun x2 =>
     .need (Option.isSome a0) (
     .need (Option.isSome a0) (
     .ld (Option.map (fun x => Addr.add x 1) a0) ([Lf.i .i64]) (fun x3 =>
      .need (Option.isSome a0) (
      .need (Option.isSome a0) (
      .sto (Option.map (fun x => Addr.add x 1) a0) ([AV.v (.int .i64 (IntKind.i64.wrap (x3.1 + 1)))]) ([]) (
      bif IntKind.i64.wrap x2.1 == 0 then (
       .done (AV.agg [AV.v (.int .i64 (IntKind.i64.wrap x2.1)), AV.v (.int .i64 0), AV.v (.int .i64 0), AV.v (.int .i64 0), AV.v (.int .i64 0), AV.v (Value.bool false), AV.v (Value.slice none 0 0), AV.v (Value.slice none 0 0)]) ([]))
      else (
       bif IntKind.i64.wrap x2.1 == 1 then (
        .done (AV.agg [AV.v (.int .i64 (IntKind.i64.wrap x2.1)), AV.v (.int .i64 0), AV.v (.int .i64 0), AV.v (.int .i64 0), AV.v (.int .i64 0), AV.v (Value.bool false), AV.v (Value.slice none 0 0), AV.v (Value.slice none 0 0)]) ([]))
       else (
        bif IntKind.i64.wrap x2.1 == 30 then (
         .done (AV.agg [AV.v (.int .i64 (IntKind.i64.wrap x2.1)), AV.v (.int .i64 0), AV.v (.int .i64 0), AV.v (.int .i64 0), AV.v (.int .i64 0), AV.v (Value.bool false), AV.v (Value.slice none 0 0), AV.v (Value.slice none 0 0)]) ([]))
        else (
         bif IntKind.i64.wrap x2.1 == 2 then (
          .call 48 ([AV.v (Value.pointer a0)]) ([]) (Sh.agg 8) ([Lf.i .i64, Lf.i .i64, Lf.i .i64, Lf.i .i64, Lf.i .i64, Lf.b, Lf.sl, Lf.sl]) ([]) (fun x4 =>
           .done (AV.agg [AV.v (.int .i64 x4.1), AV.v (.int .i64 x4.2.1), AV.v (.int .i64 x4.2.2.1), AV.v (.int .i64 x4.2.2.2.1), AV.v (.int .i64 x4.2.2.2.2.1), AV.v (Value.bool x4.2.2.2.2.2.1), AV.v (Value.slice x4.2.2.2.2.2.2.1.1 x4.2.2.2.2.2.2.1.2.1 x4.2.2.2.2.2.2.1.2.2), AV.v (Value.slice x4.2.2.2.2.2.2.2.1.1 x4.2.2.2.2.2.2.2.1.2.1 x4.2.2.2.2.2.2.2.1.2.2)]) ([])))
         else (
          bif IntKind.i64.wrap x2.1 == 4 then (
           .call 49 ([AV.v (Value.pointer a0)]) ([]) (Sh.one) ([Lf.i .i64]) ([]) (fun x4 =>
            .call 49 ([AV.v (Value.pointer a0)]) ([]) (Sh.one) ([Lf.i .i64]) ([]) (fun x5 =>
             .call 49 ([AV.v (Value.pointer a0)]) ([]) (Sh.one) ([Lf.i .i64]) ([]) (fun x6 =>
              .done (AV.agg [AV.v (.int .i64 (IntKind.i64.wrap x2.1)), AV.v (.int .i64 x4.1), AV.v (.int .i64 x6.1), AV.v (.int .i64 0), AV.v (.int .i64 x5.1), AV.v (Value.bool false), AV.v (Value.slice none 0 0), AV.v (Value.slice none 0 0)]) ([])))))
          else (
           bif IntKind.i64.wrap x2.1 == 5 then (
            .call 49 ([AV.v (Value.pointer a0)]) ([]) (Sh.one) ([Lf.i .i64]) ([]) (fun x4 =>
             .call 49 ([AV.v (Value.pointer a0)]) ([]) (Sh.one) ([Lf.i .i64]) ([]) (fun x5 =>
              .done (AV.agg [AV.v (.int .i64 (IntKind.i64.wrap x2.1)), AV.v (.int .i64 x4.1), AV.v (.int .i64 0), AV.v (.int .i64 0), AV.v (.int .i64 x5.1), AV.v (Value.bool false), AV.v (Value.slice none 0 0), AV.v (Value.slice none 0 0)]) ([]))))
           else (
            bif IntKind.i64.wrap x2.1 == 8 then (
             .call 50 ([AV.v (Value.pointer a0), AV.v (.int .i64 (IntKind.i64.wrap x2.1)), AV.v (.int .i64 x0.1)]) ([]) (Sh.agg 8) ([Lf.i .i64, Lf.i .i64, Lf.i .i64, Lf.i .i64, Lf.i .i64, Lf.b, Lf.sl, Lf.sl]) ([]) (fun x4 =>
              .done (AV.agg [AV.v (.int .i64 x4.1), AV.v (.int .i64 x4.2.1), AV.v (.int .i64 x4.2.2.1), AV.v (.int .i64 x4.2.2.2.1), AV.v (.int .i64 x4.2.2.2.2.1), AV.v (Value.bool x4.2.2.2.2.2.1), AV.v (Value.slice x4.2.2.2.2.2.2.1.1 x4.2.2.2.2.2.2.1.2.1 x4.2.2.2.2.2.2.1.2.2), AV.v (Value.slice x4.2.2.2.2.2.2.2.1.1 x4.2.2.2.2.2.2.2.1.2.1 x4.2.2.2.2.2.2.2.1.2.2)]) ([])))
            else (
             bif IntKind.i64.wrap x2.1 == 9 then (
              .call 50 ([AV.v (Value.pointer a0), AV.v (.int .i64 (IntKind.i64.wrap x2.1)), AV.v (.int .i64 x0.1)]) ([]) (Sh.agg 8) ([Lf.i .i64, Lf.i .i64, Lf.i .i64, Lf.i .i64, Lf.i .i64, Lf.b, Lf.sl, Lf.sl]) ([]) (fun x4 =>
               .done (AV.agg [AV.v (.int .i64 x4.1), AV.v (.int .i64 x4.2.1), AV.v (.int .i64 x4.2.2.1), AV.v (.int .i64 x4.2.2.2.1), AV.v (.int .i64 x4.2.2.2.2.1), AV.v (Value.bool x4.2.2.2.2.2.1), AV.v (Value.slice x4.2.2.2.2.2.2.1.1 x4.2.2.2.2.2.2.1.2.1 x4.2.2.2.2.2.2.1.2.2), AV.v (Value.slice x4.2.2.2.2.2.2.2.1.1 x4.2.2.2.2.2.2.2.1.2.1 x4.2.2.2.2.2.2.2.1.2.2)]) ([])))
             else (
              bif IntKind.i64.wrap x2.1 == 10 then (
               .call 50 ([AV.v (Value.pointer a0), AV.v (.int .i64 (IntKind.i64.wrap x2.1)), AV.v (.int .i64 x0.1)]) ([]) (Sh.agg 8) ([Lf.i .i64, Lf.i .i64, Lf.i .i64, Lf.i .i64, Lf.i .i64, Lf.b, Lf.sl, Lf.sl]) ([]) (fun x4 =>
                .done (AV.agg [AV.v (.int .i64 x4.1), AV.v (.int .i64 x4.2.1), AV.v (.int .i64 x4.2.2.1), AV.v (.int .i64 x4.2.2.2.1), AV.v (.int .i64 x4.2.2.2.2.1), AV.v (Value.bool x4.2.2.2.2.2.1), AV.v (Value.slice x4.2.2.2.2.2.2.1.1 x4.2.2.2.2.2.2.1.2.1 x4.2.2.2.2.2.2.1.2.2), AV.v (Value.slice x4.2.2.2.2.2.2.2.1.1 x4.2.2.2.2.2.2.2.1.2.1 x4.2.2.2.2.2.2.2.1.2.2)]) ([])))
              else (
               bif IntKind.i64.wrap x2.1 == 11 then (
                .call 50 ([AV.v (Value.pointer a0), AV.v (.int .i64 (IntKind.i64.wrap x2.1)), AV.v (.int .i64 x0.1)]) ([]) (Sh.agg 8) ([Lf.i .i64, Lf.i .i64, Lf.i .i64, Lf.i .i64, Lf.i .i64, Lf.b, Lf.sl, Lf.sl]) ([]) (fun x4 =>
                 .done (AV.agg [AV.v (.int .i64 x4.1), AV.v (.int .i64 x4.2.1), AV.v (.int .i64 x4.2.2.1), AV.v (.int .i64 x4.2.2.2.1), AV.v (.int .i64 x4.2.2.2.2.1), AV.v (Value.bool x4.2.2.2.2.2.1), AV.v (Value.slice x4.2.2.2.2.2.2.1.1 x4.2.2.2.2.2.2.1.2.1 x4.2.2.2.2.2.2.1.2.2), AV.v (Value.slice x4.2.2.2.2.2.2.2.1.1 x4.2.2.2.2.2.2.2.1.2.1 x4.2.2.2.2.2.2.2.1.2.2)]) ([])))
               else (
                bif IntKind.i64.wrap x2.1 == 12 then (
                 .call 50 ([AV.v (Value.pointer a0), AV.v (.int .i64 (IntKind.i64.wrap x2.1)), AV.v (.int .i64 x0.1)]) ([]) (Sh.agg 8) ([Lf.i .i64, Lf.i .i64, Lf.i .i64, Lf.i .i64, Lf.i .i64, Lf.b, Lf.sl, Lf.sl]) ([]) (fun x4 =>
                  .done (AV.agg [AV.v (.int .i64 x4.1), AV.v (.int .i64 x4.2.1), AV.v (.int .i64 x4.2.2.1), AV.v (.int .i64 x4.2.2.2.1), AV.v (.int .i64 x4.2.2.2.2.1), AV.v (Value.bool x4.2.2.2.2.2.1), AV.v (Value.slice x4.2.2.2.2.2.2.1.1 x4.2.2.2.2.2.2.1.2.1 x4.2.2.2.2.2.2.1.2.2), AV.v (Value.slice x4.2.2.2.2.2.2.2.1.1 x4.2.2.2.2.2.2.2.1.2.1 x4.2.2.2.2.2.2.2.1.2.2)]) ([])))
                else (
                 bif IntKind.i64.wrap x2.1 == 13 then (
                  .call 50 ([AV.v (Value.pointer a0), AV.v (.int .i64 (IntKind.i64.wrap x2.1)), AV.v (.int .i64 x0.1)]) ([]) (Sh.agg 8) ([Lf.i .i64, Lf.i .i64, Lf.i .i64, Lf.i .i64, Lf.i .i64, Lf.b, Lf.sl, Lf.sl]) ([]) (fun x4 =>
                   .done (AV.agg [AV.v (.int .i64 x4.1), AV.v (.int .i64 x4.2.1), AV.v (.int .i64 x4.2.2.1), AV.v (.int .i64 x4.2.2.2.1), AV.v (.int .i64 x4.2.2.2.2.1), AV.v (Value.bool x4.2.2.2.2.2.1), AV.v (Value.slice x4.2.2.2.2.2.2.1.1 x4.2.2.2.2.2.2.1.2.1 x4.2.2.2.2.2.2.1.2.2), AV.v (Value.slice x4.2.2.2.2.2.2.2.1.1 x4.2.2.2.2.2.2.2.1.2.1 x4.2.2.2.2.2.2.2.1.2.2)]) ([])))
                 else (
                  bif IntKind.i64.wrap x2.1 == 14 then (
                   .call 50 ([AV.v (Value.pointer a0), AV.v (.int .i64 (IntKind.i64.wrap x2.1)), AV.v (.int .i64 x0.1)]) ([]) (Sh.agg 8) ([Lf.i .i64, Lf.i .i64, Lf.i .i64, Lf.i .i64, Lf.i .i64, Lf.b, Lf.sl, Lf.sl]) ([]) (fun x4 =>
                    .done (AV.agg [AV.v (.int .i64 x4.1), AV.v (.int .i64 x4.2.1), AV.v (.int .i64 x4.2.2.1), AV.v (.int .i64 x4.2.2.2.1), AV.v (.int .i64 x4.2.2.2.2.1), AV.v (Value.bool x4.2.2.2.2.2.1), AV.v (Value.slice x4.2.2.2.2.2.2.1.1 x4.2.2.2.2.2.2.1.2.1 x4.2.2.2.2.2.2.1.2.2), AV.v (Value.slice x4.2.2.2.2.2.2.2.1.1 x4.2.2.2.2.2.2.2.1.2.1 x4.2.2.2.2.2.2.2.1.2.2)]) ([])))
                  else (
                   bif IntKind.i64.wrap x2.1 == 15 then (
                    .call 50 ([AV.v (Value.pointer a0), AV.v (.int .i64 (IntKind.i64.wrap x2.1)), AV.v (.int .i64 x0.1)]) ([]) (Sh.agg 8) ([Lf.i .i64, Lf.i .i64, Lf.i .i64, Lf.i .i64, Lf.i .i64, Lf.b, Lf.sl, Lf.sl]) ([]) (fun x4 =>
                     .done (AV.agg [AV.v (.int .i64 x4.1), AV.v (.int .i64 x4.2.1), AV.v (.int .i64 x4.2.2.1), AV.v (.int .i64 x4.2.2.2.1), AV.v (.int .i64 x4.2.2.2.2.1), AV.v (Value.bool x4.2.2.2.2.2.1), AV.v (Value.slice x4.2.2.2.2.2.2.1.1 x4.2.2.2.2.2.2.1.2.1 x4.2.2.2.2.2.2.1.2.2), AV.v (Value.slice x4.2.2.2.2.2.2.2.1.1 x4.2.2.2.2.2.2.2.1.2.1 x4.2.2.2.2.2.2.2.1.2.2)]) ([])))
                   else (
                    bif IntKind.i64.wrap x2.1 == 16 then (
                     .call 49 ([AV.v (Value.pointer a0)]) ([]) (Sh.one) ([Lf.i .i64]) ([]) (fun x4 =>
                      .done (AV.agg [AV.v (.int .i64 (IntKind.i64.wrap x2.1)), AV.v (.int .i64 0), AV.v (.int .i64 0), AV.v (.int .i64 x4.1), AV.v (.int .i64 0), AV.v (Value.bool false), AV.v (Value.slice none 0 0), AV.v (Value.slice none 0 0)]) ([])))
                    else (
                     bif IntKind.i64.wrap x2.1 == 18 then (
                      .call 49 ([AV.v (Value.pointer a0)]) ([]) (Sh.one) ([Lf.i .i64]) ([]) (fun x4 =>
                       .done (AV.agg [AV.v (.int .i64 (IntKind.i64.wrap x2.1)), AV.v (.int .i64 0), AV.v (.int .i64 0), AV.v (.int .i64 x4.1), AV.v (.int .i64 0), AV.v (Value.bool false), AV.v (Value.slice none 0 0), AV.v (Value.slice none 0 0)]) ([])))
                     else (
                      bif IntKind.i64.wrap x2.1 == 17 then (
                       .call 49 ([AV.v (Value.pointer a0)]) ([]) (Sh.one) ([Lf.i .i64]) ([]) (fun x4 =>
                        .call 49 ([AV.v (Value.pointer a0)]) ([]) (Sh.one) ([Lf.i .i64]) ([]) (fun x5 =>
                         .done (AV.agg [AV.v (.int .i64 (IntKind.i64.wrap x2.1)), AV.v (.int .i64 x4.1), AV.v (.int .i64 0), AV.v (.int .i64 x5.1), AV.v (.int .i64 0), AV.v (Value.bool false), AV.v (Value.slice none 0 0), AV.v (Value.slice none 0 0)]) ([]))))
                      else (
                       bif IntKind.i64.wrap x2.1 == 28 then (
                        .call 49 ([AV.v (Value.pointer a0)]) ([]) (Sh.one) ([Lf.i .i64]) ([]) (fun x4 =>
                         .call 49 ([AV.v (Value.pointer a0)]) ([]) (Sh.one) ([Lf.i .i64]) ([]) (fun x5 =>
                          .call 51 ([AV.v (Value.pointer a0), AV.v (.int .i64 x5.1)]) ([]) (Sh.one) ([Lf.sl]) ([]) (fun x6 =>
                           .done (AV.agg [AV.v (.int .i64 (IntKind.i64.wrap x2.1)), AV.v (.int .i64 0), AV.v (.int .i64 0), AV.v (.int .i64 0), AV.v (.int .i64 x4.1), AV.v (Value.bool false), AV.v (Value.slice x6.1.1 x6.1.2.1 x6.1.2.2), AV.v (Value.slice none 0 0)]) ([])))))
                       else (
                        .call 31 ([AV.v (Value.pointer a0), AV.v (.int .i64 5), AV.v (.int .i64 x0.1)]) ([]) (Sh.tup []) ([]) ([]) (fun x4 =>
                         .done (AV.agg [AV.v (.int .i64 0), AV.v (.int .i64 0), AV.v (.int .i64 0), AV.v (.int .i64 0), AV.v (.int .i64 0), AV.v (Value.bool false), AV.v (Value.slice none 0 0), AV.v (Value.slice none 0 0)]) ([])))))))))))))))))))))))))))))))))) := by kernel_rfl
set_option maxHeartbeats 4000000 in
theorem r4_frame.c (k : Nat) (a0 : Option Addr) (q0 : (List Int) × Int × Int × Int) (A0_0 : Option Addr) (c0_0 : Nat) (r : Int × Int × Int × Int × Int × Bool × (List Int) × (List (Int × Int)) × ((List Int) × Int × Int × Int)) (h : r4_frame.F k q0 = some r)  (w : World) (hW0 : OwnO 0 (fun _ => False) w 61 RW61 a0 1 [((A0_0, q0.1.length, c0_0), q0.2.1, q0.2.2.1, q0.2.2.2)]) (hS0_0 : SlR R23.row (r4_frame.S a0) w A0_0 c0_0 q0.1) : Calls Try.prog 32 (AV.gs id [AV.v (Value.pointer a0)]).toArray w fun e w' => ∃ (B6 : Option Addr) (d6 : Nat) (B7 : Option Addr) (d7 : Nat), e = .returned (((Sh.agg 8 : Sh).av (vs [Lf.i .i64, Lf.i .i64, Lf.i .i64, Lf.i .i64, Lf.i .i64, Lf.b, Lf.sl, Lf.sl] (r.1, r.2.1, r.2.2.1, r.2.2.2.1, r.2.2.2.2.1, r.2.2.2.2.2.1, (B6, (r.2.2.2.2.2.2.1).length, d6), (B7, (r.2.2.2.2.2.2.2.1).length, d7), ()))).g id) ∧ Fine (r4_frame.S a0) w (r4_frame.S a0) w' ∧ OwnO 0 (fun _ => False) w' 61 RW61 a0 1 [((A0_0, r.2.2.2.2.2.2.2.2.1.length, c0_0), r.2.2.2.2.2.2.2.2.2.1, r.2.2.2.2.2.2.2.2.2.2.1, r.2.2.2.2.2.2.2.2.2.2.2)] ∧ OwnF w.heap.size (fun b => b < w.heap.size) w' 5 R23 B6 d6 r.2.2.2.2.2.2.1 ∧ OwnF w.heap.size (fun b => b < w.heap.size) w' 42 R34 B7 d7 r.2.2.2.2.2.2.2.1 ∧ Dj B7 B6 ∧ r.2.2.2.2.2.2.2.2.1 = q0.1 := by
 refine enter0 mixed r4_frame.A noC [AV.v (Value.pointer a0)] Try.func32 rfl rfl rfl (fun hF => ?_)
 have hA_a0 : Option.isSome a0 = true := hW0.sl.some (by simp)
 have hN_a0 : Option.isNone a0 = false := by cases a0 <;> simp_all
 have hF : Fine (r4_frame.S a0) w (fun _ => False) w := ⟨rfl, rfl, rfl, Nat.le_refl _, fun _ _ _ => rfl, fun b h => h.elim⟩
 have hm0 : ∀ b, blk (a0, 0, 0) b → (r4_frame.S a0) b ∨ w.heap.size ≤ b := fun b hb => Or.inl hb
 rw [r4_frame.t]
 unfold r4_frame.F at h
 try dsimp only at h
 refine ok_need hA_a0 ?_
 refine ok_need hA_a0 ?_
 refine ok_ob 1 hW0.sl (Fine.refl _ _) (fun cs hcs => ⟨q0.2.1, by rw [hcs]; rfl, ?_⟩)
 try dsimp only
 refine ok_need hA_a0 ?_
 refine ok_need hA_a0 ?_
 refine ok_ob 0 hW0.sl (Fine.refl _ _) (fun cs hcs => ⟨(A0_0, q0.1.length, c0_0), by rw [hcs]; rfl, ?_⟩)
 try dsimp only
 obtain ⟨r3, hr4, h⟩ := bse h
 refine ok_need (getI_need (hS0_0.later hF) hr4) ?_
 refine ok_get hS0_0 hF hr4 (by simp) (fun cs hcs => ⟨(r3, ()), hcs.symm, ?_⟩)
 try dsimp only
 refine ok_need hA_a0 ?_
 refine ok_need hA_a0 ?_
 refine ok_ob 1 hW0.sl (Fine.refl _ _) (fun cs hcs => ⟨q0.2.1, by rw [hcs]; rfl, ?_⟩)
 try dsimp only
 refine ok_need hA_a0 ?_
 refine ok_need hA_a0 ?_
 refine ok_put0 (R := RW61) (x' := ((A0_0, q0.1.length, c0_0), (IntKind.i64.wrap (q0.2.1 + 1)), q0.2.2.1, q0.2.2.2)) (vs := [Value.int IntKind.i64 (IntKind.i64.wrap (q0.2.1 + 1))]) 1 hW0 (Nat.le_of_ble_eq_true rfl) rfl (fun _ => rfl) (fun Lt5 wt5 ht5 gst5 hdt5 => ?_)
 have hF := Fine.own hF gst5 hm0 hdt5
 have hW0 := ht5
 refine ok_if (fun hc6 => ?_) (fun hc6 => ?_)
 ·have h := bif_t h hc6
  obtain rfl := Option.some.inj h
  have homes := fun (b : Nat) (h : b < w.heap.size) => h
  intro ρ L w' _ he _ _
  exact ⟨none, 0, none, 0, rfl, (hF.ext he).with (fun b h => Or.inl h), (hW0.later he.fine).bare', OwnF.ret (OwnF.nil _ (fun _ => False) _ _ _), OwnF.ret (OwnF.nil _ (fun _ => False) _ _ _), Dj.nil2, rfl⟩
 ·have h := bif_f h hc6
  refine ok_if (fun hc7 => ?_) (fun hc7 => ?_)
  ·have h := bif_t h hc7
   obtain rfl := Option.some.inj h
   have homes := fun (b : Nat) (h : b < w.heap.size) => h
   intro ρ L w' _ he _ _
   exact ⟨none, 0, none, 0, rfl, (hF.ext he).with (fun b h => Or.inl h), (hW0.later he.fine).bare', OwnF.ret (OwnF.nil _ (fun _ => False) _ _ _), OwnF.ret (OwnF.nil _ (fun _ => False) _ _ _), Dj.nil2, rfl⟩
  ·have h := bif_f h hc7
   refine ok_if (fun hc8 => ?_) (fun hc8 => ?_)
   ·have h := bif_t h hc8
    obtain rfl := Option.some.inj h
    have homes := fun (b : Nat) (h : b < w.heap.size) => h
    intro ρ L w' _ he _ _
    exact ⟨none, 0, none, 0, rfl, (hF.ext he).with (fun b h => Or.inl h), (hW0.later he.fine).bare', OwnF.ret (OwnF.nil _ (fun _ => False) _ _ _), OwnF.ret (OwnF.nil _ (fun _ => False) _ _ _), Dj.nil2, rfl⟩
   ·have h := bif_f h hc8
    refine ok_if (fun hc9 => ?_) (fun hc9 => ?_)
    ·have h := bif_t h hc9
     obtain ⟨r4, hr4, h⟩ := bse h
     obtain ⟨v4_0, v4_1, v4_2, v4_3, v4_4, v4_5, s4_6, s4_7, qc4⟩ := r4
     try dsimp only at h
     have hBv4 : ∀ b, (r4_ack.S a0) b → ¬ _ ∧ b < _ := fun b hb => by exact ⟨(hW0.lt b hb).2.1, hW0.lt1 b hb⟩
     have hBm4 : ∀ b, (r4_ack.S a0) b → (r4_frame.S a0) b ∨ w.heap.size ≤ b := fun b hb => by exact hm0 b hb
     refine ok_callo (r4_ack.S a0) rfl hBv4 (fun L4 w4 g4 lt4 => ?_)
     refine (r4_ack.c k _ ((q0.1, (IntKind.i64.wrap (q0.2.1 + 1)), q0.2.2.1, q0.2.2.2)) _ _ (v4_0, v4_1, v4_2, v4_3, v4_4, v4_5, s4_6, s4_7, qc4) hr4  w4 (hW0.later g4).bare' (hS0_0.later ((hF.trans g4).with hBm4))).mono ?_
     rintro e w4' ⟨A4_6, c4_6, A4_7, c4_7, rfl, hf4, hWc4, hO4_6, hO4_7, dd4_1_0, hq4_0⟩
     refine ⟨(v4_0, v4_1, v4_2, v4_3, v4_4, v4_5, (A4_6, s4_6.length, c4_6), (A4_7, s4_7.length, c4_7), ()), rfl, hf4, fun g4' hid4 hv4 => ?_⟩
     try dsimp only
     have hSc4_0 : SlR R23.row (r4_frame.S a0) w A0_0 c0_0 qc4.1 := by rw [hq4_0]; exact hS0_0
     have dk4_o10 : Dj A4_6 a0 := Dj.new hO4_6.fresh (fun b hb => Nat.lt_of_lt_of_le (hBv4 b hb).2 g4.size)
     have dk4_o11 : Dj A4_7 a0 := Dj.new hO4_7.fresh (fun b hb => Nat.lt_of_lt_of_le (hBv4 b hb).2 g4.size)
     have hmc4 := hm0
     have hWc4 := hWc4.vis (fun b hb => hv4 b (Or.inl hb))
     have hO4_6 := hO4_6.call (hF.trans g4).size lt4
     have hO4_7 := hO4_7.call (hF.trans g4).size lt4
     have hF := Fine.own hF g4' hBm4 hid4
     obtain rfl := Option.some.inj h
     have homes := fun (b : Nat) (h : b < w.heap.size) => h
     intro ρ L w' _ he _ _
     exact ⟨A4_6, c4_6, A4_7, c4_7, rfl, (hF.ext he).with (fun b h => Or.inl h), (hWc4.later he.fine).bare', (hO4_6.later he.fine).ret, (hO4_7.later he.fine).ret, dd4_1_0, (hq4_0.trans rfl)⟩
    ·have h := bif_f h hc9
     refine ok_if (fun hc14 => ?_) (fun hc14 => ?_)
     ·have h := bif_t h hc14
      obtain ⟨r4, hr4, h⟩ := bse h
      obtain ⟨v4_0, qc4⟩ := r4
      try dsimp only at h
      have hBv4 : ∀ b, (r4_number.S a0) b → ¬ _ ∧ b < _ := fun b hb => by exact ⟨(hW0.lt b hb).2.1, hW0.lt1 b hb⟩
      have hBm4 : ∀ b, (r4_number.S a0) b → (r4_frame.S a0) b ∨ w.heap.size ≤ b := fun b hb => by exact hm0 b hb
      refine ok_callo (r4_number.S a0) rfl hBv4 (fun L4 w4 g4 lt4 => ?_)
      refine (r4_number.c k _ ((q0.1, (IntKind.i64.wrap (q0.2.1 + 1)), q0.2.2.1, q0.2.2.2)) _ _ (v4_0, qc4) hr4  w4 (hW0.later g4).bare' (hS0_0.later ((hF.trans g4).with hBm4))).mono ?_
      rintro e w4' ⟨rfl, hf4, hWc4, hq4_0⟩
      refine ⟨(v4_0, ()), rfl, hf4, fun g4' hid4 hv4 => ?_⟩
      try dsimp only
      have hSc4_0 : SlR R23.row (r4_frame.S a0) w A0_0 c0_0 qc4.1 := by rw [hq4_0]; exact hS0_0
      have hmc4 := hm0
      have hWc4 := hWc4.vis (fun b hb => hv4 b (Or.inl hb))
      have hF := Fine.own hF g4' hBm4 hid4
      obtain ⟨r5, hr5, h⟩ := bse h
      obtain ⟨v5_0, qc5⟩ := r5
      try dsimp only at h
      have hBv5 : ∀ b, (r4_number.S a0) b → ¬ _ ∧ b < _ := fun b hb => by exact ⟨(hWc4.lt b hb).2.1, hWc4.lt1 b hb⟩
      have hBm5 : ∀ b, (r4_number.S a0) b → (r4_frame.S a0) b ∨ w.heap.size ≤ b := fun b hb => by exact hmc4 b hb
      refine ok_callo (r4_number.S a0) rfl hBv5 (fun L5 w5 g5 lt5 => ?_)
      refine (r4_number.c k _ qc4 _ _ (v5_0, qc5) hr5  w5 (hWc4.later g5).bare' (hSc4_0.later ((hF.trans g5).with hBm5))).mono ?_
      rintro e w5' ⟨rfl, hf5, hWc5, hq5_0⟩
      refine ⟨(v5_0, ()), rfl, hf5, fun g5' hid5 hv5 => ?_⟩
      try dsimp only
      have hSc5_0 : SlR R23.row (r4_frame.S a0) w A0_0 c0_0 qc5.1 := by rw [hq5_0]; exact hSc4_0
      have hmc5 := hmc4
      have hWc5 := hWc5.vis (fun b hb => hv5 b (Or.inl hb))
      have hF := Fine.own hF g5' hBm5 hid5
      obtain ⟨r6, hr6, h⟩ := bse h
      obtain ⟨v6_0, qc6⟩ := r6
      try dsimp only at h
      have hBv6 : ∀ b, (r4_number.S a0) b → ¬ _ ∧ b < _ := fun b hb => by exact ⟨(hWc5.lt b hb).2.1, hWc5.lt1 b hb⟩
      have hBm6 : ∀ b, (r4_number.S a0) b → (r4_frame.S a0) b ∨ w.heap.size ≤ b := fun b hb => by exact hmc5 b hb
      refine ok_callo (r4_number.S a0) rfl hBv6 (fun L6 w6 g6 lt6 => ?_)
      refine (r4_number.c k _ qc5 _ _ (v6_0, qc6) hr6  w6 (hWc5.later g6).bare' (hSc5_0.later ((hF.trans g6).with hBm6))).mono ?_
      rintro e w6' ⟨rfl, hf6, hWc6, hq6_0⟩
      refine ⟨(v6_0, ()), rfl, hf6, fun g6' hid6 hv6 => ?_⟩
      try dsimp only
      have hSc6_0 : SlR R23.row (r4_frame.S a0) w A0_0 c0_0 qc6.1 := by rw [hq6_0]; exact hSc5_0
      have hmc6 := hmc5
      have hWc6 := hWc6.vis (fun b hb => hv6 b (Or.inl hb))
      have hF := Fine.own hF g6' hBm6 hid6
      obtain rfl := Option.some.inj h
      have homes := fun (b : Nat) (h : b < w.heap.size) => h
      intro ρ L w' _ he _ _
      exact ⟨none, 0, none, 0, rfl, (hF.ext he).with (fun b h => Or.inl h), (hWc6.later he.fine).bare', OwnF.ret (OwnF.nil _ (fun _ => False) _ _ _), OwnF.ret (OwnF.nil _ (fun _ => False) _ _ _), Dj.nil2, (hq6_0.trans (hq5_0.trans (hq4_0.trans rfl)))⟩
     ·have h := bif_f h hc14
      refine ok_if (fun hc21 => ?_) (fun hc21 => ?_)
      ·have h := bif_t h hc21
       obtain ⟨r4, hr4, h⟩ := bse h
       obtain ⟨v4_0, qc4⟩ := r4
       try dsimp only at h
       have hBv4 : ∀ b, (r4_number.S a0) b → ¬ _ ∧ b < _ := fun b hb => by exact ⟨(hW0.lt b hb).2.1, hW0.lt1 b hb⟩
       have hBm4 : ∀ b, (r4_number.S a0) b → (r4_frame.S a0) b ∨ w.heap.size ≤ b := fun b hb => by exact hm0 b hb
       refine ok_callo (r4_number.S a0) rfl hBv4 (fun L4 w4 g4 lt4 => ?_)
       refine (r4_number.c k _ ((q0.1, (IntKind.i64.wrap (q0.2.1 + 1)), q0.2.2.1, q0.2.2.2)) _ _ (v4_0, qc4) hr4  w4 (hW0.later g4).bare' (hS0_0.later ((hF.trans g4).with hBm4))).mono ?_
       rintro e w4' ⟨rfl, hf4, hWc4, hq4_0⟩
       refine ⟨(v4_0, ()), rfl, hf4, fun g4' hid4 hv4 => ?_⟩
       try dsimp only
       have hSc4_0 : SlR R23.row (r4_frame.S a0) w A0_0 c0_0 qc4.1 := by rw [hq4_0]; exact hS0_0
       have hmc4 := hm0
       have hWc4 := hWc4.vis (fun b hb => hv4 b (Or.inl hb))
       have hF := Fine.own hF g4' hBm4 hid4
       obtain ⟨r5, hr5, h⟩ := bse h
       obtain ⟨v5_0, qc5⟩ := r5
       try dsimp only at h
       have hBv5 : ∀ b, (r4_number.S a0) b → ¬ _ ∧ b < _ := fun b hb => by exact ⟨(hWc4.lt b hb).2.1, hWc4.lt1 b hb⟩
       have hBm5 : ∀ b, (r4_number.S a0) b → (r4_frame.S a0) b ∨ w.heap.size ≤ b := fun b hb => by exact hmc4 b hb
       refine ok_callo (r4_number.S a0) rfl hBv5 (fun L5 w5 g5 lt5 => ?_)
       refine (r4_number.c k _ qc4 _ _ (v5_0, qc5) hr5  w5 (hWc4.later g5).bare' (hSc4_0.later ((hF.trans g5).with hBm5))).mono ?_
       rintro e w5' ⟨rfl, hf5, hWc5, hq5_0⟩
       refine ⟨(v5_0, ()), rfl, hf5, fun g5' hid5 hv5 => ?_⟩
       try dsimp only
       have hSc5_0 : SlR R23.row (r4_frame.S a0) w A0_0 c0_0 qc5.1 := by rw [hq5_0]; exact hSc4_0
       have hmc5 := hmc4
       have hWc5 := hWc5.vis (fun b hb => hv5 b (Or.inl hb))
       have hF := Fine.own hF g5' hBm5 hid5
       obtain rfl := Option.some.inj h
       have homes := fun (b : Nat) (h : b < w.heap.size) => h
       intro ρ L w' _ he _ _
       exact ⟨none, 0, none, 0, rfl, (hF.ext he).with (fun b h => Or.inl h), (hWc5.later he.fine).bare', OwnF.ret (OwnF.nil _ (fun _ => False) _ _ _), OwnF.ret (OwnF.nil _ (fun _ => False) _ _ _), Dj.nil2, (hq5_0.trans (hq4_0.trans rfl))⟩
      ·have h := bif_f h hc21
       refine ok_if (fun hc26 => ?_) (fun hc26 => ?_)
       ·have h := bif_t h hc26
        obtain ⟨r4, hr4, h⟩ := bse h
        obtain ⟨v4_0, v4_1, v4_2, v4_3, v4_4, v4_5, s4_6, s4_7, qc4⟩ := r4
        try dsimp only at h
        have hBv4 : ∀ b, (r4_stream.S a0) b → ¬ _ ∧ b < _ := fun b hb => by exact ⟨(hW0.lt b hb).2.1, hW0.lt1 b hb⟩
        have hBm4 : ∀ b, (r4_stream.S a0) b → (r4_frame.S a0) b ∨ w.heap.size ≤ b := fun b hb => by exact hm0 b hb
        refine ok_callo (r4_stream.S a0) rfl hBv4 (fun L4 w4 g4 lt4 => ?_)
        refine (r4_stream.c k _ ((q0.1, (IntKind.i64.wrap (q0.2.1 + 1)), q0.2.2.1, q0.2.2.2)) _ _ (IntKind.i64.wrap r3) q0.2.1 (v4_0, v4_1, v4_2, v4_3, v4_4, v4_5, s4_6, s4_7, qc4) hr4  w4 (hW0.later g4).bare' (hS0_0.later ((hF.trans g4).with hBm4))).mono ?_
        rintro e w4' ⟨A4_6, c4_6, A4_7, c4_7, rfl, hf4, hWc4, hO4_6, hO4_7, dd4_1_0, hq4_0⟩
        refine ⟨(v4_0, v4_1, v4_2, v4_3, v4_4, v4_5, (A4_6, s4_6.length, c4_6), (A4_7, s4_7.length, c4_7), ()), rfl, hf4, fun g4' hid4 hv4 => ?_⟩
        try dsimp only
        have hSc4_0 : SlR R23.row (r4_frame.S a0) w A0_0 c0_0 qc4.1 := by rw [hq4_0]; exact hS0_0
        have dk4_o27 : Dj A4_6 a0 := Dj.new hO4_6.fresh (fun b hb => Nat.lt_of_lt_of_le (hBv4 b hb).2 g4.size)
        have dk4_o28 : Dj A4_7 a0 := Dj.new hO4_7.fresh (fun b hb => Nat.lt_of_lt_of_le (hBv4 b hb).2 g4.size)
        have hmc4 := hm0
        have hWc4 := hWc4.vis (fun b hb => hv4 b (Or.inl hb))
        have hO4_6 := hO4_6.call (hF.trans g4).size lt4
        have hO4_7 := hO4_7.call (hF.trans g4).size lt4
        have hF := Fine.own hF g4' hBm4 hid4
        obtain rfl := Option.some.inj h
        have homes := fun (b : Nat) (h : b < w.heap.size) => h
        intro ρ L w' _ he _ _
        exact ⟨A4_6, c4_6, A4_7, c4_7, rfl, (hF.ext he).with (fun b h => Or.inl h), (hWc4.later he.fine).bare', (hO4_6.later he.fine).ret, (hO4_7.later he.fine).ret, dd4_1_0, (hq4_0.trans rfl)⟩
       ·have h := bif_f h hc26
        refine ok_if (fun hc31 => ?_) (fun hc31 => ?_)
        ·have h := bif_t h hc31
         obtain ⟨r4, hr4, h⟩ := bse h
         obtain ⟨v4_0, v4_1, v4_2, v4_3, v4_4, v4_5, s4_6, s4_7, qc4⟩ := r4
         try dsimp only at h
         have hBv4 : ∀ b, (r4_stream.S a0) b → ¬ _ ∧ b < _ := fun b hb => by exact ⟨(hW0.lt b hb).2.1, hW0.lt1 b hb⟩
         have hBm4 : ∀ b, (r4_stream.S a0) b → (r4_frame.S a0) b ∨ w.heap.size ≤ b := fun b hb => by exact hm0 b hb
         refine ok_callo (r4_stream.S a0) rfl hBv4 (fun L4 w4 g4 lt4 => ?_)
         refine (r4_stream.c k _ ((q0.1, (IntKind.i64.wrap (q0.2.1 + 1)), q0.2.2.1, q0.2.2.2)) _ _ (IntKind.i64.wrap r3) q0.2.1 (v4_0, v4_1, v4_2, v4_3, v4_4, v4_5, s4_6, s4_7, qc4) hr4  w4 (hW0.later g4).bare' (hS0_0.later ((hF.trans g4).with hBm4))).mono ?_
         rintro e w4' ⟨A4_6, c4_6, A4_7, c4_7, rfl, hf4, hWc4, hO4_6, hO4_7, dd4_1_0, hq4_0⟩
         refine ⟨(v4_0, v4_1, v4_2, v4_3, v4_4, v4_5, (A4_6, s4_6.length, c4_6), (A4_7, s4_7.length, c4_7), ()), rfl, hf4, fun g4' hid4 hv4 => ?_⟩
         try dsimp only
         have hSc4_0 : SlR R23.row (r4_frame.S a0) w A0_0 c0_0 qc4.1 := by rw [hq4_0]; exact hS0_0
         have dk4_o32 : Dj A4_6 a0 := Dj.new hO4_6.fresh (fun b hb => Nat.lt_of_lt_of_le (hBv4 b hb).2 g4.size)
         have dk4_o33 : Dj A4_7 a0 := Dj.new hO4_7.fresh (fun b hb => Nat.lt_of_lt_of_le (hBv4 b hb).2 g4.size)
         have hmc4 := hm0
         have hWc4 := hWc4.vis (fun b hb => hv4 b (Or.inl hb))
         have hO4_6 := hO4_6.call (hF.trans g4).size lt4
         have hO4_7 := hO4_7.call (hF.trans g4).size lt4
         have hF := Fine.own hF g4' hBm4 hid4
         obtain rfl := Option.some.inj h
         have homes := fun (b : Nat) (h : b < w.heap.size) => h
         intro ρ L w' _ he _ _
         exact ⟨A4_6, c4_6, A4_7, c4_7, rfl, (hF.ext he).with (fun b h => Or.inl h), (hWc4.later he.fine).bare', (hO4_6.later he.fine).ret, (hO4_7.later he.fine).ret, dd4_1_0, (hq4_0.trans rfl)⟩
        ·have h := bif_f h hc31
         refine ok_if (fun hc36 => ?_) (fun hc36 => ?_)
         ·have h := bif_t h hc36
          obtain ⟨r4, hr4, h⟩ := bse h
          obtain ⟨v4_0, v4_1, v4_2, v4_3, v4_4, v4_5, s4_6, s4_7, qc4⟩ := r4
          try dsimp only at h
          have hBv4 : ∀ b, (r4_stream.S a0) b → ¬ _ ∧ b < _ := fun b hb => by exact ⟨(hW0.lt b hb).2.1, hW0.lt1 b hb⟩
          have hBm4 : ∀ b, (r4_stream.S a0) b → (r4_frame.S a0) b ∨ w.heap.size ≤ b := fun b hb => by exact hm0 b hb
          refine ok_callo (r4_stream.S a0) rfl hBv4 (fun L4 w4 g4 lt4 => ?_)
          refine (r4_stream.c k _ ((q0.1, (IntKind.i64.wrap (q0.2.1 + 1)), q0.2.2.1, q0.2.2.2)) _ _ (IntKind.i64.wrap r3) q0.2.1 (v4_0, v4_1, v4_2, v4_3, v4_4, v4_5, s4_6, s4_7, qc4) hr4  w4 (hW0.later g4).bare' (hS0_0.later ((hF.trans g4).with hBm4))).mono ?_
          rintro e w4' ⟨A4_6, c4_6, A4_7, c4_7, rfl, hf4, hWc4, hO4_6, hO4_7, dd4_1_0, hq4_0⟩
          refine ⟨(v4_0, v4_1, v4_2, v4_3, v4_4, v4_5, (A4_6, s4_6.length, c4_6), (A4_7, s4_7.length, c4_7), ()), rfl, hf4, fun g4' hid4 hv4 => ?_⟩
          try dsimp only
          have hSc4_0 : SlR R23.row (r4_frame.S a0) w A0_0 c0_0 qc4.1 := by rw [hq4_0]; exact hS0_0
          have dk4_o37 : Dj A4_6 a0 := Dj.new hO4_6.fresh (fun b hb => Nat.lt_of_lt_of_le (hBv4 b hb).2 g4.size)
          have dk4_o38 : Dj A4_7 a0 := Dj.new hO4_7.fresh (fun b hb => Nat.lt_of_lt_of_le (hBv4 b hb).2 g4.size)
          have hmc4 := hm0
          have hWc4 := hWc4.vis (fun b hb => hv4 b (Or.inl hb))
          have hO4_6 := hO4_6.call (hF.trans g4).size lt4
          have hO4_7 := hO4_7.call (hF.trans g4).size lt4
          have hF := Fine.own hF g4' hBm4 hid4
          obtain rfl := Option.some.inj h
          have homes := fun (b : Nat) (h : b < w.heap.size) => h
          intro ρ L w' _ he _ _
          exact ⟨A4_6, c4_6, A4_7, c4_7, rfl, (hF.ext he).with (fun b h => Or.inl h), (hWc4.later he.fine).bare', (hO4_6.later he.fine).ret, (hO4_7.later he.fine).ret, dd4_1_0, (hq4_0.trans rfl)⟩
         ·have h := bif_f h hc36
          refine ok_if (fun hc41 => ?_) (fun hc41 => ?_)
          ·have h := bif_t h hc41
           obtain ⟨r4, hr4, h⟩ := bse h
           obtain ⟨v4_0, v4_1, v4_2, v4_3, v4_4, v4_5, s4_6, s4_7, qc4⟩ := r4
           try dsimp only at h
           have hBv4 : ∀ b, (r4_stream.S a0) b → ¬ _ ∧ b < _ := fun b hb => by exact ⟨(hW0.lt b hb).2.1, hW0.lt1 b hb⟩
           have hBm4 : ∀ b, (r4_stream.S a0) b → (r4_frame.S a0) b ∨ w.heap.size ≤ b := fun b hb => by exact hm0 b hb
           refine ok_callo (r4_stream.S a0) rfl hBv4 (fun L4 w4 g4 lt4 => ?_)
           refine (r4_stream.c k _ ((q0.1, (IntKind.i64.wrap (q0.2.1 + 1)), q0.2.2.1, q0.2.2.2)) _ _ (IntKind.i64.wrap r3) q0.2.1 (v4_0, v4_1, v4_2, v4_3, v4_4, v4_5, s4_6, s4_7, qc4) hr4  w4 (hW0.later g4).bare' (hS0_0.later ((hF.trans g4).with hBm4))).mono ?_
           rintro e w4' ⟨A4_6, c4_6, A4_7, c4_7, rfl, hf4, hWc4, hO4_6, hO4_7, dd4_1_0, hq4_0⟩
           refine ⟨(v4_0, v4_1, v4_2, v4_3, v4_4, v4_5, (A4_6, s4_6.length, c4_6), (A4_7, s4_7.length, c4_7), ()), rfl, hf4, fun g4' hid4 hv4 => ?_⟩
           try dsimp only
           have hSc4_0 : SlR R23.row (r4_frame.S a0) w A0_0 c0_0 qc4.1 := by rw [hq4_0]; exact hS0_0
           have dk4_o42 : Dj A4_6 a0 := Dj.new hO4_6.fresh (fun b hb => Nat.lt_of_lt_of_le (hBv4 b hb).2 g4.size)
           have dk4_o43 : Dj A4_7 a0 := Dj.new hO4_7.fresh (fun b hb => Nat.lt_of_lt_of_le (hBv4 b hb).2 g4.size)
           have hmc4 := hm0
           have hWc4 := hWc4.vis (fun b hb => hv4 b (Or.inl hb))
           have hO4_6 := hO4_6.call (hF.trans g4).size lt4
           have hO4_7 := hO4_7.call (hF.trans g4).size lt4
           have hF := Fine.own hF g4' hBm4 hid4
           obtain rfl := Option.some.inj h
           have homes := fun (b : Nat) (h : b < w.heap.size) => h
           intro ρ L w' _ he _ _
           exact ⟨A4_6, c4_6, A4_7, c4_7, rfl, (hF.ext he).with (fun b h => Or.inl h), (hWc4.later he.fine).bare', (hO4_6.later he.fine).ret, (hO4_7.later he.fine).ret, dd4_1_0, (hq4_0.trans rfl)⟩
          ·have h := bif_f h hc41
           refine ok_if (fun hc46 => ?_) (fun hc46 => ?_)
           ·have h := bif_t h hc46
            obtain ⟨r4, hr4, h⟩ := bse h
            obtain ⟨v4_0, v4_1, v4_2, v4_3, v4_4, v4_5, s4_6, s4_7, qc4⟩ := r4
            try dsimp only at h
            have hBv4 : ∀ b, (r4_stream.S a0) b → ¬ _ ∧ b < _ := fun b hb => by exact ⟨(hW0.lt b hb).2.1, hW0.lt1 b hb⟩
            have hBm4 : ∀ b, (r4_stream.S a0) b → (r4_frame.S a0) b ∨ w.heap.size ≤ b := fun b hb => by exact hm0 b hb
            refine ok_callo (r4_stream.S a0) rfl hBv4 (fun L4 w4 g4 lt4 => ?_)
            refine (r4_stream.c k _ ((q0.1, (IntKind.i64.wrap (q0.2.1 + 1)), q0.2.2.1, q0.2.2.2)) _ _ (IntKind.i64.wrap r3) q0.2.1 (v4_0, v4_1, v4_2, v4_3, v4_4, v4_5, s4_6, s4_7, qc4) hr4  w4 (hW0.later g4).bare' (hS0_0.later ((hF.trans g4).with hBm4))).mono ?_
            rintro e w4' ⟨A4_6, c4_6, A4_7, c4_7, rfl, hf4, hWc4, hO4_6, hO4_7, dd4_1_0, hq4_0⟩
            refine ⟨(v4_0, v4_1, v4_2, v4_3, v4_4, v4_5, (A4_6, s4_6.length, c4_6), (A4_7, s4_7.length, c4_7), ()), rfl, hf4, fun g4' hid4 hv4 => ?_⟩
            try dsimp only
            have hSc4_0 : SlR R23.row (r4_frame.S a0) w A0_0 c0_0 qc4.1 := by rw [hq4_0]; exact hS0_0
            have dk4_o47 : Dj A4_6 a0 := Dj.new hO4_6.fresh (fun b hb => Nat.lt_of_lt_of_le (hBv4 b hb).2 g4.size)
            have dk4_o48 : Dj A4_7 a0 := Dj.new hO4_7.fresh (fun b hb => Nat.lt_of_lt_of_le (hBv4 b hb).2 g4.size)
            have hmc4 := hm0
            have hWc4 := hWc4.vis (fun b hb => hv4 b (Or.inl hb))
            have hO4_6 := hO4_6.call (hF.trans g4).size lt4
            have hO4_7 := hO4_7.call (hF.trans g4).size lt4
            have hF := Fine.own hF g4' hBm4 hid4
            obtain rfl := Option.some.inj h
            have homes := fun (b : Nat) (h : b < w.heap.size) => h
            intro ρ L w' _ he _ _
            exact ⟨A4_6, c4_6, A4_7, c4_7, rfl, (hF.ext he).with (fun b h => Or.inl h), (hWc4.later he.fine).bare', (hO4_6.later he.fine).ret, (hO4_7.later he.fine).ret, dd4_1_0, (hq4_0.trans rfl)⟩
           ·have h := bif_f h hc46
            refine ok_if (fun hc51 => ?_) (fun hc51 => ?_)
            ·have h := bif_t h hc51
             obtain ⟨r4, hr4, h⟩ := bse h
             obtain ⟨v4_0, v4_1, v4_2, v4_3, v4_4, v4_5, s4_6, s4_7, qc4⟩ := r4
             try dsimp only at h
             have hBv4 : ∀ b, (r4_stream.S a0) b → ¬ _ ∧ b < _ := fun b hb => by exact ⟨(hW0.lt b hb).2.1, hW0.lt1 b hb⟩
             have hBm4 : ∀ b, (r4_stream.S a0) b → (r4_frame.S a0) b ∨ w.heap.size ≤ b := fun b hb => by exact hm0 b hb
             refine ok_callo (r4_stream.S a0) rfl hBv4 (fun L4 w4 g4 lt4 => ?_)
             refine (r4_stream.c k _ ((q0.1, (IntKind.i64.wrap (q0.2.1 + 1)), q0.2.2.1, q0.2.2.2)) _ _ (IntKind.i64.wrap r3) q0.2.1 (v4_0, v4_1, v4_2, v4_3, v4_4, v4_5, s4_6, s4_7, qc4) hr4  w4 (hW0.later g4).bare' (hS0_0.later ((hF.trans g4).with hBm4))).mono ?_
             rintro e w4' ⟨A4_6, c4_6, A4_7, c4_7, rfl, hf4, hWc4, hO4_6, hO4_7, dd4_1_0, hq4_0⟩
             refine ⟨(v4_0, v4_1, v4_2, v4_3, v4_4, v4_5, (A4_6, s4_6.length, c4_6), (A4_7, s4_7.length, c4_7), ()), rfl, hf4, fun g4' hid4 hv4 => ?_⟩
             try dsimp only
             have hSc4_0 : SlR R23.row (r4_frame.S a0) w A0_0 c0_0 qc4.1 := by rw [hq4_0]; exact hS0_0
             have dk4_o52 : Dj A4_6 a0 := Dj.new hO4_6.fresh (fun b hb => Nat.lt_of_lt_of_le (hBv4 b hb).2 g4.size)
             have dk4_o53 : Dj A4_7 a0 := Dj.new hO4_7.fresh (fun b hb => Nat.lt_of_lt_of_le (hBv4 b hb).2 g4.size)
             have hmc4 := hm0
             have hWc4 := hWc4.vis (fun b hb => hv4 b (Or.inl hb))
             have hO4_6 := hO4_6.call (hF.trans g4).size lt4
             have hO4_7 := hO4_7.call (hF.trans g4).size lt4
             have hF := Fine.own hF g4' hBm4 hid4
             obtain rfl := Option.some.inj h
             have homes := fun (b : Nat) (h : b < w.heap.size) => h
             intro ρ L w' _ he _ _
             exact ⟨A4_6, c4_6, A4_7, c4_7, rfl, (hF.ext he).with (fun b h => Or.inl h), (hWc4.later he.fine).bare', (hO4_6.later he.fine).ret, (hO4_7.later he.fine).ret, dd4_1_0, (hq4_0.trans rfl)⟩
            ·have h := bif_f h hc51
             refine ok_if (fun hc56 => ?_) (fun hc56 => ?_)
             ·have h := bif_t h hc56
              obtain ⟨r4, hr4, h⟩ := bse h
              obtain ⟨v4_0, v4_1, v4_2, v4_3, v4_4, v4_5, s4_6, s4_7, qc4⟩ := r4
              try dsimp only at h
              have hBv4 : ∀ b, (r4_stream.S a0) b → ¬ _ ∧ b < _ := fun b hb => by exact ⟨(hW0.lt b hb).2.1, hW0.lt1 b hb⟩
              have hBm4 : ∀ b, (r4_stream.S a0) b → (r4_frame.S a0) b ∨ w.heap.size ≤ b := fun b hb => by exact hm0 b hb
              refine ok_callo (r4_stream.S a0) rfl hBv4 (fun L4 w4 g4 lt4 => ?_)
              refine (r4_stream.c k _ ((q0.1, (IntKind.i64.wrap (q0.2.1 + 1)), q0.2.2.1, q0.2.2.2)) _ _ (IntKind.i64.wrap r3) q0.2.1 (v4_0, v4_1, v4_2, v4_3, v4_4, v4_5, s4_6, s4_7, qc4) hr4  w4 (hW0.later g4).bare' (hS0_0.later ((hF.trans g4).with hBm4))).mono ?_
              rintro e w4' ⟨A4_6, c4_6, A4_7, c4_7, rfl, hf4, hWc4, hO4_6, hO4_7, dd4_1_0, hq4_0⟩
              refine ⟨(v4_0, v4_1, v4_2, v4_3, v4_4, v4_5, (A4_6, s4_6.length, c4_6), (A4_7, s4_7.length, c4_7), ()), rfl, hf4, fun g4' hid4 hv4 => ?_⟩
              try dsimp only
              have hSc4_0 : SlR R23.row (r4_frame.S a0) w A0_0 c0_0 qc4.1 := by rw [hq4_0]; exact hS0_0
              have dk4_o57 : Dj A4_6 a0 := Dj.new hO4_6.fresh (fun b hb => Nat.lt_of_lt_of_le (hBv4 b hb).2 g4.size)
              have dk4_o58 : Dj A4_7 a0 := Dj.new hO4_7.fresh (fun b hb => Nat.lt_of_lt_of_le (hBv4 b hb).2 g4.size)
              have hmc4 := hm0
              have hWc4 := hWc4.vis (fun b hb => hv4 b (Or.inl hb))
              have hO4_6 := hO4_6.call (hF.trans g4).size lt4
              have hO4_7 := hO4_7.call (hF.trans g4).size lt4
              have hF := Fine.own hF g4' hBm4 hid4
              obtain rfl := Option.some.inj h
              have homes := fun (b : Nat) (h : b < w.heap.size) => h
              intro ρ L w' _ he _ _
              exact ⟨A4_6, c4_6, A4_7, c4_7, rfl, (hF.ext he).with (fun b h => Or.inl h), (hWc4.later he.fine).bare', (hO4_6.later he.fine).ret, (hO4_7.later he.fine).ret, dd4_1_0, (hq4_0.trans rfl)⟩
             ·have h := bif_f h hc56
              refine ok_if (fun hc61 => ?_) (fun hc61 => ?_)
              ·have h := bif_t h hc61
               obtain ⟨r4, hr4, h⟩ := bse h
               obtain ⟨v4_0, v4_1, v4_2, v4_3, v4_4, v4_5, s4_6, s4_7, qc4⟩ := r4
               try dsimp only at h
               have hBv4 : ∀ b, (r4_stream.S a0) b → ¬ _ ∧ b < _ := fun b hb => by exact ⟨(hW0.lt b hb).2.1, hW0.lt1 b hb⟩
               have hBm4 : ∀ b, (r4_stream.S a0) b → (r4_frame.S a0) b ∨ w.heap.size ≤ b := fun b hb => by exact hm0 b hb
               refine ok_callo (r4_stream.S a0) rfl hBv4 (fun L4 w4 g4 lt4 => ?_)
               refine (r4_stream.c k _ ((q0.1, (IntKind.i64.wrap (q0.2.1 + 1)), q0.2.2.1, q0.2.2.2)) _ _ (IntKind.i64.wrap r3) q0.2.1 (v4_0, v4_1, v4_2, v4_3, v4_4, v4_5, s4_6, s4_7, qc4) hr4  w4 (hW0.later g4).bare' (hS0_0.later ((hF.trans g4).with hBm4))).mono ?_
               rintro e w4' ⟨A4_6, c4_6, A4_7, c4_7, rfl, hf4, hWc4, hO4_6, hO4_7, dd4_1_0, hq4_0⟩
               refine ⟨(v4_0, v4_1, v4_2, v4_3, v4_4, v4_5, (A4_6, s4_6.length, c4_6), (A4_7, s4_7.length, c4_7), ()), rfl, hf4, fun g4' hid4 hv4 => ?_⟩
               try dsimp only
               have hSc4_0 : SlR R23.row (r4_frame.S a0) w A0_0 c0_0 qc4.1 := by rw [hq4_0]; exact hS0_0
               have dk4_o62 : Dj A4_6 a0 := Dj.new hO4_6.fresh (fun b hb => Nat.lt_of_lt_of_le (hBv4 b hb).2 g4.size)
               have dk4_o63 : Dj A4_7 a0 := Dj.new hO4_7.fresh (fun b hb => Nat.lt_of_lt_of_le (hBv4 b hb).2 g4.size)
               have hmc4 := hm0
               have hWc4 := hWc4.vis (fun b hb => hv4 b (Or.inl hb))
               have hO4_6 := hO4_6.call (hF.trans g4).size lt4
               have hO4_7 := hO4_7.call (hF.trans g4).size lt4
               have hF := Fine.own hF g4' hBm4 hid4
               obtain rfl := Option.some.inj h
               have homes := fun (b : Nat) (h : b < w.heap.size) => h
               intro ρ L w' _ he _ _
               exact ⟨A4_6, c4_6, A4_7, c4_7, rfl, (hF.ext he).with (fun b h => Or.inl h), (hWc4.later he.fine).bare', (hO4_6.later he.fine).ret, (hO4_7.later he.fine).ret, dd4_1_0, (hq4_0.trans rfl)⟩
              ·have h := bif_f h hc61
               refine ok_if (fun hc66 => ?_) (fun hc66 => ?_)
               ·have h := bif_t h hc66
                obtain ⟨r4, hr4, h⟩ := bse h
                obtain ⟨v4_0, qc4⟩ := r4
                try dsimp only at h
                have hBv4 : ∀ b, (r4_number.S a0) b → ¬ _ ∧ b < _ := fun b hb => by exact ⟨(hW0.lt b hb).2.1, hW0.lt1 b hb⟩
                have hBm4 : ∀ b, (r4_number.S a0) b → (r4_frame.S a0) b ∨ w.heap.size ≤ b := fun b hb => by exact hm0 b hb
                refine ok_callo (r4_number.S a0) rfl hBv4 (fun L4 w4 g4 lt4 => ?_)
                refine (r4_number.c k _ ((q0.1, (IntKind.i64.wrap (q0.2.1 + 1)), q0.2.2.1, q0.2.2.2)) _ _ (v4_0, qc4) hr4  w4 (hW0.later g4).bare' (hS0_0.later ((hF.trans g4).with hBm4))).mono ?_
                rintro e w4' ⟨rfl, hf4, hWc4, hq4_0⟩
                refine ⟨(v4_0, ()), rfl, hf4, fun g4' hid4 hv4 => ?_⟩
                try dsimp only
                have hSc4_0 : SlR R23.row (r4_frame.S a0) w A0_0 c0_0 qc4.1 := by rw [hq4_0]; exact hS0_0
                have hmc4 := hm0
                have hWc4 := hWc4.vis (fun b hb => hv4 b (Or.inl hb))
                have hF := Fine.own hF g4' hBm4 hid4
                obtain rfl := Option.some.inj h
                have homes := fun (b : Nat) (h : b < w.heap.size) => h
                intro ρ L w' _ he _ _
                exact ⟨none, 0, none, 0, rfl, (hF.ext he).with (fun b h => Or.inl h), (hWc4.later he.fine).bare', OwnF.ret (OwnF.nil _ (fun _ => False) _ _ _), OwnF.ret (OwnF.nil _ (fun _ => False) _ _ _), Dj.nil2, (hq4_0.trans rfl)⟩
               ·have h := bif_f h hc66
                refine ok_if (fun hc69 => ?_) (fun hc69 => ?_)
                ·have h := bif_t h hc69
                 obtain ⟨r4, hr4, h⟩ := bse h
                 obtain ⟨v4_0, qc4⟩ := r4
                 try dsimp only at h
                 have hBv4 : ∀ b, (r4_number.S a0) b → ¬ _ ∧ b < _ := fun b hb => by exact ⟨(hW0.lt b hb).2.1, hW0.lt1 b hb⟩
                 have hBm4 : ∀ b, (r4_number.S a0) b → (r4_frame.S a0) b ∨ w.heap.size ≤ b := fun b hb => by exact hm0 b hb
                 refine ok_callo (r4_number.S a0) rfl hBv4 (fun L4 w4 g4 lt4 => ?_)
                 refine (r4_number.c k _ ((q0.1, (IntKind.i64.wrap (q0.2.1 + 1)), q0.2.2.1, q0.2.2.2)) _ _ (v4_0, qc4) hr4  w4 (hW0.later g4).bare' (hS0_0.later ((hF.trans g4).with hBm4))).mono ?_
                 rintro e w4' ⟨rfl, hf4, hWc4, hq4_0⟩
                 refine ⟨(v4_0, ()), rfl, hf4, fun g4' hid4 hv4 => ?_⟩
                 try dsimp only
                 have hSc4_0 : SlR R23.row (r4_frame.S a0) w A0_0 c0_0 qc4.1 := by rw [hq4_0]; exact hS0_0
                 have hmc4 := hm0
                 have hWc4 := hWc4.vis (fun b hb => hv4 b (Or.inl hb))
                 have hF := Fine.own hF g4' hBm4 hid4
                 obtain rfl := Option.some.inj h
                 have homes := fun (b : Nat) (h : b < w.heap.size) => h
                 intro ρ L w' _ he _ _
                 exact ⟨none, 0, none, 0, rfl, (hF.ext he).with (fun b h => Or.inl h), (hWc4.later he.fine).bare', OwnF.ret (OwnF.nil _ (fun _ => False) _ _ _), OwnF.ret (OwnF.nil _ (fun _ => False) _ _ _), Dj.nil2, (hq4_0.trans rfl)⟩
                ·have h := bif_f h hc69
                 refine ok_if (fun hc72 => ?_) (fun hc72 => ?_)
                 ·have h := bif_t h hc72
                  obtain ⟨r4, hr4, h⟩ := bse h
                  obtain ⟨v4_0, qc4⟩ := r4
                  try dsimp only at h
                  have hBv4 : ∀ b, (r4_number.S a0) b → ¬ _ ∧ b < _ := fun b hb => by exact ⟨(hW0.lt b hb).2.1, hW0.lt1 b hb⟩
                  have hBm4 : ∀ b, (r4_number.S a0) b → (r4_frame.S a0) b ∨ w.heap.size ≤ b := fun b hb => by exact hm0 b hb
                  refine ok_callo (r4_number.S a0) rfl hBv4 (fun L4 w4 g4 lt4 => ?_)
                  refine (r4_number.c k _ ((q0.1, (IntKind.i64.wrap (q0.2.1 + 1)), q0.2.2.1, q0.2.2.2)) _ _ (v4_0, qc4) hr4  w4 (hW0.later g4).bare' (hS0_0.later ((hF.trans g4).with hBm4))).mono ?_
                  rintro e w4' ⟨rfl, hf4, hWc4, hq4_0⟩
                  refine ⟨(v4_0, ()), rfl, hf4, fun g4' hid4 hv4 => ?_⟩
                  try dsimp only
                  have hSc4_0 : SlR R23.row (r4_frame.S a0) w A0_0 c0_0 qc4.1 := by rw [hq4_0]; exact hS0_0
                  have hmc4 := hm0
                  have hWc4 := hWc4.vis (fun b hb => hv4 b (Or.inl hb))
                  have hF := Fine.own hF g4' hBm4 hid4
                  obtain ⟨r5, hr5, h⟩ := bse h
                  obtain ⟨v5_0, qc5⟩ := r5
                  try dsimp only at h
                  have hBv5 : ∀ b, (r4_number.S a0) b → ¬ _ ∧ b < _ := fun b hb => by exact ⟨(hWc4.lt b hb).2.1, hWc4.lt1 b hb⟩
                  have hBm5 : ∀ b, (r4_number.S a0) b → (r4_frame.S a0) b ∨ w.heap.size ≤ b := fun b hb => by exact hmc4 b hb
                  refine ok_callo (r4_number.S a0) rfl hBv5 (fun L5 w5 g5 lt5 => ?_)
                  refine (r4_number.c k _ qc4 _ _ (v5_0, qc5) hr5  w5 (hWc4.later g5).bare' (hSc4_0.later ((hF.trans g5).with hBm5))).mono ?_
                  rintro e w5' ⟨rfl, hf5, hWc5, hq5_0⟩
                  refine ⟨(v5_0, ()), rfl, hf5, fun g5' hid5 hv5 => ?_⟩
                  try dsimp only
                  have hSc5_0 : SlR R23.row (r4_frame.S a0) w A0_0 c0_0 qc5.1 := by rw [hq5_0]; exact hSc4_0
                  have hmc5 := hmc4
                  have hWc5 := hWc5.vis (fun b hb => hv5 b (Or.inl hb))
                  have hF := Fine.own hF g5' hBm5 hid5
                  obtain rfl := Option.some.inj h
                  have homes := fun (b : Nat) (h : b < w.heap.size) => h
                  intro ρ L w' _ he _ _
                  exact ⟨none, 0, none, 0, rfl, (hF.ext he).with (fun b h => Or.inl h), (hWc5.later he.fine).bare', OwnF.ret (OwnF.nil _ (fun _ => False) _ _ _), OwnF.ret (OwnF.nil _ (fun _ => False) _ _ _), Dj.nil2, (hq5_0.trans (hq4_0.trans rfl))⟩
                 ·have h := bif_f h hc72
                  refine ok_if (fun hc77 => ?_) (fun hc77 => ?_)
                  ·have h := bif_t h hc77
                   obtain ⟨r4, hr4, h⟩ := bse h
                   obtain ⟨v4_0, qc4⟩ := r4
                   try dsimp only at h
                   have hBv4 : ∀ b, (r4_number.S a0) b → ¬ _ ∧ b < _ := fun b hb => by exact ⟨(hW0.lt b hb).2.1, hW0.lt1 b hb⟩
                   have hBm4 : ∀ b, (r4_number.S a0) b → (r4_frame.S a0) b ∨ w.heap.size ≤ b := fun b hb => by exact hm0 b hb
                   refine ok_callo (r4_number.S a0) rfl hBv4 (fun L4 w4 g4 lt4 => ?_)
                   refine (r4_number.c k _ ((q0.1, (IntKind.i64.wrap (q0.2.1 + 1)), q0.2.2.1, q0.2.2.2)) _ _ (v4_0, qc4) hr4  w4 (hW0.later g4).bare' (hS0_0.later ((hF.trans g4).with hBm4))).mono ?_
                   rintro e w4' ⟨rfl, hf4, hWc4, hq4_0⟩
                   refine ⟨(v4_0, ()), rfl, hf4, fun g4' hid4 hv4 => ?_⟩
                   try dsimp only
                   have hSc4_0 : SlR R23.row (r4_frame.S a0) w A0_0 c0_0 qc4.1 := by rw [hq4_0]; exact hS0_0
                   have hmc4 := hm0
                   have hWc4 := hWc4.vis (fun b hb => hv4 b (Or.inl hb))
                   have hF := Fine.own hF g4' hBm4 hid4
                   obtain ⟨r5, hr5, h⟩ := bse h
                   obtain ⟨v5_0, qc5⟩ := r5
                   try dsimp only at h
                   have hBv5 : ∀ b, (r4_number.S a0) b → ¬ _ ∧ b < _ := fun b hb => by exact ⟨(hWc4.lt b hb).2.1, hWc4.lt1 b hb⟩
                   have hBm5 : ∀ b, (r4_number.S a0) b → (r4_frame.S a0) b ∨ w.heap.size ≤ b := fun b hb => by exact hmc4 b hb
                   refine ok_callo (r4_number.S a0) rfl hBv5 (fun L5 w5 g5 lt5 => ?_)
                   refine (r4_number.c k _ qc4 _ _ (v5_0, qc5) hr5  w5 (hWc4.later g5).bare' (hSc4_0.later ((hF.trans g5).with hBm5))).mono ?_
                   rintro e w5' ⟨rfl, hf5, hWc5, hq5_0⟩
                   refine ⟨(v5_0, ()), rfl, hf5, fun g5' hid5 hv5 => ?_⟩
                   try dsimp only
                   have hSc5_0 : SlR R23.row (r4_frame.S a0) w A0_0 c0_0 qc5.1 := by rw [hq5_0]; exact hSc4_0
                   have hmc5 := hmc4
                   have hWc5 := hWc5.vis (fun b hb => hv5 b (Or.inl hb))
                   have hF := Fine.own hF g5' hBm5 hid5
                   obtain ⟨r6, hr6, h⟩ := bse h
                   obtain ⟨s6_0, qc6⟩ := r6
                   try dsimp only at h
                   have hBv6 : ∀ b, (r4_take.S a0) b → ¬ _ ∧ b < _ := fun b hb => by exact ⟨(hWc5.lt b hb).2.1, hWc5.lt1 b hb⟩
                   have hBm6 : ∀ b, (r4_take.S a0) b → (r4_frame.S a0) b ∨ w.heap.size ≤ b := fun b hb => by exact hmc5 b hb
                   refine ok_callo (r4_take.S a0) rfl hBv6 (fun L6 w6 g6 lt6 => ?_)
                   refine (r4_take.c k _ qc5 _ _ v5_0 (s6_0, qc6) hr6  w6 (hWc5.later g6).bare' (hSc5_0.later ((hF.trans g6).with hBm6))).mono ?_
                   rintro e w6' ⟨A6_0, c6_0, rfl, hf6, hWc6, hO6_0, hq6_0⟩
                   refine ⟨((A6_0, s6_0.length, c6_0), ()), rfl, hf6, fun g6' hid6 hv6 => ?_⟩
                   try dsimp only
                   have hSc6_0 : SlR R23.row (r4_frame.S a0) w A0_0 c0_0 qc6.1 := by rw [hq6_0]; exact hSc5_0
                   have dk6_o82 : Dj A6_0 a0 := Dj.new hO6_0.fresh (fun b hb => Nat.lt_of_lt_of_le (hBv6 b hb).2 g6.size)
                   have hmc6 := hmc5
                   have hWc6 := hWc6.vis (fun b hb => hv6 b (Or.inl hb))
                   have hO6_0 := hO6_0.call (hF.trans g6).size lt6
                   have hF := Fine.own hF g6' hBm6 hid6
                   obtain rfl := Option.some.inj h
                   have homes := fun (b : Nat) (h : b < w.heap.size) => h
                   intro ρ L w' _ he _ _
                   exact ⟨A6_0, c6_0, none, 0, rfl, (hF.ext he).with (fun b h => Or.inl h), (hWc6.later he.fine).bare', (hO6_0.later he.fine).ret, OwnF.ret (OwnF.nil _ (fun _ => False) _ _ _), Dj.nil2, (hq6_0.trans (hq5_0.trans (hq4_0.trans rfl)))⟩
                  ·have h := bif_f h hc77
                   obtain ⟨qc4, hr4, h⟩ := bse h
                   have hBv4 : ∀ b, (r4_fails.S a0) b → ¬ _ ∧ b < _ := fun b hb => by exact ⟨(hW0.lt b hb).2.1, hW0.lt1 b hb⟩
                   have hBm4 : ∀ b, (r4_fails.S a0) b → (r4_frame.S a0) b ∨ w.heap.size ≤ b := fun b hb => by exact hm0 b hb
                   refine ok_callo (r4_fails.S a0) rfl hBv4 (fun L4 w4 g4 lt4 => ?_)
                   refine (r4_fails.c k _ ((q0.1, (IntKind.i64.wrap (q0.2.1 + 1)), q0.2.2.1, q0.2.2.2)) _ _ 5 q0.2.1 qc4 hr4  w4 (hW0.later g4).bare' (hS0_0.later ((hF.trans g4).with hBm4))).mono ?_
                   rintro e w4' ⟨rfl, hf4, hWc4, hq4_0⟩
                   refine ⟨(()), rfl, hf4, fun g4' hid4 hv4 => ?_⟩
                   try dsimp only
                   have hSc4_0 : SlR R23.row (r4_frame.S a0) w A0_0 c0_0 qc4.1 := by rw [hq4_0]; exact hS0_0
                   have hmc4 := hm0
                   have hWc4 := hWc4.vis (fun b hb => hv4 b (Or.inl hb))
                   have hF := Fine.own hF g4' hBm4 hid4
                   obtain rfl := Option.some.inj h
                   have homes := fun (b : Nat) (h : b < w.heap.size) => h
                   intro ρ L w' _ he _ _
                   exact ⟨none, 0, none, 0, rfl, (hF.ext he).with (fun b h => Or.inl h), (hWc4.later he.fine).bare', OwnF.ret (OwnF.nil _ (fun _ => False) _ _ _), OwnF.ret (OwnF.nil _ (fun _ => False) _ _ _), Dj.nil2, (hq4_0.trans rfl)⟩
end Go.Proofs.Ytpdchohbmmfemaa.X
