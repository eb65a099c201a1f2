/- Functions: their trees, functions over lists that answer as they do, and that they do. -/
import Derived.Test.YtdjeadgebcndeaaRxU
import Derived.Test.YtdjeadgebcndeaaRxSeat
import Derived.Test.YtdjeadgebcndeaaProg
import Derived.Test.YtdjeadgebcndeaaRl0
import Derived.Test.YtdjeadgebcndeaaRo
import Derived.Test.YtdjeadgebcndeaaRx31
namespace Go.Proofs.Ytdjeadgebcndeaa.X
open Go Go.RowKit Go.Proofs.YtdjeadgebcndeaaW.Rx
set_option linter.unusedVariables false
set_option linter.unusedSimpArgs false
set_option maxRecDepth 10000
@[reducible] def R46 : Row (Option (Int × Int × (List Int) × (List (Int × Int)) × Int × Bool × Bool)) := ⟨1, by decide, fun L w x cs => ∃ (a0 : Option Addr), cs = [Value.pointer a0] ∧ ObR R9045 L w a0 x,
  fun ⟨_, e, _⟩ => by rw [e]; rfl, fun ⟨a0, e, h0⟩ g => ⟨a0, e, h0.later g⟩, fun ⟨a0, e, h0⟩ g => ⟨a0, e, h0.mono g⟩, fun ⟨_, e, _⟩ u hu => by
    rw [e] at hu
    simp only [List.mem_cons, List.not_mem_nil, or_false] at hu
    subst hu; rfl⟩
theorem E46 : Elem Try.prog 46 24 1 8 := ⟨rfl, _, _, rfl, rfl, rfl, rfl, rfl⟩
/-! ### turnbuckle/turnbucklelaw09.ReasmNobody: function 7 -/
def law09_ReasmNobody.s10 (k : Nat) (l0 : List Int) (s8_0 : List Int) : (Int × (Int × Int × (List Int) × (List (Int × Int)) × Int × Bool × Bool) × (List Int)) → Option (Sum (Int × (Int × Int × (List Int) × (List (Int × Int)) × Int × Bool × Bool) × (List Int)) (Sum (Int × (Int × Int × (List Int) × (List (Int × Int)) × Int × Bool × Bool) × (List Int)) (Sum Int Bool))) := fun (v10_0, q10_b3, m10_o76) => bif decide (v10_0 < ((s8_0.length : Nat) : Int)) then ((getI m10_o76 v10_0).bind fun r86 => (getI m10_o76 v10_0).bind fun r88 => some (.inl ((IntKind.wrap IntKind.i64 (v10_0 + 1), q10_b3, (m10_o76.set (Int.toNat v10_0) ((IntKind.wrap IntKind.u8 (((BitVec.toNat (BitVec.ofInt 8 r86 ^^^ BitVec.ofInt 8 255)) : Nat) : Int)))))))) else ((reasm_Stream_Read.F k q10_b3 4096).bind fun (s11_0, q11) => bif decide (ByteArray.size ((strOfNums s8_0)) + ByteArray.size ((strOfNums s11_0)) ≤ 9223372036854775807) then (bif ByteArray.toList (((strOfNums s8_0)) ++ ((strOfNums s11_0))) == ByteArray.toList (strOfNums ((([] : List Int) ++ ((l0.drop (Int.toNat 0)).take (Int.toNat (if 4000 < ((l0.length : Nat) : Int) then 4000 else ((l0.length : Nat) : Int)) - Int.toNat 0))))) then ((law09_alive.F k ).bind fun v14_0 => bif v14_0 then (some (.inr (.inr (.inr true)))) else (some (.inr (.inr (.inr false))))) else (some (.inr (.inr (.inr false))))) else none)
def law09_ReasmNobody.s7 (k : Nat) (l0 : List Int) : (Int × (Int × Int × (List Int) × (List (Int × Int)) × Int × Bool × Bool) × (List Int)) → Option (Sum (Int × (Int × Int × (List Int) × (List (Int × Int)) × Int × Bool × Bool) × (List Int)) (Sum Int Bool)) := fun (v7_0, q7_b3, m7_o60) => bif decide (v7_0 < ((((([] : List Int) ++ ((l0.drop (Int.toNat 0)).take (Int.toNat (if 4000 < ((l0.length : Nat) : Int) then 4000 else ((l0.length : Nat) : Int)) - Int.toNat 0)))).length : Nat) : Int)) then ((getI m7_o60 v7_0).bind fun r70 => (getI m7_o60 v7_0).bind fun r72 => some (.inl ((IntKind.wrap IntKind.i64 (v7_0 + 1), q7_b3, (m7_o60.set (Int.toNat v7_0) ((IntKind.wrap IntKind.u8 (((BitVec.toNat (BitVec.ofInt 8 r70 ^^^ BitVec.ofInt 8 255)) : Nat) : Int)))))))) else ((reasm_Stream_Read.F k q7_b3 (IntKind.wrap IntKind.i64 (Int.tdiv (((((([] : List Int) ++ ((l0.drop (Int.toNat 0)).take (Int.toNat (if 4000 < ((l0.length : Nat) : Int) then 4000 else ((l0.length : Nat) : Int)) - Int.toNat 0)))).length : Nat) : Int)) 2))).bind fun (s8_0, q8) => iter (law09_ReasmNobody.s10 k l0 s8_0) k (0, q8, s8_0))
def law09_ReasmNobody.s2 (k : Nat) (a1_1 : Int) (a1_3 : Bool) (l0 : List Int) (l1_2 : List Int) : Int → Option (Sum Int Bool) := fun v2_0 => bif decide (v2_0 < (((([(none), ((some (0, 0, [], [], 0, false, false)))] : List ((Option (Int × Int × (List Int) × (List (Int × Int)) × Int × Bool × Bool))))).length : Nat) : Int)) then ((getI ([(none), ((some (0, 0, [], [], 0, false, false)))] : List ((Option (Int × Int × (List Int) × (List (Int × Int)) × Int × Bool × Bool)))) v2_0).bind fun r5 => (reasm_Stream_End.F k r5).bind fun (v4_0, v4_1) => bif v4_1 then (bif a1_3 then ((reasm_Stream_DataR.F k r5 a1_1 l1_2 true).bind fun v5_0 => bif v5_0 != 2 then (some (.inr false)) else ((reasm_Stream_ResetR.F k r5 a1_1).bind fun v6_0 => bif v6_0 != 2 then (some (.inr false)) else ((reasm_Stream_ReadR.F k r5 a1_1).bind fun s7_0 => bif ((s7_0.length : Nat) : Int) != 0 then (some (.inr false)) else ((reasm_Stream_Ready.F k r5).bind fun v8_0 => bif v8_0 != 0 then (some (.inr false)) else ((reasm_Stream_Limit.F k r5).bind fun v9_0 => bif v9_0 != 0 then (some (.inr false)) else ((reasm_Stream_At.F k r5).bind fun v10_0 => bif v10_0 != 0 then (some (.inr false)) else ((reasm_Stream_Held.F k r5).bind fun v11_0 => bif v11_0 != 0 then (some (.inr false)) else (bif v4_0 != 0 then (some (.inr false)) else (some (.inr false)))))))))) else ((reasm_Stream_DataR.F k r5 a1_1 l1_2 false).bind fun v5_0 => bif v5_0 != 2 then (some (.inr false)) else ((reasm_Stream_ResetR.F k r5 a1_1).bind fun v6_0 => bif v6_0 != 2 then (some (.inr false)) else ((reasm_Stream_ReadR.F k r5 a1_1).bind fun s7_0 => bif ((s7_0.length : Nat) : Int) != 0 then (some (.inr false)) else ((reasm_Stream_Ready.F k r5).bind fun v8_0 => bif v8_0 != 0 then (some (.inr false)) else ((reasm_Stream_Limit.F k r5).bind fun v9_0 => bif v9_0 != 0 then (some (.inr false)) else ((reasm_Stream_At.F k r5).bind fun v10_0 => bif v10_0 != 0 then (some (.inr false)) else ((reasm_Stream_Held.F k r5).bind fun v11_0 => bif v11_0 != 0 then (some (.inr false)) else (bif v4_0 != 0 then (some (.inr false)) else (some (.inr false))))))))))) else (bif a1_3 then ((reasm_Stream_DataR.F k r5 a1_1 l1_2 true).bind fun v5_0 => bif v5_0 != 2 then (some (.inr false)) else ((reasm_Stream_ResetR.F k r5 a1_1).bind fun v6_0 => bif v6_0 != 2 then (some (.inr false)) else ((reasm_Stream_ReadR.F k r5 a1_1).bind fun s7_0 => bif ((s7_0.length : Nat) : Int) != 0 then (some (.inr false)) else ((reasm_Stream_Ready.F k r5).bind fun v8_0 => bif v8_0 != 0 then (some (.inr false)) else ((reasm_Stream_Limit.F k r5).bind fun v9_0 => bif v9_0 != 0 then (some (.inr false)) else ((reasm_Stream_At.F k r5).bind fun v10_0 => bif v10_0 != 0 then (some (.inr false)) else ((reasm_Stream_Held.F k r5).bind fun v11_0 => bif v11_0 != 0 then (some (.inr false)) else (bif v4_0 != 0 then (some (.inr false)) else ((reasm_Stream_Over.F k r5).bind fun v12_0 => bif v12_0 then ((reasm_Stream_Broken.F k r5).bind fun v13_0 => bif v13_0 then (some (.inr false)) else (some (.inl (IntKind.wrap IntKind.i64 (v2_0 + 1))))) else (some (.inr false))))))))))) else ((reasm_Stream_DataR.F k r5 a1_1 l1_2 false).bind fun v5_0 => bif v5_0 != 2 then (some (.inr false)) else ((reasm_Stream_ResetR.F k r5 a1_1).bind fun v6_0 => bif v6_0 != 2 then (some (.inr false)) else ((reasm_Stream_ReadR.F k r5 a1_1).bind fun s7_0 => bif ((s7_0.length : Nat) : Int) != 0 then (some (.inr false)) else ((reasm_Stream_Ready.F k r5).bind fun v8_0 => bif v8_0 != 0 then (some (.inr false)) else ((reasm_Stream_Limit.F k r5).bind fun v9_0 => bif v9_0 != 0 then (some (.inr false)) else ((reasm_Stream_At.F k r5).bind fun v10_0 => bif v10_0 != 0 then (some (.inr false)) else ((reasm_Stream_Held.F k r5).bind fun v11_0 => bif v11_0 != 0 then (some (.inr false)) else (bif v4_0 != 0 then (some (.inr false)) else ((reasm_Stream_Over.F k r5).bind fun v12_0 => bif v12_0 then ((reasm_Stream_Broken.F k r5).bind fun v13_0 => bif v13_0 then (some (.inr false)) else (some (.inl (IntKind.wrap IntKind.i64 (v2_0 + 1))))) else (some (.inr false))))))))))))) else ((reasm_New.F k 4096).bind fun (p3, v3_1) => match p3 with | none => bif v3_1 != 0 then (some (.inr false)) else (some (.inr false)) | some q3 => bif v3_1 != 0 then (some (.inr false)) else (bif decide ((0 : Int) ≤ (0 : Int) ∧ (0 : Int) ≤ (if 4000 < ((l0.length : Nat) : Int) then 4000 else ((l0.length : Nat) : Int)) ∧ (if 4000 < ((l0.length : Nat) : Int) then 4000 else ((l0.length : Nat) : Int)) ≤ (l0.length : Int)) then (bif decide (((([] : List Int)).length + (((l0.drop (Int.toNat 0)).take (Int.toNat (if 4000 < ((l0.length : Nat) : Int) then 4000 else ((l0.length : Nat) : Int)) - Int.toNat 0))).length) * 1 ≤ 140737488355328) then ((reasm_Stream_Data.F k q3 0 ((([] : List Int) ++ ((l0.drop (Int.toNat 0)).take (Int.toNat (if 4000 < ((l0.length : Nat) : Int) then 4000 else ((l0.length : Nat) : Int)) - Int.toNat 0)))) false).bind fun (v6_0, q6) => iter (law09_ReasmNobody.s7 k l0) k (0, q6, (([] : List Int) ++ ((l0.drop (Int.toNat 0)).take (Int.toNat (if 4000 < ((l0.length : Nat) : Int) then 4000 else ((l0.length : Nat) : Int)) - Int.toNat 0))))) else none) else none))
def law09_ReasmNobody.F (k : Nat) (l0 : List Int) (a1_0 : Int) (a1_1 : Int) (l1_2 : List Int) (a1_3 : Bool) : Option Bool := iter (law09_ReasmNobody.s2 k a1_1 a1_3 l0 l1_2) k 0
abbrev law09_ReasmNobody.A : Nat → LA := fun r => if r = 2 then ⟨[(21, false, [Lf.i IntKind.i64])], []⟩ else if r = 15 then ⟨[(114, false, [Lf.i IntKind.i64])], []⟩ else if r = 22 then ⟨[(133, false, [Lf.i IntKind.i64])], []⟩ else ⟨[], []⟩
set_option maxHeartbeats 4000000 in
theorem law09_ReasmNobody.t (A0 : Option Addr) (n0 c0 : Nat) (a1_0 : Int) (a1_1 : Int) (A1_2 : Option Addr) (n1_2 c1_2 : Nat) (a1_3 : Bool) : tree Try.prog law09_ReasmNobody.A noC Try.f7 [AV.v (Value.slice A0 n0 c0), AV.agg [AV.v (Value.int IntKind.u8 a1_0), AV.v (Value.int IntKind.i64 a1_1), AV.v (Value.slice A1_2 n1_2 c1_2), AV.v (Value.bool a1_3)]] [] =
  .sem (Instr.box 45 (Value.agg { toList := [Value.int IntKind.i64 0, Value.int IntKind.i64 0, Value.slice none 0 0, Value.slice none 0 0, Value.int IntKind.i64 0, Value.bool false, Value.bool false] })) ([Lf.p]) (Sh.one) (fun x0 =>
   .sem (Instr.buildSlice 46 2 { toList := [(0, Value.pointer none), (1, Value.pointer x0.1)] }) ([Lf.sl]) (Sh.one) (fun x1 =>
    .loop ([Lf.i IntKind.i64]) ((0, PUnit.unit)) 0 (fun x2 =>
     bif decide (x2.1 < ((x1.1.2.1 : Nat) : Int)) then (
      .need (decide (0 ≤ x2.1) && decide (x2.1 < ((x1.1.2.1 : Nat) : Int)) && Option.isSome x1.1.1) (
      .ld (Option.map (fun x => Addr.add x (Int.toNat x2.1 * 1)) x1.1.1) ([Lf.p]) (fun x3 =>
       .call 16 ([AV.v (Value.pointer x3.1)]) ([]) (Sh.tup [(false, 1), (false, 1)]) ([Lf.i IntKind.i64, Lf.b]) ([]) (fun x4 =>
        bif x4.2.1 then (
         bif a1_3 then (
          .call 10 ([AV.v (Value.pointer x3.1), AV.v (Value.int IntKind.i64 a1_1), AV.v (Value.slice A1_2 n1_2 c1_2), AV.v (Value.bool true)]) ([]) (Sh.one) ([Lf.i IntKind.i64]) ([]) (fun x5 =>
           bif x5.1 != 2 then (
            .done (AV.v (Value.bool false)) ([]))
           else (
            .call 17 ([AV.v (Value.pointer x3.1), AV.v (Value.int IntKind.i64 a1_1)]) ([]) (Sh.one) ([Lf.i IntKind.i64]) ([]) (fun x6 =>
             bif x6.1 != 2 then (
              .done (AV.v (Value.bool false)) ([]))
             else (
              .call 11 ([AV.v (Value.pointer x3.1), AV.v (Value.int IntKind.i64 a1_1)]) ([]) (Sh.one) ([Lf.sl]) ([]) (fun x7 =>
               bif ((x7.1.2.1 : Nat) : Int) != 0 then (
                .done (AV.v (Value.bool false)) ([]))
               else (
                .call 20 ([AV.v (Value.pointer x3.1)]) ([]) (Sh.one) ([Lf.i IntKind.i64]) ([]) (fun x8 =>
                 bif x8.1 != 0 then (
                  .done (AV.v (Value.bool false)) ([]))
                 else (
                  .call 18 ([AV.v (Value.pointer x3.1)]) ([]) (Sh.one) ([Lf.i IntKind.i64]) ([]) (fun x9 =>
                   bif x9.1 != 0 then (
                    .done (AV.v (Value.bool false)) ([]))
                   else (
                    .call 14 ([AV.v (Value.pointer x3.1)]) ([]) (Sh.one) ([Lf.i IntKind.i64]) ([]) (fun x10 =>
                     bif x10.1 != 0 then (
                      .done (AV.v (Value.bool false)) ([]))
                     else (
                      .call 19 ([AV.v (Value.pointer x3.1)]) ([]) (Sh.one) ([Lf.i IntKind.i64]) ([]) (fun x11 =>
                       bif x11.1 != 0 then (
                        .done (AV.v (Value.bool false)) ([]))
                       else (
                        bif x4.1 != 0 then (
                         .done (AV.v (Value.bool false)) ([]))
                        else (
                         .done (AV.v (Value.bool false)) ([])))))))))))))))))
         else (
          .call 10 ([AV.v (Value.pointer x3.1), AV.v (Value.int IntKind.i64 a1_1), AV.v (Value.slice A1_2 n1_2 c1_2), AV.v (Value.bool false)]) ([]) (Sh.one) ([Lf.i IntKind.i64]) ([]) (fun x5 =>
           bif x5.1 != 2 then (
            .done (AV.v (Value.bool false)) ([]))
           else (
            .call 17 ([AV.v (Value.pointer x3.1), AV.v (Value.int IntKind.i64 a1_1)]) ([]) (Sh.one) ([Lf.i IntKind.i64]) ([]) (fun x6 =>
             bif x6.1 != 2 then (
              .done (AV.v (Value.bool false)) ([]))
             else (
              .call 11 ([AV.v (Value.pointer x3.1), AV.v (Value.int IntKind.i64 a1_1)]) ([]) (Sh.one) ([Lf.sl]) ([]) (fun x7 =>
               bif ((x7.1.2.1 : Nat) : Int) != 0 then (
                .done (AV.v (Value.bool false)) ([]))
               else (
                .call 20 ([AV.v (Value.pointer x3.1)]) ([]) (Sh.one) ([Lf.i IntKind.i64]) ([]) (fun x8 =>
                 bif x8.1 != 0 then (
                  .done (AV.v (Value.bool false)) ([]))
                 else (
                  .call 18 ([AV.v (Value.pointer x3.1)]) ([]) (Sh.one) ([Lf.i IntKind.i64]) ([]) (fun x9 =>
                   bif x9.1 != 0 then (
                    .done (AV.v (Value.bool false)) ([]))
                   else (
                    .call 14 ([AV.v (Value.pointer x3.1)]) ([]) (Sh.one) ([Lf.i IntKind.i64]) ([]) (fun x10 =>
                     bif x10.1 != 0 then (
                      .done (AV.v (Value.bool false)) ([]))
                     else (
                      .call 19 ([AV.v (Value.pointer x3.1)]) ([]) (Sh.one) ([Lf.i IntKind.i64]) ([]) (fun x11 =>
                       bif x11.1 != 0 then (
                        .done (AV.v (Value.bool false)) ([]))
                       else (
                        bif x4.1 != 0 then (
                         .done (AV.v (Value.bool false)) ([]))
                        else (
                         .done (AV.v (Value.bool false)) ([]))))))))))))))))))
        else (
         bif a1_3 then (
          .call 10 ([AV.v (Value.pointer x3.1), AV.v (Value.int IntKind.i64 a1_1), AV.v (Value.slice A1_2 n1_2 c1_2), AV.v (Value.bool true)]) ([]) (Sh.one) ([Lf.i IntKind.i64]) ([]) (fun x5 =>
           bif x5.1 != 2 then (
            .done (AV.v (Value.bool false)) ([]))
           else (
            .call 17 ([AV.v (Value.pointer x3.1), AV.v (Value.int IntKind.i64 a1_1)]) ([]) (Sh.one) ([Lf.i IntKind.i64]) ([]) (fun x6 =>
             bif x6.1 != 2 then (
              .done (AV.v (Value.bool false)) ([]))
             else (
              .call 11 ([AV.v (Value.pointer x3.1), AV.v (Value.int IntKind.i64 a1_1)]) ([]) (Sh.one) ([Lf.sl]) ([]) (fun x7 =>
               bif ((x7.1.2.1 : Nat) : Int) != 0 then (
                .done (AV.v (Value.bool false)) ([]))
               else (
                .call 20 ([AV.v (Value.pointer x3.1)]) ([]) (Sh.one) ([Lf.i IntKind.i64]) ([]) (fun x8 =>
                 bif x8.1 != 0 then (
                  .done (AV.v (Value.bool false)) ([]))
                 else (
                  .call 18 ([AV.v (Value.pointer x3.1)]) ([]) (Sh.one) ([Lf.i IntKind.i64]) ([]) (fun x9 =>
                   bif x9.1 != 0 then (
                    .done (AV.v (Value.bool false)) ([]))
                   else (
                    .call 14 ([AV.v (Value.pointer x3.1)]) ([]) (Sh.one) ([Lf.i IntKind.i64]) ([]) (fun x10 =>
                     bif x10.1 != 0 then (
                      .done (AV.v (Value.bool false)) ([]))
                     else (
                      .call 19 ([AV.v (Value.pointer x3.1)]) ([]) (Sh.one) ([Lf.i IntKind.i64]) ([]) (fun x11 =>
                       bif x11.1 != 0 then (
                        .done (AV.v (Value.bool false)) ([]))
                       else (
                        bif x4.1 != 0 then (
                         .done (AV.v (Value.bool false)) ([]))
                        else (
                         .call 13 ([AV.v (Value.pointer x3.1)]) ([]) (Sh.one) ([Lf.b]) ([]) (fun x12 =>
                          bif x12.1 then (
                           .call 15 ([AV.v (Value.pointer x3.1)]) ([]) (Sh.one) ([Lf.b]) ([]) (fun x13 =>
                            bif x13.1 then (
                             .done (AV.v (Value.bool false)) ([]))
                            else (
                             .again 0 ([Lf.i IntKind.i64]) ((IntKind.wrap IntKind.i64 (x2.1 + 1), PUnit.unit)))))
                          else (
                           .done (AV.v (Value.bool false)) ([])))))))))))))))))))
         else (
          .call 10 ([AV.v (Value.pointer x3.1), AV.v (Value.int IntKind.i64 a1_1), AV.v (Value.slice A1_2 n1_2 c1_2), AV.v (Value.bool false)]) ([]) (Sh.one) ([Lf.i IntKind.i64]) ([]) (fun x5 =>
           bif x5.1 != 2 then (
            .done (AV.v (Value.bool false)) ([]))
           else (
            .call 17 ([AV.v (Value.pointer x3.1), AV.v (Value.int IntKind.i64 a1_1)]) ([]) (Sh.one) ([Lf.i IntKind.i64]) ([]) (fun x6 =>
             bif x6.1 != 2 then (
              .done (AV.v (Value.bool false)) ([]))
             else (
              .call 11 ([AV.v (Value.pointer x3.1), AV.v (Value.int IntKind.i64 a1_1)]) ([]) (Sh.one) ([Lf.sl]) ([]) (fun x7 =>
               bif ((x7.1.2.1 : Nat) : Int) != 0 then (
                .done (AV.v (Value.bool false)) ([]))
               else (
                .call 20 ([AV.v (Value.pointer x3.1)]) ([]) (Sh.one) ([Lf.i IntKind.i64]) ([]) (fun x8 =>
                 bif x8.1 != 0 then (
                  .done (AV.v (Value.bool false)) ([]))
                 else (
                  .call 18 ([AV.v (Value.pointer x3.1)]) ([]) (Sh.one) ([Lf.i IntKind.i64]) ([]) (fun x9 =>
                   bif x9.1 != 0 then (
                    .done (AV.v (Value.bool false)) ([]))
                   else (
                    .call 14 ([AV.v (Value.pointer x3.1)]) ([]) (Sh.one) ([Lf.i IntKind.i64]) ([]) (fun x10 =>
                     bif x10.1 != 0 then (
                      .done (AV.v (Value.bool false)) ([]))
                     else (
                      .call 19 ([AV.v (Value.pointer x3.1)]) ([]) (Sh.one) ([Lf.i IntKind.i64]) ([]) (fun x11 =>
                       bif x11.1 != 0 then (
                        .done (AV.v (Value.bool false)) ([]))
                       else (
                        bif x4.1 != 0 then (
                         .done (AV.v (Value.bool false)) ([]))
                        else (
                         .call 13 ([AV.v (Value.pointer x3.1)]) ([]) (Sh.one) ([Lf.b]) ([]) (fun x12 =>
                          bif x12.1 then (
                           .call 15 ([AV.v (Value.pointer x3.1)]) ([]) (Sh.one) ([Lf.b]) ([]) (fun x13 =>
                            bif x13.1 then (
                             .done (AV.v (Value.bool false)) ([]))
                            else (
                             .again 0 ([Lf.i IntKind.i64]) ((IntKind.wrap IntKind.i64 (x2.1 + 1), PUnit.unit)))))
                          else (
                           .done (AV.v (Value.bool false)) ([]))))))))))))))))))))))))
     else (
      .call 8 ([AV.v (Value.int IntKind.i64 4096)]) ([]) (Sh.tup [(false, 1), (false, 1)]) ([Lf.p, Lf.i IntKind.i64]) ([]) (fun x3 =>
       bif x3.2.1 != 0 then (
        .done (AV.v (Value.bool false)) ([]))
       else (
        bif Option.isNone x3.1 then (
         .done (AV.v (Value.bool false)) ([]))
        else (
         .need (true && decide (0 ≤ if 4000 < ((n0 : Nat) : Int) then 4000 else ((n0 : Nat) : Int)) && decide ((if 4000 < ((n0 : Nat) : Int) then 4000 else ((n0 : Nat) : Int)) ≤ ((c0 : Nat) : Int))) (
         .sem (Builtin.append_ { toList := [22, 22] } 22 { toList := [Value.slice none 0 0, Value.slice (if ((c0 : Nat) : Int) = 0 then A0 else Option.map (fun x => Addr.add x 0) A0) (Int.toNat (if 4000 < ((n0 : Nat) : Int) then 4000 else ((n0 : Nat) : Int)) - 0) (c0 - 0)] }) ([Lf.sl]) (Sh.one) (fun x4 =>
          .sem (convert 22 9 (Value.slice x4.1.1 x4.1.2.1 x4.1.2.2)) ([Lf.s]) (Sh.one) (fun x5 =>
           .call 10 ([AV.v (Value.pointer x3.1), AV.v (Value.int IntKind.i64 0), AV.v (Value.slice x4.1.1 x4.1.2.1 x4.1.2.2), AV.v (Value.bool false)]) ([]) (Sh.one) ([Lf.i IntKind.i64]) ([]) (fun x6 =>
            .loop ([Lf.i IntKind.i64]) ((0, PUnit.unit)) 0 (fun x7 =>
             bif decide (x7.1 < ((x4.1.2.1 : Nat) : Int)) then (
              .need (decide (0 ≤ x7.1) && decide (x7.1 < ((x4.1.2.1 : Nat) : Int)) && Option.isSome x4.1.1) (
              .ld (Option.map (fun x => Addr.add x (Int.toNat x7.1 * 1)) x4.1.1) ([Lf.i IntKind.u8]) (fun x8 =>
               .need (decide (0 ≤ x7.1) && decide (x7.1 < ((x4.1.2.1 : Nat) : Int)) && Option.isSome x4.1.1) (
               .sto (Option.map (fun x => Addr.add x (Int.toNat x7.1 * 1)) x4.1.1) ([AV.v (Value.int IntKind.u8 (IntKind.wrap IntKind.u8 (((BitVec.toNat (BitVec.ofInt 8 x8.1 ^^^ BitVec.ofInt 8 255)) : Nat) : Int)))]) ([]) (
               .again 0 ([Lf.i IntKind.i64]) ((IntKind.wrap IntKind.i64 (x7.1 + 1), PUnit.unit)))))))
             else (
              .need (true) (
              .call 11 ([AV.v (Value.pointer x3.1), AV.v (Value.int IntKind.i64 (IntKind.wrap IntKind.i64 (Int.tdiv (((x4.1.2.1 : Nat) : Int)) 2)))]) ([]) (Sh.one) ([Lf.sl]) ([]) (fun x8 =>
               .sem (convert 22 9 (Value.slice x8.1.1 x8.1.2.1 x8.1.2.2)) ([Lf.s]) (Sh.one) (fun x9 =>
                .loop ([Lf.i IntKind.i64]) ((0, PUnit.unit)) 0 (fun x10 =>
                 bif decide (x10.1 < ((x8.1.2.1 : Nat) : Int)) then (
                  .need (decide (0 ≤ x10.1) && decide (x10.1 < ((x8.1.2.1 : Nat) : Int)) && Option.isSome x8.1.1) (
                  .ld (Option.map (fun x => Addr.add x (Int.toNat x10.1 * 1)) x8.1.1) ([Lf.i IntKind.u8]) (fun x11 =>
                   .need (decide (0 ≤ x10.1) && decide (x10.1 < ((x8.1.2.1 : Nat) : Int)) && Option.isSome x8.1.1) (
                   .sto (Option.map (fun x => Addr.add x (Int.toNat x10.1 * 1)) x8.1.1) ([AV.v (Value.int IntKind.u8 (IntKind.wrap IntKind.u8 (((BitVec.toNat (BitVec.ofInt 8 x11.1 ^^^ BitVec.ofInt 8 255)) : Nat) : Int)))]) ([]) (
                   .again 0 ([Lf.i IntKind.i64]) ((IntKind.wrap IntKind.i64 (x10.1 + 1), PUnit.unit)))))))
                 else (
                  .call 11 ([AV.v (Value.pointer x3.1), AV.v (Value.int IntKind.i64 4096)]) ([]) (Sh.one) ([Lf.sl]) ([]) (fun x11 =>
                   .sem (convert 22 9 (Value.slice x11.1.1 x11.1.2.1 x11.1.2.2)) ([Lf.s]) (Sh.one) (fun x12 =>
                    .sem (Op.stringOp BinOp.add x9.1 x12.1) ([Lf.s]) (Sh.one) (fun x13 =>
                     bif ByteArray.toList x13.1 == ByteArray.toList x5.1 then (
                      .call 9 ([]) ([]) (Sh.one) ([Lf.b]) ([]) (fun x14 =>
                       bif x14.1 then (
                        .done (AV.v (Value.bool true)) ([]))
                       else (
                        .done (AV.v (Value.bool false)) ([]))))
                     else (
                      .done (AV.v (Value.bool false)) ([]))))))))))))))))))))))) := by kernel_rfl
end Go.Proofs.Ytdjeadgebcndeaa.X
