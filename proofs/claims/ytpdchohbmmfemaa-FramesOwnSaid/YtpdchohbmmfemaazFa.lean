import Derived.Test.YtpdchohbmmfemaazRxU
import Derived.Test.YtpdchohbmmfemaazRxSeat
import Derived.Test.YtpdchohbmmfemaaProg
import Derived.Test.YtpdchohbmmfemaazRx32
namespace Go.Proofs.Ytpdchohbmmfemaa.X
open Go Go.RowKit Go.Proofs.YtpdchohbmmfemaaW.Rx
set_option linter.unusedVariables false
set_option linter.unusedSimpArgs false
set_option maxRecDepth 10000
@[reducible] def R23 : FRow Int := ⟨1, by decide, fun x => [Value.int IntKind.u8 x], fun _ => rfl, fun x u h => by
 simp only [List.mem_cons, List.not_mem_nil, or_false] at h
 rcases h with rfl <;> rfl⟩
theorem E23 : Elem Try.prog 23 5 1 1 := ⟨rfl, _, _, rfl, rfl, rfl, rfl, rfl⟩
@[reducible] def R34 : FRow (Int × Int) := ⟨2, by decide, fun x => [Value.int IntKind.i64 x.1, Value.int IntKind.i64 x.2], fun _ => rfl, fun x u h => by
 simp only [List.mem_cons, List.not_mem_nil, or_false] at h
 rcases h with rfl | rfl <;> rfl⟩
theorem E34 : Elem Try.prog 34 42 2 16 := ⟨rfl, _, _, rfl, rfl, rfl, rfl, rfl⟩
@[reducible] def R76 : FRow Int := ⟨1, by decide, fun x => [Value.int IntKind.i64 x], fun _ => rfl, fun x u h => by
 simp only [List.mem_cons, List.not_mem_nil, or_false] at h
 rcases h with rfl <;> rfl⟩
theorem E76 : Elem Try.prog 76 3 1 8 := ⟨rfl, _, _, rfl, rfl, rfl, rfl, rfl⟩
@[reducible] def R22 : Row (Int × Int × Int × Int × Int × Bool × (List Int) × (List (Int × Int))) := ⟨8, by decide, fun L w x cs => ∃ (A6 : Option Addr) (n6 c6 : Nat) (A7 : Option Addr) (n7 c7 : Nat), cs = [Value.int IntKind.i64 x.1, Value.int IntKind.i64 x.2.1, Value.int IntKind.i64 x.2.2.1, Value.int IntKind.i64 x.2.2.2.1, Value.int IntKind.i64 x.2.2.2.2.1, Value.bool x.2.2.2.2.2.1, Lf.V .sl (A6, n6, c6), Lf.V .sl (A7, n7, c7)] ∧ n6 = (x.2.2.2.2.2.2.1).length ∧ SlR R23.row L w A6 c6 x.2.2.2.2.2.2.1 ∧ n7 = (x.2.2.2.2.2.2.2).length ∧ SlR R34.row L w A7 c7 x.2.2.2.2.2.2.2,
 fun ⟨A6, n6, c6, A7, n7, c7, e, m6, h6, m7, h7⟩ => by rw [e]; rfl, fun ⟨A6, n6, c6, A7, n7, c7, e, m6, h6, m7, h7⟩ g => ⟨A6, n6, c6, A7, n7, c7, e, m6, h6.later g, m7, h7.later g⟩, fun ⟨A6, n6, c6, A7, n7, c7, e, m6, h6, m7, h7⟩ g => ⟨A6, n6, c6, A7, n7, c7, e, m6, h6.mono g, m7, h7.mono g⟩, fun ⟨A6, n6, c6, A7, n7, c7, e, m6, h6, m7, h7⟩ u hu => by
  rw [e] at hu
  simp only [List.mem_cons, List.not_mem_nil, or_false] at hu
  rcases hu with rfl | rfl | rfl | rfl | rfl | rfl | rfl | rfl <;> rfl⟩
theorem E22 : Elem Try.prog 22 36 8 96 := ⟨rfl, _, _, rfl, rfl, rfl, rfl, rfl⟩
@[reducible] def R94 : Row ((List Int)) := ⟨1, by decide, fun L w x cs => ∃ (A0 : Option Addr) (n0 c0 : Nat), cs = [Lf.V .sl (A0, n0, c0)] ∧ n0 = (x).length ∧ SlR R23.row L w A0 c0 x,
 fun ⟨A0, n0, c0, e, m0, h0⟩ => by rw [e]; rfl, fun ⟨A0, n0, c0, e, m0, h0⟩ g => ⟨A0, n0, c0, e, m0, h0.later g⟩, fun ⟨A0, n0, c0, e, m0, h0⟩ g => ⟨A0, n0, c0, e, m0, h0.mono g⟩, fun ⟨A0, n0, c0, e, m0, h0⟩ u hu => by
  rw [e] at hu
  simp only [List.mem_cons, List.not_mem_nil, or_false] at hu
  rcases hu with rfl <;> rfl⟩
theorem E94 : Elem Try.prog 94 23 1 24 := ⟨rfl, _, _, rfl, rfl, rfl, rfl, rfl⟩
@[reducible] def R9052 : Row ((List Int) × Int) := ⟨2, by decide, fun L w x cs => ∃ (A0 : Option Addr) (n0 c0 : Nat), cs = [Lf.V .sl (A0, n0, c0), Value.int IntKind.i64 x.2] ∧ n0 = (x.1).length ∧ SlR R23.row L w A0 c0 x.1,
 fun ⟨A0, n0, c0, e, m0, h0⟩ => by rw [e]; rfl, fun ⟨A0, n0, c0, e, m0, h0⟩ g => ⟨A0, n0, c0, e, m0, h0.later g⟩, fun ⟨A0, n0, c0, e, m0, h0⟩ g => ⟨A0, n0, c0, e, m0, h0.mono g⟩, fun ⟨A0, n0, c0, e, m0, h0⟩ u hu => by
  rw [e] at hu
  simp only [List.mem_cons, List.not_mem_nil, or_false] at hu
  rcases hu with rfl | rfl <;> rfl⟩
@[reducible] def R9061 : Row ((List Int) × Int × Int × Int) := ⟨4, by decide, fun L w x cs => ∃ (A0 : Option Addr) (n0 c0 : Nat), cs = [Lf.V .sl (A0, n0, c0), Value.int IntKind.i64 x.2.1, Value.int IntKind.i64 x.2.2.1, Value.int IntKind.i64 x.2.2.2] ∧ n0 = (x.1).length ∧ SlR R23.row L w A0 c0 x.1,
 fun ⟨A0, n0, c0, e, m0, h0⟩ => by rw [e]; rfl, fun ⟨A0, n0, c0, e, m0, h0⟩ g => ⟨A0, n0, c0, e, m0, h0.later g⟩, fun ⟨A0, n0, c0, e, m0, h0⟩ g => ⟨A0, n0, c0, e, m0, h0.mono g⟩, fun ⟨A0, n0, c0, e, m0, h0⟩ u hu => by
  rw [e] at hu
  simp only [List.mem_cons, List.not_mem_nil, or_false] at hu
  rcases hu with rfl | rfl | rfl | rfl <;> rfl⟩
@[reducible] def RW52 : FRow ((Option Addr × Nat × Nat) × Int) := ⟨2, by decide, fun x => [Lf.V .sl (x.1), Value.int IntKind.i64 x.2], fun _ => rfl, fun x u h => by
 simp only [List.mem_cons, List.not_mem_nil, or_false] at h
 rcases h with rfl | rfl <;> rfl⟩
@[reducible] def RW61 : FRow ((Option Addr × Nat × Nat) × Int × Int × Int) := ⟨4, by decide, fun x => [Lf.V .sl (x.1), Value.int IntKind.i64 x.2.1, Value.int IntKind.i64 x.2.2.1, Value.int IntKind.i64 x.2.2.2], fun _ => rfl, fun x u h => by
 simp only [List.mem_cons, List.not_mem_nil, or_false] at h
 rcases h with rfl | rfl | rfl | rfl <;> rfl⟩
def frames_needs.F (k : Nat) (a0 : Bool) (a1 : Int) (a2 : Int) : Option (Except (Int × Int) Unit) := bif a0 then (some (.ok (()))) else (some (.error (a1, a2)))
abbrev frames_needs.A : Nat → LA := noA
set_option maxHeartbeats 4000000 in
theorem frames_needs.t (a0 : Bool) (a1 : Int) (a2 : Int) : tree Try.prog frames_needs.A noC Try.f25 [AV.v (Value.bool a0), AV.v (.int .i64 a1), AV.v (.int .i64 a2)] [] =
  bif a0 then (
   .done (AV.tup []) ([]))
  else (
   .die (AV.v (Value.iface 48 (Value.agg { toList := [Value.int IntKind.i64 a1, Value.int IntKind.i64 a2] })))) := by kernel_rfl
set_option maxHeartbeats 4000000 in
theorem frames_needs.c (k : Nat) (a0 : Bool) (a1 : Int) (a2 : Int) (r : Except (Int × Int) Unit) (h : frames_needs.F k a0 a1 a2 = some r)  (w : World)  : Calls Try.prog 25 (AV.gs id [AV.v (Value.bool a0), AV.v (.int .i64 a1), AV.v (.int .i64 a2)]).toArray w fun e w' => match r with | .ok r => e = .returned (((Sh.tup [] : Sh).av (vs [] (()))).g id) ∧ Below w.heap.size w w' | .error z => e = .panicked [{ v := .iface 48 (.agg #[.int .i64 z.1, .int .i64 z.2]), recovered := false }] ∧ Below w.heap.size w w' := by
 refine enter0 mixed frames_needs.A noC [AV.v (Value.bool a0), AV.v (.int .i64 a1), AV.v (.int .i64 a2)] Try.func25 rfl rfl rfl (fun hF => ?_)
 rw [frames_needs.t]
 unfold frames_needs.F at h
 try dsimp only at h
 refine ok_if (fun hc1 => ?_) (fun hc1 => ?_)
 ·have h := bif_t h hc1
  obtain rfl := Option.some.inj h
  intro ρ L w' _ he _ _
  exact ⟨rfl, (hF.ext he).below⟩
 ·have h := bif_f h hc1
  obtain rfl := Option.some.inj h
  refine ok_die rfl (fun ρ L w' _ he => ?_)
  exact ⟨rfl, (hF.ext he).below⟩
def vint_Get.s3 (k : Nat) (a1 : Int) (l0 : List Int) (r10 : Int) : (Int × Int) → Option (Sum (Int × Int) (Int × Int × Int × Int)) := fun (v3_0, v3_1) => bif decide (v3_1 < (((Int.toNat (IntKind.i64.wrap (1 * 2 ^ min (Int.toNat (Int.fdiv r10 (2 ^ 6))) 64)) - 1) : Nat) : Int)) then ((getI ((((l0.drop (Int.toNat a1)).take (Int.toNat (((l0.length : Nat) : Int)) - Int.toNat a1)).drop (Int.toNat 1)).take (Int.toNat (IntKind.i64.wrap (1 * 2 ^ min (Int.toNat (Int.fdiv r10 (2 ^ 6))) 64)) - Int.toNat 1)) v3_1).bind fun r19 => some (.inl ((IntKind.i64.wrap (((BitVec.toNat (BitVec.ofInt 64 (IntKind.i64.wrap (v3_0 * 2 ^ 8)) ||| BitVec.ofInt 64 (IntKind.i64.wrap r19))) : Nat) : Int), IntKind.i64.wrap (v3_1 + 1))))) else (some (.inr ((v3_0, IntKind.i64.wrap (a1 + IntKind.i64.wrap (1 * 2 ^ min (Int.toNat (Int.fdiv r10 (2 ^ 6))) 64)), 0, 0))))
def vint_Get.F (k : Nat) (l0 : List Int) (a1 : Int) : Option (Int × Int × Int × Int) := bif decide (a1 < 0) then (some ((0, 0, 1, a1))) else (bif decide (((l0.length : Nat) : Int) < a1) then (some ((0, 0, 1, a1))) else (bif decide ((0 : Int) ≤ a1 ∧ a1 ≤ (((l0.length : Nat) : Int)) ∧ (((l0.length : Nat) : Int)) ≤ (l0.length : Int)) then (bif (((Int.toNat ((l0.length : Nat) : Int) - Int.toNat a1) : Nat) : Int) == 0 then (some ((0, 0, 3, ((l0.length : Nat) : Int)))) else ((getI ((l0.drop (Int.toNat a1)).take (Int.toNat (((l0.length : Nat) : Int)) - Int.toNat a1)) 0).bind fun r6 => bif decide (0 ≤ Int.fdiv r6 (2 ^ 6)) then (bif decide ((((Int.toNat ((l0.length : Nat) : Int) - Int.toNat a1) : Nat) : Int) < IntKind.i64.wrap (1 * 2 ^ min (Int.toNat (Int.fdiv r6 (2 ^ 6))) 64)) then (some ((0, 0, 3, ((l0.length : Nat) : Int)))) else ((getI ((l0.drop (Int.toNat a1)).take (Int.toNat (((l0.length : Nat) : Int)) - Int.toNat a1)) 0).bind fun r10 => bif decide (0 ≤ Int.fdiv r10 (2 ^ 6)) then ((getI ((l0.drop (Int.toNat a1)).take (Int.toNat (((l0.length : Nat) : Int)) - Int.toNat a1)) 0).bind fun r13 => bif decide ((0 : Int) ≤ (1 : Int) ∧ (1 : Int) ≤ (IntKind.i64.wrap (1 * 2 ^ min (Int.toNat (Int.fdiv r10 (2 ^ 6))) 64)) ∧ (IntKind.i64.wrap (1 * 2 ^ min (Int.toNat (Int.fdiv r10 (2 ^ 6))) 64)) ≤ ((((l0.drop (Int.toNat a1)).take (Int.toNat (((l0.length : Nat) : Int)) - Int.toNat a1))).length : Int)) then (iter (vint_Get.s3 k a1 l0 r10) k (IntKind.i64.wrap (IntKind.wrap IntKind.u8 (((BitVec.toNat (BitVec.ofInt 8 r13 &&& BitVec.ofInt 8 63)) : Nat) : Int)), 0)) else none) else none)) else none)) else none))
abbrev vint_Get.A : Nat → LA := fun r => if r = 9 then ⟨[(9, false, [Lf.i .i64]), (55, false, [Lf.i .i64])], []⟩ else ⟨[], []⟩
set_option maxHeartbeats 4000000 in
theorem vint_Get.t (A0 : Option Addr) (n0 c0 : Nat) (a1 : Int) : tree Try.prog vint_Get.A noC Try.f62 [AV.v (Value.slice A0 n0 c0), AV.v (.int .i64 a1)] [] =
  bif decide (a1 < 0) then (
   .done (AV.tup [AV.v (.int .i64 0), AV.v (.int .i64 0), AV.agg [AV.v (.int .i64 1), AV.v (.int .i64 a1)]]) ([]))
  else (
   bif decide (((n0 : Nat) : Int) < a1) then (
    .done (AV.tup [AV.v (.int .i64 0), AV.v (.int .i64 0), AV.agg [AV.v (.int .i64 1), AV.v (.int .i64 a1)]]) ([]))
   else (
    .need (decide (0 ≤ a1) && decide (a1 ≤ ((n0 : Nat) : Int)) && decide (((n0 : Nat) : Int) ≤ ((n0 : Nat) : Int))) (
    bif (((Int.toNat ((n0 : Nat) : Int) - Int.toNat a1) : Nat) : Int) == 0 then (
     .done (AV.tup [AV.v (.int .i64 0), AV.v (.int .i64 0), AV.agg [AV.v (.int .i64 3), AV.v (.int .i64 ((n0 : Nat) : Int))]]) ([]))
    else (
     .need (true && decide (0 < (((Int.toNat ((n0 : Nat) : Int) - Int.toNat a1) : Nat) : Int)) && Option.isSome (if ((c0 : Nat) : Int) = a1 then A0 else Option.map (fun x => Addr.add x (Int.toNat a1 * 1)) A0)) (
     .ld (Option.map (fun x => Addr.add x 0) (if ((c0 : Nat) : Int) = a1 then A0 else Option.map (fun x => Addr.add x (Int.toNat a1 * 1)) A0)) ([Lf.i IntKind.u8]) (fun x0 =>
      .need (true) (
      .need (decide (0 ≤ Int.fdiv x0.1 (2 ^ 6))) (
      bif decide ((((Int.toNat ((n0 : Nat) : Int) - Int.toNat a1) : Nat) : Int) < IntKind.i64.wrap (1 * 2 ^ min (Int.toNat (Int.fdiv x0.1 (2 ^ 6))) 64)) then (
       .done (AV.tup [AV.v (.int .i64 0), AV.v (.int .i64 0), AV.agg [AV.v (.int .i64 3), AV.v (.int .i64 ((n0 : Nat) : Int))]]) ([]))
      else (
       .need (true && decide (0 < (((Int.toNat ((n0 : Nat) : Int) - Int.toNat a1) : Nat) : Int)) && Option.isSome (if ((c0 : Nat) : Int) = a1 then A0 else Option.map (fun x => Addr.add x (Int.toNat a1 * 1)) A0)) (
       .ld (Option.map (fun x => Addr.add x 0) (if ((c0 : Nat) : Int) = a1 then A0 else Option.map (fun x => Addr.add x (Int.toNat a1 * 1)) A0)) ([Lf.i IntKind.u8]) (fun x1 =>
        .need (true) (
        .need (decide (0 ≤ Int.fdiv x1.1 (2 ^ 6))) (
        .need (true && decide (0 < (((Int.toNat ((n0 : Nat) : Int) - Int.toNat a1) : Nat) : Int)) && Option.isSome (if ((c0 : Nat) : Int) = a1 then A0 else Option.map (fun x => Addr.add x (Int.toNat a1 * 1)) A0)) (
        .ld (Option.map (fun x => Addr.add x 0) (if ((c0 : Nat) : Int) = a1 then A0 else Option.map (fun x => Addr.add x (Int.toNat a1 * 1)) A0)) ([Lf.i IntKind.u8]) (fun x2 =>
         .need (true && decide (1 ≤ IntKind.i64.wrap (1 * 2 ^ min (Int.toNat (Int.fdiv x1.1 (2 ^ 6))) 64)) && decide (IntKind.i64.wrap (1 * 2 ^ min (Int.toNat (Int.fdiv x1.1 (2 ^ 6))) 64) ≤ (((c0 - Int.toNat a1) : Nat) : Int))) (
         .loop ([Lf.i .i64, Lf.i .i64]) ((IntKind.i64.wrap (IntKind.wrap IntKind.u8 (((BitVec.toNat (BitVec.ofInt 8 x2.1 &&& BitVec.ofInt 8 63)) : Nat) : Int)), 0, PUnit.unit)) 0 (fun x3 =>
          bif decide (x3.2.1 < (((Int.toNat (IntKind.i64.wrap (1 * 2 ^ min (Int.toNat (Int.fdiv x1.1 (2 ^ 6))) 64)) - 1) : Nat) : Int)) then (
           .need (decide (0 ≤ x3.2.1) && decide (x3.2.1 < (((Int.toNat (IntKind.i64.wrap (1 * 2 ^ min (Int.toNat (Int.fdiv x1.1 (2 ^ 6))) 64)) - 1) : Nat) : Int)) && Option.isSome (if (((c0 - Int.toNat a1) : Nat) : Int) = 1 then if ((c0 : Nat) : Int) = a1 then A0 else Option.map (fun x => Addr.add x (Int.toNat a1 * 1)) A0 else Option.map (fun x => Addr.add x 1) (if ((c0 : Nat) : Int) = a1 then A0 else Option.map (fun x => Addr.add x (Int.toNat a1 * 1)) A0))) (
           .ld (Option.map (fun x => Addr.add x (Int.toNat x3.2.1 * 1)) (if (((c0 - Int.toNat a1) : Nat) : Int) = 1 then if ((c0 : Nat) : Int) = a1 then A0 else Option.map (fun x => Addr.add x (Int.toNat a1 * 1)) A0 else Option.map (fun x => Addr.add x 1) (if ((c0 : Nat) : Int) = a1 then A0 else Option.map (fun x => Addr.add x (Int.toNat a1 * 1)) A0))) ([Lf.i IntKind.u8]) (fun x4 =>
            .need (true) (
            .again 0 ([Lf.i .i64, Lf.i .i64]) ((IntKind.i64.wrap (((BitVec.toNat (BitVec.ofInt 64 (IntKind.i64.wrap (x3.1 * 2 ^ 8)) ||| BitVec.ofInt 64 (IntKind.i64.wrap x4.1))) : Nat) : Int), IntKind.i64.wrap (x3.2.1 + 1), PUnit.unit))))))
          else (
           .done (AV.tup [AV.v (.int .i64 x3.1), AV.v (.int .i64 (IntKind.i64.wrap (a1 + IntKind.i64.wrap (1 * 2 ^ min (Int.toNat (Int.fdiv x1.1 (2 ^ 6))) 64)))), AV.agg [AV.v (.int .i64 0), AV.v (.int .i64 0)]]) ([]))))))))))))))))))) := by kernel_rfl
set_option maxHeartbeats 4000000 in
theorem vint_Get.c (k : Nat) (A0 : Option Addr) (n0 c0 : Nat) (l0 : List Int) (a1 : Int) (r : Int × Int × Int × Int) (h : vint_Get.F k l0 a1 = some r) (hn0 : n0 = l0.length) (w : World) (hS0 : SlR R23.row (fun _ => False) w A0 c0 l0) : Calls Try.prog 62 (AV.gs id [AV.v (Value.slice A0 n0 c0), AV.v (.int .i64 a1)]).toArray w fun e w' => e = .returned (((Sh.tup [(false, 1), (false, 1), (true, 2)] : Sh).av (vs [Lf.i .i64, Lf.i .i64, Lf.i .i64, Lf.i .i64] (r.1, r.2.1, r.2.2.1, r.2.2.2, ()))).g id) ∧ Below w.heap.size w w' := by
 subst hn0
 refine enter0 mixed vint_Get.A noC [AV.v (Value.slice A0 l0.length c0), AV.v (.int .i64 a1)] Try.func62 rfl rfl rfl (fun hF => ?_)
 rw [vint_Get.t]
 unfold vint_Get.F at h
 try dsimp only at h
 refine ok_if (fun hc1 => ?_) (fun hc1 => ?_)
 ·have h := bif_t h hc1
  obtain rfl := Option.some.inj h
  intro ρ L w' _ he _ _
  exact ⟨rfl, (hF.ext he).below⟩
 ·have h := bif_f h hc1
  refine ok_if (fun hc2 => ?_) (fun hc2 => ?_)
  ·have h := bif_t h hc2
   obtain rfl := Option.some.inj h
   intro ρ L w' _ he _ _
   exact ⟨rfl, (hF.ext he).below⟩
  ·have h := bif_f h hc2
   obtain ⟨hs3, h⟩ := bif_need h
   have hs3 := of_decide_eq_true hs3
   have hcap := (hS0.later hF).2.1
   refine ok_need (by first | exact part3 hs3 hcap | exact part3 hs3 (Nat.le_refl _)) ?_
   refine ok_if (fun hc5 => ?_) (fun hc5 => ?_)
   ·have h := bif_t h hc5
    obtain rfl := Option.some.inj h
    intro ρ L w' _ he _ _
    exact ⟨rfl, (hF.ext he).below⟩
   ·have h := bif_f h hc5
    obtain ⟨r6, hr7, h⟩ := bse h
    refine ok_need (by first | exact getI_need ((hS0.later hF).sub _ _ hs3.1 hs3.2.1 hs3.2.2) hr7 | (rw [show (true && _) = (decide ((0 : Int) ≤ 0) && _) from rfl, (sub_len hs3.1 hs3.2.1 hs3.2.2)]; exact getI_need ((hS0.later hF).sub _ _ hs3.1 hs3.2.1 hs3.2.2) hr7) | (rw [(sub_len hs3.1 hs3.2.1 hs3.2.2)]; exact getI_need ((hS0.later hF).sub _ _ hs3.1 hs3.2.1 hs3.2.2) hr7) | (rw [show (Int.toNat (((l0.length : Nat) : Int)) - Int.toNat a1) = ((l0.drop (Int.toNat a1)).take (Int.toNat (((l0.length : Nat) : Int)) - Int.toNat a1)).length from (sub_len hs3.1 hs3.2.1 hs3.2.2)]; exact getI_need ((hS0.later hF).sub _ _ hs3.1 hs3.2.1 hs3.2.2) hr7)) ?_
    try rw [show (Option.map (fun x => Addr.add x 0) _) = Option.map (fun x => Addr.add x (Int.toNat (0 : Int) * 1)) _ from rfl]
    refine ok_get (hS0.sub _ _ hs3.1 hs3.2.1 hs3.2.2) hF hr7 (by simp) (fun cs hcs => ⟨(r6, ()), hcs.symm, ?_⟩)
    try dsimp only
    refine ok_need rfl ?_
    obtain ⟨hn8, h⟩ := bif_need h
    refine ok_need hn8 ?_
    refine ok_if (fun hc9 => ?_) (fun hc9 => ?_)
    ·have h := bif_t h hc9
     obtain rfl := Option.some.inj h
     intro ρ L w' _ he _ _
     exact ⟨rfl, (hF.ext he).below⟩
    ·have h := bif_f h hc9
     obtain ⟨r10, hr11, h⟩ := bse h
     refine ok_need (by first | exact getI_need ((hS0.later hF).sub _ _ hs3.1 hs3.2.1 hs3.2.2) hr11 | (rw [show (true && _) = (decide ((0 : Int) ≤ 0) && _) from rfl, (sub_len hs3.1 hs3.2.1 hs3.2.2)]; exact getI_need ((hS0.later hF).sub _ _ hs3.1 hs3.2.1 hs3.2.2) hr11) | (rw [(sub_len hs3.1 hs3.2.1 hs3.2.2)]; exact getI_need ((hS0.later hF).sub _ _ hs3.1 hs3.2.1 hs3.2.2) hr11) | (rw [show (Int.toNat (((l0.length : Nat) : Int)) - Int.toNat a1) = ((l0.drop (Int.toNat a1)).take (Int.toNat (((l0.length : Nat) : Int)) - Int.toNat a1)).length from (sub_len hs3.1 hs3.2.1 hs3.2.2)]; exact getI_need ((hS0.later hF).sub _ _ hs3.1 hs3.2.1 hs3.2.2) hr11)) ?_
     try rw [show (Option.map (fun x => Addr.add x 0) _) = Option.map (fun x => Addr.add x (Int.toNat (0 : Int) * 1)) _ from rfl]
     refine ok_get (hS0.sub _ _ hs3.1 hs3.2.1 hs3.2.2) hF hr11 (by simp) (fun cs hcs => ⟨(r10, ()), hcs.symm, ?_⟩)
     try dsimp only
     refine ok_need rfl ?_
     obtain ⟨hn12, h⟩ := bif_need h
     refine ok_need hn12 ?_
     obtain ⟨r13, hr14, h⟩ := bse h
     refine ok_need (by first | exact getI_need ((hS0.later hF).sub _ _ hs3.1 hs3.2.1 hs3.2.2) hr14 | (rw [show (true && _) = (decide ((0 : Int) ≤ 0) && _) from rfl, (sub_len hs3.1 hs3.2.1 hs3.2.2)]; exact getI_need ((hS0.later hF).sub _ _ hs3.1 hs3.2.1 hs3.2.2) hr14) | (rw [(sub_len hs3.1 hs3.2.1 hs3.2.2)]; exact getI_need ((hS0.later hF).sub _ _ hs3.1 hs3.2.1 hs3.2.2) hr14) | (rw [show (Int.toNat (((l0.length : Nat) : Int)) - Int.toNat a1) = ((l0.drop (Int.toNat a1)).take (Int.toNat (((l0.length : Nat) : Int)) - Int.toNat a1)).length from (sub_len hs3.1 hs3.2.1 hs3.2.2)]; exact getI_need ((hS0.later hF).sub _ _ hs3.1 hs3.2.1 hs3.2.2) hr14)) ?_
     try rw [show (Option.map (fun x => Addr.add x 0) _) = Option.map (fun x => Addr.add x (Int.toNat (0 : Int) * 1)) _ from rfl]
     refine ok_get (hS0.sub _ _ hs3.1 hs3.2.1 hs3.2.2) hF hr14 (by simp) (fun cs hcs => ⟨(r13, ()), hcs.symm, ?_⟩)
     try dsimp only
     obtain ⟨hs15, h⟩ := bif_need h
     have hs15 := of_decide_eq_true hs15
     have hcap := ((hS0.later hF).sub _ _ hs3.1 hs3.2.1 hs3.2.2).2.1
     refine ok_need (by first | exact part3 hs15 hcap | exact part3 hs15 (Nat.le_refl _)) ?_
     obtain ⟨I3, hI3⟩ : ∃ I : Nat → Tup [Lf.i .i64, Lf.i .i64] → (Nat → Prop) → World → Prop, I = (fun m_ y L w' => ∃ (v3_0 : Int) (v3_1 : Int), y = (v3_0, v3_1, ()) ∧ iter (vint_Get.s3 k a1 l0 r10) m_ (v3_0, v3_1) = some r ∧ Fine (fun _ => False) w L w') := ⟨_, rfl⟩
     refine ok_loop I3 k (by rw [hI3]; exact ⟨_, _, rfl, h, hF⟩) ?_
     clear h
     intro m_ y L3 w3 hy
     rw [hI3] at hy
     obtain ⟨v3_0, v3_1, rfl, h, hF⟩ := hy
     obtain ⟨m3, o3, rfl, h, hl3, hr_3⟩ := iter_some h
     unfold vint_Get.s3 at h
     try dsimp only at h
     try dsimp only
     refine ok_if (fun hc18 => ?_) (fun hc18 => ?_)
     ·have h := bif_t h hc18
      obtain ⟨r19, hr20, h⟩ := bse h
      refine ok_need (by first | exact getI_need (((hS0.later hF).sub _ _ hs3.1 hs3.2.1 hs3.2.2).sub _ _ hs15.1 hs15.2.1 hs15.2.2) hr20 | (rw [show (true && _) = (decide ((0 : Int) ≤ 0) && _) from rfl, (sub_len hs15.1 hs15.2.1 hs15.2.2)]; exact getI_need (((hS0.later hF).sub _ _ hs3.1 hs3.2.1 hs3.2.2).sub _ _ hs15.1 hs15.2.1 hs15.2.2) hr20) | (rw [(sub_len hs15.1 hs15.2.1 hs15.2.2)]; exact getI_need (((hS0.later hF).sub _ _ hs3.1 hs3.2.1 hs3.2.2).sub _ _ hs15.1 hs15.2.1 hs15.2.2) hr20) | (rw [show (Int.toNat (IntKind.i64.wrap (1 * 2 ^ min (Int.toNat (Int.fdiv r10 (2 ^ 6))) 64)) - 1) = ((((l0.drop (Int.toNat a1)).take (Int.toNat (((l0.length : Nat) : Int)) - Int.toNat a1)).drop (Int.toNat 1)).take (Int.toNat (IntKind.i64.wrap (1 * 2 ^ min (Int.toNat (Int.fdiv r10 (2 ^ 6))) 64)) - Int.toNat 1)).length from (sub_len hs15.1 hs15.2.1 hs15.2.2)]; exact getI_need (((hS0.later hF).sub _ _ hs3.1 hs3.2.1 hs3.2.2).sub _ _ hs15.1 hs15.2.1 hs15.2.2) hr20)) ?_
      refine ok_get ((hS0.sub _ _ hs3.1 hs3.2.1 hs3.2.2).sub _ _ hs15.1 hs15.2.1 hs15.2.2) hF hr20 (by simp) (fun cs hcs => ⟨(r19, ()), hcs.symm, ?_⟩)
      try dsimp only
      refine ok_need rfl ?_
      obtain rfl := Option.some.inj h
      have h := hl3 _ rfl
      exact ok_again (I := I3) m3 (Nat.lt_succ_self _) (fun L w' he => by rw [hI3]; exact ⟨_, _, rfl, h, hF.trans he.fine⟩)
     ·have h := bif_f h hc18
      obtain rfl := Option.some.inj h
      obtain rfl := hr_3 _ rfl
      intro ρ L w' _ he _ _
      exact ⟨rfl, (hF.ext he).below⟩
abbrev f0_number.S (a0 : Option Addr) : Nat → Prop := fun b => blk (a0, 0, 0) b
def f0_number.F (k : Nat) (q0 : (List Int) × Int) : Option (Except (Int × Int) (Int × ((List Int) × Int))) := (vint_Get.F k q0.1 q0.2).bind fun (v2_0, v2_1, v2_2, v2_3) => bif v2_2 == 0 && (v2_3 == 0 && true) then ((frames_needs.F k true v2_2 v2_3).bind fun r3 => match r3 with | .error z3 => some (.error z3) | .ok _ => some (.ok ((v2_0, (q0.1, v2_1))))) else ((frames_needs.F k false v2_2 v2_3).bind fun r3 => match r3 with | .error z3 => some (.error z3) | .ok _ => some (.ok ((v2_0, (q0.1, v2_1)))))
abbrev f0_number.A : Nat → LA := noA
set_option maxHeartbeats 4000000 in
theorem f0_number.t (a0 : Option Addr) : tree Try.prog f0_number.A noC Try.f44 [AV.v (Value.pointer a0)] [] =
  .need (Option.isSome a0) (
  .need (Option.isSome a0) (
  .ld (Option.map (fun x => Addr.add x 0) a0) ([Lf.sl]) (fun x0 =>
   .need (Option.isSome a0) (
   .need (Option.isSome a0) (
   .ld (Option.map (fun x => Addr.add x 1) a0) ([Lf.i .i64]) (fun x1 =>
    .call 62 ([AV.v (Value.slice x0.1.1 x0.1.2.1 x0.1.2.2), AV.v (.int .i64 x1.1)]) ([]) (Sh.tup [(false, 1), (false, 1), (true, 2)]) ([Lf.i .i64, Lf.i .i64, Lf.i .i64, Lf.i .i64]) ([]) (fun x2 =>
     bif x2.2.2.1 == 0 && (x2.2.2.2.1 == 0 && true) then (
      .call 25 ([AV.v (Value.bool true), AV.v (.int .i64 x2.2.2.1), AV.v (.int .i64 x2.2.2.2.1)]) ([]) (Sh.tup []) ([]) ([]) (fun x3 =>
       .need (Option.isSome a0) (
       .need (Option.isSome a0) (
       .sto (Option.map (fun x => Addr.add x 1) a0) ([AV.v (.int .i64 x2.2.1)]) ([]) (
       .done (AV.v (.int .i64 x2.1)) ([]))))))
     else (
      .call 25 ([AV.v (Value.bool false), AV.v (.int .i64 x2.2.2.1), AV.v (.int .i64 x2.2.2.2.1)]) ([]) (Sh.tup []) ([]) ([]) (fun x3 =>
       .need (Option.isSome a0) (
       .need (Option.isSome a0) (
       .sto (Option.map (fun x => Addr.add x 1) a0) ([AV.v (.int .i64 x2.2.1)]) ([]) (
       .done (AV.v (.int .i64 x2.1)) ([]))))))))))))) := by kernel_rfl
set_option maxHeartbeats 4000000 in
theorem f0_number.c (k : Nat) (a0 : Option Addr) (q0 : (List Int) × Int) (A0_0 : Option Addr) (c0_0 : Nat) (r : Except (Int × Int) (Int × ((List Int) × Int))) (h : f0_number.F k q0 = some r)  (w : World) (hW0 : OwnO 0 (fun _ => False) w 52 RW52 a0 1 [((A0_0, q0.1.length, c0_0), q0.2)]) (hS0_0 : SlR R23.row (f0_number.S a0) w A0_0 c0_0 q0.1) : Calls Try.prog 44 (AV.gs id [AV.v (Value.pointer a0)]).toArray w fun e w' => match r with | .ok r => e = .returned (((Sh.one : Sh).av (vs [Lf.i .i64] (r.1, ()))).g id) ∧ Fine (f0_number.S a0) w (f0_number.S a0) w' ∧ OwnO 0 (fun _ => False) w' 52 RW52 a0 1 [((A0_0, r.2.1.length, c0_0), r.2.2)] ∧ r.2.1 = q0.1 | .error z => e = .panicked [{ v := .iface 48 (.agg #[.int .i64 z.1, .int .i64 z.2]), recovered := false }] ∧ Fine (f0_number.S a0) w (f0_number.S a0) w' := by
 refine enter0 mixed f0_number.A noC [AV.v (Value.pointer a0)] Try.func44 rfl rfl rfl (fun hF => ?_)
 have hA_a0 : Option.isSome a0 = true := hW0.sl.some (by simp)
 have hN_a0 : Option.isNone a0 = false := by cases a0 <;> simp_all
 have hF : Fine (f0_number.S a0) w (fun _ => False) w := ⟨rfl, rfl, rfl, Nat.le_refl _, fun _ _ _ => rfl, fun b h => h.elim⟩
 have hm0 : ∀ b, blk (a0, 0, 0) b → (f0_number.S a0) b ∨ w.heap.size ≤ b := fun b hb => Or.inl hb
 rw [f0_number.t]
 unfold f0_number.F at h
 try dsimp only at h
 refine ok_need hA_a0 ?_
 refine ok_need hA_a0 ?_
 refine ok_ob 0 hW0.sl (Fine.refl _ _) (fun cs hcs => ⟨(A0_0, q0.1.length, c0_0), by rw [hcs]; rfl, ?_⟩)
 try dsimp only
 refine ok_need hA_a0 ?_
 refine ok_need hA_a0 ?_
 refine ok_ob 1 hW0.sl (Fine.refl _ _) (fun cs hcs => ⟨q0.2, by rw [hcs]; rfl, ?_⟩)
 try dsimp only
 obtain ⟨r2, hr2, h⟩ := bse h
 obtain ⟨v2_0, v2_1, v2_2, v2_3⟩ := r2
 try dsimp only at h
 refine ok_callm rfl (fun L2 w2 g2 lt2 => ?_)
 refine (vint_Get.c k _ _ _ q0.1 q0.2 (v2_0, v2_1, v2_2, v2_3) hr2 rfl w2 (hS0_0.later (hF.trans g2)).bare).mono ?_
 rintro e w2' ⟨rfl, hb2⟩
 refine ⟨(v2_0, v2_1, v2_2, v2_3, ()), rfl, hb2, fun g2' => ?_⟩
 try dsimp only
 have hF := hF.trans g2'
 have hW0 := hW0.later g2'
 refine ok_if (fun hc3 => ?_) (fun hc3 => ?_)
 ·have h := bif_t h hc3
  obtain ⟨r3, hr3, h⟩ := bse h
  rcases r3 with z3 | r3
  ·try dsimp only at h
   obtain rfl := Option.some.inj h
   refine ok_callp rfl (fun L3 w3 g3 lt3 => ?_)
   refine (frames_needs.c k true v2_2 v2_3 _ hr3  w3 ).mono ?_
   rintro e w3' ⟨rfl, hb3⟩
   exact ⟨_, rfl, rfl, ((hF.trans g3).step hb3).with (fun b h => Or.inl h)⟩
  try dsimp only at h
  refine ok_callm rfl (fun L3 w3 g3 lt3 => ?_)
  refine (frames_needs.c k true v2_2 v2_3 (.ok r3) hr3  w3 ).mono ?_
  rintro e w3' ⟨rfl, hb3⟩
  refine ⟨(()), rfl, hb3, fun g3' => ?_⟩
  try dsimp only
  have hF := hF.trans g3'
  have hW0 := hW0.later g3'
  refine ok_need hA_a0 ?_
  refine ok_need hA_a0 ?_
  refine ok_put0 (R := RW52) (x' := ((A0_0, q0.1.length, c0_0), v2_1)) (vs := [Value.int IntKind.i64 v2_1]) 1 hW0 (Nat.le_of_ble_eq_true rfl) rfl (fun _ => rfl) (fun Lt4 wt4 ht4 gst4 hdt4 => ?_)
  have hF := Fine.own hF gst4 hm0 hdt4
  have hW0 := ht4
  obtain rfl := Option.some.inj h
  have homes := fun (b : Nat) (h : b < w.heap.size) => h
  intro ρ L w' _ he _ _
  exact ⟨rfl, (hF.ext he).with (fun b h => Or.inl h), (hW0.later he.fine).bare', rfl⟩
 ·have h := bif_f h hc3
  obtain ⟨r3, hr3, h⟩ := bse h
  rcases r3 with z3 | r3
  ·try dsimp only at h
   obtain rfl := Option.some.inj h
   refine ok_callp rfl (fun L3 w3 g3 lt3 => ?_)
   refine (frames_needs.c k false v2_2 v2_3 _ hr3  w3 ).mono ?_
   rintro e w3' ⟨rfl, hb3⟩
   exact ⟨_, rfl, rfl, ((hF.trans g3).step hb3).with (fun b h => Or.inl h)⟩
  try dsimp only at h
  refine ok_callm rfl (fun L3 w3 g3 lt3 => ?_)
  refine (frames_needs.c k false v2_2 v2_3 (.ok r3) hr3  w3 ).mono ?_
  rintro e w3' ⟨rfl, hb3⟩
  refine ⟨(()), rfl, hb3, fun g3' => ?_⟩
  try dsimp only
  have hF := hF.trans g3'
  have hW0 := hW0.later g3'
  refine ok_need hA_a0 ?_
  refine ok_need hA_a0 ?_
  refine ok_put0 (R := RW52) (x' := ((A0_0, q0.1.length, c0_0), v2_1)) (vs := [Value.int IntKind.i64 v2_1]) 1 hW0 (Nat.le_of_ble_eq_true rfl) rfl (fun _ => rfl) (fun Lt5 wt5 ht5 gst5 hdt5 => ?_)
  have hF := Fine.own hF gst5 hm0 hdt5
  have hW0 := ht5
  obtain rfl := Option.some.inj h
  have homes := fun (b : Nat) (h : b < w.heap.size) => h
  intro ρ L w' _ he _ _
  exact ⟨rfl, (hF.ext he).with (fun b h => Or.inl h), (hW0.later he.fine).bare', rfl⟩
abbrev f0_below.S (a0 : Option Addr) : Nat → Prop := fun b => blk (a0, 0, 0) b
def f0_below.F (k : Nat) (q0 : (List Int) × Int) (a1 : Int) (a2 : Int) : Option (Except (Int × Int) (Int × ((List Int) × Int))) := (f0_number.F k q0).bind fun r1 => match r1 with | .error z1 => some (.error z1) | .ok (v1_0, qc1) => bif decide (v1_0 ≤ a1) then ((frames_needs.F k true a2 q0.2).bind fun r2 => match r2 with | .error z2 => some (.error z2) | .ok _ => some (.ok ((v1_0, qc1)))) else ((frames_needs.F k false a2 q0.2).bind fun r2 => match r2 with | .error z2 => some (.error z2) | .ok _ => some (.ok ((v1_0, qc1))))
abbrev f0_below.A : Nat → LA := noA
set_option maxHeartbeats 4000000 in
theorem f0_below.t (a0 : Option Addr) (a1 : Int) (a2 : Int) : tree Try.prog f0_below.A noC Try.f60 [AV.v (Value.pointer a0), AV.v (.int .i64 a1), AV.v (.int .i64 a2)] [] =
  .need (Option.isSome a0) (
  .need (Option.isSome a0) (
  .ld (Option.map (fun x => Addr.add x 1) a0) ([Lf.i .i64]) (fun x0 =>
   .call 44 ([AV.v (Value.pointer a0)]) ([]) (Sh.one) ([Lf.i .i64]) ([]) (fun x1 =>
    bif decide (x1.1 ≤ a1) then (
     .call 25 ([AV.v (Value.bool true), AV.v (.int .i64 a2), AV.v (.int .i64 x0.1)]) ([]) (Sh.tup []) ([]) ([]) (fun x2 =>
      .done (AV.v (.int .i64 x1.1)) ([])))
    else (
     .call 25 ([AV.v (Value.bool false), AV.v (.int .i64 a2), AV.v (.int .i64 x0.1)]) ([]) (Sh.tup []) ([]) ([]) (fun x2 =>
      .done (AV.v (.int .i64 x1.1)) ([]))))))) := by kernel_rfl
set_option maxHeartbeats 4000000 in
theorem f0_below.c (k : Nat) (a0 : Option Addr) (q0 : (List Int) × Int) (A0_0 : Option Addr) (c0_0 : Nat) (a1 : Int) (a2 : Int) (r : Except (Int × Int) (Int × ((List Int) × Int))) (h : f0_below.F k q0 a1 a2 = some r)  (w : World) (hW0 : OwnO 0 (fun _ => False) w 52 RW52 a0 1 [((A0_0, q0.1.length, c0_0), q0.2)]) (hS0_0 : SlR R23.row (f0_below.S a0) w A0_0 c0_0 q0.1) : Calls Try.prog 60 (AV.gs id [AV.v (Value.pointer a0), AV.v (.int .i64 a1), AV.v (.int .i64 a2)]).toArray w fun e w' => match r with | .ok r => e = .returned (((Sh.one : Sh).av (vs [Lf.i .i64] (r.1, ()))).g id) ∧ Fine (f0_below.S a0) w (f0_below.S a0) w' ∧ OwnO 0 (fun _ => False) w' 52 RW52 a0 1 [((A0_0, r.2.1.length, c0_0), r.2.2)] ∧ r.2.1 = q0.1 | .error z => e = .panicked [{ v := .iface 48 (.agg #[.int .i64 z.1, .int .i64 z.2]), recovered := false }] ∧ Fine (f0_below.S a0) w (f0_below.S a0) w' := by
 refine enter0 mixed f0_below.A noC [AV.v (Value.pointer a0), AV.v (.int .i64 a1), AV.v (.int .i64 a2)] Try.func60 rfl rfl rfl (fun hF => ?_)
 have hA_a0 : Option.isSome a0 = true := hW0.sl.some (by simp)
 have hN_a0 : Option.isNone a0 = false := by cases a0 <;> simp_all
 have hF : Fine (f0_below.S a0) w (fun _ => False) w := ⟨rfl, rfl, rfl, Nat.le_refl _, fun _ _ _ => rfl, fun b h => h.elim⟩
 have hm0 : ∀ b, blk (a0, 0, 0) b → (f0_below.S a0) b ∨ w.heap.size ≤ b := fun b hb => Or.inl hb
 rw [f0_below.t]
 unfold f0_below.F at h
 try dsimp only at h
 refine ok_need hA_a0 ?_
 refine ok_need hA_a0 ?_
 refine ok_ob 1 hW0.sl (Fine.refl _ _) (fun cs hcs => ⟨q0.2, by rw [hcs]; rfl, ?_⟩)
 try dsimp only
 obtain ⟨r1, hr1, h⟩ := bse h
 have hBv1 : ∀ b, (f0_number.S a0) b → ¬ _ ∧ b < _ := fun b hb => by exact ⟨(hW0.lt b hb).2.1, hW0.lt1 b hb⟩
 have hBm1 : ∀ b, (f0_number.S a0) b → (f0_below.S a0) b ∨ w.heap.size ≤ b := fun b hb => by exact hm0 b hb
 rcases r1 with z1 | r1
 ·try dsimp only at h
  obtain rfl := Option.some.inj h
  refine ok_callp rfl (fun L1 w1 g1 lt1 => ?_)
  refine (f0_number.c k _ q0 _ _ _ hr1  w1 (hW0.later g1).bare' (hS0_0.later ((hF.trans g1).with hBm1))).mono ?_
  rintro e w1' ⟨rfl, hf1⟩
  exact ⟨_, rfl, rfl, (hF.trans g1).past hf1 hBm1⟩
 try dsimp only at h
 obtain ⟨v1_0, qc1⟩ := r1
 try dsimp only at h
 refine ok_callo (f0_number.S a0) rfl hBv1 (fun L1 w1 g1 lt1 => ?_)
 refine (f0_number.c k _ q0 _ _ (.ok (v1_0, qc1)) hr1  w1 (hW0.later g1).bare' (hS0_0.later ((hF.trans g1).with hBm1))).mono ?_
 rintro e w1' ⟨rfl, hf1, hWc1, hq1_0⟩
 refine ⟨(v1_0, ()), rfl, hf1, fun g1' hid1 hv1 => ?_⟩
 try dsimp only
 have hSc1_0 : SlR R23.row (f0_below.S a0) w A0_0 c0_0 qc1.1 := by rw [hq1_0]; exact hS0_0
 have hmc1 := hm0
 have hWc1 := hWc1.vis (fun b hb => hv1 b (Or.inl hb))
 have hF := Fine.own hF g1' hBm1 hid1
 refine ok_if (fun hc5 => ?_) (fun hc5 => ?_)
 ·have h := bif_t h hc5
  obtain ⟨r2, hr2, h⟩ := bse h
  rcases r2 with z2 | r2
  ·try dsimp only at h
   obtain rfl := Option.some.inj h
   refine ok_callp rfl (fun L2 w2 g2 lt2 => ?_)
   refine (frames_needs.c k true a2 q0.2 _ hr2  w2 ).mono ?_
   rintro e w2' ⟨rfl, hb2⟩
   exact ⟨_, rfl, rfl, ((hF.trans g2).step hb2).with (fun b h => Or.inl h)⟩
  try dsimp only at h
  refine ok_callm rfl (fun L2 w2 g2 lt2 => ?_)
  refine (frames_needs.c k true a2 q0.2 (.ok r2) hr2  w2 ).mono ?_
  rintro e w2' ⟨rfl, hb2⟩
  refine ⟨(()), rfl, hb2, fun g2' => ?_⟩
  try dsimp only
  have hF := hF.trans g2'
  have hWc1 := hWc1.later g2'
  obtain rfl := Option.some.inj h
  have homes := fun (b : Nat) (h : b < w.heap.size) => h
  intro ρ L w' _ he _ _
  exact ⟨rfl, (hF.ext he).with (fun b h => Or.inl h), (hWc1.later he.fine).bare', (hq1_0.trans rfl)⟩
 ·have h := bif_f h hc5
  obtain ⟨r2, hr2, h⟩ := bse h
  rcases r2 with z2 | r2
  ·try dsimp only at h
   obtain rfl := Option.some.inj h
   refine ok_callp rfl (fun L2 w2 g2 lt2 => ?_)
   refine (frames_needs.c k false a2 q0.2 _ hr2  w2 ).mono ?_
   rintro e w2' ⟨rfl, hb2⟩
   exact ⟨_, rfl, rfl, ((hF.trans g2).step hb2).with (fun b h => Or.inl h)⟩
  try dsimp only at h
  refine ok_callm rfl (fun L2 w2 g2 lt2 => ?_)
  refine (frames_needs.c k false a2 q0.2 (.ok r2) hr2  w2 ).mono ?_
  rintro e w2' ⟨rfl, hb2⟩
  refine ⟨(()), rfl, hb2, fun g2' => ?_⟩
  try dsimp only
  have hF := hF.trans g2'
  have hWc1 := hWc1.later g2'
  obtain rfl := Option.some.inj h
  have homes := fun (b : Nat) (h : b < w.heap.size) => h
  intro ρ L w' _ he _ _
  exact ⟨rfl, (hF.ext he).with (fun b h => Or.inl h), (hWc1.later he.fine).bare', (hq1_0.trans rfl)⟩
def slices_Clone_byte_byte.F (k : Nat) (l0 : List Int) : Option (List Int) := bif decide (l0.length * 1 ≤ 140737488355328) then some l0 else none
theorem slices_Clone_byte_byte.c (k : Nat) (A0 : Option Addr) (n0 c0 : Nat) (l0 : List Int) (r : List Int) (h : slices_Clone_byte_byte.F k l0 = some r) (hn0 : n0 = l0.length) (w : World) (hS0 : SlR R23.row (fun _ => False) w A0 c0 l0) : Calls Try.prog 63 (AV.gs id [AV.v (Value.slice A0 n0 c0)]).toArray w fun e w' => ∃ (B0 : Option Addr) (d0 : Nat), e = .returned (((Sh.one : Sh).av (vs [Lf.sl] ((B0, r.length, d0), ()))).g id) ∧ Below w.heap.size w w' ∧ OwnF w.heap.size (fun b => b < w.heap.size) w' 5 R23 B0 d0 r := by
 subst hn0
 unfold slices_Clone_byte_byte.F at h
 obtain ⟨hq, h⟩ := bif_need h
 have hq := of_decide_eq_true hq
 obtain rfl := Option.some.inj h
 refine enter0 mixed noA noC [AV.v (Value.slice A0 l0.length c0)] Try.func63 rfl rfl rfl (fun hF => ?_)
 rw [show tree Try.prog noA noC Try.f63 [AV.v (Value.slice A0 l0.length c0)] [] = bif A0.isNone then .done (AV.v (Value.slice none 0 0)) [] else .sem (Instr.buildSlice 23 0 #[]) [Lf.sl] Sh.one (fun x0 => .sem (Builtin.append_ #[23, 23] 23 #[Value.slice x0.1.1 x0.1.2.1 x0.1.2.2, Value.slice A0 l0.length c0]) [Lf.sl] Sh.one (fun x1 => .done (AV.v (Value.slice x1.1.1 x1.1.2.1 x1.1.2.2)) [])) by kernel_rfl]
 refine ok_if (fun hc => ?_) (fun hc => ?_)
 ·obtain rfl := hS0.isNil hc
  intro ρ L w' _ he _ _
  exact ⟨none, 0, rfl, (hF.ext he).below, OwnF.ret (OwnF.nil _ (fun _ => False) _ _ _)⟩
 ·refine ok_lit0 (R := R23) (base := w.heap.size) E23 hF.size (fun A c L1 w1 hO1 g1 hbl1 => ?_)
  have hF1 := hF.trans g1
  refine ok_app (R := R23) (base := w.heap.size) (xs := []) (ys := l0) rfl rfl E23 hO1 (hS0.later hF1) (by decide) (by simpa using hq) hF1.size (fun A2 c2 L2 w2 hO2 g2 hid2 hbl2 => ?_)
  have hF2 := Fine.own hF1 g2 (fun b hb => Or.inr (Own.base hO1 hb)) hid2
  intro ρ L w' _ he _ _
  exact ⟨A2, c2, rfl, (hF2.ext he).below, (hO2.later he.fine).ret⟩
abbrev f0_take.S (a0 : Option Addr) : Nat → Prop := fun b => blk (a0, 0, 0) b
def f0_take.F (k : Nat) (q0 : (List Int) × Int) (a1 : Int) : Option (Except (Int × Int) ((List Int) × ((List Int) × Int))) := bif decide (a1 ≤ IntKind.i64.wrap ((((q0.1).length : Nat) : Int) - q0.2)) then ((frames_needs.F k true 3 ((((q0.1).length : Nat) : Int))).bind fun r3 => match r3 with | .error z3 => some (.error z3) | .ok _ => bif decide ((0 : Int) ≤ (IntKind.i64.wrap ((IntKind.i64.wrap (q0.2 + a1)) - a1)) ∧ (IntKind.i64.wrap ((IntKind.i64.wrap (q0.2 + a1)) - a1)) ≤ ((IntKind.i64.wrap (q0.2 + a1))) ∧ ((IntKind.i64.wrap (q0.2 + a1))) ≤ ((q0.1).length : Int)) then ((slices_Clone_byte_byte.F k (((q0.1.drop (Int.toNat (IntKind.i64.wrap ((IntKind.i64.wrap (q0.2 + a1)) - a1)))).take (Int.toNat ((IntKind.i64.wrap (q0.2 + a1))) - Int.toNat (IntKind.i64.wrap ((IntKind.i64.wrap (q0.2 + a1)) - a1)))))).bind fun s8_0 => some (.ok ((s8_0, (q0.1, (IntKind.i64.wrap (q0.2 + a1))))))) else none) else ((frames_needs.F k false 3 ((((q0.1).length : Nat) : Int))).bind fun r3 => match r3 with | .error z3 => some (.error z3) | .ok _ => bif decide ((0 : Int) ≤ (IntKind.i64.wrap ((IntKind.i64.wrap (q0.2 + a1)) - a1)) ∧ (IntKind.i64.wrap ((IntKind.i64.wrap (q0.2 + a1)) - a1)) ≤ ((IntKind.i64.wrap (q0.2 + a1))) ∧ ((IntKind.i64.wrap (q0.2 + a1))) ≤ ((q0.1).length : Int)) then ((slices_Clone_byte_byte.F k (((q0.1.drop (Int.toNat (IntKind.i64.wrap ((IntKind.i64.wrap (q0.2 + a1)) - a1)))).take (Int.toNat ((IntKind.i64.wrap (q0.2 + a1))) - Int.toNat (IntKind.i64.wrap ((IntKind.i64.wrap (q0.2 + a1)) - a1)))))).bind fun s8_0 => some (.ok ((s8_0, (q0.1, (IntKind.i64.wrap (q0.2 + a1))))))) else none)
abbrev f0_take.A : Nat → LA := noA
set_option maxHeartbeats 4000000 in
theorem f0_take.t (a0 : Option Addr) (a1 : Int) : tree Try.prog f0_take.A noC Try.f45 [AV.v (Value.pointer a0), AV.v (.int .i64 a1)] [] =
  .need (Option.isSome a0) (
  .need (Option.isSome a0) (
  .ld (Option.map (fun x => Addr.add x 0) a0) ([Lf.sl]) (fun x0 =>
   .need (Option.isSome a0) (
   .need (Option.isSome a0) (
   .ld (Option.map (fun x => Addr.add x 1) a0) ([Lf.i .i64]) (fun x1 =>
    bif decide (a1 ≤ IntKind.i64.wrap (((x0.1.2.1 : Nat) : Int) - x1.1)) then (
     .need (Option.isSome a0) (
     .need (Option.isSome a0) (
     .ld (Option.map (fun x => Addr.add x 0) a0) ([Lf.sl]) (fun x2 =>
      .call 25 ([AV.v (Value.bool true), AV.v (.int .i64 3), AV.v (.int .i64 ((x2.1.2.1 : Nat) : Int))]) ([]) (Sh.tup []) ([]) ([]) (fun x3 =>
       .need (Option.isSome a0) (
       .need (Option.isSome a0) (
       .ld (Option.map (fun x => Addr.add x 1) a0) ([Lf.i .i64]) (fun x4 =>
        .need (Option.isSome a0) (
        .need (Option.isSome a0) (
        .sto (Option.map (fun x => Addr.add x 1) a0) ([AV.v (.int .i64 (IntKind.i64.wrap (x4.1 + a1)))]) ([]) (
        .need (Option.isSome a0) (
        .need (Option.isSome a0) (
        .ld (Option.map (fun x => Addr.add x 0) a0) ([Lf.sl]) (fun x5 =>
         .need (Option.isSome a0) (
         .need (Option.isSome a0) (
         .ld (Option.map (fun x => Addr.add x 1) a0) ([Lf.i .i64]) (fun x6 =>
          .need (Option.isSome a0) (
          .need (Option.isSome a0) (
          .ld (Option.map (fun x => Addr.add x 1) a0) ([Lf.i .i64]) (fun x7 =>
           .need (decide (0 ≤ IntKind.i64.wrap (x6.1 - a1)) && decide (IntKind.i64.wrap (x6.1 - a1) ≤ x7.1) && decide (x7.1 ≤ ((x5.1.2.2 : Nat) : Int))) (
           .call 63 ([AV.v (Value.slice (if ((x5.1.2.2 : Nat) : Int) = IntKind.i64.wrap (x6.1 - a1) then x5.1.1 else Option.map (fun x => Addr.add x (Int.toNat (IntKind.i64.wrap (x6.1 - a1)) * 1)) x5.1.1) (Int.toNat x7.1 - Int.toNat (IntKind.i64.wrap (x6.1 - a1))) (x5.1.2.2 - Int.toNat (IntKind.i64.wrap (x6.1 - a1))))]) ([]) (Sh.one) ([Lf.sl]) ([]) (fun x8 =>
            .done (AV.v (Value.slice x8.1.1 x8.1.2.1 x8.1.2.2)) ([])))))))))))))))))))))))
    else (
     .need (Option.isSome a0) (
     .need (Option.isSome a0) (
     .ld (Option.map (fun x => Addr.add x 0) a0) ([Lf.sl]) (fun x2 =>
      .call 25 ([AV.v (Value.bool false), AV.v (.int .i64 3), AV.v (.int .i64 ((x2.1.2.1 : Nat) : Int))]) ([]) (Sh.tup []) ([]) ([]) (fun x3 =>
       .need (Option.isSome a0) (
       .need (Option.isSome a0) (
       .ld (Option.map (fun x => Addr.add x 1) a0) ([Lf.i .i64]) (fun x4 =>
        .need (Option.isSome a0) (
        .need (Option.isSome a0) (
        .sto (Option.map (fun x => Addr.add x 1) a0) ([AV.v (.int .i64 (IntKind.i64.wrap (x4.1 + a1)))]) ([]) (
        .need (Option.isSome a0) (
        .need (Option.isSome a0) (
        .ld (Option.map (fun x => Addr.add x 0) a0) ([Lf.sl]) (fun x5 =>
         .need (Option.isSome a0) (
         .need (Option.isSome a0) (
         .ld (Option.map (fun x => Addr.add x 1) a0) ([Lf.i .i64]) (fun x6 =>
          .need (Option.isSome a0) (
          .need (Option.isSome a0) (
          .ld (Option.map (fun x => Addr.add x 1) a0) ([Lf.i .i64]) (fun x7 =>
           .need (decide (0 ≤ IntKind.i64.wrap (x6.1 - a1)) && decide (IntKind.i64.wrap (x6.1 - a1) ≤ x7.1) && decide (x7.1 ≤ ((x5.1.2.2 : Nat) : Int))) (
           .call 63 ([AV.v (Value.slice (if ((x5.1.2.2 : Nat) : Int) = IntKind.i64.wrap (x6.1 - a1) then x5.1.1 else Option.map (fun x => Addr.add x (Int.toNat (IntKind.i64.wrap (x6.1 - a1)) * 1)) x5.1.1) (Int.toNat x7.1 - Int.toNat (IntKind.i64.wrap (x6.1 - a1))) (x5.1.2.2 - Int.toNat (IntKind.i64.wrap (x6.1 - a1))))]) ([]) (Sh.one) ([Lf.sl]) ([]) (fun x8 =>
            .done (AV.v (Value.slice x8.1.1 x8.1.2.1 x8.1.2.2)) ([]))))))))))))))))))))))))))))) := by kernel_rfl
set_option maxHeartbeats 4000000 in
theorem f0_take.c (k : Nat) (a0 : Option Addr) (q0 : (List Int) × Int) (A0_0 : Option Addr) (c0_0 : Nat) (a1 : Int) (r : Except (Int × Int) ((List Int) × ((List Int) × Int))) (h : f0_take.F k q0 a1 = some r)  (w : World) (hW0 : OwnO 0 (fun _ => False) w 52 RW52 a0 1 [((A0_0, q0.1.length, c0_0), q0.2)]) (hS0_0 : SlR R23.row (f0_take.S a0) w A0_0 c0_0 q0.1) : Calls Try.prog 45 (AV.gs id [AV.v (Value.pointer a0), AV.v (.int .i64 a1)]).toArray w fun e w' => match r with | .ok r => ∃ (B0 : Option Addr) (d0 : Nat), e = .returned (((Sh.one : Sh).av (vs [Lf.sl] ((B0, (r.1).length, d0), ()))).g id) ∧ Fine (f0_take.S a0) w (f0_take.S a0) w' ∧ OwnO 0 (fun _ => False) w' 52 RW52 a0 1 [((A0_0, r.2.1.length, c0_0), r.2.2)] ∧ OwnF w.heap.size (fun b => b < w.heap.size) w' 5 R23 B0 d0 r.1 ∧ r.2.1 = q0.1 | .error z => e = .panicked [{ v := .iface 48 (.agg #[.int .i64 z.1, .int .i64 z.2]), recovered := false }] ∧ Fine (f0_take.S a0) w (f0_take.S a0) w' := by
 refine enter0 mixed f0_take.A noC [AV.v (Value.pointer a0), AV.v (.int .i64 a1)] Try.func45 rfl rfl rfl (fun hF => ?_)
 have hA_a0 : Option.isSome a0 = true := hW0.sl.some (by simp)
 have hN_a0 : Option.isNone a0 = false := by cases a0 <;> simp_all
 have hF : Fine (f0_take.S a0) w (fun _ => False) w := ⟨rfl, rfl, rfl, Nat.le_refl _, fun _ _ _ => rfl, fun b h => h.elim⟩
 have hm0 : ∀ b, blk (a0, 0, 0) b → (f0_take.S a0) b ∨ w.heap.size ≤ b := fun b hb => Or.inl hb
 rw [f0_take.t]
 unfold f0_take.F at h
 try dsimp only at h
 refine ok_need hA_a0 ?_
 refine ok_need hA_a0 ?_
 refine ok_ob 0 hW0.sl (Fine.refl _ _) (fun cs hcs => ⟨(A0_0, q0.1.length, c0_0), by rw [hcs]; rfl, ?_⟩)
 try dsimp only
 refine ok_need hA_a0 ?_
 refine ok_need hA_a0 ?_
 refine ok_ob 1 hW0.sl (Fine.refl _ _) (fun cs hcs => ⟨q0.2, by rw [hcs]; rfl, ?_⟩)
 try dsimp only
 refine ok_if (fun hc3 => ?_) (fun hc3 => ?_)
 ·have h := bif_t h hc3
  refine ok_need hA_a0 ?_
  refine ok_need hA_a0 ?_
  refine ok_ob 0 hW0.sl (Fine.refl _ _) (fun cs hcs => ⟨(A0_0, q0.1.length, c0_0), by rw [hcs]; rfl, ?_⟩)
  try dsimp only
  obtain ⟨r3, hr3, h⟩ := bse h
  rcases r3 with z3 | r3
  ·try dsimp only at h
   obtain rfl := Option.some.inj h
   refine ok_callp rfl (fun L3 w3 g3 lt3 => ?_)
   refine (frames_needs.c k true 3 ((((q0.1).length : Nat) : Int)) _ hr3  w3 ).mono ?_
   rintro e w3' ⟨rfl, hb3⟩
   exact ⟨_, rfl, rfl, ((hF.trans g3).step hb3).with (fun b h => Or.inl h)⟩
  try dsimp only at h
  refine ok_callm rfl (fun L3 w3 g3 lt3 => ?_)
  refine (frames_needs.c k true 3 ((((q0.1).length : Nat) : Int)) (.ok r3) hr3  w3 ).mono ?_
  rintro e w3' ⟨rfl, hb3⟩
  refine ⟨(()), rfl, hb3, fun g3' => ?_⟩
  try dsimp only
  have hF := hF.trans g3'
  have hW0 := hW0.later g3'
  refine ok_need hA_a0 ?_
  refine ok_need hA_a0 ?_
  refine ok_ob 1 hW0.sl (Fine.refl _ _) (fun cs hcs => ⟨q0.2, by rw [hcs]; rfl, ?_⟩)
  try dsimp only
  refine ok_need hA_a0 ?_
  refine ok_need hA_a0 ?_
  refine ok_put0 (R := RW52) (x' := ((A0_0, q0.1.length, c0_0), (IntKind.i64.wrap (q0.2 + a1)))) (vs := [Value.int IntKind.i64 (IntKind.i64.wrap (q0.2 + a1))]) 1 hW0 (Nat.le_of_ble_eq_true rfl) rfl (fun _ => rfl) (fun Lt4 wt4 ht4 gst4 hdt4 => ?_)
  have hF := Fine.own hF gst4 hm0 hdt4
  have hW0 := ht4
  refine ok_need hA_a0 ?_
  refine ok_need hA_a0 ?_
  refine ok_ob 0 hW0.sl (Fine.refl _ _) (fun cs hcs => ⟨(A0_0, q0.1.length, c0_0), by rw [hcs]; rfl, ?_⟩)
  try dsimp only
  refine ok_need hA_a0 ?_
  refine ok_need hA_a0 ?_
  refine ok_ob 1 hW0.sl (Fine.refl _ _) (fun cs hcs => ⟨(IntKind.i64.wrap (q0.2 + a1)), by rw [hcs]; rfl, ?_⟩)
  try dsimp only
  refine ok_need hA_a0 ?_
  refine ok_need hA_a0 ?_
  refine ok_ob 1 hW0.sl (Fine.refl _ _) (fun cs hcs => ⟨(IntKind.i64.wrap (q0.2 + a1)), by rw [hcs]; rfl, ?_⟩)
  try dsimp only
  obtain ⟨hs5, h⟩ := bif_need h
  have hs5 := of_decide_eq_true hs5
  have hcap := (hS0_0.later hF).2.1
  refine ok_need (by first | exact part3 hs5 hcap | exact part3 hs5 (Nat.le_refl _)) ?_
  obtain ⟨s8_0, hr8, h⟩ := bse h
  refine ok_callm rfl (fun L8 w8 g8 lt8 => ?_)
  refine (slices_Clone_byte_byte.c k _ _ _ (((q0.1.drop (Int.toNat (IntKind.i64.wrap ((IntKind.i64.wrap (q0.2 + a1)) - a1)))).take (Int.toNat ((IntKind.i64.wrap (q0.2 + a1))) - Int.toNat (IntKind.i64.wrap ((IntKind.i64.wrap (q0.2 + a1)) - a1))))) s8_0 hr8 (sub_len hs5.1 hs5.2.1 hs5.2.2) w8 ((hS0_0.later (hF.trans g8)).sub _ _ hs5.1 hs5.2.1 hs5.2.2).bare).mono ?_
  rintro e w8' ⟨A8_0, c8_0, rfl, hb8, hO8_0⟩
  refine ⟨((A8_0, s8_0.length, c8_0), ()), rfl, hb8, fun g8' => ?_⟩
  try dsimp only
  have dj_o7_w1 : Dj A8_0 a0 := Dj.new hO8_0.fresh (hW0.later g8).lt1
  have hO8_0 := hO8_0.call (hF.trans g8).size lt8
  have hF := hF.trans g8'
  have hW0 := hW0.later g8'
  obtain rfl := Option.some.inj h
  have homes := fun (b : Nat) (h : b < w.heap.size) => h
  intro ρ L w' _ he _ _
  exact ⟨A8_0, c8_0, rfl, (hF.ext he).with (fun b h => Or.inl h), (hW0.later he.fine).bare', (hO8_0.later he.fine).ret, rfl⟩
 ·have h := bif_f h hc3
  refine ok_need hA_a0 ?_
  refine ok_need hA_a0 ?_
  refine ok_ob 0 hW0.sl (Fine.refl _ _) (fun cs hcs => ⟨(A0_0, q0.1.length, c0_0), by rw [hcs]; rfl, ?_⟩)
  try dsimp only
  obtain ⟨r3, hr3, h⟩ := bse h
  rcases r3 with z3 | r3
  ·try dsimp only at h
   obtain rfl := Option.some.inj h
   refine ok_callp rfl (fun L3 w3 g3 lt3 => ?_)
   refine (frames_needs.c k false 3 ((((q0.1).length : Nat) : Int)) _ hr3  w3 ).mono ?_
   rintro e w3' ⟨rfl, hb3⟩
   exact ⟨_, rfl, rfl, ((hF.trans g3).step hb3).with (fun b h => Or.inl h)⟩
  try dsimp only at h
  refine ok_callm rfl (fun L3 w3 g3 lt3 => ?_)
  refine (frames_needs.c k false 3 ((((q0.1).length : Nat) : Int)) (.ok r3) hr3  w3 ).mono ?_
  rintro e w3' ⟨rfl, hb3⟩
  refine ⟨(()), rfl, hb3, fun g3' => ?_⟩
  try dsimp only
  have hF := hF.trans g3'
  have hW0 := hW0.later g3'
  refine ok_need hA_a0 ?_
  refine ok_need hA_a0 ?_
  refine ok_ob 1 hW0.sl (Fine.refl _ _) (fun cs hcs => ⟨q0.2, by rw [hcs]; rfl, ?_⟩)
  try dsimp only
  refine ok_need hA_a0 ?_
  refine ok_need hA_a0 ?_
  refine ok_put0 (R := RW52) (x' := ((A0_0, q0.1.length, c0_0), (IntKind.i64.wrap (q0.2 + a1)))) (vs := [Value.int IntKind.i64 (IntKind.i64.wrap (q0.2 + a1))]) 1 hW0 (Nat.le_of_ble_eq_true rfl) rfl (fun _ => rfl) (fun Lt8 wt8 ht8 gst8 hdt8 => ?_)
  have hF := Fine.own hF gst8 hm0 hdt8
  have hW0 := ht8
  refine ok_need hA_a0 ?_
  refine ok_need hA_a0 ?_
  refine ok_ob 0 hW0.sl (Fine.refl _ _) (fun cs hcs => ⟨(A0_0, q0.1.length, c0_0), by rw [hcs]; rfl, ?_⟩)
  try dsimp only
  refine ok_need hA_a0 ?_
  refine ok_need hA_a0 ?_
  refine ok_ob 1 hW0.sl (Fine.refl _ _) (fun cs hcs => ⟨(IntKind.i64.wrap (q0.2 + a1)), by rw [hcs]; rfl, ?_⟩)
  try dsimp only
  refine ok_need hA_a0 ?_
  refine ok_need hA_a0 ?_
  refine ok_ob 1 hW0.sl (Fine.refl _ _) (fun cs hcs => ⟨(IntKind.i64.wrap (q0.2 + a1)), by rw [hcs]; rfl, ?_⟩)
  try dsimp only
  obtain ⟨hs9, h⟩ := bif_need h
  have hs9 := of_decide_eq_true hs9
  have hcap := (hS0_0.later hF).2.1
  refine ok_need (by first | exact part3 hs9 hcap | exact part3 hs9 (Nat.le_refl _)) ?_
  obtain ⟨s8_0, hr8, h⟩ := bse h
  refine ok_callm rfl (fun L8 w8 g8 lt8 => ?_)
  refine (slices_Clone_byte_byte.c k _ _ _ (((q0.1.drop (Int.toNat (IntKind.i64.wrap ((IntKind.i64.wrap (q0.2 + a1)) - a1)))).take (Int.toNat ((IntKind.i64.wrap (q0.2 + a1))) - Int.toNat (IntKind.i64.wrap ((IntKind.i64.wrap (q0.2 + a1)) - a1))))) s8_0 hr8 (sub_len hs9.1 hs9.2.1 hs9.2.2) w8 ((hS0_0.later (hF.trans g8)).sub _ _ hs9.1 hs9.2.1 hs9.2.2).bare).mono ?_
  rintro e w8' ⟨A8_0, c8_0, rfl, hb8, hO8_0⟩
  refine ⟨((A8_0, s8_0.length, c8_0), ()), rfl, hb8, fun g8' => ?_⟩
  try dsimp only
  have dj_o11_w1 : Dj A8_0 a0 := Dj.new hO8_0.fresh (hW0.later g8).lt1
  have hO8_0 := hO8_0.call (hF.trans g8).size lt8
  have hF := hF.trans g8'
  have hW0 := hW0.later g8'
  obtain rfl := Option.some.inj h
  have homes := fun (b : Nat) (h : b < w.heap.size) => h
  intro ρ L w' _ he _ _
  exact ⟨A8_0, c8_0, rfl, (hF.ext he).with (fun b h => Or.inl h), (hW0.later he.fine).bare', (hO8_0.later he.fine).ret, rfl⟩
abbrev f0_stream.S (a0 : Option Addr) : Nat → Prop := fun b => blk (a0, 0, 0) b
def f0_stream.F (k : Nat) (q0 : (List Int) × Int) (a1 : Int) (a2 : Int) : Option (Except (Int × Int) (Int × Int × Int × Int × Int × Bool × (List Int) × (List (Int × Int)) × ((List Int) × Int))) := (f0_number.F k q0).bind fun r0 => match r0 with | .error z0 => some (.error z0) | .ok (v0_0, qc0) => bif IntKind.i64.wrap (((BitVec.toNat (BitVec.ofInt 64 a1 &&& BitVec.ofInt 64 1)) : Nat) : Int) != 0 then (bif IntKind.i64.wrap (((BitVec.toNat (BitVec.ofInt 64 a1 &&& BitVec.ofInt 64 4)) : Nat) : Int) != 0 then ((f0_number.F k qc0).bind fun r1 => match r1 with | .error z1 => some (.error z1) | .ok (v1_0, qc1) => bif IntKind.i64.wrap (((BitVec.toNat (BitVec.ofInt 64 a1 &&& BitVec.ofInt 64 2)) : Nat) : Int) != 0 then ((f0_number.F k qc1).bind fun r4 => match r4 with | .error z4 => some (.error z4) | .ok (v4_0, qc4) => bif decide (v4_0 ≤ IntKind.i64.wrap (4611686018427387903 - v1_0)) then ((frames_needs.F k true 7 a2).bind fun r5 => match r5 with | .error z5 => some (.error z5) | .ok _ => (f0_take.F k qc4 v4_0).bind fun r6 => match r6 with | .error z6 => some (.error z6) | .ok (s6_0, qc6) => some (.ok ((8, v0_0, v1_0, 0, 0, true, s6_0, [], qc6)))) else ((frames_needs.F k false 7 a2).bind fun r5 => match r5 with | .error z5 => some (.error z5) | .ok _ => (f0_take.F k qc4 v4_0).bind fun r6 => match r6 with | .error z6 => some (.error z6) | .ok (s6_0, qc6) => some (.ok ((8, v0_0, v1_0, 0, 0, true, s6_0, [], qc6))))) else (bif decide (IntKind.i64.wrap ((((qc1.1).length : Nat) : Int) - qc1.2) ≤ IntKind.i64.wrap (4611686018427387903 - v1_0)) then ((frames_needs.F k true 7 a2).bind fun r4 => match r4 with | .error z4 => some (.error z4) | .ok _ => (f0_take.F k qc1 (IntKind.i64.wrap ((((qc1.1).length : Nat) : Int) - qc1.2))).bind fun r5 => match r5 with | .error z5 => some (.error z5) | .ok (s5_0, qc5) => some (.ok ((8, v0_0, v1_0, 0, 0, true, s5_0, [], qc5)))) else ((frames_needs.F k false 7 a2).bind fun r4 => match r4 with | .error z4 => some (.error z4) | .ok _ => (f0_take.F k qc1 (IntKind.i64.wrap ((((qc1.1).length : Nat) : Int) - qc1.2))).bind fun r5 => match r5 with | .error z5 => some (.error z5) | .ok (s5_0, qc5) => some (.ok ((8, v0_0, v1_0, 0, 0, true, s5_0, [], qc5)))))) else (bif IntKind.i64.wrap (((BitVec.toNat (BitVec.ofInt 64 a1 &&& BitVec.ofInt 64 2)) : Nat) : Int) != 0 then ((f0_number.F k qc0).bind fun r3 => match r3 with | .error z3 => some (.error z3) | .ok (v3_0, qc3) => bif decide (v3_0 ≤ IntKind.i64.wrap (4611686018427387903 - 0)) then ((frames_needs.F k true 7 a2).bind fun r4 => match r4 with | .error z4 => some (.error z4) | .ok _ => (f0_take.F k qc3 v3_0).bind fun r5 => match r5 with | .error z5 => some (.error z5) | .ok (s5_0, qc5) => some (.ok ((8, v0_0, 0, 0, 0, true, s5_0, [], qc5)))) else ((frames_needs.F k false 7 a2).bind fun r4 => match r4 with | .error z4 => some (.error z4) | .ok _ => (f0_take.F k qc3 v3_0).bind fun r5 => match r5 with | .error z5 => some (.error z5) | .ok (s5_0, qc5) => some (.ok ((8, v0_0, 0, 0, 0, true, s5_0, [], qc5))))) else (bif decide (IntKind.i64.wrap ((((qc0.1).length : Nat) : Int) - qc0.2) ≤ IntKind.i64.wrap (4611686018427387903 - 0)) then ((frames_needs.F k true 7 a2).bind fun r3 => match r3 with | .error z3 => some (.error z3) | .ok _ => (f0_take.F k qc0 (IntKind.i64.wrap ((((qc0.1).length : Nat) : Int) - qc0.2))).bind fun r4 => match r4 with | .error z4 => some (.error z4) | .ok (s4_0, qc4) => some (.ok ((8, v0_0, 0, 0, 0, true, s4_0, [], qc4)))) else ((frames_needs.F k false 7 a2).bind fun r3 => match r3 with | .error z3 => some (.error z3) | .ok _ => (f0_take.F k qc0 (IntKind.i64.wrap ((((qc0.1).length : Nat) : Int) - qc0.2))).bind fun r4 => match r4 with | .error z4 => some (.error z4) | .ok (s4_0, qc4) => some (.ok ((8, v0_0, 0, 0, 0, true, s4_0, [], qc4))))))) else (bif IntKind.i64.wrap (((BitVec.toNat (BitVec.ofInt 64 a1 &&& BitVec.ofInt 64 4)) : Nat) : Int) != 0 then ((f0_number.F k qc0).bind fun r1 => match r1 with | .error z1 => some (.error z1) | .ok (v1_0, qc1) => bif IntKind.i64.wrap (((BitVec.toNat (BitVec.ofInt 64 a1 &&& BitVec.ofInt 64 2)) : Nat) : Int) != 0 then ((f0_number.F k qc1).bind fun r4 => match r4 with | .error z4 => some (.error z4) | .ok (v4_0, qc4) => bif decide (v4_0 ≤ IntKind.i64.wrap (4611686018427387903 - v1_0)) then ((frames_needs.F k true 7 a2).bind fun r5 => match r5 with | .error z5 => some (.error z5) | .ok _ => (f0_take.F k qc4 v4_0).bind fun r6 => match r6 with | .error z6 => some (.error z6) | .ok (s6_0, qc6) => some (.ok ((8, v0_0, v1_0, 0, 0, false, s6_0, [], qc6)))) else ((frames_needs.F k false 7 a2).bind fun r5 => match r5 with | .error z5 => some (.error z5) | .ok _ => (f0_take.F k qc4 v4_0).bind fun r6 => match r6 with | .error z6 => some (.error z6) | .ok (s6_0, qc6) => some (.ok ((8, v0_0, v1_0, 0, 0, false, s6_0, [], qc6))))) else (bif decide (IntKind.i64.wrap ((((qc1.1).length : Nat) : Int) - qc1.2) ≤ IntKind.i64.wrap (4611686018427387903 - v1_0)) then ((frames_needs.F k true 7 a2).bind fun r4 => match r4 with | .error z4 => some (.error z4) | .ok _ => (f0_take.F k qc1 (IntKind.i64.wrap ((((qc1.1).length : Nat) : Int) - qc1.2))).bind fun r5 => match r5 with | .error z5 => some (.error z5) | .ok (s5_0, qc5) => some (.ok ((8, v0_0, v1_0, 0, 0, false, s5_0, [], qc5)))) else ((frames_needs.F k false 7 a2).bind fun r4 => match r4 with | .error z4 => some (.error z4) | .ok _ => (f0_take.F k qc1 (IntKind.i64.wrap ((((qc1.1).length : Nat) : Int) - qc1.2))).bind fun r5 => match r5 with | .error z5 => some (.error z5) | .ok (s5_0, qc5) => some (.ok ((8, v0_0, v1_0, 0, 0, false, s5_0, [], qc5)))))) else (bif IntKind.i64.wrap (((BitVec.toNat (BitVec.ofInt 64 a1 &&& BitVec.ofInt 64 2)) : Nat) : Int) != 0 then ((f0_number.F k qc0).bind fun r3 => match r3 with | .error z3 => some (.error z3) | .ok (v3_0, qc3) => bif decide (v3_0 ≤ IntKind.i64.wrap (4611686018427387903 - 0)) then ((frames_needs.F k true 7 a2).bind fun r4 => match r4 with | .error z4 => some (.error z4) | .ok _ => (f0_take.F k qc3 v3_0).bind fun r5 => match r5 with | .error z5 => some (.error z5) | .ok (s5_0, qc5) => some (.ok ((8, v0_0, 0, 0, 0, false, s5_0, [], qc5)))) else ((frames_needs.F k false 7 a2).bind fun r4 => match r4 with | .error z4 => some (.error z4) | .ok _ => (f0_take.F k qc3 v3_0).bind fun r5 => match r5 with | .error z5 => some (.error z5) | .ok (s5_0, qc5) => some (.ok ((8, v0_0, 0, 0, 0, false, s5_0, [], qc5))))) else (bif decide (IntKind.i64.wrap ((((qc0.1).length : Nat) : Int) - qc0.2) ≤ IntKind.i64.wrap (4611686018427387903 - 0)) then ((frames_needs.F k true 7 a2).bind fun r3 => match r3 with | .error z3 => some (.error z3) | .ok _ => (f0_take.F k qc0 (IntKind.i64.wrap ((((qc0.1).length : Nat) : Int) - qc0.2))).bind fun r4 => match r4 with | .error z4 => some (.error z4) | .ok (s4_0, qc4) => some (.ok ((8, v0_0, 0, 0, 0, false, s4_0, [], qc4)))) else ((frames_needs.F k false 7 a2).bind fun r3 => match r3 with | .error z3 => some (.error z3) | .ok _ => (f0_take.F k qc0 (IntKind.i64.wrap ((((qc0.1).length : Nat) : Int) - qc0.2))).bind fun r4 => match r4 with | .error z4 => some (.error z4) | .ok (s4_0, qc4) => some (.ok ((8, v0_0, 0, 0, 0, false, s4_0, [], qc4)))))))
abbrev f0_stream.A : Nat → LA := noA
set_option maxHeartbeats 4000000 in
theorem f0_stream.t (a0 : Option Addr) (a1 : Int) (a2 : Int) : tree Try.prog f0_stream.A noC Try.f46 [AV.v (Value.pointer a0), AV.v (.int .i64 a1), AV.v (.int .i64 a2)] [] =
  .call 44 ([AV.v (Value.pointer a0)]) ([]) (Sh.one) ([Lf.i .i64]) ([]) (fun x0 =>
   bif IntKind.i64.wrap (((BitVec.toNat (BitVec.ofInt 64 a1 &&& BitVec.ofInt 64 1)) : Nat) : Int) != 0 then (
    bif IntKind.i64.wrap (((BitVec.toNat (BitVec.ofInt 64 a1 &&& BitVec.ofInt 64 4)) : Nat) : Int) != 0 then (
     .call 44 ([AV.v (Value.pointer a0)]) ([]) (Sh.one) ([Lf.i .i64]) ([]) (fun x1 =>
      .need (Option.isSome a0) (
      .need (Option.isSome a0) (
      .ld (Option.map (fun x => Addr.add x 0) a0) ([Lf.sl]) (fun x2 =>
       .need (Option.isSome a0) (
       .need (Option.isSome a0) (
       .ld (Option.map (fun x => Addr.add x 1) a0) ([Lf.i .i64]) (fun x3 =>
        bif IntKind.i64.wrap (((BitVec.toNat (BitVec.ofInt 64 a1 &&& BitVec.ofInt 64 2)) : Nat) : Int) != 0 then (
         .call 44 ([AV.v (Value.pointer a0)]) ([]) (Sh.one) ([Lf.i .i64]) ([]) (fun x4 =>
          bif decide (x4.1 ≤ IntKind.i64.wrap (4611686018427387903 - x1.1)) then (
           .call 25 ([AV.v (Value.bool true), AV.v (.int .i64 7), AV.v (.int .i64 a2)]) ([]) (Sh.tup []) ([]) ([]) (fun x5 =>
            .call 45 ([AV.v (Value.pointer a0), AV.v (.int .i64 x4.1)]) ([]) (Sh.one) ([Lf.sl]) ([]) (fun x6 =>
             .done (AV.agg [AV.v (.int .i64 8), AV.v (.int .i64 x0.1), AV.v (.int .i64 x1.1), AV.v (.int .i64 0), AV.v (.int .i64 0), AV.v (Value.bool true), AV.v (Value.slice x6.1.1 x6.1.2.1 x6.1.2.2), AV.v (Value.slice none 0 0)]) ([]))))
          else (
           .call 25 ([AV.v (Value.bool false), AV.v (.int .i64 7), AV.v (.int .i64 a2)]) ([]) (Sh.tup []) ([]) ([]) (fun x5 =>
            .call 45 ([AV.v (Value.pointer a0), AV.v (.int .i64 x4.1)]) ([]) (Sh.one) ([Lf.sl]) ([]) (fun x6 =>
             .done (AV.agg [AV.v (.int .i64 8), AV.v (.int .i64 x0.1), AV.v (.int .i64 x1.1), AV.v (.int .i64 0), AV.v (.int .i64 0), AV.v (Value.bool true), AV.v (Value.slice x6.1.1 x6.1.2.1 x6.1.2.2), AV.v (Value.slice none 0 0)]) ([]))))))
        else (
         bif decide (IntKind.i64.wrap (((x2.1.2.1 : Nat) : Int) - x3.1) ≤ IntKind.i64.wrap (4611686018427387903 - x1.1)) then (
          .call 25 ([AV.v (Value.bool true), AV.v (.int .i64 7), AV.v (.int .i64 a2)]) ([]) (Sh.tup []) ([]) ([]) (fun x4 =>
           .call 45 ([AV.v (Value.pointer a0), AV.v (.int .i64 (IntKind.i64.wrap (((x2.1.2.1 : Nat) : Int) - x3.1)))]) ([]) (Sh.one) ([Lf.sl]) ([]) (fun x5 =>
            .done (AV.agg [AV.v (.int .i64 8), AV.v (.int .i64 x0.1), AV.v (.int .i64 x1.1), AV.v (.int .i64 0), AV.v (.int .i64 0), AV.v (Value.bool true), AV.v (Value.slice x5.1.1 x5.1.2.1 x5.1.2.2), AV.v (Value.slice none 0 0)]) ([]))))
         else (
          .call 25 ([AV.v (Value.bool false), AV.v (.int .i64 7), AV.v (.int .i64 a2)]) ([]) (Sh.tup []) ([]) ([]) (fun x4 =>
           .call 45 ([AV.v (Value.pointer a0), AV.v (.int .i64 (IntKind.i64.wrap (((x2.1.2.1 : Nat) : Int) - x3.1)))]) ([]) (Sh.one) ([Lf.sl]) ([]) (fun x5 =>
            .done (AV.agg [AV.v (.int .i64 8), AV.v (.int .i64 x0.1), AV.v (.int .i64 x1.1), AV.v (.int .i64 0), AV.v (.int .i64 0), AV.v (Value.bool true), AV.v (Value.slice x5.1.1 x5.1.2.1 x5.1.2.2), AV.v (Value.slice none 0 0)]) ([])))))))))))))
    else (
     .need (Option.isSome a0) (
     .need (Option.isSome a0) (
     .ld (Option.map (fun x => Addr.add x 0) a0) ([Lf.sl]) (fun x1 =>
      .need (Option.isSome a0) (
      .need (Option.isSome a0) (
      .ld (Option.map (fun x => Addr.add x 1) a0) ([Lf.i .i64]) (fun x2 =>
       bif IntKind.i64.wrap (((BitVec.toNat (BitVec.ofInt 64 a1 &&& BitVec.ofInt 64 2)) : Nat) : Int) != 0 then (
        .call 44 ([AV.v (Value.pointer a0)]) ([]) (Sh.one) ([Lf.i .i64]) ([]) (fun x3 =>
         bif decide (x3.1 ≤ IntKind.i64.wrap (4611686018427387903 - 0)) then (
          .call 25 ([AV.v (Value.bool true), AV.v (.int .i64 7), AV.v (.int .i64 a2)]) ([]) (Sh.tup []) ([]) ([]) (fun x4 =>
           .call 45 ([AV.v (Value.pointer a0), AV.v (.int .i64 x3.1)]) ([]) (Sh.one) ([Lf.sl]) ([]) (fun x5 =>
            .done (AV.agg [AV.v (.int .i64 8), AV.v (.int .i64 x0.1), AV.v (.int .i64 0), AV.v (.int .i64 0), AV.v (.int .i64 0), AV.v (Value.bool true), AV.v (Value.slice x5.1.1 x5.1.2.1 x5.1.2.2), AV.v (Value.slice none 0 0)]) ([]))))
         else (
          .call 25 ([AV.v (Value.bool false), AV.v (.int .i64 7), AV.v (.int .i64 a2)]) ([]) (Sh.tup []) ([]) ([]) (fun x4 =>
           .call 45 ([AV.v (Value.pointer a0), AV.v (.int .i64 x3.1)]) ([]) (Sh.one) ([Lf.sl]) ([]) (fun x5 =>
            .done (AV.agg [AV.v (.int .i64 8), AV.v (.int .i64 x0.1), AV.v (.int .i64 0), AV.v (.int .i64 0), AV.v (.int .i64 0), AV.v (Value.bool true), AV.v (Value.slice x5.1.1 x5.1.2.1 x5.1.2.2), AV.v (Value.slice none 0 0)]) ([]))))))
       else (
        bif decide (IntKind.i64.wrap (((x1.1.2.1 : Nat) : Int) - x2.1) ≤ IntKind.i64.wrap (4611686018427387903 - 0)) then (
         .call 25 ([AV.v (Value.bool true), AV.v (.int .i64 7), AV.v (.int .i64 a2)]) ([]) (Sh.tup []) ([]) ([]) (fun x3 =>
          .call 45 ([AV.v (Value.pointer a0), AV.v (.int .i64 (IntKind.i64.wrap (((x1.1.2.1 : Nat) : Int) - x2.1)))]) ([]) (Sh.one) ([Lf.sl]) ([]) (fun x4 =>
           .done (AV.agg [AV.v (.int .i64 8), AV.v (.int .i64 x0.1), AV.v (.int .i64 0), AV.v (.int .i64 0), AV.v (.int .i64 0), AV.v (Value.bool true), AV.v (Value.slice x4.1.1 x4.1.2.1 x4.1.2.2), AV.v (Value.slice none 0 0)]) ([]))))
        else (
         .call 25 ([AV.v (Value.bool false), AV.v (.int .i64 7), AV.v (.int .i64 a2)]) ([]) (Sh.tup []) ([]) ([]) (fun x3 =>
          .call 45 ([AV.v (Value.pointer a0), AV.v (.int .i64 (IntKind.i64.wrap (((x1.1.2.1 : Nat) : Int) - x2.1)))]) ([]) (Sh.one) ([Lf.sl]) ([]) (fun x4 =>
           .done (AV.agg [AV.v (.int .i64 8), AV.v (.int .i64 x0.1), AV.v (.int .i64 0), AV.v (.int .i64 0), AV.v (.int .i64 0), AV.v (Value.bool true), AV.v (Value.slice x4.1.1 x4.1.2.1 x4.1.2.2), AV.v (Value.slice none 0 0)]) ([])))))))))))))
   else (
    bif IntKind.i64.wrap (((BitVec.toNat (BitVec.ofInt 64 a1 &&& BitVec.ofInt 64 4)) : Nat) : Int) != 0 then (
     .call 44 ([AV.v (Value.pointer a0)]) ([]) (Sh.one) ([Lf.i .i64]) ([]) (fun x1 =>
      .need (Option.isSome a0) (
      .need (Option.isSome a0) (
      .ld (Option.map (fun x => Addr.add x 0) a0) ([Lf.sl]) (fun x2 =>
       .need (Option.isSome a0) (
       .need (Option.isSome a0) (
       .ld (Option.map (fun x => Addr.add x 1) a0) ([Lf.i .i64]) (fun x3 =>
        bif IntKind.i64.wrap (((BitVec.toNat (BitVec.ofInt 64 a1 &&& BitVec.ofInt 64 2)) : Nat) : Int) != 0 then (
         .call 44 ([AV.v (Value.pointer a0)]) ([]) (Sh.one) ([Lf.i .i64]) ([]) (fun x4 =>
          bif decide (x4.1 ≤ IntKind.i64.wrap (4611686018427387903 - x1.1)) then (
           .call 25 ([AV.v (Value.bool true), AV.v (.int .i64 7), AV.v (.int .i64 a2)]) ([]) (Sh.tup []) ([]) ([]) (fun x5 =>
            .call 45 ([AV.v (Value.pointer a0), AV.v (.int .i64 x4.1)]) ([]) (Sh.one) ([Lf.sl]) ([]) (fun x6 =>
             .done (AV.agg [AV.v (.int .i64 8), AV.v (.int .i64 x0.1), AV.v (.int .i64 x1.1), AV.v (.int .i64 0), AV.v (.int .i64 0), AV.v (Value.bool false), AV.v (Value.slice x6.1.1 x6.1.2.1 x6.1.2.2), AV.v (Value.slice none 0 0)]) ([]))))
          else (
           .call 25 ([AV.v (Value.bool false), AV.v (.int .i64 7), AV.v (.int .i64 a2)]) ([]) (Sh.tup []) ([]) ([]) (fun x5 =>
            .call 45 ([AV.v (Value.pointer a0), AV.v (.int .i64 x4.1)]) ([]) (Sh.one) ([Lf.sl]) ([]) (fun x6 =>
             .done (AV.agg [AV.v (.int .i64 8), AV.v (.int .i64 x0.1), AV.v (.int .i64 x1.1), AV.v (.int .i64 0), AV.v (.int .i64 0), AV.v (Value.bool false), AV.v (Value.slice x6.1.1 x6.1.2.1 x6.1.2.2), AV.v (Value.slice none 0 0)]) ([]))))))
        else (
         bif decide (IntKind.i64.wrap (((x2.1.2.1 : Nat) : Int) - x3.1) ≤ IntKind.i64.wrap (4611686018427387903 - x1.1)) then (
          .call 25 ([AV.v (Value.bool true), AV.v (.int .i64 7), AV.v (.int .i64 a2)]) ([]) (Sh.tup []) ([]) ([]) (fun x4 =>
           .call 45 ([AV.v (Value.pointer a0), AV.v (.int .i64 (IntKind.i64.wrap (((x2.1.2.1 : Nat) : Int) - x3.1)))]) ([]) (Sh.one) ([Lf.sl]) ([]) (fun x5 =>
            .done (AV.agg [AV.v (.int .i64 8), AV.v (.int .i64 x0.1), AV.v (.int .i64 x1.1), AV.v (.int .i64 0), AV.v (.int .i64 0), AV.v (Value.bool false), AV.v (Value.slice x5.1.1 x5.1.2.1 x5.1.2.2), AV.v (Value.slice none 0 0)]) ([]))))
         else (
          .call 25 ([AV.v (Value.bool false), AV.v (.int .i64 7), AV.v (.int .i64 a2)]) ([]) (Sh.tup []) ([]) ([]) (fun x4 =>
           .call 45 ([AV.v (Value.pointer a0), AV.v (.int .i64 (IntKind.i64.wrap (((x2.1.2.1 : Nat) : Int) - x3.1)))]) ([]) (Sh.one) ([Lf.sl]) ([]) (fun x5 =>
            .done (AV.agg [AV.v (.int .i64 8), AV.v (.int .i64 x0.1), AV.v (.int .i64 x1.1), AV.v (.int .i64 0), AV.v (.int .i64 0), AV.v (Value.bool false), AV.v (Value.slice x5.1.1 x5.1.2.1 x5.1.2.2), AV.v (Value.slice none 0 0)]) ([])))))))))))))
    else (
     .need (Option.isSome a0) (
     .need (Option.isSome a0) (
     .ld (Option.map (fun x => Addr.add x 0) a0) ([Lf.sl]) (fun x1 =>
      .need (Option.isSome a0) (
      .need (Option.isSome a0) (
      .ld (Option.map (fun x => Addr.add x 1) a0) ([Lf.i .i64]) (fun x2 =>
       bif IntKind.i64.wrap (((BitVec.toNat (BitVec.ofInt 64 a1 &&& BitVec.ofInt 64 2)) : Nat) : Int) != 0 then (
        .call 44 ([AV.v (Value.pointer a0)]) ([]) (Sh.one) ([Lf.i .i64]) ([]) (fun x3 =>
         bif decide (x3.1 ≤ IntKind.i64.wrap (4611686018427387903 - 0)) then (
          .call 25 ([AV.v (Value.bool true), AV.v (.int .i64 7), AV.v (.int .i64 a2)]) ([]) (Sh.tup []) ([]) ([]) (fun x4 =>
           .call 45 ([AV.v (Value.pointer a0), AV.v (.int .i64 x3.1)]) ([]) (Sh.one) ([Lf.sl]) ([]) (fun x5 =>
            .done (AV.agg [AV.v (.int .i64 8), AV.v (.int .i64 x0.1), AV.v (.int .i64 0), AV.v (.int .i64 0), AV.v (.int .i64 0), AV.v (Value.bool false), AV.v (Value.slice x5.1.1 x5.1.2.1 x5.1.2.2), AV.v (Value.slice none 0 0)]) ([]))))
         else (
          .call 25 ([AV.v (Value.bool false), AV.v (.int .i64 7), AV.v (.int .i64 a2)]) ([]) (Sh.tup []) ([]) ([]) (fun x4 =>
           .call 45 ([AV.v (Value.pointer a0), AV.v (.int .i64 x3.1)]) ([]) (Sh.one) ([Lf.sl]) ([]) (fun x5 =>
            .done (AV.agg [AV.v (.int .i64 8), AV.v (.int .i64 x0.1), AV.v (.int .i64 0), AV.v (.int .i64 0), AV.v (.int .i64 0), AV.v (Value.bool false), AV.v (Value.slice x5.1.1 x5.1.2.1 x5.1.2.2), AV.v (Value.slice none 0 0)]) ([]))))))
       else (
        bif decide (IntKind.i64.wrap (((x1.1.2.1 : Nat) : Int) - x2.1) ≤ IntKind.i64.wrap (4611686018427387903 - 0)) then (
         .call 25 ([AV.v (Value.bool true), AV.v (.int .i64 7), AV.v (.int .i64 a2)]) ([]) (Sh.tup []) ([]) ([]) (fun x3 =>
          .call 45 ([AV.v (Value.pointer a0), AV.v (.int .i64 (IntKind.i64.wrap (((x1.1.2.1 : Nat) : Int) - x2.1)))]) ([]) (Sh.one) ([Lf.sl]) ([]) (fun x4 =>
           .done (AV.agg [AV.v (.int .i64 8), AV.v (.int .i64 x0.1), AV.v (.int .i64 0), AV.v (.int .i64 0), AV.v (.int .i64 0), AV.v (Value.bool false), AV.v (Value.slice x4.1.1 x4.1.2.1 x4.1.2.2), AV.v (Value.slice none 0 0)]) ([]))))
        else (
         .call 25 ([AV.v (Value.bool false), AV.v (.int .i64 7), AV.v (.int .i64 a2)]) ([]) (Sh.tup []) ([]) ([]) (fun x3 =>
          .call 45 ([AV.v (Value.pointer a0), AV.v (.int .i64 (IntKind.i64.wrap (((x1.1.2.1 : Nat) : Int) - x2.1)))]) ([]) (Sh.one) ([Lf.sl]) ([]) (fun x4 =>
           .done (AV.agg [AV.v (.int .i64 8), AV.v (.int .i64 x0.1), AV.v (.int .i64 0), AV.v (.int .i64 0), AV.v (.int .i64 0), AV.v (Value.bool false), AV.v (Value.slice x4.1.1 x4.1.2.1 x4.1.2.2), AV.v (Value.slice none 0 0)]) ([])))))))))))))) := by kernel_rfl
set_option maxHeartbeats 4000000 in
theorem f0_stream.c (k : Nat) (a0 : Option Addr) (q0 : (List Int) × Int) (A0_0 : Option Addr) (c0_0 : Nat) (a1 : Int) (a2 : Int) (r : Except (Int × Int) (Int × Int × Int × Int × Int × Bool × (List Int) × (List (Int × Int)) × ((List Int) × Int))) (h : f0_stream.F k q0 a1 a2 = some r)  (w : World) (hW0 : OwnO 0 (fun _ => False) w 52 RW52 a0 1 [((A0_0, q0.1.length, c0_0), q0.2)]) (hS0_0 : SlR R23.row (f0_stream.S a0) w A0_0 c0_0 q0.1) : Calls Try.prog 46 (AV.gs id [AV.v (Value.pointer a0), AV.v (.int .i64 a1), AV.v (.int .i64 a2)]).toArray w fun e w' => match r with | .ok r => ∃ (B6 : Option Addr) (d6 : Nat) (B7 : Option Addr) (d7 : Nat), e = .returned (((Sh.agg 8 : Sh).av (vs [Lf.i .i64, Lf.i .i64, Lf.i .i64, Lf.i .i64, Lf.i .i64, Lf.b, Lf.sl, Lf.sl] (r.1, r.2.1, r.2.2.1, r.2.2.2.1, r.2.2.2.2.1, r.2.2.2.2.2.1, (B6, (r.2.2.2.2.2.2.1).length, d6), (B7, (r.2.2.2.2.2.2.2.1).length, d7), ()))).g id) ∧ Fine (f0_stream.S a0) w (f0_stream.S a0) w' ∧ OwnO 0 (fun _ => False) w' 52 RW52 a0 1 [((A0_0, r.2.2.2.2.2.2.2.2.1.length, c0_0), r.2.2.2.2.2.2.2.2.2)] ∧ OwnF w.heap.size (fun b => b < w.heap.size) w' 5 R23 B6 d6 r.2.2.2.2.2.2.1 ∧ OwnF w.heap.size (fun b => b < w.heap.size) w' 42 R34 B7 d7 r.2.2.2.2.2.2.2.1 ∧ Dj B7 B6 ∧ r.2.2.2.2.2.2.2.2.1 = q0.1 | .error z => e = .panicked [{ v := .iface 48 (.agg #[.int .i64 z.1, .int .i64 z.2]), recovered := false }] ∧ Fine (f0_stream.S a0) w (f0_stream.S a0) w' := by
 refine enter0 mixed f0_stream.A noC [AV.v (Value.pointer a0), AV.v (.int .i64 a1), AV.v (.int .i64 a2)] Try.func46 rfl rfl rfl (fun hF => ?_)
 have hA_a0 : Option.isSome a0 = true := hW0.sl.some (by simp)
 have hN_a0 : Option.isNone a0 = false := by cases a0 <;> simp_all
 have hF : Fine (f0_stream.S a0) w (fun _ => False) w := ⟨rfl, rfl, rfl, Nat.le_refl _, fun _ _ _ => rfl, fun b h => h.elim⟩
 have hm0 : ∀ b, blk (a0, 0, 0) b → (f0_stream.S a0) b ∨ w.heap.size ≤ b := fun b hb => Or.inl hb
 rw [f0_stream.t]
 unfold f0_stream.F at h
 try dsimp only at h
 obtain ⟨r0, hr0, h⟩ := bse h
 have hBv0 : ∀ b, (f0_number.S a0) b → ¬ _ ∧ b < _ := fun b hb => by exact ⟨(hW0.lt b hb).2.1, hW0.lt1 b hb⟩
 have hBm0 : ∀ b, (f0_number.S a0) b → (f0_stream.S a0) b ∨ w.heap.size ≤ b := fun b hb => by exact hm0 b hb
 rcases r0 with z0 | r0
 ·try dsimp only at h
  obtain rfl := Option.some.inj h
  refine ok_callp rfl (fun L0 w0 g0 lt0 => ?_)
  refine (f0_number.c k _ q0 _ _ _ hr0  w0 (hW0.later g0).bare' (hS0_0.later ((hF.trans g0).with hBm0))).mono ?_
  rintro e w0' ⟨rfl, hf0⟩
  exact ⟨_, rfl, rfl, (hF.trans g0).past hf0 hBm0⟩
 try dsimp only at h
 obtain ⟨v0_0, qc0⟩ := r0
 try dsimp only at h
 refine ok_callo (f0_number.S a0) rfl hBv0 (fun L0 w0 g0 lt0 => ?_)
 refine (f0_number.c k _ q0 _ _ (.ok (v0_0, qc0)) hr0  w0 (hW0.later g0).bare' (hS0_0.later ((hF.trans g0).with hBm0))).mono ?_
 rintro e w0' ⟨rfl, hf0, hWc0, hq0_0⟩
 refine ⟨(v0_0, ()), rfl, hf0, fun g0' hid0 hv0 => ?_⟩
 try dsimp only
 have hSc0_0 : SlR R23.row (f0_stream.S a0) w A0_0 c0_0 qc0.1 := by rw [hq0_0]; exact hS0_0
 have hmc0 := hm0
 have hWc0 := hWc0.vis (fun b hb => hv0 b (Or.inl hb))
 have hF := Fine.own hF g0' hBm0 hid0
 refine ok_if (fun hc5 => ?_) (fun hc5 => ?_)
 ·have h := bif_t h hc5
  refine ok_if (fun hc6 => ?_) (fun hc6 => ?_)
  ·have h := bif_t h hc6
   obtain ⟨r1, hr1, h⟩ := bse h
   have hBv1 : ∀ b, (f0_number.S a0) b → ¬ _ ∧ b < _ := fun b hb => by exact ⟨(hWc0.lt b hb).2.1, hWc0.lt1 b hb⟩
   have hBm1 : ∀ b, (f0_number.S a0) b → (f0_stream.S a0) b ∨ w.heap.size ≤ b := fun b hb => by exact hmc0 b hb
   rcases r1 with z1 | r1
   ·try dsimp only at h
    obtain rfl := Option.some.inj h
    refine ok_callp rfl (fun L1 w1 g1 lt1 => ?_)
    refine (f0_number.c k _ qc0 _ _ _ hr1  w1 (hWc0.later g1).bare' (hSc0_0.later ((hF.trans g1).with hBm1))).mono ?_
    rintro e w1' ⟨rfl, hf1⟩
    exact ⟨_, rfl, rfl, (hF.trans g1).past hf1 hBm1⟩
   try dsimp only at h
   obtain ⟨v1_0, qc1⟩ := r1
   try dsimp only at h
   refine ok_callo (f0_number.S a0) rfl hBv1 (fun L1 w1 g1 lt1 => ?_)
   refine (f0_number.c k _ qc0 _ _ (.ok (v1_0, qc1)) hr1  w1 (hWc0.later g1).bare' (hSc0_0.later ((hF.trans g1).with hBm1))).mono ?_
   rintro e w1' ⟨rfl, hf1, hWc1, hq1_0⟩
   refine ⟨(v1_0, ()), rfl, hf1, fun g1' hid1 hv1 => ?_⟩
   try dsimp only
   have hSc1_0 : SlR R23.row (f0_stream.S a0) w A0_0 c0_0 qc1.1 := by rw [hq1_0]; exact hSc0_0
   have hmc1 := hmc0
   have hWc1 := hWc1.vis (fun b hb => hv1 b (Or.inl hb))
   have hF := Fine.own hF g1' hBm1 hid1
   refine ok_need hA_a0 ?_
   refine ok_need hA_a0 ?_
   refine ok_ob 0 hWc1.sl (Fine.refl _ _) (fun cs hcs => ⟨(A0_0, qc1.1.length, c0_0), by rw [hcs]; rfl, ?_⟩)
   try dsimp only
   refine ok_need hA_a0 ?_
   refine ok_need hA_a0 ?_
   refine ok_ob 1 hWc1.sl (Fine.refl _ _) (fun cs hcs => ⟨qc1.2, by rw [hcs]; rfl, ?_⟩)
   try dsimp only
   refine ok_if (fun hc9 => ?_) (fun hc9 => ?_)
   ·have h := bif_t h hc9
    obtain ⟨r4, hr4, h⟩ := bse h
    have hBv4 : ∀ b, (f0_number.S a0) b → ¬ _ ∧ b < _ := fun b hb => by exact ⟨(hWc1.lt b hb).2.1, hWc1.lt1 b hb⟩
    have hBm4 : ∀ b, (f0_number.S a0) b → (f0_stream.S a0) b ∨ w.heap.size ≤ b := fun b hb => by exact hmc1 b hb
    rcases r4 with z4 | r4
    ·try dsimp only at h
     obtain rfl := Option.some.inj h
     refine ok_callp rfl (fun L4 w4 g4 lt4 => ?_)
     refine (f0_number.c k _ qc1 _ _ _ hr4  w4 (hWc1.later g4).bare' (hSc1_0.later ((hF.trans g4).with hBm4))).mono ?_
     rintro e w4' ⟨rfl, hf4⟩
     exact ⟨_, rfl, rfl, (hF.trans g4).past hf4 hBm4⟩
    try dsimp only at h
    obtain ⟨v4_0, qc4⟩ := r4
    try dsimp only at h
    refine ok_callo (f0_number.S a0) rfl hBv4 (fun L4 w4 g4 lt4 => ?_)
    refine (f0_number.c k _ qc1 _ _ (.ok (v4_0, qc4)) hr4  w4 (hWc1.later g4).bare' (hSc1_0.later ((hF.trans g4).with hBm4))).mono ?_
    rintro e w4' ⟨rfl, hf4, hWc4, hq4_0⟩
    refine ⟨(v4_0, ()), rfl, hf4, fun g4' hid4 hv4 => ?_⟩
    try dsimp only
    have hSc4_0 : SlR R23.row (f0_stream.S a0) w A0_0 c0_0 qc4.1 := by rw [hq4_0]; exact hSc1_0
    have hmc4 := hmc1
    have hWc4 := hWc4.vis (fun b hb => hv4 b (Or.inl hb))
    have hF := Fine.own hF g4' hBm4 hid4
    refine ok_if (fun hc12 => ?_) (fun hc12 => ?_)
    ·have h := bif_t h hc12
     obtain ⟨r5, hr5, h⟩ := bse h
     rcases r5 with z5 | r5
     ·try dsimp only at h
      obtain rfl := Option.some.inj h
      refine ok_callp rfl (fun L5 w5 g5 lt5 => ?_)
      refine (frames_needs.c k true 7 a2 _ hr5  w5 ).mono ?_
      rintro e w5' ⟨rfl, hb5⟩
      exact ⟨_, rfl, rfl, ((hF.trans g5).step hb5).with (fun b h => Or.inl h)⟩
     try dsimp only at h
     refine ok_callm rfl (fun L5 w5 g5 lt5 => ?_)
     refine (frames_needs.c k true 7 a2 (.ok r5) hr5  w5 ).mono ?_
     rintro e w5' ⟨rfl, hb5⟩
     refine ⟨(()), rfl, hb5, fun g5' => ?_⟩
     try dsimp only
     have hF := hF.trans g5'
     have hWc4 := hWc4.later g5'
     obtain ⟨r6, hr6, h⟩ := bse h
     have hBv6 : ∀ b, (f0_take.S a0) b → ¬ _ ∧ b < _ := fun b hb => by exact ⟨(hWc4.lt b hb).2.1, hWc4.lt1 b hb⟩
     have hBm6 : ∀ b, (f0_take.S a0) b → (f0_stream.S a0) b ∨ w.heap.size ≤ b := fun b hb => by exact hmc4 b hb
     rcases r6 with z6 | r6
     ·try dsimp only at h
      obtain rfl := Option.some.inj h
      refine ok_callp rfl (fun L6 w6 g6 lt6 => ?_)
      refine (f0_take.c k _ qc4 _ _ v4_0 _ hr6  w6 (hWc4.later g6).bare' (hSc4_0.later ((hF.trans g6).with hBm6))).mono ?_
      rintro e w6' ⟨rfl, hf6⟩
      exact ⟨_, rfl, rfl, (hF.trans g6).past hf6 hBm6⟩
     try dsimp only at h
     obtain ⟨s6_0, qc6⟩ := r6
     try dsimp only at h
     refine ok_callo (f0_take.S a0) rfl hBv6 (fun L6 w6 g6 lt6 => ?_)
     refine (f0_take.c k _ qc4 _ _ v4_0 (.ok (s6_0, qc6)) hr6  w6 (hWc4.later g6).bare' (hSc4_0.later ((hF.trans g6).with hBm6))).mono ?_
     rintro e w6' ⟨A6_0, c6_0, rfl, hf6, hWc6, hO6_0, hq6_0⟩
     refine ⟨((A6_0, s6_0.length, c6_0), ()), rfl, hf6, fun g6' hid6 hv6 => ?_⟩
     try dsimp only
     have hSc6_0 : SlR R23.row (f0_stream.S a0) w A0_0 c0_0 qc6.1 := by rw [hq6_0]; exact hSc4_0
     have dk6_o13 : Dj A6_0 a0 := Dj.new hO6_0.fresh (fun b hb => Nat.lt_of_lt_of_le (hBv6 b hb).2 g6.size)
     have hmc6 := hmc4
     have hWc6 := hWc6.vis (fun b hb => hv6 b (Or.inl hb))
     have hO6_0 := hO6_0.call (hF.trans g6).size lt6
     have hF := Fine.own hF g6' hBm6 hid6
     obtain rfl := Option.some.inj h
     have homes := fun (b : Nat) (h : b < w.heap.size) => h
     intro ρ L w' _ he _ _
     exact ⟨A6_0, c6_0, none, 0, rfl, (hF.ext he).with (fun b h => Or.inl h), (hWc6.later he.fine).bare', (hO6_0.later he.fine).ret, OwnF.ret (OwnF.nil _ (fun _ => False) _ _ _), Dj.nil2, (hq6_0.trans (hq4_0.trans (hq1_0.trans (hq0_0.trans rfl))))⟩
    ·have h := bif_f h hc12
     obtain ⟨r5, hr5, h⟩ := bse h
     rcases r5 with z5 | r5
     ·try dsimp only at h
      obtain rfl := Option.some.inj h
      refine ok_callp rfl (fun L5 w5 g5 lt5 => ?_)
      refine (frames_needs.c k false 7 a2 _ hr5  w5 ).mono ?_
      rintro e w5' ⟨rfl, hb5⟩
      exact ⟨_, rfl, rfl, ((hF.trans g5).step hb5).with (fun b h => Or.inl h)⟩
     try dsimp only at h
     refine ok_callm rfl (fun L5 w5 g5 lt5 => ?_)
     refine (frames_needs.c k false 7 a2 (.ok r5) hr5  w5 ).mono ?_
     rintro e w5' ⟨rfl, hb5⟩
     refine ⟨(()), rfl, hb5, fun g5' => ?_⟩
     try dsimp only
     have hF := hF.trans g5'
     have hWc4 := hWc4.later g5'
     obtain ⟨r6, hr6, h⟩ := bse h
     have hBv6 : ∀ b, (f0_take.S a0) b → ¬ _ ∧ b < _ := fun b hb => by exact ⟨(hWc4.lt b hb).2.1, hWc4.lt1 b hb⟩
     have hBm6 : ∀ b, (f0_take.S a0) b → (f0_stream.S a0) b ∨ w.heap.size ≤ b := fun b hb => by exact hmc4 b hb
     rcases r6 with z6 | r6
     ·try dsimp only at h
      obtain rfl := Option.some.inj h
      refine ok_callp rfl (fun L6 w6 g6 lt6 => ?_)
      refine (f0_take.c k _ qc4 _ _ v4_0 _ hr6  w6 (hWc4.later g6).bare' (hSc4_0.later ((hF.trans g6).with hBm6))).mono ?_
      rintro e w6' ⟨rfl, hf6⟩
      exact ⟨_, rfl, rfl, (hF.trans g6).past hf6 hBm6⟩
     try dsimp only at h
     obtain ⟨s6_0, qc6⟩ := r6
     try dsimp only at h
     refine ok_callo (f0_take.S a0) rfl hBv6 (fun L6 w6 g6 lt6 => ?_)
     refine (f0_take.c k _ qc4 _ _ v4_0 (.ok (s6_0, qc6)) hr6  w6 (hWc4.later g6).bare' (hSc4_0.later ((hF.trans g6).with hBm6))).mono ?_
     rintro e w6' ⟨A6_0, c6_0, rfl, hf6, hWc6, hO6_0, hq6_0⟩
     refine ⟨((A6_0, s6_0.length, c6_0), ()), rfl, hf6, fun g6' hid6 hv6 => ?_⟩
     try dsimp only
     have hSc6_0 : SlR R23.row (f0_stream.S a0) w A0_0 c0_0 qc6.1 := by rw [hq6_0]; exact hSc4_0
     have dk6_o16 : Dj A6_0 a0 := Dj.new hO6_0.fresh (fun b hb => Nat.lt_of_lt_of_le (hBv6 b hb).2 g6.size)
     have hmc6 := hmc4
     have hWc6 := hWc6.vis (fun b hb => hv6 b (Or.inl hb))
     have hO6_0 := hO6_0.call (hF.trans g6).size lt6
     have hF := Fine.own hF g6' hBm6 hid6
     obtain rfl := Option.some.inj h
     have homes := fun (b : Nat) (h : b < w.heap.size) => h
     intro ρ L w' _ he _ _
     exact ⟨A6_0, c6_0, none, 0, rfl, (hF.ext he).with (fun b h => Or.inl h), (hWc6.later he.fine).bare', (hO6_0.later he.fine).ret, OwnF.ret (OwnF.nil _ (fun _ => False) _ _ _), Dj.nil2, (hq6_0.trans (hq4_0.trans (hq1_0.trans (hq0_0.trans rfl))))⟩
   ·have h := bif_f h hc9
    refine ok_if (fun hc19 => ?_) (fun hc19 => ?_)
    ·have h := bif_t h hc19
     obtain ⟨r4, hr4, h⟩ := bse h
     rcases r4 with z4 | r4
     ·try dsimp only at h
      obtain rfl := Option.some.inj h
      refine ok_callp rfl (fun L4 w4 g4 lt4 => ?_)
      refine (frames_needs.c k true 7 a2 _ hr4  w4 ).mono ?_
      rintro e w4' ⟨rfl, hb4⟩
      exact ⟨_, rfl, rfl, ((hF.trans g4).step hb4).with (fun b h => Or.inl h)⟩
     try dsimp only at h
     refine ok_callm rfl (fun L4 w4 g4 lt4 => ?_)
     refine (frames_needs.c k true 7 a2 (.ok r4) hr4  w4 ).mono ?_
     rintro e w4' ⟨rfl, hb4⟩
     refine ⟨(()), rfl, hb4, fun g4' => ?_⟩
     try dsimp only
     have hF := hF.trans g4'
     have hWc1 := hWc1.later g4'
     obtain ⟨r5, hr5, h⟩ := bse h
     have hBv5 : ∀ b, (f0_take.S a0) b → ¬ _ ∧ b < _ := fun b hb => by exact ⟨(hWc1.lt b hb).2.1, hWc1.lt1 b hb⟩
     have hBm5 : ∀ b, (f0_take.S a0) b → (f0_stream.S a0) b ∨ w.heap.size ≤ b := fun b hb => by exact hmc1 b hb
     rcases r5 with z5 | r5
     ·try dsimp only at h
      obtain rfl := Option.some.inj h
      refine ok_callp rfl (fun L5 w5 g5 lt5 => ?_)
      refine (f0_take.c k _ qc1 _ _ (IntKind.i64.wrap ((((qc1.1).length : Nat) : Int) - qc1.2)) _ hr5  w5 (hWc1.later g5).bare' (hSc1_0.later ((hF.trans g5).with hBm5))).mono ?_
      rintro e w5' ⟨rfl, hf5⟩
      exact ⟨_, rfl, rfl, (hF.trans g5).past hf5 hBm5⟩
     try dsimp only at h
     obtain ⟨s5_0, qc5⟩ := r5
     try dsimp only at h
     refine ok_callo (f0_take.S a0) rfl hBv5 (fun L5 w5 g5 lt5 => ?_)
     refine (f0_take.c k _ qc1 _ _ (IntKind.i64.wrap ((((qc1.1).length : Nat) : Int) - qc1.2)) (.ok (s5_0, qc5)) hr5  w5 (hWc1.later g5).bare' (hSc1_0.later ((hF.trans g5).with hBm5))).mono ?_
     rintro e w5' ⟨A5_0, c5_0, rfl, hf5, hWc5, hO5_0, hq5_0⟩
     refine ⟨((A5_0, s5_0.length, c5_0), ()), rfl, hf5, fun g5' hid5 hv5 => ?_⟩
     try dsimp only
     have hSc5_0 : SlR R23.row (f0_stream.S a0) w A0_0 c0_0 qc5.1 := by rw [hq5_0]; exact hSc1_0
     have dk5_o20 : Dj A5_0 a0 := Dj.new hO5_0.fresh (fun b hb => Nat.lt_of_lt_of_le (hBv5 b hb).2 g5.size)
     have hmc5 := hmc1
     have hWc5 := hWc5.vis (fun b hb => hv5 b (Or.inl hb))
     have hO5_0 := hO5_0.call (hF.trans g5).size lt5
     have hF := Fine.own hF g5' hBm5 hid5
     obtain rfl := Option.some.inj h
     have homes := fun (b : Nat) (h : b < w.heap.size) => h
     intro ρ L w' _ he _ _
     exact ⟨A5_0, c5_0, none, 0, rfl, (hF.ext he).with (fun b h => Or.inl h), (hWc5.later he.fine).bare', (hO5_0.later he.fine).ret, OwnF.ret (OwnF.nil _ (fun _ => False) _ _ _), Dj.nil2, (hq5_0.trans (hq1_0.trans (hq0_0.trans rfl)))⟩
    ·have h := bif_f h hc19
     obtain ⟨r4, hr4, h⟩ := bse h
     rcases r4 with z4 | r4
     ·try dsimp only at h
      obtain rfl := Option.some.inj h
      refine ok_callp rfl (fun L4 w4 g4 lt4 => ?_)
      refine (frames_needs.c k false 7 a2 _ hr4  w4 ).mono ?_
      rintro e w4' ⟨rfl, hb4⟩
      exact ⟨_, rfl, rfl, ((hF.trans g4).step hb4).with (fun b h => Or.inl h)⟩
     try dsimp only at h
     refine ok_callm rfl (fun L4 w4 g4 lt4 => ?_)
     refine (frames_needs.c k false 7 a2 (.ok r4) hr4  w4 ).mono ?_
     rintro e w4' ⟨rfl, hb4⟩
     refine ⟨(()), rfl, hb4, fun g4' => ?_⟩
     try dsimp only
     have hF := hF.trans g4'
     have hWc1 := hWc1.later g4'
     obtain ⟨r5, hr5, h⟩ := bse h
     have hBv5 : ∀ b, (f0_take.S a0) b → ¬ _ ∧ b < _ := fun b hb => by exact ⟨(hWc1.lt b hb).2.1, hWc1.lt1 b hb⟩
     have hBm5 : ∀ b, (f0_take.S a0) b → (f0_stream.S a0) b ∨ w.heap.size ≤ b := fun b hb => by exact hmc1 b hb
     rcases r5 with z5 | r5
     ·try dsimp only at h
      obtain rfl := Option.some.inj h
      refine ok_callp rfl (fun L5 w5 g5 lt5 => ?_)
      refine (f0_take.c k _ qc1 _ _ (IntKind.i64.wrap ((((qc1.1).length : Nat) : Int) - qc1.2)) _ hr5  w5 (hWc1.later g5).bare' (hSc1_0.later ((hF.trans g5).with hBm5))).mono ?_
      rintro e w5' ⟨rfl, hf5⟩
      exact ⟨_, rfl, rfl, (hF.trans g5).past hf5 hBm5⟩
     try dsimp only at h
     obtain ⟨s5_0, qc5⟩ := r5
     try dsimp only at h
     refine ok_callo (f0_take.S a0) rfl hBv5 (fun L5 w5 g5 lt5 => ?_)
     refine (f0_take.c k _ qc1 _ _ (IntKind.i64.wrap ((((qc1.1).length : Nat) : Int) - qc1.2)) (.ok (s5_0, qc5)) hr5  w5 (hWc1.later g5).bare' (hSc1_0.later ((hF.trans g5).with hBm5))).mono ?_
     rintro e w5' ⟨A5_0, c5_0, rfl, hf5, hWc5, hO5_0, hq5_0⟩
     refine ⟨((A5_0, s5_0.length, c5_0), ()), rfl, hf5, fun g5' hid5 hv5 => ?_⟩
     try dsimp only
     have hSc5_0 : SlR R23.row (f0_stream.S a0) w A0_0 c0_0 qc5.1 := by rw [hq5_0]; exact hSc1_0
     have dk5_o23 : Dj A5_0 a0 := Dj.new hO5_0.fresh (fun b hb => Nat.lt_of_lt_of_le (hBv5 b hb).2 g5.size)
     have hmc5 := hmc1
     have hWc5 := hWc5.vis (fun b hb => hv5 b (Or.inl hb))
     have hO5_0 := hO5_0.call (hF.trans g5).size lt5
     have hF := Fine.own hF g5' hBm5 hid5
     obtain rfl := Option.some.inj h
     have homes := fun (b : Nat) (h : b < w.heap.size) => h
     intro ρ L w' _ he _ _
     exact ⟨A5_0, c5_0, none, 0, rfl, (hF.ext he).with (fun b h => Or.inl h), (hWc5.later he.fine).bare', (hO5_0.later he.fine).ret, OwnF.ret (OwnF.nil _ (fun _ => False) _ _ _), Dj.nil2, (hq5_0.trans (hq1_0.trans (hq0_0.trans rfl)))⟩
  ·have h := bif_f h hc6
   refine ok_need hA_a0 ?_
   refine ok_need hA_a0 ?_
   refine ok_ob 0 hWc0.sl (Fine.refl _ _) (fun cs hcs => ⟨(A0_0, qc0.1.length, c0_0), by rw [hcs]; rfl, ?_⟩)
   try dsimp only
   refine ok_need hA_a0 ?_
   refine ok_need hA_a0 ?_
   refine ok_ob 1 hWc0.sl (Fine.refl _ _) (fun cs hcs => ⟨qc0.2, by rw [hcs]; rfl, ?_⟩)
   try dsimp only
   refine ok_if (fun hc26 => ?_) (fun hc26 => ?_)
   ·have h := bif_t h hc26
    obtain ⟨r3, hr3, h⟩ := bse h
    have hBv3 : ∀ b, (f0_number.S a0) b → ¬ _ ∧ b < _ := fun b hb => by exact ⟨(hWc0.lt b hb).2.1, hWc0.lt1 b hb⟩
    have hBm3 : ∀ b, (f0_number.S a0) b → (f0_stream.S a0) b ∨ w.heap.size ≤ b := fun b hb => by exact hmc0 b hb
    rcases r3 with z3 | r3
    ·try dsimp only at h
     obtain rfl := Option.some.inj h
     refine ok_callp rfl (fun L3 w3 g3 lt3 => ?_)
     refine (f0_number.c k _ qc0 _ _ _ hr3  w3 (hWc0.later g3).bare' (hSc0_0.later ((hF.trans g3).with hBm3))).mono ?_
     rintro e w3' ⟨rfl, hf3⟩
     exact ⟨_, rfl, rfl, (hF.trans g3).past hf3 hBm3⟩
    try dsimp only at h
    obtain ⟨v3_0, qc3⟩ := r3
    try dsimp only at h
    refine ok_callo (f0_number.S a0) rfl hBv3 (fun L3 w3 g3 lt3 => ?_)
    refine (f0_number.c k _ qc0 _ _ (.ok (v3_0, qc3)) hr3  w3 (hWc0.later g3).bare' (hSc0_0.later ((hF.trans g3).with hBm3))).mono ?_
    rintro e w3' ⟨rfl, hf3, hWc3, hq3_0⟩
    refine ⟨(v3_0, ()), rfl, hf3, fun g3' hid3 hv3 => ?_⟩
    try dsimp only
    have hSc3_0 : SlR R23.row (f0_stream.S a0) w A0_0 c0_0 qc3.1 := by rw [hq3_0]; exact hSc0_0
    have hmc3 := hmc0
    have hWc3 := hWc3.vis (fun b hb => hv3 b (Or.inl hb))
    have hF := Fine.own hF g3' hBm3 hid3
    refine ok_if (fun hc29 => ?_) (fun hc29 => ?_)
    ·have h := bif_t h hc29
     obtain ⟨r4, hr4, h⟩ := bse h
     rcases r4 with z4 | r4
     ·try dsimp only at h
      obtain rfl := Option.some.inj h
      refine ok_callp rfl (fun L4 w4 g4 lt4 => ?_)
      refine (frames_needs.c k true 7 a2 _ hr4  w4 ).mono ?_
      rintro e w4' ⟨rfl, hb4⟩
      exact ⟨_, rfl, rfl, ((hF.trans g4).step hb4).with (fun b h => Or.inl h)⟩
     try dsimp only at h
     refine ok_callm rfl (fun L4 w4 g4 lt4 => ?_)
     refine (frames_needs.c k true 7 a2 (.ok r4) hr4  w4 ).mono ?_
     rintro e w4' ⟨rfl, hb4⟩
     refine ⟨(()), rfl, hb4, fun g4' => ?_⟩
     try dsimp only
     have hF := hF.trans g4'
     have hWc3 := hWc3.later g4'
     obtain ⟨r5, hr5, h⟩ := bse h
     have hBv5 : ∀ b, (f0_take.S a0) b → ¬ _ ∧ b < _ := fun b hb => by exact ⟨(hWc3.lt b hb).2.1, hWc3.lt1 b hb⟩
     have hBm5 : ∀ b, (f0_take.S a0) b → (f0_stream.S a0) b ∨ w.heap.size ≤ b := fun b hb => by exact hmc3 b hb
     rcases r5 with z5 | r5
     ·try dsimp only at h
      obtain rfl := Option.some.inj h
      refine ok_callp rfl (fun L5 w5 g5 lt5 => ?_)
      refine (f0_take.c k _ qc3 _ _ v3_0 _ hr5  w5 (hWc3.later g5).bare' (hSc3_0.later ((hF.trans g5).with hBm5))).mono ?_
      rintro e w5' ⟨rfl, hf5⟩
      exact ⟨_, rfl, rfl, (hF.trans g5).past hf5 hBm5⟩
     try dsimp only at h
     obtain ⟨s5_0, qc5⟩ := r5
     try dsimp only at h
     refine ok_callo (f0_take.S a0) rfl hBv5 (fun L5 w5 g5 lt5 => ?_)
     refine (f0_take.c k _ qc3 _ _ v3_0 (.ok (s5_0, qc5)) hr5  w5 (hWc3.later g5).bare' (hSc3_0.later ((hF.trans g5).with hBm5))).mono ?_
     rintro e w5' ⟨A5_0, c5_0, rfl, hf5, hWc5, hO5_0, hq5_0⟩
     refine ⟨((A5_0, s5_0.length, c5_0), ()), rfl, hf5, fun g5' hid5 hv5 => ?_⟩
     try dsimp only
     have hSc5_0 : SlR R23.row (f0_stream.S a0) w A0_0 c0_0 qc5.1 := by rw [hq5_0]; exact hSc3_0
     have dk5_o30 : Dj A5_0 a0 := Dj.new hO5_0.fresh (fun b hb => Nat.lt_of_lt_of_le (hBv5 b hb).2 g5.size)
     have hmc5 := hmc3
     have hWc5 := hWc5.vis (fun b hb => hv5 b (Or.inl hb))
     have hO5_0 := hO5_0.call (hF.trans g5).size lt5
     have hF := Fine.own hF g5' hBm5 hid5
     obtain rfl := Option.some.inj h
     have homes := fun (b : Nat) (h : b < w.heap.size) => h
     intro ρ L w' _ he _ _
     exact ⟨A5_0, c5_0, none, 0, rfl, (hF.ext he).with (fun b h => Or.inl h), (hWc5.later he.fine).bare', (hO5_0.later he.fine).ret, OwnF.ret (OwnF.nil _ (fun _ => False) _ _ _), Dj.nil2, (hq5_0.trans (hq3_0.trans (hq0_0.trans rfl)))⟩
    ·have h := bif_f h hc29
     obtain ⟨r4, hr4, h⟩ := bse h
     rcases r4 with z4 | r4
     ·try dsimp only at h
      obtain rfl := Option.some.inj h
      refine ok_callp rfl (fun L4 w4 g4 lt4 => ?_)
      refine (frames_needs.c k false 7 a2 _ hr4  w4 ).mono ?_
      rintro e w4' ⟨rfl, hb4⟩
      exact ⟨_, rfl, rfl, ((hF.trans g4).step hb4).with (fun b h => Or.inl h)⟩
     try dsimp only at h
     refine ok_callm rfl (fun L4 w4 g4 lt4 => ?_)
     refine (frames_needs.c k false 7 a2 (.ok r4) hr4  w4 ).mono ?_
     rintro e w4' ⟨rfl, hb4⟩
     refine ⟨(()), rfl, hb4, fun g4' => ?_⟩
     try dsimp only
     have hF := hF.trans g4'
     have hWc3 := hWc3.later g4'
     obtain ⟨r5, hr5, h⟩ := bse h
     have hBv5 : ∀ b, (f0_take.S a0) b → ¬ _ ∧ b < _ := fun b hb => by exact ⟨(hWc3.lt b hb).2.1, hWc3.lt1 b hb⟩
     have hBm5 : ∀ b, (f0_take.S a0) b → (f0_stream.S a0) b ∨ w.heap.size ≤ b := fun b hb => by exact hmc3 b hb
     rcases r5 with z5 | r5
     ·try dsimp only at h
      obtain rfl := Option.some.inj h
      refine ok_callp rfl (fun L5 w5 g5 lt5 => ?_)
      refine (f0_take.c k _ qc3 _ _ v3_0 _ hr5  w5 (hWc3.later g5).bare' (hSc3_0.later ((hF.trans g5).with hBm5))).mono ?_
      rintro e w5' ⟨rfl, hf5⟩
      exact ⟨_, rfl, rfl, (hF.trans g5).past hf5 hBm5⟩
     try dsimp only at h
     obtain ⟨s5_0, qc5⟩ := r5
     try dsimp only at h
     refine ok_callo (f0_take.S a0) rfl hBv5 (fun L5 w5 g5 lt5 => ?_)
     refine (f0_take.c k _ qc3 _ _ v3_0 (.ok (s5_0, qc5)) hr5  w5 (hWc3.later g5).bare' (hSc3_0.later ((hF.trans g5).with hBm5))).mono ?_
     rintro e w5' ⟨A5_0, c5_0, rfl, hf5, hWc5, hO5_0, hq5_0⟩
     refine ⟨((A5_0, s5_0.length, c5_0), ()), rfl, hf5, fun g5' hid5 hv5 => ?_⟩
     try dsimp only
     have hSc5_0 : SlR R23.row (f0_stream.S a0) w A0_0 c0_0 qc5.1 := by rw [hq5_0]; exact hSc3_0
     have dk5_o33 : Dj A5_0 a0 := Dj.new hO5_0.fresh (fun b hb => Nat.lt_of_lt_of_le (hBv5 b hb).2 g5.size)
     have hmc5 := hmc3
     have hWc5 := hWc5.vis (fun b hb => hv5 b (Or.inl hb))
     have hO5_0 := hO5_0.call (hF.trans g5).size lt5
     have hF := Fine.own hF g5' hBm5 hid5
     obtain rfl := Option.some.inj h
     have homes := fun (b : Nat) (h : b < w.heap.size) => h
     intro ρ L w' _ he _ _
     exact ⟨A5_0, c5_0, none, 0, rfl, (hF.ext he).with (fun b h => Or.inl h), (hWc5.later he.fine).bare', (hO5_0.later he.fine).ret, OwnF.ret (OwnF.nil _ (fun _ => False) _ _ _), Dj.nil2, (hq5_0.trans (hq3_0.trans (hq0_0.trans rfl)))⟩
   ·have h := bif_f h hc26
    refine ok_if (fun hc36 => ?_) (fun hc36 => ?_)
    ·have h := bif_t h hc36
     obtain ⟨r3, hr3, h⟩ := bse h
     rcases r3 with z3 | r3
     ·try dsimp only at h
      obtain rfl := Option.some.inj h
      refine ok_callp rfl (fun L3 w3 g3 lt3 => ?_)
      refine (frames_needs.c k true 7 a2 _ hr3  w3 ).mono ?_
      rintro e w3' ⟨rfl, hb3⟩
      exact ⟨_, rfl, rfl, ((hF.trans g3).step hb3).with (fun b h => Or.inl h)⟩
     try dsimp only at h
     refine ok_callm rfl (fun L3 w3 g3 lt3 => ?_)
     refine (frames_needs.c k true 7 a2 (.ok r3) hr3  w3 ).mono ?_
     rintro e w3' ⟨rfl, hb3⟩
     refine ⟨(()), rfl, hb3, fun g3' => ?_⟩
     try dsimp only
     have hF := hF.trans g3'
     have hWc0 := hWc0.later g3'
     obtain ⟨r4, hr4, h⟩ := bse h
     have hBv4 : ∀ b, (f0_take.S a0) b → ¬ _ ∧ b < _ := fun b hb => by exact ⟨(hWc0.lt b hb).2.1, hWc0.lt1 b hb⟩
     have hBm4 : ∀ b, (f0_take.S a0) b → (f0_stream.S a0) b ∨ w.heap.size ≤ b := fun b hb => by exact hmc0 b hb
     rcases r4 with z4 | r4
     ·try dsimp only at h
      obtain rfl := Option.some.inj h
      refine ok_callp rfl (fun L4 w4 g4 lt4 => ?_)
      refine (f0_take.c k _ qc0 _ _ (IntKind.i64.wrap ((((qc0.1).length : Nat) : Int) - qc0.2)) _ hr4  w4 (hWc0.later g4).bare' (hSc0_0.later ((hF.trans g4).with hBm4))).mono ?_
      rintro e w4' ⟨rfl, hf4⟩
      exact ⟨_, rfl, rfl, (hF.trans g4).past hf4 hBm4⟩
     try dsimp only at h
     obtain ⟨s4_0, qc4⟩ := r4
     try dsimp only at h
     refine ok_callo (f0_take.S a0) rfl hBv4 (fun L4 w4 g4 lt4 => ?_)
     refine (f0_take.c k _ qc0 _ _ (IntKind.i64.wrap ((((qc0.1).length : Nat) : Int) - qc0.2)) (.ok (s4_0, qc4)) hr4  w4 (hWc0.later g4).bare' (hSc0_0.later ((hF.trans g4).with hBm4))).mono ?_
     rintro e w4' ⟨A4_0, c4_0, rfl, hf4, hWc4, hO4_0, hq4_0⟩
     refine ⟨((A4_0, s4_0.length, c4_0), ()), rfl, hf4, fun g4' hid4 hv4 => ?_⟩
     try dsimp only
     have hSc4_0 : SlR R23.row (f0_stream.S a0) w A0_0 c0_0 qc4.1 := by rw [hq4_0]; exact hSc0_0
     have dk4_o37 : Dj A4_0 a0 := Dj.new hO4_0.fresh (fun b hb => Nat.lt_of_lt_of_le (hBv4 b hb).2 g4.size)
     have hmc4 := hmc0
     have hWc4 := hWc4.vis (fun b hb => hv4 b (Or.inl hb))
     have hO4_0 := hO4_0.call (hF.trans g4).size lt4
     have hF := Fine.own hF g4' hBm4 hid4
     obtain rfl := Option.some.inj h
     have homes := fun (b : Nat) (h : b < w.heap.size) => h
     intro ρ L w' _ he _ _
     exact ⟨A4_0, c4_0, none, 0, rfl, (hF.ext he).with (fun b h => Or.inl h), (hWc4.later he.fine).bare', (hO4_0.later he.fine).ret, OwnF.ret (OwnF.nil _ (fun _ => False) _ _ _), Dj.nil2, (hq4_0.trans (hq0_0.trans rfl))⟩
    ·have h := bif_f h hc36
     obtain ⟨r3, hr3, h⟩ := bse h
     rcases r3 with z3 | r3
     ·try dsimp only at h
      obtain rfl := Option.some.inj h
      refine ok_callp rfl (fun L3 w3 g3 lt3 => ?_)
      refine (frames_needs.c k false 7 a2 _ hr3  w3 ).mono ?_
      rintro e w3' ⟨rfl, hb3⟩
      exact ⟨_, rfl, rfl, ((hF.trans g3).step hb3).with (fun b h => Or.inl h)⟩
     try dsimp only at h
     refine ok_callm rfl (fun L3 w3 g3 lt3 => ?_)
     refine (frames_needs.c k false 7 a2 (.ok r3) hr3  w3 ).mono ?_
     rintro e w3' ⟨rfl, hb3⟩
     refine ⟨(()), rfl, hb3, fun g3' => ?_⟩
     try dsimp only
     have hF := hF.trans g3'
     have hWc0 := hWc0.later g3'
     obtain ⟨r4, hr4, h⟩ := bse h
     have hBv4 : ∀ b, (f0_take.S a0) b → ¬ _ ∧ b < _ := fun b hb => by exact ⟨(hWc0.lt b hb).2.1, hWc0.lt1 b hb⟩
     have hBm4 : ∀ b, (f0_take.S a0) b → (f0_stream.S a0) b ∨ w.heap.size ≤ b := fun b hb => by exact hmc0 b hb
     rcases r4 with z4 | r4
     ·try dsimp only at h
      obtain rfl := Option.some.inj h
      refine ok_callp rfl (fun L4 w4 g4 lt4 => ?_)
      refine (f0_take.c k _ qc0 _ _ (IntKind.i64.wrap ((((qc0.1).length : Nat) : Int) - qc0.2)) _ hr4  w4 (hWc0.later g4).bare' (hSc0_0.later ((hF.trans g4).with hBm4))).mono ?_
      rintro e w4' ⟨rfl, hf4⟩
      exact ⟨_, rfl, rfl, (hF.trans g4).past hf4 hBm4⟩
     try dsimp only at h
     obtain ⟨s4_0, qc4⟩ := r4
     try dsimp only at h
     refine ok_callo (f0_take.S a0) rfl hBv4 (fun L4 w4 g4 lt4 => ?_)
     refine (f0_take.c k _ qc0 _ _ (IntKind.i64.wrap ((((qc0.1).length : Nat) : Int) - qc0.2)) (.ok (s4_0, qc4)) hr4  w4 (hWc0.later g4).bare' (hSc0_0.later ((hF.trans g4).with hBm4))).mono ?_
     rintro e w4' ⟨A4_0, c4_0, rfl, hf4, hWc4, hO4_0, hq4_0⟩
     refine ⟨((A4_0, s4_0.length, c4_0), ()), rfl, hf4, fun g4' hid4 hv4 => ?_⟩
     try dsimp only
     have hSc4_0 : SlR R23.row (f0_stream.S a0) w A0_0 c0_0 qc4.1 := by rw [hq4_0]; exact hSc0_0
     have dk4_o40 : Dj A4_0 a0 := Dj.new hO4_0.fresh (fun b hb => Nat.lt_of_lt_of_le (hBv4 b hb).2 g4.size)
     have hmc4 := hmc0
     have hWc4 := hWc4.vis (fun b hb => hv4 b (Or.inl hb))
     have hO4_0 := hO4_0.call (hF.trans g4).size lt4
     have hF := Fine.own hF g4' hBm4 hid4
     obtain rfl := Option.some.inj h
     have homes := fun (b : Nat) (h : b < w.heap.size) => h
     intro ρ L w' _ he _ _
     exact ⟨A4_0, c4_0, none, 0, rfl, (hF.ext he).with (fun b h => Or.inl h), (hWc4.later he.fine).bare', (hO4_0.later he.fine).ret, OwnF.ret (OwnF.nil _ (fun _ => False) _ _ _), Dj.nil2, (hq4_0.trans (hq0_0.trans rfl))⟩
 ·have h := bif_f h hc5
  refine ok_if (fun hc43 => ?_) (fun hc43 => ?_)
  ·have h := bif_t h hc43
   obtain ⟨r1, hr1, h⟩ := bse h
   have hBv1 : ∀ b, (f0_number.S a0) b → ¬ _ ∧ b < _ := fun b hb => by exact ⟨(hWc0.lt b hb).2.1, hWc0.lt1 b hb⟩
   have hBm1 : ∀ b, (f0_number.S a0) b → (f0_stream.S a0) b ∨ w.heap.size ≤ b := fun b hb => by exact hmc0 b hb
   rcases r1 with z1 | r1
   ·try dsimp only at h
    obtain rfl := Option.some.inj h
    refine ok_callp rfl (fun L1 w1 g1 lt1 => ?_)
    refine (f0_number.c k _ qc0 _ _ _ hr1  w1 (hWc0.later g1).bare' (hSc0_0.later ((hF.trans g1).with hBm1))).mono ?_
    rintro e w1' ⟨rfl, hf1⟩
    exact ⟨_, rfl, rfl, (hF.trans g1).past hf1 hBm1⟩
   try dsimp only at h
   obtain ⟨v1_0, qc1⟩ := r1
   try dsimp only at h
   refine ok_callo (f0_number.S a0) rfl hBv1 (fun L1 w1 g1 lt1 => ?_)
   refine (f0_number.c k _ qc0 _ _ (.ok (v1_0, qc1)) hr1  w1 (hWc0.later g1).bare' (hSc0_0.later ((hF.trans g1).with hBm1))).mono ?_
   rintro e w1' ⟨rfl, hf1, hWc1, hq1_0⟩
   refine ⟨(v1_0, ()), rfl, hf1, fun g1' hid1 hv1 => ?_⟩
   try dsimp only
   have hSc1_0 : SlR R23.row (f0_stream.S a0) w A0_0 c0_0 qc1.1 := by rw [hq1_0]; exact hSc0_0
   have hmc1 := hmc0
   have hWc1 := hWc1.vis (fun b hb => hv1 b (Or.inl hb))
   have hF := Fine.own hF g1' hBm1 hid1
   refine ok_need hA_a0 ?_
   refine ok_need hA_a0 ?_
   refine ok_ob 0 hWc1.sl (Fine.refl _ _) (fun cs hcs => ⟨(A0_0, qc1.1.length, c0_0), by rw [hcs]; rfl, ?_⟩)
   try dsimp only
   refine ok_need hA_a0 ?_
   refine ok_need hA_a0 ?_
   refine ok_ob 1 hWc1.sl (Fine.refl _ _) (fun cs hcs => ⟨qc1.2, by rw [hcs]; rfl, ?_⟩)
   try dsimp only
   refine ok_if (fun hc46 => ?_) (fun hc46 => ?_)
   ·have h := bif_t h hc46
    obtain ⟨r4, hr4, h⟩ := bse h
    have hBv4 : ∀ b, (f0_number.S a0) b → ¬ _ ∧ b < _ := fun b hb => by exact ⟨(hWc1.lt b hb).2.1, hWc1.lt1 b hb⟩
    have hBm4 : ∀ b, (f0_number.S a0) b → (f0_stream.S a0) b ∨ w.heap.size ≤ b := fun b hb => by exact hmc1 b hb
    rcases r4 with z4 | r4
    ·try dsimp only at h
     obtain rfl := Option.some.inj h
     refine ok_callp rfl (fun L4 w4 g4 lt4 => ?_)
     refine (f0_number.c k _ qc1 _ _ _ hr4  w4 (hWc1.later g4).bare' (hSc1_0.later ((hF.trans g4).with hBm4))).mono ?_
     rintro e w4' ⟨rfl, hf4⟩
     exact ⟨_, rfl, rfl, (hF.trans g4).past hf4 hBm4⟩
    try dsimp only at h
    obtain ⟨v4_0, qc4⟩ := r4
    try dsimp only at h
    refine ok_callo (f0_number.S a0) rfl hBv4 (fun L4 w4 g4 lt4 => ?_)
    refine (f0_number.c k _ qc1 _ _ (.ok (v4_0, qc4)) hr4  w4 (hWc1.later g4).bare' (hSc1_0.later ((hF.trans g4).with hBm4))).mono ?_
    rintro e w4' ⟨rfl, hf4, hWc4, hq4_0⟩
    refine ⟨(v4_0, ()), rfl, hf4, fun g4' hid4 hv4 => ?_⟩
    try dsimp only
    have hSc4_0 : SlR R23.row (f0_stream.S a0) w A0_0 c0_0 qc4.1 := by rw [hq4_0]; exact hSc1_0
    have hmc4 := hmc1
    have hWc4 := hWc4.vis (fun b hb => hv4 b (Or.inl hb))
    have hF := Fine.own hF g4' hBm4 hid4
    refine ok_if (fun hc49 => ?_) (fun hc49 => ?_)
    ·have h := bif_t h hc49
     obtain ⟨r5, hr5, h⟩ := bse h
     rcases r5 with z5 | r5
     ·try dsimp only at h
      obtain rfl := Option.some.inj h
      refine ok_callp rfl (fun L5 w5 g5 lt5 => ?_)
      refine (frames_needs.c k true 7 a2 _ hr5  w5 ).mono ?_
      rintro e w5' ⟨rfl, hb5⟩
      exact ⟨_, rfl, rfl, ((hF.trans g5).step hb5).with (fun b h => Or.inl h)⟩
     try dsimp only at h
     refine ok_callm rfl (fun L5 w5 g5 lt5 => ?_)
     refine (frames_needs.c k true 7 a2 (.ok r5) hr5  w5 ).mono ?_
     rintro e w5' ⟨rfl, hb5⟩
     refine ⟨(()), rfl, hb5, fun g5' => ?_⟩
     try dsimp only
     have hF := hF.trans g5'
     have hWc4 := hWc4.later g5'
     obtain ⟨r6, hr6, h⟩ := bse h
     have hBv6 : ∀ b, (f0_take.S a0) b → ¬ _ ∧ b < _ := fun b hb => by exact ⟨(hWc4.lt b hb).2.1, hWc4.lt1 b hb⟩
     have hBm6 : ∀ b, (f0_take.S a0) b → (f0_stream.S a0) b ∨ w.heap.size ≤ b := fun b hb => by exact hmc4 b hb
     rcases r6 with z6 | r6
     ·try dsimp only at h
      obtain rfl := Option.some.inj h
      refine ok_callp rfl (fun L6 w6 g6 lt6 => ?_)
      refine (f0_take.c k _ qc4 _ _ v4_0 _ hr6  w6 (hWc4.later g6).bare' (hSc4_0.later ((hF.trans g6).with hBm6))).mono ?_
      rintro e w6' ⟨rfl, hf6⟩
      exact ⟨_, rfl, rfl, (hF.trans g6).past hf6 hBm6⟩
     try dsimp only at h
     obtain ⟨s6_0, qc6⟩ := r6
     try dsimp only at h
     refine ok_callo (f0_take.S a0) rfl hBv6 (fun L6 w6 g6 lt6 => ?_)
     refine (f0_take.c k _ qc4 _ _ v4_0 (.ok (s6_0, qc6)) hr6  w6 (hWc4.later g6).bare' (hSc4_0.later ((hF.trans g6).with hBm6))).mono ?_
     rintro e w6' ⟨A6_0, c6_0, rfl, hf6, hWc6, hO6_0, hq6_0⟩
     refine ⟨((A6_0, s6_0.length, c6_0), ()), rfl, hf6, fun g6' hid6 hv6 => ?_⟩
     try dsimp only
     have hSc6_0 : SlR R23.row (f0_stream.S a0) w A0_0 c0_0 qc6.1 := by rw [hq6_0]; exact hSc4_0
     have dk6_o50 : Dj A6_0 a0 := Dj.new hO6_0.fresh (fun b hb => Nat.lt_of_lt_of_le (hBv6 b hb).2 g6.size)
     have hmc6 := hmc4
     have hWc6 := hWc6.vis (fun b hb => hv6 b (Or.inl hb))
     have hO6_0 := hO6_0.call (hF.trans g6).size lt6
     have hF := Fine.own hF g6' hBm6 hid6
     obtain rfl := Option.some.inj h
     have homes := fun (b : Nat) (h : b < w.heap.size) => h
     intro ρ L w' _ he _ _
     exact ⟨A6_0, c6_0, none, 0, rfl, (hF.ext he).with (fun b h => Or.inl h), (hWc6.later he.fine).bare', (hO6_0.later he.fine).ret, OwnF.ret (OwnF.nil _ (fun _ => False) _ _ _), Dj.nil2, (hq6_0.trans (hq4_0.trans (hq1_0.trans (hq0_0.trans rfl))))⟩
    ·have h := bif_f h hc49
     obtain ⟨r5, hr5, h⟩ := bse h
     rcases r5 with z5 | r5
     ·try dsimp only at h
      obtain rfl := Option.some.inj h
      refine ok_callp rfl (fun L5 w5 g5 lt5 => ?_)
      refine (frames_needs.c k false 7 a2 _ hr5  w5 ).mono ?_
      rintro e w5' ⟨rfl, hb5⟩
      exact ⟨_, rfl, rfl, ((hF.trans g5).step hb5).with (fun b h => Or.inl h)⟩
     try dsimp only at h
     refine ok_callm rfl (fun L5 w5 g5 lt5 => ?_)
     refine (frames_needs.c k false 7 a2 (.ok r5) hr5  w5 ).mono ?_
     rintro e w5' ⟨rfl, hb5⟩
     refine ⟨(()), rfl, hb5, fun g5' => ?_⟩
     try dsimp only
     have hF := hF.trans g5'
     have hWc4 := hWc4.later g5'
     obtain ⟨r6, hr6, h⟩ := bse h
     have hBv6 : ∀ b, (f0_take.S a0) b → ¬ _ ∧ b < _ := fun b hb => by exact ⟨(hWc4.lt b hb).2.1, hWc4.lt1 b hb⟩
     have hBm6 : ∀ b, (f0_take.S a0) b → (f0_stream.S a0) b ∨ w.heap.size ≤ b := fun b hb => by exact hmc4 b hb
     rcases r6 with z6 | r6
     ·try dsimp only at h
      obtain rfl := Option.some.inj h
      refine ok_callp rfl (fun L6 w6 g6 lt6 => ?_)
      refine (f0_take.c k _ qc4 _ _ v4_0 _ hr6  w6 (hWc4.later g6).bare' (hSc4_0.later ((hF.trans g6).with hBm6))).mono ?_
      rintro e w6' ⟨rfl, hf6⟩
      exact ⟨_, rfl, rfl, (hF.trans g6).past hf6 hBm6⟩
     try dsimp only at h
     obtain ⟨s6_0, qc6⟩ := r6
     try dsimp only at h
     refine ok_callo (f0_take.S a0) rfl hBv6 (fun L6 w6 g6 lt6 => ?_)
     refine (f0_take.c k _ qc4 _ _ v4_0 (.ok (s6_0, qc6)) hr6  w6 (hWc4.later g6).bare' (hSc4_0.later ((hF.trans g6).with hBm6))).mono ?_
     rintro e w6' ⟨A6_0, c6_0, rfl, hf6, hWc6, hO6_0, hq6_0⟩
     refine ⟨((A6_0, s6_0.length, c6_0), ()), rfl, hf6, fun g6' hid6 hv6 => ?_⟩
     try dsimp only
     have hSc6_0 : SlR R23.row (f0_stream.S a0) w A0_0 c0_0 qc6.1 := by rw [hq6_0]; exact hSc4_0
     have dk6_o53 : Dj A6_0 a0 := Dj.new hO6_0.fresh (fun b hb => Nat.lt_of_lt_of_le (hBv6 b hb).2 g6.size)
     have hmc6 := hmc4
     have hWc6 := hWc6.vis (fun b hb => hv6 b (Or.inl hb))
     have hO6_0 := hO6_0.call (hF.trans g6).size lt6
     have hF := Fine.own hF g6' hBm6 hid6
     obtain rfl := Option.some.inj h
     have homes := fun (b : Nat) (h : b < w.heap.size) => h
     intro ρ L w' _ he _ _
     exact ⟨A6_0, c6_0, none, 0, rfl, (hF.ext he).with (fun b h => Or.inl h), (hWc6.later he.fine).bare', (hO6_0.later he.fine).ret, OwnF.ret (OwnF.nil _ (fun _ => False) _ _ _), Dj.nil2, (hq6_0.trans (hq4_0.trans (hq1_0.trans (hq0_0.trans rfl))))⟩
   ·have h := bif_f h hc46
    refine ok_if (fun hc56 => ?_) (fun hc56 => ?_)
    ·have h := bif_t h hc56
     obtain ⟨r4, hr4, h⟩ := bse h
     rcases r4 with z4 | r4
     ·try dsimp only at h
      obtain rfl := Option.some.inj h
      refine ok_callp rfl (fun L4 w4 g4 lt4 => ?_)
      refine (frames_needs.c k true 7 a2 _ hr4  w4 ).mono ?_
      rintro e w4' ⟨rfl, hb4⟩
      exact ⟨_, rfl, rfl, ((hF.trans g4).step hb4).with (fun b h => Or.inl h)⟩
     try dsimp only at h
     refine ok_callm rfl (fun L4 w4 g4 lt4 => ?_)
     refine (frames_needs.c k true 7 a2 (.ok r4) hr4  w4 ).mono ?_
     rintro e w4' ⟨rfl, hb4⟩
     refine ⟨(()), rfl, hb4, fun g4' => ?_⟩
     try dsimp only
     have hF := hF.trans g4'
     have hWc1 := hWc1.later g4'
     obtain ⟨r5, hr5, h⟩ := bse h
     have hBv5 : ∀ b, (f0_take.S a0) b → ¬ _ ∧ b < _ := fun b hb => by exact ⟨(hWc1.lt b hb).2.1, hWc1.lt1 b hb⟩
     have hBm5 : ∀ b, (f0_take.S a0) b → (f0_stream.S a0) b ∨ w.heap.size ≤ b := fun b hb => by exact hmc1 b hb
     rcases r5 with z5 | r5
     ·try dsimp only at h
      obtain rfl := Option.some.inj h
      refine ok_callp rfl (fun L5 w5 g5 lt5 => ?_)
      refine (f0_take.c k _ qc1 _ _ (IntKind.i64.wrap ((((qc1.1).length : Nat) : Int) - qc1.2)) _ hr5  w5 (hWc1.later g5).bare' (hSc1_0.later ((hF.trans g5).with hBm5))).mono ?_
      rintro e w5' ⟨rfl, hf5⟩
      exact ⟨_, rfl, rfl, (hF.trans g5).past hf5 hBm5⟩
     try dsimp only at h
     obtain ⟨s5_0, qc5⟩ := r5
     try dsimp only at h
     refine ok_callo (f0_take.S a0) rfl hBv5 (fun L5 w5 g5 lt5 => ?_)
     refine (f0_take.c k _ qc1 _ _ (IntKind.i64.wrap ((((qc1.1).length : Nat) : Int) - qc1.2)) (.ok (s5_0, qc5)) hr5  w5 (hWc1.later g5).bare' (hSc1_0.later ((hF.trans g5).with hBm5))).mono ?_
     rintro e w5' ⟨A5_0, c5_0, rfl, hf5, hWc5, hO5_0, hq5_0⟩
     refine ⟨((A5_0, s5_0.length, c5_0), ()), rfl, hf5, fun g5' hid5 hv5 => ?_⟩
     try dsimp only
     have hSc5_0 : SlR R23.row (f0_stream.S a0) w A0_0 c0_0 qc5.1 := by rw [hq5_0]; exact hSc1_0
     have dk5_o57 : Dj A5_0 a0 := Dj.new hO5_0.fresh (fun b hb => Nat.lt_of_lt_of_le (hBv5 b hb).2 g5.size)
     have hmc5 := hmc1
     have hWc5 := hWc5.vis (fun b hb => hv5 b (Or.inl hb))
     have hO5_0 := hO5_0.call (hF.trans g5).size lt5
     have hF := Fine.own hF g5' hBm5 hid5
     obtain rfl := Option.some.inj h
     have homes := fun (b : Nat) (h : b < w.heap.size) => h
     intro ρ L w' _ he _ _
     exact ⟨A5_0, c5_0, none, 0, rfl, (hF.ext he).with (fun b h => Or.inl h), (hWc5.later he.fine).bare', (hO5_0.later he.fine).ret, OwnF.ret (OwnF.nil _ (fun _ => False) _ _ _), Dj.nil2, (hq5_0.trans (hq1_0.trans (hq0_0.trans rfl)))⟩
    ·have h := bif_f h hc56
     obtain ⟨r4, hr4, h⟩ := bse h
     rcases r4 with z4 | r4
     ·try dsimp only at h
      obtain rfl := Option.some.inj h
      refine ok_callp rfl (fun L4 w4 g4 lt4 => ?_)
      refine (frames_needs.c k false 7 a2 _ hr4  w4 ).mono ?_
      rintro e w4' ⟨rfl, hb4⟩
      exact ⟨_, rfl, rfl, ((hF.trans g4).step hb4).with (fun b h => Or.inl h)⟩
     try dsimp only at h
     refine ok_callm rfl (fun L4 w4 g4 lt4 => ?_)
     refine (frames_needs.c k false 7 a2 (.ok r4) hr4  w4 ).mono ?_
     rintro e w4' ⟨rfl, hb4⟩
     refine ⟨(()), rfl, hb4, fun g4' => ?_⟩
     try dsimp only
     have hF := hF.trans g4'
     have hWc1 := hWc1.later g4'
     obtain ⟨r5, hr5, h⟩ := bse h
     have hBv5 : ∀ b, (f0_take.S a0) b → ¬ _ ∧ b < _ := fun b hb => by exact ⟨(hWc1.lt b hb).2.1, hWc1.lt1 b hb⟩
     have hBm5 : ∀ b, (f0_take.S a0) b → (f0_stream.S a0) b ∨ w.heap.size ≤ b := fun b hb => by exact hmc1 b hb
     rcases r5 with z5 | r5
     ·try dsimp only at h
      obtain rfl := Option.some.inj h
      refine ok_callp rfl (fun L5 w5 g5 lt5 => ?_)
      refine (f0_take.c k _ qc1 _ _ (IntKind.i64.wrap ((((qc1.1).length : Nat) : Int) - qc1.2)) _ hr5  w5 (hWc1.later g5).bare' (hSc1_0.later ((hF.trans g5).with hBm5))).mono ?_
      rintro e w5' ⟨rfl, hf5⟩
      exact ⟨_, rfl, rfl, (hF.trans g5).past hf5 hBm5⟩
     try dsimp only at h
     obtain ⟨s5_0, qc5⟩ := r5
     try dsimp only at h
     refine ok_callo (f0_take.S a0) rfl hBv5 (fun L5 w5 g5 lt5 => ?_)
     refine (f0_take.c k _ qc1 _ _ (IntKind.i64.wrap ((((qc1.1).length : Nat) : Int) - qc1.2)) (.ok (s5_0, qc5)) hr5  w5 (hWc1.later g5).bare' (hSc1_0.later ((hF.trans g5).with hBm5))).mono ?_
     rintro e w5' ⟨A5_0, c5_0, rfl, hf5, hWc5, hO5_0, hq5_0⟩
     refine ⟨((A5_0, s5_0.length, c5_0), ()), rfl, hf5, fun g5' hid5 hv5 => ?_⟩
     try dsimp only
     have hSc5_0 : SlR R23.row (f0_stream.S a0) w A0_0 c0_0 qc5.1 := by rw [hq5_0]; exact hSc1_0
     have dk5_o60 : Dj A5_0 a0 := Dj.new hO5_0.fresh (fun b hb => Nat.lt_of_lt_of_le (hBv5 b hb).2 g5.size)
     have hmc5 := hmc1
     have hWc5 := hWc5.vis (fun b hb => hv5 b (Or.inl hb))
     have hO5_0 := hO5_0.call (hF.trans g5).size lt5
     have hF := Fine.own hF g5' hBm5 hid5
     obtain rfl := Option.some.inj h
     have homes := fun (b : Nat) (h : b < w.heap.size) => h
     intro ρ L w' _ he _ _
     exact ⟨A5_0, c5_0, none, 0, rfl, (hF.ext he).with (fun b h => Or.inl h), (hWc5.later he.fine).bare', (hO5_0.later he.fine).ret, OwnF.ret (OwnF.nil _ (fun _ => False) _ _ _), Dj.nil2, (hq5_0.trans (hq1_0.trans (hq0_0.trans rfl)))⟩
  ·have h := bif_f h hc43
   refine ok_need hA_a0 ?_
   refine ok_need hA_a0 ?_
   refine ok_ob 0 hWc0.sl (Fine.refl _ _) (fun cs hcs => ⟨(A0_0, qc0.1.length, c0_0), by rw [hcs]; rfl, ?_⟩)
   try dsimp only
   refine ok_need hA_a0 ?_
   refine ok_need hA_a0 ?_
   refine ok_ob 1 hWc0.sl (Fine.refl _ _) (fun cs hcs => ⟨qc0.2, by rw [hcs]; rfl, ?_⟩)
   try dsimp only
   refine ok_if (fun hc63 => ?_) (fun hc63 => ?_)
   ·have h := bif_t h hc63
    obtain ⟨r3, hr3, h⟩ := bse h
    have hBv3 : ∀ b, (f0_number.S a0) b → ¬ _ ∧ b < _ := fun b hb => by exact ⟨(hWc0.lt b hb).2.1, hWc0.lt1 b hb⟩
    have hBm3 : ∀ b, (f0_number.S a0) b → (f0_stream.S a0) b ∨ w.heap.size ≤ b := fun b hb => by exact hmc0 b hb
    rcases r3 with z3 | r3
    ·try dsimp only at h
     obtain rfl := Option.some.inj h
     refine ok_callp rfl (fun L3 w3 g3 lt3 => ?_)
     refine (f0_number.c k _ qc0 _ _ _ hr3  w3 (hWc0.later g3).bare' (hSc0_0.later ((hF.trans g3).with hBm3))).mono ?_
     rintro e w3' ⟨rfl, hf3⟩
     exact ⟨_, rfl, rfl, (hF.trans g3).past hf3 hBm3⟩
    try dsimp only at h
    obtain ⟨v3_0, qc3⟩ := r3
    try dsimp only at h
    refine ok_callo (f0_number.S a0) rfl hBv3 (fun L3 w3 g3 lt3 => ?_)
    refine (f0_number.c k _ qc0 _ _ (.ok (v3_0, qc3)) hr3  w3 (hWc0.later g3).bare' (hSc0_0.later ((hF.trans g3).with hBm3))).mono ?_
    rintro e w3' ⟨rfl, hf3, hWc3, hq3_0⟩
    refine ⟨(v3_0, ()), rfl, hf3, fun g3' hid3 hv3 => ?_⟩
    try dsimp only
    have hSc3_0 : SlR R23.row (f0_stream.S a0) w A0_0 c0_0 qc3.1 := by rw [hq3_0]; exact hSc0_0
    have hmc3 := hmc0
    have hWc3 := hWc3.vis (fun b hb => hv3 b (Or.inl hb))
    have hF := Fine.own hF g3' hBm3 hid3
    refine ok_if (fun hc66 => ?_) (fun hc66 => ?_)
    ·have h := bif_t h hc66
     obtain ⟨r4, hr4, h⟩ := bse h
     rcases r4 with z4 | r4
     ·try dsimp only at h
      obtain rfl := Option.some.inj h
      refine ok_callp rfl (fun L4 w4 g4 lt4 => ?_)
      refine (frames_needs.c k true 7 a2 _ hr4  w4 ).mono ?_
      rintro e w4' ⟨rfl, hb4⟩
      exact ⟨_, rfl, rfl, ((hF.trans g4).step hb4).with (fun b h => Or.inl h)⟩
     try dsimp only at h
     refine ok_callm rfl (fun L4 w4 g4 lt4 => ?_)
     refine (frames_needs.c k true 7 a2 (.ok r4) hr4  w4 ).mono ?_
     rintro e w4' ⟨rfl, hb4⟩
     refine ⟨(()), rfl, hb4, fun g4' => ?_⟩
     try dsimp only
     have hF := hF.trans g4'
     have hWc3 := hWc3.later g4'
     obtain ⟨r5, hr5, h⟩ := bse h
     have hBv5 : ∀ b, (f0_take.S a0) b → ¬ _ ∧ b < _ := fun b hb => by exact ⟨(hWc3.lt b hb).2.1, hWc3.lt1 b hb⟩
     have hBm5 : ∀ b, (f0_take.S a0) b → (f0_stream.S a0) b ∨ w.heap.size ≤ b := fun b hb => by exact hmc3 b hb
     rcases r5 with z5 | r5
     ·try dsimp only at h
      obtain rfl := Option.some.inj h
      refine ok_callp rfl (fun L5 w5 g5 lt5 => ?_)
      refine (f0_take.c k _ qc3 _ _ v3_0 _ hr5  w5 (hWc3.later g5).bare' (hSc3_0.later ((hF.trans g5).with hBm5))).mono ?_
      rintro e w5' ⟨rfl, hf5⟩
      exact ⟨_, rfl, rfl, (hF.trans g5).past hf5 hBm5⟩
     try dsimp only at h
     obtain ⟨s5_0, qc5⟩ := r5
     try dsimp only at h
     refine ok_callo (f0_take.S a0) rfl hBv5 (fun L5 w5 g5 lt5 => ?_)
     refine (f0_take.c k _ qc3 _ _ v3_0 (.ok (s5_0, qc5)) hr5  w5 (hWc3.later g5).bare' (hSc3_0.later ((hF.trans g5).with hBm5))).mono ?_
     rintro e w5' ⟨A5_0, c5_0, rfl, hf5, hWc5, hO5_0, hq5_0⟩
     refine ⟨((A5_0, s5_0.length, c5_0), ()), rfl, hf5, fun g5' hid5 hv5 => ?_⟩
     try dsimp only
     have hSc5_0 : SlR R23.row (f0_stream.S a0) w A0_0 c0_0 qc5.1 := by rw [hq5_0]; exact hSc3_0
     have dk5_o67 : Dj A5_0 a0 := Dj.new hO5_0.fresh (fun b hb => Nat.lt_of_lt_of_le (hBv5 b hb).2 g5.size)
     have hmc5 := hmc3
     have hWc5 := hWc5.vis (fun b hb => hv5 b (Or.inl hb))
     have hO5_0 := hO5_0.call (hF.trans g5).size lt5
     have hF := Fine.own hF g5' hBm5 hid5
     obtain rfl := Option.some.inj h
     have homes := fun (b : Nat) (h : b < w.heap.size) => h
     intro ρ L w' _ he _ _
     exact ⟨A5_0, c5_0, none, 0, rfl, (hF.ext he).with (fun b h => Or.inl h), (hWc5.later he.fine).bare', (hO5_0.later he.fine).ret, OwnF.ret (OwnF.nil _ (fun _ => False) _ _ _), Dj.nil2, (hq5_0.trans (hq3_0.trans (hq0_0.trans rfl)))⟩
    ·have h := bif_f h hc66
     obtain ⟨r4, hr4, h⟩ := bse h
     rcases r4 with z4 | r4
     ·try dsimp only at h
      obtain rfl := Option.some.inj h
      refine ok_callp rfl (fun L4 w4 g4 lt4 => ?_)
      refine (frames_needs.c k false 7 a2 _ hr4  w4 ).mono ?_
      rintro e w4' ⟨rfl, hb4⟩
      exact ⟨_, rfl, rfl, ((hF.trans g4).step hb4).with (fun b h => Or.inl h)⟩
     try dsimp only at h
     refine ok_callm rfl (fun L4 w4 g4 lt4 => ?_)
     refine (frames_needs.c k false 7 a2 (.ok r4) hr4  w4 ).mono ?_
     rintro e w4' ⟨rfl, hb4⟩
     refine ⟨(()), rfl, hb4, fun g4' => ?_⟩
     try dsimp only
     have hF := hF.trans g4'
     have hWc3 := hWc3.later g4'
     obtain ⟨r5, hr5, h⟩ := bse h
     have hBv5 : ∀ b, (f0_take.S a0) b → ¬ _ ∧ b < _ := fun b hb => by exact ⟨(hWc3.lt b hb).2.1, hWc3.lt1 b hb⟩
     have hBm5 : ∀ b, (f0_take.S a0) b → (f0_stream.S a0) b ∨ w.heap.size ≤ b := fun b hb => by exact hmc3 b hb
     rcases r5 with z5 | r5
     ·try dsimp only at h
      obtain rfl := Option.some.inj h
      refine ok_callp rfl (fun L5 w5 g5 lt5 => ?_)
      refine (f0_take.c k _ qc3 _ _ v3_0 _ hr5  w5 (hWc3.later g5).bare' (hSc3_0.later ((hF.trans g5).with hBm5))).mono ?_
      rintro e w5' ⟨rfl, hf5⟩
      exact ⟨_, rfl, rfl, (hF.trans g5).past hf5 hBm5⟩
     try dsimp only at h
     obtain ⟨s5_0, qc5⟩ := r5
     try dsimp only at h
     refine ok_callo (f0_take.S a0) rfl hBv5 (fun L5 w5 g5 lt5 => ?_)
     refine (f0_take.c k _ qc3 _ _ v3_0 (.ok (s5_0, qc5)) hr5  w5 (hWc3.later g5).bare' (hSc3_0.later ((hF.trans g5).with hBm5))).mono ?_
     rintro e w5' ⟨A5_0, c5_0, rfl, hf5, hWc5, hO5_0, hq5_0⟩
     refine ⟨((A5_0, s5_0.length, c5_0), ()), rfl, hf5, fun g5' hid5 hv5 => ?_⟩
     try dsimp only
     have hSc5_0 : SlR R23.row (f0_stream.S a0) w A0_0 c0_0 qc5.1 := by rw [hq5_0]; exact hSc3_0
     have dk5_o70 : Dj A5_0 a0 := Dj.new hO5_0.fresh (fun b hb => Nat.lt_of_lt_of_le (hBv5 b hb).2 g5.size)
     have hmc5 := hmc3
     have hWc5 := hWc5.vis (fun b hb => hv5 b (Or.inl hb))
     have hO5_0 := hO5_0.call (hF.trans g5).size lt5
     have hF := Fine.own hF g5' hBm5 hid5
     obtain rfl := Option.some.inj h
     have homes := fun (b : Nat) (h : b < w.heap.size) => h
     intro ρ L w' _ he _ _
     exact ⟨A5_0, c5_0, none, 0, rfl, (hF.ext he).with (fun b h => Or.inl h), (hWc5.later he.fine).bare', (hO5_0.later he.fine).ret, OwnF.ret (OwnF.nil _ (fun _ => False) _ _ _), Dj.nil2, (hq5_0.trans (hq3_0.trans (hq0_0.trans rfl)))⟩
   ·have h := bif_f h hc63
    refine ok_if (fun hc73 => ?_) (fun hc73 => ?_)
    ·have h := bif_t h hc73
     obtain ⟨r3, hr3, h⟩ := bse h
     rcases r3 with z3 | r3
     ·try dsimp only at h
      obtain rfl := Option.some.inj h
      refine ok_callp rfl (fun L3 w3 g3 lt3 => ?_)
      refine (frames_needs.c k true 7 a2 _ hr3  w3 ).mono ?_
      rintro e w3' ⟨rfl, hb3⟩
      exact ⟨_, rfl, rfl, ((hF.trans g3).step hb3).with (fun b h => Or.inl h)⟩
     try dsimp only at h
     refine ok_callm rfl (fun L3 w3 g3 lt3 => ?_)
     refine (frames_needs.c k true 7 a2 (.ok r3) hr3  w3 ).mono ?_
     rintro e w3' ⟨rfl, hb3⟩
     refine ⟨(()), rfl, hb3, fun g3' => ?_⟩
     try dsimp only
     have hF := hF.trans g3'
     have hWc0 := hWc0.later g3'
     obtain ⟨r4, hr4, h⟩ := bse h
     have hBv4 : ∀ b, (f0_take.S a0) b → ¬ _ ∧ b < _ := fun b hb => by exact ⟨(hWc0.lt b hb).2.1, hWc0.lt1 b hb⟩
     have hBm4 : ∀ b, (f0_take.S a0) b → (f0_stream.S a0) b ∨ w.heap.size ≤ b := fun b hb => by exact hmc0 b hb
     rcases r4 with z4 | r4
     ·try dsimp only at h
      obtain rfl := Option.some.inj h
      refine ok_callp rfl (fun L4 w4 g4 lt4 => ?_)
      refine (f0_take.c k _ qc0 _ _ (IntKind.i64.wrap ((((qc0.1).length : Nat) : Int) - qc0.2)) _ hr4  w4 (hWc0.later g4).bare' (hSc0_0.later ((hF.trans g4).with hBm4))).mono ?_
      rintro e w4' ⟨rfl, hf4⟩
      exact ⟨_, rfl, rfl, (hF.trans g4).past hf4 hBm4⟩
     try dsimp only at h
     obtain ⟨s4_0, qc4⟩ := r4
     try dsimp only at h
     refine ok_callo (f0_take.S a0) rfl hBv4 (fun L4 w4 g4 lt4 => ?_)
     refine (f0_take.c k _ qc0 _ _ (IntKind.i64.wrap ((((qc0.1).length : Nat) : Int) - qc0.2)) (.ok (s4_0, qc4)) hr4  w4 (hWc0.later g4).bare' (hSc0_0.later ((hF.trans g4).with hBm4))).mono ?_
     rintro e w4' ⟨A4_0, c4_0, rfl, hf4, hWc4, hO4_0, hq4_0⟩
     refine ⟨((A4_0, s4_0.length, c4_0), ()), rfl, hf4, fun g4' hid4 hv4 => ?_⟩
     try dsimp only
     have hSc4_0 : SlR R23.row (f0_stream.S a0) w A0_0 c0_0 qc4.1 := by rw [hq4_0]; exact hSc0_0
     have dk4_o74 : Dj A4_0 a0 := Dj.new hO4_0.fresh (fun b hb => Nat.lt_of_lt_of_le (hBv4 b hb).2 g4.size)
     have hmc4 := hmc0
     have hWc4 := hWc4.vis (fun b hb => hv4 b (Or.inl hb))
     have hO4_0 := hO4_0.call (hF.trans g4).size lt4
     have hF := Fine.own hF g4' hBm4 hid4
     obtain rfl := Option.some.inj h
     have homes := fun (b : Nat) (h : b < w.heap.size) => h
     intro ρ L w' _ he _ _
     exact ⟨A4_0, c4_0, none, 0, rfl, (hF.ext he).with (fun b h => Or.inl h), (hWc4.later he.fine).bare', (hO4_0.later he.fine).ret, OwnF.ret (OwnF.nil _ (fun _ => False) _ _ _), Dj.nil2, (hq4_0.trans (hq0_0.trans rfl))⟩
    ·have h := bif_f h hc73
     obtain ⟨r3, hr3, h⟩ := bse h
     rcases r3 with z3 | r3
     ·try dsimp only at h
      obtain rfl := Option.some.inj h
      refine ok_callp rfl (fun L3 w3 g3 lt3 => ?_)
      refine (frames_needs.c k false 7 a2 _ hr3  w3 ).mono ?_
      rintro e w3' ⟨rfl, hb3⟩
      exact ⟨_, rfl, rfl, ((hF.trans g3).step hb3).with (fun b h => Or.inl h)⟩
     try dsimp only at h
     refine ok_callm rfl (fun L3 w3 g3 lt3 => ?_)
     refine (frames_needs.c k false 7 a2 (.ok r3) hr3  w3 ).mono ?_
     rintro e w3' ⟨rfl, hb3⟩
     refine ⟨(()), rfl, hb3, fun g3' => ?_⟩
     try dsimp only
     have hF := hF.trans g3'
     have hWc0 := hWc0.later g3'
     obtain ⟨r4, hr4, h⟩ := bse h
     have hBv4 : ∀ b, (f0_take.S a0) b → ¬ _ ∧ b < _ := fun b hb => by exact ⟨(hWc0.lt b hb).2.1, hWc0.lt1 b hb⟩
     have hBm4 : ∀ b, (f0_take.S a0) b → (f0_stream.S a0) b ∨ w.heap.size ≤ b := fun b hb => by exact hmc0 b hb
     rcases r4 with z4 | r4
     ·try dsimp only at h
      obtain rfl := Option.some.inj h
      refine ok_callp rfl (fun L4 w4 g4 lt4 => ?_)
      refine (f0_take.c k _ qc0 _ _ (IntKind.i64.wrap ((((qc0.1).length : Nat) : Int) - qc0.2)) _ hr4  w4 (hWc0.later g4).bare' (hSc0_0.later ((hF.trans g4).with hBm4))).mono ?_
      rintro e w4' ⟨rfl, hf4⟩
      exact ⟨_, rfl, rfl, (hF.trans g4).past hf4 hBm4⟩
     try dsimp only at h
     obtain ⟨s4_0, qc4⟩ := r4
     try dsimp only at h
     refine ok_callo (f0_take.S a0) rfl hBv4 (fun L4 w4 g4 lt4 => ?_)
     refine (f0_take.c k _ qc0 _ _ (IntKind.i64.wrap ((((qc0.1).length : Nat) : Int) - qc0.2)) (.ok (s4_0, qc4)) hr4  w4 (hWc0.later g4).bare' (hSc0_0.later ((hF.trans g4).with hBm4))).mono ?_
     rintro e w4' ⟨A4_0, c4_0, rfl, hf4, hWc4, hO4_0, hq4_0⟩
     refine ⟨((A4_0, s4_0.length, c4_0), ()), rfl, hf4, fun g4' hid4 hv4 => ?_⟩
     try dsimp only
     have hSc4_0 : SlR R23.row (f0_stream.S a0) w A0_0 c0_0 qc4.1 := by rw [hq4_0]; exact hSc0_0
     have dk4_o77 : Dj A4_0 a0 := Dj.new hO4_0.fresh (fun b hb => Nat.lt_of_lt_of_le (hBv4 b hb).2 g4.size)
     have hmc4 := hmc0
     have hWc4 := hWc4.vis (fun b hb => hv4 b (Or.inl hb))
     have hO4_0 := hO4_0.call (hF.trans g4).size lt4
     have hF := Fine.own hF g4' hBm4 hid4
     obtain rfl := Option.some.inj h
     have homes := fun (b : Nat) (h : b < w.heap.size) => h
     intro ρ L w' _ he _ _
     exact ⟨A4_0, c4_0, none, 0, rfl, (hF.ext he).with (fun b h => Or.inl h), (hWc4.later he.fine).bare', (hO4_0.later he.fine).ret, OwnF.ret (OwnF.nil _ (fun _ => False) _ _ _), Dj.nil2, (hq4_0.trans (hq0_0.trans rfl))⟩
end Go.Proofs.Ytpdchohbmmfemaa.X
