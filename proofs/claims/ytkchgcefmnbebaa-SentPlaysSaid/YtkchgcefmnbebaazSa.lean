import Derived.Test.YtkchgcefmnbebaazRxU
import Derived.Test.YtkchgcefmnbebaazRxSeat
import Derived.Test.YtkchgcefmnbebaaProg
import Derived.Test.YtkchgcefmnbebaazRx32
namespace Go.Proofs.Ytkchgcefmnbebaa.X
open Go Go.RowKit Go.Proofs.YtkchgcefmnbebaaW.Rx
set_option linter.unusedVariables false
set_option linter.unusedSimpArgs false
set_option maxRecDepth 10000
@[reducible] def R25 : FRow (Int × Int × Int) := ⟨3, by decide, fun x => [Value.int IntKind.i64 x.1, Value.int IntKind.i64 x.2.1, Value.int IntKind.i64 x.2.2], fun _ => rfl, fun x u h => by
 simp only [List.mem_cons, List.not_mem_nil, or_false] at h
 rcases h with rfl | rfl | rfl <;> rfl⟩
theorem E25 : Elem Try.prog 25 66 3 24 := ⟨rfl, _, _, rfl, rfl, rfl, rfl, rfl⟩
@[reducible] def R30 : FRow (Int × Int) := ⟨2, by decide, fun x => [Value.int IntKind.i64 x.1, Value.int IntKind.i64 x.2], fun _ => rfl, fun x u h => by
 simp only [List.mem_cons, List.not_mem_nil, or_false] at h
 rcases h with rfl | rfl <;> rfl⟩
theorem E30 : Elem Try.prog 30 63 2 16 := ⟨rfl, _, _, rfl, rfl, rfl, rfl, rfl⟩
@[reducible] def R36 : FRow (Int × Int × Int) := ⟨3, by decide, fun x => [Value.int IntKind.i64 x.1, Value.int IntKind.i64 x.2.1, Value.int IntKind.i64 x.2.2], fun _ => rfl, fun x u h => by
 simp only [List.mem_cons, List.not_mem_nil, or_false] at h
 rcases h with rfl | rfl | rfl <;> rfl⟩
@[reducible] def R22 : Row (Int × Int × Int × Int × Int × (List (Int × Int))) := ⟨6, by decide, fun L w x cs => ∃ (A5 : Option Addr) (n5 c5 : Nat), cs = [Value.int IntKind.u8 x.1, Value.int IntKind.i64 x.2.1, Value.int IntKind.i64 x.2.2.1, Value.int IntKind.i64 x.2.2.2.1, Value.int IntKind.i64 x.2.2.2.2.1, Lf.V .sl (A5, n5, c5)] ∧ n5 = (x.2.2.2.2.2).length ∧ SlR R30.row L w A5 c5 x.2.2.2.2.2,
 fun ⟨A5, n5, c5, e, m5, h5⟩ => by rw [e]; rfl, fun ⟨A5, n5, c5, e, m5, h5⟩ g => ⟨A5, n5, c5, e, m5, h5.later g⟩, fun ⟨A5, n5, c5, e, m5, h5⟩ g => ⟨A5, n5, c5, e, m5, h5.mono g⟩, fun ⟨A5, n5, c5, e, m5, h5⟩ u hu => by
  rw [e] at hu
  simp only [List.mem_cons, List.not_mem_nil, or_false] at hu
  rcases hu with rfl | rfl | rfl | rfl | rfl | rfl <;> rfl⟩
@[reducible] def R60 : Row ((List (Int × Int × Int))) := ⟨1, by decide, fun L w x cs => ∃ (A0 : Option Addr) (n0 c0 : Nat), cs = [Lf.V .sl (A0, n0, c0)] ∧ n0 = (x).length ∧ SlR R36.row L w A0 c0 x,
 fun ⟨A0, n0, c0, e, m0, h0⟩ => by rw [e]; rfl, fun ⟨A0, n0, c0, e, m0, h0⟩ g => ⟨A0, n0, c0, e, m0, h0.later g⟩, fun ⟨A0, n0, c0, e, m0, h0⟩ g => ⟨A0, n0, c0, e, m0, h0.mono g⟩, fun ⟨A0, n0, c0, e, m0, h0⟩ u hu => by
  rw [e] at hu
  simp only [List.mem_cons, List.not_mem_nil, or_false] at hu
  rcases hu with rfl <;> rfl⟩
@[reducible] def R9027 : Row ((List (Int × Int × Int)) × Int × Int × Int) := ⟨4, by decide, fun L w x cs => ∃ (A0 : Option Addr) (n0 c0 : Nat), cs = [Lf.V .sl (A0, n0, c0), Value.int IntKind.i64 x.2.1, Value.int IntKind.i64 x.2.2.1, Value.int IntKind.i64 x.2.2.2] ∧ n0 = (x.1).length ∧ SlR R25.row L w A0 c0 x.1,
 fun ⟨A0, n0, c0, e, m0, h0⟩ => by rw [e]; rfl, fun ⟨A0, n0, c0, e, m0, h0⟩ g => ⟨A0, n0, c0, e, m0, h0.later g⟩, fun ⟨A0, n0, c0, e, m0, h0⟩ g => ⟨A0, n0, c0, e, m0, h0.mono g⟩, fun ⟨A0, n0, c0, e, m0, h0⟩ u hu => by
  rw [e] at hu
  simp only [List.mem_cons, List.not_mem_nil, or_false] at hu
  rcases hu with rfl | rfl | rfl | rfl <;> rfl⟩
@[reducible] def RW27 : FRow ((Option Addr × Nat × Nat) × Int × Int × Int) := ⟨4, by decide, fun x => [Lf.V .sl (x.1), Value.int IntKind.i64 x.2.1, Value.int IntKind.i64 x.2.2.1, Value.int IntKind.i64 x.2.2.2], fun _ => rfl, fun x u h => by
 simp only [List.mem_cons, List.not_mem_nil, or_false] at h
 rcases h with rfl | rfl | rfl | rfl <;> rfl⟩
def sent_isTime.F (k : Nat) (a0 : Int) : Option Bool := bif decide (0 ≤ a0) then (bif decide (a0 ≤ 1099511627776) then (some true) else (some false)) else (some false)
abbrev sent_isTime.A : Nat → LA := noA
set_option maxHeartbeats 4000000 in
theorem sent_isTime.t (a0 : Int) : tree Try.prog sent_isTime.A noC Try.f27 [AV.v (.int .i64 a0)] [] =
  bif decide (0 ≤ a0) then (
   bif decide (a0 ≤ 1099511627776) then (
    .done (AV.v (Value.bool true)) ([]))
   else (
    .done (AV.v (Value.bool false)) ([])))
  else (
   .done (AV.v (Value.bool false)) ([])) := by kernel_rfl
set_option maxHeartbeats 4000000 in
theorem sent_isTime.c (k : Nat) (a0 : Int) (r : Bool) (h : sent_isTime.F k a0 = some r)  (w : World)  : Calls Try.prog 27 (AV.gs id [AV.v (.int .i64 a0)]).toArray w fun e w' => e = .returned (((Sh.one : Sh).av (vs [Lf.b] (r, ()))).g id) ∧ Below w.heap.size w w' := by
 refine enter0 mixed sent_isTime.A noC [AV.v (.int .i64 a0)] Try.func27 rfl rfl rfl (fun hF => ?_)
 rw [sent_isTime.t]
 unfold sent_isTime.F at h
 try dsimp only at h
 refine ok_if (fun hc1 => ?_) (fun hc1 => ?_)
 ·have h := bif_t h hc1
  refine ok_if (fun hc2 => ?_) (fun hc2 => ?_)
  ·have h := bif_t h hc2
   obtain rfl := Option.some.inj h
   intro ρ L w' _ he _ _
   exact ⟨rfl, (hF.ext he).below⟩
  ·have h := bif_f h hc2
   obtain rfl := Option.some.inj h
   intro ρ L w' _ he _ _
   exact ⟨rfl, (hF.ext he).below⟩
 ·have h := bif_f h hc1
  obtain rfl := Option.some.inj h
  intro ρ L w' _ he _ _
  exact ⟨rfl, (hF.ext he).below⟩
def ref08_time.F (k : Nat) (a0 : Int) : Option Bool := bif decide (0 ≤ a0) then (bif decide (a0 ≤ 1099511627776) then (some true) else (some false)) else (some false)
abbrev ref08_time.A : Nat → LA := noA
set_option maxHeartbeats 4000000 in
theorem ref08_time.t (a0 : Int) : tree Try.prog ref08_time.A noC Try.f28 [AV.v (.int .i64 a0)] [] =
  bif decide (0 ≤ a0) then (
   bif decide (a0 ≤ 1099511627776) then (
    .done (AV.v (Value.bool true)) ([]))
   else (
    .done (AV.v (Value.bool false)) ([])))
  else (
   .done (AV.v (Value.bool false)) ([])) := by kernel_rfl
set_option maxHeartbeats 4000000 in
theorem ref08_time.c (k : Nat) (a0 : Int) (r : Bool) (h : ref08_time.F k a0 = some r)  (w : World)  : Calls Try.prog 28 (AV.gs id [AV.v (.int .i64 a0)]).toArray w fun e w' => e = .returned (((Sh.one : Sh).av (vs [Lf.b] (r, ()))).g id) ∧ Below w.heap.size w w' := by
 refine enter0 mixed ref08_time.A noC [AV.v (.int .i64 a0)] Try.func28 rfl rfl rfl (fun hF => ?_)
 rw [ref08_time.t]
 unfold ref08_time.F at h
 try dsimp only at h
 refine ok_if (fun hc1 => ?_) (fun hc1 => ?_)
 ·have h := bif_t h hc1
  refine ok_if (fun hc2 => ?_) (fun hc2 => ?_)
  ·have h := bif_t h hc2
   obtain rfl := Option.some.inj h
   intro ρ L w' _ he _ _
   exact ⟨rfl, (hF.ext he).below⟩
  ·have h := bif_f h hc2
   obtain rfl := Option.some.inj h
   intro ρ L w' _ he _ _
   exact ⟨rfl, (hF.ext he).below⟩
 ·have h := bif_f h hc1
  obtain rfl := Option.some.inj h
  intro ρ L w' _ he _ _
  exact ⟨rfl, (hF.ext he).below⟩
def sent_isWait.F (k : Nat) (a0 : Int) (a1 : Int) : Option Bool := (sent_isTime.F k a0).bind fun v0_0 => bif v0_0 then ((sent_isTime.F k a1).bind fun v1_0 => bif v1_0 then (bif decide (0 < a1) then (some true) else (some false)) else (some false)) else (some false)
abbrev sent_isWait.A : Nat → LA := noA
set_option maxHeartbeats 4000000 in
theorem sent_isWait.t (a0 : Int) (a1 : Int) : tree Try.prog sent_isWait.A noC Try.f30 [AV.v (.int .i64 a0), AV.v (.int .i64 a1)] [] =
  .call 27 ([AV.v (.int .i64 a0)]) ([]) (Sh.one) ([Lf.b]) ([]) (fun x0 =>
   bif x0.1 then (
    .call 27 ([AV.v (.int .i64 a1)]) ([]) (Sh.one) ([Lf.b]) ([]) (fun x1 =>
     bif x1.1 then (
      bif decide (0 < a1) then (
       .done (AV.v (Value.bool true)) ([]))
      else (
       .done (AV.v (Value.bool false)) ([])))
     else (
      .done (AV.v (Value.bool false)) ([]))))
   else (
    .done (AV.v (Value.bool false)) ([]))) := by kernel_rfl
set_option maxHeartbeats 4000000 in
theorem sent_isWait.c (k : Nat) (a0 : Int) (a1 : Int) (r : Bool) (h : sent_isWait.F k a0 a1 = some r)  (w : World)  : Calls Try.prog 30 (AV.gs id [AV.v (.int .i64 a0), AV.v (.int .i64 a1)]).toArray w fun e w' => e = .returned (((Sh.one : Sh).av (vs [Lf.b] (r, ()))).g id) ∧ Below w.heap.size w w' := by
 refine enter0 mixed sent_isWait.A noC [AV.v (.int .i64 a0), AV.v (.int .i64 a1)] Try.func30 rfl rfl rfl (fun hF => ?_)
 rw [sent_isWait.t]
 unfold sent_isWait.F at h
 try dsimp only at h
 obtain ⟨v0_0, hr0, h⟩ := bse h
 refine ok_callm rfl (fun L0 w0 g0 lt0 => ?_)
 refine (sent_isTime.c k a0 v0_0 hr0  w0 ).mono ?_
 rintro e w0' ⟨rfl, hb0⟩
 refine ⟨(v0_0, ()), rfl, hb0, fun g0' => ?_⟩
 try dsimp only
 have hF := hF.trans g0'
 refine ok_if (fun hc1 => ?_) (fun hc1 => ?_)
 ·have h := bif_t h hc1
  obtain ⟨v1_0, hr1, h⟩ := bse h
  refine ok_callm rfl (fun L1 w1 g1 lt1 => ?_)
  refine (sent_isTime.c k a1 v1_0 hr1  w1 ).mono ?_
  rintro e w1' ⟨rfl, hb1⟩
  refine ⟨(v1_0, ()), rfl, hb1, fun g1' => ?_⟩
  try dsimp only
  have hF := hF.trans g1'
  refine ok_if (fun hc2 => ?_) (fun hc2 => ?_)
  ·have h := bif_t h hc2
   refine ok_if (fun hc3 => ?_) (fun hc3 => ?_)
   ·have h := bif_t h hc3
    obtain rfl := Option.some.inj h
    intro ρ L w' _ he _ _
    exact ⟨rfl, (hF.ext he).below⟩
   ·have h := bif_f h hc3
    obtain rfl := Option.some.inj h
    intro ρ L w' _ he _ _
    exact ⟨rfl, (hF.ext he).below⟩
  ·have h := bif_f h hc2
   obtain rfl := Option.some.inj h
   intro ρ L w' _ he _ _
   exact ⟨rfl, (hF.ext he).below⟩
 ·have h := bif_f h hc1
  obtain rfl := Option.some.inj h
  intro ρ L w' _ he _ _
  exact ⟨rfl, (hF.ext he).below⟩
def ref08_waits.F (k : Nat) (a0 : Int) (a1 : Int) : Option Bool := (ref08_time.F k a0).bind fun v0_0 => bif v0_0 then (bif decide (1 ≤ a1) then (bif decide (a1 ≤ 1099511627776) then (some true) else (some false)) else (some false)) else (some false)
abbrev ref08_waits.A : Nat → LA := noA
set_option maxHeartbeats 4000000 in
theorem ref08_waits.t (a0 : Int) (a1 : Int) : tree Try.prog ref08_waits.A noC Try.f35 [AV.v (.int .i64 a0), AV.v (.int .i64 a1)] [] =
  .call 28 ([AV.v (.int .i64 a0)]) ([]) (Sh.one) ([Lf.b]) ([]) (fun x0 =>
   bif x0.1 then (
    bif decide (1 ≤ a1) then (
     bif decide (a1 ≤ 1099511627776) then (
      .done (AV.v (Value.bool true)) ([]))
     else (
      .done (AV.v (Value.bool false)) ([])))
    else (
     .done (AV.v (Value.bool false)) ([])))
   else (
    .done (AV.v (Value.bool false)) ([]))) := by kernel_rfl
set_option maxHeartbeats 4000000 in
theorem ref08_waits.c (k : Nat) (a0 : Int) (a1 : Int) (r : Bool) (h : ref08_waits.F k a0 a1 = some r)  (w : World)  : Calls Try.prog 35 (AV.gs id [AV.v (.int .i64 a0), AV.v (.int .i64 a1)]).toArray w fun e w' => e = .returned (((Sh.one : Sh).av (vs [Lf.b] (r, ()))).g id) ∧ Below w.heap.size w w' := by
 refine enter0 mixed ref08_waits.A noC [AV.v (.int .i64 a0), AV.v (.int .i64 a1)] Try.func35 rfl rfl rfl (fun hF => ?_)
 rw [ref08_waits.t]
 unfold ref08_waits.F at h
 try dsimp only at h
 obtain ⟨v0_0, hr0, h⟩ := bse h
 refine ok_callm rfl (fun L0 w0 g0 lt0 => ?_)
 refine (ref08_time.c k a0 v0_0 hr0  w0 ).mono ?_
 rintro e w0' ⟨rfl, hb0⟩
 refine ⟨(v0_0, ()), rfl, hb0, fun g0' => ?_⟩
 try dsimp only
 have hF := hF.trans g0'
 refine ok_if (fun hc1 => ?_) (fun hc1 => ?_)
 ·have h := bif_t h hc1
  refine ok_if (fun hc2 => ?_) (fun hc2 => ?_)
  ·have h := bif_t h hc2
   refine ok_if (fun hc3 => ?_) (fun hc3 => ?_)
   ·have h := bif_t h hc3
    obtain rfl := Option.some.inj h
    intro ρ L w' _ he _ _
    exact ⟨rfl, (hF.ext he).below⟩
   ·have h := bif_f h hc3
    obtain rfl := Option.some.inj h
    intro ρ L w' _ he _ _
    exact ⟨rfl, (hF.ext he).below⟩
  ·have h := bif_f h hc2
   obtain rfl := Option.some.inj h
   intro ρ L w' _ he _ _
   exact ⟨rfl, (hF.ext he).below⟩
 ·have h := bif_f h hc1
  obtain rfl := Option.some.inj h
  intro ρ L w' _ he _ _
  exact ⟨rfl, (hF.ext he).below⟩
def spans_isSpan.F (k : Nat) (a0 : Int) (a1 : Int) : Option Bool := bif decide (0 ≤ a0) then (bif decide (a0 ≤ a1) then (bif decide (a1 ≤ 4611686018427387903) then (some true) else (some false)) else (some false)) else (some false)
abbrev spans_isSpan.A : Nat → LA := noA
set_option maxHeartbeats 4000000 in
theorem spans_isSpan.t (a0 : Int) (a1 : Int) : tree Try.prog spans_isSpan.A noC Try.f43 [AV.v (.int .i64 a0), AV.v (.int .i64 a1)] [] =
  bif decide (0 ≤ a0) then (
   bif decide (a0 ≤ a1) then (
    bif decide (a1 ≤ 4611686018427387903) then (
     .done (AV.v (Value.bool true)) ([]))
    else (
     .done (AV.v (Value.bool false)) ([])))
   else (
    .done (AV.v (Value.bool false)) ([])))
  else (
   .done (AV.v (Value.bool false)) ([])) := by kernel_rfl
set_option maxHeartbeats 4000000 in
theorem spans_isSpan.c (k : Nat) (a0 : Int) (a1 : Int) (r : Bool) (h : spans_isSpan.F k a0 a1 = some r)  (w : World)  : Calls Try.prog 43 (AV.gs id [AV.v (.int .i64 a0), AV.v (.int .i64 a1)]).toArray w fun e w' => e = .returned (((Sh.one : Sh).av (vs [Lf.b] (r, ()))).g id) ∧ Below w.heap.size w w' := by
 refine enter0 mixed spans_isSpan.A noC [AV.v (.int .i64 a0), AV.v (.int .i64 a1)] Try.func43 rfl rfl rfl (fun hF => ?_)
 rw [spans_isSpan.t]
 unfold spans_isSpan.F at h
 try dsimp only at h
 refine ok_if (fun hc1 => ?_) (fun hc1 => ?_)
 ·have h := bif_t h hc1
  refine ok_if (fun hc2 => ?_) (fun hc2 => ?_)
  ·have h := bif_t h hc2
   refine ok_if (fun hc3 => ?_) (fun hc3 => ?_)
   ·have h := bif_t h hc3
    obtain rfl := Option.some.inj h
    intro ρ L w' _ he _ _
    exact ⟨rfl, (hF.ext he).below⟩
   ·have h := bif_f h hc3
    obtain rfl := Option.some.inj h
    intro ρ L w' _ he _ _
    exact ⟨rfl, (hF.ext he).below⟩
  ·have h := bif_f h hc2
   obtain rfl := Option.some.inj h
   intro ρ L w' _ he _ _
   exact ⟨rfl, (hF.ext he).below⟩
 ·have h := bif_f h hc1
  obtain rfl := Option.some.inj h
  intro ρ L w' _ he _ _
  exact ⟨rfl, (hF.ext he).below⟩
def ref05_Span.F (k : Nat) (a0 : Int) (a1 : Int) : Option Bool := bif decide (0 ≤ a0) then (bif decide (a0 ≤ a1) then (bif decide (a1 ≤ 4611686018427387903) then (some true) else (some false)) else (some false)) else (some false)
abbrev ref05_Span.A : Nat → LA := noA
set_option maxHeartbeats 4000000 in
theorem ref05_Span.t (a0 : Int) (a1 : Int) : tree Try.prog ref05_Span.A noC Try.f49 [AV.v (.int .i64 a0), AV.v (.int .i64 a1)] [] =
  bif decide (0 ≤ a0) then (
   bif decide (a0 ≤ a1) then (
    bif decide (a1 ≤ 4611686018427387903) then (
     .done (AV.v (Value.bool true)) ([]))
    else (
     .done (AV.v (Value.bool false)) ([])))
   else (
    .done (AV.v (Value.bool false)) ([])))
  else (
   .done (AV.v (Value.bool false)) ([])) := by kernel_rfl
set_option maxHeartbeats 4000000 in
theorem ref05_Span.c (k : Nat) (a0 : Int) (a1 : Int) (r : Bool) (h : ref05_Span.F k a0 a1 = some r)  (w : World)  : Calls Try.prog 49 (AV.gs id [AV.v (.int .i64 a0), AV.v (.int .i64 a1)]).toArray w fun e w' => e = .returned (((Sh.one : Sh).av (vs [Lf.b] (r, ()))).g id) ∧ Below w.heap.size w w' := by
 refine enter0 mixed ref05_Span.A noC [AV.v (.int .i64 a0), AV.v (.int .i64 a1)] Try.func49 rfl rfl rfl (fun hF => ?_)
 rw [ref05_Span.t]
 unfold ref05_Span.F at h
 try dsimp only at h
 refine ok_if (fun hc1 => ?_) (fun hc1 => ?_)
 ·have h := bif_t h hc1
  refine ok_if (fun hc2 => ?_) (fun hc2 => ?_)
  ·have h := bif_t h hc2
   refine ok_if (fun hc3 => ?_) (fun hc3 => ?_)
   ·have h := bif_t h hc3
    obtain rfl := Option.some.inj h
    intro ρ L w' _ he _ _
    exact ⟨rfl, (hF.ext he).below⟩
   ·have h := bif_f h hc3
    obtain rfl := Option.some.inj h
    intro ρ L w' _ he _ _
    exact ⟨rfl, (hF.ext he).below⟩
  ·have h := bif_f h hc2
   obtain rfl := Option.some.inj h
   intro ρ L w' _ he _ _
   exact ⟨rfl, (hF.ext he).below⟩
 ·have h := bif_f h hc1
  obtain rfl := Option.some.inj h
  intro ρ L w' _ he _ _
  exact ⟨rfl, (hF.ext he).below⟩
def spans_Right.s0 (k : Nat) (l0 : List (Int × Int)) : (Int × Int) → Option (Sum (Int × Int) Bool) := fun (v0_0, v0_1) => bif decide (v0_1 < ((l0.length : Nat) : Int)) then ((getI l0 v0_1).bind fun r3 => bif decide (r3.1 < v0_0) then (some (.inr false)) else ((spans_isSpan.F k r3.1 r3.2).bind fun v2_0 => bif v2_0 then (some (.inl ((IntKind.i64.wrap (r3.2 + 2), IntKind.i64.wrap (v0_1 + 1))))) else (some (.inr false)))) else (bif decide (((l0.length : Nat) : Int) ≤ 256) then (some (.inr true)) else (some (.inr false)))
def spans_Right.F (k : Nat) (l0 : List (Int × Int)) : Option Bool := iter (spans_Right.s0 k l0) k (0, 0)
abbrev spans_Right.A : Nat → LA := fun r => if r = 3 then ⟨[(3, false, [Lf.i .i64]), (8, false, [Lf.i .i64])], []⟩ else ⟨[], []⟩
set_option maxHeartbeats 4000000 in
theorem spans_Right.t (A0 : Option Addr) (n0 c0 : Nat) : tree Try.prog spans_Right.A noC Try.f29 [AV.v (Value.slice A0 n0 c0)] [] =
  .loop ([Lf.i .i64, Lf.i .i64]) ((0, 0, PUnit.unit)) 0 (fun x0 =>
   bif decide (x0.2.1 < ((n0 : Nat) : Int)) then (
    .need (decide (0 ≤ x0.2.1) && decide (x0.2.1 < ((n0 : Nat) : Int)) && Option.isSome A0) (
    .ld (Option.map (fun x => Addr.add x (Int.toNat x0.2.1 * 2)) A0) ([Lf.i .i64, Lf.i .i64]) (fun x1 =>
     bif decide (x1.1 < x0.1) then (
      .done (AV.v (Value.bool false)) ([]))
     else (
      .call 43 ([AV.v (.int .i64 x1.1), AV.v (.int .i64 x1.2.1)]) ([]) (Sh.one) ([Lf.b]) ([]) (fun x2 =>
       bif x2.1 then (
        .again 0 ([Lf.i .i64, Lf.i .i64]) ((IntKind.i64.wrap (x1.2.1 + 2), IntKind.i64.wrap (x0.2.1 + 1), PUnit.unit)))
       else (
        .done (AV.v (Value.bool false)) ([])))))))
   else (
    bif decide (((n0 : Nat) : Int) ≤ 256) then (
     .done (AV.v (Value.bool true)) ([]))
    else (
     .done (AV.v (Value.bool false)) ([])))) := by kernel_rfl
set_option maxHeartbeats 4000000 in
theorem spans_Right.c (k : Nat) (A0 : Option Addr) (n0 c0 : Nat) (l0 : List (Int × Int)) (r : Bool) (h : spans_Right.F k l0 = some r) (hn0 : n0 = l0.length) (w : World) (hS0 : SlR R30.row (fun _ => False) w A0 c0 l0) : Calls Try.prog 29 (AV.gs id [AV.v (Value.slice A0 n0 c0)]).toArray w fun e w' => e = .returned (((Sh.one : Sh).av (vs [Lf.b] (r, ()))).g id) ∧ Below w.heap.size w w' := by
 subst hn0
 refine enter0 mixed spans_Right.A noC [AV.v (Value.slice A0 l0.length c0)] Try.func29 rfl rfl rfl (fun hF => ?_)
 rw [spans_Right.t]
 unfold spans_Right.F at h
 try dsimp only at h
 obtain ⟨I0, hI0⟩ : ∃ I : Nat → Tup [Lf.i .i64, Lf.i .i64] → (Nat → Prop) → World → Prop, I = (fun m_ y L w' => ∃ (v0_0 : Int) (v0_1 : Int), y = (v0_0, v0_1, ()) ∧ iter (spans_Right.s0 k l0) m_ (v0_0, v0_1) = some r ∧ Fine (fun _ => False) w L w') := ⟨_, rfl⟩
 refine ok_loop I0 k (by rw [hI0]; exact ⟨_, _, rfl, h, hF⟩) ?_
 clear h
 intro m_ y L0 w0 hy
 rw [hI0] at hy
 obtain ⟨v0_0, v0_1, rfl, h, hF⟩ := hy
 obtain ⟨m0, o0, rfl, h, hl0, hr_0⟩ := iter_some h
 unfold spans_Right.s0 at h
 try dsimp only at h
 try dsimp only
 refine ok_if (fun hc2 => ?_) (fun hc2 => ?_)
 ·have h := bif_t h hc2
  obtain ⟨r3, hr4, h⟩ := bse h
  refine ok_need (getI_need (hS0.later hF) hr4) ?_
  refine ok_get hS0 hF hr4 (by simp) (fun cs hcs => ⟨(r3.1, r3.2, ()), hcs.symm, ?_⟩)
  try dsimp only
  refine ok_if (fun hc5 => ?_) (fun hc5 => ?_)
  ·have h := bif_t h hc5
   obtain rfl := Option.some.inj h
   obtain rfl := hr_0 _ rfl
   intro ρ L w' _ he _ _
   exact ⟨rfl, (hF.ext he).below⟩
  ·have h := bif_f h hc5
   obtain ⟨v2_0, hr2, h⟩ := bse h
   refine ok_callm rfl (fun L2 w2 g2 lt2 => ?_)
   refine (spans_isSpan.c k r3.1 r3.2 v2_0 hr2  w2 ).mono ?_
   rintro e w2' ⟨rfl, hb2⟩
   refine ⟨(v2_0, ()), rfl, hb2, fun g2' => ?_⟩
   try dsimp only
   have hF := hF.trans g2'
   refine ok_if (fun hc6 => ?_) (fun hc6 => ?_)
   ·have h := bif_t h hc6
    obtain rfl := Option.some.inj h
    have h := hl0 _ rfl
    exact ok_again (I := I0) m0 (Nat.lt_succ_self _) (fun L w' he => by rw [hI0]; exact ⟨_, _, rfl, h, hF.trans he.fine⟩)
   ·have h := bif_f h hc6
    obtain rfl := Option.some.inj h
    obtain rfl := hr_0 _ rfl
    intro ρ L w' _ he _ _
    exact ⟨rfl, (hF.ext he).below⟩
 ·have h := bif_f h hc2
  refine ok_if (fun hc7 => ?_) (fun hc7 => ?_)
  ·have h := bif_t h hc7
   obtain rfl := Option.some.inj h
   obtain rfl := hr_0 _ rfl
   intro ρ L w' _ he _ _
   exact ⟨rfl, (hF.ext he).below⟩
  ·have h := bif_f h hc7
   obtain rfl := Option.some.inj h
   obtain rfl := hr_0 _ rfl
   intro ρ L w' _ he _ _
   exact ⟨rfl, (hF.ext he).below⟩
def ref05_rows.s0 (k : Nat) (l0 : List (Int × Int)) : Int → Option (Sum Int Bool) := fun v0_0 => bif decide (v0_0 < ((l0.length : Nat) : Int)) then ((getI l0 v0_0).bind fun r3 => (getI l0 v0_0).bind fun r5 => (ref05_Span.F k r3.1 r5.2).bind fun v3_0 => bif v3_0 then (bif decide (0 < v0_0) then ((getI l0 v0_0).bind fun r9 => (getI l0 (IntKind.i64.wrap (v0_0 - 1))).bind fun r11 => bif decide (IntKind.i64.wrap (r9.1 - 1) ≤ r11.2) then (some (.inr false)) else (some (.inl (IntKind.i64.wrap (v0_0 + 1))))) else (some (.inl (IntKind.i64.wrap (v0_0 + 1))))) else (some (.inr false))) else (some (.inr true))
def ref05_rows.F (k : Nat) (l0 : List (Int × Int)) : Option Bool := iter (ref05_rows.s0 k l0) k 0
abbrev ref05_rows.A : Nat → LA := fun r => if r = 2 then ⟨[(3, false, [Lf.i .i64])], []⟩ else ⟨[], []⟩
set_option maxHeartbeats 4000000 in
theorem ref05_rows.t (A0 : Option Addr) (n0 c0 : Nat) : tree Try.prog ref05_rows.A noC Try.f46 [AV.v (Value.slice A0 n0 c0)] [] =
  .loop ([Lf.i .i64]) ((0, PUnit.unit)) 0 (fun x0 =>
   bif decide (x0.1 < ((n0 : Nat) : Int)) then (
    .need (decide (0 ≤ x0.1) && decide (x0.1 < ((n0 : Nat) : Int)) && Option.isSome A0) (
    .need (Option.isSome (Option.map (fun x => Addr.add x (Int.toNat x0.1 * 2)) A0)) (
    .ld (Option.map (fun x => Addr.add x 0) (Option.map (fun x => Addr.add x (Int.toNat x0.1 * 2)) A0)) ([Lf.i .i64]) (fun x1 =>
     .need (decide (0 ≤ x0.1) && decide (x0.1 < ((n0 : Nat) : Int)) && Option.isSome A0) (
     .need (Option.isSome (Option.map (fun x => Addr.add x (Int.toNat x0.1 * 2)) A0)) (
     .ld (Option.map (fun x => Addr.add x 1) (Option.map (fun x => Addr.add x (Int.toNat x0.1 * 2)) A0)) ([Lf.i .i64]) (fun x2 =>
      .call 49 ([AV.v (.int .i64 x1.1), AV.v (.int .i64 x2.1)]) ([]) (Sh.one) ([Lf.b]) ([]) (fun x3 =>
       bif x3.1 then (
        bif decide (0 < x0.1) then (
         .need (decide (0 ≤ x0.1) && decide (x0.1 < ((n0 : Nat) : Int)) && Option.isSome A0) (
         .need (Option.isSome (Option.map (fun x => Addr.add x (Int.toNat x0.1 * 2)) A0)) (
         .ld (Option.map (fun x => Addr.add x 0) (Option.map (fun x => Addr.add x (Int.toNat x0.1 * 2)) A0)) ([Lf.i .i64]) (fun x4 =>
          .need (decide (0 ≤ IntKind.i64.wrap (x0.1 - 1)) && decide (IntKind.i64.wrap (x0.1 - 1) < ((n0 : Nat) : Int)) && Option.isSome A0) (
          .need (Option.isSome (Option.map (fun x => Addr.add x (Int.toNat (IntKind.i64.wrap (x0.1 - 1)) * 2)) A0)) (
          .ld (Option.map (fun x => Addr.add x 1) (Option.map (fun x => Addr.add x (Int.toNat (IntKind.i64.wrap (x0.1 - 1)) * 2)) A0)) ([Lf.i .i64]) (fun x5 =>
           bif decide (IntKind.i64.wrap (x4.1 - 1) ≤ x5.1) then (
            .done (AV.v (Value.bool false)) ([]))
           else (
            .again 0 ([Lf.i .i64]) ((IntKind.i64.wrap (x0.1 + 1), PUnit.unit))))))))))
        else (
         .again 0 ([Lf.i .i64]) ((IntKind.i64.wrap (x0.1 + 1), PUnit.unit))))
       else (
        .done (AV.v (Value.bool false)) ([]))))))))))
   else (
    .done (AV.v (Value.bool true)) ([]))) := by kernel_rfl
set_option maxHeartbeats 4000000 in
theorem ref05_rows.c (k : Nat) (A0 : Option Addr) (n0 c0 : Nat) (l0 : List (Int × Int)) (r : Bool) (h : ref05_rows.F k l0 = some r) (hn0 : n0 = l0.length) (w : World) (hS0 : SlR R30.row (fun _ => False) w A0 c0 l0) : Calls Try.prog 46 (AV.gs id [AV.v (Value.slice A0 n0 c0)]).toArray w fun e w' => e = .returned (((Sh.one : Sh).av (vs [Lf.b] (r, ()))).g id) ∧ Below w.heap.size w w' := by
 subst hn0
 refine enter0 mixed ref05_rows.A noC [AV.v (Value.slice A0 l0.length c0)] Try.func46 rfl rfl rfl (fun hF => ?_)
 rw [ref05_rows.t]
 unfold ref05_rows.F at h
 try dsimp only at h
 obtain ⟨I0, hI0⟩ : ∃ I : Nat → Tup [Lf.i .i64] → (Nat → Prop) → World → Prop, I = (fun m_ y L w' => ∃ (v0_0 : Int), y = (v0_0, ()) ∧ iter (ref05_rows.s0 k l0) m_ v0_0 = some r ∧ Fine (fun _ => False) w L w') := ⟨_, rfl⟩
 refine ok_loop I0 k (by rw [hI0]; exact ⟨_, rfl, h, hF⟩) ?_
 clear h
 intro m_ y L0 w0 hy
 rw [hI0] at hy
 obtain ⟨v0_0, rfl, h, hF⟩ := hy
 obtain ⟨m0, o0, rfl, h, hl0, hr_0⟩ := iter_some h
 unfold ref05_rows.s0 at h
 try dsimp only at h
 try dsimp only
 refine ok_if (fun hc2 => ?_) (fun hc2 => ?_)
 ·have h := bif_t h hc2
  obtain ⟨r3, hr4, h⟩ := bse h
  refine ok_need (getI_need (hS0.later hF) hr4) ?_
  refine ok_need (getI_need2 (hS0.later hF) hr4) ?_
  refine ok_getf 0 hS0 hF hr4 (fun cs hcs => ⟨r3.1, by rw [hcs]; rfl, ?_⟩)
  try dsimp only
  obtain ⟨r5, hr6, h⟩ := bse h
  refine ok_need (getI_need (hS0.later hF) hr6) ?_
  refine ok_need (getI_need2 (hS0.later hF) hr6) ?_
  refine ok_getf 1 hS0 hF hr6 (fun cs hcs => ⟨r5.2, by rw [hcs]; rfl, ?_⟩)
  try dsimp only
  obtain ⟨v3_0, hr3, h⟩ := bse h
  refine ok_callm rfl (fun L3 w3 g3 lt3 => ?_)
  refine (ref05_Span.c k r3.1 r5.2 v3_0 hr3  w3 ).mono ?_
  rintro e w3' ⟨rfl, hb3⟩
  refine ⟨(v3_0, ()), rfl, hb3, fun g3' => ?_⟩
  try dsimp only
  have hF := hF.trans g3'
  refine ok_if (fun hc7 => ?_) (fun hc7 => ?_)
  ·have h := bif_t h hc7
   refine ok_if (fun hc8 => ?_) (fun hc8 => ?_)
   ·have h := bif_t h hc8
    obtain ⟨r9, hr10, h⟩ := bse h
    refine ok_need (getI_need (hS0.later hF) hr10) ?_
    refine ok_need (getI_need2 (hS0.later hF) hr10) ?_
    refine ok_getf 0 hS0 hF hr10 (fun cs hcs => ⟨r9.1, by rw [hcs]; rfl, ?_⟩)
    try dsimp only
    obtain ⟨r11, hr12, h⟩ := bse h
    refine ok_need (getI_need (hS0.later hF) hr12) ?_
    refine ok_need (getI_need2 (hS0.later hF) hr12) ?_
    refine ok_getf 1 hS0 hF hr12 (fun cs hcs => ⟨r11.2, by rw [hcs]; rfl, ?_⟩)
    try dsimp only
    refine ok_if (fun hc13 => ?_) (fun hc13 => ?_)
    ·have h := bif_t h hc13
     obtain rfl := Option.some.inj h
     obtain rfl := hr_0 _ rfl
     intro ρ L w' _ he _ _
     exact ⟨rfl, (hF.ext he).below⟩
    ·have h := bif_f h hc13
     obtain rfl := Option.some.inj h
     have h := hl0 _ rfl
     exact ok_again (I := I0) m0 (Nat.lt_succ_self _) (fun L w' he => by rw [hI0]; exact ⟨_, rfl, h, hF.trans he.fine⟩)
   ·have h := bif_f h hc8
    obtain rfl := Option.some.inj h
    have h := hl0 _ rfl
    exact ok_again (I := I0) m0 (Nat.lt_succ_self _) (fun L w' he => by rw [hI0]; exact ⟨_, rfl, h, hF.trans he.fine⟩)
  ·have h := bif_f h hc7
   obtain rfl := Option.some.inj h
   obtain rfl := hr_0 _ rfl
   intro ρ L w' _ he _ _
   exact ⟨rfl, (hF.ext he).below⟩
 ·have h := bif_f h hc2
  obtain rfl := Option.some.inj h
  obtain rfl := hr_0 _ rfl
  intro ρ L w' _ he _ _
  exact ⟨rfl, (hF.ext he).below⟩
def ref05_Right.F (k : Nat) (l0 : List (Int × Int)) : Option Bool := bif decide (((l0.length : Nat) : Int) ≤ 256) then ((ref05_rows.F k l0).bind fun v0_0 => bif v0_0 then (some true) else (some false)) else (some false)
abbrev ref05_Right.A : Nat → LA := noA
set_option maxHeartbeats 4000000 in
theorem ref05_Right.t (A0 : Option Addr) (n0 c0 : Nat) : tree Try.prog ref05_Right.A noC Try.f34 [AV.v (Value.slice A0 n0 c0)] [] =
  bif decide (((n0 : Nat) : Int) ≤ 256) then (
   .call 46 ([AV.v (Value.slice A0 n0 c0)]) ([]) (Sh.one) ([Lf.b]) ([]) (fun x0 =>
    bif x0.1 then (
     .done (AV.v (Value.bool true)) ([]))
    else (
     .done (AV.v (Value.bool false)) ([]))))
  else (
   .done (AV.v (Value.bool false)) ([])) := by kernel_rfl
set_option maxHeartbeats 4000000 in
theorem ref05_Right.c (k : Nat) (A0 : Option Addr) (n0 c0 : Nat) (l0 : List (Int × Int)) (r : Bool) (h : ref05_Right.F k l0 = some r) (hn0 : n0 = l0.length) (w : World) (hS0 : SlR R30.row (fun _ => False) w A0 c0 l0) : Calls Try.prog 34 (AV.gs id [AV.v (Value.slice A0 n0 c0)]).toArray w fun e w' => e = .returned (((Sh.one : Sh).av (vs [Lf.b] (r, ()))).g id) ∧ Below w.heap.size w w' := by
 subst hn0
 refine enter0 mixed ref05_Right.A noC [AV.v (Value.slice A0 l0.length c0)] Try.func34 rfl rfl rfl (fun hF => ?_)
 rw [ref05_Right.t]
 unfold ref05_Right.F at h
 try dsimp only at h
 refine ok_if (fun hc1 => ?_) (fun hc1 => ?_)
 ·have h := bif_t h hc1
  obtain ⟨v0_0, hr0, h⟩ := bse h
  refine ok_callm rfl (fun L0 w0 g0 lt0 => ?_)
  refine (ref05_rows.c k _ _ _ l0 v0_0 hr0 rfl w0 (hS0.later (hF.trans g0)).bare).mono ?_
  rintro e w0' ⟨rfl, hb0⟩
  refine ⟨(v0_0, ()), rfl, hb0, fun g0' => ?_⟩
  try dsimp only
  have hF := hF.trans g0'
  refine ok_if (fun hc2 => ?_) (fun hc2 => ?_)
  ·have h := bif_t h hc2
   obtain rfl := Option.some.inj h
   intro ρ L w' _ he _ _
   exact ⟨rfl, (hF.ext he).below⟩
  ·have h := bif_f h hc2
   obtain rfl := Option.some.inj h
   intro ρ L w' _ he _ _
   exact ⟨rfl, (hF.ext he).below⟩
 ·have h := bif_f h hc1
  obtain rfl := Option.some.inj h
  intro ρ L w' _ he _ _
  exact ⟨rfl, (hF.ext he).below⟩
def ref05_Has.s0 (k : Nat) (a1 : Int) (l0 : List (Int × Int)) : (Bool × Int) → Option (Sum (Bool × Int) Bool) := fun (v0_0, v0_1) => bif decide (v0_1 < ((l0.length : Nat) : Int)) then (bif v0_0 then (some (.inl ((true, IntKind.i64.wrap (v0_1 + 1))))) else ((getI l0 v0_1).bind fun r4 => bif decide (r4.1 ≤ a1) then ((getI l0 v0_1).bind fun r7 => bif decide (a1 ≤ r7.2) then (some (.inl ((true, IntKind.i64.wrap (v0_1 + 1))))) else (some (.inl ((false, IntKind.i64.wrap (v0_1 + 1)))))) else (some (.inl ((false, IntKind.i64.wrap (v0_1 + 1))))))) else (bif v0_0 then ((ref05_Right.F k l0).bind fun v1_0 => bif v1_0 then (some (.inr true)) else (some (.inr false))) else (some (.inr false)))
def ref05_Has.F (k : Nat) (l0 : List (Int × Int)) (a1 : Int) : Option Bool := iter (ref05_Has.s0 k a1 l0) k (false, 0)
abbrev ref05_Has.A : Nat → LA := fun r => if r = 3 then ⟨[(5, false, [Lf.b]), (6, false, [Lf.i .i64])], []⟩ else ⟨[], []⟩
set_option maxHeartbeats 4000000 in
theorem ref05_Has.t (A0 : Option Addr) (n0 c0 : Nat) (a1 : Int) : tree Try.prog ref05_Has.A noC Try.f36 [AV.v (Value.slice A0 n0 c0), AV.v (.int .i64 a1)] [] =
  .loop ([Lf.b, Lf.i .i64]) ((false, 0, PUnit.unit)) 0 (fun x0 =>
   bif decide (x0.2.1 < ((n0 : Nat) : Int)) then (
    bif x0.1 then (
     .again 0 ([Lf.b, Lf.i .i64]) ((true, IntKind.i64.wrap (x0.2.1 + 1), PUnit.unit)))
    else (
     .need (decide (0 ≤ x0.2.1) && decide (x0.2.1 < ((n0 : Nat) : Int)) && Option.isSome A0) (
     .need (Option.isSome (Option.map (fun x => Addr.add x (Int.toNat x0.2.1 * 2)) A0)) (
     .ld (Option.map (fun x => Addr.add x 0) (Option.map (fun x => Addr.add x (Int.toNat x0.2.1 * 2)) A0)) ([Lf.i .i64]) (fun x1 =>
      bif decide (x1.1 ≤ a1) then (
       .need (decide (0 ≤ x0.2.1) && decide (x0.2.1 < ((n0 : Nat) : Int)) && Option.isSome A0) (
       .need (Option.isSome (Option.map (fun x => Addr.add x (Int.toNat x0.2.1 * 2)) A0)) (
       .ld (Option.map (fun x => Addr.add x 1) (Option.map (fun x => Addr.add x (Int.toNat x0.2.1 * 2)) A0)) ([Lf.i .i64]) (fun x2 =>
        bif decide (a1 ≤ x2.1) then (
         .again 0 ([Lf.b, Lf.i .i64]) ((true, IntKind.i64.wrap (x0.2.1 + 1), PUnit.unit)))
        else (
         .again 0 ([Lf.b, Lf.i .i64]) ((false, IntKind.i64.wrap (x0.2.1 + 1), PUnit.unit)))))))
      else (
       .again 0 ([Lf.b, Lf.i .i64]) ((false, IntKind.i64.wrap (x0.2.1 + 1), PUnit.unit))))))))
   else (
    bif x0.1 then (
     .call 34 ([AV.v (Value.slice A0 n0 c0)]) ([]) (Sh.one) ([Lf.b]) ([]) (fun x1 =>
      bif x1.1 then (
       .done (AV.v (Value.bool true)) ([]))
      else (
       .done (AV.v (Value.bool false)) ([]))))
    else (
     .done (AV.v (Value.bool false)) ([])))) := by kernel_rfl
set_option maxHeartbeats 4000000 in
theorem ref05_Has.c (k : Nat) (A0 : Option Addr) (n0 c0 : Nat) (l0 : List (Int × Int)) (a1 : Int) (r : Bool) (h : ref05_Has.F k l0 a1 = some r) (hn0 : n0 = l0.length) (w : World) (hS0 : SlR R30.row (fun _ => False) w A0 c0 l0) : Calls Try.prog 36 (AV.gs id [AV.v (Value.slice A0 n0 c0), AV.v (.int .i64 a1)]).toArray w fun e w' => e = .returned (((Sh.one : Sh).av (vs [Lf.b] (r, ()))).g id) ∧ Below w.heap.size w w' := by
 subst hn0
 refine enter0 mixed ref05_Has.A noC [AV.v (Value.slice A0 l0.length c0), AV.v (.int .i64 a1)] Try.func36 rfl rfl rfl (fun hF => ?_)
 rw [ref05_Has.t]
 unfold ref05_Has.F at h
 try dsimp only at h
 obtain ⟨I0, hI0⟩ : ∃ I : Nat → Tup [Lf.b, Lf.i .i64] → (Nat → Prop) → World → Prop, I = (fun m_ y L w' => ∃ (v0_0 : Bool) (v0_1 : Int), y = (v0_0, v0_1, ()) ∧ iter (ref05_Has.s0 k a1 l0) m_ (v0_0, v0_1) = some r ∧ Fine (fun _ => False) w L w') := ⟨_, rfl⟩
 refine ok_loop I0 k (by rw [hI0]; exact ⟨_, _, rfl, h, hF⟩) ?_
 clear h
 intro m_ y L0 w0 hy
 rw [hI0] at hy
 obtain ⟨v0_0, v0_1, rfl, h, hF⟩ := hy
 obtain ⟨m0, o0, rfl, h, hl0, hr_0⟩ := iter_some h
 unfold ref05_Has.s0 at h
 try dsimp only at h
 try dsimp only
 refine ok_if (fun hc2 => ?_) (fun hc2 => ?_)
 ·have h := bif_t h hc2
  refine ok_if (fun hc3 => ?_) (fun hc3 => ?_)
  ·have h := bif_t h hc3
   obtain rfl := Option.some.inj h
   have h := hl0 _ rfl
   exact ok_again (I := I0) m0 (Nat.lt_succ_self _) (fun L w' he => by rw [hI0]; exact ⟨_, _, rfl, h, hF.trans he.fine⟩)
  ·have h := bif_f h hc3
   obtain ⟨r4, hr5, h⟩ := bse h
   refine ok_need (getI_need (hS0.later hF) hr5) ?_
   refine ok_need (getI_need2 (hS0.later hF) hr5) ?_
   refine ok_getf 0 hS0 hF hr5 (fun cs hcs => ⟨r4.1, by rw [hcs]; rfl, ?_⟩)
   try dsimp only
   refine ok_if (fun hc6 => ?_) (fun hc6 => ?_)
   ·have h := bif_t h hc6
    obtain ⟨r7, hr8, h⟩ := bse h
    refine ok_need (getI_need (hS0.later hF) hr8) ?_
    refine ok_need (getI_need2 (hS0.later hF) hr8) ?_
    refine ok_getf 1 hS0 hF hr8 (fun cs hcs => ⟨r7.2, by rw [hcs]; rfl, ?_⟩)
    try dsimp only
    refine ok_if (fun hc9 => ?_) (fun hc9 => ?_)
    ·have h := bif_t h hc9
     obtain rfl := Option.some.inj h
     have h := hl0 _ rfl
     exact ok_again (I := I0) m0 (Nat.lt_succ_self _) (fun L w' he => by rw [hI0]; exact ⟨_, _, rfl, h, hF.trans he.fine⟩)
    ·have h := bif_f h hc9
     obtain rfl := Option.some.inj h
     have h := hl0 _ rfl
     exact ok_again (I := I0) m0 (Nat.lt_succ_self _) (fun L w' he => by rw [hI0]; exact ⟨_, _, rfl, h, hF.trans he.fine⟩)
   ·have h := bif_f h hc6
    obtain rfl := Option.some.inj h
    have h := hl0 _ rfl
    exact ok_again (I := I0) m0 (Nat.lt_succ_self _) (fun L w' he => by rw [hI0]; exact ⟨_, _, rfl, h, hF.trans he.fine⟩)
 ·have h := bif_f h hc2
  refine ok_if (fun hc10 => ?_) (fun hc10 => ?_)
  ·have h := bif_t h hc10
   obtain ⟨v1_0, hr1, h⟩ := bse h
   refine ok_callm rfl (fun L1 w1 g1 lt1 => ?_)
   refine (ref05_Right.c k _ _ _ l0 v1_0 hr1 rfl w1 (hS0.later (hF.trans g1)).bare).mono ?_
   rintro e w1' ⟨rfl, hb1⟩
   refine ⟨(v1_0, ()), rfl, hb1, fun g1' => ?_⟩
   try dsimp only
   have hF := hF.trans g1'
   refine ok_if (fun hc11 => ?_) (fun hc11 => ?_)
   ·have h := bif_t h hc11
    obtain rfl := Option.some.inj h
    obtain rfl := hr_0 _ rfl
    intro ρ L w' _ he _ _
    exact ⟨rfl, (hF.ext he).below⟩
   ·have h := bif_f h hc11
    obtain rfl := Option.some.inj h
    obtain rfl := hr_0 _ rfl
    intro ρ L w' _ he _ _
    exact ⟨rfl, (hF.ext he).below⟩
  ·have h := bif_f h hc10
   obtain rfl := Option.some.inj h
   obtain rfl := hr_0 _ rfl
   intro ρ L w' _ he _ _
   exact ⟨rfl, (hF.ext he).below⟩
def spans_Has_1.F (k : Nat) (a0_0 : Int) (a0_1 : Int) (t0_0 : Int) : Option (Bool × Int) := bif decide (t0_0 ≤ a0_1) then (some ((true, t0_0))) else (some ((false, t0_0)))
abbrev spans_Has_1.A : Nat → LA := noA
set_option maxHeartbeats 4000000 in
theorem spans_Has_1.t (a0_0 : Int) (a0_1 : Int) (t0_0 : Int) : tree Try.prog spans_Has_1.A noC Try.f45 [AV.agg [AV.v (.int .i64 a0_0), AV.v (.int .i64 a0_1)], AV.p 0 0] [(0, [AV.v (.int .i64 t0_0)], 3)] =
  bif decide (t0_0 ≤ a0_1) then (
   .done (AV.v (Value.bool true)) ([(0, [AV.v (.int .i64 t0_0)], 3)]))
  else (
   .done (AV.v (Value.bool false)) ([(0, [AV.v (.int .i64 t0_0)], 3)])) := by kernel_rfl
set_option maxHeartbeats 4000000 in
theorem spans_Has_1.c (k : Nat) (a0_0 : Int) (a0_1 : Int) (t0_0 : Int) (r : Bool × Int) (h : spans_Has_1.F k a0_0 a0_1 t0_0 = some r)  (ρ : Nat → Nat) (w : World) (ht : Stand ρ w [(0, [AV.v (.int .i64 t0_0)], 3)]) (hap : Apart ρ [(0, [AV.v (.int .i64 t0_0)], 3)])  : Calls Try.prog 45 (AV.gs ρ [AV.agg [AV.v (.int .i64 a0_0), AV.v (.int .i64 a0_1)], AV.p 0 0]).toArray w fun e w' => e = .returned (((Sh.one : Sh).av (vs [Lf.b] (r.1, ()))).g ρ) ∧ Back ρ w' [(0, [AV.v (.int .i64 t0_0)], 3)] [[Value.int IntKind.i64 r.2]] ∧ Chg ρ [(0, [AV.v (.int .i64 t0_0)], 3)] w w' := by
 refine enterT mixed spans_Has_1.A noC [AV.agg [AV.v (.int .i64 a0_0), AV.v (.int .i64 a0_1)], AV.p 0 0] [(0, [AV.v (.int .i64 t0_0)], 3)] ρ Try.func45 rfl rfl ht hap rfl rfl (fun hF => ?_)
 rw [spans_Has_1.t]
 unfold spans_Has_1.F at h
 try dsimp only at h
 refine ok_if (fun hc1 => ?_) (fun hc1 => ?_)
 ·have h := bif_t h hc1
  obtain rfl := Option.some.inj h
  refine ok_doneF hF rfl rfl rfl rfl rfl (fun L w' he hbk hch => ?_)
  exact ⟨rfl, hbk, hch⟩
 ·have h := bif_f h hc1
  obtain rfl := Option.some.inj h
  refine ok_doneF hF rfl rfl rfl rfl rfl (fun L w' he hbk hch => ?_)
  exact ⟨rfl, hbk, hch⟩
def search45.s0 (k : Nat) (l0 : List (Int × Int)) : (Int × Int × Int) → Option (Sum (Int × Int × Int) (Int × Int)) := fun (v0_0, v0_1, v0_2) => bif decide (v0_0 < v0_1) then ((getI l0 (IntKind.i64.wrap (Int.tdiv (IntKind.i64.wrap (v0_0 + v0_1)) 2))).bind fun r3 => (spans_Has_1.F k r3.1 r3.2 v0_2).bind fun (v2_0, v2_1) => bif v2_0 then (some (.inl ((v0_0, IntKind.i64.wrap (Int.tdiv (IntKind.i64.wrap (v0_0 + v0_1)) 2), v2_1)))) else (some (.inl ((IntKind.i64.wrap (IntKind.i64.wrap (Int.tdiv (IntKind.i64.wrap (v0_0 + v0_1)) 2) + 1), v0_1, v2_1))))) else (some (.inr ((v0_0, v0_2))))
def search45.F (k : Nat) (l0 : List (Int × Int)) (t0_0 : Int) : Option (Int × Int) := iter (search45.s0 k l0) k (0, ((l0.length : Nat) : Int), t0_0)
abbrev search45.A : Nat → LA := fun r => if r = 2 then ⟨[(5, false, [Lf.i .i64]), (6, false, [Lf.i .i64])], [(0, [Lf.i .i64])]⟩ else ⟨[], []⟩
set_option maxHeartbeats 4000000 in
theorem search45.t (A0 : Option Addr) (n0 c0 : Nat) (t0_0 : Int) : tree Try.prog search45.A noC Try.f44 [AV.v (Value.slice A0 n0 c0), AV.fn (Fn.func 45) [] [AV.p 0 0]] [(0, [AV.v (.int .i64 t0_0)], 3)] =
  .loop ([Lf.i .i64, Lf.i .i64, Lf.i .i64]) ((0, ((n0 : Nat) : Int), t0_0, PUnit.unit)) 0 (fun x0 =>
   bif decide (x0.1 < x0.2.1) then (
    .need (true) (
    .need (decide (0 ≤ IntKind.i64.wrap (Int.tdiv (IntKind.i64.wrap (x0.1 + x0.2.1)) 2)) && decide (IntKind.i64.wrap (Int.tdiv (IntKind.i64.wrap (x0.1 + x0.2.1)) 2) < ((n0 : Nat) : Int)) && Option.isSome A0) (
    .ld (Option.map (fun x => Addr.add x (Int.toNat (IntKind.i64.wrap (Int.tdiv (IntKind.i64.wrap (x0.1 + x0.2.1)) 2)) * 2)) A0) ([Lf.i .i64, Lf.i .i64]) (fun x1 =>
     .call 45 ([AV.agg [AV.v (.int .i64 x1.1), AV.v (.int .i64 x1.2.1)], AV.p 0 0]) ([(0, [AV.v (.int .i64 x0.2.2.1)], 3)]) (Sh.one) ([Lf.b, Lf.i .i64]) ([1]) (fun x2 =>
      bif x2.1 then (
       .again 0 ([Lf.i .i64, Lf.i .i64, Lf.i .i64]) ((x0.1, IntKind.i64.wrap (Int.tdiv (IntKind.i64.wrap (x0.1 + x0.2.1)) 2), x2.2.1, PUnit.unit)))
      else (
       .again 0 ([Lf.i .i64, Lf.i .i64, Lf.i .i64]) ((IntKind.i64.wrap (IntKind.i64.wrap (Int.tdiv (IntKind.i64.wrap (x0.1 + x0.2.1)) 2) + 1), x0.2.1, x2.2.1, PUnit.unit))))))))
   else (
    .done (AV.v (.int .i64 x0.1)) ([(0, [AV.v (.int .i64 x0.2.2.1)], 3)]))) := by kernel_rfl
set_option maxHeartbeats 4000000 in
theorem search45.c (k : Nat) (A0 : Option Addr) (n0 c0 : Nat) (l0 : List (Int × Int)) (t0_0 : Int) (r : Int × Int) (h : search45.F k l0 t0_0 = some r) (hn0 : n0 = l0.length) (ρ : Nat → Nat) (w : World) (ht : Stand ρ w [(0, [AV.v (.int .i64 t0_0)], 3)]) (hap : Apart ρ [(0, [AV.v (.int .i64 t0_0)], 3)]) (hS0 : SlR R30.row (own ρ [(0, [AV.v (.int .i64 t0_0)], 3)]) w A0 c0 l0) : Calls Try.prog 44 (AV.gs ρ [AV.v (Value.slice A0 n0 c0), AV.fn (Fn.func 45) [] [AV.p 0 0]]).toArray w fun e w' => e = .returned (((Sh.one : Sh).av (vs [Lf.i .i64] (r.1, ()))).g ρ) ∧ Back ρ w' [(0, [AV.v (.int .i64 t0_0)], 3)] [[Value.int IntKind.i64 r.2]] ∧ Chg ρ [(0, [AV.v (.int .i64 t0_0)], 3)] w w' := by
 subst hn0
 refine enterT mixed search45.A noC [AV.v (Value.slice A0 l0.length c0), AV.fn (Fn.func 45) [] [AV.p 0 0]] [(0, [AV.v (.int .i64 t0_0)], 3)] ρ Try.func44 rfl rfl ht hap rfl rfl (fun hF => ?_)
 rw [search45.t]
 unfold search45.F at h
 try dsimp only at h
 obtain ⟨I0, hI0⟩ : ∃ I : Nat → Tup [Lf.i .i64, Lf.i .i64, Lf.i .i64] → (Nat → Prop) → World → Prop, I = (fun m_ y L w' => ∃ (v0_0 : Int) (v0_1 : Int) (v0_2 : Int), y = (v0_0, v0_1, v0_2, ()) ∧ iter (search45.s0 k l0) m_ (v0_0, v0_1, v0_2) = some r ∧ Fine (own ρ [(0, [AV.v (.int .i64 t0_0)], 3)]) w L w') := ⟨_, rfl⟩
 refine ok_loop I0 k (by rw [hI0]; exact ⟨_, _, _, rfl, h, hF⟩) ?_
 clear h
 intro m_ y L0 w0 hy
 rw [hI0] at hy
 obtain ⟨v0_0, v0_1, v0_2, rfl, h, hF⟩ := hy
 obtain ⟨m0, o0, rfl, h, hl0, hr_0⟩ := iter_some h
 unfold search45.s0 at h
 try dsimp only at h
 try dsimp only
 refine ok_if (fun hc2 => ?_) (fun hc2 => ?_)
 ·have h := bif_t h hc2
  refine ok_need rfl ?_
  obtain ⟨r3, hr4, h⟩ := bse h
  refine ok_need (getI_need (hS0.later hF) hr4) ?_
  refine ok_get hS0 hF hr4 (by simp) (fun cs hcs => ⟨(r3.1, r3.2, ()), hcs.symm, ?_⟩)
  try dsimp only
  obtain ⟨r2, hr2, h⟩ := bse h
  obtain ⟨v2_0, v2_1⟩ := r2
  try dsimp only at h
  refine ok_callTm (fun ρ2 L2 w2 hp2 g2 lt2 ho2 hap2 => ?_)
  refine (spans_Has_1.c k r3.1 r3.2 v0_2 (v2_0, v2_1) hr2  (fun k => match k with | 0 => ρ2 0 | _ => 0) w2 (stand_of ho2) (apart_map rfl hap2) ).mono ?_
  rintro e w2' ⟨rfl, hbk2, hch2⟩
  refine ⟨(v2_0, v2_1, ()), rfl, hbk2, hch2, fun g2' gg2 => ?_⟩
  try dsimp only
  have hF := hF.trans g2'
  refine ok_if (fun hc5 => ?_) (fun hc5 => ?_)
  ·have h := bif_t h hc5
   obtain rfl := Option.some.inj h
   have h := hl0 _ rfl
   exact ok_again (I := I0) m0 (Nat.lt_succ_self _) (fun L w' he => by rw [hI0]; exact ⟨_, _, _, rfl, h, hF.trans he.fine⟩)
  ·have h := bif_f h hc5
   obtain rfl := Option.some.inj h
   have h := hl0 _ rfl
   exact ok_again (I := I0) m0 (Nat.lt_succ_self _) (fun L w' he => by rw [hI0]; exact ⟨_, _, _, rfl, h, hF.trans he.fine⟩)
 ·have h := bif_f h hc2
  obtain rfl := Option.some.inj h
  obtain rfl := hr_0 _ rfl
  refine ok_doneF hF rfl rfl rfl rfl rfl (fun L w' he hbk hch => ?_)
  exact ⟨rfl, hbk, hch⟩
def spans_Has.F (k : Nat) (l0 : List (Int × Int)) (a1 : Int) : Option Bool := (spans_Right.F k l0).bind fun v0_0 => bif v0_0 then ((search45.F k l0 a1).bind fun (v1_0, v1_1) => bif decide (v1_0 < ((l0.length : Nat) : Int)) then ((getI l0 v1_0).bind fun r3 => bif decide (r3.1 ≤ v1_1) then (some true) else (some false)) else (some false)) else (some false)
abbrev spans_Has.A : Nat → LA := noA
set_option maxHeartbeats 4000000 in
theorem spans_Has.t (A0 : Option Addr) (n0 c0 : Nat) (a1 : Int) : tree Try.prog spans_Has.A noC Try.f33 [AV.v (Value.slice A0 n0 c0), AV.v (.int .i64 a1)] [] =
  .call 29 ([AV.v (Value.slice A0 n0 c0)]) ([]) (Sh.one) ([Lf.b]) ([]) (fun x0 =>
   bif x0.1 then (
    .call 44 ([AV.v (Value.slice A0 n0 c0), AV.fn (Fn.func 45) [] [AV.p 1000 0]]) ([(1000, [AV.v (.int .i64 a1)], 3)]) (Sh.one) ([Lf.i .i64, Lf.i .i64]) ([1]) (fun x1 =>
     bif decide (x1.1 < ((n0 : Nat) : Int)) then (
      .need (decide (0 ≤ x1.1) && decide (x1.1 < ((n0 : Nat) : Int)) && Option.isSome A0) (
      .need (Option.isSome (Option.map (fun x => Addr.add x (Int.toNat x1.1 * 2)) A0)) (
      .ld (Option.map (fun x => Addr.add x 0) (Option.map (fun x => Addr.add x (Int.toNat x1.1 * 2)) A0)) ([Lf.i .i64]) (fun x2 =>
       bif decide (x2.1 ≤ x1.2.1) then (
        .done (AV.v (Value.bool true)) ([]))
       else (
        .done (AV.v (Value.bool false)) ([]))))))
     else (
      .done (AV.v (Value.bool false)) ([]))))
   else (
    .done (AV.v (Value.bool false)) ([]))) := by kernel_rfl
set_option maxHeartbeats 4000000 in
theorem spans_Has.c (k : Nat) (A0 : Option Addr) (n0 c0 : Nat) (l0 : List (Int × Int)) (a1 : Int) (r : Bool) (h : spans_Has.F k l0 a1 = some r) (hn0 : n0 = l0.length) (w : World) (hS0 : SlR R30.row (fun _ => False) w A0 c0 l0) : Calls Try.prog 33 (AV.gs id [AV.v (Value.slice A0 n0 c0), AV.v (.int .i64 a1)]).toArray w fun e w' => e = .returned (((Sh.one : Sh).av (vs [Lf.b] (r, ()))).g id) ∧ Below w.heap.size w w' := by
 subst hn0
 refine enter0 mixed spans_Has.A noC [AV.v (Value.slice A0 l0.length c0), AV.v (.int .i64 a1)] Try.func33 rfl rfl rfl (fun hF => ?_)
 rw [spans_Has.t]
 unfold spans_Has.F at h
 try dsimp only at h
 obtain ⟨v0_0, hr0, h⟩ := bse h
 refine ok_callm rfl (fun L0 w0 g0 lt0 => ?_)
 refine (spans_Right.c k _ _ _ l0 v0_0 hr0 rfl w0 (hS0.later (hF.trans g0)).bare).mono ?_
 rintro e w0' ⟨rfl, hb0⟩
 refine ⟨(v0_0, ()), rfl, hb0, fun g0' => ?_⟩
 try dsimp only
 have hF := hF.trans g0'
 refine ok_if (fun hc1 => ?_) (fun hc1 => ?_)
 ·have h := bif_t h hc1
  obtain ⟨r1, hr1, h⟩ := bse h
  obtain ⟨v1_0, v1_1⟩ := r1
  try dsimp only at h
  refine ok_callTm (fun ρ1 L1 w1 hp1 g1 lt1 ho1 hap1 => ?_)
  refine (search45.c k _ _ _ l0 a1 (v1_0, v1_1) hr1 rfl (fun k => match k with | 0 => ρ1 1000 | _ => 0) w1 (stand_of ho1) (apart_map rfl hap1) ((hS0.later (hF.trans g1)).mono (own_sub ho1 rfl))).mono ?_
  rintro e w1' ⟨rfl, hbk1, hch1⟩
  refine ⟨(v1_0, v1_1, ()), rfl, hbk1, hch1, fun g1' gg1 => ?_⟩
  try dsimp only
  have hF := hF.trans g1'
  refine ok_if (fun hc2 => ?_) (fun hc2 => ?_)
  ·have h := bif_t h hc2
   obtain ⟨r3, hr4, h⟩ := bse h
   refine ok_need (getI_need (hS0.later hF) hr4) ?_
   refine ok_need (getI_need2 (hS0.later hF) hr4) ?_
   refine ok_getf 0 hS0 hF hr4 (fun cs hcs => ⟨r3.1, by rw [hcs]; rfl, ?_⟩)
   try dsimp only
   refine ok_if (fun hc5 => ?_) (fun hc5 => ?_)
   ·have h := bif_t h hc5
    obtain rfl := Option.some.inj h
    intro ρ L w' _ he _ _
    exact ⟨rfl, (hF.ext he).below⟩
   ·have h := bif_f h hc5
    obtain rfl := Option.some.inj h
    intro ρ L w' _ he _ _
    exact ⟨rfl, (hF.ext he).below⟩
  ·have h := bif_f h hc2
   obtain rfl := Option.some.inj h
   intro ρ L w' _ he _ _
   exact ⟨rfl, (hF.ext he).below⟩
 ·have h := bif_f h hc1
  obtain rfl := Option.some.inj h
  intro ρ L w' _ he _ _
  exact ⟨rfl, (hF.ext he).below⟩
def law08_ours.s0 (k : Nat) (l0 : List (Int × Int × Int)) : ((List (Int × Int × Int)) × Int) → Option (Sum ((List (Int × Int × Int)) × Int) ((List (Int × Int × Int)))) := fun (s0_0, v0_1) => bif decide (v0_1 < ((l0.length : Nat) : Int)) then ((getI l0 v0_1).bind fun r3 => bif decide ((s0_0.length + (([(r3.1, r3.2.1, r3.2.2)] : List (Int × Int × Int))).length) * 24 ≤ 140737488355328) then (some (.inl (((s0_0 ++ ([(r3.1, r3.2.1, r3.2.2)] : List (Int × Int × Int))), IntKind.i64.wrap (v0_1 + 1))))) else none) else (some (.inr s0_0))
def law08_ours.F (k : Nat) (l0 : List (Int × Int × Int)) : Option ((List (Int × Int × Int))) := iter (law08_ours.s0 k l0) k ([], 0)
abbrev law08_ours.A : Nat → LA := fun r => if r = 3 then ⟨[(3, false, [Lf.sl]), (8, false, [Lf.i .i64])], []⟩ else ⟨[], []⟩
set_option maxHeartbeats 4000000 in
theorem law08_ours.t (A0 : Option Addr) (n0 c0 : Nat) : tree Try.prog law08_ours.A noC Try.f16 [AV.v (Value.slice A0 n0 c0)] [] =
  .loop ([Lf.sl, Lf.i .i64]) (((none, 0, 0), 0, PUnit.unit)) 0 (fun x0 =>
   bif decide (x0.2.1 < ((n0 : Nat) : Int)) then (
    .need (decide (0 ≤ x0.2.1) && decide (x0.2.1 < ((n0 : Nat) : Int)) && Option.isSome A0) (
    .ld (Option.map (fun x => Addr.add x (Int.toNat x0.2.1 * 3)) A0) ([Lf.i .i64, Lf.i .i64, Lf.i .i64]) (fun x1 =>
     .sem (Instr.buildSlice 25 1 { toList := [(0, Value.agg { toList := [Value.int IntKind.i64 x1.1, Value.int IntKind.i64 x1.2.1, Value.int IntKind.i64 x1.2.2.1] })] }) ([Lf.sl]) (Sh.one) (fun x2 =>
      .sem (Builtin.append_ { toList := [25, 25] } 25 { toList := [Value.slice x0.1.1 x0.1.2.1 x0.1.2.2, Value.slice x2.1.1 x2.1.2.1 x2.1.2.2] }) ([Lf.sl]) (Sh.one) (fun x3 =>
       .again 0 ([Lf.sl, Lf.i .i64]) (((x3.1.1, x3.1.2.1, x3.1.2.2), IntKind.i64.wrap (x0.2.1 + 1), PUnit.unit)))))))
   else (
    .done (AV.v (Value.slice x0.1.1 x0.1.2.1 x0.1.2.2)) ([]))) := by kernel_rfl
set_option maxHeartbeats 4000000 in
theorem law08_ours.c (k : Nat) (A0 : Option Addr) (n0 c0 : Nat) (l0 : List (Int × Int × Int)) (r : (List (Int × Int × Int))) (h : law08_ours.F k l0 = some r) (hn0 : n0 = l0.length) (w : World) (hS0 : SlR R36.row (fun _ => False) w A0 c0 l0) : Calls Try.prog 16 (AV.gs id [AV.v (Value.slice A0 n0 c0)]).toArray w fun e w' => ∃ (B0 : Option Addr) (d0 : Nat), e = .returned (((Sh.one : Sh).av (vs [Lf.sl] ((B0, (r).length, d0), ()))).g id) ∧ Below w.heap.size w w' ∧ OwnF w.heap.size (fun b => b < w.heap.size) w' 66 R25 B0 d0 r := by
 subst hn0
 refine enter0 mixed law08_ours.A noC [AV.v (Value.slice A0 l0.length c0)] Try.func16 rfl rfl rfl (fun hF => ?_)
 rw [law08_ours.t]
 unfold law08_ours.F at h
 try dsimp only at h
 obtain ⟨I0, hI0⟩ : ∃ I : Nat → Tup [Lf.sl, Lf.i .i64] → (Nat → Prop) → World → Prop, I = (fun m_ y L w' => ∃ (A0_0 : Option Addr) (c0_0 : Nat) (s0_0 : List (Int × Int × Int)) (v0_1 : Int), y = ((A0_0, s0_0.length, c0_0), v0_1, ()) ∧ iter (law08_ours.s0 k l0) m_ (s0_0, v0_1) = some r ∧ Fine (fun _ => False) w L w' ∧ OwnF w.heap.size L w' 66 R25 A0_0 c0_0 s0_0) := ⟨_, rfl⟩
 refine ok_loop I0 k (by rw [hI0]; exact ⟨none, 0, [], _, rfl, h, hF, OwnF.nil _ _ _ _ _⟩) ?_
 clear h
 intro m_ y L0 w0 hy
 rw [hI0] at hy
 obtain ⟨A0_0, c0_0, s0_0, v0_1, rfl, h, hF, hO_s0_0⟩ := hy
 obtain ⟨m0, o0, rfl, h, hl0, hr_0⟩ := iter_some h
 unfold law08_ours.s0 at h
 try dsimp only at h
 try dsimp only
 refine ok_if (fun hc2 => ?_) (fun hc2 => ?_)
 ·have h := bif_t h hc2
  obtain ⟨r3, hr4, h⟩ := bse h
  refine ok_need (getI_need (hS0.later hF) hr4) ?_
  refine ok_get hS0 hF hr4 (by simp) (fun cs hcs => ⟨(r3.1, r3.2.1, r3.2.2, ()), hcs.symm, ?_⟩)
  try dsimp only
  refine ok_lit (R := R25) (base := w.heap.size) (xs := ([(r3.1, r3.2.1, r3.2.2)] : List (Int × Int × Int))) #[Value.int IntKind.i64 r3.1, Value.int IntKind.i64 r3.2.1, Value.int IntKind.i64 r3.2.2] E25 rfl (by decide) (by decide) ⟨_, _, rfl, rfl, by kernel_rfl⟩ rfl hF.size (fun Ax2 cx2 L2 w2 hO2 g2 hbl2 => ?_)
  try dsimp only
  have dj_o5_s0_0 : Dj Ax2 A0_0 := Dj.new hbl2 hO_s0_0.lt
  have hF := hF.trans g2
  have hO_s0_0 := hO_s0_0.later g2
  obtain ⟨hq6, h⟩ := bif_need h
  have hq6 := of_decide_eq_true hq6
  refine ok_app (R := R25) (base := w.heap.size) (xs := s0_0) (ys := ([(r3.1, r3.2.1, r3.2.2)] : List (Int × Int × Int))) rfl rfl E25 hO_s0_0 hO2.sl (by decide) hq6 hF.size (fun Ax3 cx3 L3 w3 hO3 g3 hid3 hbl3 => ?_)
  try dsimp only
  have dj_o7_o5 : Dj Ax3 Ax2 := Dj.grow (Dj.symm dj_o5_s0_0) hbl3 hO2.lt
  have hO2 := hO2.other dj_o5_s0_0 g3
  have hF := Fine.own hF g3 (fun b hb => Or.inr (Own.base hO_s0_0 hb)) hid3
  obtain rfl := Option.some.inj h
  have h := hl0 _ rfl
  exact ok_again (I := I0) m0 (Nat.lt_succ_self _) (fun L w' he => by rw [hI0]; exact ⟨Ax3, cx3, (s0_0 ++ ([(r3.1, r3.2.1, r3.2.2)] : List (Int × Int × Int))), _, rfl, h, hF.trans he.fine, hO3.later he.fine⟩)
 ·have h := bif_f h hc2
  obtain rfl := Option.some.inj h
  obtain rfl := hr_0 _ rfl
  intro ρ L w' _ he _ _
  exact ⟨A0_0, c0_0, rfl, (hF.ext he).below, (hO_s0_0.later he.fine).ret⟩
def ref08_Same.s0 (k : Nat) (l0 : List (Int × Int × Int)) (l1 : List (Int × Int × Int)) : Int → Option (Sum Int Bool) := fun v0_0 => bif decide (v0_0 < ((l0.length : Nat) : Int)) then ((getI l0 v0_0).bind fun r4 => (getI l1 v0_0).bind fun r6 => bif !(r4.1 == r6.1 && (r4.2.1 == r6.2.1 && (r4.2.2 == r6.2.2 && true))) then (some (.inr false)) else (some (.inl (IntKind.i64.wrap (v0_0 + 1))))) else (some (.inr true))
def ref08_Same.F (k : Nat) (l0 : List (Int × Int × Int)) (l1 : List (Int × Int × Int)) : Option Bool := bif ((l0.length : Nat) : Int) != ((l1.length : Nat) : Int) then (some false) else (iter (ref08_Same.s0 k l0 l1) k 0)
abbrev ref08_Same.A : Nat → LA := fun r => if r = 4 then ⟨[(5, false, [Lf.i .i64])], []⟩ else ⟨[], []⟩
set_option maxHeartbeats 4000000 in
theorem ref08_Same.t (A0 : Option Addr) (n0 c0 : Nat) (A1 : Option Addr) (n1 c1 : Nat) : tree Try.prog ref08_Same.A noC Try.f15 [AV.v (Value.slice A0 n0 c0), AV.v (Value.slice A1 n1 c1)] [] =
  bif ((n0 : Nat) : Int) != ((n1 : Nat) : Int) then (
   .done (AV.v (Value.bool false)) ([]))
  else (
   .loop ([Lf.i .i64]) ((0, PUnit.unit)) 0 (fun x0 =>
    bif decide (x0.1 < ((n0 : Nat) : Int)) then (
     .need (decide (0 ≤ x0.1) && decide (x0.1 < ((n0 : Nat) : Int)) && Option.isSome A0) (
     .ld (Option.map (fun x => Addr.add x (Int.toNat x0.1 * 3)) A0) ([Lf.i .i64, Lf.i .i64, Lf.i .i64]) (fun x1 =>
      .need (decide (0 ≤ x0.1) && decide (x0.1 < ((n1 : Nat) : Int)) && Option.isSome A1) (
      .ld (Option.map (fun x => Addr.add x (Int.toNat x0.1 * 3)) A1) ([Lf.i .i64, Lf.i .i64, Lf.i .i64]) (fun x2 =>
       bif !(x1.1 == x2.1 && (x1.2.1 == x2.2.1 && (x1.2.2.1 == x2.2.2.1 && true))) then (
        .done (AV.v (Value.bool false)) ([]))
       else (
        .again 0 ([Lf.i .i64]) ((IntKind.i64.wrap (x0.1 + 1), PUnit.unit))))))))
    else (
     .done (AV.v (Value.bool true)) ([])))) := by kernel_rfl
set_option maxHeartbeats 4000000 in
theorem ref08_Same.c (k : Nat) (A0 : Option Addr) (n0 c0 : Nat) (l0 : List (Int × Int × Int)) (A1 : Option Addr) (n1 c1 : Nat) (l1 : List (Int × Int × Int)) (r : Bool) (h : ref08_Same.F k l0 l1 = some r) (hn0 : n0 = l0.length) (hn1 : n1 = l1.length) (w : World) (hS0 : SlR R25.row (fun _ => False) w A0 c0 l0) (hS1 : SlR R25.row (fun _ => False) w A1 c1 l1) : Calls Try.prog 15 (AV.gs id [AV.v (Value.slice A0 n0 c0), AV.v (Value.slice A1 n1 c1)]).toArray w fun e w' => e = .returned (((Sh.one : Sh).av (vs [Lf.b] (r, ()))).g id) ∧ Below w.heap.size w w' := by
 subst hn0
 subst hn1
 refine enter0 mixed ref08_Same.A noC [AV.v (Value.slice A0 l0.length c0), AV.v (Value.slice A1 l1.length c1)] Try.func15 rfl rfl rfl (fun hF => ?_)
 rw [ref08_Same.t]
 unfold ref08_Same.F at h
 try dsimp only at h
 refine ok_if (fun hc1 => ?_) (fun hc1 => ?_)
 ·have h := bif_t h hc1
  obtain rfl := Option.some.inj h
  intro ρ L w' _ he _ _
  exact ⟨rfl, (hF.ext he).below⟩
 ·have h := bif_f h hc1
  obtain ⟨I0, hI0⟩ : ∃ I : Nat → Tup [Lf.i .i64] → (Nat → Prop) → World → Prop, I = (fun m_ y L w' => ∃ (v0_0 : Int), y = (v0_0, ()) ∧ iter (ref08_Same.s0 k l0 l1) m_ v0_0 = some r ∧ Fine (fun _ => False) w L w') := ⟨_, rfl⟩
  refine ok_loop I0 k (by rw [hI0]; exact ⟨_, rfl, h, hF⟩) ?_
  clear h
  intro m_ y L0 w0 hy
  rw [hI0] at hy
  obtain ⟨v0_0, rfl, h, hF⟩ := hy
  obtain ⟨m0, o0, rfl, h, hl0, hr_0⟩ := iter_some h
  unfold ref08_Same.s0 at h
  try dsimp only at h
  try dsimp only
  refine ok_if (fun hc3 => ?_) (fun hc3 => ?_)
  ·have h := bif_t h hc3
   obtain ⟨r4, hr5, h⟩ := bse h
   refine ok_need (getI_need (hS0.later hF) hr5) ?_
   refine ok_get hS0 hF hr5 (by simp) (fun cs hcs => ⟨(r4.1, r4.2.1, r4.2.2, ()), hcs.symm, ?_⟩)
   try dsimp only
   obtain ⟨r6, hr7, h⟩ := bse h
   refine ok_need (getI_need (hS1.later hF) hr7) ?_
   refine ok_get hS1 hF hr7 (by simp) (fun cs hcs => ⟨(r6.1, r6.2.1, r6.2.2, ()), hcs.symm, ?_⟩)
   try dsimp only
   refine ok_if (fun hc8 => ?_) (fun hc8 => ?_)
   ·have h := bif_t h hc8
    obtain rfl := Option.some.inj h
    obtain rfl := hr_0 _ rfl
    intro ρ L w' _ he _ _
    exact ⟨rfl, (hF.ext he).below⟩
   ·have h := bif_f h hc8
    obtain rfl := Option.some.inj h
    have h := hl0 _ rfl
    exact ok_again (I := I0) m0 (Nat.lt_succ_self _) (fun L w' he => by rw [hI0]; exact ⟨_, rfl, h, hF.trans he.fine⟩)
  ·have h := bif_f h hc3
   obtain rfl := Option.some.inj h
   obtain rfl := hr_0 _ rfl
   intro ρ L w' _ he _ _
   exact ⟨rfl, (hF.ext he).below⟩
end Go.Proofs.Ytkchgcefmnbebaa.X
