import Derived.Test.YtpdchohbmmfemaazRxU
import Derived.Test.YtpdchohbmmfemaazRxSeat
import Derived.Test.YtpdchohbmmfemaaProg
import Derived.Test.YtpdchohbmmfemaazFb
namespace Go.Proofs.Ytpdchohbmmfemaa.X
open Go Go.RowKit Go.Proofs.YtpdchohbmmfemaaW.Rx
set_option linter.unusedVariables false
set_option linter.unusedSimpArgs false
set_option maxRecDepth 10000
def vint_bits.F (k : Nat) (a0 : Int) : Option Int := bif decide (0 ≤ a0) then (some ((IntKind.i64.wrap (IntKind.i64.wrap (8 * 2 ^ min (Int.toNat a0) 64) - 2)))) else none
abbrev vint_bits.A : Nat → LA := noA
set_option maxHeartbeats 4000000 in
theorem vint_bits.t (a0 : Int) : tree Try.prog vint_bits.A noC Try.f71 [AV.v (.int .i64 a0)] [] =
 .need (decide (0 ≤ a0)) (
 .done (AV.v (.int .i64 (IntKind.i64.wrap (IntKind.i64.wrap (8 * 2 ^ min (Int.toNat a0) 64) - 2)))) ([])) := by kernel_rfl
set_option maxHeartbeats 4000000 in
theorem vint_bits.c (k : Nat) (a0 : Int) (r : Int) (h : vint_bits.F k a0 = some r)  (w : World)  : Calls Try.prog 71 (AV.gs id [AV.v (.int .i64 a0)]).toArray w fun e w' => e = .returned (((Sh.one : Sh).av (vs [Lf.i .i64] (r, ()))).g id) ∧ Below w.heap.size w w' := by
 refine enter0 mixed vint_bits.A noC [AV.v (.int .i64 a0)] Try.func71 rfl rfl rfl (fun hF => ?_)
 rw [vint_bits.t]
 unfold vint_bits.F at h
 try dsimp only at h
 obtain ⟨hn1, h⟩ := bif_need h
 refine ok_need hn1 ?_
 obtain rfl := Option.some.inj h
 intro ρ L w' _ he _ _
 exact ⟨rfl, (hF.ext he).below⟩
def vint_fits.F (k : Nat) (a0 : Int) (a1 : Int) : Option Bool := bif decide (0 ≤ a0) then ((vint_bits.F k a1).bind fun v0_0 => bif decide (0 ≤ v0_0) then (bif decide (a0 < IntKind.i64.wrap (1 * 2 ^ min (Int.toNat v0_0) 64)) then (some true) else (some false)) else none) else (some false)
abbrev vint_fits.A : Nat → LA := noA
set_option maxHeartbeats 4000000 in
theorem vint_fits.t (a0 : Int) (a1 : Int) : tree Try.prog vint_fits.A noC Try.f67 [AV.v (.int .i64 a0), AV.v (.int .i64 a1)] [] =
  bif decide (0 ≤ a0) then (
   .call 71 ([AV.v (.int .i64 a1)]) ([]) (Sh.one) ([Lf.i .i64]) ([]) (fun x0 =>
    .need (decide (0 ≤ x0.1)) (
    bif decide (a0 < IntKind.i64.wrap (1 * 2 ^ min (Int.toNat x0.1) 64)) then (
     .done (AV.v (Value.bool true)) ([]))
    else (
     .done (AV.v (Value.bool false)) ([])))))
  else (
   .done (AV.v (Value.bool false)) ([])) := by kernel_rfl
set_option maxHeartbeats 4000000 in
theorem vint_fits.c (k : Nat) (a0 : Int) (a1 : Int) (r : Bool) (h : vint_fits.F k a0 a1 = some r)  (w : World)  : Calls Try.prog 67 (AV.gs id [AV.v (.int .i64 a0), AV.v (.int .i64 a1)]).toArray w fun e w' => e = .returned (((Sh.one : Sh).av (vs [Lf.b] (r, ()))).g id) ∧ Below w.heap.size w w' := by
 refine enter0 mixed vint_fits.A noC [AV.v (.int .i64 a0), AV.v (.int .i64 a1)] Try.func67 rfl rfl rfl (fun hF => ?_)
 rw [vint_fits.t]
 unfold vint_fits.F at h
 try dsimp only at h
 refine ok_if (fun hc1 => ?_) (fun hc1 => ?_)
 ·have h := bif_t h hc1
  obtain ⟨v0_0, hr0, h⟩ := bse h
  refine ok_callm rfl (fun L0 w0 g0 lt0 => ?_)
  refine (vint_bits.c k a1 v0_0 hr0  w0 ).mono ?_
  rintro e w0' ⟨rfl, hb0⟩
  refine ⟨(v0_0, ()), rfl, hb0, fun g0' => ?_⟩
  try dsimp only
  have hF := hF.trans g0'
  obtain ⟨hn2, h⟩ := bif_need h
  refine ok_need hn2 ?_
  refine ok_if (fun hc3 => ?_) (fun hc3 => ?_)
  ·have h := bif_t h hc3
   obtain rfl := Option.some.inj h
   intro ρ L w' _ he _ _
   exact ⟨rfl, (hF.ext he).below⟩
  ·have h := bif_f h hc3
   obtain rfl := Option.some.inj h
   intro ρ L w' _ he _ _
   exact ⟨rfl, (hF.ext he).below⟩
 ·have h := bif_f h hc1
  obtain rfl := Option.some.inj h
  intro ρ L w' _ he _ _
  exact ⟨rfl, (hF.ext he).below⟩
def vint_Size.s0 (k : Nat) (a0 : Int) : Int → Option (Sum Int Int) := fun v0_0 => bif decide (v0_0 < 4) then ((vint_fits.F k a0 v0_0).bind fun v1_0 => bif v1_0 then (bif decide (0 ≤ v0_0) then (some (.inr ((IntKind.i64.wrap (1 * 2 ^ min (Int.toNat v0_0) 64))))) else none) else (some (.inl (IntKind.i64.wrap (v0_0 + 1))))) else (some (.inr 0))
def vint_Size.F (k : Nat) (a0 : Int) : Option Int := iter (vint_Size.s0 k a0) k 0
abbrev vint_Size.A : Nat → LA := fun r => if r = 2 then ⟨[(4, false, [Lf.i .i64])], []⟩ else ⟨[], []⟩
set_option maxHeartbeats 4000000 in
theorem vint_Size.t (a0 : Int) : tree Try.prog vint_Size.A noC Try.f57 [AV.v (.int .i64 a0)] [] =
  .loop ([Lf.i .i64]) ((0, PUnit.unit)) 0 (fun x0 =>
   bif decide (x0.1 < 4) then (
    .call 67 ([AV.v (.int .i64 a0), AV.v (.int .i64 x0.1)]) ([]) (Sh.one) ([Lf.b]) ([]) (fun x1 =>
     bif x1.1 then (
      .need (decide (0 ≤ x0.1)) (
      .done (AV.v (.int .i64 (IntKind.i64.wrap (1 * 2 ^ min (Int.toNat x0.1) 64)))) ([])))
     else (
      .again 0 ([Lf.i .i64]) ((IntKind.i64.wrap (x0.1 + 1), PUnit.unit)))))
   else (
    .done (AV.v (.int .i64 0)) ([]))) := by kernel_rfl
set_option maxHeartbeats 4000000 in
theorem vint_Size.c (k : Nat) (a0 : Int) (r : Int) (h : vint_Size.F k a0 = some r)  (w : World)  : Calls Try.prog 57 (AV.gs id [AV.v (.int .i64 a0)]).toArray w fun e w' => e = .returned (((Sh.one : Sh).av (vs [Lf.i .i64] (r, ()))).g id) ∧ Below w.heap.size w w' := by
 refine enter0 mixed vint_Size.A noC [AV.v (.int .i64 a0)] Try.func57 rfl rfl rfl (fun hF => ?_)
 rw [vint_Size.t]
 unfold vint_Size.F at h
 try dsimp only at h
 obtain ⟨I0, hI0⟩ : ∃ I : Nat → Tup [Lf.i .i64] → (Nat → Prop) → World → Prop, I = (fun m_ y L w' => ∃ (v0_0 : Int), y = (v0_0, ()) ∧ iter (vint_Size.s0 k a0) m_ v0_0 = some r ∧ Fine (fun _ => False) w L w') := ⟨_, rfl⟩
 refine ok_loop I0 k (by rw [hI0]; exact ⟨_, rfl, h, hF⟩) ?_
 clear h
 intro m_ y L0 w0 hy
 rw [hI0] at hy
 obtain ⟨v0_0, rfl, h, hF⟩ := hy
 obtain ⟨m0, o0, rfl, h, hl0, hr_0⟩ := iter_some h
 unfold vint_Size.s0 at h
 try dsimp only at h
 try dsimp only
 refine ok_if (fun hc2 => ?_) (fun hc2 => ?_)
 ·have h := bif_t h hc2
  obtain ⟨v1_0, hr1, h⟩ := bse h
  refine ok_callm rfl (fun L1 w1 g1 lt1 => ?_)
  refine (vint_fits.c k a0 v0_0 v1_0 hr1  w1 ).mono ?_
  rintro e w1' ⟨rfl, hb1⟩
  refine ⟨(v1_0, ()), rfl, hb1, fun g1' => ?_⟩
  try dsimp only
  have hF := hF.trans g1'
  refine ok_if (fun hc3 => ?_) (fun hc3 => ?_)
  ·have h := bif_t h hc3
   obtain ⟨hn4, h⟩ := bif_need h
   refine ok_need hn4 ?_
   obtain rfl := Option.some.inj h
   obtain rfl := hr_0 _ rfl
   intro ρ L w' _ he _ _
   exact ⟨rfl, (hF.ext he).below⟩
  ·have h := bif_f h hc3
   obtain rfl := Option.some.inj h
   have h := hl0 _ rfl
   exact ok_again (I := I0) m0 (Nat.lt_succ_self _) (fun L w' he => by rw [hI0]; exact ⟨_, rfl, h, hF.trans he.fine⟩)
 ·have h := bif_f h hc2
  obtain rfl := Option.some.inj h
  obtain rfl := hr_0 _ rfl
  intro ρ L w' _ he _ _
  exact ⟨rfl, (hF.ext he).below⟩
def frames_numbers_1.F (k : Nat) (a0 : Int) : Option Bool := (vint_Size.F k a0).bind fun v0_0 => bif v0_0 == 0 then (some true) else (some false)
abbrev frames_numbers_1.A : Nat → LA := noA
set_option maxHeartbeats 4000000 in
theorem frames_numbers_1.t (a0 : Int) : tree Try.prog frames_numbers_1.A noC Try.f56 [AV.v (.int .i64 a0)] [] =
  .call 57 ([AV.v (.int .i64 a0)]) ([]) (Sh.one) ([Lf.i .i64]) ([]) (fun x0 =>
   bif x0.1 == 0 then (
    .done (AV.v (Value.bool true)) ([]))
   else (
    .done (AV.v (Value.bool false)) ([]))) := by kernel_rfl
set_option maxHeartbeats 4000000 in
theorem frames_numbers_1.c (k : Nat) (a0 : Int) (r : Bool) (h : frames_numbers_1.F k a0 = some r)  (w : World)  : Calls Try.prog 56 (AV.gs id [AV.v (.int .i64 a0)]).toArray w fun e w' => e = .returned (((Sh.one : Sh).av (vs [Lf.b] (r, ()))).g id) ∧ Below w.heap.size w w' := by
 refine enter0 mixed frames_numbers_1.A noC [AV.v (.int .i64 a0)] Try.func56 rfl rfl rfl (fun hF => ?_)
 rw [frames_numbers_1.t]
 unfold frames_numbers_1.F at h
 try dsimp only at h
 obtain ⟨v0_0, hr0, h⟩ := bse h
 refine ok_callm rfl (fun L0 w0 g0 lt0 => ?_)
 refine (vint_Size.c k a0 v0_0 hr0  w0 ).mono ?_
 rintro e w0' ⟨rfl, hb0⟩
 refine ⟨(v0_0, ()), rfl, hb0, fun g0' => ?_⟩
 try dsimp only
 have hF := hF.trans g0'
 refine ok_if (fun hc1 => ?_) (fun hc1 => ?_)
 ·have h := bif_t h hc1
  obtain rfl := Option.some.inj h
  intro ρ L w' _ he _ _
  exact ⟨rfl, (hF.ext he).below⟩
 ·have h := bif_f h hc1
  obtain rfl := Option.some.inj h
  intro ρ L w' _ he _ _
  exact ⟨rfl, (hF.ext he).below⟩
def index66.s0 (k : Nat) (l0 : List Int) : Int → Option (Sum Int Int) := fun v0_0 => bif decide (v0_0 < ((l0.length : Nat) : Int)) then ((getI l0 v0_0).bind fun r3 => (frames_numbers_1.F k r3).bind fun v2_0 => bif v2_0 then (some (.inr v0_0)) else (some (.inl (IntKind.i64.wrap (v0_0 + 1))))) else (some (.inr ((-1))))
def index66.F (k : Nat) (l0 : List Int) : Option Int := iter (index66.s0 k l0) k 0
abbrev index66.A : Nat → LA := fun r => if r = 2 then ⟨[(8, false, [Lf.i .i64])], []⟩ else ⟨[], []⟩
set_option maxHeartbeats 4000000 in
theorem index66.t (A0 : Option Addr) (n0 c0 : Nat) : tree Try.prog index66.A noC Try.f66 [AV.v (Value.slice A0 n0 c0), AV.fn (Fn.func 56) [] []] [] =
  .loop ([Lf.i .i64]) ((0, PUnit.unit)) 0 (fun x0 =>
   bif decide (x0.1 < ((n0 : Nat) : Int)) then (
    .need (decide (0 ≤ x0.1) && decide (x0.1 < ((n0 : Nat) : Int)) && Option.isSome A0) (
    .ld (Option.map (fun x => Addr.add x (Int.toNat x0.1 * 1)) A0) ([Lf.i .i64]) (fun x1 =>
     .call 56 ([AV.v (.int .i64 x1.1)]) ([]) (Sh.one) ([Lf.b]) ([]) (fun x2 =>
      bif x2.1 then (
       .done (AV.v (.int .i64 x0.1)) ([]))
      else (
       .again 0 ([Lf.i .i64]) ((IntKind.i64.wrap (x0.1 + 1), PUnit.unit)))))))
   else (
    .done (AV.v (.int .i64 (-1))) ([]))) := by kernel_rfl
set_option maxHeartbeats 4000000 in
theorem index66.c (k : Nat) (A0 : Option Addr) (n0 c0 : Nat) (l0 : List Int) (r : Int) (h : index66.F k l0 = some r) (hn0 : n0 = l0.length) (w : World) (hS0 : SlR R76.row (fun _ => False) w A0 c0 l0) : Calls Try.prog 66 (AV.gs id [AV.v (Value.slice A0 n0 c0), AV.fn (Fn.func 56) [] []]).toArray w fun e w' => e = .returned (((Sh.one : Sh).av (vs [Lf.i .i64] (r, ()))).g id) ∧ Below w.heap.size w w' := by
 subst hn0
 refine enter0 mixed index66.A noC [AV.v (Value.slice A0 l0.length c0), AV.fn (Fn.func 56) [] []] Try.func66 rfl rfl rfl (fun hF => ?_)
 rw [index66.t]
 unfold index66.F at h
 try dsimp only at h
 obtain ⟨I0, hI0⟩ : ∃ I : Nat → Tup [Lf.i .i64] → (Nat → Prop) → World → Prop, I = (fun m_ y L w' => ∃ (v0_0 : Int), y = (v0_0, ()) ∧ iter (index66.s0 k l0) m_ v0_0 = some r ∧ Fine (fun _ => False) w L w') := ⟨_, rfl⟩
 refine ok_loop I0 k (by rw [hI0]; exact ⟨_, rfl, h, hF⟩) ?_
 clear h
 intro m_ y L0 w0 hy
 rw [hI0] at hy
 obtain ⟨v0_0, rfl, h, hF⟩ := hy
 obtain ⟨m0, o0, rfl, h, hl0, hr_0⟩ := iter_some h
 unfold index66.s0 at h
 try dsimp only at h
 try dsimp only
 refine ok_if (fun hc2 => ?_) (fun hc2 => ?_)
 ·have h := bif_t h hc2
  obtain ⟨r3, hr4, h⟩ := bse h
  refine ok_need (getI_need (hS0.later hF) hr4) ?_
  refine ok_get hS0 hF hr4 (by simp) (fun cs hcs => ⟨(r3, ()), hcs.symm, ?_⟩)
  try dsimp only
  obtain ⟨v2_0, hr2, h⟩ := bse h
  refine ok_callm rfl (fun L2 w2 g2 lt2 => ?_)
  refine (frames_numbers_1.c k r3 v2_0 hr2  w2 ).mono ?_
  rintro e w2' ⟨rfl, hb2⟩
  refine ⟨(v2_0, ()), rfl, hb2, fun g2' => ?_⟩
  try dsimp only
  have hF := hF.trans g2'
  refine ok_if (fun hc5 => ?_) (fun hc5 => ?_)
  ·have h := bif_t h hc5
   obtain rfl := Option.some.inj h
   obtain rfl := hr_0 _ rfl
   intro ρ L w' _ he _ _
   exact ⟨rfl, (hF.ext he).below⟩
  ·have h := bif_f h hc5
   obtain rfl := Option.some.inj h
   have h := hl0 _ rfl
   exact ok_again (I := I0) m0 (Nat.lt_succ_self _) (fun L w' he => by rw [hI0]; exact ⟨_, rfl, h, hF.trans he.fine⟩)
 ·have h := bif_f h hc2
  obtain rfl := Option.some.inj h
  obtain rfl := hr_0 _ rfl
  intro ρ L w' _ he _ _
  exact ⟨rfl, (hF.ext he).below⟩
def contains55.F (k : Nat) (l0 : List Int) : Option Bool := (index66.F k l0).bind fun v0_0 => bif decide (0 ≤ v0_0) then (some true) else (some false)
abbrev contains55.A : Nat → LA := noA
set_option maxHeartbeats 4000000 in
theorem contains55.t (A0 : Option Addr) (n0 c0 : Nat) : tree Try.prog contains55.A noC Try.f55 [AV.v (Value.slice A0 n0 c0), AV.fn (Fn.func 56) [] []] [] =
  .call 66 ([AV.v (Value.slice A0 n0 c0), AV.fn (Fn.func 56) [] []]) ([]) (Sh.one) ([Lf.i .i64]) ([]) (fun x0 =>
   bif decide (0 ≤ x0.1) then (
    .done (AV.v (Value.bool true)) ([]))
   else (
    .done (AV.v (Value.bool false)) ([]))) := by kernel_rfl
set_option maxHeartbeats 4000000 in
theorem contains55.c (k : Nat) (A0 : Option Addr) (n0 c0 : Nat) (l0 : List Int) (r : Bool) (h : contains55.F k l0 = some r) (hn0 : n0 = l0.length) (w : World) (hS0 : SlR R76.row (fun _ => False) w A0 c0 l0) : Calls Try.prog 55 (AV.gs id [AV.v (Value.slice A0 n0 c0), AV.fn (Fn.func 56) [] []]).toArray w fun e w' => e = .returned (((Sh.one : Sh).av (vs [Lf.b] (r, ()))).g id) ∧ Below w.heap.size w w' := by
 subst hn0
 refine enter0 mixed contains55.A noC [AV.v (Value.slice A0 l0.length c0), AV.fn (Fn.func 56) [] []] Try.func55 rfl rfl rfl (fun hF => ?_)
 rw [contains55.t]
 unfold contains55.F at h
 try dsimp only at h
 obtain ⟨v0_0, hr0, h⟩ := bse h
 refine ok_callm rfl (fun L0 w0 g0 lt0 => ?_)
 refine (index66.c k _ _ _ l0 v0_0 hr0 rfl w0 (hS0.later (hF.trans g0)).bare).mono ?_
 rintro e w0' ⟨rfl, hb0⟩
 refine ⟨(v0_0, ()), rfl, hb0, fun g0' => ?_⟩
 try dsimp only
 have hF := hF.trans g0'
 refine ok_if (fun hc1 => ?_) (fun hc1 => ?_)
 ·have h := bif_t h hc1
  obtain rfl := Option.some.inj h
  intro ρ L w' _ he _ _
  exact ⟨rfl, (hF.ext he).below⟩
 ·have h := bif_f h hc1
  obtain rfl := Option.some.inj h
  intro ρ L w' _ he _ _
  exact ⟨rfl, (hF.ext he).below⟩
def frames_numbers.F (k : Nat) (l0 : List Int) : Option Bool := (contains55.F k l0).bind fun v0_0 => bif v0_0 then (some false) else (some true)
abbrev frames_numbers.A : Nat → LA := noA
set_option maxHeartbeats 4000000 in
theorem frames_numbers.t (A0 : Option Addr) (n0 c0 : Nat) : tree Try.prog frames_numbers.A noC Try.f38 [AV.v (Value.slice A0 n0 c0)] [] =
  .call 55 ([AV.v (Value.slice A0 n0 c0), AV.fn (Fn.func 56) [] []]) ([]) (Sh.one) ([Lf.b]) ([]) (fun x0 =>
   bif x0.1 then (
    .done (AV.v (Value.bool false)) ([]))
   else (
    .done (AV.v (Value.bool true)) ([]))) := by kernel_rfl
set_option maxHeartbeats 4000000 in
theorem frames_numbers.c (k : Nat) (A0 : Option Addr) (n0 c0 : Nat) (l0 : List Int) (r : Bool) (h : frames_numbers.F k l0 = some r) (hn0 : n0 = l0.length) (w : World) (hS0 : SlR R76.row (fun _ => False) w A0 c0 l0) : Calls Try.prog 38 (AV.gs id [AV.v (Value.slice A0 n0 c0)]).toArray w fun e w' => e = .returned (((Sh.one : Sh).av (vs [Lf.b] (r, ()))).g id) ∧ Below w.heap.size w w' := by
 subst hn0
 refine enter0 mixed frames_numbers.A noC [AV.v (Value.slice A0 l0.length c0)] Try.func38 rfl rfl rfl (fun hF => ?_)
 rw [frames_numbers.t]
 unfold frames_numbers.F at h
 try dsimp only at h
 obtain ⟨v0_0, hr0, h⟩ := bse h
 refine ok_callm rfl (fun L0 w0 g0 lt0 => ?_)
 refine (contains55.c k _ _ _ l0 v0_0 hr0 rfl w0 (hS0.later (hF.trans g0)).bare).mono ?_
 rintro e w0' ⟨rfl, hb0⟩
 refine ⟨(v0_0, ()), rfl, hb0, fun g0' => ?_⟩
 try dsimp only
 have hF := hF.trans g0'
 refine ok_if (fun hc1 => ?_) (fun hc1 => ?_)
 ·have h := bif_t h hc1
  obtain rfl := Option.some.inj h
  intro ρ L w' _ he _ _
  exact ⟨rfl, (hF.ext he).below⟩
 ·have h := bif_f h hc1
  obtain rfl := Option.some.inj h
  intro ρ L w' _ he _ _
  exact ⟨rfl, (hF.ext he).below⟩
def frames_spans.s0 (k : Nat) (l0 : List (Int × Int)) : (Int × Int) → Option (Sum (Int × Int) Bool) := fun (v0_0, v0_1) => bif decide (v0_1 < ((l0.length : Nat) : Int)) then ((getI l0 v0_1).bind fun r3 => (frames_numbers.F k (([(r3.1), (r3.2)] : List Int))).bind fun v3_0 => bif v3_0 then (bif decide (r3.2 < r3.1) then (some (.inr false)) else (bif decide (IntKind.i64.wrap (r3.1 - 2) < v0_0) then (some (.inr false)) else (some (.inl ((r3.2, IntKind.i64.wrap (v0_1 + 1))))))) else (some (.inr false))) else (bif decide (0 < ((l0.length : Nat) : Int)) then (bif decide (((l0.length : Nat) : Int) ≤ 32) then (some (.inr true)) else (some (.inr false))) else (some (.inr false)))
def frames_spans.F (k : Nat) (l0 : List (Int × Int)) : Option Bool := iter (frames_spans.s0 k l0) k (-2, 0)
abbrev frames_spans.A : Nat → LA := fun r => if r = 3 then ⟨[(3, false, [Lf.i .i64]), (8, false, [Lf.i .i64])], []⟩ else ⟨[], []⟩
set_option maxHeartbeats 4000000 in
theorem frames_spans.t (A0 : Option Addr) (n0 c0 : Nat) : tree Try.prog frames_spans.A noC Try.f39 [AV.v (Value.slice A0 n0 c0)] [] =
  .loop ([Lf.i .i64, Lf.i .i64]) ((-2, 0, PUnit.unit)) 0 (fun x0 =>
   bif decide (x0.2.1 < ((n0 : Nat) : Int)) then (
    .need (decide (0 ≤ x0.2.1) && decide (x0.2.1 < ((n0 : Nat) : Int)) && Option.isSome A0) (
    .ld (Option.map (fun x => Addr.add x (Int.toNat x0.2.1 * 2)) A0) ([Lf.i .i64, Lf.i .i64]) (fun x1 =>
     .sem (Instr.buildSlice 76 2 { toList := [(0, Value.int IntKind.i64 x1.1), (1, Value.int IntKind.i64 x1.2.1)] }) ([Lf.sl]) (Sh.one) (fun x2 =>
      .call 38 ([AV.v (Value.slice x2.1.1 x2.1.2.1 x2.1.2.2)]) ([]) (Sh.one) ([Lf.b]) ([]) (fun x3 =>
       bif x3.1 then (
        bif decide (x1.2.1 < x1.1) then (
         .done (AV.v (Value.bool false)) ([]))
        else (
         bif decide (IntKind.i64.wrap (x1.1 - 2) < x0.1) then (
          .done (AV.v (Value.bool false)) ([]))
         else (
          .again 0 ([Lf.i .i64, Lf.i .i64]) ((x1.2.1, IntKind.i64.wrap (x0.2.1 + 1), PUnit.unit)))))
       else (
        .done (AV.v (Value.bool false)) ([])))))))
   else (
    bif decide (0 < ((n0 : Nat) : Int)) then (
     bif decide (((n0 : Nat) : Int) ≤ 32) then (
      .done (AV.v (Value.bool true)) ([]))
     else (
      .done (AV.v (Value.bool false)) ([])))
    else (
     .done (AV.v (Value.bool false)) ([])))) := by kernel_rfl
set_option maxHeartbeats 4000000 in
theorem frames_spans.c (k : Nat) (A0 : Option Addr) (n0 c0 : Nat) (l0 : List (Int × Int)) (r : Bool) (h : frames_spans.F k l0 = some r) (hn0 : n0 = l0.length) (w : World) (hS0 : SlR R34.row (fun _ => False) w A0 c0 l0) : Calls Try.prog 39 (AV.gs id [AV.v (Value.slice A0 n0 c0)]).toArray w fun e w' => e = .returned (((Sh.one : Sh).av (vs [Lf.b] (r, ()))).g id) ∧ Below w.heap.size w w' := by
 subst hn0
 refine enter0 mixed frames_spans.A noC [AV.v (Value.slice A0 l0.length c0)] Try.func39 rfl rfl rfl (fun hF => ?_)
 rw [frames_spans.t]
 unfold frames_spans.F at h
 try dsimp only at h
 obtain ⟨I0, hI0⟩ : ∃ I : Nat → Tup [Lf.i .i64, Lf.i .i64] → (Nat → Prop) → World → Prop, I = (fun m_ y L w' => ∃ (v0_0 : Int) (v0_1 : Int), y = (v0_0, v0_1, ()) ∧ iter (frames_spans.s0 k l0) m_ (v0_0, v0_1) = some r ∧ Fine (fun _ => False) w L w') := ⟨_, rfl⟩
 refine ok_loop I0 k (by rw [hI0]; exact ⟨_, _, rfl, h, hF⟩) ?_
 clear h
 intro m_ y L0 w0 hy
 rw [hI0] at hy
 obtain ⟨v0_0, v0_1, rfl, h, hF⟩ := hy
 obtain ⟨m0, o0, rfl, h, hl0, hr_0⟩ := iter_some h
 unfold frames_spans.s0 at h
 try dsimp only at h
 try dsimp only
 refine ok_if (fun hc2 => ?_) (fun hc2 => ?_)
 ·have h := bif_t h hc2
  obtain ⟨r3, hr4, h⟩ := bse h
  refine ok_need (getI_need (hS0.later hF) hr4) ?_
  refine ok_get hS0 hF hr4 (by simp) (fun cs hcs => ⟨(r3.1, r3.2, ()), hcs.symm, ?_⟩)
  try dsimp only
  refine ok_lit (R := R76) (base := w.heap.size) (xs := ([(r3.1), (r3.2)] : List Int)) #[Value.int IntKind.i64 r3.1, Value.int IntKind.i64 r3.2] E76 rfl (by decide) (by decide) ⟨_, _, rfl, rfl, by kernel_rfl⟩ rfl hF.size (fun Ax2 cx2 L2 w2 hO2 g2 hbl2 => ?_)
  try dsimp only
  have hF := hF.trans g2
  obtain ⟨v3_0, hr3, h⟩ := bse h
  refine ok_callm rfl (fun L3 w3 g3 lt3 => ?_)
  refine (frames_numbers.c k _ _ _ (([(r3.1), (r3.2)] : List Int)) v3_0 hr3 rfl w3 (hO2.later g3).sl.bare).mono ?_
  rintro e w3' ⟨rfl, hb3⟩
  refine ⟨(v3_0, ()), rfl, hb3, fun g3' => ?_⟩
  try dsimp only
  have hF := hF.trans g3'
  have hO2 := hO2.later g3'
  refine ok_if (fun hc6 => ?_) (fun hc6 => ?_)
  ·have h := bif_t h hc6
   refine ok_if (fun hc7 => ?_) (fun hc7 => ?_)
   ·have h := bif_t h hc7
    obtain rfl := Option.some.inj h
    obtain rfl := hr_0 _ rfl
    intro ρ L w' _ he _ _
    exact ⟨rfl, (hF.ext he).below⟩
   ·have h := bif_f h hc7
    refine ok_if (fun hc8 => ?_) (fun hc8 => ?_)
    ·have h := bif_t h hc8
     obtain rfl := Option.some.inj h
     obtain rfl := hr_0 _ rfl
     intro ρ L w' _ he _ _
     exact ⟨rfl, (hF.ext he).below⟩
    ·have h := bif_f h hc8
     obtain rfl := Option.some.inj h
     have h := hl0 _ rfl
     exact ok_again (I := I0) m0 (Nat.lt_succ_self _) (fun L w' he => by rw [hI0]; exact ⟨_, _, rfl, h, hF.trans he.fine⟩)
  ·have h := bif_f h hc6
   obtain rfl := Option.some.inj h
   obtain rfl := hr_0 _ rfl
   intro ρ L w' _ he _ _
   exact ⟨rfl, (hF.ext he).below⟩
 ·have h := bif_f h hc2
  refine ok_if (fun hc9 => ?_) (fun hc9 => ?_)
  ·have h := bif_t h hc9
   refine ok_if (fun hc10 => ?_) (fun hc10 => ?_)
   ·have h := bif_t h hc10
    obtain rfl := Option.some.inj h
    obtain rfl := hr_0 _ rfl
    intro ρ L w' _ he _ _
    exact ⟨rfl, (hF.ext he).below⟩
   ·have h := bif_f h hc10
    obtain rfl := Option.some.inj h
    obtain rfl := hr_0 _ rfl
    intro ρ L w' _ he _ _
    exact ⟨rfl, (hF.ext he).below⟩
  ·have h := bif_f h hc9
   obtain rfl := Option.some.inj h
   obtain rfl := hr_0 _ rfl
   intro ρ L w' _ he _ _
   exact ⟨rfl, (hF.ext he).below⟩
def frames_spare.F (k : Nat) (a0_0 : Int) (a0_1 : Int) (a0_2 : Int) (a0_3 : Int) (a0_4 : Int) (a0_5 : Bool) (l0_6 : List Int) (l0_7 : List (Int × Int)) : Option (Int × Int × Int × Int × Int × Bool × (List Int) × (List (Int × Int)) × Bool) := bif a0_0 == 0 then (some ((a0_0, a0_1, a0_2, a0_3, a0_4, a0_5, l0_6, l0_7, true))) else (bif a0_0 == 1 then (some ((a0_0, a0_1, a0_2, a0_3, a0_4, a0_5, l0_6, l0_7, true))) else (bif a0_0 == 30 then (some ((a0_0, a0_1, a0_2, a0_3, a0_4, a0_5, l0_6, l0_7, true))) else (bif a0_0 == 2 then (some ((a0_0, a0_1, a0_2, 0, a0_4, a0_5, l0_6, [], true))) else (bif a0_0 == 8 then (some ((a0_0, 0, 0, a0_3, a0_4, false, [], l0_7, true))) else (bif a0_0 == 4 then (some ((a0_0, 0, 0, a0_3, 0, a0_5, l0_6, l0_7, true))) else (bif a0_0 == 5 then (some ((a0_0, 0, a0_2, a0_3, 0, a0_5, l0_6, l0_7, true))) else (bif a0_0 == 17 then (some ((a0_0, 0, a0_2, 0, a0_4, a0_5, l0_6, l0_7, true))) else (bif a0_0 == 16 then (some ((a0_0, a0_1, a0_2, 0, a0_4, a0_5, l0_6, l0_7, true))) else (bif a0_0 == 18 then (some ((a0_0, a0_1, a0_2, 0, a0_4, a0_5, l0_6, l0_7, true))) else (bif a0_0 == 28 then (some ((a0_0, a0_1, a0_2, a0_3, 0, a0_5, [], l0_7, true))) else (some ((a0_0, a0_1, a0_2, a0_3, a0_4, a0_5, l0_6, l0_7, false)))))))))))))
abbrev frames_spare.A : Nat → LA := noA
set_option maxHeartbeats 4000000 in
theorem frames_spare.t (a0_0 : Int) (a0_1 : Int) (a0_2 : Int) (a0_3 : Int) (a0_4 : Int) (a0_5 : Bool) (A0_6 : Option Addr) (n0_6 c0_6 : Nat) (A0_7 : Option Addr) (n0_7 c0_7 : Nat) : tree Try.prog frames_spare.A noC Try.f37 [AV.agg [AV.v (.int .i64 a0_0), AV.v (.int .i64 a0_1), AV.v (.int .i64 a0_2), AV.v (.int .i64 a0_3), AV.v (.int .i64 a0_4), AV.v (Value.bool a0_5), AV.v (Value.slice A0_6 n0_6 c0_6), AV.v (Value.slice A0_7 n0_7 c0_7)]] [] =
  bif a0_0 == 0 then (
   .done (AV.tup [AV.agg [AV.v (.int .i64 a0_0), AV.v (.int .i64 a0_1), AV.v (.int .i64 a0_2), AV.v (.int .i64 a0_3), AV.v (.int .i64 a0_4), AV.v (Value.bool a0_5), AV.v (Value.slice A0_6 n0_6 c0_6), AV.v (Value.slice A0_7 n0_7 c0_7)], AV.v (Value.bool true)]) ([]))
  else (
   bif a0_0 == 1 then (
    .done (AV.tup [AV.agg [AV.v (.int .i64 a0_0), AV.v (.int .i64 a0_1), AV.v (.int .i64 a0_2), AV.v (.int .i64 a0_3), AV.v (.int .i64 a0_4), AV.v (Value.bool a0_5), AV.v (Value.slice A0_6 n0_6 c0_6), AV.v (Value.slice A0_7 n0_7 c0_7)], AV.v (Value.bool true)]) ([]))
   else (
    bif a0_0 == 30 then (
     .done (AV.tup [AV.agg [AV.v (.int .i64 a0_0), AV.v (.int .i64 a0_1), AV.v (.int .i64 a0_2), AV.v (.int .i64 a0_3), AV.v (.int .i64 a0_4), AV.v (Value.bool a0_5), AV.v (Value.slice A0_6 n0_6 c0_6), AV.v (Value.slice A0_7 n0_7 c0_7)], AV.v (Value.bool true)]) ([]))
    else (
     bif a0_0 == 2 then (
      .done (AV.tup [AV.agg [AV.v (.int .i64 a0_0), AV.v (.int .i64 a0_1), AV.v (.int .i64 a0_2), AV.v (.int .i64 0), AV.v (.int .i64 a0_4), AV.v (Value.bool a0_5), AV.v (Value.slice A0_6 n0_6 c0_6), AV.v (Value.slice none 0 0)], AV.v (Value.bool true)]) ([]))
     else (
      bif a0_0 == 8 then (
       .done (AV.tup [AV.agg [AV.v (.int .i64 a0_0), AV.v (.int .i64 0), AV.v (.int .i64 0), AV.v (.int .i64 a0_3), AV.v (.int .i64 a0_4), AV.v (Value.bool false), AV.v (Value.slice none 0 0), AV.v (Value.slice A0_7 n0_7 c0_7)], AV.v (Value.bool true)]) ([]))
      else (
       bif a0_0 == 4 then (
        .done (AV.tup [AV.agg [AV.v (.int .i64 a0_0), AV.v (.int .i64 0), AV.v (.int .i64 0), AV.v (.int .i64 a0_3), AV.v (.int .i64 0), AV.v (Value.bool a0_5), AV.v (Value.slice A0_6 n0_6 c0_6), AV.v (Value.slice A0_7 n0_7 c0_7)], AV.v (Value.bool true)]) ([]))
       else (
        bif a0_0 == 5 then (
         .done (AV.tup [AV.agg [AV.v (.int .i64 a0_0), AV.v (.int .i64 0), AV.v (.int .i64 a0_2), AV.v (.int .i64 a0_3), AV.v (.int .i64 0), AV.v (Value.bool a0_5), AV.v (Value.slice A0_6 n0_6 c0_6), AV.v (Value.slice A0_7 n0_7 c0_7)], AV.v (Value.bool true)]) ([]))
        else (
         bif a0_0 == 17 then (
          .done (AV.tup [AV.agg [AV.v (.int .i64 a0_0), AV.v (.int .i64 0), AV.v (.int .i64 a0_2), AV.v (.int .i64 0), AV.v (.int .i64 a0_4), AV.v (Value.bool a0_5), AV.v (Value.slice A0_6 n0_6 c0_6), AV.v (Value.slice A0_7 n0_7 c0_7)], AV.v (Value.bool true)]) ([]))
         else (
          bif a0_0 == 16 then (
           .done (AV.tup [AV.agg [AV.v (.int .i64 a0_0), AV.v (.int .i64 a0_1), AV.v (.int .i64 a0_2), AV.v (.int .i64 0), AV.v (.int .i64 a0_4), AV.v (Value.bool a0_5), AV.v (Value.slice A0_6 n0_6 c0_6), AV.v (Value.slice A0_7 n0_7 c0_7)], AV.v (Value.bool true)]) ([]))
          else (
           bif a0_0 == 18 then (
            .done (AV.tup [AV.agg [AV.v (.int .i64 a0_0), AV.v (.int .i64 a0_1), AV.v (.int .i64 a0_2), AV.v (.int .i64 0), AV.v (.int .i64 a0_4), AV.v (Value.bool a0_5), AV.v (Value.slice A0_6 n0_6 c0_6), AV.v (Value.slice A0_7 n0_7 c0_7)], AV.v (Value.bool true)]) ([]))
           else (
            bif a0_0 == 28 then (
             .done (AV.tup [AV.agg [AV.v (.int .i64 a0_0), AV.v (.int .i64 a0_1), AV.v (.int .i64 a0_2), AV.v (.int .i64 a0_3), AV.v (.int .i64 0), AV.v (Value.bool a0_5), AV.v (Value.slice none 0 0), AV.v (Value.slice A0_7 n0_7 c0_7)], AV.v (Value.bool true)]) ([]))
            else (
             .done (AV.tup [AV.agg [AV.v (.int .i64 a0_0), AV.v (.int .i64 a0_1), AV.v (.int .i64 a0_2), AV.v (.int .i64 a0_3), AV.v (.int .i64 a0_4), AV.v (Value.bool a0_5), AV.v (Value.slice A0_6 n0_6 c0_6), AV.v (Value.slice A0_7 n0_7 c0_7)], AV.v (Value.bool false)]) ([])))))))))))) := by kernel_rfl
set_option maxHeartbeats 4000000 in
theorem frames_spare.c (k : Nat) (a0_0 : Int) (a0_1 : Int) (a0_2 : Int) (a0_3 : Int) (a0_4 : Int) (a0_5 : Bool) (A0_6 : Option Addr) (n0_6 c0_6 : Nat) (l0_6 : List Int) (A0_7 : Option Addr) (n0_7 c0_7 : Nat) (l0_7 : List (Int × Int)) (r : Int × Int × Int × Int × Int × Bool × (List Int) × (List (Int × Int)) × Bool) (h : frames_spare.F k a0_0 a0_1 a0_2 a0_3 a0_4 a0_5 l0_6 l0_7 = some r) (hn0_6 : n0_6 = l0_6.length) (hn0_7 : n0_7 = l0_7.length) (w : World) (X : Nat → Prop) (hX0_6 : SlR R23.row X w A0_6 c0_6 l0_6) (hX0_7 : SlR R34.row X w A0_7 c0_7 l0_7) : Calls Try.prog 37 (AV.gs id [AV.agg [AV.v (.int .i64 a0_0), AV.v (.int .i64 a0_1), AV.v (.int .i64 a0_2), AV.v (.int .i64 a0_3), AV.v (.int .i64 a0_4), AV.v (Value.bool a0_5), AV.v (Value.slice A0_6 n0_6 c0_6), AV.v (Value.slice A0_7 n0_7 c0_7)]]).toArray w fun e w' => ∃ (B6 : Option Addr) (d6 : Nat) (B7 : Option Addr) (d7 : Nat), e = .returned (((Sh.tup [(true, 8), (false, 1)] : Sh).av (vs [Lf.i .i64, Lf.i .i64, Lf.i .i64, Lf.i .i64, Lf.i .i64, Lf.b, Lf.sl, Lf.sl, Lf.b] (r.1, r.2.1, r.2.2.1, r.2.2.2.1, r.2.2.2.2.1, r.2.2.2.2.2.1, (B6, (r.2.2.2.2.2.2.1).length, d6), (B7, (r.2.2.2.2.2.2.2.1).length, d7), r.2.2.2.2.2.2.2.2, ()))).g id) ∧ Below w.heap.size w w' ∧ SlR R23.row X w' B6 d6 r.2.2.2.2.2.2.1 ∧ SlR R34.row X w' B7 d7 r.2.2.2.2.2.2.2.1 := by
 subst hn0_6
 have hS0_6 := hX0_6.bare
 subst hn0_7
 have hS0_7 := hX0_7.bare
 refine enter0 mixed frames_spare.A noC [AV.agg [AV.v (.int .i64 a0_0), AV.v (.int .i64 a0_1), AV.v (.int .i64 a0_2), AV.v (.int .i64 a0_3), AV.v (.int .i64 a0_4), AV.v (Value.bool a0_5), AV.v (Value.slice A0_6 l0_6.length c0_6), AV.v (Value.slice A0_7 l0_7.length c0_7)]] Try.func37 rfl rfl rfl (fun hF => ?_)
 rw [frames_spare.t]
 unfold frames_spare.F at h
 try dsimp only at h
 refine ok_if (fun hc1 => ?_) (fun hc1 => ?_)
 ·have h := bif_t h hc1
  obtain rfl := Option.some.inj h
  intro ρ L w' _ he _ _
  exact ⟨A0_6, c0_6, A0_7, c0_7, rfl, (hF.ext he).below, (hX0_6.below (hF.ext he).below), (hX0_7.below (hF.ext he).below)⟩
 ·have h := bif_f h hc1
  refine ok_if (fun hc2 => ?_) (fun hc2 => ?_)
  ·have h := bif_t h hc2
   obtain rfl := Option.some.inj h
   intro ρ L w' _ he _ _
   exact ⟨A0_6, c0_6, A0_7, c0_7, rfl, (hF.ext he).below, (hX0_6.below (hF.ext he).below), (hX0_7.below (hF.ext he).below)⟩
  ·have h := bif_f h hc2
   refine ok_if (fun hc3 => ?_) (fun hc3 => ?_)
   ·have h := bif_t h hc3
    obtain rfl := Option.some.inj h
    intro ρ L w' _ he _ _
    exact ⟨A0_6, c0_6, A0_7, c0_7, rfl, (hF.ext he).below, (hX0_6.below (hF.ext he).below), (hX0_7.below (hF.ext he).below)⟩
   ·have h := bif_f h hc3
    refine ok_if (fun hc4 => ?_) (fun hc4 => ?_)
    ·have h := bif_t h hc4
     obtain rfl := Option.some.inj h
     intro ρ L w' _ he _ _
     exact ⟨A0_6, c0_6, none, 0, rfl, (hF.ext he).below, (hX0_6.below (hF.ext he).below), SlR.nil⟩
    ·have h := bif_f h hc4
     refine ok_if (fun hc5 => ?_) (fun hc5 => ?_)
     ·have h := bif_t h hc5
      obtain rfl := Option.some.inj h
      intro ρ L w' _ he _ _
      exact ⟨none, 0, A0_7, c0_7, rfl, (hF.ext he).below, SlR.nil, (hX0_7.below (hF.ext he).below)⟩
     ·have h := bif_f h hc5
      refine ok_if (fun hc6 => ?_) (fun hc6 => ?_)
      ·have h := bif_t h hc6
       obtain rfl := Option.some.inj h
       intro ρ L w' _ he _ _
       exact ⟨A0_6, c0_6, A0_7, c0_7, rfl, (hF.ext he).below, (hX0_6.below (hF.ext he).below), (hX0_7.below (hF.ext he).below)⟩
      ·have h := bif_f h hc6
       refine ok_if (fun hc7 => ?_) (fun hc7 => ?_)
       ·have h := bif_t h hc7
        obtain rfl := Option.some.inj h
        intro ρ L w' _ he _ _
        exact ⟨A0_6, c0_6, A0_7, c0_7, rfl, (hF.ext he).below, (hX0_6.below (hF.ext he).below), (hX0_7.below (hF.ext he).below)⟩
       ·have h := bif_f h hc7
        refine ok_if (fun hc8 => ?_) (fun hc8 => ?_)
        ·have h := bif_t h hc8
         obtain rfl := Option.some.inj h
         intro ρ L w' _ he _ _
         exact ⟨A0_6, c0_6, A0_7, c0_7, rfl, (hF.ext he).below, (hX0_6.below (hF.ext he).below), (hX0_7.below (hF.ext he).below)⟩
        ·have h := bif_f h hc8
         refine ok_if (fun hc9 => ?_) (fun hc9 => ?_)
         ·have h := bif_t h hc9
          obtain rfl := Option.some.inj h
          intro ρ L w' _ he _ _
          exact ⟨A0_6, c0_6, A0_7, c0_7, rfl, (hF.ext he).below, (hX0_6.below (hF.ext he).below), (hX0_7.below (hF.ext he).below)⟩
         ·have h := bif_f h hc9
          refine ok_if (fun hc10 => ?_) (fun hc10 => ?_)
          ·have h := bif_t h hc10
           obtain rfl := Option.some.inj h
           intro ρ L w' _ he _ _
           exact ⟨A0_6, c0_6, A0_7, c0_7, rfl, (hF.ext he).below, (hX0_6.below (hF.ext he).below), (hX0_7.below (hF.ext he).below)⟩
          ·have h := bif_f h hc10
           refine ok_if (fun hc11 => ?_) (fun hc11 => ?_)
           ·have h := bif_t h hc11
            obtain rfl := Option.some.inj h
            intro ρ L w' _ he _ _
            exact ⟨none, 0, A0_7, c0_7, rfl, (hF.ext he).below, SlR.nil, (hX0_7.below (hF.ext he).below)⟩
           ·have h := bif_f h hc11
            obtain rfl := Option.some.inj h
            intro ρ L w' _ he _ _
            exact ⟨A0_6, c0_6, A0_7, c0_7, rfl, (hF.ext he).below, (hX0_6.below (hF.ext he).below), (hX0_7.below (hF.ext he).below)⟩
def frames_May.F (k : Nat) (a0_0 : Int) (a0_1 : Int) (a0_2 : Int) (a0_3 : Int) (a0_4 : Int) (a0_5 : Bool) (l0_6 : List Int) (l0_7 : List (Int × Int)) : Option Bool := (frames_spare.F k a0_0 a0_1 a0_2 a0_3 a0_4 a0_5 l0_6 l0_7).bind fun (v0_0, v0_1, v0_2, v0_3, v0_4, v0_5, s0_6, s0_7, v0_8) => bif v0_8 then (bif v0_1 == 0 then (bif v0_2 == 0 then (bif v0_3 == 0 then (bif v0_4 == 0 then (bif v0_5 then (some false) else (bif ((s0_6.length : Nat) : Int) == 0 then (bif ((s0_7.length : Nat) : Int) == 0 then ((frames_numbers.F k (([(a0_1), (a0_2), (a0_3), (a0_4)] : List Int))).bind fun v2_0 => bif v2_0 then (bif decide (((l0_6.length : Nat) : Int) ≤ 1200) then (bif decide (a0_2 ≤ IntKind.i64.wrap (4611686018427387903 - ((l0_6.length : Nat) : Int))) then (bif a0_0 != 2 then (some true) else ((frames_spans.F k l0_7).bind fun v3_0 => bif v3_0 then (some true) else (some false))) else (some false)) else (some false)) else (some false)) else (some false)) else (some false))) else (some false)) else (some false)) else (some false)) else (some false)) else (bif v0_1 == 0 then (bif v0_2 == 0 then (bif v0_3 == 0 then (bif v0_4 == 0 then (bif v0_5 then (some false) else (bif ((s0_6.length : Nat) : Int) == 0 then (bif ((s0_7.length : Nat) : Int) == 0 then (some false) else (some false)) else (some false))) else (some false)) else (some false)) else (some false)) else (some false))
abbrev frames_May.A : Nat → LA := noA
set_option maxHeartbeats 4000000 in
theorem frames_May.t (a0_0 : Int) (a0_1 : Int) (a0_2 : Int) (a0_3 : Int) (a0_4 : Int) (a0_5 : Bool) (A0_6 : Option Addr) (n0_6 c0_6 : Nat) (A0_7 : Option Addr) (n0_7 c0_7 : Nat) : tree Try.prog frames_May.A noC Try.f18 [AV.agg [AV.v (.int .i64 a0_0), AV.v (.int .i64 a0_1), AV.v (.int .i64 a0_2), AV.v (.int .i64 a0_3), AV.v (.int .i64 a0_4), AV.v (Value.bool a0_5), AV.v (Value.slice A0_6 n0_6 c0_6), AV.v (Value.slice A0_7 n0_7 c0_7)]] [] =
  .call 37 ([AV.agg [AV.v (.int .i64 a0_0), AV.v (.int .i64 a0_1), AV.v (.int .i64 a0_2), AV.v (.int .i64 a0_3), AV.v (.int .i64 a0_4), AV.v (Value.bool a0_5), AV.v (Value.slice A0_6 n0_6 c0_6), AV.v (Value.slice A0_7 n0_7 c0_7)]]) ([]) (Sh.tup [(true, 8), (false, 1)]) ([Lf.i .i64, Lf.i .i64, Lf.i .i64, Lf.i .i64, Lf.i .i64, Lf.b, Lf.sl, Lf.sl, Lf.b]) ([]) (fun x0 =>
   bif x0.2.2.2.2.2.2.2.2.1 then (
    bif x0.2.1 == 0 then (
     bif x0.2.2.1 == 0 then (
      bif x0.2.2.2.1 == 0 then (
       bif x0.2.2.2.2.1 == 0 then (
        bif x0.2.2.2.2.2.1 then (
         .done (AV.v (Value.bool false)) ([]))
        else (
         bif ((x0.2.2.2.2.2.2.1.2.1 : Nat) : Int) == 0 then (
          bif ((x0.2.2.2.2.2.2.2.1.2.1 : Nat) : Int) == 0 then (
           .sem (Instr.buildSlice 76 4 { toList := [(0, Value.int IntKind.i64 a0_1), (1, Value.int IntKind.i64 a0_2), (2, Value.int IntKind.i64 a0_3), (3, Value.int IntKind.i64 a0_4)] }) ([Lf.sl]) (Sh.one) (fun x1 =>
            .call 38 ([AV.v (Value.slice x1.1.1 x1.1.2.1 x1.1.2.2)]) ([]) (Sh.one) ([Lf.b]) ([]) (fun x2 =>
             bif x2.1 then (
              bif decide (((n0_6 : Nat) : Int) ≤ 1200) then (
               bif decide (a0_2 ≤ IntKind.i64.wrap (4611686018427387903 - ((n0_6 : Nat) : Int))) then (
                bif a0_0 != 2 then (
                 .done (AV.v (Value.bool true)) ([]))
                else (
                 .call 39 ([AV.v (Value.slice A0_7 n0_7 c0_7)]) ([]) (Sh.one) ([Lf.b]) ([]) (fun x3 =>
                  bif x3.1 then (
                   .done (AV.v (Value.bool true)) ([]))
                  else (
                   .done (AV.v (Value.bool false)) ([])))))
               else (
                .done (AV.v (Value.bool false)) ([])))
              else (
               .done (AV.v (Value.bool false)) ([])))
             else (
              .done (AV.v (Value.bool false)) ([])))))
          else (
           .done (AV.v (Value.bool false)) ([])))
         else (
          .done (AV.v (Value.bool false)) ([]))))
       else (
        .done (AV.v (Value.bool false)) ([])))
      else (
       .done (AV.v (Value.bool false)) ([])))
     else (
      .done (AV.v (Value.bool false)) ([])))
    else (
     .done (AV.v (Value.bool false)) ([])))
   else (
    bif x0.2.1 == 0 then (
     bif x0.2.2.1 == 0 then (
      bif x0.2.2.2.1 == 0 then (
       bif x0.2.2.2.2.1 == 0 then (
        bif x0.2.2.2.2.2.1 then (
         .done (AV.v (Value.bool false)) ([]))
        else (
         bif ((x0.2.2.2.2.2.2.1.2.1 : Nat) : Int) == 0 then (
          bif ((x0.2.2.2.2.2.2.2.1.2.1 : Nat) : Int) == 0 then (
           .done (AV.v (Value.bool false)) ([]))
          else (
           .done (AV.v (Value.bool false)) ([])))
         else (
          .done (AV.v (Value.bool false)) ([]))))
       else (
        .done (AV.v (Value.bool false)) ([])))
      else (
       .done (AV.v (Value.bool false)) ([])))
     else (
      .done (AV.v (Value.bool false)) ([])))
    else (
     .done (AV.v (Value.bool false)) ([])))) := by kernel_rfl
set_option maxHeartbeats 4000000 in
theorem frames_May.c (k : Nat) (a0_0 : Int) (a0_1 : Int) (a0_2 : Int) (a0_3 : Int) (a0_4 : Int) (a0_5 : Bool) (A0_6 : Option Addr) (n0_6 c0_6 : Nat) (l0_6 : List Int) (A0_7 : Option Addr) (n0_7 c0_7 : Nat) (l0_7 : List (Int × Int)) (r : Bool) (h : frames_May.F k a0_0 a0_1 a0_2 a0_3 a0_4 a0_5 l0_6 l0_7 = some r) (hn0_6 : n0_6 = l0_6.length) (hn0_7 : n0_7 = l0_7.length) (w : World) (hS0_6 : SlR R23.row (fun _ => False) w A0_6 c0_6 l0_6) (hS0_7 : SlR R34.row (fun _ => False) w A0_7 c0_7 l0_7) : Calls Try.prog 18 (AV.gs id [AV.agg [AV.v (.int .i64 a0_0), AV.v (.int .i64 a0_1), AV.v (.int .i64 a0_2), AV.v (.int .i64 a0_3), AV.v (.int .i64 a0_4), AV.v (Value.bool a0_5), AV.v (Value.slice A0_6 n0_6 c0_6), AV.v (Value.slice A0_7 n0_7 c0_7)]]).toArray w fun e w' => e = .returned (((Sh.one : Sh).av (vs [Lf.b] (r, ()))).g id) ∧ Below w.heap.size w w' := by
 subst hn0_6
 subst hn0_7
 refine enter0 mixed frames_May.A noC [AV.agg [AV.v (.int .i64 a0_0), AV.v (.int .i64 a0_1), AV.v (.int .i64 a0_2), AV.v (.int .i64 a0_3), AV.v (.int .i64 a0_4), AV.v (Value.bool a0_5), AV.v (Value.slice A0_6 l0_6.length c0_6), AV.v (Value.slice A0_7 l0_7.length c0_7)]] Try.func18 rfl rfl rfl (fun hF => ?_)
 rw [frames_May.t]
 unfold frames_May.F at h
 try dsimp only at h
 obtain ⟨r0, hr0, h⟩ := bse h
 obtain ⟨v0_0, v0_1, v0_2, v0_3, v0_4, v0_5, s0_6, s0_7, v0_8⟩ := r0
 try dsimp only at h
 refine ok_callm rfl (fun L0 w0 g0 lt0 => ?_)
 refine (frames_spare.c k a0_0 a0_1 a0_2 a0_3 a0_4 a0_5 _ _ _ l0_6 _ _ _ l0_7 (v0_0, v0_1, v0_2, v0_3, v0_4, v0_5, s0_6, s0_7, v0_8) hr0 rfl rfl w0 L0 (hS0_6.later (hF.trans g0)) (hS0_7.later (hF.trans g0))).mono ?_
 rintro e w0' ⟨A0_6, c0_6, A0_7, c0_7, rfl, hb0, hO0_6, hO0_7⟩
 refine ⟨(v0_0, v0_1, v0_2, v0_3, v0_4, v0_5, (A0_6, s0_6.length, c0_6), (A0_7, s0_7.length, c0_7), v0_8, ()), rfl, hb0, fun g0' => ?_⟩
 try dsimp only
 have hF := hF.trans g0'
 refine ok_if (fun hc3 => ?_) (fun hc3 => ?_)
 ·have h := bif_t h hc3
  refine ok_if (fun hc4 => ?_) (fun hc4 => ?_)
  ·have h := bif_t h hc4
   refine ok_if (fun hc5 => ?_) (fun hc5 => ?_)
   ·have h := bif_t h hc5
    refine ok_if (fun hc6 => ?_) (fun hc6 => ?_)
    ·have h := bif_t h hc6
     refine ok_if (fun hc7 => ?_) (fun hc7 => ?_)
     ·have h := bif_t h hc7
      refine ok_if (fun hc8 => ?_) (fun hc8 => ?_)
      ·have h := bif_t h hc8
       obtain rfl := Option.some.inj h
       intro ρ L w' _ he _ _
       exact ⟨rfl, (hF.ext he).below⟩
      ·have h := bif_f h hc8
       refine ok_if (fun hc9 => ?_) (fun hc9 => ?_)
       ·have h := bif_t h hc9
        refine ok_if (fun hc10 => ?_) (fun hc10 => ?_)
        ·have h := bif_t h hc10
         refine ok_lit (R := R76) (base := w.heap.size) (xs := ([(a0_1), (a0_2), (a0_3), (a0_4)] : List Int)) #[Value.int IntKind.i64 a0_1, Value.int IntKind.i64 a0_2, Value.int IntKind.i64 a0_3, Value.int IntKind.i64 a0_4] E76 rfl (by decide) (by decide) ⟨_, _, rfl, rfl, by kernel_rfl⟩ rfl hF.size (fun Ax1 cx1 L1 w1 hO1 g1 hbl1 => ?_)
         try dsimp only
         have hF := hF.trans g1
         have hO0_6 := hO0_6.later g1
         have hO0_7 := hO0_7.later g1
         obtain ⟨v2_0, hr2, h⟩ := bse h
         refine ok_callm rfl (fun L2 w2 g2 lt2 => ?_)
         refine (frames_numbers.c k _ _ _ (([(a0_1), (a0_2), (a0_3), (a0_4)] : List Int)) v2_0 hr2 rfl w2 (hO1.later g2).sl.bare).mono ?_
         rintro e w2' ⟨rfl, hb2⟩
         refine ⟨(v2_0, ()), rfl, hb2, fun g2' => ?_⟩
         try dsimp only
         have hF := hF.trans g2'
         have hO1 := hO1.later g2'
         have hO0_6 := hO0_6.later g2'
         have hO0_7 := hO0_7.later g2'
         refine ok_if (fun hc12 => ?_) (fun hc12 => ?_)
         ·have h := bif_t h hc12
          refine ok_if (fun hc13 => ?_) (fun hc13 => ?_)
          ·have h := bif_t h hc13
           refine ok_if (fun hc14 => ?_) (fun hc14 => ?_)
           ·have h := bif_t h hc14
            refine ok_if (fun hc15 => ?_) (fun hc15 => ?_)
            ·have h := bif_t h hc15
             obtain rfl := Option.some.inj h
             intro ρ L w' _ he _ _
             exact ⟨rfl, (hF.ext he).below⟩
            ·have h := bif_f h hc15
             obtain ⟨v3_0, hr3, h⟩ := bse h
             refine ok_callm rfl (fun L3 w3 g3 lt3 => ?_)
             refine (frames_spans.c k _ _ _ l0_7 v3_0 hr3 rfl w3 (hS0_7.later (hF.trans g3)).bare).mono ?_
             rintro e w3' ⟨rfl, hb3⟩
             refine ⟨(v3_0, ()), rfl, hb3, fun g3' => ?_⟩
             try dsimp only
             have hF := hF.trans g3'
             have hO1 := hO1.later g3'
             have hO0_6 := hO0_6.later g3'
             have hO0_7 := hO0_7.later g3'
             refine ok_if (fun hc16 => ?_) (fun hc16 => ?_)
             ·have h := bif_t h hc16
              obtain rfl := Option.some.inj h
              intro ρ L w' _ he _ _
              exact ⟨rfl, (hF.ext he).below⟩
             ·have h := bif_f h hc16
              obtain rfl := Option.some.inj h
              intro ρ L w' _ he _ _
              exact ⟨rfl, (hF.ext he).below⟩
           ·have h := bif_f h hc14
            obtain rfl := Option.some.inj h
            intro ρ L w' _ he _ _
            exact ⟨rfl, (hF.ext he).below⟩
          ·have h := bif_f h hc13
           obtain rfl := Option.some.inj h
           intro ρ L w' _ he _ _
           exact ⟨rfl, (hF.ext he).below⟩
         ·have h := bif_f h hc12
          obtain rfl := Option.some.inj h
          intro ρ L w' _ he _ _
          exact ⟨rfl, (hF.ext he).below⟩
        ·have h := bif_f h hc10
         obtain rfl := Option.some.inj h
         intro ρ L w' _ he _ _
         exact ⟨rfl, (hF.ext he).below⟩
       ·have h := bif_f h hc9
        obtain rfl := Option.some.inj h
        intro ρ L w' _ he _ _
        exact ⟨rfl, (hF.ext he).below⟩
     ·have h := bif_f h hc7
      obtain rfl := Option.some.inj h
      intro ρ L w' _ he _ _
      exact ⟨rfl, (hF.ext he).below⟩
    ·have h := bif_f h hc6
     obtain rfl := Option.some.inj h
     intro ρ L w' _ he _ _
     exact ⟨rfl, (hF.ext he).below⟩
   ·have h := bif_f h hc5
    obtain rfl := Option.some.inj h
    intro ρ L w' _ he _ _
    exact ⟨rfl, (hF.ext he).below⟩
  ·have h := bif_f h hc4
   obtain rfl := Option.some.inj h
   intro ρ L w' _ he _ _
   exact ⟨rfl, (hF.ext he).below⟩
 ·have h := bif_f h hc3
  refine ok_if (fun hc17 => ?_) (fun hc17 => ?_)
  ·have h := bif_t h hc17
   refine ok_if (fun hc18 => ?_) (fun hc18 => ?_)
   ·have h := bif_t h hc18
    refine ok_if (fun hc19 => ?_) (fun hc19 => ?_)
    ·have h := bif_t h hc19
     refine ok_if (fun hc20 => ?_) (fun hc20 => ?_)
     ·have h := bif_t h hc20
      refine ok_if (fun hc21 => ?_) (fun hc21 => ?_)
      ·have h := bif_t h hc21
       obtain rfl := Option.some.inj h
       intro ρ L w' _ he _ _
       exact ⟨rfl, (hF.ext he).below⟩
      ·have h := bif_f h hc21
       refine ok_if (fun hc22 => ?_) (fun hc22 => ?_)
       ·have h := bif_t h hc22
        refine ok_if (fun hc23 => ?_) (fun hc23 => ?_)
        ·have h := bif_t h hc23
         obtain rfl := Option.some.inj h
         intro ρ L w' _ he _ _
         exact ⟨rfl, (hF.ext he).below⟩
        ·have h := bif_f h hc23
         obtain rfl := Option.some.inj h
         intro ρ L w' _ he _ _
         exact ⟨rfl, (hF.ext he).below⟩
       ·have h := bif_f h hc22
        obtain rfl := Option.some.inj h
        intro ρ L w' _ he _ _
        exact ⟨rfl, (hF.ext he).below⟩
     ·have h := bif_f h hc20
      obtain rfl := Option.some.inj h
      intro ρ L w' _ he _ _
      exact ⟨rfl, (hF.ext he).below⟩
    ·have h := bif_f h hc19
     obtain rfl := Option.some.inj h
     intro ρ L w' _ he _ _
     exact ⟨rfl, (hF.ext he).below⟩
   ·have h := bif_f h hc18
    obtain rfl := Option.some.inj h
    intro ρ L w' _ he _ _
    exact ⟨rfl, (hF.ext he).below⟩
  ·have h := bif_f h hc17
   obtain rfl := Option.some.inj h
   intro ρ L w' _ he _ _
   exact ⟨rfl, (hF.ext he).below⟩
def frames_Asks.F (k : Nat) (a0_0 : Int) (a0_1 : Int) (a0_2 : Int) (a0_3 : Int) (a0_4 : Int) (a0_5 : Bool) (l0_6 : List Int) (l0_7 : List (Int × Int)) : Option Bool := bif a0_0 == 0 then (some false) else (bif a0_0 == 2 then (some false) else (bif a0_0 == 28 then (some false) else (some true)))
abbrev frames_Asks.A : Nat → LA := noA
set_option maxHeartbeats 4000000 in
theorem frames_Asks.t (a0_0 : Int) (a0_1 : Int) (a0_2 : Int) (a0_3 : Int) (a0_4 : Int) (a0_5 : Bool) (A0_6 : Option Addr) (n0_6 c0_6 : Nat) (A0_7 : Option Addr) (n0_7 c0_7 : Nat) : tree Try.prog frames_Asks.A noC Try.f19 [AV.agg [AV.v (.int .i64 a0_0), AV.v (.int .i64 a0_1), AV.v (.int .i64 a0_2), AV.v (.int .i64 a0_3), AV.v (.int .i64 a0_4), AV.v (Value.bool a0_5), AV.v (Value.slice A0_6 n0_6 c0_6), AV.v (Value.slice A0_7 n0_7 c0_7)]] [] =
  bif a0_0 == 0 then (
   .done (AV.v (Value.bool false)) ([]))
  else (
   bif a0_0 == 2 then (
    .done (AV.v (Value.bool false)) ([]))
   else (
    bif a0_0 == 28 then (
     .done (AV.v (Value.bool false)) ([]))
    else (
     .done (AV.v (Value.bool true)) ([])))) := by kernel_rfl
set_option maxHeartbeats 4000000 in
theorem frames_Asks.c (k : Nat) (a0_0 : Int) (a0_1 : Int) (a0_2 : Int) (a0_3 : Int) (a0_4 : Int) (a0_5 : Bool) (A0_6 : Option Addr) (n0_6 c0_6 : Nat) (l0_6 : List Int) (A0_7 : Option Addr) (n0_7 c0_7 : Nat) (l0_7 : List (Int × Int)) (r : Bool) (h : frames_Asks.F k a0_0 a0_1 a0_2 a0_3 a0_4 a0_5 l0_6 l0_7 = some r) (hn0_6 : n0_6 = l0_6.length) (hn0_7 : n0_7 = l0_7.length) (w : World) (hS0_6 : SlR R23.row (fun _ => False) w A0_6 c0_6 l0_6) (hS0_7 : SlR R34.row (fun _ => False) w A0_7 c0_7 l0_7) : Calls Try.prog 19 (AV.gs id [AV.agg [AV.v (.int .i64 a0_0), AV.v (.int .i64 a0_1), AV.v (.int .i64 a0_2), AV.v (.int .i64 a0_3), AV.v (.int .i64 a0_4), AV.v (Value.bool a0_5), AV.v (Value.slice A0_6 n0_6 c0_6), AV.v (Value.slice A0_7 n0_7 c0_7)]]).toArray w fun e w' => e = .returned (((Sh.one : Sh).av (vs [Lf.b] (r, ()))).g id) ∧ Below w.heap.size w w' := by
 subst hn0_6
 subst hn0_7
 refine enter0 mixed frames_Asks.A noC [AV.agg [AV.v (.int .i64 a0_0), AV.v (.int .i64 a0_1), AV.v (.int .i64 a0_2), AV.v (.int .i64 a0_3), AV.v (.int .i64 a0_4), AV.v (Value.bool a0_5), AV.v (Value.slice A0_6 l0_6.length c0_6), AV.v (Value.slice A0_7 l0_7.length c0_7)]] Try.func19 rfl rfl rfl (fun hF => ?_)
 rw [frames_Asks.t]
 unfold frames_Asks.F at h
 try dsimp only at h
 refine ok_if (fun hc1 => ?_) (fun hc1 => ?_)
 ·have h := bif_t h hc1
  obtain rfl := Option.some.inj h
  intro ρ L w' _ he _ _
  exact ⟨rfl, (hF.ext he).below⟩
 ·have h := bif_f h hc1
  refine ok_if (fun hc2 => ?_) (fun hc2 => ?_)
  ·have h := bif_t h hc2
   obtain rfl := Option.some.inj h
   intro ρ L w' _ he _ _
   exact ⟨rfl, (hF.ext he).below⟩
  ·have h := bif_f h hc2
   refine ok_if (fun hc3 => ?_) (fun hc3 => ?_)
   ·have h := bif_t h hc3
    obtain rfl := Option.some.inj h
    intro ρ L w' _ he _ _
    exact ⟨rfl, (hF.ext he).below⟩
   ·have h := bif_f h hc3
    obtain rfl := Option.some.inj h
    intro ρ L w' _ he _ _
    exact ⟨rfl, (hF.ext he).below⟩
end Go.Proofs.Ytpdchohbmmfemaa.X
