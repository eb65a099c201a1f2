/- Functions: their trees, functions over lists that answer as they do, and that they do. -/
import Derived.Test.YtnfaneojdfjepaaRxU
import Derived.Test.YtnfaneojdfjepaaRxSeat
import Derived.Test.YtnfaneojdfjepaaProg
import Derived.Test.YtnfaneojdfjepaaGa
namespace Go.Proofs.Ytnfaneojdfjepaa.X
open Go Go.RowKit Go.Proofs.YtnfaneojdfjepaaW.Rx
set_option linter.unusedVariables false
set_option linter.unusedSimpArgs false
set_option maxRecDepth 10000
/-! ### turnbuckle/spans.Count: function 14 -/
def spans_Count.s1 (k : Nat) (l0 : List (Int × Int)) : (Int × Int) → Option (Sum (Int × Int) Int) := fun (v1_0, v1_1) => bif decide (v1_1 < ((l0.length : Nat) : Int)) then ((getI l0 v1_1).bind fun r4 => some (.inl ((IntKind.wrap IntKind.i64 (v1_0 + IntKind.wrap IntKind.i64 (IntKind.wrap IntKind.i64 (r4.2 - r4.1) + 1)), IntKind.wrap IntKind.i64 (v1_1 + 1))))) else (some (.inr v1_0))
def spans_Count.F (k : Nat) (l0 : List (Int × Int)) : Option Int := (spans_Right.F k l0).bind fun v0_0 => bif v0_0 then (iter (spans_Count.s1 k l0) k (0, 0)) else (some 0)
abbrev spans_Count.A : Nat → LA := fun r => if r = 4 then ⟨[(3, false, [Lf.i IntKind.i64]), (10, false, [Lf.i IntKind.i64])], []⟩ else ⟨[], []⟩
set_option maxHeartbeats 4000000 in
theorem spans_Count.t (A0 : Option Addr) (n0 c0 : Nat) : tree Try.prog spans_Count.A noC Try.f14 [AV.v (Value.slice A0 n0 c0)] [] =
  .call 10 ([AV.v (Value.slice A0 n0 c0)]) ([]) (Sh.one) ([Lf.b]) ([]) (fun x0 =>
   bif x0.1 then (
    .loop ([Lf.i IntKind.i64, Lf.i IntKind.i64]) ((0, 0, PUnit.unit)) 0 (fun x1 =>
     bif decide (x1.2.1 < ((n0 : Nat) : Int)) then (
      .need (decide (0 ≤ x1.2.1) && decide (x1.2.1 < ((n0 : Nat) : Int)) && Option.isSome A0) (
      .ld (Option.map (fun x => Addr.add x (Int.toNat x1.2.1 * 2)) A0) ([Lf.i IntKind.i64, Lf.i IntKind.i64]) (fun x2 =>
       .again 0 ([Lf.i IntKind.i64, Lf.i IntKind.i64]) ((IntKind.wrap IntKind.i64 (x1.1 + IntKind.wrap IntKind.i64 (IntKind.wrap IntKind.i64 (x2.2.1 - x2.1) + 1)), IntKind.wrap IntKind.i64 (x1.2.1 + 1), PUnit.unit)))))
     else (
      .done (AV.v (Value.int IntKind.i64 x1.1)) ([]))))
   else (
    .done (AV.v (Value.int IntKind.i64 0)) ([]))) := by kernel_rfl
set_option maxHeartbeats 4000000 in
theorem spans_Count.c (k : Nat) (A0 : Option Addr) (n0 c0 : Nat) (l0 : List (Int × Int)) (r : Int) (h : spans_Count.F k l0 = some r) (hn0 : n0 = l0.length) (w : World) (hS0 : SlR R22.row (fun _ => False) w A0 c0 l0) : Calls Try.prog 14 (AV.gs id [AV.v (Value.slice A0 n0 c0)]).toArray w fun e w' => e = .returned (((Sh.one : Sh).av (vs [Lf.i IntKind.i64] (r, ()))).g id) ∧ Below w.heap.size w w' := by
  subst hn0
  refine enter0 mixed spans_Count.A noC [AV.v (Value.slice A0 l0.length c0)] Try.func14 rfl rfl rfl (fun hF => ?_)
  rw [spans_Count.t]
  unfold spans_Count.F at h
  try dsimp only at h
  obtain ⟨v0_0, hr0, h⟩ := Option.bind_eq_some_iff.1 h
  refine ok_callm rfl (fun L0 w0 g0 lt0 => ?_)
  refine (spans_Right.c k _ _ _ l0 v0_0 hr0 rfl w0 (hS0.later (hF.trans g0)).bare).mono ?_
  rintro e w0' ⟨rfl, hb0⟩
  refine ⟨(v0_0, ()), rfl, hb0, fun g0' => ?_⟩
  try dsimp only
  have hF := hF.trans g0'
  refine ok_if (fun hc1 => ?_) (fun hc1 => ?_)
  · have h := bif_t h hc1
    obtain ⟨I1, hI1⟩ : ∃ I : Nat → Tup [Lf.i IntKind.i64, Lf.i IntKind.i64] → (Nat → Prop) → World → Prop, I = (fun m_ y L w' => ∃ (v1_0 : Int) (v1_1 : Int), y = (v1_0, v1_1, ()) ∧ iter (spans_Count.s1 k l0) m_ (v1_0, v1_1) = some r ∧ Fine (fun _ => False) w L w') := ⟨_, rfl⟩
    refine ok_loop I1 k (by rw [hI1]; exact ⟨_, _, rfl, h, hF⟩) ?_
    clear h
    intro m_ y L1 w1 hy
    rw [hI1] at hy
    obtain ⟨v1_0, v1_1, rfl, h, hF⟩ := hy
    obtain ⟨m1, o1, rfl, h, hl1, hr_1⟩ := iter_some h
    unfold spans_Count.s1 at h
    try dsimp only at h
    try dsimp only
    refine ok_if (fun hc3 => ?_) (fun hc3 => ?_)
    · have h := bif_t h hc3
      obtain ⟨r4, hr5, h⟩ := Option.bind_eq_some_iff.1 h
      refine ok_need (getI_need (hS0.later hF) hr5) ?_
      refine ok_get hS0 hF hr5 (by simp) (fun cs hcs => ⟨(r4.1, r4.2, ()), hcs.symm, ?_⟩)
      try dsimp only
      obtain rfl := Option.some.inj h
      have h := hl1 _ rfl
      exact ok_again (I := I1) m1 (Nat.lt_succ_self _) (fun L w' he => by rw [hI1]; exact ⟨_, _, rfl, h, hF.trans he.fine⟩)
    · have h := bif_f h hc3
      obtain rfl := Option.some.inj h
      obtain rfl := hr_1 _ rfl
      intro ρ L w' _ he _ _
      exact ⟨rfl, (hF.ext he).below⟩
  · have h := bif_f h hc1
    obtain rfl := Option.some.inj h
    intro ρ L w' _ he _ _
    exact ⟨rfl, (hF.ext he).below⟩
/-! ### turnbuckle/turnbuckleref05.Count: function 15 -/
def ref05_Count.s1 (k : Nat) (l0 : List (Int × Int)) : (Int × Int) → Option (Sum (Int × Int) Int) := fun (v1_0, v1_1) => bif decide (v1_1 < ((l0.length : Nat) : Int)) then ((getI l0 v1_1).bind fun r4 => (getI l0 v1_1).bind fun r6 => some (.inl ((IntKind.wrap IntKind.i64 (v1_0 + IntKind.wrap IntKind.i64 (IntKind.wrap IntKind.i64 (r4.2 - r6.1) + 1)), IntKind.wrap IntKind.i64 (v1_1 + 1))))) else (some (.inr v1_0))
def ref05_Count.F (k : Nat) (l0 : List (Int × Int)) : Option Int := (ref05_Right.F k l0).bind fun v0_0 => bif v0_0 then (iter (ref05_Count.s1 k l0) k (0, 0)) else (some 0)
abbrev ref05_Count.A : Nat → LA := fun r => if r = 5 then ⟨[(3, false, [Lf.i IntKind.i64]), (4, false, [Lf.i IntKind.i64])], []⟩ else ⟨[], []⟩
set_option maxHeartbeats 4000000 in
theorem ref05_Count.t (A0 : Option Addr) (n0 c0 : Nat) : tree Try.prog ref05_Count.A noC Try.f15 [AV.v (Value.slice A0 n0 c0)] [] =
  .call 11 ([AV.v (Value.slice A0 n0 c0)]) ([]) (Sh.one) ([Lf.b]) ([]) (fun x0 =>
   bif x0.1 then (
    .loop ([Lf.i IntKind.i64, Lf.i IntKind.i64]) ((0, 0, PUnit.unit)) 0 (fun x1 =>
     bif decide (x1.2.1 < ((n0 : Nat) : Int)) then (
      .need (decide (0 ≤ x1.2.1) && decide (x1.2.1 < ((n0 : Nat) : Int)) && Option.isSome A0) (
      .need (Option.isSome (Option.map (fun x => Addr.add x (Int.toNat x1.2.1 * 2)) A0)) (
      .ld (Option.map (fun x => Addr.add x 1) (Option.map (fun x => Addr.add x (Int.toNat x1.2.1 * 2)) A0)) ([Lf.i IntKind.i64]) (fun x2 =>
       .need (decide (0 ≤ x1.2.1) && decide (x1.2.1 < ((n0 : Nat) : Int)) && Option.isSome A0) (
       .need (Option.isSome (Option.map (fun x => Addr.add x (Int.toNat x1.2.1 * 2)) A0)) (
       .ld (Option.map (fun x => Addr.add x 0) (Option.map (fun x => Addr.add x (Int.toNat x1.2.1 * 2)) A0)) ([Lf.i IntKind.i64]) (fun x3 =>
        .again 0 ([Lf.i IntKind.i64, Lf.i IntKind.i64]) ((IntKind.wrap IntKind.i64 (x1.1 + IntKind.wrap IntKind.i64 (IntKind.wrap IntKind.i64 (x2.1 - x3.1) + 1)), IntKind.wrap IntKind.i64 (x1.2.1 + 1), PUnit.unit)))))))))
     else (
      .done (AV.v (Value.int IntKind.i64 x1.1)) ([]))))
   else (
    .done (AV.v (Value.int IntKind.i64 0)) ([]))) := by kernel_rfl
set_option maxHeartbeats 4000000 in
theorem ref05_Count.c (k : Nat) (A0 : Option Addr) (n0 c0 : Nat) (l0 : List (Int × Int)) (r : Int) (h : ref05_Count.F k l0 = some r) (hn0 : n0 = l0.length) (w : World) (hS0 : SlR R22.row (fun _ => False) w A0 c0 l0) : Calls Try.prog 15 (AV.gs id [AV.v (Value.slice A0 n0 c0)]).toArray w fun e w' => e = .returned (((Sh.one : Sh).av (vs [Lf.i IntKind.i64] (r, ()))).g id) ∧ Below w.heap.size w w' := by
  subst hn0
  refine enter0 mixed ref05_Count.A noC [AV.v (Value.slice A0 l0.length c0)] Try.func15 rfl rfl rfl (fun hF => ?_)
  rw [ref05_Count.t]
  unfold ref05_Count.F at h
  try dsimp only at h
  obtain ⟨v0_0, hr0, h⟩ := Option.bind_eq_some_iff.1 h
  refine ok_callm rfl (fun L0 w0 g0 lt0 => ?_)
  refine (ref05_Right.c k _ _ _ l0 v0_0 hr0 rfl w0 (hS0.later (hF.trans g0)).bare).mono ?_
  rintro e w0' ⟨rfl, hb0⟩
  refine ⟨(v0_0, ()), rfl, hb0, fun g0' => ?_⟩
  try dsimp only
  have hF := hF.trans g0'
  refine ok_if (fun hc1 => ?_) (fun hc1 => ?_)
  · have h := bif_t h hc1
    obtain ⟨I1, hI1⟩ : ∃ I : Nat → Tup [Lf.i IntKind.i64, Lf.i IntKind.i64] → (Nat → Prop) → World → Prop, I = (fun m_ y L w' => ∃ (v1_0 : Int) (v1_1 : Int), y = (v1_0, v1_1, ()) ∧ iter (ref05_Count.s1 k l0) m_ (v1_0, v1_1) = some r ∧ Fine (fun _ => False) w L w') := ⟨_, rfl⟩
    refine ok_loop I1 k (by rw [hI1]; exact ⟨_, _, rfl, h, hF⟩) ?_
    clear h
    intro m_ y L1 w1 hy
    rw [hI1] at hy
    obtain ⟨v1_0, v1_1, rfl, h, hF⟩ := hy
    obtain ⟨m1, o1, rfl, h, hl1, hr_1⟩ := iter_some h
    unfold ref05_Count.s1 at h
    try dsimp only at h
    try dsimp only
    refine ok_if (fun hc3 => ?_) (fun hc3 => ?_)
    · have h := bif_t h hc3
      obtain ⟨r4, hr5, h⟩ := Option.bind_eq_some_iff.1 h
      refine ok_need (getI_need (hS0.later hF) hr5) ?_
      refine ok_need (getI_need2 (hS0.later hF) hr5) ?_
      refine ok_getf 1 hS0 hF hr5 (fun cs hcs => ⟨r4.2, by rw [hcs]; rfl, ?_⟩)
      try dsimp only
      obtain ⟨r6, hr7, h⟩ := Option.bind_eq_some_iff.1 h
      refine ok_need (getI_need (hS0.later hF) hr7) ?_
      refine ok_need (getI_need2 (hS0.later hF) hr7) ?_
      refine ok_getf 0 hS0 hF hr7 (fun cs hcs => ⟨r6.1, by rw [hcs]; rfl, ?_⟩)
      try dsimp only
      obtain rfl := Option.some.inj h
      have h := hl1 _ rfl
      exact ok_again (I := I1) m1 (Nat.lt_succ_self _) (fun L w' he => by rw [hI1]; exact ⟨_, _, rfl, h, hF.trans he.fine⟩)
    · have h := bif_f h hc3
      obtain rfl := Option.some.inj h
      obtain rfl := hr_1 _ rfl
      intro ρ L w' _ he _ _
      exact ⟨rfl, (hF.ext he).below⟩
  · have h := bif_f h hc1
    obtain rfl := Option.some.inj h
    intro ρ L w' _ he _ _
    exact ⟨rfl, (hF.ext he).below⟩
/-! ### turnbuckle/turnbuckleref05.Has: function 13 -/
def ref05_Has.s0 (k : Nat) (a1 : Int) (l0 : List (Int × Int)) : (Bool × Int) → Option (Sum (Bool × Int) Bool) := fun (v0_0, v0_1) => bif decide (v0_1 < ((l0.length : Nat) : Int)) then (bif v0_0 then (some (.inl ((true, IntKind.wrap IntKind.i64 (v0_1 + 1))))) else ((getI l0 v0_1).bind fun r4 => bif decide (r4.1 ≤ a1) then ((getI l0 v0_1).bind fun r7 => bif decide (a1 ≤ r7.2) then (some (.inl ((true, IntKind.wrap IntKind.i64 (v0_1 + 1))))) else (some (.inl ((false, IntKind.wrap IntKind.i64 (v0_1 + 1)))))) else (some (.inl ((false, IntKind.wrap IntKind.i64 (v0_1 + 1))))))) else (bif v0_0 then ((ref05_Right.F k l0).bind fun v1_0 => bif v1_0 then (some (.inr true)) else (some (.inr false))) else (some (.inr false)))
def ref05_Has.F (k : Nat) (l0 : List (Int × Int)) (a1 : Int) : Option Bool := iter (ref05_Has.s0 k a1 l0) k (false, 0)
abbrev ref05_Has.A : Nat → LA := fun r => if r = 3 then ⟨[(5, false, [Lf.b]), (6, false, [Lf.i IntKind.i64])], []⟩ else ⟨[], []⟩
set_option maxHeartbeats 4000000 in
theorem ref05_Has.t (A0 : Option Addr) (n0 c0 : Nat) (a1 : Int) : tree Try.prog ref05_Has.A noC Try.f13 [AV.v (Value.slice A0 n0 c0), AV.v (Value.int IntKind.i64 a1)] [] =
  .loop ([Lf.b, Lf.i IntKind.i64]) ((false, 0, PUnit.unit)) 0 (fun x0 =>
   bif decide (x0.2.1 < ((n0 : Nat) : Int)) then (
    bif x0.1 then (
     .again 0 ([Lf.b, Lf.i IntKind.i64]) ((true, IntKind.wrap IntKind.i64 (x0.2.1 + 1), PUnit.unit)))
    else (
     .need (decide (0 ≤ x0.2.1) && decide (x0.2.1 < ((n0 : Nat) : Int)) && Option.isSome A0) (
     .need (Option.isSome (Option.map (fun x => Addr.add x (Int.toNat x0.2.1 * 2)) A0)) (
     .ld (Option.map (fun x => Addr.add x 0) (Option.map (fun x => Addr.add x (Int.toNat x0.2.1 * 2)) A0)) ([Lf.i IntKind.i64]) (fun x1 =>
      bif decide (x1.1 ≤ a1) then (
       .need (decide (0 ≤ x0.2.1) && decide (x0.2.1 < ((n0 : Nat) : Int)) && Option.isSome A0) (
       .need (Option.isSome (Option.map (fun x => Addr.add x (Int.toNat x0.2.1 * 2)) A0)) (
       .ld (Option.map (fun x => Addr.add x 1) (Option.map (fun x => Addr.add x (Int.toNat x0.2.1 * 2)) A0)) ([Lf.i IntKind.i64]) (fun x2 =>
        bif decide (a1 ≤ x2.1) then (
         .again 0 ([Lf.b, Lf.i IntKind.i64]) ((true, IntKind.wrap IntKind.i64 (x0.2.1 + 1), PUnit.unit)))
        else (
         .again 0 ([Lf.b, Lf.i IntKind.i64]) ((false, IntKind.wrap IntKind.i64 (x0.2.1 + 1), PUnit.unit)))))))
      else (
       .again 0 ([Lf.b, Lf.i IntKind.i64]) ((false, IntKind.wrap IntKind.i64 (x0.2.1 + 1), PUnit.unit))))))))
   else (
    bif x0.1 then (
     .call 11 ([AV.v (Value.slice A0 n0 c0)]) ([]) (Sh.one) ([Lf.b]) ([]) (fun x1 =>
      bif x1.1 then (
       .done (AV.v (Value.bool true)) ([]))
      else (
       .done (AV.v (Value.bool false)) ([]))))
    else (
     .done (AV.v (Value.bool false)) ([])))) := by kernel_rfl
set_option maxHeartbeats 4000000 in
theorem ref05_Has.c (k : Nat) (A0 : Option Addr) (n0 c0 : Nat) (l0 : List (Int × Int)) (a1 : Int) (r : Bool) (h : ref05_Has.F k l0 a1 = some r) (hn0 : n0 = l0.length) (w : World) (hS0 : SlR R22.row (fun _ => False) w A0 c0 l0) : Calls Try.prog 13 (AV.gs id [AV.v (Value.slice A0 n0 c0), AV.v (Value.int IntKind.i64 a1)]).toArray w fun e w' => e = .returned (((Sh.one : Sh).av (vs [Lf.b] (r, ()))).g id) ∧ Below w.heap.size w w' := by
  subst hn0
  refine enter0 mixed ref05_Has.A noC [AV.v (Value.slice A0 l0.length c0), AV.v (Value.int IntKind.i64 a1)] Try.func13 rfl rfl rfl (fun hF => ?_)
  rw [ref05_Has.t]
  unfold ref05_Has.F at h
  try dsimp only at h
  obtain ⟨I0, hI0⟩ : ∃ I : Nat → Tup [Lf.b, Lf.i IntKind.i64] → (Nat → Prop) → World → Prop, I = (fun m_ y L w' => ∃ (v0_0 : Bool) (v0_1 : Int), y = (v0_0, v0_1, ()) ∧ iter (ref05_Has.s0 k a1 l0) m_ (v0_0, v0_1) = some r ∧ Fine (fun _ => False) w L w') := ⟨_, rfl⟩
  refine ok_loop I0 k (by rw [hI0]; exact ⟨_, _, rfl, h, hF⟩) ?_
  clear h
  intro m_ y L0 w0 hy
  rw [hI0] at hy
  obtain ⟨v0_0, v0_1, rfl, h, hF⟩ := hy
  obtain ⟨m0, o0, rfl, h, hl0, hr_0⟩ := iter_some h
  unfold ref05_Has.s0 at h
  try dsimp only at h
  try dsimp only
  refine ok_if (fun hc2 => ?_) (fun hc2 => ?_)
  · have h := bif_t h hc2
    refine ok_if (fun hc3 => ?_) (fun hc3 => ?_)
    · have h := bif_t h hc3
      obtain rfl := Option.some.inj h
      have h := hl0 _ rfl
      exact ok_again (I := I0) m0 (Nat.lt_succ_self _) (fun L w' he => by rw [hI0]; exact ⟨_, _, rfl, h, hF.trans he.fine⟩)
    · have h := bif_f h hc3
      obtain ⟨r4, hr5, h⟩ := Option.bind_eq_some_iff.1 h
      refine ok_need (getI_need (hS0.later hF) hr5) ?_
      refine ok_need (getI_need2 (hS0.later hF) hr5) ?_
      refine ok_getf 0 hS0 hF hr5 (fun cs hcs => ⟨r4.1, by rw [hcs]; rfl, ?_⟩)
      try dsimp only
      refine ok_if (fun hc6 => ?_) (fun hc6 => ?_)
      · have h := bif_t h hc6
        obtain ⟨r7, hr8, h⟩ := Option.bind_eq_some_iff.1 h
        refine ok_need (getI_need (hS0.later hF) hr8) ?_
        refine ok_need (getI_need2 (hS0.later hF) hr8) ?_
        refine ok_getf 1 hS0 hF hr8 (fun cs hcs => ⟨r7.2, by rw [hcs]; rfl, ?_⟩)
        try dsimp only
        refine ok_if (fun hc9 => ?_) (fun hc9 => ?_)
        · have h := bif_t h hc9
          obtain rfl := Option.some.inj h
          have h := hl0 _ rfl
          exact ok_again (I := I0) m0 (Nat.lt_succ_self _) (fun L w' he => by rw [hI0]; exact ⟨_, _, rfl, h, hF.trans he.fine⟩)
        · have h := bif_f h hc9
          obtain rfl := Option.some.inj h
          have h := hl0 _ rfl
          exact ok_again (I := I0) m0 (Nat.lt_succ_self _) (fun L w' he => by rw [hI0]; exact ⟨_, _, rfl, h, hF.trans he.fine⟩)
      · have h := bif_f h hc6
        obtain rfl := Option.some.inj h
        have h := hl0 _ rfl
        exact ok_again (I := I0) m0 (Nat.lt_succ_self _) (fun L w' he => by rw [hI0]; exact ⟨_, _, rfl, h, hF.trans he.fine⟩)
  · have h := bif_f h hc2
    refine ok_if (fun hc10 => ?_) (fun hc10 => ?_)
    · have h := bif_t h hc10
      obtain ⟨v1_0, hr1, h⟩ := Option.bind_eq_some_iff.1 h
      refine ok_callm rfl (fun L1 w1 g1 lt1 => ?_)
      refine (ref05_Right.c k _ _ _ l0 v1_0 hr1 rfl w1 (hS0.later (hF.trans g1)).bare).mono ?_
      rintro e w1' ⟨rfl, hb1⟩
      refine ⟨(v1_0, ()), rfl, hb1, fun g1' => ?_⟩
      try dsimp only
      have hF := hF.trans g1'
      refine ok_if (fun hc11 => ?_) (fun hc11 => ?_)
      · have h := bif_t h hc11
        obtain rfl := Option.some.inj h
        obtain rfl := hr_0 _ rfl
        intro ρ L w' _ he _ _
        exact ⟨rfl, (hF.ext he).below⟩
      · have h := bif_f h hc11
        obtain rfl := Option.some.inj h
        obtain rfl := hr_0 _ rfl
        intro ρ L w' _ he _ _
        exact ⟨rfl, (hF.ext he).below⟩
    · have h := bif_f h hc10
      obtain rfl := Option.some.inj h
      obtain rfl := hr_0 _ rfl
      intro ρ L w' _ he _ _
      exact ⟨rfl, (hF.ext he).below⟩
/-! ### turnbuckle/turnbuckleref05.Take: function 21 -/
def ref05_Take.F (k : Nat) (l0 : List (Int × Int)) (a1 : Int) (a2 : Int) : Option ((List (Int × Int)) × Int) := (ref05_Right.F k l0).bind fun v0_0 => bif v0_0 then ((ref05_Span.F k a1 a2).bind fun v1_0 => bif v1_0 then ((ref05_clip.F k l0 0 (IntKind.wrap IntKind.i64 (a1 - 1))).bind fun s2_0 => (ref05_clip.F k l0 (IntKind.wrap IntKind.i64 (a2 + 1)) 4611686018427387903).bind fun s3_0 => bif decide ((s2_0.length + s3_0.length) * 16 ≤ 140737488355328) then (bif decide (256 < ((((s2_0 ++ s3_0)).length : Nat) : Int)) then (some (([], 6))) else (some (((s2_0 ++ s3_0), 0)))) else none) else (some (([], 1)))) else (some (([], 1)))
abbrev ref05_Take.A : Nat → LA := noA
set_option maxHeartbeats 4000000 in
theorem ref05_Take.t (A0 : Option Addr) (n0 c0 : Nat) (a1 : Int) (a2 : Int) : tree Try.prog ref05_Take.A noC Try.f21 [AV.v (Value.slice A0 n0 c0), AV.v (Value.int IntKind.i64 a1), AV.v (Value.int IntKind.i64 a2)] [] =
  .call 11 ([AV.v (Value.slice A0 n0 c0)]) ([]) (Sh.one) ([Lf.b]) ([]) (fun x0 =>
   bif x0.1 then (
    .call 23 ([AV.v (Value.int IntKind.i64 a1), AV.v (Value.int IntKind.i64 a2)]) ([]) (Sh.one) ([Lf.b]) ([]) (fun x1 =>
     bif x1.1 then (
      .call 36 ([AV.v (Value.slice A0 n0 c0), AV.v (Value.int IntKind.i64 0), AV.v (Value.int IntKind.i64 (IntKind.wrap IntKind.i64 (a1 - 1)))]) ([]) (Sh.one) ([Lf.sl]) ([]) (fun x2 =>
       .call 36 ([AV.v (Value.slice A0 n0 c0), AV.v (Value.int IntKind.i64 (IntKind.wrap IntKind.i64 (a2 + 1))), AV.v (Value.int IntKind.i64 4611686018427387903)]) ([]) (Sh.one) ([Lf.sl]) ([]) (fun x3 =>
        .sem (Builtin.append_ { toList := [22, 22] } 22 { toList := [Value.slice x2.1.1 x2.1.2.1 x2.1.2.2, Value.slice x3.1.1 x3.1.2.1 x3.1.2.2] }) ([Lf.sl]) (Sh.one) (fun x4 =>
         bif decide (256 < ((x4.1.2.1 : Nat) : Int)) then (
          .done (AV.tup [AV.v (Value.slice none 0 0), AV.v (Value.int IntKind.i64 6)]) ([]))
         else (
          .done (AV.tup [AV.v (Value.slice x4.1.1 x4.1.2.1 x4.1.2.2), AV.v (Value.int IntKind.i64 0)]) ([]))))))
     else (
      .done (AV.tup [AV.v (Value.slice none 0 0), AV.v (Value.int IntKind.i64 1)]) ([]))))
   else (
    .done (AV.tup [AV.v (Value.slice none 0 0), AV.v (Value.int IntKind.i64 1)]) ([]))) := by kernel_rfl
set_option maxHeartbeats 4000000 in
theorem ref05_Take.c (k : Nat) (A0 : Option Addr) (n0 c0 : Nat) (l0 : List (Int × Int)) (a1 : Int) (a2 : Int) (r : (List (Int × Int)) × Int) (h : ref05_Take.F k l0 a1 a2 = some r) (hn0 : n0 = l0.length) (w : World) (hS0 : SlR R22.row (fun _ => False) w A0 c0 l0) : Calls Try.prog 21 (AV.gs id [AV.v (Value.slice A0 n0 c0), AV.v (Value.int IntKind.i64 a1), AV.v (Value.int IntKind.i64 a2)]).toArray w fun e w' => ∃ (B0 : Option Addr) (d0 : Nat), e = .returned (((Sh.tup [(false, 1), (false, 1)] : Sh).av (vs [Lf.sl, Lf.i IntKind.i64] ((B0, (r.1).length, d0), r.2, ()))).g id) ∧ Below w.heap.size w w' ∧ OwnF w.heap.size (fun b => b < w.heap.size) w' 30 R22 B0 d0 r.1 := by
  subst hn0
  refine enter0 mixed ref05_Take.A noC [AV.v (Value.slice A0 l0.length c0), AV.v (Value.int IntKind.i64 a1), AV.v (Value.int IntKind.i64 a2)] Try.func21 rfl rfl rfl (fun hF => ?_)
  rw [ref05_Take.t]
  unfold ref05_Take.F at h
  try dsimp only at h
  obtain ⟨v0_0, hr0, h⟩ := Option.bind_eq_some_iff.1 h
  refine ok_callm rfl (fun L0 w0 g0 lt0 => ?_)
  refine (ref05_Right.c k _ _ _ l0 v0_0 hr0 rfl w0 (hS0.later (hF.trans g0)).bare).mono ?_
  rintro e w0' ⟨rfl, hb0⟩
  refine ⟨(v0_0, ()), rfl, hb0, fun g0' => ?_⟩
  try dsimp only
  have hF := hF.trans g0'
  refine ok_if (fun hc1 => ?_) (fun hc1 => ?_)
  · have h := bif_t h hc1
    obtain ⟨v1_0, hr1, h⟩ := Option.bind_eq_some_iff.1 h
    refine ok_callm rfl (fun L1 w1 g1 lt1 => ?_)
    refine (ref05_Span.c k a1 a2 v1_0 hr1  w1 ).mono ?_
    rintro e w1' ⟨rfl, hb1⟩
    refine ⟨(v1_0, ()), rfl, hb1, fun g1' => ?_⟩
    try dsimp only
    have hF := hF.trans g1'
    refine ok_if (fun hc2 => ?_) (fun hc2 => ?_)
    · have h := bif_t h hc2
      obtain ⟨s2_0, hr2, h⟩ := Option.bind_eq_some_iff.1 h
      refine ok_callm rfl (fun L2 w2 g2 lt2 => ?_)
      refine (ref05_clip.c k _ _ _ l0 0 (IntKind.wrap IntKind.i64 (a1 - 1)) s2_0 hr2 rfl w2 (hS0.later (hF.trans g2)).bare).mono ?_
      rintro e w2' ⟨A2_0, c2_0, rfl, hb2, hO2_0⟩
      refine ⟨((A2_0, s2_0.length, c2_0), ()), rfl, hb2, fun g2' => ?_⟩
      try dsimp only
      have hO2_0 := hO2_0.call (hF.trans g2).size lt2
      have hF := hF.trans g2'
      obtain ⟨s3_0, hr3, h⟩ := Option.bind_eq_some_iff.1 h
      refine ok_callm rfl (fun L3 w3 g3 lt3 => ?_)
      refine (ref05_clip.c k _ _ _ l0 (IntKind.wrap IntKind.i64 (a2 + 1)) 4611686018427387903 s3_0 hr3 rfl w3 (hS0.later (hF.trans g3)).bare).mono ?_
      rintro e w3' ⟨A3_0, c3_0, rfl, hb3, hO3_0⟩
      refine ⟨((A3_0, s3_0.length, c3_0), ()), rfl, hb3, fun g3' => ?_⟩
      try dsimp only
      have dj_o4_o3 : Dj A3_0 A2_0 := Dj.new hO3_0.fresh (hO2_0.later g3).lt
      have hO3_0 := hO3_0.call (hF.trans g3).size lt3
      have hF := hF.trans g3'
      have hO2_0 := hO2_0.later g3'
      obtain ⟨hq5, h⟩ := bif_need h
      have hq5 := of_decide_eq_true hq5
      refine ok_app (R := R22) (base := w.heap.size) (xs := s2_0) (ys := s3_0) rfl rfl E22 hO2_0 hO3_0.sl (by decide) hq5 hF.size (fun A4 c4 L4 w4 hO4 g4 hid4 hbl4 => ?_)
      try dsimp only
      have dj_o6_o4 : Dj A4 A3_0 := Dj.grow (Dj.symm dj_o4_o3) hbl4 hO3_0.lt
      have hO3_0 := hO3_0.other dj_o4_o3 g4
      have hF := Fine.own hF g4 (fun b hb => Or.inr (Own.base hO2_0 hb)) hid4
      refine ok_if (fun hc7 => ?_) (fun hc7 => ?_)
      · have h := bif_t h hc7
        obtain rfl := Option.some.inj h
        intro ρ L w' _ he _ _
        exact ⟨none, 0, rfl, (hF.ext he).below, OwnF.ret (OwnF.nil _ (fun _ => False) _ _ _)⟩
      · have h := bif_f h hc7
        obtain rfl := Option.some.inj h
        intro ρ L w' _ he _ _
        exact ⟨A4, c4, rfl, (hF.ext he).below, (hO4.later he.fine).ret⟩
    · have h := bif_f h hc2
      obtain rfl := Option.some.inj h
      intro ρ L w' _ he _ _
      exact ⟨none, 0, rfl, (hF.ext he).below, OwnF.ret (OwnF.nil _ (fun _ => False) _ _ _)⟩
  · have h := bif_f h hc1
    obtain rfl := Option.some.inj h
    intro ρ L w' _ he _ _
    exact ⟨none, 0, rfl, (hF.ext he).below, OwnF.ret (OwnF.nil _ (fun _ => False) _ _ _)⟩
/-! ### turnbuckle/turnbuckleref05.Add: function 19 -/
def ref05_Add.s2 (k : Nat) (a1 : Int) (a2 : Int) (l0 : List (Int × Int)) : ((List (Int × Int)) × (List (Int × Int)) × Int × Int × Int) → Option (Sum ((List (Int × Int)) × (List (Int × Int)) × Int × Int × Int) ((List (Int × Int)) × Int)) := fun (s2_0, s2_1, v2_2, v2_3, v2_4) => bif decide (v2_2 < ((l0.length : Nat) : Int)) then ((getI l0 v2_2).bind fun r5 => bif decide (r5.2 < IntKind.wrap IntKind.i64 (a1 - 1)) then ((getI l0 v2_2).bind fun r8 => bif decide ((s2_0.length + (([(r8.1, r8.2)] : List (Int × Int))).length) * 16 ≤ 140737488355328) then (some (.inl (((s2_0 ++ ([(r8.1, r8.2)] : List (Int × Int))), s2_1, IntKind.wrap IntKind.i64 (v2_2 + 1), v2_3, v2_4)))) else none) else ((getI l0 v2_2).bind fun r13 => bif decide (a2 < IntKind.wrap IntKind.i64 (r13.1 - 1)) then ((getI l0 v2_2).bind fun r16 => bif decide ((s2_1.length + (([(r16.1, r16.2)] : List (Int × Int))).length) * 16 ≤ 140737488355328) then (some (.inl ((s2_0, (s2_1 ++ ([(r16.1, r16.2)] : List (Int × Int))), IntKind.wrap IntKind.i64 (v2_2 + 1), v2_3, v2_4)))) else none) else ((getI l0 v2_2).bind fun r21 => (getI l0 v2_2).bind fun r23 => some (.inl ((s2_0, s2_1, IntKind.wrap IntKind.i64 (v2_2 + 1), if r21.1 < v2_3 then r21.1 else v2_3, if v2_4 < r23.2 then r23.2 else v2_4)))))) else (bif decide ((s2_0.length + (([(v2_3, v2_4)] : List (Int × Int))).length) * 16 ≤ 140737488355328) then (bif decide ((((s2_0 ++ ([(v2_3, v2_4)] : List (Int × Int)))).length + s2_1.length) * 16 ≤ 140737488355328) then (bif decide (256 < (((((s2_0 ++ ([(v2_3, v2_4)] : List (Int × Int))) ++ s2_1)).length : Nat) : Int)) then (some (.inr (([], 6)))) else (some (.inr ((((s2_0 ++ ([(v2_3, v2_4)] : List (Int × Int))) ++ s2_1), 0))))) else none) else none)
def ref05_Add.F (k : Nat) (l0 : List (Int × Int)) (a1 : Int) (a2 : Int) : Option ((List (Int × Int)) × Int) := (ref05_Right.F k l0).bind fun v0_0 => bif v0_0 then ((ref05_Span.F k a1 a2).bind fun v1_0 => bif v1_0 then (iter (ref05_Add.s2 k a1 a2 l0) k ([], [], 0, a1, a2)) else (some (([], 1)))) else (some (([], 1)))
abbrev ref05_Add.A : Nat → LA := fun r => if r = 6 then ⟨[(8, false, [Lf.sl]), (9, false, [Lf.sl]), (11, false, [Lf.i IntKind.i64])], [(5003, [Lf.i IntKind.i64, Lf.i IntKind.i64])]⟩ else ⟨[], []⟩
set_option maxHeartbeats 4000000 in
theorem ref05_Add.t (A0 : Option Addr) (n0 c0 : Nat) (a1 : Int) (a2 : Int) : tree Try.prog ref05_Add.A noC Try.f19 [AV.v (Value.slice A0 n0 c0), AV.v (Value.int IntKind.i64 a1), AV.v (Value.int IntKind.i64 a2)] [] =
  .call 11 ([AV.v (Value.slice A0 n0 c0)]) ([]) (Sh.one) ([Lf.b]) ([]) (fun x0 =>
   bif x0.1 then (
    .call 23 ([AV.v (Value.int IntKind.i64 a1), AV.v (Value.int IntKind.i64 a2)]) ([]) (Sh.one) ([Lf.b]) ([]) (fun x1 =>
     bif x1.1 then (
      .loop ([Lf.sl, Lf.sl, Lf.i IntKind.i64, Lf.i IntKind.i64, Lf.i IntKind.i64]) (((none, 0, 0), (none, 0, 0), 0, a1, a2, PUnit.unit)) 0 (fun x2 =>
       bif decide (x2.2.2.1 < ((n0 : Nat) : Int)) then (
        .need (decide (0 ≤ x2.2.2.1) && decide (x2.2.2.1 < ((n0 : Nat) : Int)) && Option.isSome A0) (
        .need (Option.isSome (Option.map (fun x => Addr.add x (Int.toNat x2.2.2.1 * 2)) A0)) (
        .ld (Option.map (fun x => Addr.add x 1) (Option.map (fun x => Addr.add x (Int.toNat x2.2.2.1 * 2)) A0)) ([Lf.i IntKind.i64]) (fun x3 =>
         bif decide (x3.1 < IntKind.wrap IntKind.i64 (a1 - 1)) then (
          .need (decide (0 ≤ x2.2.2.1) && decide (x2.2.2.1 < ((n0 : Nat) : Int)) && Option.isSome A0) (
          .ld (Option.map (fun x => Addr.add x (Int.toNat x2.2.2.1 * 2)) A0) ([Lf.i IntKind.i64, Lf.i IntKind.i64]) (fun x4 =>
           .sem (Instr.buildSlice 22 1 { toList := [(0, Value.agg { toList := [Value.int IntKind.i64 x4.1, Value.int IntKind.i64 x4.2.1] })] }) ([Lf.sl]) (Sh.one) (fun x5 =>
            .sem (Builtin.append_ { toList := [22, 22] } 22 { toList := [Value.slice x2.1.1 x2.1.2.1 x2.1.2.2, Value.slice x5.1.1 x5.1.2.1 x5.1.2.2] }) ([Lf.sl]) (Sh.one) (fun x6 =>
             .again 0 ([Lf.sl, Lf.sl, Lf.i IntKind.i64, Lf.i IntKind.i64, Lf.i IntKind.i64]) (((x6.1.1, x6.1.2.1, x6.1.2.2), (x2.2.1.1, x2.2.1.2.1, x2.2.1.2.2), IntKind.wrap IntKind.i64 (x2.2.2.1 + 1), x2.2.2.2.1, x2.2.2.2.2.1, PUnit.unit)))))))
         else (
          .need (decide (0 ≤ x2.2.2.1) && decide (x2.2.2.1 < ((n0 : Nat) : Int)) && Option.isSome A0) (
          .need (Option.isSome (Option.map (fun x => Addr.add x (Int.toNat x2.2.2.1 * 2)) A0)) (
          .ld (Option.map (fun x => Addr.add x 0) (Option.map (fun x => Addr.add x (Int.toNat x2.2.2.1 * 2)) A0)) ([Lf.i IntKind.i64]) (fun x4 =>
           bif decide (a2 < IntKind.wrap IntKind.i64 (x4.1 - 1)) then (
            .need (decide (0 ≤ x2.2.2.1) && decide (x2.2.2.1 < ((n0 : Nat) : Int)) && Option.isSome A0) (
            .ld (Option.map (fun x => Addr.add x (Int.toNat x2.2.2.1 * 2)) A0) ([Lf.i IntKind.i64, Lf.i IntKind.i64]) (fun x5 =>
             .sem (Instr.buildSlice 22 1 { toList := [(0, Value.agg { toList := [Value.int IntKind.i64 x5.1, Value.int IntKind.i64 x5.2.1] })] }) ([Lf.sl]) (Sh.one) (fun x6 =>
              .sem (Builtin.append_ { toList := [22, 22] } 22 { toList := [Value.slice x2.2.1.1 x2.2.1.2.1 x2.2.1.2.2, Value.slice x6.1.1 x6.1.2.1 x6.1.2.2] }) ([Lf.sl]) (Sh.one) (fun x7 =>
               .again 0 ([Lf.sl, Lf.sl, Lf.i IntKind.i64, Lf.i IntKind.i64, Lf.i IntKind.i64]) (((x2.1.1, x2.1.2.1, x2.1.2.2), (x7.1.1, x7.1.2.1, x7.1.2.2), IntKind.wrap IntKind.i64 (x2.2.2.1 + 1), x2.2.2.2.1, x2.2.2.2.2.1, PUnit.unit)))))))
           else (
            .need (decide (0 ≤ x2.2.2.1) && decide (x2.2.2.1 < ((n0 : Nat) : Int)) && Option.isSome A0) (
            .need (Option.isSome (Option.map (fun x => Addr.add x (Int.toNat x2.2.2.1 * 2)) A0)) (
            .ld (Option.map (fun x => Addr.add x 0) (Option.map (fun x => Addr.add x (Int.toNat x2.2.2.1 * 2)) A0)) ([Lf.i IntKind.i64]) (fun x5 =>
             .need (decide (0 ≤ x2.2.2.1) && decide (x2.2.2.1 < ((n0 : Nat) : Int)) && Option.isSome A0) (
             .need (Option.isSome (Option.map (fun x => Addr.add x (Int.toNat x2.2.2.1 * 2)) A0)) (
             .ld (Option.map (fun x => Addr.add x 1) (Option.map (fun x => Addr.add x (Int.toNat x2.2.2.1 * 2)) A0)) ([Lf.i IntKind.i64]) (fun x6 =>
              .again 0 ([Lf.sl, Lf.sl, Lf.i IntKind.i64, Lf.i IntKind.i64, Lf.i IntKind.i64]) (((x2.1.1, x2.1.2.1, x2.1.2.2), (x2.2.1.1, x2.2.1.2.1, x2.2.1.2.2), IntKind.wrap IntKind.i64 (x2.2.2.1 + 1), if x5.1 < x2.2.2.2.1 then x5.1 else x2.2.2.2.1, if x2.2.2.2.2.1 < x6.1 then x6.1 else x2.2.2.2.2.1, PUnit.unit)))))))))))))))))
       else (
        .sem (Instr.buildSlice 22 1 { toList := [(0, Value.agg { toList := [Value.int IntKind.i64 x2.2.2.2.1, Value.int IntKind.i64 x2.2.2.2.2.1] })] }) ([Lf.sl]) (Sh.one) (fun x3 =>
         .sem (Builtin.append_ { toList := [22, 22] } 22 { toList := [Value.slice x2.1.1 x2.1.2.1 x2.1.2.2, Value.slice x3.1.1 x3.1.2.1 x3.1.2.2] }) ([Lf.sl]) (Sh.one) (fun x4 =>
          .sem (Builtin.append_ { toList := [22, 22] } 22 { toList := [Value.slice x4.1.1 x4.1.2.1 x4.1.2.2, Value.slice x2.2.1.1 x2.2.1.2.1 x2.2.1.2.2] }) ([Lf.sl]) (Sh.one) (fun x5 =>
           bif decide (256 < ((x5.1.2.1 : Nat) : Int)) then (
            .done (AV.tup [AV.v (Value.slice none 0 0), AV.v (Value.int IntKind.i64 6)]) ([]))
           else (
            .done (AV.tup [AV.v (Value.slice x5.1.1 x5.1.2.1 x5.1.2.2), AV.v (Value.int IntKind.i64 0)]) ([]))))))))
     else (
      .done (AV.tup [AV.v (Value.slice none 0 0), AV.v (Value.int IntKind.i64 1)]) ([]))))
   else (
    .done (AV.tup [AV.v (Value.slice none 0 0), AV.v (Value.int IntKind.i64 1)]) ([]))) := by kernel_rfl
set_option maxHeartbeats 4000000 in
theorem ref05_Add.c (k : Nat) (A0 : Option Addr) (n0 c0 : Nat) (l0 : List (Int × Int)) (a1 : Int) (a2 : Int) (r : (List (Int × Int)) × Int) (h : ref05_Add.F k l0 a1 a2 = some r) (hn0 : n0 = l0.length) (w : World) (hS0 : SlR R22.row (fun _ => False) w A0 c0 l0) : Calls Try.prog 19 (AV.gs id [AV.v (Value.slice A0 n0 c0), AV.v (Value.int IntKind.i64 a1), AV.v (Value.int IntKind.i64 a2)]).toArray w fun e w' => ∃ (B0 : Option Addr) (d0 : Nat), e = .returned (((Sh.tup [(false, 1), (false, 1)] : Sh).av (vs [Lf.sl, Lf.i IntKind.i64] ((B0, (r.1).length, d0), r.2, ()))).g id) ∧ Below w.heap.size w w' ∧ OwnF w.heap.size (fun b => b < w.heap.size) w' 30 R22 B0 d0 r.1 := by
  subst hn0
  refine enter0 mixed ref05_Add.A noC [AV.v (Value.slice A0 l0.length c0), AV.v (Value.int IntKind.i64 a1), AV.v (Value.int IntKind.i64 a2)] Try.func19 rfl rfl rfl (fun hF => ?_)
  rw [ref05_Add.t]
  unfold ref05_Add.F at h
  try dsimp only at h
  obtain ⟨v0_0, hr0, h⟩ := Option.bind_eq_some_iff.1 h
  refine ok_callm rfl (fun L0 w0 g0 lt0 => ?_)
  refine (ref05_Right.c k _ _ _ l0 v0_0 hr0 rfl w0 (hS0.later (hF.trans g0)).bare).mono ?_
  rintro e w0' ⟨rfl, hb0⟩
  refine ⟨(v0_0, ()), rfl, hb0, fun g0' => ?_⟩
  try dsimp only
  have hF := hF.trans g0'
  refine ok_if (fun hc1 => ?_) (fun hc1 => ?_)
  · have h := bif_t h hc1
    obtain ⟨v1_0, hr1, h⟩ := Option.bind_eq_some_iff.1 h
    refine ok_callm rfl (fun L1 w1 g1 lt1 => ?_)
    refine (ref05_Span.c k a1 a2 v1_0 hr1  w1 ).mono ?_
    rintro e w1' ⟨rfl, hb1⟩
    refine ⟨(v1_0, ()), rfl, hb1, fun g1' => ?_⟩
    try dsimp only
    have hF := hF.trans g1'
    refine ok_if (fun hc2 => ?_) (fun hc2 => ?_)
    · have h := bif_t h hc2
      obtain ⟨I2, hI2⟩ : ∃ I : Nat → Tup [Lf.sl, Lf.sl, Lf.i IntKind.i64, Lf.i IntKind.i64, Lf.i IntKind.i64] → (Nat → Prop) → World → Prop, I = (fun m_ y L w' => ∃ (A2_0 : Option Addr) (c2_0 : Nat) (s2_0 : List (Int × Int)) (A2_1 : Option Addr) (c2_1 : Nat) (s2_1 : List (Int × Int)) (v2_2 : Int) (v2_3 : Int) (v2_4 : Int), y = ((A2_0, s2_0.length, c2_0), (A2_1, s2_1.length, c2_1), v2_2, v2_3, v2_4, ()) ∧ iter (ref05_Add.s2 k a1 a2 l0) m_ (s2_0, s2_1, v2_2, v2_3, v2_4) = some r ∧ Fine (fun _ => False) w L w' ∧ OwnF w.heap.size L w' 30 R22 A2_0 c2_0 s2_0 ∧ OwnF w.heap.size L w' 30 R22 A2_1 c2_1 s2_1 ∧ Dj A2_1 A2_0) := ⟨_, rfl⟩
      refine ok_loop I2 k (by rw [hI2]; exact ⟨none, 0, [], none, 0, [], _, _, _, rfl, h, hF, OwnF.nil _ _ _ _ _, OwnF.nil _ _ _ _ _, Dj.nil2⟩) ?_
      clear h
      intro m_ y L2 w2 hy
      rw [hI2] at hy
      obtain ⟨A2_0, c2_0, s2_0, A2_1, c2_1, s2_1, v2_2, v2_3, v2_4, rfl, h, hF, hO_s2_0, hO_s2_1, dj_s2_1_s2_0⟩ := hy
      obtain ⟨m2, o2, rfl, h, hl2, hr_2⟩ := iter_some h
      unfold ref05_Add.s2 at h
      try dsimp only at h
      try dsimp only
      refine ok_if (fun hc4 => ?_) (fun hc4 => ?_)
      · have h := bif_t h hc4
        obtain ⟨r5, hr6, h⟩ := Option.bind_eq_some_iff.1 h
        refine ok_need (getI_need (hS0.later hF) hr6) ?_
        refine ok_need (getI_need2 (hS0.later hF) hr6) ?_
        refine ok_getf 1 hS0 hF hr6 (fun cs hcs => ⟨r5.2, by rw [hcs]; rfl, ?_⟩)
        try dsimp only
        refine ok_if (fun hc7 => ?_) (fun hc7 => ?_)
        · have h := bif_t h hc7
          obtain ⟨r8, hr9, h⟩ := Option.bind_eq_some_iff.1 h
          refine ok_need (getI_need (hS0.later hF) hr9) ?_
          refine ok_get hS0 hF hr9 (by simp) (fun cs hcs => ⟨(r8.1, r8.2, ()), hcs.symm, ?_⟩)
          try dsimp only
          refine ok_lit (R := R22) (base := w.heap.size) (xs := ([(r8.1, r8.2)] : List (Int × Int))) #[Value.int IntKind.i64 r8.1, Value.int IntKind.i64 r8.2] E22 rfl (by decide) (by decide) ⟨_, _, rfl, rfl, by kernel_rfl⟩ rfl hF.size (fun A5 c5 L5 w5 hO5 g5 hbl5 => ?_)
          try dsimp only
          have dj_o10_s2_0 : Dj A5 A2_0 := Dj.new hbl5 hO_s2_0.lt
          have dj_o10_s2_1 : Dj A5 A2_1 := Dj.new hbl5 hO_s2_1.lt
          have hF := hF.trans g5
          have hO_s2_0 := hO_s2_0.later g5
          have hO_s2_1 := hO_s2_1.later g5
          obtain ⟨hq11, h⟩ := bif_need h
          have hq11 := of_decide_eq_true hq11
          refine ok_app (R := R22) (base := w.heap.size) (xs := s2_0) (ys := ([(r8.1, r8.2)] : List (Int × Int))) rfl rfl E22 hO_s2_0 hO5.sl (by decide) hq11 hF.size (fun A6 c6 L6 w6 hO6 g6 hid6 hbl6 => ?_)
          try dsimp only
          have dj_o12_s2_1 : Dj A6 A2_1 := Dj.grow (Dj.symm dj_s2_1_s2_0) hbl6 hO_s2_1.lt
          have dj_o12_o10 : Dj A6 A5 := Dj.grow (Dj.symm dj_o10_s2_0) hbl6 hO5.lt
          have hO_s2_1 := hO_s2_1.other dj_s2_1_s2_0 g6
          have hO5 := hO5.other dj_o10_s2_0 g6
          have hF := Fine.own hF g6 (fun b hb => Or.inr (Own.base hO_s2_0 hb)) hid6
          obtain rfl := Option.some.inj h
          have h := hl2 _ rfl
          exact ok_again (I := I2) m2 (Nat.lt_succ_self _) (fun L w' he => by rw [hI2]; exact ⟨A6, c6, (s2_0 ++ ([(r8.1, r8.2)] : List (Int × Int))), A2_1, c2_1, s2_1, _, _, _, rfl, h, hF.trans he.fine, hO6.later he.fine, hO_s2_1.later he.fine, (Dj.symm dj_o12_s2_1)⟩)
        · have h := bif_f h hc7
          obtain ⟨r13, hr14, h⟩ := Option.bind_eq_some_iff.1 h
          refine ok_need (getI_need (hS0.later hF) hr14) ?_
          refine ok_need (getI_need2 (hS0.later hF) hr14) ?_
          refine ok_getf 0 hS0 hF hr14 (fun cs hcs => ⟨r13.1, by rw [hcs]; rfl, ?_⟩)
          try dsimp only
          refine ok_if (fun hc15 => ?_) (fun hc15 => ?_)
          · have h := bif_t h hc15
            obtain ⟨r16, hr17, h⟩ := Option.bind_eq_some_iff.1 h
            refine ok_need (getI_need (hS0.later hF) hr17) ?_
            refine ok_get hS0 hF hr17 (by simp) (fun cs hcs => ⟨(r16.1, r16.2, ()), hcs.symm, ?_⟩)
            try dsimp only
            refine ok_lit (R := R22) (base := w.heap.size) (xs := ([(r16.1, r16.2)] : List (Int × Int))) #[Value.int IntKind.i64 r16.1, Value.int IntKind.i64 r16.2] E22 rfl (by decide) (by decide) ⟨_, _, rfl, rfl, by kernel_rfl⟩ rfl hF.size (fun A6 c6 L6 w6 hO6 g6 hbl6 => ?_)
            try dsimp only
            have dj_o18_s2_0 : Dj A6 A2_0 := Dj.new hbl6 hO_s2_0.lt
            have dj_o18_s2_1 : Dj A6 A2_1 := Dj.new hbl6 hO_s2_1.lt
            have hF := hF.trans g6
            have hO_s2_0 := hO_s2_0.later g6
            have hO_s2_1 := hO_s2_1.later g6
            obtain ⟨hq19, h⟩ := bif_need h
            have hq19 := of_decide_eq_true hq19
            refine ok_app (R := R22) (base := w.heap.size) (xs := s2_1) (ys := ([(r16.1, r16.2)] : List (Int × Int))) rfl rfl E22 hO_s2_1 hO6.sl (by decide) hq19 hF.size (fun A7 c7 L7 w7 hO7 g7 hid7 hbl7 => ?_)
            try dsimp only
            have dj_o20_s2_0 : Dj A7 A2_0 := Dj.grow dj_s2_1_s2_0 hbl7 hO_s2_0.lt
            have dj_o20_o18 : Dj A7 A6 := Dj.grow (Dj.symm dj_o18_s2_1) hbl7 hO6.lt
            have hO_s2_0 := hO_s2_0.other (Dj.symm dj_s2_1_s2_0) g7
            have hO6 := hO6.other dj_o18_s2_1 g7
            have hF := Fine.own hF g7 (fun b hb => Or.inr (Own.base hO_s2_1 hb)) hid7
            obtain rfl := Option.some.inj h
            have h := hl2 _ rfl
            exact ok_again (I := I2) m2 (Nat.lt_succ_self _) (fun L w' he => by rw [hI2]; exact ⟨A2_0, c2_0, s2_0, A7, c7, (s2_1 ++ ([(r16.1, r16.2)] : List (Int × Int))), _, _, _, rfl, h, hF.trans he.fine, hO_s2_0.later he.fine, hO7.later he.fine, dj_o20_s2_0⟩)
          · have h := bif_f h hc15
            obtain ⟨r21, hr22, h⟩ := Option.bind_eq_some_iff.1 h
            refine ok_need (getI_need (hS0.later hF) hr22) ?_
            refine ok_need (getI_need2 (hS0.later hF) hr22) ?_
            refine ok_getf 0 hS0 hF hr22 (fun cs hcs => ⟨r21.1, by rw [hcs]; rfl, ?_⟩)
            try dsimp only
            obtain ⟨r23, hr24, h⟩ := Option.bind_eq_some_iff.1 h
            refine ok_need (getI_need (hS0.later hF) hr24) ?_
            refine ok_need (getI_need2 (hS0.later hF) hr24) ?_
            refine ok_getf 1 hS0 hF hr24 (fun cs hcs => ⟨r23.2, by rw [hcs]; rfl, ?_⟩)
            try dsimp only
            obtain rfl := Option.some.inj h
            have h := hl2 _ rfl
            exact ok_again (I := I2) m2 (Nat.lt_succ_self _) (fun L w' he => by rw [hI2]; exact ⟨A2_0, c2_0, s2_0, A2_1, c2_1, s2_1, _, _, _, rfl, h, hF.trans he.fine, hO_s2_0.later he.fine, hO_s2_1.later he.fine, dj_s2_1_s2_0⟩)
      · have h := bif_f h hc4
        refine ok_lit (R := R22) (base := w.heap.size) (xs := ([(v2_3, v2_4)] : List (Int × Int))) #[Value.int IntKind.i64 v2_3, Value.int IntKind.i64 v2_4] E22 rfl (by decide) (by decide) ⟨_, _, rfl, rfl, by kernel_rfl⟩ rfl hF.size (fun A3 c3 L3 w3 hO3 g3 hbl3 => ?_)
        try dsimp only
        have dj_o25_s2_0 : Dj A3 A2_0 := Dj.new hbl3 hO_s2_0.lt
        have dj_o25_s2_1 : Dj A3 A2_1 := Dj.new hbl3 hO_s2_1.lt
        have hF := hF.trans g3
        have hO_s2_0 := hO_s2_0.later g3
        have hO_s2_1 := hO_s2_1.later g3
        obtain ⟨hq26, h⟩ := bif_need h
        have hq26 := of_decide_eq_true hq26
        refine ok_app (R := R22) (base := w.heap.size) (xs := s2_0) (ys := ([(v2_3, v2_4)] : List (Int × Int))) rfl rfl E22 hO_s2_0 hO3.sl (by decide) hq26 hF.size (fun A4 c4 L4 w4 hO4 g4 hid4 hbl4 => ?_)
        try dsimp only
        have dj_o27_s2_1 : Dj A4 A2_1 := Dj.grow (Dj.symm dj_s2_1_s2_0) hbl4 hO_s2_1.lt
        have dj_o27_o25 : Dj A4 A3 := Dj.grow (Dj.symm dj_o25_s2_0) hbl4 hO3.lt
        have hO_s2_1 := hO_s2_1.other dj_s2_1_s2_0 g4
        have hO3 := hO3.other dj_o25_s2_0 g4
        have hF := Fine.own hF g4 (fun b hb => Or.inr (Own.base hO_s2_0 hb)) hid4
        obtain ⟨hq28, h⟩ := bif_need h
        have hq28 := of_decide_eq_true hq28
        refine ok_app (R := R22) (base := w.heap.size) (xs := (s2_0 ++ ([(v2_3, v2_4)] : List (Int × Int)))) (ys := s2_1) rfl rfl E22 hO4 hO_s2_1.sl (by decide) hq28 hF.size (fun A5 c5 L5 w5 hO5 g5 hid5 hbl5 => ?_)
        try dsimp only
        have dj_o29_s2_1 : Dj A5 A2_1 := Dj.grow dj_o27_s2_1 hbl5 hO_s2_1.lt
        have dj_o29_o25 : Dj A5 A3 := Dj.grow dj_o27_o25 hbl5 hO3.lt
        have hO_s2_1 := hO_s2_1.other (Dj.symm dj_o27_s2_1) g5
        have hO3 := hO3.other (Dj.symm dj_o27_o25) g5
        have hF := Fine.own hF g5 (fun b hb => Or.inr (Own.base hO4 hb)) hid5
        refine ok_if (fun hc30 => ?_) (fun hc30 => ?_)
        · have h := bif_t h hc30
          obtain rfl := Option.some.inj h
          obtain rfl := hr_2 _ rfl
          intro ρ L w' _ he _ _
          exact ⟨none, 0, rfl, (hF.ext he).below, OwnF.ret (OwnF.nil _ (fun _ => False) _ _ _)⟩
        · have h := bif_f h hc30
          obtain rfl := Option.some.inj h
          obtain rfl := hr_2 _ rfl
          intro ρ L w' _ he _ _
          exact ⟨A5, c5, rfl, (hF.ext he).below, (hO5.later he.fine).ret⟩
    · have h := bif_f h hc2
      obtain rfl := Option.some.inj h
      intro ρ L w' _ he _ _
      exact ⟨none, 0, rfl, (hF.ext he).below, OwnF.ret (OwnF.nil _ (fun _ => False) _ _ _)⟩
  · have h := bif_f h hc1
    obtain rfl := Option.some.inj h
    intro ρ L w' _ he _ _
    exact ⟨none, 0, rfl, (hF.ext he).below, OwnF.ret (OwnF.nil _ (fun _ => False) _ _ _)⟩
/-! ### slices.Grow of nothing: function 41 -/
def slices_Grow_api_Span_api_Span.F (k : Nat) (a1 : Int) : Option (List (Int × Int)) := bif decide (0 ≤ a1 ∧ a1 * 16 ≤ 140737488355328) then some [] else none
theorem slices_Grow_api_Span_api_Span.c (k : Nat) (a1 : Int) (r : List (Int × Int)) (h : slices_Grow_api_Span_api_Span.F k a1 = some r) (w : World) : Calls Try.prog 41 (AV.gs id [AV.v (Value.slice none 0 0), AV.v (Value.int IntKind.i64 a1)]).toArray w fun e w' => ∃ (B0 : Option Addr) (d0 : Nat), e = .returned (((Sh.one : Sh).av (vs [Lf.sl] ((B0, r.length, d0), ()))).g id) ∧ Below w.heap.size w w' ∧ OwnF w.heap.size (fun b => b < w.heap.size) w' 30 R22 B0 d0 r := by
  unfold slices_Grow_api_Span_api_Span.F at h
  obtain ⟨hq, h⟩ := bif_need h
  have hq := of_decide_eq_true hq
  obtain rfl := Option.some.inj h
  refine enter0 mixed noA noC [AV.v (Value.slice none 0 0), AV.v (Value.int IntKind.i64 a1)] Try.func41 rfl rfl rfl (fun hF => ?_)
  rw [show tree Try.prog noA noC Try.f41 [AV.v (Value.slice none 0 0), AV.v (Value.int IntKind.i64 a1)] [] = bif decide (a1 < 0) then .bad "operation" else bif decide (0 < IntKind.wrap IntKind.i64 (a1 - IntKind.wrap IntKind.i64 (((0 : Nat) : Int) - ((0 : Nat) : Int)))) then .need true (.sem (Builtin.append_ #[22, 3] 22 #[Value.slice none 0 0, Value.int IntKind.i64 (IntKind.wrap IntKind.i64 (a1 - IntKind.wrap IntKind.i64 (((0 : Nat) : Int) - ((0 : Nat) : Int))))]) [Lf.sl] Sh.one (fun x0 => .need true (.done (AV.v (Value.slice (if ((x0.1.2.2 : Nat) : Int) = 0 then x0.1.1 else Option.map (fun x => Addr.add x 0) x0.1.1) 0 (x0.1.2.2 - 0))) []))) else .done (AV.v (Value.slice none 0 0)) [] by kernel_rfl]
  have e0 : IntKind.wrap IntKind.i64 (a1 - IntKind.wrap IntKind.i64 (((0 : Nat) : Int) - ((0 : Nat) : Int))) = a1 := by
    rw [wrap_small (((0 : Nat) : Int) - ((0 : Nat) : Int)) (by omega) (by omega), wrap_small _ (by omega) (by omega)]; omega
  rw [e0]
  refine ok_if (fun hc => ?_) (fun hc => ?_)
  · have := of_decide_eq_true hc; omega
  refine ok_if (fun hc => ?_) (fun hc => ?_)
  · refine ok_need rfl ?_
    refine ok_zeros (R := R22) (base := w.heap.size) E22 (kn := .i64) rfl hF.size (of_decide_eq_true hc) (by decide) (by omega) (fun A c L1 w1 hc1 hc0 hO1 g1 hbl1 => ?_)
    have hF1 := hF.trans g1
    refine ok_need rfl ?_
    dsimp only
    rw [if_neg (by omega)]
    intro ρ L w' _ he _ _
    refine ⟨A, c, ?_, (hF1.ext he).below, (hO1.later he.fine).ret⟩
    cases A with
    | none => rfl
    | some ad => rfl
  · intro ρ L w' _ he _ _
    exact ⟨none, 0, rfl, (hF.ext he).below, OwnF.ret (OwnF.nil _ (fun _ => False) _ _ _)⟩
/-! ### slices.Clone: function 37 -/
def slices_Clone_api_Span_api_Span.F (k : Nat) (l0 : List (Int × Int)) : Option (List (Int × Int)) := bif decide (l0.length * 16 ≤ 140737488355328) then some l0 else none
theorem slices_Clone_api_Span_api_Span.c (k : Nat) (A0 : Option Addr) (n0 c0 : Nat) (l0 : List (Int × Int)) (r : List (Int × Int)) (h : slices_Clone_api_Span_api_Span.F k l0 = some r) (hn0 : n0 = l0.length) (w : World) (hS0 : SlR R22.row (fun _ => False) w A0 c0 l0) : Calls Try.prog 37 (AV.gs id [AV.v (Value.slice A0 n0 c0)]).toArray w fun e w' => ∃ (B0 : Option Addr) (d0 : Nat), e = .returned (((Sh.one : Sh).av (vs [Lf.sl] ((B0, r.length, d0), ()))).g id) ∧ Below w.heap.size w w' ∧ OwnF w.heap.size (fun b => b < w.heap.size) w' 30 R22 B0 d0 r := by
  subst hn0
  unfold slices_Clone_api_Span_api_Span.F at h
  obtain ⟨hq, h⟩ := bif_need h
  have hq := of_decide_eq_true hq
  obtain rfl := Option.some.inj h
  refine enter0 mixed noA noC [AV.v (Value.slice A0 l0.length c0)] Try.func37 rfl rfl rfl (fun hF => ?_)
  rw [show tree Try.prog noA noC Try.f37 [AV.v (Value.slice A0 l0.length c0)] [] = bif A0.isNone then .done (AV.v (Value.slice none 0 0)) [] else .sem (Instr.buildSlice 22 0 #[]) [Lf.sl] Sh.one (fun x0 => .sem (Builtin.append_ #[22, 22] 22 #[Value.slice x0.1.1 x0.1.2.1 x0.1.2.2, Value.slice A0 l0.length c0]) [Lf.sl] Sh.one (fun x1 => .done (AV.v (Value.slice x1.1.1 x1.1.2.1 x1.1.2.2)) [])) by kernel_rfl]
  refine ok_if (fun hc => ?_) (fun hc => ?_)
  · obtain rfl := hS0.isNil hc
    intro ρ L w' _ he _ _
    exact ⟨none, 0, rfl, (hF.ext he).below, OwnF.ret (OwnF.nil _ (fun _ => False) _ _ _)⟩
  · refine ok_lit0 (R := R22) (base := w.heap.size) E22 hF.size (fun A c L1 w1 hO1 g1 hbl1 => ?_)
    have hF1 := hF.trans g1
    refine ok_app (R := R22) (base := w.heap.size) (xs := []) (ys := l0) rfl rfl E22 hO1 (hS0.later hF1) (by decide) (by simpa using hq) hF1.size (fun A2 c2 L2 w2 hO2 g2 hid2 hbl2 => ?_)
    have hF2 := Fine.own hF1 g2 (fun b hb => Or.inr (Own.base hO1 hb)) hid2
    intro ρ L w' _ he _ _
    exact ⟨A2, c2, rfl, (hF2.ext he).below, (hO2.later he.fine).ret⟩
/-! ### turnbuckle/spans.Top: function 26 -/
def spans_Top.F (k : Nat) (l0 : List (Int × Int)) (a1 : Int) : Option ((List (Int × Int)) × Int) := (spans_Right.F k l0).bind fun v0_0 => bif v0_0 then (bif decide (a1 < 0) then (some (([], 1))) else (bif decide (0 ≤ IntKind.wrap IntKind.i64 (((l0.length : Nat) : Int) - if ((l0.length : Nat) : Int) < a1 then ((l0.length : Nat) : Int) else a1) ∧ IntKind.wrap IntKind.i64 (((l0.length : Nat) : Int) - if ((l0.length : Nat) : Int) < a1 then ((l0.length : Nat) : Int) else a1) ≤ ((l0.length : Nat) : Int) ∧ ((l0.length : Nat) : Int) ≤ (l0.length : Int)) then ((slices_Clone_api_Span_api_Span.F k (((l0.drop (Int.toNat (IntKind.wrap IntKind.i64 (((l0.length : Nat) : Int) - if ((l0.length : Nat) : Int) < a1 then ((l0.length : Nat) : Int) else a1)))).take (Int.toNat (((l0.length : Nat) : Int)) - Int.toNat (IntKind.wrap IntKind.i64 (((l0.length : Nat) : Int) - if ((l0.length : Nat) : Int) < a1 then ((l0.length : Nat) : Int) else a1)))))).bind fun s1_0 => some ((s1_0, 0))) else none)) else (some (([], 1)))
abbrev spans_Top.A : Nat → LA := noA
set_option maxHeartbeats 4000000 in
theorem spans_Top.t (A0 : Option Addr) (n0 c0 : Nat) (a1 : Int) : tree Try.prog spans_Top.A noC Try.f26 [AV.v (Value.slice A0 n0 c0), AV.v (Value.int IntKind.i64 a1)] [] =
  .call 10 ([AV.v (Value.slice A0 n0 c0)]) ([]) (Sh.one) ([Lf.b]) ([]) (fun x0 =>
   bif x0.1 then (
    bif decide (a1 < 0) then (
     .done (AV.tup [AV.v (Value.slice none 0 0), AV.v (Value.int IntKind.i64 1)]) ([]))
    else (
     .need (decide (0 ≤ IntKind.wrap IntKind.i64 (((n0 : Nat) : Int) - if ((n0 : Nat) : Int) < a1 then ((n0 : Nat) : Int) else a1)) && decide (IntKind.wrap IntKind.i64 (((n0 : Nat) : Int) - if ((n0 : Nat) : Int) < a1 then ((n0 : Nat) : Int) else a1) ≤ ((n0 : Nat) : Int)) && decide (((n0 : Nat) : Int) ≤ ((n0 : Nat) : Int))) (
     .call 37 ([AV.v (Value.slice (if ((c0 : Nat) : Int) = IntKind.wrap IntKind.i64 (((n0 : Nat) : Int) - if ((n0 : Nat) : Int) < a1 then ((n0 : Nat) : Int) else a1) then A0 else Option.map (fun x => Addr.add x (Int.toNat (IntKind.wrap IntKind.i64 (((n0 : Nat) : Int) - if ((n0 : Nat) : Int) < a1 then ((n0 : Nat) : Int) else a1)) * 2)) A0) (Int.toNat ((n0 : Nat) : Int) - Int.toNat (IntKind.wrap IntKind.i64 (((n0 : Nat) : Int) - if ((n0 : Nat) : Int) < a1 then ((n0 : Nat) : Int) else a1))) (c0 - Int.toNat (IntKind.wrap IntKind.i64 (((n0 : Nat) : Int) - if ((n0 : Nat) : Int) < a1 then ((n0 : Nat) : Int) else a1))))]) ([]) (Sh.one) ([Lf.sl]) ([]) (fun x1 =>
      .done (AV.tup [AV.v (Value.slice x1.1.1 x1.1.2.1 x1.1.2.2), AV.v (Value.int IntKind.i64 0)]) ([])))))
   else (
    .done (AV.tup [AV.v (Value.slice none 0 0), AV.v (Value.int IntKind.i64 1)]) ([]))) := by kernel_rfl
set_option maxHeartbeats 4000000 in
theorem spans_Top.c (k : Nat) (A0 : Option Addr) (n0 c0 : Nat) (l0 : List (Int × Int)) (a1 : Int) (r : (List (Int × Int)) × Int) (h : spans_Top.F k l0 a1 = some r) (hn0 : n0 = l0.length) (w : World) (hS0 : SlR R22.row (fun _ => False) w A0 c0 l0) : Calls Try.prog 26 (AV.gs id [AV.v (Value.slice A0 n0 c0), AV.v (Value.int IntKind.i64 a1)]).toArray w fun e w' => ∃ (B0 : Option Addr) (d0 : Nat), e = .returned (((Sh.tup [(false, 1), (false, 1)] : Sh).av (vs [Lf.sl, Lf.i IntKind.i64] ((B0, (r.1).length, d0), r.2, ()))).g id) ∧ Below w.heap.size w w' ∧ OwnF w.heap.size (fun b => b < w.heap.size) w' 30 R22 B0 d0 r.1 := by
  subst hn0
  refine enter0 mixed spans_Top.A noC [AV.v (Value.slice A0 l0.length c0), AV.v (Value.int IntKind.i64 a1)] Try.func26 rfl rfl rfl (fun hF => ?_)
  rw [spans_Top.t]
  unfold spans_Top.F at h
  try dsimp only at h
  obtain ⟨v0_0, hr0, h⟩ := Option.bind_eq_some_iff.1 h
  refine ok_callm rfl (fun L0 w0 g0 lt0 => ?_)
  refine (spans_Right.c k _ _ _ l0 v0_0 hr0 rfl w0 (hS0.later (hF.trans g0)).bare).mono ?_
  rintro e w0' ⟨rfl, hb0⟩
  refine ⟨(v0_0, ()), rfl, hb0, fun g0' => ?_⟩
  try dsimp only
  have hF := hF.trans g0'
  refine ok_if (fun hc1 => ?_) (fun hc1 => ?_)
  · have h := bif_t h hc1
    refine ok_if (fun hc2 => ?_) (fun hc2 => ?_)
    · have h := bif_t h hc2
      obtain rfl := Option.some.inj h
      intro ρ L w' _ he _ _
      exact ⟨none, 0, rfl, (hF.ext he).below, OwnF.ret (OwnF.nil _ (fun _ => False) _ _ _)⟩
    · have h := bif_f h hc2
      obtain ⟨hs3, h⟩ := bif_need h
      have hs3 := of_decide_eq_true hs3
      have hcap := (hS0.later hF).2.1
      refine ok_need (by first | exact part3 hs3 hcap | exact part3 hs3 (Nat.le_refl _)) ?_
      obtain ⟨s1_0, hr1, h⟩ := Option.bind_eq_some_iff.1 h
      refine ok_callm rfl (fun L1 w1 g1 lt1 => ?_)
      refine (slices_Clone_api_Span_api_Span.c k _ _ _ (((l0.drop (Int.toNat (IntKind.wrap IntKind.i64 (((l0.length : Nat) : Int) - if ((l0.length : Nat) : Int) < a1 then ((l0.length : Nat) : Int) else a1)))).take (Int.toNat (((l0.length : Nat) : Int)) - Int.toNat (IntKind.wrap IntKind.i64 (((l0.length : Nat) : Int) - if ((l0.length : Nat) : Int) < a1 then ((l0.length : Nat) : Int) else a1))))) s1_0 hr1 (sub_len hs3.1 hs3.2.1 hs3.2.2) w1 ((hS0.later (hF.trans g1)).sub _ _ hs3.1 hs3.2.1 hs3.2.2).bare).mono ?_
      rintro e w1' ⟨A1_0, c1_0, rfl, hb1, hO1_0⟩
      refine ⟨((A1_0, s1_0.length, c1_0), ()), rfl, hb1, fun g1' => ?_⟩
      try dsimp only
      have hO1_0 := hO1_0.call (hF.trans g1).size lt1
      have hF := hF.trans g1'
      obtain rfl := Option.some.inj h
      intro ρ L w' _ he _ _
      exact ⟨A1_0, c1_0, rfl, (hF.ext he).below, (hO1_0.later he.fine).ret⟩
  · have h := bif_f h hc1
    obtain rfl := Option.some.inj h
    intro ρ L w' _ he _ _
    exact ⟨none, 0, rfl, (hF.ext he).below, OwnF.ret (OwnF.nil _ (fun _ => False) _ _ _)⟩
/-! ### slices.Concat[[]turnbuckle/api.Span,turnbuckle/api.Span]: function 40 -/
def slices_Concat_api_Span_api_Span.s2 (k : Nat) (l0 : List ((List (Int × Int)))) : ((List (Int × Int)) × Int) → Option (Sum ((List (Int × Int)) × Int) (Sum (Int × Int) ((List (Int × Int))))) := fun (s2_0, v2_1) => bif decide (v2_1 < ((l0.length : Nat) : Int)) then ((getI l0 v2_1).bind fun r10 => bif decide ((s2_0.length + r10.length) * 16 ≤ 140737488355328) then (some (.inl (((s2_0 ++ r10), IntKind.wrap IntKind.i64 (v2_1 + 1))))) else none) else (some (.inr (.inr s2_0)))
def slices_Concat_api_Span_api_Span.s0 (k : Nat) (l0 : List ((List (Int × Int)))) : (Int × Int) → Option (Sum (Int × Int) ((List (Int × Int)))) := fun (v0_0, v0_1) => bif decide (v0_1 < ((l0.length : Nat) : Int)) then ((getI l0 v0_1).bind fun r3 => bif decide (IntKind.wrap IntKind.i64 (v0_0 + ((r3.length : Nat) : Int)) < 0) then (none) else (some (.inl ((IntKind.wrap IntKind.i64 (v0_0 + ((r3.length : Nat) : Int)), IntKind.wrap IntKind.i64 (v0_1 + 1)))))) else ((slices_Grow_api_Span_api_Span.F k v0_0).bind fun s1_0 => iter (slices_Concat_api_Span_api_Span.s2 k l0) k (s1_0, 0))
def slices_Concat_api_Span_api_Span.F (k : Nat) (l0 : List ((List (Int × Int)))) : Option ((List (Int × Int))) := iter (slices_Concat_api_Span_api_Span.s0 k l0) k (0, 0)
abbrev slices_Concat_api_Span_api_Span.A : Nat → LA := fun r => if r = 3 then ⟨[(3, false, [Lf.i IntKind.i64]), (11, false, [Lf.i IntKind.i64])], []⟩ else if r = 11 then ⟨[(6, false, [Lf.sl]), (27, false, [Lf.i IntKind.i64])], []⟩ else ⟨[], []⟩
set_option maxHeartbeats 4000000 in
theorem slices_Concat_api_Span_api_Span.t (A0 : Option Addr) (n0 c0 : Nat) : tree Try.prog slices_Concat_api_Span_api_Span.A noC Try.f40 [AV.v (Value.slice A0 n0 c0)] [] =
  .loop ([Lf.i IntKind.i64, Lf.i IntKind.i64]) ((0, 0, PUnit.unit)) 0 (fun x0 =>
   bif decide (x0.2.1 < ((n0 : Nat) : Int)) then (
    .need (decide (0 ≤ x0.2.1) && decide (x0.2.1 < ((n0 : Nat) : Int)) && Option.isSome A0) (
    .ld (Option.map (fun x => Addr.add x (Int.toNat x0.2.1 * 1)) A0) ([Lf.sl]) (fun x1 =>
     bif decide (IntKind.wrap IntKind.i64 (x0.1 + ((x1.1.2.1 : Nat) : Int)) < 0) then (
      .bad "operation")
     else (
      .again 0 ([Lf.i IntKind.i64, Lf.i IntKind.i64]) ((IntKind.wrap IntKind.i64 (x0.1 + ((x1.1.2.1 : Nat) : Int)), IntKind.wrap IntKind.i64 (x0.2.1 + 1), PUnit.unit))))))
   else (
    .call 41 ([AV.v (Value.slice none 0 0), AV.v (Value.int IntKind.i64 x0.1)]) ([]) (Sh.one) ([Lf.sl]) ([]) (fun x1 =>
     .loop ([Lf.sl, Lf.i IntKind.i64]) (((x1.1.1, x1.1.2.1, x1.1.2.2), 0, PUnit.unit)) 0 (fun x2 =>
      bif decide (x2.2.1 < ((n0 : Nat) : Int)) then (
       .need (decide (0 ≤ x2.2.1) && decide (x2.2.1 < ((n0 : Nat) : Int)) && Option.isSome A0) (
       .ld (Option.map (fun x => Addr.add x (Int.toNat x2.2.1 * 1)) A0) ([Lf.sl]) (fun x3 =>
        .sem (Builtin.append_ { toList := [22, 22] } 22 { toList := [Value.slice x2.1.1 x2.1.2.1 x2.1.2.2, Value.slice x3.1.1 x3.1.2.1 x3.1.2.2] }) ([Lf.sl]) (Sh.one) (fun x4 =>
         .again 0 ([Lf.sl, Lf.i IntKind.i64]) (((x4.1.1, x4.1.2.1, x4.1.2.2), IntKind.wrap IntKind.i64 (x2.2.1 + 1), PUnit.unit))))))
      else (
       .done (AV.v (Value.slice x2.1.1 x2.1.2.1 x2.1.2.2)) ([])))))) := by kernel_rfl
set_option maxHeartbeats 4000000 in
theorem slices_Concat_api_Span_api_Span.c (k : Nat) (A0 : Option Addr) (n0 c0 : Nat) (l0 : List ((List (Int × Int)))) (r : (List (Int × Int))) (h : slices_Concat_api_Span_api_Span.F k l0 = some r) (hn0 : n0 = l0.length) (w : World) (hS0 : SlR R43 (fun _ => False) w A0 c0 l0) : Calls Try.prog 40 (AV.gs id [AV.v (Value.slice A0 n0 c0)]).toArray w fun e w' => ∃ (B0 : Option Addr) (d0 : Nat), e = .returned (((Sh.one : Sh).av (vs [Lf.sl] ((B0, (r).length, d0), ()))).g id) ∧ Below w.heap.size w w' ∧ OwnF w.heap.size (fun b => b < w.heap.size) w' 30 R22 B0 d0 r := by
  subst hn0
  refine enter0 mixed slices_Concat_api_Span_api_Span.A noC [AV.v (Value.slice A0 l0.length c0)] Try.func40 rfl rfl rfl (fun hF => ?_)
  rw [slices_Concat_api_Span_api_Span.t]
  unfold slices_Concat_api_Span_api_Span.F at h
  try dsimp only at h
  obtain ⟨I0, hI0⟩ : ∃ I : Nat → Tup [Lf.i IntKind.i64, Lf.i IntKind.i64] → (Nat → Prop) → World → Prop, I = (fun m_ y L w' => ∃ (v0_0 : Int) (v0_1 : Int), y = (v0_0, v0_1, ()) ∧ iter (slices_Concat_api_Span_api_Span.s0 k l0) m_ (v0_0, v0_1) = some r ∧ Fine (fun _ => False) w L w') := ⟨_, rfl⟩
  refine ok_loop I0 k (by rw [hI0]; exact ⟨_, _, rfl, h, hF⟩) ?_
  clear h
  intro m_ y L0 w0 hy
  rw [hI0] at hy
  obtain ⟨v0_0, v0_1, rfl, h, hF⟩ := hy
  obtain ⟨m0, o0, rfl, h, hl0, hr_0⟩ := iter_some h
  unfold slices_Concat_api_Span_api_Span.s0 at h
  try dsimp only at h
  try dsimp only
  refine ok_if (fun hc2 => ?_) (fun hc2 => ?_)
  · have h := bif_t h hc2
    obtain ⟨r3, hr4, h⟩ := Option.bind_eq_some_iff.1 h
    refine ok_need (getI_need (hS0.later hF) hr4) ?_
    refine ok_get hS0 hF hr4 (by simp) (fun cs hcs => ?_)
    obtain ⟨A1_0, q1_0, c1_0, rfl, hm1_0, hE1_0⟩ := hcs
    subst hm1_0
    refine ⟨((A1_0, (r3).length, c1_0), ()), rfl, ?_⟩
    try dsimp only
    refine ok_if (fun hc6 => ?_) (fun hc6 => ?_)
    · have h := bif_t h hc6
      cases h
    · have h := bif_f h hc6
      obtain rfl := Option.some.inj h
      have h := hl0 _ rfl
      exact ok_again (I := I0) m0 (Nat.lt_succ_self _) (fun L w' he => by rw [hI0]; exact ⟨_, _, rfl, h, hF.trans he.fine⟩)
  · have h := bif_f h hc2
    obtain ⟨s1_0, hr1, h⟩ := Option.bind_eq_some_iff.1 h
    refine ok_callm rfl (fun L1 w1 g1 lt1 => ?_)
    refine (slices_Grow_api_Span_api_Span.c k v0_0 s1_0 hr1  w1 ).mono ?_
    rintro e w1' ⟨A1_0, c1_0, rfl, hb1, hO1_0⟩
    refine ⟨((A1_0, s1_0.length, c1_0), ()), rfl, hb1, fun g1' => ?_⟩
    try dsimp only
    have hO1_0 := hO1_0.call (hF.trans g1).size lt1
    have hF := hF.trans g1'
    obtain ⟨I2, hI2⟩ : ∃ I : Nat → Tup [Lf.sl, Lf.i IntKind.i64] → (Nat → Prop) → World → Prop, I = (fun m_ y L w' => ∃ (A2_0 : Option Addr) (c2_0 : Nat) (s2_0 : List (Int × Int)) (v2_1 : Int), y = ((A2_0, s2_0.length, c2_0), v2_1, ()) ∧ iter (slices_Concat_api_Span_api_Span.s2 k l0) m_ (s2_0, v2_1) = some o0 ∧ Fine (fun _ => False) w L w' ∧ OwnF w.heap.size L w' 30 R22 A2_0 c2_0 s2_0) := ⟨_, rfl⟩
    refine ok_loop I2 k (by rw [hI2]; exact ⟨A1_0, c1_0, s1_0, _, rfl, h, hF, hO1_0⟩) ?_
    clear h
    intro m_ y L2 w2 hy
    rw [hI2] at hy
    obtain ⟨A2_0, c2_0, s2_0, v2_1, rfl, h, hF, hO_s2_0⟩ := hy
    obtain ⟨m2, o2, rfl, h, hl2, hr_2⟩ := iter_some h
    unfold slices_Concat_api_Span_api_Span.s2 at h
    try dsimp only at h
    try dsimp only
    refine ok_if (fun hc9 => ?_) (fun hc9 => ?_)
    · have h := bif_t h hc9
      obtain ⟨r10, hr11, h⟩ := Option.bind_eq_some_iff.1 h
      refine ok_need (getI_need (hS0.later hF) hr11) ?_
      refine ok_get hS0 hF hr11 (by simp) (fun cs hcs => ?_)
      obtain ⟨A3_0, q3_0, c3_0, rfl, hm3_0, hE3_0⟩ := hcs
      subst hm3_0
      refine ⟨((A3_0, (r10).length, c3_0), ()), rfl, ?_⟩
      try dsimp only
      obtain ⟨hq13, h⟩ := bif_need h
      have hq13 := of_decide_eq_true hq13
      refine ok_app (R := R22) (base := w.heap.size) (xs := s2_0) (ys := r10) rfl rfl E22 hO_s2_0 (hE3_0.later hF) (by decide) hq13 hF.size (fun A4 c4 L4 w4 hO4 g4 hid4 hbl4 => ?_)
      try dsimp only
      have hF := Fine.own hF g4 (fun b hb => Or.inr (Own.base hO_s2_0 hb)) hid4
      obtain rfl := Option.some.inj h
      have h := hl2 _ rfl
      exact ok_again (I := I2) m2 (Nat.lt_succ_self _) (fun L w' he => by rw [hI2]; exact ⟨A4, c4, (s2_0 ++ r10), _, rfl, h, hF.trans he.fine, hO4.later he.fine⟩)
    · have h := bif_f h hc9
      obtain rfl := Option.some.inj h
      obtain rfl := hr_2 _ rfl
      obtain rfl := hr_0 _ rfl
      intro ρ L w' _ he _ _
      exact ⟨A2_0, c2_0, rfl, (hF.ext he).below, (hO_s2_0.later he.fine).ret⟩
/-! ### turnbuckle/spans.Has$1: function 32 -/
def spans_Has_1.F (k : Nat) (a0_0 : Int) (a0_1 : Int) (t0_0 : Int) : Option (Bool × Int) := bif decide (t0_0 ≤ a0_1) then (some ((true, t0_0))) else (some ((false, t0_0)))
abbrev spans_Has_1.A : Nat → LA := noA
set_option maxHeartbeats 4000000 in
theorem spans_Has_1.t (a0_0 : Int) (a0_1 : Int) (t0_0 : Int) : tree Try.prog spans_Has_1.A noC Try.f32 [AV.agg [AV.v (Value.int IntKind.i64 a0_0), AV.v (Value.int IntKind.i64 a0_1)], AV.p 0 0] [(0, [AV.v (Value.int IntKind.i64 t0_0)], 3)] =
  bif decide (t0_0 ≤ a0_1) then (
   .done (AV.v (Value.bool true)) ([(0, [AV.v (Value.int IntKind.i64 t0_0)], 3)]))
  else (
   .done (AV.v (Value.bool false)) ([(0, [AV.v (Value.int IntKind.i64 t0_0)], 3)])) := by kernel_rfl
set_option maxHeartbeats 4000000 in
theorem spans_Has_1.c (k : Nat) (a0_0 : Int) (a0_1 : Int) (t0_0 : Int) (r : Bool × Int) (h : spans_Has_1.F k a0_0 a0_1 t0_0 = some r)  (ρ : Nat → Nat) (w : World) (ht : Stand ρ w [(0, [AV.v (Value.int IntKind.i64 t0_0)], 3)]) (hap : Apart ρ [(0, [AV.v (Value.int IntKind.i64 t0_0)], 3)])  : Calls Try.prog 32 (AV.gs ρ [AV.agg [AV.v (Value.int IntKind.i64 a0_0), AV.v (Value.int IntKind.i64 a0_1)], AV.p 0 0]).toArray w fun e w' => e = .returned (((Sh.one : Sh).av (vs [Lf.b] (r.1, ()))).g ρ) ∧ Back ρ w' [(0, [AV.v (Value.int IntKind.i64 t0_0)], 3)] [[Value.int IntKind.i64 r.2]] ∧ Chg ρ [(0, [AV.v (Value.int IntKind.i64 t0_0)], 3)] w w' := by
  refine enterT mixed spans_Has_1.A noC [AV.agg [AV.v (Value.int IntKind.i64 a0_0), AV.v (Value.int IntKind.i64 a0_1)], AV.p 0 0] [(0, [AV.v (Value.int IntKind.i64 t0_0)], 3)] ρ Try.func32 rfl rfl ht hap rfl rfl (fun hF => ?_)
  rw [spans_Has_1.t]
  unfold spans_Has_1.F at h
  try dsimp only at h
  refine ok_if (fun hc1 => ?_) (fun hc1 => ?_)
  · have h := bif_t h hc1
    obtain rfl := Option.some.inj h
    refine ok_doneF hF rfl rfl rfl rfl rfl (fun L w' he hbk hch => ?_)
    exact ⟨rfl, hbk, hch⟩
  · have h := bif_f h hc1
    obtain rfl := Option.some.inj h
    refine ok_doneF hF rfl rfl rfl rfl rfl (fun L w' he hbk hch => ?_)
    exact ⟨rfl, hbk, hch⟩
/-! ### turnbuckle/spans.search[turnbuckle/api.Span]: function 31 -/
def search32.s0 (k : Nat) (l0 : List (Int × Int)) : (Int × Int × Int) → Option (Sum (Int × Int × Int) (Int × Int)) := fun (v0_0, v0_1, v0_2) => bif decide (v0_0 < v0_1) then ((getI l0 (IntKind.wrap IntKind.i64 (Int.tdiv (IntKind.wrap IntKind.i64 (v0_0 + v0_1)) 2))).bind fun r3 => (spans_Has_1.F k r3.1 r3.2 v0_2).bind fun (v2_0, v2_1) => bif v2_0 then (some (.inl ((v0_0, IntKind.wrap IntKind.i64 (Int.tdiv (IntKind.wrap IntKind.i64 (v0_0 + v0_1)) 2), v2_1)))) else (some (.inl ((IntKind.wrap IntKind.i64 (IntKind.wrap IntKind.i64 (Int.tdiv (IntKind.wrap IntKind.i64 (v0_0 + v0_1)) 2) + 1), v0_1, v2_1))))) else (some (.inr ((v0_0, v0_2))))
def search32.F (k : Nat) (l0 : List (Int × Int)) (t0_0 : Int) : Option (Int × Int) := iter (search32.s0 k l0) k (0, ((l0.length : Nat) : Int), t0_0)
abbrev search32.A : Nat → LA := fun r => if r = 2 then ⟨[(5, false, [Lf.i IntKind.i64]), (6, false, [Lf.i IntKind.i64])], [(0, [Lf.i IntKind.i64])]⟩ else ⟨[], []⟩
set_option maxHeartbeats 4000000 in
theorem search32.t (A0 : Option Addr) (n0 c0 : Nat) (t0_0 : Int) : tree Try.prog search32.A noC Try.f31 [AV.v (Value.slice A0 n0 c0), AV.fn (Fn.func 32) [] [AV.p 0 0]] [(0, [AV.v (Value.int IntKind.i64 t0_0)], 3)] =
  .loop ([Lf.i IntKind.i64, Lf.i IntKind.i64, Lf.i IntKind.i64]) ((0, ((n0 : Nat) : Int), t0_0, PUnit.unit)) 0 (fun x0 =>
   bif decide (x0.1 < x0.2.1) then (
    .need (true) (
    .need (decide (0 ≤ IntKind.wrap IntKind.i64 (Int.tdiv (IntKind.wrap IntKind.i64 (x0.1 + x0.2.1)) 2)) && decide (IntKind.wrap IntKind.i64 (Int.tdiv (IntKind.wrap IntKind.i64 (x0.1 + x0.2.1)) 2) < ((n0 : Nat) : Int)) && Option.isSome A0) (
    .ld (Option.map (fun x => Addr.add x (Int.toNat (IntKind.wrap IntKind.i64 (Int.tdiv (IntKind.wrap IntKind.i64 (x0.1 + x0.2.1)) 2)) * 2)) A0) ([Lf.i IntKind.i64, Lf.i IntKind.i64]) (fun x1 =>
     .call 32 ([AV.agg [AV.v (Value.int IntKind.i64 x1.1), AV.v (Value.int IntKind.i64 x1.2.1)], AV.p 0 0]) ([(0, [AV.v (Value.int IntKind.i64 x0.2.2.1)], 3)]) (Sh.one) ([Lf.b, Lf.i IntKind.i64]) ([1]) (fun x2 =>
      bif x2.1 then (
       .again 0 ([Lf.i IntKind.i64, Lf.i IntKind.i64, Lf.i IntKind.i64]) ((x0.1, IntKind.wrap IntKind.i64 (Int.tdiv (IntKind.wrap IntKind.i64 (x0.1 + x0.2.1)) 2), x2.2.1, PUnit.unit)))
      else (
       .again 0 ([Lf.i IntKind.i64, Lf.i IntKind.i64, Lf.i IntKind.i64]) ((IntKind.wrap IntKind.i64 (IntKind.wrap IntKind.i64 (Int.tdiv (IntKind.wrap IntKind.i64 (x0.1 + x0.2.1)) 2) + 1), x0.2.1, x2.2.1, PUnit.unit))))))))
   else (
    .done (AV.v (Value.int IntKind.i64 x0.1)) ([(0, [AV.v (Value.int IntKind.i64 x0.2.2.1)], 3)]))) := by kernel_rfl
set_option maxHeartbeats 4000000 in
theorem search32.c (k : Nat) (A0 : Option Addr) (n0 c0 : Nat) (l0 : List (Int × Int)) (t0_0 : Int) (r : Int × Int) (h : search32.F k l0 t0_0 = some r) (hn0 : n0 = l0.length) (ρ : Nat → Nat) (w : World) (ht : Stand ρ w [(0, [AV.v (Value.int IntKind.i64 t0_0)], 3)]) (hap : Apart ρ [(0, [AV.v (Value.int IntKind.i64 t0_0)], 3)]) (hS0 : SlR R22.row (own ρ [(0, [AV.v (Value.int IntKind.i64 t0_0)], 3)]) w A0 c0 l0) : Calls Try.prog 31 (AV.gs ρ [AV.v (Value.slice A0 n0 c0), AV.fn (Fn.func 32) [] [AV.p 0 0]]).toArray w fun e w' => e = .returned (((Sh.one : Sh).av (vs [Lf.i IntKind.i64] (r.1, ()))).g ρ) ∧ Back ρ w' [(0, [AV.v (Value.int IntKind.i64 t0_0)], 3)] [[Value.int IntKind.i64 r.2]] ∧ Chg ρ [(0, [AV.v (Value.int IntKind.i64 t0_0)], 3)] w w' := by
  subst hn0
  refine enterT mixed search32.A noC [AV.v (Value.slice A0 l0.length c0), AV.fn (Fn.func 32) [] [AV.p 0 0]] [(0, [AV.v (Value.int IntKind.i64 t0_0)], 3)] ρ Try.func31 rfl rfl ht hap rfl rfl (fun hF => ?_)
  rw [search32.t]
  unfold search32.F at h
  try dsimp only at h
  obtain ⟨I0, hI0⟩ : ∃ I : Nat → Tup [Lf.i IntKind.i64, Lf.i IntKind.i64, Lf.i IntKind.i64] → (Nat → Prop) → World → Prop, I = (fun m_ y L w' => ∃ (v0_0 : Int) (v0_1 : Int) (v0_2 : Int), y = (v0_0, v0_1, v0_2, ()) ∧ iter (search32.s0 k l0) m_ (v0_0, v0_1, v0_2) = some r ∧ Fine (own ρ [(0, [AV.v (Value.int IntKind.i64 t0_0)], 3)]) w L w') := ⟨_, rfl⟩
  refine ok_loop I0 k (by rw [hI0]; exact ⟨_, _, _, rfl, h, hF⟩) ?_
  clear h
  intro m_ y L0 w0 hy
  rw [hI0] at hy
  obtain ⟨v0_0, v0_1, v0_2, rfl, h, hF⟩ := hy
  obtain ⟨m0, o0, rfl, h, hl0, hr_0⟩ := iter_some h
  unfold search32.s0 at h
  try dsimp only at h
  try dsimp only
  refine ok_if (fun hc2 => ?_) (fun hc2 => ?_)
  · have h := bif_t h hc2
    refine ok_need rfl ?_
    obtain ⟨r3, hr4, h⟩ := Option.bind_eq_some_iff.1 h
    refine ok_need (getI_need (hS0.later hF) hr4) ?_
    refine ok_get hS0 hF hr4 (by simp) (fun cs hcs => ⟨(r3.1, r3.2, ()), hcs.symm, ?_⟩)
    try dsimp only
    obtain ⟨r2, hr2, h⟩ := Option.bind_eq_some_iff.1 h
    obtain ⟨v2_0, v2_1⟩ := r2
    try dsimp only at h
    refine ok_callTm (fun ρ2 L2 w2 hp2 g2 lt2 ho2 hap2 => ?_)
    refine (spans_Has_1.c k r3.1 r3.2 v0_2 (v2_0, v2_1) hr2  (fun k => match k with | 0 => ρ2 0 | _ => 0) w2 (stand_of ho2) (apart_map rfl hap2) ).mono ?_
    rintro e w2' ⟨rfl, hbk2, hch2⟩
    refine ⟨(v2_0, v2_1, ()), rfl, hbk2, hch2, fun g2' gg2 => ?_⟩
    try dsimp only
    have hF := hF.trans g2'
    refine ok_if (fun hc5 => ?_) (fun hc5 => ?_)
    · have h := bif_t h hc5
      obtain rfl := Option.some.inj h
      have h := hl0 _ rfl
      exact ok_again (I := I0) m0 (Nat.lt_succ_self _) (fun L w' he => by rw [hI0]; exact ⟨_, _, _, rfl, h, hF.trans he.fine⟩)
    · have h := bif_f h hc5
      obtain rfl := Option.some.inj h
      have h := hl0 _ rfl
      exact ok_again (I := I0) m0 (Nat.lt_succ_self _) (fun L w' he => by rw [hI0]; exact ⟨_, _, _, rfl, h, hF.trans he.fine⟩)
  · have h := bif_f h hc2
    obtain rfl := Option.some.inj h
    obtain rfl := hr_0 _ rfl
    refine ok_doneF hF rfl rfl rfl rfl rfl (fun L w' he hbk hch => ?_)
    exact ⟨rfl, hbk, hch⟩
/-! ### turnbuckle/spans.change$1: function 38 -/
def spans_change_1.F (k : Nat) (a0_0 : Int) (a0_1 : Int) (t0_0 : Int) : Option (Bool × Int) := bif decide (IntKind.wrap IntKind.i64 (t0_0 - 1) ≤ a0_1) then (some ((true, t0_0))) else (some ((false, t0_0)))
abbrev spans_change_1.A : Nat → LA := noA
set_option maxHeartbeats 4000000 in
theorem spans_change_1.t (a0_0 : Int) (a0_1 : Int) (t0_0 : Int) : tree Try.prog spans_change_1.A noC Try.f38 [AV.agg [AV.v (Value.int IntKind.i64 a0_0), AV.v (Value.int IntKind.i64 a0_1)], AV.p 0 0] [(0, [AV.v (Value.int IntKind.i64 t0_0)], 3)] =
  bif decide (IntKind.wrap IntKind.i64 (t0_0 - 1) ≤ a0_1) then (
   .done (AV.v (Value.bool true)) ([(0, [AV.v (Value.int IntKind.i64 t0_0)], 3)]))
  else (
   .done (AV.v (Value.bool false)) ([(0, [AV.v (Value.int IntKind.i64 t0_0)], 3)])) := by kernel_rfl
set_option maxHeartbeats 4000000 in
theorem spans_change_1.c (k : Nat) (a0_0 : Int) (a0_1 : Int) (t0_0 : Int) (r : Bool × Int) (h : spans_change_1.F k a0_0 a0_1 t0_0 = some r)  (ρ : Nat → Nat) (w : World) (ht : Stand ρ w [(0, [AV.v (Value.int IntKind.i64 t0_0)], 3)]) (hap : Apart ρ [(0, [AV.v (Value.int IntKind.i64 t0_0)], 3)])  : Calls Try.prog 38 (AV.gs ρ [AV.agg [AV.v (Value.int IntKind.i64 a0_0), AV.v (Value.int IntKind.i64 a0_1)], AV.p 0 0]).toArray w fun e w' => e = .returned (((Sh.one : Sh).av (vs [Lf.b] (r.1, ()))).g ρ) ∧ Back ρ w' [(0, [AV.v (Value.int IntKind.i64 t0_0)], 3)] [[Value.int IntKind.i64 r.2]] ∧ Chg ρ [(0, [AV.v (Value.int IntKind.i64 t0_0)], 3)] w w' := by
  refine enterT mixed spans_change_1.A noC [AV.agg [AV.v (Value.int IntKind.i64 a0_0), AV.v (Value.int IntKind.i64 a0_1)], AV.p 0 0] [(0, [AV.v (Value.int IntKind.i64 t0_0)], 3)] ρ Try.func38 rfl rfl ht hap rfl rfl (fun hF => ?_)
  rw [spans_change_1.t]
  unfold spans_change_1.F at h
  try dsimp only at h
  refine ok_if (fun hc1 => ?_) (fun hc1 => ?_)
  · have h := bif_t h hc1
    obtain rfl := Option.some.inj h
    refine ok_doneF hF rfl rfl rfl rfl rfl (fun L w' he hbk hch => ?_)
    exact ⟨rfl, hbk, hch⟩
  · have h := bif_f h hc1
    obtain rfl := Option.some.inj h
    refine ok_doneF hF rfl rfl rfl rfl rfl (fun L w' he hbk hch => ?_)
    exact ⟨rfl, hbk, hch⟩
/-! ### turnbuckle/spans.search[turnbuckle/api.Span]: function 31 -/
def search38.s0 (k : Nat) (l0 : List (Int × Int)) : (Int × Int × Int) → Option (Sum (Int × Int × Int) (Int × Int)) := fun (v0_0, v0_1, v0_2) => bif decide (v0_0 < v0_1) then ((getI l0 (IntKind.wrap IntKind.i64 (Int.tdiv (IntKind.wrap IntKind.i64 (v0_0 + v0_1)) 2))).bind fun r3 => (spans_change_1.F k r3.1 r3.2 v0_2).bind fun (v2_0, v2_1) => bif v2_0 then (some (.inl ((v0_0, IntKind.wrap IntKind.i64 (Int.tdiv (IntKind.wrap IntKind.i64 (v0_0 + v0_1)) 2), v2_1)))) else (some (.inl ((IntKind.wrap IntKind.i64 (IntKind.wrap IntKind.i64 (Int.tdiv (IntKind.wrap IntKind.i64 (v0_0 + v0_1)) 2) + 1), v0_1, v2_1))))) else (some (.inr ((v0_0, v0_2))))
def search38.F (k : Nat) (l0 : List (Int × Int)) (t0_0 : Int) : Option (Int × Int) := iter (search38.s0 k l0) k (0, ((l0.length : Nat) : Int), t0_0)
abbrev search38.A : Nat → LA := fun r => if r = 2 then ⟨[(5, false, [Lf.i IntKind.i64]), (6, false, [Lf.i IntKind.i64])], [(0, [Lf.i IntKind.i64])]⟩ else ⟨[], []⟩
set_option maxHeartbeats 4000000 in
theorem search38.t (A0 : Option Addr) (n0 c0 : Nat) (t0_0 : Int) : tree Try.prog search38.A noC Try.f31 [AV.v (Value.slice A0 n0 c0), AV.fn (Fn.func 38) [] [AV.p 0 0]] [(0, [AV.v (Value.int IntKind.i64 t0_0)], 3)] =
  .loop ([Lf.i IntKind.i64, Lf.i IntKind.i64, Lf.i IntKind.i64]) ((0, ((n0 : Nat) : Int), t0_0, PUnit.unit)) 0 (fun x0 =>
   bif decide (x0.1 < x0.2.1) then (
    .need (true) (
    .need (decide (0 ≤ IntKind.wrap IntKind.i64 (Int.tdiv (IntKind.wrap IntKind.i64 (x0.1 + x0.2.1)) 2)) && decide (IntKind.wrap IntKind.i64 (Int.tdiv (IntKind.wrap IntKind.i64 (x0.1 + x0.2.1)) 2) < ((n0 : Nat) : Int)) && Option.isSome A0) (
    .ld (Option.map (fun x => Addr.add x (Int.toNat (IntKind.wrap IntKind.i64 (Int.tdiv (IntKind.wrap IntKind.i64 (x0.1 + x0.2.1)) 2)) * 2)) A0) ([Lf.i IntKind.i64, Lf.i IntKind.i64]) (fun x1 =>
     .call 38 ([AV.agg [AV.v (Value.int IntKind.i64 x1.1), AV.v (Value.int IntKind.i64 x1.2.1)], AV.p 0 0]) ([(0, [AV.v (Value.int IntKind.i64 x0.2.2.1)], 3)]) (Sh.one) ([Lf.b, Lf.i IntKind.i64]) ([1]) (fun x2 =>
      bif x2.1 then (
       .again 0 ([Lf.i IntKind.i64, Lf.i IntKind.i64, Lf.i IntKind.i64]) ((x0.1, IntKind.wrap IntKind.i64 (Int.tdiv (IntKind.wrap IntKind.i64 (x0.1 + x0.2.1)) 2), x2.2.1, PUnit.unit)))
      else (
       .again 0 ([Lf.i IntKind.i64, Lf.i IntKind.i64, Lf.i IntKind.i64]) ((IntKind.wrap IntKind.i64 (IntKind.wrap IntKind.i64 (Int.tdiv (IntKind.wrap IntKind.i64 (x0.1 + x0.2.1)) 2) + 1), x0.2.1, x2.2.1, PUnit.unit))))))))
   else (
    .done (AV.v (Value.int IntKind.i64 x0.1)) ([(0, [AV.v (Value.int IntKind.i64 x0.2.2.1)], 3)]))) := by kernel_rfl
set_option maxHeartbeats 4000000 in
theorem search38.c (k : Nat) (A0 : Option Addr) (n0 c0 : Nat) (l0 : List (Int × Int)) (t0_0 : Int) (r : Int × Int) (h : search38.F k l0 t0_0 = some r) (hn0 : n0 = l0.length) (ρ : Nat → Nat) (w : World) (ht : Stand ρ w [(0, [AV.v (Value.int IntKind.i64 t0_0)], 3)]) (hap : Apart ρ [(0, [AV.v (Value.int IntKind.i64 t0_0)], 3)]) (hS0 : SlR R22.row (own ρ [(0, [AV.v (Value.int IntKind.i64 t0_0)], 3)]) w A0 c0 l0) : Calls Try.prog 31 (AV.gs ρ [AV.v (Value.slice A0 n0 c0), AV.fn (Fn.func 38) [] [AV.p 0 0]]).toArray w fun e w' => e = .returned (((Sh.one : Sh).av (vs [Lf.i IntKind.i64] (r.1, ()))).g ρ) ∧ Back ρ w' [(0, [AV.v (Value.int IntKind.i64 t0_0)], 3)] [[Value.int IntKind.i64 r.2]] ∧ Chg ρ [(0, [AV.v (Value.int IntKind.i64 t0_0)], 3)] w w' := by
  subst hn0
  refine enterT mixed search38.A noC [AV.v (Value.slice A0 l0.length c0), AV.fn (Fn.func 38) [] [AV.p 0 0]] [(0, [AV.v (Value.int IntKind.i64 t0_0)], 3)] ρ Try.func31 rfl rfl ht hap rfl rfl (fun hF => ?_)
  rw [search38.t]
  unfold search38.F at h
  try dsimp only at h
  obtain ⟨I0, hI0⟩ : ∃ I : Nat → Tup [Lf.i IntKind.i64, Lf.i IntKind.i64, Lf.i IntKind.i64] → (Nat → Prop) → World → Prop, I = (fun m_ y L w' => ∃ (v0_0 : Int) (v0_1 : Int) (v0_2 : Int), y = (v0_0, v0_1, v0_2, ()) ∧ iter (search38.s0 k l0) m_ (v0_0, v0_1, v0_2) = some r ∧ Fine (own ρ [(0, [AV.v (Value.int IntKind.i64 t0_0)], 3)]) w L w') := ⟨_, rfl⟩
  refine ok_loop I0 k (by rw [hI0]; exact ⟨_, _, _, rfl, h, hF⟩) ?_
  clear h
  intro m_ y L0 w0 hy
  rw [hI0] at hy
  obtain ⟨v0_0, v0_1, v0_2, rfl, h, hF⟩ := hy
  obtain ⟨m0, o0, rfl, h, hl0, hr_0⟩ := iter_some h
  unfold search38.s0 at h
  try dsimp only at h
  try dsimp only
  refine ok_if (fun hc2 => ?_) (fun hc2 => ?_)
  · have h := bif_t h hc2
    refine ok_need rfl ?_
    obtain ⟨r3, hr4, h⟩ := Option.bind_eq_some_iff.1 h
    refine ok_need (getI_need (hS0.later hF) hr4) ?_
    refine ok_get hS0 hF hr4 (by simp) (fun cs hcs => ⟨(r3.1, r3.2, ()), hcs.symm, ?_⟩)
    try dsimp only
    obtain ⟨r2, hr2, h⟩ := Option.bind_eq_some_iff.1 h
    obtain ⟨v2_0, v2_1⟩ := r2
    try dsimp only at h
    refine ok_callTm (fun ρ2 L2 w2 hp2 g2 lt2 ho2 hap2 => ?_)
    refine (spans_change_1.c k r3.1 r3.2 v0_2 (v2_0, v2_1) hr2  (fun k => match k with | 0 => ρ2 0 | _ => 0) w2 (stand_of ho2) (apart_map rfl hap2) ).mono ?_
    rintro e w2' ⟨rfl, hbk2, hch2⟩
    refine ⟨(v2_0, v2_1, ()), rfl, hbk2, hch2, fun g2' gg2 => ?_⟩
    try dsimp only
    have hF := hF.trans g2'
    refine ok_if (fun hc5 => ?_) (fun hc5 => ?_)
    · have h := bif_t h hc5
      obtain rfl := Option.some.inj h
      have h := hl0 _ rfl
      exact ok_again (I := I0) m0 (Nat.lt_succ_self _) (fun L w' he => by rw [hI0]; exact ⟨_, _, _, rfl, h, hF.trans he.fine⟩)
    · have h := bif_f h hc5
      obtain rfl := Option.some.inj h
      have h := hl0 _ rfl
      exact ok_again (I := I0) m0 (Nat.lt_succ_self _) (fun L w' he => by rw [hI0]; exact ⟨_, _, _, rfl, h, hF.trans he.fine⟩)
  · have h := bif_f h hc2
    obtain rfl := Option.some.inj h
    obtain rfl := hr_0 _ rfl
    refine ok_doneF hF rfl rfl rfl rfl rfl (fun L w' he hbk hch => ?_)
    exact ⟨rfl, hbk, hch⟩
/-! ### turnbuckle/spans.change$2: function 39 -/
def spans_change_2.F (k : Nat) (a0_0 : Int) (a0_1 : Int) (t0_0 : Int) : Option (Bool × Int) := bif decide (t0_0 < IntKind.wrap IntKind.i64 (a0_0 - 1)) then (some ((true, t0_0))) else (some ((false, t0_0)))
abbrev spans_change_2.A : Nat → LA := noA
set_option maxHeartbeats 4000000 in
theorem spans_change_2.t (a0_0 : Int) (a0_1 : Int) (t0_0 : Int) : tree Try.prog spans_change_2.A noC Try.f39 [AV.agg [AV.v (Value.int IntKind.i64 a0_0), AV.v (Value.int IntKind.i64 a0_1)], AV.p 0 0] [(0, [AV.v (Value.int IntKind.i64 t0_0)], 3)] =
  bif decide (t0_0 < IntKind.wrap IntKind.i64 (a0_0 - 1)) then (
   .done (AV.v (Value.bool true)) ([(0, [AV.v (Value.int IntKind.i64 t0_0)], 3)]))
  else (
   .done (AV.v (Value.bool false)) ([(0, [AV.v (Value.int IntKind.i64 t0_0)], 3)])) := by kernel_rfl
set_option maxHeartbeats 4000000 in
theorem spans_change_2.c (k : Nat) (a0_0 : Int) (a0_1 : Int) (t0_0 : Int) (r : Bool × Int) (h : spans_change_2.F k a0_0 a0_1 t0_0 = some r)  (ρ : Nat → Nat) (w : World) (ht : Stand ρ w [(0, [AV.v (Value.int IntKind.i64 t0_0)], 3)]) (hap : Apart ρ [(0, [AV.v (Value.int IntKind.i64 t0_0)], 3)])  : Calls Try.prog 39 (AV.gs ρ [AV.agg [AV.v (Value.int IntKind.i64 a0_0), AV.v (Value.int IntKind.i64 a0_1)], AV.p 0 0]).toArray w fun e w' => e = .returned (((Sh.one : Sh).av (vs [Lf.b] (r.1, ()))).g ρ) ∧ Back ρ w' [(0, [AV.v (Value.int IntKind.i64 t0_0)], 3)] [[Value.int IntKind.i64 r.2]] ∧ Chg ρ [(0, [AV.v (Value.int IntKind.i64 t0_0)], 3)] w w' := by
  refine enterT mixed spans_change_2.A noC [AV.agg [AV.v (Value.int IntKind.i64 a0_0), AV.v (Value.int IntKind.i64 a0_1)], AV.p 0 0] [(0, [AV.v (Value.int IntKind.i64 t0_0)], 3)] ρ Try.func39 rfl rfl ht hap rfl rfl (fun hF => ?_)
  rw [spans_change_2.t]
  unfold spans_change_2.F at h
  try dsimp only at h
  refine ok_if (fun hc1 => ?_) (fun hc1 => ?_)
  · have h := bif_t h hc1
    obtain rfl := Option.some.inj h
    refine ok_doneF hF rfl rfl rfl rfl rfl (fun L w' he hbk hch => ?_)
    exact ⟨rfl, hbk, hch⟩
  · have h := bif_f h hc1
    obtain rfl := Option.some.inj h
    refine ok_doneF hF rfl rfl rfl rfl rfl (fun L w' he hbk hch => ?_)
    exact ⟨rfl, hbk, hch⟩
/-! ### turnbuckle/spans.search[turnbuckle/api.Span]: function 31 -/
def search39.s0 (k : Nat) (l0 : List (Int × Int)) : (Int × Int × Int) → Option (Sum (Int × Int × Int) (Int × Int)) := fun (v0_0, v0_1, v0_2) => bif decide (v0_0 < v0_1) then ((getI l0 (IntKind.wrap IntKind.i64 (Int.tdiv (IntKind.wrap IntKind.i64 (v0_0 + v0_1)) 2))).bind fun r3 => (spans_change_2.F k r3.1 r3.2 v0_2).bind fun (v2_0, v2_1) => bif v2_0 then (some (.inl ((v0_0, IntKind.wrap IntKind.i64 (Int.tdiv (IntKind.wrap IntKind.i64 (v0_0 + v0_1)) 2), v2_1)))) else (some (.inl ((IntKind.wrap IntKind.i64 (IntKind.wrap IntKind.i64 (Int.tdiv (IntKind.wrap IntKind.i64 (v0_0 + v0_1)) 2) + 1), v0_1, v2_1))))) else (some (.inr ((v0_0, v0_2))))
def search39.F (k : Nat) (l0 : List (Int × Int)) (t0_0 : Int) : Option (Int × Int) := iter (search39.s0 k l0) k (0, ((l0.length : Nat) : Int), t0_0)
abbrev search39.A : Nat → LA := fun r => if r = 2 then ⟨[(5, false, [Lf.i IntKind.i64]), (6, false, [Lf.i IntKind.i64])], [(0, [Lf.i IntKind.i64])]⟩ else ⟨[], []⟩
set_option maxHeartbeats 4000000 in
theorem search39.t (A0 : Option Addr) (n0 c0 : Nat) (t0_0 : Int) : tree Try.prog search39.A noC Try.f31 [AV.v (Value.slice A0 n0 c0), AV.fn (Fn.func 39) [] [AV.p 0 0]] [(0, [AV.v (Value.int IntKind.i64 t0_0)], 3)] =
  .loop ([Lf.i IntKind.i64, Lf.i IntKind.i64, Lf.i IntKind.i64]) ((0, ((n0 : Nat) : Int), t0_0, PUnit.unit)) 0 (fun x0 =>
   bif decide (x0.1 < x0.2.1) then (
    .need (true) (
    .need (decide (0 ≤ IntKind.wrap IntKind.i64 (Int.tdiv (IntKind.wrap IntKind.i64 (x0.1 + x0.2.1)) 2)) && decide (IntKind.wrap IntKind.i64 (Int.tdiv (IntKind.wrap IntKind.i64 (x0.1 + x0.2.1)) 2) < ((n0 : Nat) : Int)) && Option.isSome A0) (
    .ld (Option.map (fun x => Addr.add x (Int.toNat (IntKind.wrap IntKind.i64 (Int.tdiv (IntKind.wrap IntKind.i64 (x0.1 + x0.2.1)) 2)) * 2)) A0) ([Lf.i IntKind.i64, Lf.i IntKind.i64]) (fun x1 =>
     .call 39 ([AV.agg [AV.v (Value.int IntKind.i64 x1.1), AV.v (Value.int IntKind.i64 x1.2.1)], AV.p 0 0]) ([(0, [AV.v (Value.int IntKind.i64 x0.2.2.1)], 3)]) (Sh.one) ([Lf.b, Lf.i IntKind.i64]) ([1]) (fun x2 =>
      bif x2.1 then (
       .again 0 ([Lf.i IntKind.i64, Lf.i IntKind.i64, Lf.i IntKind.i64]) ((x0.1, IntKind.wrap IntKind.i64 (Int.tdiv (IntKind.wrap IntKind.i64 (x0.1 + x0.2.1)) 2), x2.2.1, PUnit.unit)))
      else (
       .again 0 ([Lf.i IntKind.i64, Lf.i IntKind.i64, Lf.i IntKind.i64]) ((IntKind.wrap IntKind.i64 (IntKind.wrap IntKind.i64 (Int.tdiv (IntKind.wrap IntKind.i64 (x0.1 + x0.2.1)) 2) + 1), x0.2.1, x2.2.1, PUnit.unit))))))))
   else (
    .done (AV.v (Value.int IntKind.i64 x0.1)) ([(0, [AV.v (Value.int IntKind.i64 x0.2.2.1)], 3)]))) := by kernel_rfl
set_option maxHeartbeats 4000000 in
theorem search39.c (k : Nat) (A0 : Option Addr) (n0 c0 : Nat) (l0 : List (Int × Int)) (t0_0 : Int) (r : Int × Int) (h : search39.F k l0 t0_0 = some r) (hn0 : n0 = l0.length) (ρ : Nat → Nat) (w : World) (ht : Stand ρ w [(0, [AV.v (Value.int IntKind.i64 t0_0)], 3)]) (hap : Apart ρ [(0, [AV.v (Value.int IntKind.i64 t0_0)], 3)]) (hS0 : SlR R22.row (own ρ [(0, [AV.v (Value.int IntKind.i64 t0_0)], 3)]) w A0 c0 l0) : Calls Try.prog 31 (AV.gs ρ [AV.v (Value.slice A0 n0 c0), AV.fn (Fn.func 39) [] [AV.p 0 0]]).toArray w fun e w' => e = .returned (((Sh.one : Sh).av (vs [Lf.i IntKind.i64] (r.1, ()))).g ρ) ∧ Back ρ w' [(0, [AV.v (Value.int IntKind.i64 t0_0)], 3)] [[Value.int IntKind.i64 r.2]] ∧ Chg ρ [(0, [AV.v (Value.int IntKind.i64 t0_0)], 3)] w w' := by
  subst hn0
  refine enterT mixed search39.A noC [AV.v (Value.slice A0 l0.length c0), AV.fn (Fn.func 39) [] [AV.p 0 0]] [(0, [AV.v (Value.int IntKind.i64 t0_0)], 3)] ρ Try.func31 rfl rfl ht hap rfl rfl (fun hF => ?_)
  rw [search39.t]
  unfold search39.F at h
  try dsimp only at h
  obtain ⟨I0, hI0⟩ : ∃ I : Nat → Tup [Lf.i IntKind.i64, Lf.i IntKind.i64, Lf.i IntKind.i64] → (Nat → Prop) → World → Prop, I = (fun m_ y L w' => ∃ (v0_0 : Int) (v0_1 : Int) (v0_2 : Int), y = (v0_0, v0_1, v0_2, ()) ∧ iter (search39.s0 k l0) m_ (v0_0, v0_1, v0_2) = some r ∧ Fine (own ρ [(0, [AV.v (Value.int IntKind.i64 t0_0)], 3)]) w L w') := ⟨_, rfl⟩
  refine ok_loop I0 k (by rw [hI0]; exact ⟨_, _, _, rfl, h, hF⟩) ?_
  clear h
  intro m_ y L0 w0 hy
  rw [hI0] at hy
  obtain ⟨v0_0, v0_1, v0_2, rfl, h, hF⟩ := hy
  obtain ⟨m0, o0, rfl, h, hl0, hr_0⟩ := iter_some h
  unfold search39.s0 at h
  try dsimp only at h
  try dsimp only
  refine ok_if (fun hc2 => ?_) (fun hc2 => ?_)
  · have h := bif_t h hc2
    refine ok_need rfl ?_
    obtain ⟨r3, hr4, h⟩ := Option.bind_eq_some_iff.1 h
    refine ok_need (getI_need (hS0.later hF) hr4) ?_
    refine ok_get hS0 hF hr4 (by simp) (fun cs hcs => ⟨(r3.1, r3.2, ()), hcs.symm, ?_⟩)
    try dsimp only
    obtain ⟨r2, hr2, h⟩ := Option.bind_eq_some_iff.1 h
    obtain ⟨v2_0, v2_1⟩ := r2
    try dsimp only at h
    refine ok_callTm (fun ρ2 L2 w2 hp2 g2 lt2 ho2 hap2 => ?_)
    refine (spans_change_2.c k r3.1 r3.2 v0_2 (v2_0, v2_1) hr2  (fun k => match k with | 0 => ρ2 0 | _ => 0) w2 (stand_of ho2) (apart_map rfl hap2) ).mono ?_
    rintro e w2' ⟨rfl, hbk2, hch2⟩
    refine ⟨(v2_0, v2_1, ()), rfl, hbk2, hch2, fun g2' gg2 => ?_⟩
    try dsimp only
    have hF := hF.trans g2'
    refine ok_if (fun hc5 => ?_) (fun hc5 => ?_)
    · have h := bif_t h hc5
      obtain rfl := Option.some.inj h
      have h := hl0 _ rfl
      exact ok_again (I := I0) m0 (Nat.lt_succ_self _) (fun L w' he => by rw [hI0]; exact ⟨_, _, _, rfl, h, hF.trans he.fine⟩)
    · have h := bif_f h hc5
      obtain rfl := Option.some.inj h
      have h := hl0 _ rfl
      exact ok_again (I := I0) m0 (Nat.lt_succ_self _) (fun L w' he => by rw [hI0]; exact ⟨_, _, _, rfl, h, hF.trans he.fine⟩)
  · have h := bif_f h hc2
    obtain rfl := Option.some.inj h
    obtain rfl := hr_0 _ rfl
    refine ok_doneF hF rfl rfl rfl rfl rfl (fun L w' he hbk hch => ?_)
    exact ⟨rfl, hbk, hch⟩
/-! ### turnbuckle/spans.Has: function 12 -/
def spans_Has.F (k : Nat) (l0 : List (Int × Int)) (a1 : Int) : Option Bool := (spans_Right.F k l0).bind fun v0_0 => bif v0_0 then ((search32.F k l0 a1).bind fun (v1_0, v1_1) => bif decide (v1_0 < ((l0.length : Nat) : Int)) then ((getI l0 v1_0).bind fun r3 => bif decide (r3.1 ≤ v1_1) then (some true) else (some false)) else (some false)) else (some false)
abbrev spans_Has.A : Nat → LA := noA
set_option maxHeartbeats 4000000 in
theorem spans_Has.t (A0 : Option Addr) (n0 c0 : Nat) (a1 : Int) : tree Try.prog spans_Has.A noC Try.f12 [AV.v (Value.slice A0 n0 c0), AV.v (Value.int IntKind.i64 a1)] [] =
  .call 10 ([AV.v (Value.slice A0 n0 c0)]) ([]) (Sh.one) ([Lf.b]) ([]) (fun x0 =>
   bif x0.1 then (
    .call 31 ([AV.v (Value.slice A0 n0 c0), AV.fn (Fn.func 32) [] [AV.p 1000 0]]) ([(1000, [AV.v (Value.int IntKind.i64 a1)], 3)]) (Sh.one) ([Lf.i IntKind.i64, Lf.i IntKind.i64]) ([1]) (fun x1 =>
     bif decide (x1.1 < ((n0 : Nat) : Int)) then (
      .need (decide (0 ≤ x1.1) && decide (x1.1 < ((n0 : Nat) : Int)) && Option.isSome A0) (
      .need (Option.isSome (Option.map (fun x => Addr.add x (Int.toNat x1.1 * 2)) A0)) (
      .ld (Option.map (fun x => Addr.add x 0) (Option.map (fun x => Addr.add x (Int.toNat x1.1 * 2)) A0)) ([Lf.i IntKind.i64]) (fun x2 =>
       bif decide (x2.1 ≤ x1.2.1) then (
        .done (AV.v (Value.bool true)) ([]))
       else (
        .done (AV.v (Value.bool false)) ([]))))))
     else (
      .done (AV.v (Value.bool false)) ([]))))
   else (
    .done (AV.v (Value.bool false)) ([]))) := by kernel_rfl
set_option maxHeartbeats 4000000 in
theorem spans_Has.c (k : Nat) (A0 : Option Addr) (n0 c0 : Nat) (l0 : List (Int × Int)) (a1 : Int) (r : Bool) (h : spans_Has.F k l0 a1 = some r) (hn0 : n0 = l0.length) (w : World) (hS0 : SlR R22.row (fun _ => False) w A0 c0 l0) : Calls Try.prog 12 (AV.gs id [AV.v (Value.slice A0 n0 c0), AV.v (Value.int IntKind.i64 a1)]).toArray w fun e w' => e = .returned (((Sh.one : Sh).av (vs [Lf.b] (r, ()))).g id) ∧ Below w.heap.size w w' := by
  subst hn0
  refine enter0 mixed spans_Has.A noC [AV.v (Value.slice A0 l0.length c0), AV.v (Value.int IntKind.i64 a1)] Try.func12 rfl rfl rfl (fun hF => ?_)
  rw [spans_Has.t]
  unfold spans_Has.F at h
  try dsimp only at h
  obtain ⟨v0_0, hr0, h⟩ := Option.bind_eq_some_iff.1 h
  refine ok_callm rfl (fun L0 w0 g0 lt0 => ?_)
  refine (spans_Right.c k _ _ _ l0 v0_0 hr0 rfl w0 (hS0.later (hF.trans g0)).bare).mono ?_
  rintro e w0' ⟨rfl, hb0⟩
  refine ⟨(v0_0, ()), rfl, hb0, fun g0' => ?_⟩
  try dsimp only
  have hF := hF.trans g0'
  refine ok_if (fun hc1 => ?_) (fun hc1 => ?_)
  · have h := bif_t h hc1
    obtain ⟨r1, hr1, h⟩ := Option.bind_eq_some_iff.1 h
    obtain ⟨v1_0, v1_1⟩ := r1
    try dsimp only at h
    refine ok_callTm (fun ρ1 L1 w1 hp1 g1 lt1 ho1 hap1 => ?_)
    refine (search32.c k _ _ _ l0 a1 (v1_0, v1_1) hr1 rfl (fun k => match k with | 0 => ρ1 1000 | _ => 0) w1 (stand_of ho1) (apart_map rfl hap1) ((hS0.later (hF.trans g1)).mono (own_sub ho1 rfl))).mono ?_
    rintro e w1' ⟨rfl, hbk1, hch1⟩
    refine ⟨(v1_0, v1_1, ()), rfl, hbk1, hch1, fun g1' gg1 => ?_⟩
    try dsimp only
    have hF := hF.trans g1'
    refine ok_if (fun hc2 => ?_) (fun hc2 => ?_)
    · have h := bif_t h hc2
      obtain ⟨r3, hr4, h⟩ := Option.bind_eq_some_iff.1 h
      refine ok_need (getI_need (hS0.later hF) hr4) ?_
      refine ok_need (getI_need2 (hS0.later hF) hr4) ?_
      refine ok_getf 0 hS0 hF hr4 (fun cs hcs => ⟨r3.1, by rw [hcs]; rfl, ?_⟩)
      try dsimp only
      refine ok_if (fun hc5 => ?_) (fun hc5 => ?_)
      · have h := bif_t h hc5
        obtain rfl := Option.some.inj h
        intro ρ L w' _ he _ _
        exact ⟨rfl, (hF.ext he).below⟩
      · have h := bif_f h hc5
        obtain rfl := Option.some.inj h
        intro ρ L w' _ he _ _
        exact ⟨rfl, (hF.ext he).below⟩
    · have h := bif_f h hc2
      obtain rfl := Option.some.inj h
      intro ρ L w' _ he _ _
      exact ⟨rfl, (hF.ext he).below⟩
  · have h := bif_f h hc1
    obtain rfl := Option.some.inj h
    intro ρ L w' _ he _ _
    exact ⟨rfl, (hF.ext he).below⟩
/-! ### turnbuckle/spans.Add$1: function 34 -/
def spans_Add_1.F (k : Nat) (l0 : List (Int × Int)) (t0_0 : Int) (t1_0 : Int) : Option ((List (Int × Int)) × Int × Int) := bif decide (0 < ((l0.length : Nat) : Int)) then ((getI l0 0).bind fun r2 => (getI l0 (IntKind.wrap IntKind.i64 (((l0.length : Nat) : Int) - 1))).bind fun r4 => some ((([(if r2.1 < t0_0 then r2.1 else t0_0, if t1_0 < r4.2 then r4.2 else t1_0)] : List (Int × Int)), t0_0, t1_0))) else (some ((([(t0_0, t1_0)] : List (Int × Int)), t0_0, t1_0)))
abbrev spans_Add_1.A : Nat → LA := noA
set_option maxHeartbeats 4000000 in
theorem spans_Add_1.t (A0 : Option Addr) (n0 c0 : Nat) (t0_0 : Int) (t1_0 : Int) : tree Try.prog spans_Add_1.A noC Try.f34 [AV.v (Value.slice A0 n0 c0), AV.p 0 0, AV.p 1 0] [(0, [AV.v (Value.int IntKind.i64 t0_0)], 3), (1, [AV.v (Value.int IntKind.i64 t1_0)], 3)] =
  bif decide (0 < ((n0 : Nat) : Int)) then (
   .need (true && decide (0 < ((n0 : Nat) : Int)) && Option.isSome A0) (
   .need (Option.isSome (Option.map (fun x => Addr.add x 0) A0)) (
   .ld (Option.map (fun x => Addr.add x 0) (Option.map (fun x => Addr.add x 0) A0)) ([Lf.i IntKind.i64]) (fun x0 =>
    .need (decide (0 ≤ IntKind.wrap IntKind.i64 (((n0 : Nat) : Int) - 1)) && decide (IntKind.wrap IntKind.i64 (((n0 : Nat) : Int) - 1) < ((n0 : Nat) : Int)) && Option.isSome A0) (
    .need (Option.isSome (Option.map (fun x => Addr.add x (Int.toNat (IntKind.wrap IntKind.i64 (((n0 : Nat) : Int) - 1)) * 2)) A0)) (
    .ld (Option.map (fun x => Addr.add x 1) (Option.map (fun x => Addr.add x (Int.toNat (IntKind.wrap IntKind.i64 (((n0 : Nat) : Int) - 1)) * 2)) A0)) ([Lf.i IntKind.i64]) (fun x1 =>
     .sem (Instr.buildSlice 22 1 { toList := [(0, Value.agg { toList := [Value.int IntKind.i64 (if x0.1 < t0_0 then x0.1 else t0_0), Value.int IntKind.i64 (if t1_0 < x1.1 then x1.1 else t1_0)] })] }) ([Lf.sl]) (Sh.one) (fun x2 =>
      .done (AV.v (Value.slice x2.1.1 x2.1.2.1 x2.1.2.2)) ([(0, [AV.v (Value.int IntKind.i64 t0_0)], 3), (1, [AV.v (Value.int IntKind.i64 t1_0)], 3)])))))))))
  else (
   .sem (Instr.buildSlice 22 1 { toList := [(0, Value.agg { toList := [Value.int IntKind.i64 t0_0, Value.int IntKind.i64 t1_0] })] }) ([Lf.sl]) (Sh.one) (fun x0 =>
    .done (AV.v (Value.slice x0.1.1 x0.1.2.1 x0.1.2.2)) ([(0, [AV.v (Value.int IntKind.i64 t0_0)], 3), (1, [AV.v (Value.int IntKind.i64 t1_0)], 3)]))) := by kernel_rfl
set_option maxHeartbeats 4000000 in
theorem spans_Add_1.c (k : Nat) (A0 : Option Addr) (n0 c0 : Nat) (l0 : List (Int × Int)) (t0_0 : Int) (t1_0 : Int) (r : (List (Int × Int)) × Int × Int) (h : spans_Add_1.F k l0 t0_0 t1_0 = some r) (hn0 : n0 = l0.length) (ρ : Nat → Nat) (w : World) (ht : Stand ρ w [(0, [AV.v (Value.int IntKind.i64 t0_0)], 3), (1, [AV.v (Value.int IntKind.i64 t1_0)], 3)]) (hap : Apart ρ [(0, [AV.v (Value.int IntKind.i64 t0_0)], 3), (1, [AV.v (Value.int IntKind.i64 t1_0)], 3)]) (hS0 : SlR R22.row (own ρ [(0, [AV.v (Value.int IntKind.i64 t0_0)], 3), (1, [AV.v (Value.int IntKind.i64 t1_0)], 3)]) w A0 c0 l0) : Calls Try.prog 34 (AV.gs ρ [AV.v (Value.slice A0 n0 c0), AV.p 0 0, AV.p 1 0]).toArray w fun e w' => ∃ (B0 : Option Addr) (d0 : Nat), e = .returned (((Sh.one : Sh).av (vs [Lf.sl] ((B0, (r.1).length, d0), ()))).g ρ) ∧ Back ρ w' [(0, [AV.v (Value.int IntKind.i64 t0_0)], 3), (1, [AV.v (Value.int IntKind.i64 t1_0)], 3)] [[Value.int IntKind.i64 r.2.1], [Value.int IntKind.i64 r.2.2]] ∧ Chg ρ [(0, [AV.v (Value.int IntKind.i64 t0_0)], 3), (1, [AV.v (Value.int IntKind.i64 t1_0)], 3)] w w' ∧ OwnF w.heap.size (fun b => b < w.heap.size) w' 30 R22 B0 d0 r.1 := by
  subst hn0
  refine enterT mixed spans_Add_1.A noC [AV.v (Value.slice A0 l0.length c0), AV.p 0 0, AV.p 1 0] [(0, [AV.v (Value.int IntKind.i64 t0_0)], 3), (1, [AV.v (Value.int IntKind.i64 t1_0)], 3)] ρ Try.func34 rfl rfl ht hap rfl rfl (fun hF => ?_)
  rw [spans_Add_1.t]
  unfold spans_Add_1.F at h
  try dsimp only at h
  refine ok_if (fun hc1 => ?_) (fun hc1 => ?_)
  · have h := bif_t h hc1
    obtain ⟨r2, hr3, h⟩ := Option.bind_eq_some_iff.1 h
    refine ok_need (getI_need (hS0.later hF) hr3) ?_
    refine ok_need (getI_need2 (hS0.later hF) hr3) ?_
    refine ok_getf 0 hS0 hF hr3 (fun cs hcs => ⟨r2.1, by rw [hcs]; rfl, ?_⟩)
    try dsimp only
    obtain ⟨r4, hr5, h⟩ := Option.bind_eq_some_iff.1 h
    refine ok_need (getI_need (hS0.later hF) hr5) ?_
    refine ok_need (getI_need2 (hS0.later hF) hr5) ?_
    refine ok_getf 1 hS0 hF hr5 (fun cs hcs => ⟨r4.2, by rw [hcs]; rfl, ?_⟩)
    try dsimp only
    refine ok_lit (R := R22) (base := w.heap.size) (xs := ([(if r2.1 < t0_0 then r2.1 else t0_0, if t1_0 < r4.2 then r4.2 else t1_0)] : List (Int × Int))) #[Value.int IntKind.i64 (if r2.1 < t0_0 then r2.1 else t0_0), Value.int IntKind.i64 (if t1_0 < r4.2 then r4.2 else t1_0)] E22 rfl (by decide) (by decide) ⟨_, _, rfl, rfl, by kernel_rfl⟩ rfl hF.size (fun A2 c2 L2 w2 hO2 g2 hbl2 => ?_)
    try dsimp only
    have hF := hF.trans g2
    obtain rfl := Option.some.inj h
    refine ok_doneF hF rfl rfl rfl rfl rfl (fun L w' he hbk hch => ?_)
    exact ⟨A2, c2, rfl, hbk, hch, (hO2.later he.fine).ret⟩
  · have h := bif_f h hc1
    refine ok_lit (R := R22) (base := w.heap.size) (xs := ([(t0_0, t1_0)] : List (Int × Int))) #[Value.int IntKind.i64 t0_0, Value.int IntKind.i64 t1_0] E22 rfl (by decide) (by decide) ⟨_, _, rfl, rfl, by kernel_rfl⟩ rfl hF.size (fun A0 c0 L0 w0 hO0 g0 hbl0 => ?_)
    try dsimp only
    have hF := hF.trans g0
    obtain rfl := Option.some.inj h
    refine ok_doneF hF rfl rfl rfl rfl rfl (fun L w' he hbk hch => ?_)
    exact ⟨A0, c0, rfl, hbk, hch, (hO0.later he.fine).ret⟩
/-! ### turnbuckle/spans.Take$1: function 35 -/
def spans_Take_1.s3 (k : Nat) (r3 : Int × Int) (t0_0 : Int) (t1_0 : Int) (v0_1 : Int) : ((List (Int × Int)) × Int) → Option (Sum ((List (Int × Int)) × Int) (Sum ((List (Int × Int)) × Int) ((List (Int × Int)) × Int × Int))) := fun (s3_0, v3_1) => bif decide (v3_1 < (((([(r3.1, if IntKind.wrap IntKind.i64 (t0_0 - 1) < r3.2 then IntKind.wrap IntKind.i64 (t0_0 - 1) else r3.2), (if r3.1 < IntKind.wrap IntKind.i64 (t1_0 + 1) then IntKind.wrap IntKind.i64 (t1_0 + 1) else r3.1, r3.2)] : List (Int × Int))).length : Nat) : Int)) then ((getI ([(r3.1, if IntKind.wrap IntKind.i64 (t0_0 - 1) < r3.2 then IntKind.wrap IntKind.i64 (t0_0 - 1) else r3.2), (if r3.1 < IntKind.wrap IntKind.i64 (t1_0 + 1) then IntKind.wrap IntKind.i64 (t1_0 + 1) else r3.1, r3.2)] : List (Int × Int)) v3_1).bind fun r8 => bif decide (r8.1 ≤ r8.2) then (bif decide ((s3_0.length + (([(r8.1, r8.2)] : List (Int × Int))).length) * 16 ≤ 140737488355328) then (some (.inl (((s3_0 ++ ([(r8.1, r8.2)] : List (Int × Int))), IntKind.wrap IntKind.i64 (v3_1 + 1))))) else none) else (some (.inl ((s3_0, IntKind.wrap IntKind.i64 (v3_1 + 1)))))) else (some (.inr (.inl ((s3_0, IntKind.wrap IntKind.i64 (v0_1 + 1))))))
def spans_Take_1.s0 (k : Nat) (l0 : List (Int × Int)) (t0_0 : Int) (t1_0 : Int) : ((List (Int × Int)) × Int) → Option (Sum ((List (Int × Int)) × Int) ((List (Int × Int)) × Int × Int)) := fun (s0_0, v0_1) => bif decide (v0_1 < ((l0.length : Nat) : Int)) then ((getI l0 v0_1).bind fun r3 => iter (spans_Take_1.s3 k r3 t0_0 t1_0 v0_1) k (s0_0, 0)) else (some (.inr ((s0_0, t0_0, t1_0))))
def spans_Take_1.F (k : Nat) (l0 : List (Int × Int)) (t0_0 : Int) (t1_0 : Int) : Option ((List (Int × Int)) × Int × Int) := iter (spans_Take_1.s0 k l0 t0_0 t1_0) k ([], 0)
abbrev spans_Take_1.A : Nat → LA := fun r => if r = 6 then ⟨[(5, false, [Lf.sl]), (34, false, [Lf.i IntKind.i64])], []⟩ else if r = 3 then ⟨[(5, false, [Lf.sl]), (12, false, [Lf.i IntKind.i64])], []⟩ else ⟨[], []⟩
set_option maxHeartbeats 4000000 in
theorem spans_Take_1.t (A0 : Option Addr) (n0 c0 : Nat) (t0_0 : Int) (t1_0 : Int) : tree Try.prog spans_Take_1.A noC Try.f35 [AV.v (Value.slice A0 n0 c0), AV.p 0 0, AV.p 1 0] [(0, [AV.v (Value.int IntKind.i64 t0_0)], 3), (1, [AV.v (Value.int IntKind.i64 t1_0)], 3)] =
  .loop ([Lf.sl, Lf.i IntKind.i64]) (((none, 0, 0), 0, PUnit.unit)) 0 (fun x0 =>
   bif decide (x0.2.1 < ((n0 : Nat) : Int)) then (
    .need (decide (0 ≤ x0.2.1) && decide (x0.2.1 < ((n0 : Nat) : Int)) && Option.isSome A0) (
    .ld (Option.map (fun x => Addr.add x (Int.toNat x0.2.1 * 2)) A0) ([Lf.i IntKind.i64, Lf.i IntKind.i64]) (fun x1 =>
     .sem (Instr.buildSlice 22 2 { toList := [(0, Value.agg { toList := [Value.int IntKind.i64 x1.1, Value.int IntKind.i64 (if IntKind.wrap IntKind.i64 (t0_0 - 1) < x1.2.1 then IntKind.wrap IntKind.i64 (t0_0 - 1) else x1.2.1)] }), (1, Value.agg { toList := [Value.int IntKind.i64 (if x1.1 < IntKind.wrap IntKind.i64 (t1_0 + 1) then IntKind.wrap IntKind.i64 (t1_0 + 1) else x1.1), Value.int IntKind.i64 x1.2.1] })] }) ([Lf.sl]) (Sh.one) (fun x2 =>
      .loop ([Lf.sl, Lf.i IntKind.i64]) (((x0.1.1, x0.1.2.1, x0.1.2.2), 0, PUnit.unit)) 1 (fun x3 =>
       bif decide (x3.2.1 < ((x2.1.2.1 : Nat) : Int)) then (
        .need (decide (0 ≤ x3.2.1) && decide (x3.2.1 < ((x2.1.2.1 : Nat) : Int)) && Option.isSome x2.1.1) (
        .ld (Option.map (fun x => Addr.add x (Int.toNat x3.2.1 * 2)) x2.1.1) ([Lf.i IntKind.i64, Lf.i IntKind.i64]) (fun x4 =>
         bif decide (x4.1 ≤ x4.2.1) then (
          .sem (Instr.buildSlice 22 1 { toList := [(0, Value.agg { toList := [Value.int IntKind.i64 x4.1, Value.int IntKind.i64 x4.2.1] })] }) ([Lf.sl]) (Sh.one) (fun x5 =>
           .sem (Builtin.append_ { toList := [22, 22] } 22 { toList := [Value.slice x3.1.1 x3.1.2.1 x3.1.2.2, Value.slice x5.1.1 x5.1.2.1 x5.1.2.2] }) ([Lf.sl]) (Sh.one) (fun x6 =>
            .again 1 ([Lf.sl, Lf.i IntKind.i64]) (((x6.1.1, x6.1.2.1, x6.1.2.2), IntKind.wrap IntKind.i64 (x3.2.1 + 1), PUnit.unit)))))
         else (
          .again 1 ([Lf.sl, Lf.i IntKind.i64]) (((x3.1.1, x3.1.2.1, x3.1.2.2), IntKind.wrap IntKind.i64 (x3.2.1 + 1), PUnit.unit))))))
       else (
        .again 0 ([Lf.sl, Lf.i IntKind.i64]) (((x3.1.1, x3.1.2.1, x3.1.2.2), IntKind.wrap IntKind.i64 (x0.2.1 + 1), PUnit.unit))))))))
   else (
    .done (AV.v (Value.slice x0.1.1 x0.1.2.1 x0.1.2.2)) ([(0, [AV.v (Value.int IntKind.i64 t0_0)], 3), (1, [AV.v (Value.int IntKind.i64 t1_0)], 3)]))) := by kernel_rfl
set_option maxHeartbeats 4000000 in
theorem spans_Take_1.c (k : Nat) (A0 : Option Addr) (n0 c0 : Nat) (l0 : List (Int × Int)) (t0_0 : Int) (t1_0 : Int) (r : (List (Int × Int)) × Int × Int) (h : spans_Take_1.F k l0 t0_0 t1_0 = some r) (hn0 : n0 = l0.length) (ρ : Nat → Nat) (w : World) (ht : Stand ρ w [(0, [AV.v (Value.int IntKind.i64 t0_0)], 3), (1, [AV.v (Value.int IntKind.i64 t1_0)], 3)]) (hap : Apart ρ [(0, [AV.v (Value.int IntKind.i64 t0_0)], 3), (1, [AV.v (Value.int IntKind.i64 t1_0)], 3)]) (hS0 : SlR R22.row (own ρ [(0, [AV.v (Value.int IntKind.i64 t0_0)], 3), (1, [AV.v (Value.int IntKind.i64 t1_0)], 3)]) w A0 c0 l0) : Calls Try.prog 35 (AV.gs ρ [AV.v (Value.slice A0 n0 c0), AV.p 0 0, AV.p 1 0]).toArray w fun e w' => ∃ (B0 : Option Addr) (d0 : Nat), e = .returned (((Sh.one : Sh).av (vs [Lf.sl] ((B0, (r.1).length, d0), ()))).g ρ) ∧ Back ρ w' [(0, [AV.v (Value.int IntKind.i64 t0_0)], 3), (1, [AV.v (Value.int IntKind.i64 t1_0)], 3)] [[Value.int IntKind.i64 r.2.1], [Value.int IntKind.i64 r.2.2]] ∧ Chg ρ [(0, [AV.v (Value.int IntKind.i64 t0_0)], 3), (1, [AV.v (Value.int IntKind.i64 t1_0)], 3)] w w' ∧ OwnF w.heap.size (fun b => b < w.heap.size) w' 30 R22 B0 d0 r.1 := by
  subst hn0
  refine enterT mixed spans_Take_1.A noC [AV.v (Value.slice A0 l0.length c0), AV.p 0 0, AV.p 1 0] [(0, [AV.v (Value.int IntKind.i64 t0_0)], 3), (1, [AV.v (Value.int IntKind.i64 t1_0)], 3)] ρ Try.func35 rfl rfl ht hap rfl rfl (fun hF => ?_)
  rw [spans_Take_1.t]
  unfold spans_Take_1.F at h
  try dsimp only at h
  obtain ⟨I0, hI0⟩ : ∃ I : Nat → Tup [Lf.sl, Lf.i IntKind.i64] → (Nat → Prop) → World → Prop, I = (fun m_ y L w' => ∃ (A0_0 : Option Addr) (c0_0 : Nat) (s0_0 : List (Int × Int)) (v0_1 : Int), y = ((A0_0, s0_0.length, c0_0), v0_1, ()) ∧ iter (spans_Take_1.s0 k l0 t0_0 t1_0) m_ (s0_0, v0_1) = some r ∧ Fine (own ρ [(0, [AV.v (Value.int IntKind.i64 t0_0)], 3), (1, [AV.v (Value.int IntKind.i64 t1_0)], 3)]) w L w' ∧ OwnF w.heap.size L w' 30 R22 A0_0 c0_0 s0_0) := ⟨_, rfl⟩
  refine ok_loop I0 k (by rw [hI0]; exact ⟨none, 0, [], _, rfl, h, hF, OwnF.nil _ _ _ _ _⟩) ?_
  clear h
  intro m_ y L0 w0 hy
  rw [hI0] at hy
  obtain ⟨A0_0, c0_0, s0_0, v0_1, rfl, h, hF, hO_s0_0⟩ := hy
  obtain ⟨m0, o0, rfl, h, hl0, hr_0⟩ := iter_some h
  unfold spans_Take_1.s0 at h
  try dsimp only at h
  try dsimp only
  refine ok_if (fun hc2 => ?_) (fun hc2 => ?_)
  · have h := bif_t h hc2
    obtain ⟨r3, hr4, h⟩ := Option.bind_eq_some_iff.1 h
    refine ok_need (getI_need (hS0.later hF) hr4) ?_
    refine ok_get hS0 hF hr4 (by simp) (fun cs hcs => ⟨(r3.1, r3.2, ()), hcs.symm, ?_⟩)
    try dsimp only
    refine ok_lit (R := R22) (base := w.heap.size) (xs := ([(r3.1, if IntKind.wrap IntKind.i64 (t0_0 - 1) < r3.2 then IntKind.wrap IntKind.i64 (t0_0 - 1) else r3.2), (if r3.1 < IntKind.wrap IntKind.i64 (t1_0 + 1) then IntKind.wrap IntKind.i64 (t1_0 + 1) else r3.1, r3.2)] : List (Int × Int))) #[Value.int IntKind.i64 r3.1, Value.int IntKind.i64 (if IntKind.wrap IntKind.i64 (t0_0 - 1) < r3.2 then IntKind.wrap IntKind.i64 (t0_0 - 1) else r3.2), Value.int IntKind.i64 (if r3.1 < IntKind.wrap IntKind.i64 (t1_0 + 1) then IntKind.wrap IntKind.i64 (t1_0 + 1) else r3.1), Value.int IntKind.i64 r3.2] E22 rfl (by decide) (by decide) ⟨_, _, rfl, rfl, by kernel_rfl⟩ rfl hF.size (fun A2 c2 L2 w2 hO2 g2 hbl2 => ?_)
    try dsimp only
    have dj_o5_s0_0 : Dj A2 A0_0 := Dj.new hbl2 hO_s0_0.lt
    have hF := hF.trans g2
    have hO_s0_0 := hO_s0_0.later g2
    obtain ⟨I3, hI3⟩ : ∃ I : Nat → Tup [Lf.sl, Lf.i IntKind.i64] → (Nat → Prop) → World → Prop, I = (fun m_ y L w' => ∃ (A3_0 : Option Addr) (c3_0 : Nat) (s3_0 : List (Int × Int)) (v3_1 : Int), y = ((A3_0, s3_0.length, c3_0), v3_1, ()) ∧ iter (spans_Take_1.s3 k r3 t0_0 t1_0 v0_1) m_ (s3_0, v3_1) = some o0 ∧ Fine (own ρ [(0, [AV.v (Value.int IntKind.i64 t0_0)], 3), (1, [AV.v (Value.int IntKind.i64 t1_0)], 3)]) w L w' ∧ OwnF w.heap.size L w' 30 R22 A2 c2 ([(r3.1, if IntKind.wrap IntKind.i64 (t0_0 - 1) < r3.2 then IntKind.wrap IntKind.i64 (t0_0 - 1) else r3.2), (if r3.1 < IntKind.wrap IntKind.i64 (t1_0 + 1) then IntKind.wrap IntKind.i64 (t1_0 + 1) else r3.1, r3.2)] : List (Int × Int)) ∧ OwnF w.heap.size L w' 30 R22 A3_0 c3_0 s3_0 ∧ Dj A3_0 A2) := ⟨_, rfl⟩
    refine ok_loop I3 k (by rw [hI3]; exact ⟨A0_0, c0_0, s0_0, _, rfl, h, hF, hO2, hO_s0_0, (Dj.symm dj_o5_s0_0)⟩) ?_
    clear h
    intro m_ y L3 w3 hy
    rw [hI3] at hy
    obtain ⟨A3_0, c3_0, s3_0, v3_1, rfl, h, hF, hO2, hO_s3_0, dj_s3_0_o5⟩ := hy
    obtain ⟨m3, o3, rfl, h, hl3, hr_3⟩ := iter_some h
    unfold spans_Take_1.s3 at h
    try dsimp only at h
    try dsimp only
    refine ok_if (fun hc7 => ?_) (fun hc7 => ?_)
    · have h := bif_t h hc7
      obtain ⟨r8, hr9, h⟩ := Option.bind_eq_some_iff.1 h
      refine ok_need (getI_need hO2.sl hr9) ?_
      refine ok_get hO2.sl (Fine.refl _ _) hr9 (by simp) (fun cs hcs => ⟨(r8.1, r8.2, ()), hcs.symm, ?_⟩)
      try dsimp only
      refine ok_if (fun hc10 => ?_) (fun hc10 => ?_)
      · have h := bif_t h hc10
        refine ok_lit (R := R22) (base := w.heap.size) (xs := ([(r8.1, r8.2)] : List (Int × Int))) #[Value.int IntKind.i64 r8.1, Value.int IntKind.i64 r8.2] E22 rfl (by decide) (by decide) ⟨_, _, rfl, rfl, by kernel_rfl⟩ rfl hF.size (fun A5 c5 L5 w5 hO5 g5 hbl5 => ?_)
        try dsimp only
        have dj_o11_o5 : Dj A5 A2 := Dj.new hbl5 hO2.lt
        have dj_o11_s3_0 : Dj A5 A3_0 := Dj.new hbl5 hO_s3_0.lt
        have hF := hF.trans g5
        have hO2 := hO2.later g5
        have hO_s3_0 := hO_s3_0.later g5
        obtain ⟨hq12, h⟩ := bif_need h
        have hq12 := of_decide_eq_true hq12
        refine ok_app (R := R22) (base := w.heap.size) (xs := s3_0) (ys := ([(r8.1, r8.2)] : List (Int × Int))) rfl rfl E22 hO_s3_0 hO5.sl (by decide) hq12 hF.size (fun A6 c6 L6 w6 hO6 g6 hid6 hbl6 => ?_)
        try dsimp only
        have dj_o13_o5 : Dj A6 A2 := Dj.grow dj_s3_0_o5 hbl6 hO2.lt
        have dj_o13_o11 : Dj A6 A5 := Dj.grow (Dj.symm dj_o11_s3_0) hbl6 hO5.lt
        have hO2 := hO2.other (Dj.symm dj_s3_0_o5) g6
        have hO5 := hO5.other dj_o11_s3_0 g6
        have hF := Fine.own hF g6 (fun b hb => Or.inr (Own.base hO_s3_0 hb)) hid6
        obtain rfl := Option.some.inj h
        have h := hl3 _ rfl
        exact ok_again (I := I3) m3 (Nat.lt_succ_self _) (fun L w' he => by rw [hI3]; exact ⟨A6, c6, (s3_0 ++ ([(r8.1, r8.2)] : List (Int × Int))), _, rfl, h, hF.trans he.fine, hO2.later he.fine, hO6.later he.fine, dj_o13_o5⟩)
      · have h := bif_f h hc10
        obtain rfl := Option.some.inj h
        have h := hl3 _ rfl
        exact ok_again (I := I3) m3 (Nat.lt_succ_self _) (fun L w' he => by rw [hI3]; exact ⟨A3_0, c3_0, s3_0, _, rfl, h, hF.trans he.fine, hO2.later he.fine, hO_s3_0.later he.fine, dj_s3_0_o5⟩)
    · have h := bif_f h hc7
      obtain rfl := Option.some.inj h
      obtain rfl := hr_3 _ rfl
      have h := hl0 _ rfl
      refine ok_up ?_ (by decide)
      exact ok_again (I := I0) m0 (Nat.lt_succ_self _) (fun L w' he => by rw [hI0]; exact ⟨A3_0, c3_0, s3_0, _, rfl, h, hF.trans he.fine, hO_s3_0.later he.fine⟩)
  · have h := bif_f h hc2
    obtain rfl := Option.some.inj h
    obtain rfl := hr_0 _ rfl
    refine ok_doneF hF rfl rfl rfl rfl rfl (fun L w' he hbk hch => ?_)
    exact ⟨A0_0, c0_0, rfl, hbk, hch, (hO_s0_0.later he.fine).ret⟩
/-! ### turnbuckle/spans.change: function 33 -/
def change34.F (k : Nat) (l0 : List (Int × Int)) (a1 : Int) (a2 : Int) (t0_0 : Int) (t1_0 : Int) : Option ((List (Int × Int)) × Int × Int × Int) := (spans_Right.F k l0).bind fun v0_0 => bif v0_0 then ((spans_isSpan.F k a1 a2).bind fun v1_0 => bif v1_0 then ((search38.F k l0 a1).bind fun (v2_0, v2_1) => (search39.F k l0 a2).bind fun (v3_0, v3_1) => bif decide (0 ≤ (0 : Int) ∧ 0 ≤ v2_0 ∧ v2_0 ≤ (l0.length : Int)) then (bif decide (0 ≤ v2_0 ∧ v2_0 ≤ v3_0 ∧ v3_0 ≤ (l0.length : Int)) then (bif decide (0 ≤ v3_0 ∧ v3_0 ≤ ((l0.length : Nat) : Int) ∧ ((l0.length : Nat) : Int) ≤ (l0.length : Int)) then ((spans_Add_1.F k (((l0.drop (Int.toNat v2_0)).take (Int.toNat v3_0 - Int.toNat v2_0))) t0_0 t1_0).bind fun (s4_0, v4_1, v4_2) => (slices_Concat_api_Span_api_Span.F k (([(((l0.drop (Int.toNat 0)).take (Int.toNat v2_0 - Int.toNat 0))), (s4_0), (((l0.drop (Int.toNat v3_0)).take (Int.toNat (((l0.length : Nat) : Int)) - Int.toNat v3_0)))] : List ((List (Int × Int)))))).bind fun s6_0 => bif decide (256 < ((s6_0.length : Nat) : Int)) then (some (([], 6, v4_1, v4_2))) else (some ((s6_0, 0, v4_1, v4_2)))) else none) else none) else none) else (some (([], 1, t0_0, t1_0)))) else (some (([], 1, t0_0, t1_0)))
abbrev change34.A : Nat → LA := noA
set_option maxHeartbeats 4000000 in
theorem change34.t (A0 : Option Addr) (n0 c0 : Nat) (a1 : Int) (a2 : Int) (t0_0 : Int) (t1_0 : Int) : tree Try.prog change34.A noC Try.f33 [AV.v (Value.slice A0 n0 c0), AV.v (Value.int IntKind.i64 a1), AV.v (Value.int IntKind.i64 a2), AV.fn (Fn.func 34) [] [AV.p 0 0, AV.p 1 0]] [(0, [AV.v (Value.int IntKind.i64 t0_0)], 3), (1, [AV.v (Value.int IntKind.i64 t1_0)], 3)] =
  .call 10 ([AV.v (Value.slice A0 n0 c0)]) ([]) (Sh.one) ([Lf.b]) ([]) (fun x0 =>
   bif x0.1 then (
    .call 29 ([AV.v (Value.int IntKind.i64 a1), AV.v (Value.int IntKind.i64 a2)]) ([]) (Sh.one) ([Lf.b]) ([]) (fun x1 =>
     bif x1.1 then (
      .call 31 ([AV.v (Value.slice A0 n0 c0), AV.fn (Fn.func 38) [] [AV.p 1000 0]]) ([(1000, [AV.v (Value.int IntKind.i64 a1)], 3)]) (Sh.one) ([Lf.i IntKind.i64, Lf.i IntKind.i64]) ([1]) (fun x2 =>
       .call 31 ([AV.v (Value.slice A0 n0 c0), AV.fn (Fn.func 39) [] [AV.p 1001 0]]) ([(1001, [AV.v (Value.int IntKind.i64 a2)], 3)]) (Sh.one) ([Lf.i IntKind.i64, Lf.i IntKind.i64]) ([1]) (fun x3 =>
        .need (true && decide (0 ≤ x2.1) && decide (x2.1 ≤ ((c0 : Nat) : Int))) (
        .need (decide (0 ≤ x2.1) && decide (x2.1 ≤ x3.1) && decide (x3.1 ≤ ((c0 : Nat) : Int))) (
        .need (decide (0 ≤ x3.1) && decide (x3.1 ≤ ((n0 : Nat) : Int)) && decide (((n0 : Nat) : Int) ≤ ((n0 : Nat) : Int))) (
        .call 34 ([AV.v (Value.slice (if ((c0 : Nat) : Int) = x2.1 then A0 else Option.map (fun x => Addr.add x (Int.toNat x2.1 * 2)) A0) (Int.toNat x3.1 - Int.toNat x2.1) (c0 - Int.toNat x2.1)), AV.p 0 0, AV.p 1 0]) ([(0, [AV.v (Value.int IntKind.i64 t0_0)], 3), (1, [AV.v (Value.int IntKind.i64 t1_0)], 3)]) (Sh.one) ([Lf.sl, Lf.i IntKind.i64, Lf.i IntKind.i64]) ([1, 1]) (fun x4 =>
         .sem (Instr.buildSlice 43 3 { toList := [(0, Value.slice (if ((c0 : Nat) : Int) = 0 then A0 else Option.map (fun x => Addr.add x 0) A0) (Int.toNat x2.1 - 0) (c0 - 0)), (1, Value.slice x4.1.1 x4.1.2.1 x4.1.2.2), (2, Value.slice (if ((c0 : Nat) : Int) = x3.1 then A0 else Option.map (fun x => Addr.add x (Int.toNat x3.1 * 2)) A0) (Int.toNat ((n0 : Nat) : Int) - Int.toNat x3.1) (c0 - Int.toNat x3.1))] }) ([Lf.sl]) (Sh.one) (fun x5 =>
          .call 40 ([AV.v (Value.slice x5.1.1 x5.1.2.1 x5.1.2.2)]) ([]) (Sh.one) ([Lf.sl]) ([]) (fun x6 =>
           bif decide (256 < ((x6.1.2.1 : Nat) : Int)) then (
            .done (AV.tup [AV.v (Value.slice none 0 0), AV.v (Value.int IntKind.i64 6)]) ([(0, [AV.v (Value.int IntKind.i64 x4.2.1)], 3), (1, [AV.v (Value.int IntKind.i64 x4.2.2.1)], 3)]))
           else (
            .done (AV.tup [AV.v (Value.slice x6.1.1 x6.1.2.1 x6.1.2.2), AV.v (Value.int IntKind.i64 0)]) ([(0, [AV.v (Value.int IntKind.i64 x4.2.1)], 3), (1, [AV.v (Value.int IntKind.i64 x4.2.2.1)], 3)])))))))))))
     else (
      .done (AV.tup [AV.v (Value.slice none 0 0), AV.v (Value.int IntKind.i64 1)]) ([(0, [AV.v (Value.int IntKind.i64 t0_0)], 3), (1, [AV.v (Value.int IntKind.i64 t1_0)], 3)]))))
   else (
    .done (AV.tup [AV.v (Value.slice none 0 0), AV.v (Value.int IntKind.i64 1)]) ([(0, [AV.v (Value.int IntKind.i64 t0_0)], 3), (1, [AV.v (Value.int IntKind.i64 t1_0)], 3)]))) := by kernel_rfl
set_option maxHeartbeats 4000000 in
theorem change34.c (k : Nat) (A0 : Option Addr) (n0 c0 : Nat) (l0 : List (Int × Int)) (a1 : Int) (a2 : Int) (t0_0 : Int) (t1_0 : Int) (r : (List (Int × Int)) × Int × Int × Int) (h : change34.F k l0 a1 a2 t0_0 t1_0 = some r) (hn0 : n0 = l0.length) (ρ : Nat → Nat) (w : World) (ht : Stand ρ w [(0, [AV.v (Value.int IntKind.i64 t0_0)], 3), (1, [AV.v (Value.int IntKind.i64 t1_0)], 3)]) (hap : Apart ρ [(0, [AV.v (Value.int IntKind.i64 t0_0)], 3), (1, [AV.v (Value.int IntKind.i64 t1_0)], 3)]) (hS0 : SlR R22.row (own ρ [(0, [AV.v (Value.int IntKind.i64 t0_0)], 3), (1, [AV.v (Value.int IntKind.i64 t1_0)], 3)]) w A0 c0 l0) : Calls Try.prog 33 (AV.gs ρ [AV.v (Value.slice A0 n0 c0), AV.v (Value.int IntKind.i64 a1), AV.v (Value.int IntKind.i64 a2), AV.fn (Fn.func 34) [] [AV.p 0 0, AV.p 1 0]]).toArray w fun e w' => ∃ (B0 : Option Addr) (d0 : Nat), e = .returned (((Sh.tup [(false, 1), (false, 1)] : Sh).av (vs [Lf.sl, Lf.i IntKind.i64] ((B0, (r.1).length, d0), r.2.1, ()))).g ρ) ∧ Back ρ w' [(0, [AV.v (Value.int IntKind.i64 t0_0)], 3), (1, [AV.v (Value.int IntKind.i64 t1_0)], 3)] [[Value.int IntKind.i64 r.2.2.1], [Value.int IntKind.i64 r.2.2.2]] ∧ Chg ρ [(0, [AV.v (Value.int IntKind.i64 t0_0)], 3), (1, [AV.v (Value.int IntKind.i64 t1_0)], 3)] w w' ∧ OwnF w.heap.size (fun b => b < w.heap.size) w' 30 R22 B0 d0 r.1 := by
  subst hn0
  refine enterT mixed change34.A noC [AV.v (Value.slice A0 l0.length c0), AV.v (Value.int IntKind.i64 a1), AV.v (Value.int IntKind.i64 a2), AV.fn (Fn.func 34) [] [AV.p 0 0, AV.p 1 0]] [(0, [AV.v (Value.int IntKind.i64 t0_0)], 3), (1, [AV.v (Value.int IntKind.i64 t1_0)], 3)] ρ Try.func33 rfl rfl ht hap rfl rfl (fun hF => ?_)
  rw [change34.t]
  unfold change34.F at h
  try dsimp only at h
  obtain ⟨v0_0, hr0, h⟩ := Option.bind_eq_some_iff.1 h
  refine ok_callm rfl (fun L0 w0 g0 lt0 => ?_)
  refine (spans_Right.c k _ _ _ l0 v0_0 hr0 rfl w0 (hS0.later (hF.trans g0)).bare).mono ?_
  rintro e w0' ⟨rfl, hb0⟩
  refine ⟨(v0_0, ()), rfl, hb0, fun g0' => ?_⟩
  try dsimp only
  have hF := hF.trans g0'
  refine ok_if (fun hc1 => ?_) (fun hc1 => ?_)
  · have h := bif_t h hc1
    obtain ⟨v1_0, hr1, h⟩ := Option.bind_eq_some_iff.1 h
    refine ok_callm rfl (fun L1 w1 g1 lt1 => ?_)
    refine (spans_isSpan.c k a1 a2 v1_0 hr1  w1 ).mono ?_
    rintro e w1' ⟨rfl, hb1⟩
    refine ⟨(v1_0, ()), rfl, hb1, fun g1' => ?_⟩
    try dsimp only
    have hF := hF.trans g1'
    refine ok_if (fun hc2 => ?_) (fun hc2 => ?_)
    · have h := bif_t h hc2
      obtain ⟨r2, hr2, h⟩ := Option.bind_eq_some_iff.1 h
      obtain ⟨v2_0, v2_1⟩ := r2
      try dsimp only at h
      refine ok_callTm (fun ρ2 L2 w2 hp2 g2 lt2 ho2 hap2 => ?_)
      refine (search38.c k _ _ _ l0 a1 (v2_0, v2_1) hr2 rfl (fun k => match k with | 0 => ρ2 1000 | _ => 0) w2 (stand_of ho2) (apart_map rfl hap2) ((hS0.later (hF.trans g2)).mono (own_sub ho2 rfl))).mono ?_
      rintro e w2' ⟨rfl, hbk2, hch2⟩
      refine ⟨(v2_0, v2_1, ()), rfl, hbk2, hch2, fun g2' gg2 => ?_⟩
      try dsimp only
      have hF := hF.trans g2'
      obtain ⟨r3, hr3, h⟩ := Option.bind_eq_some_iff.1 h
      obtain ⟨v3_0, v3_1⟩ := r3
      try dsimp only at h
      refine ok_callTm (fun ρ3 L3 w3 hp3 g3 lt3 ho3 hap3 => ?_)
      refine (search39.c k _ _ _ l0 a2 (v3_0, v3_1) hr3 rfl (fun k => match k with | 0 => ρ3 1001 | _ => 0) w3 (stand_of ho3) (apart_map rfl hap3) ((hS0.later (hF.trans g3)).mono (own_sub ho3 rfl))).mono ?_
      rintro e w3' ⟨rfl, hbk3, hch3⟩
      refine ⟨(v3_0, v3_1, ()), rfl, hbk3, hch3, fun g3' gg3 => ?_⟩
      try dsimp only
      have hF := hF.trans g3'
      obtain ⟨hs3, h⟩ := bif_need h
      have hs3 := of_decide_eq_true hs3
      have hcap := (hS0.later hF).2.1
      refine ok_need (by first | exact part3 hs3 hcap | exact part3 hs3 (Nat.le_refl _)) ?_
      obtain ⟨hs4, h⟩ := bif_need h
      have hs4 := of_decide_eq_true hs4
      have hcap := (hS0.later hF).2.1
      refine ok_need (by first | exact part3 hs4 hcap | exact part3 hs4 (Nat.le_refl _)) ?_
      obtain ⟨hs5, h⟩ := bif_need h
      have hs5 := of_decide_eq_true hs5
      have hcap := (hS0.later hF).2.1
      refine ok_need (by first | exact part3 hs5 hcap | exact part3 hs5 (Nat.le_refl _)) ?_
      obtain ⟨r4, hr4, h⟩ := Option.bind_eq_some_iff.1 h
      obtain ⟨s4_0, v4_1, v4_2⟩ := r4
      try dsimp only at h
      refine ok_callTm (fun ρ4 L4 w4 hp4 g4 lt4 ho4 hap4 => ?_)
      refine (spans_Add_1.c k _ _ _ (((l0.drop (Int.toNat v2_0)).take (Int.toNat v3_0 - Int.toNat v2_0))) t0_0 t1_0 (s4_0, v4_1, v4_2) hr4 (sub_len hs4.1 hs4.2.1 hs4.2.2) (fun k => match k with | 0 => ρ4 0 | 1 => ρ4 1 | _ => 0) w4 (stand_of ho4) (apart_map rfl hap4) (((hS0.later (hF.trans g4)).sub _ _ hs4.1 hs4.2.1 hs4.2.2).mono (own_sub ho4 rfl))).mono ?_
      rintro e w4' ⟨A4_0, c4_0, rfl, hbk4, hch4, hO4_0⟩
      refine ⟨((A4_0, s4_0.length, c4_0), v4_1, v4_2, ()), rfl, hbk4, hch4, fun g4' gg4 => ?_⟩
      try dsimp only
      have hO4_0 := hO4_0.call (hF.trans g4).size lt4
      have hF := hF.trans g4'
      refine ok_litN (R := R43) (xs := ([(((l0.drop (Int.toNat 0)).take (Int.toNat v2_0 - Int.toNat 0))), (s4_0), (((l0.drop (Int.toNat v3_0)).take (Int.toNat (((l0.length : Nat) : Int)) - Int.toNat v3_0)))] : List ((List (Int × Int))))) #[Value.slice (if ((c0 : Nat) : Int) = 0 then A0 else Option.map (fun x => Addr.add x (Int.toNat 0 * 2)) A0) (Int.toNat v2_0 - Int.toNat 0) (c0 - Int.toNat 0), Value.slice A4_0 s4_0.length c4_0, Value.slice (if ((c0 : Nat) : Int) = v3_0 then A0 else Option.map (fun x => Addr.add x (Int.toNat v3_0 * 2)) A0) (Int.toNat (((l0.length : Nat) : Int)) - Int.toNat v3_0) (c0 - Int.toNat v3_0)] E43 rfl (by decide) (by decide) ⟨_, _, rfl, rfl, by kernel_rfl⟩ (fun L w' g => ⟨[_], _, rfl, ⟨_, _, _, rfl, (sub_len hs3.1 hs3.2.1 hs3.2.2), ((hS0.later (hF.trans g)).sub _ _ hs3.1 hs3.2.1 hs3.2.2)⟩, ⟨[_], _, rfl, ⟨_, _, _, rfl, rfl, (hO4_0.later g).sl⟩, ⟨[_], _, rfl, ⟨_, _, _, rfl, (sub_len hs5.1 hs5.2.1 hs5.2.2), ((hS0.later (hF.trans g)).sub _ _ hs5.1 hs5.2.1 hs5.2.2)⟩, rfl⟩⟩⟩) (fun A5 c5 L5 w5 hC5 g5 hbl5 => ?_)
      try dsimp only
      have hF := hF.trans g5
      have hO4_0 := hO4_0.later g5
      obtain ⟨s6_0, hr6, h⟩ := Option.bind_eq_some_iff.1 h
      refine ok_callm rfl (fun L6 w6 g6 lt6 => ?_)
      refine (slices_Concat_api_Span_api_Span.c k _ _ _ (([(((l0.drop (Int.toNat 0)).take (Int.toNat v2_0 - Int.toNat 0))), (s4_0), (((l0.drop (Int.toNat v3_0)).take (Int.toNat (((l0.length : Nat) : Int)) - Int.toNat v3_0)))] : List ((List (Int × Int))))) s6_0 hr6 rfl w6 (hC5.later g6).bare).mono ?_
      rintro e w6' ⟨A6_0, c6_0, rfl, hb6, hO6_0⟩
      refine ⟨((A6_0, s6_0.length, c6_0), ()), rfl, hb6, fun g6' => ?_⟩
      try dsimp only
      have dj_o8_o6 : Dj A6_0 A4_0 := Dj.new hO6_0.fresh (hO4_0.later g6).lt
      have hO6_0 := hO6_0.call (hF.trans g6).size lt6
      have hF := hF.trans g6'
      have hO4_0 := hO4_0.later g6'
      have hC5 := hC5.later g6'
      refine ok_if (fun hc9 => ?_) (fun hc9 => ?_)
      · have h := bif_t h hc9
        obtain rfl := Option.some.inj h
        refine ok_doneF hF rfl rfl rfl rfl rfl (fun L w' he hbk hch => ?_)
        exact ⟨none, 0, rfl, hbk, hch, OwnF.ret (OwnF.nil _ (fun _ => False) _ _ _)⟩
      · have h := bif_f h hc9
        obtain rfl := Option.some.inj h
        refine ok_doneF hF rfl rfl rfl rfl rfl (fun L w' he hbk hch => ?_)
        exact ⟨A6_0, c6_0, rfl, hbk, hch, (hO6_0.later he.fine).ret⟩
    · have h := bif_f h hc2
      obtain rfl := Option.some.inj h
      refine ok_doneF hF rfl rfl rfl rfl rfl (fun L w' he hbk hch => ?_)
      exact ⟨none, 0, rfl, hbk, hch, OwnF.ret (OwnF.nil _ (fun _ => False) _ _ _)⟩
  · have h := bif_f h hc1
    obtain rfl := Option.some.inj h
    refine ok_doneF hF rfl rfl rfl rfl rfl (fun L w' he hbk hch => ?_)
    exact ⟨none, 0, rfl, hbk, hch, OwnF.ret (OwnF.nil _ (fun _ => False) _ _ _)⟩
/-! ### turnbuckle/spans.change: function 33 -/
def change35.F (k : Nat) (l0 : List (Int × Int)) (a1 : Int) (a2 : Int) (t0_0 : Int) (t1_0 : Int) : Option ((List (Int × Int)) × Int × Int × Int) := (spans_Right.F k l0).bind fun v0_0 => bif v0_0 then ((spans_isSpan.F k a1 a2).bind fun v1_0 => bif v1_0 then ((search38.F k l0 a1).bind fun (v2_0, v2_1) => (search39.F k l0 a2).bind fun (v3_0, v3_1) => bif decide (0 ≤ (0 : Int) ∧ 0 ≤ v2_0 ∧ v2_0 ≤ (l0.length : Int)) then (bif decide (0 ≤ v2_0 ∧ v2_0 ≤ v3_0 ∧ v3_0 ≤ (l0.length : Int)) then (bif decide (0 ≤ v3_0 ∧ v3_0 ≤ ((l0.length : Nat) : Int) ∧ ((l0.length : Nat) : Int) ≤ (l0.length : Int)) then ((spans_Take_1.F k (((l0.drop (Int.toNat v2_0)).take (Int.toNat v3_0 - Int.toNat v2_0))) t0_0 t1_0).bind fun (s4_0, v4_1, v4_2) => (slices_Concat_api_Span_api_Span.F k (([(((l0.drop (Int.toNat 0)).take (Int.toNat v2_0 - Int.toNat 0))), (s4_0), (((l0.drop (Int.toNat v3_0)).take (Int.toNat (((l0.length : Nat) : Int)) - Int.toNat v3_0)))] : List ((List (Int × Int)))))).bind fun s6_0 => bif decide (256 < ((s6_0.length : Nat) : Int)) then (some (([], 6, v4_1, v4_2))) else (some ((s6_0, 0, v4_1, v4_2)))) else none) else none) else none) else (some (([], 1, t0_0, t1_0)))) else (some (([], 1, t0_0, t1_0)))
abbrev change35.A : Nat → LA := noA
set_option maxHeartbeats 4000000 in
theorem change35.t (A0 : Option Addr) (n0 c0 : Nat) (a1 : Int) (a2 : Int) (t0_0 : Int) (t1_0 : Int) : tree Try.prog change35.A noC Try.f33 [AV.v (Value.slice A0 n0 c0), AV.v (Value.int IntKind.i64 a1), AV.v (Value.int IntKind.i64 a2), AV.fn (Fn.func 35) [] [AV.p 0 0, AV.p 1 0]] [(0, [AV.v (Value.int IntKind.i64 t0_0)], 3), (1, [AV.v (Value.int IntKind.i64 t1_0)], 3)] =
  .call 10 ([AV.v (Value.slice A0 n0 c0)]) ([]) (Sh.one) ([Lf.b]) ([]) (fun x0 =>
   bif x0.1 then (
    .call 29 ([AV.v (Value.int IntKind.i64 a1), AV.v (Value.int IntKind.i64 a2)]) ([]) (Sh.one) ([Lf.b]) ([]) (fun x1 =>
     bif x1.1 then (
      .call 31 ([AV.v (Value.slice A0 n0 c0), AV.fn (Fn.func 38) [] [AV.p 1000 0]]) ([(1000, [AV.v (Value.int IntKind.i64 a1)], 3)]) (Sh.one) ([Lf.i IntKind.i64, Lf.i IntKind.i64]) ([1]) (fun x2 =>
       .call 31 ([AV.v (Value.slice A0 n0 c0), AV.fn (Fn.func 39) [] [AV.p 1001 0]]) ([(1001, [AV.v (Value.int IntKind.i64 a2)], 3)]) (Sh.one) ([Lf.i IntKind.i64, Lf.i IntKind.i64]) ([1]) (fun x3 =>
        .need (true && decide (0 ≤ x2.1) && decide (x2.1 ≤ ((c0 : Nat) : Int))) (
        .need (decide (0 ≤ x2.1) && decide (x2.1 ≤ x3.1) && decide (x3.1 ≤ ((c0 : Nat) : Int))) (
        .need (decide (0 ≤ x3.1) && decide (x3.1 ≤ ((n0 : Nat) : Int)) && decide (((n0 : Nat) : Int) ≤ ((n0 : Nat) : Int))) (
        .call 35 ([AV.v (Value.slice (if ((c0 : Nat) : Int) = x2.1 then A0 else Option.map (fun x => Addr.add x (Int.toNat x2.1 * 2)) A0) (Int.toNat x3.1 - Int.toNat x2.1) (c0 - Int.toNat x2.1)), AV.p 0 0, AV.p 1 0]) ([(0, [AV.v (Value.int IntKind.i64 t0_0)], 3), (1, [AV.v (Value.int IntKind.i64 t1_0)], 3)]) (Sh.one) ([Lf.sl, Lf.i IntKind.i64, Lf.i IntKind.i64]) ([1, 1]) (fun x4 =>
         .sem (Instr.buildSlice 43 3 { toList := [(0, Value.slice (if ((c0 : Nat) : Int) = 0 then A0 else Option.map (fun x => Addr.add x 0) A0) (Int.toNat x2.1 - 0) (c0 - 0)), (1, Value.slice x4.1.1 x4.1.2.1 x4.1.2.2), (2, Value.slice (if ((c0 : Nat) : Int) = x3.1 then A0 else Option.map (fun x => Addr.add x (Int.toNat x3.1 * 2)) A0) (Int.toNat ((n0 : Nat) : Int) - Int.toNat x3.1) (c0 - Int.toNat x3.1))] }) ([Lf.sl]) (Sh.one) (fun x5 =>
          .call 40 ([AV.v (Value.slice x5.1.1 x5.1.2.1 x5.1.2.2)]) ([]) (Sh.one) ([Lf.sl]) ([]) (fun x6 =>
           bif decide (256 < ((x6.1.2.1 : Nat) : Int)) then (
            .done (AV.tup [AV.v (Value.slice none 0 0), AV.v (Value.int IntKind.i64 6)]) ([(0, [AV.v (Value.int IntKind.i64 x4.2.1)], 3), (1, [AV.v (Value.int IntKind.i64 x4.2.2.1)], 3)]))
           else (
            .done (AV.tup [AV.v (Value.slice x6.1.1 x6.1.2.1 x6.1.2.2), AV.v (Value.int IntKind.i64 0)]) ([(0, [AV.v (Value.int IntKind.i64 x4.2.1)], 3), (1, [AV.v (Value.int IntKind.i64 x4.2.2.1)], 3)])))))))))))
     else (
      .done (AV.tup [AV.v (Value.slice none 0 0), AV.v (Value.int IntKind.i64 1)]) ([(0, [AV.v (Value.int IntKind.i64 t0_0)], 3), (1, [AV.v (Value.int IntKind.i64 t1_0)], 3)]))))
   else (
    .done (AV.tup [AV.v (Value.slice none 0 0), AV.v (Value.int IntKind.i64 1)]) ([(0, [AV.v (Value.int IntKind.i64 t0_0)], 3), (1, [AV.v (Value.int IntKind.i64 t1_0)], 3)]))) := by kernel_rfl
set_option maxHeartbeats 4000000 in
theorem change35.c (k : Nat) (A0 : Option Addr) (n0 c0 : Nat) (l0 : List (Int × Int)) (a1 : Int) (a2 : Int) (t0_0 : Int) (t1_0 : Int) (r : (List (Int × Int)) × Int × Int × Int) (h : change35.F k l0 a1 a2 t0_0 t1_0 = some r) (hn0 : n0 = l0.length) (ρ : Nat → Nat) (w : World) (ht : Stand ρ w [(0, [AV.v (Value.int IntKind.i64 t0_0)], 3), (1, [AV.v (Value.int IntKind.i64 t1_0)], 3)]) (hap : Apart ρ [(0, [AV.v (Value.int IntKind.i64 t0_0)], 3), (1, [AV.v (Value.int IntKind.i64 t1_0)], 3)]) (hS0 : SlR R22.row (own ρ [(0, [AV.v (Value.int IntKind.i64 t0_0)], 3), (1, [AV.v (Value.int IntKind.i64 t1_0)], 3)]) w A0 c0 l0) : Calls Try.prog 33 (AV.gs ρ [AV.v (Value.slice A0 n0 c0), AV.v (Value.int IntKind.i64 a1), AV.v (Value.int IntKind.i64 a2), AV.fn (Fn.func 35) [] [AV.p 0 0, AV.p 1 0]]).toArray w fun e w' => ∃ (B0 : Option Addr) (d0 : Nat), e = .returned (((Sh.tup [(false, 1), (false, 1)] : Sh).av (vs [Lf.sl, Lf.i IntKind.i64] ((B0, (r.1).length, d0), r.2.1, ()))).g ρ) ∧ Back ρ w' [(0, [AV.v (Value.int IntKind.i64 t0_0)], 3), (1, [AV.v (Value.int IntKind.i64 t1_0)], 3)] [[Value.int IntKind.i64 r.2.2.1], [Value.int IntKind.i64 r.2.2.2]] ∧ Chg ρ [(0, [AV.v (Value.int IntKind.i64 t0_0)], 3), (1, [AV.v (Value.int IntKind.i64 t1_0)], 3)] w w' ∧ OwnF w.heap.size (fun b => b < w.heap.size) w' 30 R22 B0 d0 r.1 := by
  subst hn0
  refine enterT mixed change35.A noC [AV.v (Value.slice A0 l0.length c0), AV.v (Value.int IntKind.i64 a1), AV.v (Value.int IntKind.i64 a2), AV.fn (Fn.func 35) [] [AV.p 0 0, AV.p 1 0]] [(0, [AV.v (Value.int IntKind.i64 t0_0)], 3), (1, [AV.v (Value.int IntKind.i64 t1_0)], 3)] ρ Try.func33 rfl rfl ht hap rfl rfl (fun hF => ?_)
  rw [change35.t]
  unfold change35.F at h
  try dsimp only at h
  obtain ⟨v0_0, hr0, h⟩ := Option.bind_eq_some_iff.1 h
  refine ok_callm rfl (fun L0 w0 g0 lt0 => ?_)
  refine (spans_Right.c k _ _ _ l0 v0_0 hr0 rfl w0 (hS0.later (hF.trans g0)).bare).mono ?_
  rintro e w0' ⟨rfl, hb0⟩
  refine ⟨(v0_0, ()), rfl, hb0, fun g0' => ?_⟩
  try dsimp only
  have hF := hF.trans g0'
  refine ok_if (fun hc1 => ?_) (fun hc1 => ?_)
  · have h := bif_t h hc1
    obtain ⟨v1_0, hr1, h⟩ := Option.bind_eq_some_iff.1 h
    refine ok_callm rfl (fun L1 w1 g1 lt1 => ?_)
    refine (spans_isSpan.c k a1 a2 v1_0 hr1  w1 ).mono ?_
    rintro e w1' ⟨rfl, hb1⟩
    refine ⟨(v1_0, ()), rfl, hb1, fun g1' => ?_⟩
    try dsimp only
    have hF := hF.trans g1'
    refine ok_if (fun hc2 => ?_) (fun hc2 => ?_)
    · have h := bif_t h hc2
      obtain ⟨r2, hr2, h⟩ := Option.bind_eq_some_iff.1 h
      obtain ⟨v2_0, v2_1⟩ := r2
      try dsimp only at h
      refine ok_callTm (fun ρ2 L2 w2 hp2 g2 lt2 ho2 hap2 => ?_)
      refine (search38.c k _ _ _ l0 a1 (v2_0, v2_1) hr2 rfl (fun k => match k with | 0 => ρ2 1000 | _ => 0) w2 (stand_of ho2) (apart_map rfl hap2) ((hS0.later (hF.trans g2)).mono (own_sub ho2 rfl))).mono ?_
      rintro e w2' ⟨rfl, hbk2, hch2⟩
      refine ⟨(v2_0, v2_1, ()), rfl, hbk2, hch2, fun g2' gg2 => ?_⟩
      try dsimp only
      have hF := hF.trans g2'
      obtain ⟨r3, hr3, h⟩ := Option.bind_eq_some_iff.1 h
      obtain ⟨v3_0, v3_1⟩ := r3
      try dsimp only at h
      refine ok_callTm (fun ρ3 L3 w3 hp3 g3 lt3 ho3 hap3 => ?_)
      refine (search39.c k _ _ _ l0 a2 (v3_0, v3_1) hr3 rfl (fun k => match k with | 0 => ρ3 1001 | _ => 0) w3 (stand_of ho3) (apart_map rfl hap3) ((hS0.later (hF.trans g3)).mono (own_sub ho3 rfl))).mono ?_
      rintro e w3' ⟨rfl, hbk3, hch3⟩
      refine ⟨(v3_0, v3_1, ()), rfl, hbk3, hch3, fun g3' gg3 => ?_⟩
      try dsimp only
      have hF := hF.trans g3'
      obtain ⟨hs3, h⟩ := bif_need h
      have hs3 := of_decide_eq_true hs3
      have hcap := (hS0.later hF).2.1
      refine ok_need (by first | exact part3 hs3 hcap | exact part3 hs3 (Nat.le_refl _)) ?_
      obtain ⟨hs4, h⟩ := bif_need h
      have hs4 := of_decide_eq_true hs4
      have hcap := (hS0.later hF).2.1
      refine ok_need (by first | exact part3 hs4 hcap | exact part3 hs4 (Nat.le_refl _)) ?_
      obtain ⟨hs5, h⟩ := bif_need h
      have hs5 := of_decide_eq_true hs5
      have hcap := (hS0.later hF).2.1
      refine ok_need (by first | exact part3 hs5 hcap | exact part3 hs5 (Nat.le_refl _)) ?_
      obtain ⟨r4, hr4, h⟩ := Option.bind_eq_some_iff.1 h
      obtain ⟨s4_0, v4_1, v4_2⟩ := r4
      try dsimp only at h
      refine ok_callTm (fun ρ4 L4 w4 hp4 g4 lt4 ho4 hap4 => ?_)
      refine (spans_Take_1.c k _ _ _ (((l0.drop (Int.toNat v2_0)).take (Int.toNat v3_0 - Int.toNat v2_0))) t0_0 t1_0 (s4_0, v4_1, v4_2) hr4 (sub_len hs4.1 hs4.2.1 hs4.2.2) (fun k => match k with | 0 => ρ4 0 | 1 => ρ4 1 | _ => 0) w4 (stand_of ho4) (apart_map rfl hap4) (((hS0.later (hF.trans g4)).sub _ _ hs4.1 hs4.2.1 hs4.2.2).mono (own_sub ho4 rfl))).mono ?_
      rintro e w4' ⟨A4_0, c4_0, rfl, hbk4, hch4, hO4_0⟩
      refine ⟨((A4_0, s4_0.length, c4_0), v4_1, v4_2, ()), rfl, hbk4, hch4, fun g4' gg4 => ?_⟩
      try dsimp only
      have hO4_0 := hO4_0.call (hF.trans g4).size lt4
      have hF := hF.trans g4'
      refine ok_litN (R := R43) (xs := ([(((l0.drop (Int.toNat 0)).take (Int.toNat v2_0 - Int.toNat 0))), (s4_0), (((l0.drop (Int.toNat v3_0)).take (Int.toNat (((l0.length : Nat) : Int)) - Int.toNat v3_0)))] : List ((List (Int × Int))))) #[Value.slice (if ((c0 : Nat) : Int) = 0 then A0 else Option.map (fun x => Addr.add x (Int.toNat 0 * 2)) A0) (Int.toNat v2_0 - Int.toNat 0) (c0 - Int.toNat 0), Value.slice A4_0 s4_0.length c4_0, Value.slice (if ((c0 : Nat) : Int) = v3_0 then A0 else Option.map (fun x => Addr.add x (Int.toNat v3_0 * 2)) A0) (Int.toNat (((l0.length : Nat) : Int)) - Int.toNat v3_0) (c0 - Int.toNat v3_0)] E43 rfl (by decide) (by decide) ⟨_, _, rfl, rfl, by kernel_rfl⟩ (fun L w' g => ⟨[_], _, rfl, ⟨_, _, _, rfl, (sub_len hs3.1 hs3.2.1 hs3.2.2), ((hS0.later (hF.trans g)).sub _ _ hs3.1 hs3.2.1 hs3.2.2)⟩, ⟨[_], _, rfl, ⟨_, _, _, rfl, rfl, (hO4_0.later g).sl⟩, ⟨[_], _, rfl, ⟨_, _, _, rfl, (sub_len hs5.1 hs5.2.1 hs5.2.2), ((hS0.later (hF.trans g)).sub _ _ hs5.1 hs5.2.1 hs5.2.2)⟩, rfl⟩⟩⟩) (fun A5 c5 L5 w5 hC5 g5 hbl5 => ?_)
      try dsimp only
      have hF := hF.trans g5
      have hO4_0 := hO4_0.later g5
      obtain ⟨s6_0, hr6, h⟩ := Option.bind_eq_some_iff.1 h
      refine ok_callm rfl (fun L6 w6 g6 lt6 => ?_)
      refine (slices_Concat_api_Span_api_Span.c k _ _ _ (([(((l0.drop (Int.toNat 0)).take (Int.toNat v2_0 - Int.toNat 0))), (s4_0), (((l0.drop (Int.toNat v3_0)).take (Int.toNat (((l0.length : Nat) : Int)) - Int.toNat v3_0)))] : List ((List (Int × Int))))) s6_0 hr6 rfl w6 (hC5.later g6).bare).mono ?_
      rintro e w6' ⟨A6_0, c6_0, rfl, hb6, hO6_0⟩
      refine ⟨((A6_0, s6_0.length, c6_0), ()), rfl, hb6, fun g6' => ?_⟩
      try dsimp only
      have dj_o8_o6 : Dj A6_0 A4_0 := Dj.new hO6_0.fresh (hO4_0.later g6).lt
      have hO6_0 := hO6_0.call (hF.trans g6).size lt6
      have hF := hF.trans g6'
      have hO4_0 := hO4_0.later g6'
      have hC5 := hC5.later g6'
      refine ok_if (fun hc9 => ?_) (fun hc9 => ?_)
      · have h := bif_t h hc9
        obtain rfl := Option.some.inj h
        refine ok_doneF hF rfl rfl rfl rfl rfl (fun L w' he hbk hch => ?_)
        exact ⟨none, 0, rfl, hbk, hch, OwnF.ret (OwnF.nil _ (fun _ => False) _ _ _)⟩
      · have h := bif_f h hc9
        obtain rfl := Option.some.inj h
        refine ok_doneF hF rfl rfl rfl rfl rfl (fun L w' he hbk hch => ?_)
        exact ⟨A6_0, c6_0, rfl, hbk, hch, (hO6_0.later he.fine).ret⟩
    · have h := bif_f h hc2
      obtain rfl := Option.some.inj h
      refine ok_doneF hF rfl rfl rfl rfl rfl (fun L w' he hbk hch => ?_)
      exact ⟨none, 0, rfl, hbk, hch, OwnF.ret (OwnF.nil _ (fun _ => False) _ _ _)⟩
  · have h := bif_f h hc1
    obtain rfl := Option.some.inj h
    refine ok_doneF hF rfl rfl rfl rfl rfl (fun L w' he hbk hch => ?_)
    exact ⟨none, 0, rfl, hbk, hch, OwnF.ret (OwnF.nil _ (fun _ => False) _ _ _)⟩
/-! ### turnbuckle/spans.Add: function 17 -/
def spans_Add.F (k : Nat) (l0 : List (Int × Int)) (a1 : Int) (a2 : Int) : Option ((List (Int × Int)) × Int) := (change34.F k l0 a1 a2 a1 a2).bind fun (s0_0, v0_1, v0_2, v0_3) => some ((s0_0, v0_1))
abbrev spans_Add.A : Nat → LA := noA
set_option maxHeartbeats 4000000 in
theorem spans_Add.t (A0 : Option Addr) (n0 c0 : Nat) (a1 : Int) (a2 : Int) : tree Try.prog spans_Add.A noC Try.f17 [AV.v (Value.slice A0 n0 c0), AV.v (Value.int IntKind.i64 a1), AV.v (Value.int IntKind.i64 a2)] [] =
  .call 33 ([AV.v (Value.slice A0 n0 c0), AV.v (Value.int IntKind.i64 a1), AV.v (Value.int IntKind.i64 a2), AV.fn (Fn.func 34) [] [AV.p 1000 0, AV.p 1001 0]]) ([(1000, [AV.v (Value.int IntKind.i64 a1)], 3), (1001, [AV.v (Value.int IntKind.i64 a2)], 3)]) (Sh.tup [(false, 1), (false, 1)]) ([Lf.sl, Lf.i IntKind.i64, Lf.i IntKind.i64, Lf.i IntKind.i64]) ([1, 1]) (fun x0 =>
   .done (AV.tup [AV.v (Value.slice x0.1.1 x0.1.2.1 x0.1.2.2), AV.v (Value.int IntKind.i64 x0.2.1)]) ([])) := by kernel_rfl
set_option maxHeartbeats 4000000 in
theorem spans_Add.c (k : Nat) (A0 : Option Addr) (n0 c0 : Nat) (l0 : List (Int × Int)) (a1 : Int) (a2 : Int) (r : (List (Int × Int)) × Int) (h : spans_Add.F k l0 a1 a2 = some r) (hn0 : n0 = l0.length) (w : World) (hS0 : SlR R22.row (fun _ => False) w A0 c0 l0) : Calls Try.prog 17 (AV.gs id [AV.v (Value.slice A0 n0 c0), AV.v (Value.int IntKind.i64 a1), AV.v (Value.int IntKind.i64 a2)]).toArray w fun e w' => ∃ (B0 : Option Addr) (d0 : Nat), e = .returned (((Sh.tup [(false, 1), (false, 1)] : Sh).av (vs [Lf.sl, Lf.i IntKind.i64] ((B0, (r.1).length, d0), r.2, ()))).g id) ∧ Below w.heap.size w w' ∧ OwnF w.heap.size (fun b => b < w.heap.size) w' 30 R22 B0 d0 r.1 := by
  subst hn0
  refine enter0 mixed spans_Add.A noC [AV.v (Value.slice A0 l0.length c0), AV.v (Value.int IntKind.i64 a1), AV.v (Value.int IntKind.i64 a2)] Try.func17 rfl rfl rfl (fun hF => ?_)
  rw [spans_Add.t]
  unfold spans_Add.F at h
  try dsimp only at h
  obtain ⟨r0, hr0, h⟩ := Option.bind_eq_some_iff.1 h
  obtain ⟨s0_0, v0_1, v0_2, v0_3⟩ := r0
  try dsimp only at h
  refine ok_callTm (fun ρ0 L0 w0 hp0 g0 lt0 ho0 hap0 => ?_)
  refine (change34.c k _ _ _ l0 a1 a2 a1 a2 (s0_0, v0_1, v0_2, v0_3) hr0 rfl (fun k => match k with | 0 => ρ0 1000 | 1 => ρ0 1001 | _ => 0) w0 (stand_of ho0) (apart_map rfl hap0) ((hS0.later (hF.trans g0)).mono (own_sub ho0 rfl))).mono ?_
  rintro e w0' ⟨A0_0, c0_0, rfl, hbk0, hch0, hO0_0⟩
  refine ⟨((A0_0, s0_0.length, c0_0), v0_1, v0_2, v0_3, ()), rfl, hbk0, hch0, fun g0' gg0 => ?_⟩
  try dsimp only
  have hO0_0 := hO0_0.call (hF.trans g0).size lt0
  have hF := hF.trans g0'
  obtain rfl := Option.some.inj h
  intro ρ L w' _ he _ _
  exact ⟨A0_0, c0_0, rfl, (hF.ext he).below, (hO0_0.later he.fine).ret⟩
/-! ### turnbuckle/spans.Take: function 20 -/
def spans_Take.F (k : Nat) (l0 : List (Int × Int)) (a1 : Int) (a2 : Int) : Option ((List (Int × Int)) × Int) := (change35.F k l0 a1 a2 a1 a2).bind fun (s0_0, v0_1, v0_2, v0_3) => some ((s0_0, v0_1))
abbrev spans_Take.A : Nat → LA := noA
set_option maxHeartbeats 4000000 in
theorem spans_Take.t (A0 : Option Addr) (n0 c0 : Nat) (a1 : Int) (a2 : Int) : tree Try.prog spans_Take.A noC Try.f20 [AV.v (Value.slice A0 n0 c0), AV.v (Value.int IntKind.i64 a1), AV.v (Value.int IntKind.i64 a2)] [] =
  .call 33 ([AV.v (Value.slice A0 n0 c0), AV.v (Value.int IntKind.i64 a1), AV.v (Value.int IntKind.i64 a2), AV.fn (Fn.func 35) [] [AV.p 1000 0, AV.p 1001 0]]) ([(1000, [AV.v (Value.int IntKind.i64 a1)], 3), (1001, [AV.v (Value.int IntKind.i64 a2)], 3)]) (Sh.tup [(false, 1), (false, 1)]) ([Lf.sl, Lf.i IntKind.i64, Lf.i IntKind.i64, Lf.i IntKind.i64]) ([1, 1]) (fun x0 =>
   .done (AV.tup [AV.v (Value.slice x0.1.1 x0.1.2.1 x0.1.2.2), AV.v (Value.int IntKind.i64 x0.2.1)]) ([])) := by kernel_rfl
set_option maxHeartbeats 4000000 in
theorem spans_Take.c (k : Nat) (A0 : Option Addr) (n0 c0 : Nat) (l0 : List (Int × Int)) (a1 : Int) (a2 : Int) (r : (List (Int × Int)) × Int) (h : spans_Take.F k l0 a1 a2 = some r) (hn0 : n0 = l0.length) (w : World) (hS0 : SlR R22.row (fun _ => False) w A0 c0 l0) : Calls Try.prog 20 (AV.gs id [AV.v (Value.slice A0 n0 c0), AV.v (Value.int IntKind.i64 a1), AV.v (Value.int IntKind.i64 a2)]).toArray w fun e w' => ∃ (B0 : Option Addr) (d0 : Nat), e = .returned (((Sh.tup [(false, 1), (false, 1)] : Sh).av (vs [Lf.sl, Lf.i IntKind.i64] ((B0, (r.1).length, d0), r.2, ()))).g id) ∧ Below w.heap.size w w' ∧ OwnF w.heap.size (fun b => b < w.heap.size) w' 30 R22 B0 d0 r.1 := by
  subst hn0
  refine enter0 mixed spans_Take.A noC [AV.v (Value.slice A0 l0.length c0), AV.v (Value.int IntKind.i64 a1), AV.v (Value.int IntKind.i64 a2)] Try.func20 rfl rfl rfl (fun hF => ?_)
  rw [spans_Take.t]
  unfold spans_Take.F at h
  try dsimp only at h
  obtain ⟨r0, hr0, h⟩ := Option.bind_eq_some_iff.1 h
  obtain ⟨s0_0, v0_1, v0_2, v0_3⟩ := r0
  try dsimp only at h
  refine ok_callTm (fun ρ0 L0 w0 hp0 g0 lt0 ho0 hap0 => ?_)
  refine (change35.c k _ _ _ l0 a1 a2 a1 a2 (s0_0, v0_1, v0_2, v0_3) hr0 rfl (fun k => match k with | 0 => ρ0 1000 | 1 => ρ0 1001 | _ => 0) w0 (stand_of ho0) (apart_map rfl hap0) ((hS0.later (hF.trans g0)).mono (own_sub ho0 rfl))).mono ?_
  rintro e w0' ⟨A0_0, c0_0, rfl, hbk0, hch0, hO0_0⟩
  refine ⟨((A0_0, s0_0.length, c0_0), v0_1, v0_2, v0_3, ()), rfl, hbk0, hch0, fun g0' gg0 => ?_⟩
  try dsimp only
  have hO0_0 := hO0_0.call (hF.trans g0).size lt0
  have hF := hF.trans g0'
  obtain rfl := Option.some.inj h
  intro ρ L w' _ he _ _
  exact ⟨A0_0, c0_0, rfl, (hF.ext he).below, (hO0_0.later he.fine).ret⟩
end Go.Proofs.Ytnfaneojdfjepaa.X
