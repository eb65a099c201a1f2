/- Functions: their trees, functions over lists that answer as they do, and that they do. -/
import Derived.Test.YtnfaneojdfjepaaRxU
import Derived.Test.YtnfaneojdfjepaaRxSeat
import Derived.Test.YtnfaneojdfjepaaProg
namespace Go.Proofs.Ytnfaneojdfjepaa.X
open Go Go.RowKit Go.Proofs.YtnfaneojdfjepaaW.Rx
set_option linter.unusedVariables false
set_option linter.unusedSimpArgs false
set_option maxRecDepth 10000
@[reducible] def R22 : FRow (Int × Int) := ⟨2, by decide, fun x => [Value.int IntKind.i64 x.1, Value.int IntKind.i64 x.2], fun _ => rfl, fun x u h => by
  simp only [List.mem_cons, List.not_mem_nil, or_false] at h
  rcases h with rfl | rfl <;> rfl⟩
theorem E22 : Elem Try.prog 22 30 2 16 := ⟨rfl, _, _, rfl, rfl, rfl, rfl, rfl⟩
@[reducible] def R43 : Row ((List (Int × Int))) := ⟨1, by decide, fun L w x cs => ∃ (A0 : Option Addr) (n0 c0 : Nat), cs = [Lf.V .sl (A0, n0, c0)] ∧ n0 = (x).length ∧ SlR R22.row L w A0 c0 x,
  fun ⟨A0, n0, c0, e, m0, h0⟩ => by rw [e]; rfl, fun ⟨A0, n0, c0, e, m0, h0⟩ g => ⟨A0, n0, c0, e, m0, h0.later g⟩, fun ⟨A0, n0, c0, e, m0, h0⟩ g => ⟨A0, n0, c0, e, m0, h0.mono g⟩, fun ⟨A0, n0, c0, e, m0, h0⟩ u hu => by
    rw [e] at hu
    simp only [List.mem_cons, List.not_mem_nil, or_false] at hu
    rcases hu with rfl <;> rfl⟩
theorem E43 : Elem Try.prog 43 22 1 24 := ⟨rfl, _, _, rfl, rfl, rfl, rfl, rfl⟩
/-! ### turnbuckle/spans.isSpan: function 29 -/
def spans_isSpan.F (k : Nat) (a0 : Int) (a1 : Int) : Option Bool := bif decide (0 ≤ a0) then (bif decide (a0 ≤ a1) then (bif decide (a1 ≤ 4611686018427387903) then (some true) else (some false)) else (some false)) else (some false)
abbrev spans_isSpan.A : Nat → LA := noA
set_option maxHeartbeats 4000000 in
theorem spans_isSpan.t (a0 : Int) (a1 : Int) : tree Try.prog spans_isSpan.A noC Try.f29 [AV.v (Value.int IntKind.i64 a0), AV.v (Value.int IntKind.i64 a1)] [] =
  bif decide (0 ≤ a0) then (
   bif decide (a0 ≤ a1) then (
    bif decide (a1 ≤ 4611686018427387903) then (
     .done (AV.v (Value.bool true)) ([]))
    else (
     .done (AV.v (Value.bool false)) ([])))
   else (
    .done (AV.v (Value.bool false)) ([])))
  else (
   .done (AV.v (Value.bool false)) ([])) := by kernel_rfl
set_option maxHeartbeats 4000000 in
theorem spans_isSpan.c (k : Nat) (a0 : Int) (a1 : Int) (r : Bool) (h : spans_isSpan.F k a0 a1 = some r)  (w : World)  : Calls Try.prog 29 (AV.gs id [AV.v (Value.int IntKind.i64 a0), AV.v (Value.int IntKind.i64 a1)]).toArray w fun e w' => e = .returned (((Sh.one : Sh).av (vs [Lf.b] (r, ()))).g id) ∧ Below w.heap.size w w' := by
  refine enter0 mixed spans_isSpan.A noC [AV.v (Value.int IntKind.i64 a0), AV.v (Value.int IntKind.i64 a1)] Try.func29 rfl rfl rfl (fun hF => ?_)
  rw [spans_isSpan.t]
  unfold spans_isSpan.F at h
  try dsimp only at h
  refine ok_if (fun hc1 => ?_) (fun hc1 => ?_)
  · have h := bif_t h hc1
    refine ok_if (fun hc2 => ?_) (fun hc2 => ?_)
    · have h := bif_t h hc2
      refine ok_if (fun hc3 => ?_) (fun hc3 => ?_)
      · have h := bif_t h hc3
        obtain rfl := Option.some.inj h
        intro ρ L w' _ he _ _
        exact ⟨rfl, (hF.ext he).below⟩
      · have h := bif_f h hc3
        obtain rfl := Option.some.inj h
        intro ρ L w' _ he _ _
        exact ⟨rfl, (hF.ext he).below⟩
    · have h := bif_f h hc2
      obtain rfl := Option.some.inj h
      intro ρ L w' _ he _ _
      exact ⟨rfl, (hF.ext he).below⟩
  · have h := bif_f h hc1
    obtain rfl := Option.some.inj h
    intro ρ L w' _ he _ _
    exact ⟨rfl, (hF.ext he).below⟩
/-! ### turnbuckle/turnbuckleref05.Span: function 23 -/
def ref05_Span.F (k : Nat) (a0 : Int) (a1 : Int) : Option Bool := bif decide (0 ≤ a0) then (bif decide (a0 ≤ a1) then (bif decide (a1 ≤ 4611686018427387903) then (some true) else (some false)) else (some false)) else (some false)
abbrev ref05_Span.A : Nat → LA := noA
set_option maxHeartbeats 4000000 in
theorem ref05_Span.t (a0 : Int) (a1 : Int) : tree Try.prog ref05_Span.A noC Try.f23 [AV.v (Value.int IntKind.i64 a0), AV.v (Value.int IntKind.i64 a1)] [] =
  bif decide (0 ≤ a0) then (
   bif decide (a0 ≤ a1) then (
    bif decide (a1 ≤ 4611686018427387903) then (
     .done (AV.v (Value.bool true)) ([]))
    else (
     .done (AV.v (Value.bool false)) ([])))
   else (
    .done (AV.v (Value.bool false)) ([])))
  else (
   .done (AV.v (Value.bool false)) ([])) := by kernel_rfl
set_option maxHeartbeats 4000000 in
theorem ref05_Span.c (k : Nat) (a0 : Int) (a1 : Int) (r : Bool) (h : ref05_Span.F k a0 a1 = some r)  (w : World)  : Calls Try.prog 23 (AV.gs id [AV.v (Value.int IntKind.i64 a0), AV.v (Value.int IntKind.i64 a1)]).toArray w fun e w' => e = .returned (((Sh.one : Sh).av (vs [Lf.b] (r, ()))).g id) ∧ Below w.heap.size w w' := by
  refine enter0 mixed ref05_Span.A noC [AV.v (Value.int IntKind.i64 a0), AV.v (Value.int IntKind.i64 a1)] Try.func23 rfl rfl rfl (fun hF => ?_)
  rw [ref05_Span.t]
  unfold ref05_Span.F at h
  try dsimp only at h
  refine ok_if (fun hc1 => ?_) (fun hc1 => ?_)
  · have h := bif_t h hc1
    refine ok_if (fun hc2 => ?_) (fun hc2 => ?_)
    · have h := bif_t h hc2
      refine ok_if (fun hc3 => ?_) (fun hc3 => ?_)
      · have h := bif_t h hc3
        obtain rfl := Option.some.inj h
        intro ρ L w' _ he _ _
        exact ⟨rfl, (hF.ext he).below⟩
      · have h := bif_f h hc3
        obtain rfl := Option.some.inj h
        intro ρ L w' _ he _ _
        exact ⟨rfl, (hF.ext he).below⟩
    · have h := bif_f h hc2
      obtain rfl := Option.some.inj h
      intro ρ L w' _ he _ _
      exact ⟨rfl, (hF.ext he).below⟩
  · have h := bif_f h hc1
    obtain rfl := Option.some.inj h
    intro ρ L w' _ he _ _
    exact ⟨rfl, (hF.ext he).below⟩
/-! ### turnbuckle/spans.Right: function 10 -/
def spans_Right.s0 (k : Nat) (l0 : List (Int × Int)) : (Int × Int) → Option (Sum (Int × Int) Bool) := fun (v0_0, v0_1) => bif decide (v0_1 < ((l0.length : Nat) : Int)) then ((getI l0 v0_1).bind fun r3 => bif decide (r3.1 < v0_0) then (some (.inr false)) else ((spans_isSpan.F k r3.1 r3.2).bind fun v2_0 => bif v2_0 then (some (.inl ((IntKind.wrap IntKind.i64 (r3.2 + 2), IntKind.wrap IntKind.i64 (v0_1 + 1))))) else (some (.inr false)))) else (bif decide (((l0.length : Nat) : Int) ≤ 256) then (some (.inr true)) else (some (.inr false)))
def spans_Right.F (k : Nat) (l0 : List (Int × Int)) : Option Bool := iter (spans_Right.s0 k l0) k (0, 0)
abbrev spans_Right.A : Nat → LA := fun r => if r = 3 then ⟨[(3, false, [Lf.i IntKind.i64]), (8, false, [Lf.i IntKind.i64])], []⟩ else ⟨[], []⟩
set_option maxHeartbeats 4000000 in
theorem spans_Right.t (A0 : Option Addr) (n0 c0 : Nat) : tree Try.prog spans_Right.A noC Try.f10 [AV.v (Value.slice A0 n0 c0)] [] =
  .loop ([Lf.i IntKind.i64, Lf.i IntKind.i64]) ((0, 0, PUnit.unit)) 0 (fun x0 =>
   bif decide (x0.2.1 < ((n0 : Nat) : Int)) then (
    .need (decide (0 ≤ x0.2.1) && decide (x0.2.1 < ((n0 : Nat) : Int)) && Option.isSome A0) (
    .ld (Option.map (fun x => Addr.add x (Int.toNat x0.2.1 * 2)) A0) ([Lf.i IntKind.i64, Lf.i IntKind.i64]) (fun x1 =>
     bif decide (x1.1 < x0.1) then (
      .done (AV.v (Value.bool false)) ([]))
     else (
      .call 29 ([AV.v (Value.int IntKind.i64 x1.1), AV.v (Value.int IntKind.i64 x1.2.1)]) ([]) (Sh.one) ([Lf.b]) ([]) (fun x2 =>
       bif x2.1 then (
        .again 0 ([Lf.i IntKind.i64, Lf.i IntKind.i64]) ((IntKind.wrap IntKind.i64 (x1.2.1 + 2), IntKind.wrap IntKind.i64 (x0.2.1 + 1), PUnit.unit)))
       else (
        .done (AV.v (Value.bool false)) ([])))))))
   else (
    bif decide (((n0 : Nat) : Int) ≤ 256) then (
     .done (AV.v (Value.bool true)) ([]))
    else (
     .done (AV.v (Value.bool false)) ([])))) := by kernel_rfl
set_option maxHeartbeats 4000000 in
theorem spans_Right.c (k : Nat) (A0 : Option Addr) (n0 c0 : Nat) (l0 : List (Int × Int)) (r : Bool) (h : spans_Right.F k l0 = some r) (hn0 : n0 = l0.length) (w : World) (hS0 : SlR R22.row (fun _ => False) w A0 c0 l0) : Calls Try.prog 10 (AV.gs id [AV.v (Value.slice A0 n0 c0)]).toArray w fun e w' => e = .returned (((Sh.one : Sh).av (vs [Lf.b] (r, ()))).g id) ∧ Below w.heap.size w w' := by
  subst hn0
  refine enter0 mixed spans_Right.A noC [AV.v (Value.slice A0 l0.length c0)] Try.func10 rfl rfl rfl (fun hF => ?_)
  rw [spans_Right.t]
  unfold spans_Right.F at h
  try dsimp only at h
  obtain ⟨I0, hI0⟩ : ∃ I : Nat → Tup [Lf.i IntKind.i64, Lf.i IntKind.i64] → (Nat → Prop) → World → Prop, I = (fun m_ y L w' => ∃ (v0_0 : Int) (v0_1 : Int), y = (v0_0, v0_1, ()) ∧ iter (spans_Right.s0 k l0) m_ (v0_0, v0_1) = some r ∧ Fine (fun _ => False) w L w') := ⟨_, rfl⟩
  refine ok_loop I0 k (by rw [hI0]; exact ⟨_, _, rfl, h, hF⟩) ?_
  clear h
  intro m_ y L0 w0 hy
  rw [hI0] at hy
  obtain ⟨v0_0, v0_1, rfl, h, hF⟩ := hy
  obtain ⟨m0, o0, rfl, h, hl0, hr_0⟩ := iter_some h
  unfold spans_Right.s0 at h
  try dsimp only at h
  try dsimp only
  refine ok_if (fun hc2 => ?_) (fun hc2 => ?_)
  · have h := bif_t h hc2
    obtain ⟨r3, hr4, h⟩ := Option.bind_eq_some_iff.1 h
    refine ok_need (getI_need (hS0.later hF) hr4) ?_
    refine ok_get hS0 hF hr4 (by simp) (fun cs hcs => ⟨(r3.1, r3.2, ()), hcs.symm, ?_⟩)
    try dsimp only
    refine ok_if (fun hc5 => ?_) (fun hc5 => ?_)
    · have h := bif_t h hc5
      obtain rfl := Option.some.inj h
      obtain rfl := hr_0 _ rfl
      intro ρ L w' _ he _ _
      exact ⟨rfl, (hF.ext he).below⟩
    · have h := bif_f h hc5
      obtain ⟨v2_0, hr2, h⟩ := Option.bind_eq_some_iff.1 h
      refine ok_callm rfl (fun L2 w2 g2 lt2 => ?_)
      refine (spans_isSpan.c k r3.1 r3.2 v2_0 hr2  w2 ).mono ?_
      rintro e w2' ⟨rfl, hb2⟩
      refine ⟨(v2_0, ()), rfl, hb2, fun g2' => ?_⟩
      try dsimp only
      have hF := hF.trans g2'
      refine ok_if (fun hc6 => ?_) (fun hc6 => ?_)
      · have h := bif_t h hc6
        obtain rfl := Option.some.inj h
        have h := hl0 _ rfl
        exact ok_again (I := I0) m0 (Nat.lt_succ_self _) (fun L w' he => by rw [hI0]; exact ⟨_, _, rfl, h, hF.trans he.fine⟩)
      · have h := bif_f h hc6
        obtain rfl := Option.some.inj h
        obtain rfl := hr_0 _ rfl
        intro ρ L w' _ he _ _
        exact ⟨rfl, (hF.ext he).below⟩
  · have h := bif_f h hc2
    refine ok_if (fun hc7 => ?_) (fun hc7 => ?_)
    · have h := bif_t h hc7
      obtain rfl := Option.some.inj h
      obtain rfl := hr_0 _ rfl
      intro ρ L w' _ he _ _
      exact ⟨rfl, (hF.ext he).below⟩
    · have h := bif_f h hc7
      obtain rfl := Option.some.inj h
      obtain rfl := hr_0 _ rfl
      intro ρ L w' _ he _ _
      exact ⟨rfl, (hF.ext he).below⟩
/-! ### turnbuckle/turnbuckleref05.rows: function 30 -/
def ref05_rows.s0 (k : Nat) (l0 : List (Int × Int)) : Int → Option (Sum Int Bool) := fun v0_0 => bif decide (v0_0 < ((l0.length : Nat) : Int)) then ((getI l0 v0_0).bind fun r3 => (getI l0 v0_0).bind fun r5 => (ref05_Span.F k r3.1 r5.2).bind fun v3_0 => bif v3_0 then (bif decide (0 < v0_0) then ((getI l0 v0_0).bind fun r9 => (getI l0 (IntKind.wrap IntKind.i64 (v0_0 - 1))).bind fun r11 => bif decide (IntKind.wrap IntKind.i64 (r9.1 - 1) ≤ r11.2) then (some (.inr false)) else (some (.inl (IntKind.wrap IntKind.i64 (v0_0 + 1))))) else (some (.inl (IntKind.wrap IntKind.i64 (v0_0 + 1))))) else (some (.inr false))) else (some (.inr true))
def ref05_rows.F (k : Nat) (l0 : List (Int × Int)) : Option Bool := iter (ref05_rows.s0 k l0) k 0
abbrev ref05_rows.A : Nat → LA := fun r => if r = 2 then ⟨[(3, false, [Lf.i IntKind.i64])], []⟩ else ⟨[], []⟩
set_option maxHeartbeats 4000000 in
theorem ref05_rows.t (A0 : Option Addr) (n0 c0 : Nat) : tree Try.prog ref05_rows.A noC Try.f30 [AV.v (Value.slice A0 n0 c0)] [] =
  .loop ([Lf.i IntKind.i64]) ((0, PUnit.unit)) 0 (fun x0 =>
   bif decide (x0.1 < ((n0 : Nat) : Int)) then (
    .need (decide (0 ≤ x0.1) && decide (x0.1 < ((n0 : Nat) : Int)) && Option.isSome A0) (
    .need (Option.isSome (Option.map (fun x => Addr.add x (Int.toNat x0.1 * 2)) A0)) (
    .ld (Option.map (fun x => Addr.add x 0) (Option.map (fun x => Addr.add x (Int.toNat x0.1 * 2)) A0)) ([Lf.i IntKind.i64]) (fun x1 =>
     .need (decide (0 ≤ x0.1) && decide (x0.1 < ((n0 : Nat) : Int)) && Option.isSome A0) (
     .need (Option.isSome (Option.map (fun x => Addr.add x (Int.toNat x0.1 * 2)) A0)) (
     .ld (Option.map (fun x => Addr.add x 1) (Option.map (fun x => Addr.add x (Int.toNat x0.1 * 2)) A0)) ([Lf.i IntKind.i64]) (fun x2 =>
      .call 23 ([AV.v (Value.int IntKind.i64 x1.1), AV.v (Value.int IntKind.i64 x2.1)]) ([]) (Sh.one) ([Lf.b]) ([]) (fun x3 =>
       bif x3.1 then (
        bif decide (0 < x0.1) then (
         .need (decide (0 ≤ x0.1) && decide (x0.1 < ((n0 : Nat) : Int)) && Option.isSome A0) (
         .need (Option.isSome (Option.map (fun x => Addr.add x (Int.toNat x0.1 * 2)) A0)) (
         .ld (Option.map (fun x => Addr.add x 0) (Option.map (fun x => Addr.add x (Int.toNat x0.1 * 2)) A0)) ([Lf.i IntKind.i64]) (fun x4 =>
          .need (decide (0 ≤ IntKind.wrap IntKind.i64 (x0.1 - 1)) && decide (IntKind.wrap IntKind.i64 (x0.1 - 1) < ((n0 : Nat) : Int)) && Option.isSome A0) (
          .need (Option.isSome (Option.map (fun x => Addr.add x (Int.toNat (IntKind.wrap IntKind.i64 (x0.1 - 1)) * 2)) A0)) (
          .ld (Option.map (fun x => Addr.add x 1) (Option.map (fun x => Addr.add x (Int.toNat (IntKind.wrap IntKind.i64 (x0.1 - 1)) * 2)) A0)) ([Lf.i IntKind.i64]) (fun x5 =>
           bif decide (IntKind.wrap IntKind.i64 (x4.1 - 1) ≤ x5.1) then (
            .done (AV.v (Value.bool false)) ([]))
           else (
            .again 0 ([Lf.i IntKind.i64]) ((IntKind.wrap IntKind.i64 (x0.1 + 1), PUnit.unit))))))))))
        else (
         .again 0 ([Lf.i IntKind.i64]) ((IntKind.wrap IntKind.i64 (x0.1 + 1), PUnit.unit))))
       else (
        .done (AV.v (Value.bool false)) ([]))))))))))
   else (
    .done (AV.v (Value.bool true)) ([]))) := by kernel_rfl
set_option maxHeartbeats 4000000 in
theorem ref05_rows.c (k : Nat) (A0 : Option Addr) (n0 c0 : Nat) (l0 : List (Int × Int)) (r : Bool) (h : ref05_rows.F k l0 = some r) (hn0 : n0 = l0.length) (w : World) (hS0 : SlR R22.row (fun _ => False) w A0 c0 l0) : Calls Try.prog 30 (AV.gs id [AV.v (Value.slice A0 n0 c0)]).toArray w fun e w' => e = .returned (((Sh.one : Sh).av (vs [Lf.b] (r, ()))).g id) ∧ Below w.heap.size w w' := by
  subst hn0
  refine enter0 mixed ref05_rows.A noC [AV.v (Value.slice A0 l0.length c0)] Try.func30 rfl rfl rfl (fun hF => ?_)
  rw [ref05_rows.t]
  unfold ref05_rows.F at h
  try dsimp only at h
  obtain ⟨I0, hI0⟩ : ∃ I : Nat → Tup [Lf.i IntKind.i64] → (Nat → Prop) → World → Prop, I = (fun m_ y L w' => ∃ (v0_0 : Int), y = (v0_0, ()) ∧ iter (ref05_rows.s0 k l0) m_ v0_0 = some r ∧ Fine (fun _ => False) w L w') := ⟨_, rfl⟩
  refine ok_loop I0 k (by rw [hI0]; exact ⟨_, rfl, h, hF⟩) ?_
  clear h
  intro m_ y L0 w0 hy
  rw [hI0] at hy
  obtain ⟨v0_0, rfl, h, hF⟩ := hy
  obtain ⟨m0, o0, rfl, h, hl0, hr_0⟩ := iter_some h
  unfold ref05_rows.s0 at h
  try dsimp only at h
  try dsimp only
  refine ok_if (fun hc2 => ?_) (fun hc2 => ?_)
  · have h := bif_t h hc2
    obtain ⟨r3, hr4, h⟩ := Option.bind_eq_some_iff.1 h
    refine ok_need (getI_need (hS0.later hF) hr4) ?_
    refine ok_need (getI_need2 (hS0.later hF) hr4) ?_
    refine ok_getf 0 hS0 hF hr4 (fun cs hcs => ⟨r3.1, by rw [hcs]; rfl, ?_⟩)
    try dsimp only
    obtain ⟨r5, hr6, h⟩ := Option.bind_eq_some_iff.1 h
    refine ok_need (getI_need (hS0.later hF) hr6) ?_
    refine ok_need (getI_need2 (hS0.later hF) hr6) ?_
    refine ok_getf 1 hS0 hF hr6 (fun cs hcs => ⟨r5.2, by rw [hcs]; rfl, ?_⟩)
    try dsimp only
    obtain ⟨v3_0, hr3, h⟩ := Option.bind_eq_some_iff.1 h
    refine ok_callm rfl (fun L3 w3 g3 lt3 => ?_)
    refine (ref05_Span.c k r3.1 r5.2 v3_0 hr3  w3 ).mono ?_
    rintro e w3' ⟨rfl, hb3⟩
    refine ⟨(v3_0, ()), rfl, hb3, fun g3' => ?_⟩
    try dsimp only
    have hF := hF.trans g3'
    refine ok_if (fun hc7 => ?_) (fun hc7 => ?_)
    · have h := bif_t h hc7
      refine ok_if (fun hc8 => ?_) (fun hc8 => ?_)
      · have h := bif_t h hc8
        obtain ⟨r9, hr10, h⟩ := Option.bind_eq_some_iff.1 h
        refine ok_need (getI_need (hS0.later hF) hr10) ?_
        refine ok_need (getI_need2 (hS0.later hF) hr10) ?_
        refine ok_getf 0 hS0 hF hr10 (fun cs hcs => ⟨r9.1, by rw [hcs]; rfl, ?_⟩)
        try dsimp only
        obtain ⟨r11, hr12, h⟩ := Option.bind_eq_some_iff.1 h
        refine ok_need (getI_need (hS0.later hF) hr12) ?_
        refine ok_need (getI_need2 (hS0.later hF) hr12) ?_
        refine ok_getf 1 hS0 hF hr12 (fun cs hcs => ⟨r11.2, by rw [hcs]; rfl, ?_⟩)
        try dsimp only
        refine ok_if (fun hc13 => ?_) (fun hc13 => ?_)
        · have h := bif_t h hc13
          obtain rfl := Option.some.inj h
          obtain rfl := hr_0 _ rfl
          intro ρ L w' _ he _ _
          exact ⟨rfl, (hF.ext he).below⟩
        · have h := bif_f h hc13
          obtain rfl := Option.some.inj h
          have h := hl0 _ rfl
          exact ok_again (I := I0) m0 (Nat.lt_succ_self _) (fun L w' he => by rw [hI0]; exact ⟨_, rfl, h, hF.trans he.fine⟩)
      · have h := bif_f h hc8
        obtain rfl := Option.some.inj h
        have h := hl0 _ rfl
        exact ok_again (I := I0) m0 (Nat.lt_succ_self _) (fun L w' he => by rw [hI0]; exact ⟨_, rfl, h, hF.trans he.fine⟩)
    · have h := bif_f h hc7
      obtain rfl := Option.some.inj h
      obtain rfl := hr_0 _ rfl
      intro ρ L w' _ he _ _
      exact ⟨rfl, (hF.ext he).below⟩
  · have h := bif_f h hc2
    obtain rfl := Option.some.inj h
    obtain rfl := hr_0 _ rfl
    intro ρ L w' _ he _ _
    exact ⟨rfl, (hF.ext he).below⟩
/-! ### turnbuckle/turnbuckleref05.Right: function 11 -/
def ref05_Right.F (k : Nat) (l0 : List (Int × Int)) : Option Bool := bif decide (((l0.length : Nat) : Int) ≤ 256) then ((ref05_rows.F k l0).bind fun v0_0 => bif v0_0 then (some true) else (some false)) else (some false)
abbrev ref05_Right.A : Nat → LA := noA
set_option maxHeartbeats 4000000 in
theorem ref05_Right.t (A0 : Option Addr) (n0 c0 : Nat) : tree Try.prog ref05_Right.A noC Try.f11 [AV.v (Value.slice A0 n0 c0)] [] =
  bif decide (((n0 : Nat) : Int) ≤ 256) then (
   .call 30 ([AV.v (Value.slice A0 n0 c0)]) ([]) (Sh.one) ([Lf.b]) ([]) (fun x0 =>
    bif x0.1 then (
     .done (AV.v (Value.bool true)) ([]))
    else (
     .done (AV.v (Value.bool false)) ([]))))
  else (
   .done (AV.v (Value.bool false)) ([])) := by kernel_rfl
set_option maxHeartbeats 4000000 in
theorem ref05_Right.c (k : Nat) (A0 : Option Addr) (n0 c0 : Nat) (l0 : List (Int × Int)) (r : Bool) (h : ref05_Right.F k l0 = some r) (hn0 : n0 = l0.length) (w : World) (hS0 : SlR R22.row (fun _ => False) w A0 c0 l0) : Calls Try.prog 11 (AV.gs id [AV.v (Value.slice A0 n0 c0)]).toArray w fun e w' => e = .returned (((Sh.one : Sh).av (vs [Lf.b] (r, ()))).g id) ∧ Below w.heap.size w w' := by
  subst hn0
  refine enter0 mixed ref05_Right.A noC [AV.v (Value.slice A0 l0.length c0)] Try.func11 rfl rfl rfl (fun hF => ?_)
  rw [ref05_Right.t]
  unfold ref05_Right.F at h
  try dsimp only at h
  refine ok_if (fun hc1 => ?_) (fun hc1 => ?_)
  · have h := bif_t h hc1
    obtain ⟨v0_0, hr0, h⟩ := Option.bind_eq_some_iff.1 h
    refine ok_callm rfl (fun L0 w0 g0 lt0 => ?_)
    refine (ref05_rows.c k _ _ _ l0 v0_0 hr0 rfl w0 (hS0.later (hF.trans g0)).bare).mono ?_
    rintro e w0' ⟨rfl, hb0⟩
    refine ⟨(v0_0, ()), rfl, hb0, fun g0' => ?_⟩
    try dsimp only
    have hF := hF.trans g0'
    refine ok_if (fun hc2 => ?_) (fun hc2 => ?_)
    · have h := bif_t h hc2
      obtain rfl := Option.some.inj h
      intro ρ L w' _ he _ _
      exact ⟨rfl, (hF.ext he).below⟩
    · have h := bif_f h hc2
      obtain rfl := Option.some.inj h
      intro ρ L w' _ he _ _
      exact ⟨rfl, (hF.ext he).below⟩
  · have h := bif_f h hc1
    obtain rfl := Option.some.inj h
    intro ρ L w' _ he _ _
    exact ⟨rfl, (hF.ext he).below⟩
/-! ### turnbuckle/spans.Gaps: function 22 -/
def spans_Gaps.s2 (k : Nat) (a2 : Int) (l0 : List (Int × Int)) : (Int × (List (Int × Int)) × Int) → Option (Sum (Int × (List (Int × Int)) × Int) ((List (Int × Int)) × Int)) := fun (v2_0, s2_1, v2_2) => bif decide (v2_2 < ((l0.length : Nat) : Int)) then ((getI l0 v2_2).bind fun r5 => bif decide (r5.2 < v2_0) then (some (.inl ((v2_0, s2_1, IntKind.wrap IntKind.i64 (v2_2 + 1))))) else (bif decide (a2 < r5.1) then (bif decide (v2_0 ≤ a2) then (bif decide ((s2_1.length + (([(v2_0, a2)] : List (Int × Int))).length) * 16 ≤ 140737488355328) then (some (.inr (((s2_1 ++ ([(v2_0, a2)] : List (Int × Int))), 0)))) else none) else (some (.inr ((s2_1, 0))))) else (bif decide (v2_0 < r5.1) then (bif decide ((s2_1.length + (([(v2_0, IntKind.wrap IntKind.i64 (r5.1 - 1))] : List (Int × Int))).length) * 16 ≤ 140737488355328) then (some (.inl ((IntKind.wrap IntKind.i64 (r5.2 + 1), (s2_1 ++ ([(v2_0, IntKind.wrap IntKind.i64 (r5.1 - 1))] : List (Int × Int))), IntKind.wrap IntKind.i64 (v2_2 + 1))))) else none) else (some (.inl ((IntKind.wrap IntKind.i64 (r5.2 + 1), s2_1, IntKind.wrap IntKind.i64 (v2_2 + 1)))))))) else (bif decide (v2_0 ≤ a2) then (bif decide ((s2_1.length + (([(v2_0, a2)] : List (Int × Int))).length) * 16 ≤ 140737488355328) then (some (.inr (((s2_1 ++ ([(v2_0, a2)] : List (Int × Int))), 0)))) else none) else (some (.inr ((s2_1, 0)))))
def spans_Gaps.F (k : Nat) (l0 : List (Int × Int)) (a1 : Int) (a2 : Int) : Option ((List (Int × Int)) × Int) := (spans_Right.F k l0).bind fun v0_0 => bif v0_0 then ((spans_isSpan.F k a1 a2).bind fun v1_0 => bif v1_0 then (iter (spans_Gaps.s2 k a2 l0) k (a1, [], 0)) else (some (([], 1)))) else (some (([], 1)))
abbrev spans_Gaps.A : Nat → LA := fun r => if r = 5 then ⟨[(1, false, [Lf.i IntKind.i64]), (8, false, [Lf.sl]), (22, false, [Lf.i IntKind.i64])], []⟩ else ⟨[], []⟩
set_option maxHeartbeats 4000000 in
theorem spans_Gaps.t (A0 : Option Addr) (n0 c0 : Nat) (a1 : Int) (a2 : Int) : tree Try.prog spans_Gaps.A noC Try.f22 [AV.v (Value.slice A0 n0 c0), AV.v (Value.int IntKind.i64 a1), AV.v (Value.int IntKind.i64 a2)] [] =
  .call 10 ([AV.v (Value.slice A0 n0 c0)]) ([]) (Sh.one) ([Lf.b]) ([]) (fun x0 =>
   bif x0.1 then (
    .call 29 ([AV.v (Value.int IntKind.i64 a1), AV.v (Value.int IntKind.i64 a2)]) ([]) (Sh.one) ([Lf.b]) ([]) (fun x1 =>
     bif x1.1 then (
      .loop ([Lf.i IntKind.i64, Lf.sl, Lf.i IntKind.i64]) ((a1, (none, 0, 0), 0, PUnit.unit)) 0 (fun x2 =>
       bif decide (x2.2.2.1 < ((n0 : Nat) : Int)) then (
        .need (decide (0 ≤ x2.2.2.1) && decide (x2.2.2.1 < ((n0 : Nat) : Int)) && Option.isSome A0) (
        .ld (Option.map (fun x => Addr.add x (Int.toNat x2.2.2.1 * 2)) A0) ([Lf.i IntKind.i64, Lf.i IntKind.i64]) (fun x3 =>
         bif decide (x3.2.1 < x2.1) then (
          .again 0 ([Lf.i IntKind.i64, Lf.sl, Lf.i IntKind.i64]) ((x2.1, (x2.2.1.1, x2.2.1.2.1, x2.2.1.2.2), IntKind.wrap IntKind.i64 (x2.2.2.1 + 1), PUnit.unit)))
         else (
          bif decide (a2 < x3.1) then (
           bif decide (x2.1 ≤ a2) then (
            .sem (Instr.buildSlice 22 1 { toList := [(0, Value.agg { toList := [Value.int IntKind.i64 x2.1, Value.int IntKind.i64 a2] })] }) ([Lf.sl]) (Sh.one) (fun x4 =>
             .sem (Builtin.append_ { toList := [22, 22] } 22 { toList := [Value.slice x2.2.1.1 x2.2.1.2.1 x2.2.1.2.2, Value.slice x4.1.1 x4.1.2.1 x4.1.2.2] }) ([Lf.sl]) (Sh.one) (fun x5 =>
              .done (AV.tup [AV.v (Value.slice x5.1.1 x5.1.2.1 x5.1.2.2), AV.v (Value.int IntKind.i64 0)]) ([]))))
           else (
            .done (AV.tup [AV.v (Value.slice x2.2.1.1 x2.2.1.2.1 x2.2.1.2.2), AV.v (Value.int IntKind.i64 0)]) ([])))
          else (
           bif decide (x2.1 < x3.1) then (
            .sem (Instr.buildSlice 22 1 { toList := [(0, Value.agg { toList := [Value.int IntKind.i64 x2.1, Value.int IntKind.i64 (IntKind.wrap IntKind.i64 (x3.1 - 1))] })] }) ([Lf.sl]) (Sh.one) (fun x4 =>
             .sem (Builtin.append_ { toList := [22, 22] } 22 { toList := [Value.slice x2.2.1.1 x2.2.1.2.1 x2.2.1.2.2, Value.slice x4.1.1 x4.1.2.1 x4.1.2.2] }) ([Lf.sl]) (Sh.one) (fun x5 =>
              .again 0 ([Lf.i IntKind.i64, Lf.sl, Lf.i IntKind.i64]) ((IntKind.wrap IntKind.i64 (x3.2.1 + 1), (x5.1.1, x5.1.2.1, x5.1.2.2), IntKind.wrap IntKind.i64 (x2.2.2.1 + 1), PUnit.unit)))))
           else (
            .again 0 ([Lf.i IntKind.i64, Lf.sl, Lf.i IntKind.i64]) ((IntKind.wrap IntKind.i64 (x3.2.1 + 1), (x2.2.1.1, x2.2.1.2.1, x2.2.1.2.2), IntKind.wrap IntKind.i64 (x2.2.2.1 + 1), PUnit.unit))))))))
       else (
        bif decide (x2.1 ≤ a2) then (
         .sem (Instr.buildSlice 22 1 { toList := [(0, Value.agg { toList := [Value.int IntKind.i64 x2.1, Value.int IntKind.i64 a2] })] }) ([Lf.sl]) (Sh.one) (fun x3 =>
          .sem (Builtin.append_ { toList := [22, 22] } 22 { toList := [Value.slice x2.2.1.1 x2.2.1.2.1 x2.2.1.2.2, Value.slice x3.1.1 x3.1.2.1 x3.1.2.2] }) ([Lf.sl]) (Sh.one) (fun x4 =>
           .done (AV.tup [AV.v (Value.slice x4.1.1 x4.1.2.1 x4.1.2.2), AV.v (Value.int IntKind.i64 0)]) ([]))))
        else (
         .done (AV.tup [AV.v (Value.slice x2.2.1.1 x2.2.1.2.1 x2.2.1.2.2), AV.v (Value.int IntKind.i64 0)]) ([])))))
     else (
      .done (AV.tup [AV.v (Value.slice none 0 0), AV.v (Value.int IntKind.i64 1)]) ([]))))
   else (
    .done (AV.tup [AV.v (Value.slice none 0 0), AV.v (Value.int IntKind.i64 1)]) ([]))) := by kernel_rfl
set_option maxHeartbeats 4000000 in
theorem spans_Gaps.c (k : Nat) (A0 : Option Addr) (n0 c0 : Nat) (l0 : List (Int × Int)) (a1 : Int) (a2 : Int) (r : (List (Int × Int)) × Int) (h : spans_Gaps.F k l0 a1 a2 = some r) (hn0 : n0 = l0.length) (w : World) (hS0 : SlR R22.row (fun _ => False) w A0 c0 l0) : Calls Try.prog 22 (AV.gs id [AV.v (Value.slice A0 n0 c0), AV.v (Value.int IntKind.i64 a1), AV.v (Value.int IntKind.i64 a2)]).toArray w fun e w' => ∃ (B0 : Option Addr) (d0 : Nat), e = .returned (((Sh.tup [(false, 1), (false, 1)] : Sh).av (vs [Lf.sl, Lf.i IntKind.i64] ((B0, (r.1).length, d0), r.2, ()))).g id) ∧ Below w.heap.size w w' ∧ OwnF w.heap.size (fun b => b < w.heap.size) w' 30 R22 B0 d0 r.1 := by
  subst hn0
  refine enter0 mixed spans_Gaps.A noC [AV.v (Value.slice A0 l0.length c0), AV.v (Value.int IntKind.i64 a1), AV.v (Value.int IntKind.i64 a2)] Try.func22 rfl rfl rfl (fun hF => ?_)
  rw [spans_Gaps.t]
  unfold spans_Gaps.F at h
  try dsimp only at h
  obtain ⟨v0_0, hr0, h⟩ := Option.bind_eq_some_iff.1 h
  refine ok_callm rfl (fun L0 w0 g0 lt0 => ?_)
  refine (spans_Right.c k _ _ _ l0 v0_0 hr0 rfl w0 (hS0.later (hF.trans g0)).bare).mono ?_
  rintro e w0' ⟨rfl, hb0⟩
  refine ⟨(v0_0, ()), rfl, hb0, fun g0' => ?_⟩
  try dsimp only
  have hF := hF.trans g0'
  refine ok_if (fun hc1 => ?_) (fun hc1 => ?_)
  · have h := bif_t h hc1
    obtain ⟨v1_0, hr1, h⟩ := Option.bind_eq_some_iff.1 h
    refine ok_callm rfl (fun L1 w1 g1 lt1 => ?_)
    refine (spans_isSpan.c k a1 a2 v1_0 hr1  w1 ).mono ?_
    rintro e w1' ⟨rfl, hb1⟩
    refine ⟨(v1_0, ()), rfl, hb1, fun g1' => ?_⟩
    try dsimp only
    have hF := hF.trans g1'
    refine ok_if (fun hc2 => ?_) (fun hc2 => ?_)
    · have h := bif_t h hc2
      obtain ⟨I2, hI2⟩ : ∃ I : Nat → Tup [Lf.i IntKind.i64, Lf.sl, Lf.i IntKind.i64] → (Nat → Prop) → World → Prop, I = (fun m_ y L w' => ∃ (v2_0 : Int) (A2_1 : Option Addr) (c2_1 : Nat) (s2_1 : List (Int × Int)) (v2_2 : Int), y = (v2_0, (A2_1, s2_1.length, c2_1), v2_2, ()) ∧ iter (spans_Gaps.s2 k a2 l0) m_ (v2_0, s2_1, v2_2) = some r ∧ Fine (fun _ => False) w L w' ∧ OwnF w.heap.size L w' 30 R22 A2_1 c2_1 s2_1) := ⟨_, rfl⟩
      refine ok_loop I2 k (by rw [hI2]; exact ⟨_, none, 0, [], _, rfl, h, hF, OwnF.nil _ _ _ _ _⟩) ?_
      clear h
      intro m_ y L2 w2 hy
      rw [hI2] at hy
      obtain ⟨v2_0, A2_1, c2_1, s2_1, v2_2, rfl, h, hF, hO_s2_1⟩ := hy
      obtain ⟨m2, o2, rfl, h, hl2, hr_2⟩ := iter_some h
      unfold spans_Gaps.s2 at h
      try dsimp only at h
      try dsimp only
      refine ok_if (fun hc4 => ?_) (fun hc4 => ?_)
      · have h := bif_t h hc4
        obtain ⟨r5, hr6, h⟩ := Option.bind_eq_some_iff.1 h
        refine ok_need (getI_need (hS0.later hF) hr6) ?_
        refine ok_get hS0 hF hr6 (by simp) (fun cs hcs => ⟨(r5.1, r5.2, ()), hcs.symm, ?_⟩)
        try dsimp only
        refine ok_if (fun hc7 => ?_) (fun hc7 => ?_)
        · have h := bif_t h hc7
          obtain rfl := Option.some.inj h
          have h := hl2 _ rfl
          exact ok_again (I := I2) m2 (Nat.lt_succ_self _) (fun L w' he => by rw [hI2]; exact ⟨_, A2_1, c2_1, s2_1, _, rfl, h, hF.trans he.fine, hO_s2_1.later he.fine⟩)
        · have h := bif_f h hc7
          refine ok_if (fun hc8 => ?_) (fun hc8 => ?_)
          · have h := bif_t h hc8
            refine ok_if (fun hc9 => ?_) (fun hc9 => ?_)
            · have h := bif_t h hc9
              refine ok_lit (R := R22) (base := w.heap.size) (xs := ([(v2_0, a2)] : List (Int × Int))) #[Value.int IntKind.i64 v2_0, Value.int IntKind.i64 a2] E22 rfl (by decide) (by decide) ⟨_, _, rfl, rfl, by kernel_rfl⟩ rfl hF.size (fun A4 c4 L4 w4 hO4 g4 hbl4 => ?_)
              try dsimp only
              have dj_o10_s2_1 : Dj A4 A2_1 := Dj.new hbl4 hO_s2_1.lt
              have hF := hF.trans g4
              have hO_s2_1 := hO_s2_1.later g4
              obtain ⟨hq11, h⟩ := bif_need h
              have hq11 := of_decide_eq_true hq11
              refine ok_app (R := R22) (base := w.heap.size) (xs := s2_1) (ys := ([(v2_0, a2)] : List (Int × Int))) rfl rfl E22 hO_s2_1 hO4.sl (by decide) hq11 hF.size (fun A5 c5 L5 w5 hO5 g5 hid5 hbl5 => ?_)
              try dsimp only
              have dj_o12_o10 : Dj A5 A4 := Dj.grow (Dj.symm dj_o10_s2_1) hbl5 hO4.lt
              have hO4 := hO4.other dj_o10_s2_1 g5
              have hF := Fine.own hF g5 (fun b hb => Or.inr (Own.base hO_s2_1 hb)) hid5
              obtain rfl := Option.some.inj h
              obtain rfl := hr_2 _ rfl
              intro ρ L w' _ he _ _
              exact ⟨A5, c5, rfl, (hF.ext he).below, (hO5.later he.fine).ret⟩
            · have h := bif_f h hc9
              obtain rfl := Option.some.inj h
              obtain rfl := hr_2 _ rfl
              intro ρ L w' _ he _ _
              exact ⟨A2_1, c2_1, rfl, (hF.ext he).below, (hO_s2_1.later he.fine).ret⟩
          · have h := bif_f h hc8
            refine ok_if (fun hc13 => ?_) (fun hc13 => ?_)
            · have h := bif_t h hc13
              refine ok_lit (R := R22) (base := w.heap.size) (xs := ([(v2_0, IntKind.wrap IntKind.i64 (r5.1 - 1))] : List (Int × Int))) #[Value.int IntKind.i64 v2_0, Value.int IntKind.i64 (IntKind.wrap IntKind.i64 (r5.1 - 1))] E22 rfl (by decide) (by decide) ⟨_, _, rfl, rfl, by kernel_rfl⟩ rfl hF.size (fun A4 c4 L4 w4 hO4 g4 hbl4 => ?_)
              try dsimp only
              have dj_o14_s2_1 : Dj A4 A2_1 := Dj.new hbl4 hO_s2_1.lt
              have hF := hF.trans g4
              have hO_s2_1 := hO_s2_1.later g4
              obtain ⟨hq15, h⟩ := bif_need h
              have hq15 := of_decide_eq_true hq15
              refine ok_app (R := R22) (base := w.heap.size) (xs := s2_1) (ys := ([(v2_0, IntKind.wrap IntKind.i64 (r5.1 - 1))] : List (Int × Int))) rfl rfl E22 hO_s2_1 hO4.sl (by decide) hq15 hF.size (fun A5 c5 L5 w5 hO5 g5 hid5 hbl5 => ?_)
              try dsimp only
              have dj_o16_o14 : Dj A5 A4 := Dj.grow (Dj.symm dj_o14_s2_1) hbl5 hO4.lt
              have hO4 := hO4.other dj_o14_s2_1 g5
              have hF := Fine.own hF g5 (fun b hb => Or.inr (Own.base hO_s2_1 hb)) hid5
              obtain rfl := Option.some.inj h
              have h := hl2 _ rfl
              exact ok_again (I := I2) m2 (Nat.lt_succ_self _) (fun L w' he => by rw [hI2]; exact ⟨_, A5, c5, (s2_1 ++ ([(v2_0, IntKind.wrap IntKind.i64 (r5.1 - 1))] : List (Int × Int))), _, rfl, h, hF.trans he.fine, hO5.later he.fine⟩)
            · have h := bif_f h hc13
              obtain rfl := Option.some.inj h
              have h := hl2 _ rfl
              exact ok_again (I := I2) m2 (Nat.lt_succ_self _) (fun L w' he => by rw [hI2]; exact ⟨_, A2_1, c2_1, s2_1, _, rfl, h, hF.trans he.fine, hO_s2_1.later he.fine⟩)
      · have h := bif_f h hc4
        refine ok_if (fun hc17 => ?_) (fun hc17 => ?_)
        · have h := bif_t h hc17
          refine ok_lit (R := R22) (base := w.heap.size) (xs := ([(v2_0, a2)] : List (Int × Int))) #[Value.int IntKind.i64 v2_0, Value.int IntKind.i64 a2] E22 rfl (by decide) (by decide) ⟨_, _, rfl, rfl, by kernel_rfl⟩ rfl hF.size (fun A3 c3 L3 w3 hO3 g3 hbl3 => ?_)
          try dsimp only
          have dj_o18_s2_1 : Dj A3 A2_1 := Dj.new hbl3 hO_s2_1.lt
          have hF := hF.trans g3
          have hO_s2_1 := hO_s2_1.later g3
          obtain ⟨hq19, h⟩ := bif_need h
          have hq19 := of_decide_eq_true hq19
          refine ok_app (R := R22) (base := w.heap.size) (xs := s2_1) (ys := ([(v2_0, a2)] : List (Int × Int))) rfl rfl E22 hO_s2_1 hO3.sl (by decide) hq19 hF.size (fun A4 c4 L4 w4 hO4 g4 hid4 hbl4 => ?_)
          try dsimp only
          have dj_o20_o18 : Dj A4 A3 := Dj.grow (Dj.symm dj_o18_s2_1) hbl4 hO3.lt
          have hO3 := hO3.other dj_o18_s2_1 g4
          have hF := Fine.own hF g4 (fun b hb => Or.inr (Own.base hO_s2_1 hb)) hid4
          obtain rfl := Option.some.inj h
          obtain rfl := hr_2 _ rfl
          intro ρ L w' _ he _ _
          exact ⟨A4, c4, rfl, (hF.ext he).below, (hO4.later he.fine).ret⟩
        · have h := bif_f h hc17
          obtain rfl := Option.some.inj h
          obtain rfl := hr_2 _ rfl
          intro ρ L w' _ he _ _
          exact ⟨A2_1, c2_1, rfl, (hF.ext he).below, (hO_s2_1.later he.fine).ret⟩
    · have h := bif_f h hc2
      obtain rfl := Option.some.inj h
      intro ρ L w' _ he _ _
      exact ⟨none, 0, rfl, (hF.ext he).below, OwnF.ret (OwnF.nil _ (fun _ => False) _ _ _)⟩
  · have h := bif_f h hc1
    obtain rfl := Option.some.inj h
    intro ρ L w' _ he _ _
    exact ⟨none, 0, rfl, (hF.ext he).below, OwnF.ret (OwnF.nil _ (fun _ => False) _ _ _)⟩
/-! ### turnbuckle/turnbuckleref05.clip: function 36 -/
def ref05_clip.s0 (k : Nat) (a1 : Int) (a2 : Int) (l0 : List (Int × Int)) : ((List (Int × Int)) × Int) → Option (Sum ((List (Int × Int)) × Int) ((List (Int × Int)))) := fun (s0_0, v0_1) => bif decide (v0_1 < ((l0.length : Nat) : Int)) then ((getI l0 v0_1).bind fun r3 => (getI l0 v0_1).bind fun r5 => bif decide ((if r3.1 < a1 then a1 else r3.1) ≤ if a2 < r5.2 then a2 else r5.2) then (bif decide ((s0_0.length + (([(if r3.1 < a1 then a1 else r3.1, if a2 < r5.2 then a2 else r5.2)] : List (Int × Int))).length) * 16 ≤ 140737488355328) then (some (.inl (((s0_0 ++ ([(if r3.1 < a1 then a1 else r3.1, if a2 < r5.2 then a2 else r5.2)] : List (Int × Int))), IntKind.wrap IntKind.i64 (v0_1 + 1))))) else none) else (some (.inl ((s0_0, IntKind.wrap IntKind.i64 (v0_1 + 1)))))) else (some (.inr s0_0))
def ref05_clip.F (k : Nat) (l0 : List (Int × Int)) (a1 : Int) (a2 : Int) : Option ((List (Int × Int))) := iter (ref05_clip.s0 k a1 a2 l0) k ([], 0)
abbrev ref05_clip.A : Nat → LA := fun r => if r = 3 then ⟨[(7, false, [Lf.sl]), (8, false, [Lf.i IntKind.i64])], []⟩ else ⟨[], []⟩
set_option maxHeartbeats 4000000 in
theorem ref05_clip.t (A0 : Option Addr) (n0 c0 : Nat) (a1 : Int) (a2 : Int) : tree Try.prog ref05_clip.A noC Try.f36 [AV.v (Value.slice A0 n0 c0), AV.v (Value.int IntKind.i64 a1), AV.v (Value.int IntKind.i64 a2)] [] =
  .loop ([Lf.sl, Lf.i IntKind.i64]) (((none, 0, 0), 0, PUnit.unit)) 0 (fun x0 =>
   bif decide (x0.2.1 < ((n0 : Nat) : Int)) then (
    .need (decide (0 ≤ x0.2.1) && decide (x0.2.1 < ((n0 : Nat) : Int)) && Option.isSome A0) (
    .need (Option.isSome (Option.map (fun x => Addr.add x (Int.toNat x0.2.1 * 2)) A0)) (
    .ld (Option.map (fun x => Addr.add x 0) (Option.map (fun x => Addr.add x (Int.toNat x0.2.1 * 2)) A0)) ([Lf.i IntKind.i64]) (fun x1 =>
     .need (decide (0 ≤ x0.2.1) && decide (x0.2.1 < ((n0 : Nat) : Int)) && Option.isSome A0) (
     .need (Option.isSome (Option.map (fun x => Addr.add x (Int.toNat x0.2.1 * 2)) A0)) (
     .ld (Option.map (fun x => Addr.add x 1) (Option.map (fun x => Addr.add x (Int.toNat x0.2.1 * 2)) A0)) ([Lf.i IntKind.i64]) (fun x2 =>
      bif decide ((if x1.1 < a1 then a1 else x1.1) ≤ if a2 < x2.1 then a2 else x2.1) then (
       .sem (Instr.buildSlice 22 1 { toList := [(0, Value.agg { toList := [Value.int IntKind.i64 (if x1.1 < a1 then a1 else x1.1), Value.int IntKind.i64 (if a2 < x2.1 then a2 else x2.1)] })] }) ([Lf.sl]) (Sh.one) (fun x3 =>
        .sem (Builtin.append_ { toList := [22, 22] } 22 { toList := [Value.slice x0.1.1 x0.1.2.1 x0.1.2.2, Value.slice x3.1.1 x3.1.2.1 x3.1.2.2] }) ([Lf.sl]) (Sh.one) (fun x4 =>
         .again 0 ([Lf.sl, Lf.i IntKind.i64]) (((x4.1.1, x4.1.2.1, x4.1.2.2), IntKind.wrap IntKind.i64 (x0.2.1 + 1), PUnit.unit)))))
      else (
       .again 0 ([Lf.sl, Lf.i IntKind.i64]) (((x0.1.1, x0.1.2.1, x0.1.2.2), IntKind.wrap IntKind.i64 (x0.2.1 + 1), PUnit.unit))))))))))
   else (
    .done (AV.v (Value.slice x0.1.1 x0.1.2.1 x0.1.2.2)) ([]))) := by kernel_rfl
set_option maxHeartbeats 4000000 in
theorem ref05_clip.c (k : Nat) (A0 : Option Addr) (n0 c0 : Nat) (l0 : List (Int × Int)) (a1 : Int) (a2 : Int) (r : (List (Int × Int))) (h : ref05_clip.F k l0 a1 a2 = some r) (hn0 : n0 = l0.length) (w : World) (hS0 : SlR R22.row (fun _ => False) w A0 c0 l0) : Calls Try.prog 36 (AV.gs id [AV.v (Value.slice A0 n0 c0), AV.v (Value.int IntKind.i64 a1), AV.v (Value.int IntKind.i64 a2)]).toArray w fun e w' => ∃ (B0 : Option Addr) (d0 : Nat), e = .returned (((Sh.one : Sh).av (vs [Lf.sl] ((B0, (r).length, d0), ()))).g id) ∧ Below w.heap.size w w' ∧ OwnF w.heap.size (fun b => b < w.heap.size) w' 30 R22 B0 d0 r := by
  subst hn0
  refine enter0 mixed ref05_clip.A noC [AV.v (Value.slice A0 l0.length c0), AV.v (Value.int IntKind.i64 a1), AV.v (Value.int IntKind.i64 a2)] Try.func36 rfl rfl rfl (fun hF => ?_)
  rw [ref05_clip.t]
  unfold ref05_clip.F at h
  try dsimp only at h
  obtain ⟨I0, hI0⟩ : ∃ I : Nat → Tup [Lf.sl, Lf.i IntKind.i64] → (Nat → Prop) → World → Prop, I = (fun m_ y L w' => ∃ (A0_0 : Option Addr) (c0_0 : Nat) (s0_0 : List (Int × Int)) (v0_1 : Int), y = ((A0_0, s0_0.length, c0_0), v0_1, ()) ∧ iter (ref05_clip.s0 k a1 a2 l0) m_ (s0_0, v0_1) = some r ∧ Fine (fun _ => False) w L w' ∧ OwnF w.heap.size L w' 30 R22 A0_0 c0_0 s0_0) := ⟨_, rfl⟩
  refine ok_loop I0 k (by rw [hI0]; exact ⟨none, 0, [], _, rfl, h, hF, OwnF.nil _ _ _ _ _⟩) ?_
  clear h
  intro m_ y L0 w0 hy
  rw [hI0] at hy
  obtain ⟨A0_0, c0_0, s0_0, v0_1, rfl, h, hF, hO_s0_0⟩ := hy
  obtain ⟨m0, o0, rfl, h, hl0, hr_0⟩ := iter_some h
  unfold ref05_clip.s0 at h
  try dsimp only at h
  try dsimp only
  refine ok_if (fun hc2 => ?_) (fun hc2 => ?_)
  · have h := bif_t h hc2
    obtain ⟨r3, hr4, h⟩ := Option.bind_eq_some_iff.1 h
    refine ok_need (getI_need (hS0.later hF) hr4) ?_
    refine ok_need (getI_need2 (hS0.later hF) hr4) ?_
    refine ok_getf 0 hS0 hF hr4 (fun cs hcs => ⟨r3.1, by rw [hcs]; rfl, ?_⟩)
    try dsimp only
    obtain ⟨r5, hr6, h⟩ := Option.bind_eq_some_iff.1 h
    refine ok_need (getI_need (hS0.later hF) hr6) ?_
    refine ok_need (getI_need2 (hS0.later hF) hr6) ?_
    refine ok_getf 1 hS0 hF hr6 (fun cs hcs => ⟨r5.2, by rw [hcs]; rfl, ?_⟩)
    try dsimp only
    refine ok_if (fun hc7 => ?_) (fun hc7 => ?_)
    · have h := bif_t h hc7
      refine ok_lit (R := R22) (base := w.heap.size) (xs := ([(if r3.1 < a1 then a1 else r3.1, if a2 < r5.2 then a2 else r5.2)] : List (Int × Int))) #[Value.int IntKind.i64 (if r3.1 < a1 then a1 else r3.1), Value.int IntKind.i64 (if a2 < r5.2 then a2 else r5.2)] E22 rfl (by decide) (by decide) ⟨_, _, rfl, rfl, by kernel_rfl⟩ rfl hF.size (fun A3 c3 L3 w3 hO3 g3 hbl3 => ?_)
      try dsimp only
      have dj_o8_s0_0 : Dj A3 A0_0 := Dj.new hbl3 hO_s0_0.lt
      have hF := hF.trans g3
      have hO_s0_0 := hO_s0_0.later g3
      obtain ⟨hq9, h⟩ := bif_need h
      have hq9 := of_decide_eq_true hq9
      refine ok_app (R := R22) (base := w.heap.size) (xs := s0_0) (ys := ([(if r3.1 < a1 then a1 else r3.1, if a2 < r5.2 then a2 else r5.2)] : List (Int × Int))) rfl rfl E22 hO_s0_0 hO3.sl (by decide) hq9 hF.size (fun A4 c4 L4 w4 hO4 g4 hid4 hbl4 => ?_)
      try dsimp only
      have dj_o10_o8 : Dj A4 A3 := Dj.grow (Dj.symm dj_o8_s0_0) hbl4 hO3.lt
      have hO3 := hO3.other dj_o8_s0_0 g4
      have hF := Fine.own hF g4 (fun b hb => Or.inr (Own.base hO_s0_0 hb)) hid4
      obtain rfl := Option.some.inj h
      have h := hl0 _ rfl
      exact ok_again (I := I0) m0 (Nat.lt_succ_self _) (fun L w' he => by rw [hI0]; exact ⟨A4, c4, (s0_0 ++ ([(if r3.1 < a1 then a1 else r3.1, if a2 < r5.2 then a2 else r5.2)] : List (Int × Int))), _, rfl, h, hF.trans he.fine, hO4.later he.fine⟩)
    · have h := bif_f h hc7
      obtain rfl := Option.some.inj h
      have h := hl0 _ rfl
      exact ok_again (I := I0) m0 (Nat.lt_succ_self _) (fun L w' he => by rw [hI0]; exact ⟨A0_0, c0_0, s0_0, _, rfl, h, hF.trans he.fine, hO_s0_0.later he.fine⟩)
  · have h := bif_f h hc2
    obtain rfl := Option.some.inj h
    obtain rfl := hr_0 _ rfl
    intro ρ L w' _ he _ _
    exact ⟨A0_0, c0_0, rfl, (hF.ext he).below, (hO_s0_0.later he.fine).ret⟩
/-! ### turnbuckle/turnbuckleref05.Gaps: function 28 -/
def ref05_Gaps.s3 (k : Nat) (a2 : Int) (s2_0 : List (Int × Int)) : ((List (Int × Int)) × Int × Int) → Option (Sum ((List (Int × Int)) × Int × Int) ((List (Int × Int)) × Int)) := fun (s3_0, v3_1, v3_2) => bif decide (v3_2 < ((s2_0.length : Nat) : Int)) then ((getI s2_0 v3_2).bind fun r6 => bif decide (v3_1 < r6.1) then ((getI s2_0 v3_2).bind fun r9 => bif decide ((s3_0.length + (([(v3_1, IntKind.wrap IntKind.i64 (r9.1 - 1))] : List (Int × Int))).length) * 16 ≤ 140737488355328) then ((getI s2_0 v3_2).bind fun r14 => some (.inl (((s3_0 ++ ([(v3_1, IntKind.wrap IntKind.i64 (r9.1 - 1))] : List (Int × Int))), IntKind.wrap IntKind.i64 (r14.2 + 1), IntKind.wrap IntKind.i64 (v3_2 + 1))))) else none) else ((getI s2_0 v3_2).bind fun r16 => some (.inl ((s3_0, IntKind.wrap IntKind.i64 (r16.2 + 1), IntKind.wrap IntKind.i64 (v3_2 + 1)))))) else (bif decide (v3_1 ≤ a2) then (bif decide ((s3_0.length + (([(v3_1, a2)] : List (Int × Int))).length) * 16 ≤ 140737488355328) then (some (.inr (((s3_0 ++ ([(v3_1, a2)] : List (Int × Int))), 0)))) else none) else (some (.inr ((s3_0, 0)))))
def ref05_Gaps.F (k : Nat) (l0 : List (Int × Int)) (a1 : Int) (a2 : Int) : Option ((List (Int × Int)) × Int) := (ref05_Right.F k l0).bind fun v0_0 => bif v0_0 then ((ref05_Span.F k a1 a2).bind fun v1_0 => bif v1_0 then ((ref05_clip.F k l0 a1 a2).bind fun s2_0 => iter (ref05_Gaps.s3 k a2 s2_0) k ([], a1, 0)) else (some (([], 1)))) else (some (([], 1)))
abbrev ref05_Gaps.A : Nat → LA := fun r => if r = 7 then ⟨[(8, false, [Lf.sl]), (9, false, [Lf.i IntKind.i64]), (11, false, [Lf.i IntKind.i64])], []⟩ else ⟨[], []⟩
set_option maxHeartbeats 4000000 in
theorem ref05_Gaps.t (A0 : Option Addr) (n0 c0 : Nat) (a1 : Int) (a2 : Int) : tree Try.prog ref05_Gaps.A noC Try.f28 [AV.v (Value.slice A0 n0 c0), AV.v (Value.int IntKind.i64 a1), AV.v (Value.int IntKind.i64 a2)] [] =
  .call 11 ([AV.v (Value.slice A0 n0 c0)]) ([]) (Sh.one) ([Lf.b]) ([]) (fun x0 =>
   bif x0.1 then (
    .call 23 ([AV.v (Value.int IntKind.i64 a1), AV.v (Value.int IntKind.i64 a2)]) ([]) (Sh.one) ([Lf.b]) ([]) (fun x1 =>
     bif x1.1 then (
      .call 36 ([AV.v (Value.slice A0 n0 c0), AV.v (Value.int IntKind.i64 a1), AV.v (Value.int IntKind.i64 a2)]) ([]) (Sh.one) ([Lf.sl]) ([]) (fun x2 =>
       .loop ([Lf.sl, Lf.i IntKind.i64, Lf.i IntKind.i64]) (((none, 0, 0), a1, 0, PUnit.unit)) 0 (fun x3 =>
        bif decide (x3.2.2.1 < ((x2.1.2.1 : Nat) : Int)) then (
         .need (decide (0 ≤ x3.2.2.1) && decide (x3.2.2.1 < ((x2.1.2.1 : Nat) : Int)) && Option.isSome x2.1.1) (
         .need (Option.isSome (Option.map (fun x => Addr.add x (Int.toNat x3.2.2.1 * 2)) x2.1.1)) (
         .ld (Option.map (fun x => Addr.add x 0) (Option.map (fun x => Addr.add x (Int.toNat x3.2.2.1 * 2)) x2.1.1)) ([Lf.i IntKind.i64]) (fun x4 =>
          bif decide (x3.2.1 < x4.1) then (
           .need (decide (0 ≤ x3.2.2.1) && decide (x3.2.2.1 < ((x2.1.2.1 : Nat) : Int)) && Option.isSome x2.1.1) (
           .need (Option.isSome (Option.map (fun x => Addr.add x (Int.toNat x3.2.2.1 * 2)) x2.1.1)) (
           .ld (Option.map (fun x => Addr.add x 0) (Option.map (fun x => Addr.add x (Int.toNat x3.2.2.1 * 2)) x2.1.1)) ([Lf.i IntKind.i64]) (fun x5 =>
            .sem (Instr.buildSlice 22 1 { toList := [(0, Value.agg { toList := [Value.int IntKind.i64 x3.2.1, Value.int IntKind.i64 (IntKind.wrap IntKind.i64 (x5.1 - 1))] })] }) ([Lf.sl]) (Sh.one) (fun x6 =>
             .sem (Builtin.append_ { toList := [22, 22] } 22 { toList := [Value.slice x3.1.1 x3.1.2.1 x3.1.2.2, Value.slice x6.1.1 x6.1.2.1 x6.1.2.2] }) ([Lf.sl]) (Sh.one) (fun x7 =>
              .need (decide (0 ≤ x3.2.2.1) && decide (x3.2.2.1 < ((x2.1.2.1 : Nat) : Int)) && Option.isSome x2.1.1) (
              .need (Option.isSome (Option.map (fun x => Addr.add x (Int.toNat x3.2.2.1 * 2)) x2.1.1)) (
              .ld (Option.map (fun x => Addr.add x 1) (Option.map (fun x => Addr.add x (Int.toNat x3.2.2.1 * 2)) x2.1.1)) ([Lf.i IntKind.i64]) (fun x8 =>
               .again 0 ([Lf.sl, Lf.i IntKind.i64, Lf.i IntKind.i64]) (((x7.1.1, x7.1.2.1, x7.1.2.2), IntKind.wrap IntKind.i64 (x8.1 + 1), IntKind.wrap IntKind.i64 (x3.2.2.1 + 1), PUnit.unit)))))))))))
          else (
           .need (decide (0 ≤ x3.2.2.1) && decide (x3.2.2.1 < ((x2.1.2.1 : Nat) : Int)) && Option.isSome x2.1.1) (
           .need (Option.isSome (Option.map (fun x => Addr.add x (Int.toNat x3.2.2.1 * 2)) x2.1.1)) (
           .ld (Option.map (fun x => Addr.add x 1) (Option.map (fun x => Addr.add x (Int.toNat x3.2.2.1 * 2)) x2.1.1)) ([Lf.i IntKind.i64]) (fun x5 =>
            .again 0 ([Lf.sl, Lf.i IntKind.i64, Lf.i IntKind.i64]) (((x3.1.1, x3.1.2.1, x3.1.2.2), IntKind.wrap IntKind.i64 (x5.1 + 1), IntKind.wrap IntKind.i64 (x3.2.2.1 + 1), PUnit.unit))))))))))
        else (
         bif decide (x3.2.1 ≤ a2) then (
          .sem (Instr.buildSlice 22 1 { toList := [(0, Value.agg { toList := [Value.int IntKind.i64 x3.2.1, Value.int IntKind.i64 a2] })] }) ([Lf.sl]) (Sh.one) (fun x4 =>
           .sem (Builtin.append_ { toList := [22, 22] } 22 { toList := [Value.slice x3.1.1 x3.1.2.1 x3.1.2.2, Value.slice x4.1.1 x4.1.2.1 x4.1.2.2] }) ([Lf.sl]) (Sh.one) (fun x5 =>
            .done (AV.tup [AV.v (Value.slice x5.1.1 x5.1.2.1 x5.1.2.2), AV.v (Value.int IntKind.i64 0)]) ([]))))
         else (
          .done (AV.tup [AV.v (Value.slice x3.1.1 x3.1.2.1 x3.1.2.2), AV.v (Value.int IntKind.i64 0)]) ([]))))))
     else (
      .done (AV.tup [AV.v (Value.slice none 0 0), AV.v (Value.int IntKind.i64 1)]) ([]))))
   else (
    .done (AV.tup [AV.v (Value.slice none 0 0), AV.v (Value.int IntKind.i64 1)]) ([]))) := by kernel_rfl
set_option maxHeartbeats 4000000 in
theorem ref05_Gaps.c (k : Nat) (A0 : Option Addr) (n0 c0 : Nat) (l0 : List (Int × Int)) (a1 : Int) (a2 : Int) (r : (List (Int × Int)) × Int) (h : ref05_Gaps.F k l0 a1 a2 = some r) (hn0 : n0 = l0.length) (w : World) (hS0 : SlR R22.row (fun _ => False) w A0 c0 l0) : Calls Try.prog 28 (AV.gs id [AV.v (Value.slice A0 n0 c0), AV.v (Value.int IntKind.i64 a1), AV.v (Value.int IntKind.i64 a2)]).toArray w fun e w' => ∃ (B0 : Option Addr) (d0 : Nat), e = .returned (((Sh.tup [(false, 1), (false, 1)] : Sh).av (vs [Lf.sl, Lf.i IntKind.i64] ((B0, (r.1).length, d0), r.2, ()))).g id) ∧ Below w.heap.size w w' ∧ OwnF w.heap.size (fun b => b < w.heap.size) w' 30 R22 B0 d0 r.1 := by
  subst hn0
  refine enter0 mixed ref05_Gaps.A noC [AV.v (Value.slice A0 l0.length c0), AV.v (Value.int IntKind.i64 a1), AV.v (Value.int IntKind.i64 a2)] Try.func28 rfl rfl rfl (fun hF => ?_)
  rw [ref05_Gaps.t]
  unfold ref05_Gaps.F at h
  try dsimp only at h
  obtain ⟨v0_0, hr0, h⟩ := Option.bind_eq_some_iff.1 h
  refine ok_callm rfl (fun L0 w0 g0 lt0 => ?_)
  refine (ref05_Right.c k _ _ _ l0 v0_0 hr0 rfl w0 (hS0.later (hF.trans g0)).bare).mono ?_
  rintro e w0' ⟨rfl, hb0⟩
  refine ⟨(v0_0, ()), rfl, hb0, fun g0' => ?_⟩
  try dsimp only
  have hF := hF.trans g0'
  refine ok_if (fun hc1 => ?_) (fun hc1 => ?_)
  · have h := bif_t h hc1
    obtain ⟨v1_0, hr1, h⟩ := Option.bind_eq_some_iff.1 h
    refine ok_callm rfl (fun L1 w1 g1 lt1 => ?_)
    refine (ref05_Span.c k a1 a2 v1_0 hr1  w1 ).mono ?_
    rintro e w1' ⟨rfl, hb1⟩
    refine ⟨(v1_0, ()), rfl, hb1, fun g1' => ?_⟩
    try dsimp only
    have hF := hF.trans g1'
    refine ok_if (fun hc2 => ?_) (fun hc2 => ?_)
    · have h := bif_t h hc2
      obtain ⟨s2_0, hr2, h⟩ := Option.bind_eq_some_iff.1 h
      refine ok_callm rfl (fun L2 w2 g2 lt2 => ?_)
      refine (ref05_clip.c k _ _ _ l0 a1 a2 s2_0 hr2 rfl w2 (hS0.later (hF.trans g2)).bare).mono ?_
      rintro e w2' ⟨A2_0, c2_0, rfl, hb2, hO2_0⟩
      refine ⟨((A2_0, s2_0.length, c2_0), ()), rfl, hb2, fun g2' => ?_⟩
      try dsimp only
      have hO2_0 := hO2_0.call (hF.trans g2).size lt2
      have hF := hF.trans g2'
      obtain ⟨I3, hI3⟩ : ∃ I : Nat → Tup [Lf.sl, Lf.i IntKind.i64, Lf.i IntKind.i64] → (Nat → Prop) → World → Prop, I = (fun m_ y L w' => ∃ (A3_0 : Option Addr) (c3_0 : Nat) (s3_0 : List (Int × Int)) (v3_1 : Int) (v3_2 : Int), y = ((A3_0, s3_0.length, c3_0), v3_1, v3_2, ()) ∧ iter (ref05_Gaps.s3 k a2 s2_0) m_ (s3_0, v3_1, v3_2) = some r ∧ Fine (fun _ => False) w L w' ∧ OwnF w.heap.size L w' 30 R22 A2_0 c2_0 s2_0 ∧ OwnF w.heap.size L w' 30 R22 A3_0 c3_0 s3_0 ∧ Dj A3_0 A2_0) := ⟨_, rfl⟩
      refine ok_loop I3 k (by rw [hI3]; exact ⟨none, 0, [], _, _, rfl, h, hF, hO2_0, OwnF.nil _ _ _ _ _, Dj.nil2⟩) ?_
      clear h
      intro m_ y L3 w3 hy
      rw [hI3] at hy
      obtain ⟨A3_0, c3_0, s3_0, v3_1, v3_2, rfl, h, hF, hO2_0, hO_s3_0, dj_s3_0_o3⟩ := hy
      obtain ⟨m3, o3, rfl, h, hl3, hr_3⟩ := iter_some h
      unfold ref05_Gaps.s3 at h
      try dsimp only at h
      try dsimp only
      refine ok_if (fun hc5 => ?_) (fun hc5 => ?_)
      · have h := bif_t h hc5
        obtain ⟨r6, hr7, h⟩ := Option.bind_eq_some_iff.1 h
        refine ok_need (getI_need hO2_0.sl hr7) ?_
        refine ok_need (getI_need2 hO2_0.sl hr7) ?_
        refine ok_getf 0 hO2_0.sl (Fine.refl _ _) hr7 (fun cs hcs => ⟨r6.1, by rw [hcs]; rfl, ?_⟩)
        try dsimp only
        refine ok_if (fun hc8 => ?_) (fun hc8 => ?_)
        · have h := bif_t h hc8
          obtain ⟨r9, hr10, h⟩ := Option.bind_eq_some_iff.1 h
          refine ok_need (getI_need hO2_0.sl hr10) ?_
          refine ok_need (getI_need2 hO2_0.sl hr10) ?_
          refine ok_getf 0 hO2_0.sl (Fine.refl _ _) hr10 (fun cs hcs => ⟨r9.1, by rw [hcs]; rfl, ?_⟩)
          try dsimp only
          refine ok_lit (R := R22) (base := w.heap.size) (xs := ([(v3_1, IntKind.wrap IntKind.i64 (r9.1 - 1))] : List (Int × Int))) #[Value.int IntKind.i64 v3_1, Value.int IntKind.i64 (IntKind.wrap IntKind.i64 (r9.1 - 1))] E22 rfl (by decide) (by decide) ⟨_, _, rfl, rfl, by kernel_rfl⟩ rfl hF.size (fun A6 c6 L6 w6 hO6 g6 hbl6 => ?_)
          try dsimp only
          have dj_o11_o3 : Dj A6 A2_0 := Dj.new hbl6 hO2_0.lt
          have dj_o11_s3_0 : Dj A6 A3_0 := Dj.new hbl6 hO_s3_0.lt
          have hF := hF.trans g6
          have hO2_0 := hO2_0.later g6
          have hO_s3_0 := hO_s3_0.later g6
          obtain ⟨hq12, h⟩ := bif_need h
          have hq12 := of_decide_eq_true hq12
          refine ok_app (R := R22) (base := w.heap.size) (xs := s3_0) (ys := ([(v3_1, IntKind.wrap IntKind.i64 (r9.1 - 1))] : List (Int × Int))) rfl rfl E22 hO_s3_0 hO6.sl (by decide) hq12 hF.size (fun A7 c7 L7 w7 hO7 g7 hid7 hbl7 => ?_)
          try dsimp only
          have dj_o13_o3 : Dj A7 A2_0 := Dj.grow dj_s3_0_o3 hbl7 hO2_0.lt
          have dj_o13_o11 : Dj A7 A6 := Dj.grow (Dj.symm dj_o11_s3_0) hbl7 hO6.lt
          have hO2_0 := hO2_0.other (Dj.symm dj_s3_0_o3) g7
          have hO6 := hO6.other dj_o11_s3_0 g7
          have hF := Fine.own hF g7 (fun b hb => Or.inr (Own.base hO_s3_0 hb)) hid7
          obtain ⟨r14, hr15, h⟩ := Option.bind_eq_some_iff.1 h
          refine ok_need (getI_need hO2_0.sl hr15) ?_
          refine ok_need (getI_need2 hO2_0.sl hr15) ?_
          refine ok_getf 1 hO2_0.sl (Fine.refl _ _) hr15 (fun cs hcs => ⟨r14.2, by rw [hcs]; rfl, ?_⟩)
          try dsimp only
          obtain rfl := Option.some.inj h
          have h := hl3 _ rfl
          exact ok_again (I := I3) m3 (Nat.lt_succ_self _) (fun L w' he => by rw [hI3]; exact ⟨A7, c7, (s3_0 ++ ([(v3_1, IntKind.wrap IntKind.i64 (r9.1 - 1))] : List (Int × Int))), _, _, rfl, h, hF.trans he.fine, hO2_0.later he.fine, hO7.later he.fine, dj_o13_o3⟩)
        · have h := bif_f h hc8
          obtain ⟨r16, hr17, h⟩ := Option.bind_eq_some_iff.1 h
          refine ok_need (getI_need hO2_0.sl hr17) ?_
          refine ok_need (getI_need2 hO2_0.sl hr17) ?_
          refine ok_getf 1 hO2_0.sl (Fine.refl _ _) hr17 (fun cs hcs => ⟨r16.2, by rw [hcs]; rfl, ?_⟩)
          try dsimp only
          obtain rfl := Option.some.inj h
          have h := hl3 _ rfl
          exact ok_again (I := I3) m3 (Nat.lt_succ_self _) (fun L w' he => by rw [hI3]; exact ⟨A3_0, c3_0, s3_0, _, _, rfl, h, hF.trans he.fine, hO2_0.later he.fine, hO_s3_0.later he.fine, dj_s3_0_o3⟩)
      · have h := bif_f h hc5
        refine ok_if (fun hc18 => ?_) (fun hc18 => ?_)
        · have h := bif_t h hc18
          refine ok_lit (R := R22) (base := w.heap.size) (xs := ([(v3_1, a2)] : List (Int × Int))) #[Value.int IntKind.i64 v3_1, Value.int IntKind.i64 a2] E22 rfl (by decide) (by decide) ⟨_, _, rfl, rfl, by kernel_rfl⟩ rfl hF.size (fun A4 c4 L4 w4 hO4 g4 hbl4 => ?_)
          try dsimp only
          have dj_o19_o3 : Dj A4 A2_0 := Dj.new hbl4 hO2_0.lt
          have dj_o19_s3_0 : Dj A4 A3_0 := Dj.new hbl4 hO_s3_0.lt
          have hF := hF.trans g4
          have hO2_0 := hO2_0.later g4
          have hO_s3_0 := hO_s3_0.later g4
          obtain ⟨hq20, h⟩ := bif_need h
          have hq20 := of_decide_eq_true hq20
          refine ok_app (R := R22) (base := w.heap.size) (xs := s3_0) (ys := ([(v3_1, a2)] : List (Int × Int))) rfl rfl E22 hO_s3_0 hO4.sl (by decide) hq20 hF.size (fun A5 c5 L5 w5 hO5 g5 hid5 hbl5 => ?_)
          try dsimp only
          have dj_o21_o3 : Dj A5 A2_0 := Dj.grow dj_s3_0_o3 hbl5 hO2_0.lt
          have dj_o21_o19 : Dj A5 A4 := Dj.grow (Dj.symm dj_o19_s3_0) hbl5 hO4.lt
          have hO2_0 := hO2_0.other (Dj.symm dj_s3_0_o3) g5
          have hO4 := hO4.other dj_o19_s3_0 g5
          have hF := Fine.own hF g5 (fun b hb => Or.inr (Own.base hO_s3_0 hb)) hid5
          obtain rfl := Option.some.inj h
          obtain rfl := hr_3 _ rfl
          intro ρ L w' _ he _ _
          exact ⟨A5, c5, rfl, (hF.ext he).below, (hO5.later he.fine).ret⟩
        · have h := bif_f h hc18
          obtain rfl := Option.some.inj h
          obtain rfl := hr_3 _ rfl
          intro ρ L w' _ he _ _
          exact ⟨A3_0, c3_0, rfl, (hF.ext he).below, (hO_s3_0.later he.fine).ret⟩
    · have h := bif_f h hc2
      obtain rfl := Option.some.inj h
      intro ρ L w' _ he _ _
      exact ⟨none, 0, rfl, (hF.ext he).below, OwnF.ret (OwnF.nil _ (fun _ => False) _ _ _)⟩
  · have h := bif_f h hc1
    obtain rfl := Option.some.inj h
    intro ρ L w' _ he _ _
    exact ⟨none, 0, rfl, (hF.ext he).below, OwnF.ret (OwnF.nil _ (fun _ => False) _ _ _)⟩
/-! ### turnbuckle/turnbuckleref05.Top: function 27 -/
def ref05_Top.s1 (k : Nat) (a1 : Int) (l0 : List (Int × Int)) : ((List (Int × Int)) × Int) → Option (Sum ((List (Int × Int)) × Int) ((List (Int × Int)) × Int)) := fun (s1_0, v1_1) => bif decide (v1_1 < ((l0.length : Nat) : Int)) then (bif decide (IntKind.wrap IntKind.i64 (((l0.length : Nat) : Int) - v1_1) ≤ a1) then ((getI l0 v1_1).bind fun r6 => bif decide ((s1_0.length + (([(r6.1, r6.2)] : List (Int × Int))).length) * 16 ≤ 140737488355328) then (some (.inl (((s1_0 ++ ([(r6.1, r6.2)] : List (Int × Int))), IntKind.wrap IntKind.i64 (v1_1 + 1))))) else none) else (some (.inl ((s1_0, IntKind.wrap IntKind.i64 (v1_1 + 1)))))) else (some (.inr ((s1_0, 0))))
def ref05_Top.F (k : Nat) (l0 : List (Int × Int)) (a1 : Int) : Option ((List (Int × Int)) × Int) := (ref05_Right.F k l0).bind fun v0_0 => bif v0_0 then (bif decide (a1 < 0) then (some (([], 1))) else (iter (ref05_Top.s1 k a1 l0) k ([], 0))) else (some (([], 1)))
abbrev ref05_Top.A : Nat → LA := fun r => if r = 5 then ⟨[(6, false, [Lf.sl]), (7, false, [Lf.i IntKind.i64])], []⟩ else ⟨[], []⟩
set_option maxHeartbeats 4000000 in
theorem ref05_Top.t (A0 : Option Addr) (n0 c0 : Nat) (a1 : Int) : tree Try.prog ref05_Top.A noC Try.f27 [AV.v (Value.slice A0 n0 c0), AV.v (Value.int IntKind.i64 a1)] [] =
  .call 11 ([AV.v (Value.slice A0 n0 c0)]) ([]) (Sh.one) ([Lf.b]) ([]) (fun x0 =>
   bif x0.1 then (
    bif decide (a1 < 0) then (
     .done (AV.tup [AV.v (Value.slice none 0 0), AV.v (Value.int IntKind.i64 1)]) ([]))
    else (
     .loop ([Lf.sl, Lf.i IntKind.i64]) (((none, 0, 0), 0, PUnit.unit)) 0 (fun x1 =>
      bif decide (x1.2.1 < ((n0 : Nat) : Int)) then (
       bif decide (IntKind.wrap IntKind.i64 (((n0 : Nat) : Int) - x1.2.1) ≤ a1) then (
        .need (decide (0 ≤ x1.2.1) && decide (x1.2.1 < ((n0 : Nat) : Int)) && Option.isSome A0) (
        .ld (Option.map (fun x => Addr.add x (Int.toNat x1.2.1 * 2)) A0) ([Lf.i IntKind.i64, Lf.i IntKind.i64]) (fun x2 =>
         .sem (Instr.buildSlice 22 1 { toList := [(0, Value.agg { toList := [Value.int IntKind.i64 x2.1, Value.int IntKind.i64 x2.2.1] })] }) ([Lf.sl]) (Sh.one) (fun x3 =>
          .sem (Builtin.append_ { toList := [22, 22] } 22 { toList := [Value.slice x1.1.1 x1.1.2.1 x1.1.2.2, Value.slice x3.1.1 x3.1.2.1 x3.1.2.2] }) ([Lf.sl]) (Sh.one) (fun x4 =>
           .again 0 ([Lf.sl, Lf.i IntKind.i64]) (((x4.1.1, x4.1.2.1, x4.1.2.2), IntKind.wrap IntKind.i64 (x1.2.1 + 1), PUnit.unit)))))))
       else (
        .again 0 ([Lf.sl, Lf.i IntKind.i64]) (((x1.1.1, x1.1.2.1, x1.1.2.2), IntKind.wrap IntKind.i64 (x1.2.1 + 1), PUnit.unit))))
      else (
       .done (AV.tup [AV.v (Value.slice x1.1.1 x1.1.2.1 x1.1.2.2), AV.v (Value.int IntKind.i64 0)]) ([])))))
   else (
    .done (AV.tup [AV.v (Value.slice none 0 0), AV.v (Value.int IntKind.i64 1)]) ([]))) := by kernel_rfl
set_option maxHeartbeats 4000000 in
theorem ref05_Top.c (k : Nat) (A0 : Option Addr) (n0 c0 : Nat) (l0 : List (Int × Int)) (a1 : Int) (r : (List (Int × Int)) × Int) (h : ref05_Top.F k l0 a1 = some r) (hn0 : n0 = l0.length) (w : World) (hS0 : SlR R22.row (fun _ => False) w A0 c0 l0) : Calls Try.prog 27 (AV.gs id [AV.v (Value.slice A0 n0 c0), AV.v (Value.int IntKind.i64 a1)]).toArray w fun e w' => ∃ (B0 : Option Addr) (d0 : Nat), e = .returned (((Sh.tup [(false, 1), (false, 1)] : Sh).av (vs [Lf.sl, Lf.i IntKind.i64] ((B0, (r.1).length, d0), r.2, ()))).g id) ∧ Below w.heap.size w w' ∧ OwnF w.heap.size (fun b => b < w.heap.size) w' 30 R22 B0 d0 r.1 := by
  subst hn0
  refine enter0 mixed ref05_Top.A noC [AV.v (Value.slice A0 l0.length c0), AV.v (Value.int IntKind.i64 a1)] Try.func27 rfl rfl rfl (fun hF => ?_)
  rw [ref05_Top.t]
  unfold ref05_Top.F at h
  try dsimp only at h
  obtain ⟨v0_0, hr0, h⟩ := Option.bind_eq_some_iff.1 h
  refine ok_callm rfl (fun L0 w0 g0 lt0 => ?_)
  refine (ref05_Right.c k _ _ _ l0 v0_0 hr0 rfl w0 (hS0.later (hF.trans g0)).bare).mono ?_
  rintro e w0' ⟨rfl, hb0⟩
  refine ⟨(v0_0, ()), rfl, hb0, fun g0' => ?_⟩
  try dsimp only
  have hF := hF.trans g0'
  refine ok_if (fun hc1 => ?_) (fun hc1 => ?_)
  · have h := bif_t h hc1
    refine ok_if (fun hc2 => ?_) (fun hc2 => ?_)
    · have h := bif_t h hc2
      obtain rfl := Option.some.inj h
      intro ρ L w' _ he _ _
      exact ⟨none, 0, rfl, (hF.ext he).below, OwnF.ret (OwnF.nil _ (fun _ => False) _ _ _)⟩
    · have h := bif_f h hc2
      obtain ⟨I1, hI1⟩ : ∃ I : Nat → Tup [Lf.sl, Lf.i IntKind.i64] → (Nat → Prop) → World → Prop, I = (fun m_ y L w' => ∃ (A1_0 : Option Addr) (c1_0 : Nat) (s1_0 : List (Int × Int)) (v1_1 : Int), y = ((A1_0, s1_0.length, c1_0), v1_1, ()) ∧ iter (ref05_Top.s1 k a1 l0) m_ (s1_0, v1_1) = some r ∧ Fine (fun _ => False) w L w' ∧ OwnF w.heap.size L w' 30 R22 A1_0 c1_0 s1_0) := ⟨_, rfl⟩
      refine ok_loop I1 k (by rw [hI1]; exact ⟨none, 0, [], _, rfl, h, hF, OwnF.nil _ _ _ _ _⟩) ?_
      clear h
      intro m_ y L1 w1 hy
      rw [hI1] at hy
      obtain ⟨A1_0, c1_0, s1_0, v1_1, rfl, h, hF, hO_s1_0⟩ := hy
      obtain ⟨m1, o1, rfl, h, hl1, hr_1⟩ := iter_some h
      unfold ref05_Top.s1 at h
      try dsimp only at h
      try dsimp only
      refine ok_if (fun hc4 => ?_) (fun hc4 => ?_)
      · have h := bif_t h hc4
        refine ok_if (fun hc5 => ?_) (fun hc5 => ?_)
        · have h := bif_t h hc5
          obtain ⟨r6, hr7, h⟩ := Option.bind_eq_some_iff.1 h
          refine ok_need (getI_need (hS0.later hF) hr7) ?_
          refine ok_get hS0 hF hr7 (by simp) (fun cs hcs => ⟨(r6.1, r6.2, ()), hcs.symm, ?_⟩)
          try dsimp only
          refine ok_lit (R := R22) (base := w.heap.size) (xs := ([(r6.1, r6.2)] : List (Int × Int))) #[Value.int IntKind.i64 r6.1, Value.int IntKind.i64 r6.2] E22 rfl (by decide) (by decide) ⟨_, _, rfl, rfl, by kernel_rfl⟩ rfl hF.size (fun A3 c3 L3 w3 hO3 g3 hbl3 => ?_)
          try dsimp only
          have dj_o8_s1_0 : Dj A3 A1_0 := Dj.new hbl3 hO_s1_0.lt
          have hF := hF.trans g3
          have hO_s1_0 := hO_s1_0.later g3
          obtain ⟨hq9, h⟩ := bif_need h
          have hq9 := of_decide_eq_true hq9
          refine ok_app (R := R22) (base := w.heap.size) (xs := s1_0) (ys := ([(r6.1, r6.2)] : List (Int × Int))) rfl rfl E22 hO_s1_0 hO3.sl (by decide) hq9 hF.size (fun A4 c4 L4 w4 hO4 g4 hid4 hbl4 => ?_)
          try dsimp only
          have dj_o10_o8 : Dj A4 A3 := Dj.grow (Dj.symm dj_o8_s1_0) hbl4 hO3.lt
          have hO3 := hO3.other dj_o8_s1_0 g4
          have hF := Fine.own hF g4 (fun b hb => Or.inr (Own.base hO_s1_0 hb)) hid4
          obtain rfl := Option.some.inj h
          have h := hl1 _ rfl
          exact ok_again (I := I1) m1 (Nat.lt_succ_self _) (fun L w' he => by rw [hI1]; exact ⟨A4, c4, (s1_0 ++ ([(r6.1, r6.2)] : List (Int × Int))), _, rfl, h, hF.trans he.fine, hO4.later he.fine⟩)
        · have h := bif_f h hc5
          obtain rfl := Option.some.inj h
          have h := hl1 _ rfl
          exact ok_again (I := I1) m1 (Nat.lt_succ_self _) (fun L w' he => by rw [hI1]; exact ⟨A1_0, c1_0, s1_0, _, rfl, h, hF.trans he.fine, hO_s1_0.later he.fine⟩)
      · have h := bif_f h hc4
        obtain rfl := Option.some.inj h
        obtain rfl := hr_1 _ rfl
        intro ρ L w' _ he _ _
        exact ⟨A1_0, c1_0, rfl, (hF.ext he).below, (hO_s1_0.later he.fine).ret⟩
  · have h := bif_f h hc1
    obtain rfl := Option.some.inj h
    intro ρ L w' _ he _ _
    exact ⟨none, 0, rfl, (hF.ext he).below, OwnF.ret (OwnF.nil _ (fun _ => False) _ _ _)⟩
/-! ### turnbuckle/turnbuckleref05.Same: function 18 -/
def ref05_Same.s0 (k : Nat) (l0 : List (Int × Int)) (l1 : List (Int × Int)) : Int → Option (Sum Int Bool) := fun v0_0 => bif decide (v0_0 < ((l0.length : Nat) : Int)) then ((getI l0 v0_0).bind fun r4 => (getI l1 v0_0).bind fun r6 => bif !(r4.1 == r6.1 && (r4.2 == r6.2 && true)) then (some (.inr false)) else (some (.inl (IntKind.wrap IntKind.i64 (v0_0 + 1))))) else (some (.inr true))
def ref05_Same.F (k : Nat) (l0 : List (Int × Int)) (l1 : List (Int × Int)) : Option Bool := bif ((l0.length : Nat) : Int) != ((l1.length : Nat) : Int) then (some false) else (iter (ref05_Same.s0 k l0 l1) k 0)
abbrev ref05_Same.A : Nat → LA := fun r => if r = 4 then ⟨[(5, false, [Lf.i IntKind.i64])], []⟩ else ⟨[], []⟩
set_option maxHeartbeats 4000000 in
theorem ref05_Same.t (A0 : Option Addr) (n0 c0 : Nat) (A1 : Option Addr) (n1 c1 : Nat) : tree Try.prog ref05_Same.A noC Try.f18 [AV.v (Value.slice A0 n0 c0), AV.v (Value.slice A1 n1 c1)] [] =
  bif ((n0 : Nat) : Int) != ((n1 : Nat) : Int) then (
   .done (AV.v (Value.bool false)) ([]))
  else (
   .loop ([Lf.i IntKind.i64]) ((0, PUnit.unit)) 0 (fun x0 =>
    bif decide (x0.1 < ((n0 : Nat) : Int)) then (
     .need (decide (0 ≤ x0.1) && decide (x0.1 < ((n0 : Nat) : Int)) && Option.isSome A0) (
     .ld (Option.map (fun x => Addr.add x (Int.toNat x0.1 * 2)) A0) ([Lf.i IntKind.i64, Lf.i IntKind.i64]) (fun x1 =>
      .need (decide (0 ≤ x0.1) && decide (x0.1 < ((n1 : Nat) : Int)) && Option.isSome A1) (
      .ld (Option.map (fun x => Addr.add x (Int.toNat x0.1 * 2)) A1) ([Lf.i IntKind.i64, Lf.i IntKind.i64]) (fun x2 =>
       bif !(x1.1 == x2.1 && (x1.2.1 == x2.2.1 && true)) then (
        .done (AV.v (Value.bool false)) ([]))
       else (
        .again 0 ([Lf.i IntKind.i64]) ((IntKind.wrap IntKind.i64 (x0.1 + 1), PUnit.unit))))))))
    else (
     .done (AV.v (Value.bool true)) ([])))) := by kernel_rfl
set_option maxHeartbeats 4000000 in
theorem ref05_Same.c (k : Nat) (A0 : Option Addr) (n0 c0 : Nat) (l0 : List (Int × Int)) (A1 : Option Addr) (n1 c1 : Nat) (l1 : List (Int × Int)) (r : Bool) (h : ref05_Same.F k l0 l1 = some r) (hn0 : n0 = l0.length) (hn1 : n1 = l1.length) (w : World) (hS0 : SlR R22.row (fun _ => False) w A0 c0 l0) (hS1 : SlR R22.row (fun _ => False) w A1 c1 l1) : Calls Try.prog 18 (AV.gs id [AV.v (Value.slice A0 n0 c0), AV.v (Value.slice A1 n1 c1)]).toArray w fun e w' => e = .returned (((Sh.one : Sh).av (vs [Lf.b] (r, ()))).g id) ∧ Below w.heap.size w w' := by
  subst hn0
  subst hn1
  refine enter0 mixed ref05_Same.A noC [AV.v (Value.slice A0 l0.length c0), AV.v (Value.slice A1 l1.length c1)] Try.func18 rfl rfl rfl (fun hF => ?_)
  rw [ref05_Same.t]
  unfold ref05_Same.F at h
  try dsimp only at h
  refine ok_if (fun hc1 => ?_) (fun hc1 => ?_)
  · have h := bif_t h hc1
    obtain rfl := Option.some.inj h
    intro ρ L w' _ he _ _
    exact ⟨rfl, (hF.ext he).below⟩
  · have h := bif_f h hc1
    obtain ⟨I0, hI0⟩ : ∃ I : Nat → Tup [Lf.i IntKind.i64] → (Nat → Prop) → World → Prop, I = (fun m_ y L w' => ∃ (v0_0 : Int), y = (v0_0, ()) ∧ iter (ref05_Same.s0 k l0 l1) m_ v0_0 = some r ∧ Fine (fun _ => False) w L w') := ⟨_, rfl⟩
    refine ok_loop I0 k (by rw [hI0]; exact ⟨_, rfl, h, hF⟩) ?_
    clear h
    intro m_ y L0 w0 hy
    rw [hI0] at hy
    obtain ⟨v0_0, rfl, h, hF⟩ := hy
    obtain ⟨m0, o0, rfl, h, hl0, hr_0⟩ := iter_some h
    unfold ref05_Same.s0 at h
    try dsimp only at h
    try dsimp only
    refine ok_if (fun hc3 => ?_) (fun hc3 => ?_)
    · have h := bif_t h hc3
      obtain ⟨r4, hr5, h⟩ := Option.bind_eq_some_iff.1 h
      refine ok_need (getI_need (hS0.later hF) hr5) ?_
      refine ok_get hS0 hF hr5 (by simp) (fun cs hcs => ⟨(r4.1, r4.2, ()), hcs.symm, ?_⟩)
      try dsimp only
      obtain ⟨r6, hr7, h⟩ := Option.bind_eq_some_iff.1 h
      refine ok_need (getI_need (hS1.later hF) hr7) ?_
      refine ok_get hS1 hF hr7 (by simp) (fun cs hcs => ⟨(r6.1, r6.2, ()), hcs.symm, ?_⟩)
      try dsimp only
      refine ok_if (fun hc8 => ?_) (fun hc8 => ?_)
      · have h := bif_t h hc8
        obtain rfl := Option.some.inj h
        obtain rfl := hr_0 _ rfl
        intro ρ L w' _ he _ _
        exact ⟨rfl, (hF.ext he).below⟩
      · have h := bif_f h hc8
        obtain rfl := Option.some.inj h
        have h := hl0 _ rfl
        exact ok_again (I := I0) m0 (Nat.lt_succ_self _) (fun L w' he => by rw [hI0]; exact ⟨_, rfl, h, hF.trans he.fine⟩)
    · have h := bif_f h hc3
      obtain rfl := Option.some.inj h
      obtain rfl := hr_0 _ rfl
      intro ρ L w' _ he _ _
      exact ⟨rfl, (hF.ext he).below⟩
end Go.Proofs.Ytnfaneojdfjepaa.X
