/- Functions: their trees, functions over lists that answer as they do, and that they do. -/
import Derived.Test.YtnfaneojdfjepaaRxU
import Derived.Test.YtnfaneojdfjepaaRxSeat
import Derived.Test.YtnfaneojdfjepaaProg
import Derived.Test.YtnfaneojdfjepaaGb
namespace Go.Proofs.Ytnfaneojdfjepaa.X
open Go Go.RowKit Go.Proofs.YtnfaneojdfjepaaW.Rx
set_option linter.unusedVariables false
set_option linter.unusedSimpArgs false
set_option maxRecDepth 10000
/-! ### turnbuckle/turnbucklelaw05.alive: function 16 -/
def law05_alive.F (k : Nat)  : Option Bool := (spans_Add.F k (([(1, 3), (7, 9)] : List (Int × Int))) 4 6).bind fun (s1_0, v1_1) => bif v1_1 == 0 then ((ref05_Same.F k s1_0 (([(1, 9)] : List (Int × Int)))).bind fun v3_0 => bif v3_0 then ((spans_Right.F k (([(1, 3), (7, 9)] : List (Int × Int)))).bind fun v4_0 => bif v4_0 then ((spans_Count.F k (([(1, 3), (7, 9)] : List (Int × Int)))).bind fun v5_0 => bif v5_0 == 6 then ((spans_Has.F k (([(1, 3), (7, 9)] : List (Int × Int))) 8).bind fun v6_0 => bif v6_0 then (some true) else (some false)) else (some false)) else (some false)) else (some false)) else (some false)
abbrev law05_alive.A : Nat → LA := noA
set_option maxHeartbeats 4000000 in
theorem law05_alive.t  : tree Try.prog law05_alive.A noC Try.f16 [] [] =
  .sem (Instr.buildSlice 22 2 { toList := [(0, Value.agg { toList := [Value.int IntKind.i64 1, Value.int IntKind.i64 3] }), (1, Value.agg { toList := [Value.int IntKind.i64 7, Value.int IntKind.i64 9] })] }) ([Lf.sl]) (Sh.one) (fun x0 =>
   .call 17 ([AV.v (Value.slice x0.1.1 x0.1.2.1 x0.1.2.2), AV.v (Value.int IntKind.i64 4), AV.v (Value.int IntKind.i64 6)]) ([]) (Sh.tup [(false, 1), (false, 1)]) ([Lf.sl, Lf.i IntKind.i64]) ([]) (fun x1 =>
    bif x1.2.1 == 0 then (
     .sem (Instr.buildSlice 22 1 { toList := [(0, Value.agg { toList := [Value.int IntKind.i64 1, Value.int IntKind.i64 9] })] }) ([Lf.sl]) (Sh.one) (fun x2 =>
      .call 18 ([AV.v (Value.slice x1.1.1 x1.1.2.1 x1.1.2.2), AV.v (Value.slice x2.1.1 x2.1.2.1 x2.1.2.2)]) ([]) (Sh.one) ([Lf.b]) ([]) (fun x3 =>
       bif x3.1 then (
        .call 10 ([AV.v (Value.slice x0.1.1 x0.1.2.1 x0.1.2.2)]) ([]) (Sh.one) ([Lf.b]) ([]) (fun x4 =>
         bif x4.1 then (
          .call 14 ([AV.v (Value.slice x0.1.1 x0.1.2.1 x0.1.2.2)]) ([]) (Sh.one) ([Lf.i IntKind.i64]) ([]) (fun x5 =>
           bif x5.1 == 6 then (
            .call 12 ([AV.v (Value.slice x0.1.1 x0.1.2.1 x0.1.2.2), AV.v (Value.int IntKind.i64 8)]) ([]) (Sh.one) ([Lf.b]) ([]) (fun x6 =>
             bif x6.1 then (
              .done (AV.v (Value.bool true)) ([]))
             else (
              .done (AV.v (Value.bool false)) ([]))))
           else (
            .done (AV.v (Value.bool false)) ([]))))
         else (
          .done (AV.v (Value.bool false)) ([]))))
       else (
        .done (AV.v (Value.bool false)) ([])))))
    else (
     .done (AV.v (Value.bool false)) ([])))) := by kernel_rfl
set_option maxHeartbeats 4000000 in
theorem law05_alive.c (k : Nat)  (r : Bool) (h : law05_alive.F k  = some r)  (w : World)  : Calls Try.prog 16 (AV.gs id []).toArray w fun e w' => e = .returned (((Sh.one : Sh).av (vs [Lf.b] (r, ()))).g id) ∧ Below w.heap.size w w' := by
  refine enter0 mixed law05_alive.A noC [] Try.func16 rfl rfl rfl (fun hF => ?_)
  rw [law05_alive.t]
  unfold law05_alive.F at h
  try dsimp only at h
  refine ok_lit (R := R22) (base := w.heap.size) (xs := ([(1, 3), (7, 9)] : List (Int × Int))) #[Value.int IntKind.i64 1, Value.int IntKind.i64 3, Value.int IntKind.i64 7, Value.int IntKind.i64 9] E22 rfl (by decide) (by decide) ⟨_, _, rfl, rfl, by kernel_rfl⟩ rfl hF.size (fun A0 c0 L0 w0 hO0 g0 hbl0 => ?_)
  try dsimp only
  have hF := hF.trans g0
  obtain ⟨r1, hr1, h⟩ := Option.bind_eq_some_iff.1 h
  obtain ⟨s1_0, v1_1⟩ := r1
  try dsimp only at h
  refine ok_callm rfl (fun L1 w1 g1 lt1 => ?_)
  refine (spans_Add.c k _ _ _ (([(1, 3), (7, 9)] : List (Int × Int))) 4 6 (s1_0, v1_1) hr1 rfl w1 (hO0.later g1).sl.bare).mono ?_
  rintro e w1' ⟨A1_0, c1_0, rfl, hb1, hO1_0⟩
  refine ⟨((A1_0, s1_0.length, c1_0), v1_1, ()), rfl, hb1, fun g1' => ?_⟩
  try dsimp only
  have dj_o2_o1 : Dj A1_0 A0 := Dj.new hO1_0.fresh (hO0.later g1).lt
  have hO1_0 := hO1_0.call (hF.trans g1).size lt1
  have hF := hF.trans g1'
  have hO0 := hO0.later g1'
  refine ok_if (fun hc3 => ?_) (fun hc3 => ?_)
  · have h := bif_t h hc3
    refine ok_lit (R := R22) (base := w.heap.size) (xs := ([(1, 9)] : List (Int × Int))) #[Value.int IntKind.i64 1, Value.int IntKind.i64 9] E22 rfl (by decide) (by decide) ⟨_, _, rfl, rfl, by kernel_rfl⟩ rfl hF.size (fun A2 c2 L2 w2 hO2 g2 hbl2 => ?_)
    try dsimp only
    have dj_o4_o1 : Dj A2 A0 := Dj.new hbl2 hO0.lt
    have dj_o4_o2 : Dj A2 A1_0 := Dj.new hbl2 hO1_0.lt
    have hF := hF.trans g2
    have hO0 := hO0.later g2
    have hO1_0 := hO1_0.later g2
    obtain ⟨v3_0, hr3, h⟩ := Option.bind_eq_some_iff.1 h
    refine ok_callm rfl (fun L3 w3 g3 lt3 => ?_)
    refine (ref05_Same.c k _ _ _ s1_0 _ _ _ (([(1, 9)] : List (Int × Int))) v3_0 hr3 rfl rfl w3 (hO1_0.later g3).sl.bare (hO2.later g3).sl.bare).mono ?_
    rintro e w3' ⟨rfl, hb3⟩
    refine ⟨(v3_0, ()), rfl, hb3, fun g3' => ?_⟩
    try dsimp only
    have hF := hF.trans g3'
    have hO0 := hO0.later g3'
    have hO1_0 := hO1_0.later g3'
    have hO2 := hO2.later g3'
    refine ok_if (fun hc5 => ?_) (fun hc5 => ?_)
    · have h := bif_t h hc5
      obtain ⟨v4_0, hr4, h⟩ := Option.bind_eq_some_iff.1 h
      refine ok_callm rfl (fun L4 w4 g4 lt4 => ?_)
      refine (spans_Right.c k _ _ _ (([(1, 3), (7, 9)] : List (Int × Int))) v4_0 hr4 rfl w4 (hO0.later g4).sl.bare).mono ?_
      rintro e w4' ⟨rfl, hb4⟩
      refine ⟨(v4_0, ()), rfl, hb4, fun g4' => ?_⟩
      try dsimp only
      have hF := hF.trans g4'
      have hO0 := hO0.later g4'
      have hO1_0 := hO1_0.later g4'
      have hO2 := hO2.later g4'
      refine ok_if (fun hc6 => ?_) (fun hc6 => ?_)
      · have h := bif_t h hc6
        obtain ⟨v5_0, hr5, h⟩ := Option.bind_eq_some_iff.1 h
        refine ok_callm rfl (fun L5 w5 g5 lt5 => ?_)
        refine (spans_Count.c k _ _ _ (([(1, 3), (7, 9)] : List (Int × Int))) v5_0 hr5 rfl w5 (hO0.later g5).sl.bare).mono ?_
        rintro e w5' ⟨rfl, hb5⟩
        refine ⟨(v5_0, ()), rfl, hb5, fun g5' => ?_⟩
        try dsimp only
        have hF := hF.trans g5'
        have hO0 := hO0.later g5'
        have hO1_0 := hO1_0.later g5'
        have hO2 := hO2.later g5'
        refine ok_if (fun hc7 => ?_) (fun hc7 => ?_)
        · have h := bif_t h hc7
          obtain ⟨v6_0, hr6, h⟩ := Option.bind_eq_some_iff.1 h
          refine ok_callm rfl (fun L6 w6 g6 lt6 => ?_)
          refine (spans_Has.c k _ _ _ (([(1, 3), (7, 9)] : List (Int × Int))) 8 v6_0 hr6 rfl w6 (hO0.later g6).sl.bare).mono ?_
          rintro e w6' ⟨rfl, hb6⟩
          refine ⟨(v6_0, ()), rfl, hb6, fun g6' => ?_⟩
          try dsimp only
          have hF := hF.trans g6'
          have hO0 := hO0.later g6'
          have hO1_0 := hO1_0.later g6'
          have hO2 := hO2.later g6'
          refine ok_if (fun hc8 => ?_) (fun hc8 => ?_)
          · have h := bif_t h hc8
            obtain rfl := Option.some.inj h
            intro ρ L w' _ he _ _
            exact ⟨rfl, (hF.ext he).below⟩
          · have h := bif_f h hc8
            obtain rfl := Option.some.inj h
            intro ρ L w' _ he _ _
            exact ⟨rfl, (hF.ext he).below⟩
        · have h := bif_f h hc7
          obtain rfl := Option.some.inj h
          intro ρ L w' _ he _ _
          exact ⟨rfl, (hF.ext he).below⟩
      · have h := bif_f h hc6
        obtain rfl := Option.some.inj h
        intro ρ L w' _ he _ _
        exact ⟨rfl, (hF.ext he).below⟩
    · have h := bif_f h hc5
      obtain rfl := Option.some.inj h
      intro ρ L w' _ he _ _
      exact ⟨rfl, (hF.ext he).below⟩
  · have h := bif_f h hc3
    obtain rfl := Option.some.inj h
    intro ρ L w' _ he _ _
    exact ⟨rfl, (hF.ext he).below⟩
/-! ### turnbuckle/turnbucklelaw05.disjoint: function 24 -/
def law05_disjoint.s0 (k : Nat) (l0 : List (Int × Int)) (l1 : List (Int × Int)) : Int → Option (Sum Int Bool) := fun v0_0 => bif decide (v0_0 < ((l0.length : Nat) : Int)) then ((getI l0 v0_0).bind fun r3 => (ref05_Has.F k l1 r3.1).bind fun v2_0 => bif v2_0 then (some (.inr false)) else ((ref05_Has.F k l1 r3.2).bind fun v3_0 => bif v3_0 then (some (.inr false)) else (some (.inl (IntKind.wrap IntKind.i64 (v0_0 + 1)))))) else (some (.inr true))
def law05_disjoint.F (k : Nat) (l0 : List (Int × Int)) (l1 : List (Int × Int)) : Option Bool := iter (law05_disjoint.s0 k l0 l1) k 0
abbrev law05_disjoint.A : Nat → LA := fun r => if r = 2 then ⟨[(9, false, [Lf.i IntKind.i64])], []⟩ else ⟨[], []⟩
set_option maxHeartbeats 4000000 in
theorem law05_disjoint.t (A0 : Option Addr) (n0 c0 : Nat) (A1 : Option Addr) (n1 c1 : Nat) : tree Try.prog law05_disjoint.A noC Try.f24 [AV.v (Value.slice A0 n0 c0), AV.v (Value.slice A1 n1 c1)] [] =
  .loop ([Lf.i IntKind.i64]) ((0, PUnit.unit)) 0 (fun x0 =>
   bif decide (x0.1 < ((n0 : Nat) : Int)) then (
    .need (decide (0 ≤ x0.1) && decide (x0.1 < ((n0 : Nat) : Int)) && Option.isSome A0) (
    .ld (Option.map (fun x => Addr.add x (Int.toNat x0.1 * 2)) A0) ([Lf.i IntKind.i64, Lf.i IntKind.i64]) (fun x1 =>
     .call 13 ([AV.v (Value.slice A1 n1 c1), AV.v (Value.int IntKind.i64 x1.1)]) ([]) (Sh.one) ([Lf.b]) ([]) (fun x2 =>
      bif x2.1 then (
       .done (AV.v (Value.bool false)) ([]))
      else (
       .call 13 ([AV.v (Value.slice A1 n1 c1), AV.v (Value.int IntKind.i64 x1.2.1)]) ([]) (Sh.one) ([Lf.b]) ([]) (fun x3 =>
        bif x3.1 then (
         .done (AV.v (Value.bool false)) ([]))
        else (
         .again 0 ([Lf.i IntKind.i64]) ((IntKind.wrap IntKind.i64 (x0.1 + 1), PUnit.unit)))))))))
   else (
    .done (AV.v (Value.bool true)) ([]))) := by kernel_rfl
set_option maxHeartbeats 4000000 in
theorem law05_disjoint.c (k : Nat) (A0 : Option Addr) (n0 c0 : Nat) (l0 : List (Int × Int)) (A1 : Option Addr) (n1 c1 : Nat) (l1 : List (Int × Int)) (r : Bool) (h : law05_disjoint.F k l0 l1 = some r) (hn0 : n0 = l0.length) (hn1 : n1 = l1.length) (w : World) (hS0 : SlR R22.row (fun _ => False) w A0 c0 l0) (hS1 : SlR R22.row (fun _ => False) w A1 c1 l1) : Calls Try.prog 24 (AV.gs id [AV.v (Value.slice A0 n0 c0), AV.v (Value.slice A1 n1 c1)]).toArray w fun e w' => e = .returned (((Sh.one : Sh).av (vs [Lf.b] (r, ()))).g id) ∧ Below w.heap.size w w' := by
  subst hn0
  subst hn1
  refine enter0 mixed law05_disjoint.A noC [AV.v (Value.slice A0 l0.length c0), AV.v (Value.slice A1 l1.length c1)] Try.func24 rfl rfl rfl (fun hF => ?_)
  rw [law05_disjoint.t]
  unfold law05_disjoint.F at h
  try dsimp only at h
  obtain ⟨I0, hI0⟩ : ∃ I : Nat → Tup [Lf.i IntKind.i64] → (Nat → Prop) → World → Prop, I = (fun m_ y L w' => ∃ (v0_0 : Int), y = (v0_0, ()) ∧ iter (law05_disjoint.s0 k l0 l1) m_ v0_0 = some r ∧ Fine (fun _ => False) w L w') := ⟨_, rfl⟩
  refine ok_loop I0 k (by rw [hI0]; exact ⟨_, rfl, h, hF⟩) ?_
  clear h
  intro m_ y L0 w0 hy
  rw [hI0] at hy
  obtain ⟨v0_0, rfl, h, hF⟩ := hy
  obtain ⟨m0, o0, rfl, h, hl0, hr_0⟩ := iter_some h
  unfold law05_disjoint.s0 at h
  try dsimp only at h
  try dsimp only
  refine ok_if (fun hc2 => ?_) (fun hc2 => ?_)
  · have h := bif_t h hc2
    obtain ⟨r3, hr4, h⟩ := Option.bind_eq_some_iff.1 h
    refine ok_need (getI_need (hS0.later hF) hr4) ?_
    refine ok_get hS0 hF hr4 (by simp) (fun cs hcs => ⟨(r3.1, r3.2, ()), hcs.symm, ?_⟩)
    try dsimp only
    obtain ⟨v2_0, hr2, h⟩ := Option.bind_eq_some_iff.1 h
    refine ok_callm rfl (fun L2 w2 g2 lt2 => ?_)
    refine (ref05_Has.c k _ _ _ l1 r3.1 v2_0 hr2 rfl w2 (hS1.later (hF.trans g2)).bare).mono ?_
    rintro e w2' ⟨rfl, hb2⟩
    refine ⟨(v2_0, ()), rfl, hb2, fun g2' => ?_⟩
    try dsimp only
    have hF := hF.trans g2'
    refine ok_if (fun hc5 => ?_) (fun hc5 => ?_)
    · have h := bif_t h hc5
      obtain rfl := Option.some.inj h
      obtain rfl := hr_0 _ rfl
      intro ρ L w' _ he _ _
      exact ⟨rfl, (hF.ext he).below⟩
    · have h := bif_f h hc5
      obtain ⟨v3_0, hr3, h⟩ := Option.bind_eq_some_iff.1 h
      refine ok_callm rfl (fun L3 w3 g3 lt3 => ?_)
      refine (ref05_Has.c k _ _ _ l1 r3.2 v3_0 hr3 rfl w3 (hS1.later (hF.trans g3)).bare).mono ?_
      rintro e w3' ⟨rfl, hb3⟩
      refine ⟨(v3_0, ()), rfl, hb3, fun g3' => ?_⟩
      try dsimp only
      have hF := hF.trans g3'
      refine ok_if (fun hc6 => ?_) (fun hc6 => ?_)
      · have h := bif_t h hc6
        obtain rfl := Option.some.inj h
        obtain rfl := hr_0 _ rfl
        intro ρ L w' _ he _ _
        exact ⟨rfl, (hF.ext he).below⟩
      · have h := bif_f h hc6
        obtain rfl := Option.some.inj h
        have h := hl0 _ rfl
        exact ok_again (I := I0) m0 (Nat.lt_succ_self _) (fun L w' he => by rw [hI0]; exact ⟨_, rfl, h, hF.trans he.fine⟩)
  · have h := bif_f h hc2
    obtain rfl := Option.some.inj h
    obtain rfl := hr_0 _ rfl
    intro ρ L w' _ he _ _
    exact ⟨rfl, (hF.ext he).below⟩
/-! ### turnbuckle/turnbucklelaw05.within: function 25 -/
def law05_within.s0 (k : Nat) (l0 : List (Int × Int)) (l1 : List (Int × Int)) : Int → Option (Sum Int Bool) := fun v0_0 => bif decide (v0_0 < ((l0.length : Nat) : Int)) then ((getI l0 v0_0).bind fun r3 => (ref05_Has.F k l1 r3.1).bind fun v2_0 => bif v2_0 then ((ref05_Has.F k l1 r3.2).bind fun v3_0 => bif v3_0 then (some (.inl (IntKind.wrap IntKind.i64 (v0_0 + 1)))) else (some (.inr false))) else (some (.inr false))) else (some (.inr true))
def law05_within.F (k : Nat) (l0 : List (Int × Int)) (l1 : List (Int × Int)) : Option Bool := iter (law05_within.s0 k l0 l1) k 0
abbrev law05_within.A : Nat → LA := fun r => if r = 2 then ⟨[(9, false, [Lf.i IntKind.i64])], []⟩ else ⟨[], []⟩
set_option maxHeartbeats 4000000 in
theorem law05_within.t (A0 : Option Addr) (n0 c0 : Nat) (A1 : Option Addr) (n1 c1 : Nat) : tree Try.prog law05_within.A noC Try.f25 [AV.v (Value.slice A0 n0 c0), AV.v (Value.slice A1 n1 c1)] [] =
  .loop ([Lf.i IntKind.i64]) ((0, PUnit.unit)) 0 (fun x0 =>
   bif decide (x0.1 < ((n0 : Nat) : Int)) then (
    .need (decide (0 ≤ x0.1) && decide (x0.1 < ((n0 : Nat) : Int)) && Option.isSome A0) (
    .ld (Option.map (fun x => Addr.add x (Int.toNat x0.1 * 2)) A0) ([Lf.i IntKind.i64, Lf.i IntKind.i64]) (fun x1 =>
     .call 13 ([AV.v (Value.slice A1 n1 c1), AV.v (Value.int IntKind.i64 x1.1)]) ([]) (Sh.one) ([Lf.b]) ([]) (fun x2 =>
      bif x2.1 then (
       .call 13 ([AV.v (Value.slice A1 n1 c1), AV.v (Value.int IntKind.i64 x1.2.1)]) ([]) (Sh.one) ([Lf.b]) ([]) (fun x3 =>
        bif x3.1 then (
         .again 0 ([Lf.i IntKind.i64]) ((IntKind.wrap IntKind.i64 (x0.1 + 1), PUnit.unit)))
        else (
         .done (AV.v (Value.bool false)) ([]))))
      else (
       .done (AV.v (Value.bool false)) ([]))))))
   else (
    .done (AV.v (Value.bool true)) ([]))) := by kernel_rfl
set_option maxHeartbeats 4000000 in
theorem law05_within.c (k : Nat) (A0 : Option Addr) (n0 c0 : Nat) (l0 : List (Int × Int)) (A1 : Option Addr) (n1 c1 : Nat) (l1 : List (Int × Int)) (r : Bool) (h : law05_within.F k l0 l1 = some r) (hn0 : n0 = l0.length) (hn1 : n1 = l1.length) (w : World) (hS0 : SlR R22.row (fun _ => False) w A0 c0 l0) (hS1 : SlR R22.row (fun _ => False) w A1 c1 l1) : Calls Try.prog 25 (AV.gs id [AV.v (Value.slice A0 n0 c0), AV.v (Value.slice A1 n1 c1)]).toArray w fun e w' => e = .returned (((Sh.one : Sh).av (vs [Lf.b] (r, ()))).g id) ∧ Below w.heap.size w w' := by
  subst hn0
  subst hn1
  refine enter0 mixed law05_within.A noC [AV.v (Value.slice A0 l0.length c0), AV.v (Value.slice A1 l1.length c1)] Try.func25 rfl rfl rfl (fun hF => ?_)
  rw [law05_within.t]
  unfold law05_within.F at h
  try dsimp only at h
  obtain ⟨I0, hI0⟩ : ∃ I : Nat → Tup [Lf.i IntKind.i64] → (Nat → Prop) → World → Prop, I = (fun m_ y L w' => ∃ (v0_0 : Int), y = (v0_0, ()) ∧ iter (law05_within.s0 k l0 l1) m_ v0_0 = some r ∧ Fine (fun _ => False) w L w') := ⟨_, rfl⟩
  refine ok_loop I0 k (by rw [hI0]; exact ⟨_, rfl, h, hF⟩) ?_
  clear h
  intro m_ y L0 w0 hy
  rw [hI0] at hy
  obtain ⟨v0_0, rfl, h, hF⟩ := hy
  obtain ⟨m0, o0, rfl, h, hl0, hr_0⟩ := iter_some h
  unfold law05_within.s0 at h
  try dsimp only at h
  try dsimp only
  refine ok_if (fun hc2 => ?_) (fun hc2 => ?_)
  · have h := bif_t h hc2
    obtain ⟨r3, hr4, h⟩ := Option.bind_eq_some_iff.1 h
    refine ok_need (getI_need (hS0.later hF) hr4) ?_
    refine ok_get hS0 hF hr4 (by simp) (fun cs hcs => ⟨(r3.1, r3.2, ()), hcs.symm, ?_⟩)
    try dsimp only
    obtain ⟨v2_0, hr2, h⟩ := Option.bind_eq_some_iff.1 h
    refine ok_callm rfl (fun L2 w2 g2 lt2 => ?_)
    refine (ref05_Has.c k _ _ _ l1 r3.1 v2_0 hr2 rfl w2 (hS1.later (hF.trans g2)).bare).mono ?_
    rintro e w2' ⟨rfl, hb2⟩
    refine ⟨(v2_0, ()), rfl, hb2, fun g2' => ?_⟩
    try dsimp only
    have hF := hF.trans g2'
    refine ok_if (fun hc5 => ?_) (fun hc5 => ?_)
    · have h := bif_t h hc5
      obtain ⟨v3_0, hr3, h⟩ := Option.bind_eq_some_iff.1 h
      refine ok_callm rfl (fun L3 w3 g3 lt3 => ?_)
      refine (ref05_Has.c k _ _ _ l1 r3.2 v3_0 hr3 rfl w3 (hS1.later (hF.trans g3)).bare).mono ?_
      rintro e w3' ⟨rfl, hb3⟩
      refine ⟨(v3_0, ()), rfl, hb3, fun g3' => ?_⟩
      try dsimp only
      have hF := hF.trans g3'
      refine ok_if (fun hc6 => ?_) (fun hc6 => ?_)
      · have h := bif_t h hc6
        obtain rfl := Option.some.inj h
        have h := hl0 _ rfl
        exact ok_again (I := I0) m0 (Nat.lt_succ_self _) (fun L w' he => by rw [hI0]; exact ⟨_, rfl, h, hF.trans he.fine⟩)
      · have h := bif_f h hc6
        obtain rfl := Option.some.inj h
        obtain rfl := hr_0 _ rfl
        intro ρ L w' _ he _ _
        exact ⟨rfl, (hF.ext he).below⟩
    · have h := bif_f h hc5
      obtain rfl := Option.some.inj h
      obtain rfl := hr_0 _ rfl
      intro ρ L w' _ he _ _
      exact ⟨rfl, (hF.ext he).below⟩
  · have h := bif_f h hc2
    obtain rfl := Option.some.inj h
    obtain rfl := hr_0 _ rfl
    intro ρ L w' _ he _ _
    exact ⟨rfl, (hF.ext he).below⟩
/-! ### turnbuckle/turnbucklelaw05.SpansTells: function 3 -/
def law05_SpansTells.F (k : Nat) (l0 : List (Int × Int)) (a1 : Int) : Option Bool := (spans_Right.F k l0).bind fun v0_0 => bif v0_0 then ((ref05_Right.F k l0).bind fun v1_0 => bif v1_0 then ((spans_Has.F k l0 a1).bind fun v2_0 => bif v2_0 then ((ref05_Has.F k l0 a1).bind fun v3_0 => bif v3_0 then ((spans_Count.F k l0).bind fun v4_0 => (ref05_Count.F k l0).bind fun v5_0 => bif v4_0 == v5_0 then ((law05_alive.F k ).bind fun v6_0 => bif v6_0 then (some true) else (some false)) else (some false)) else (some false)) else ((ref05_Has.F k l0 a1).bind fun v3_0 => bif v3_0 then (some false) else ((spans_Count.F k l0).bind fun v4_0 => (ref05_Count.F k l0).bind fun v5_0 => bif v4_0 == v5_0 then ((law05_alive.F k ).bind fun v6_0 => bif v6_0 then (some true) else (some false)) else (some false)))) else (some false)) else ((ref05_Right.F k l0).bind fun v1_0 => bif v1_0 then (some false) else ((spans_Has.F k l0 a1).bind fun v2_0 => bif v2_0 then ((ref05_Has.F k l0 a1).bind fun v3_0 => bif v3_0 then ((spans_Count.F k l0).bind fun v4_0 => (ref05_Count.F k l0).bind fun v5_0 => bif v4_0 == v5_0 then ((law05_alive.F k ).bind fun v6_0 => bif v6_0 then (some true) else (some false)) else (some false)) else (some false)) else ((ref05_Has.F k l0 a1).bind fun v3_0 => bif v3_0 then (some false) else ((spans_Count.F k l0).bind fun v4_0 => (ref05_Count.F k l0).bind fun v5_0 => bif v4_0 == v5_0 then ((law05_alive.F k ).bind fun v6_0 => bif v6_0 then (some true) else (some false)) else (some false)))))
abbrev law05_SpansTells.A : Nat → LA := noA
set_option maxHeartbeats 4000000 in
theorem law05_SpansTells.t (A0 : Option Addr) (n0 c0 : Nat) (a1 : Int) : tree Try.prog law05_SpansTells.A noC Try.f3 [AV.v (Value.slice A0 n0 c0), AV.v (Value.int IntKind.i64 a1)] [] =
  .call 10 ([AV.v (Value.slice A0 n0 c0)]) ([]) (Sh.one) ([Lf.b]) ([]) (fun x0 =>
   bif x0.1 then (
    .call 11 ([AV.v (Value.slice A0 n0 c0)]) ([]) (Sh.one) ([Lf.b]) ([]) (fun x1 =>
     bif x1.1 then (
      .call 12 ([AV.v (Value.slice A0 n0 c0), AV.v (Value.int IntKind.i64 a1)]) ([]) (Sh.one) ([Lf.b]) ([]) (fun x2 =>
       bif x2.1 then (
        .call 13 ([AV.v (Value.slice A0 n0 c0), AV.v (Value.int IntKind.i64 a1)]) ([]) (Sh.one) ([Lf.b]) ([]) (fun x3 =>
         bif x3.1 then (
          .call 14 ([AV.v (Value.slice A0 n0 c0)]) ([]) (Sh.one) ([Lf.i IntKind.i64]) ([]) (fun x4 =>
           .call 15 ([AV.v (Value.slice A0 n0 c0)]) ([]) (Sh.one) ([Lf.i IntKind.i64]) ([]) (fun x5 =>
            bif x4.1 == x5.1 then (
             .call 16 ([]) ([]) (Sh.one) ([Lf.b]) ([]) (fun x6 =>
              bif x6.1 then (
               .done (AV.v (Value.bool true)) ([]))
              else (
               .done (AV.v (Value.bool false)) ([]))))
            else (
             .done (AV.v (Value.bool false)) ([])))))
         else (
          .done (AV.v (Value.bool false)) ([]))))
       else (
        .call 13 ([AV.v (Value.slice A0 n0 c0), AV.v (Value.int IntKind.i64 a1)]) ([]) (Sh.one) ([Lf.b]) ([]) (fun x3 =>
         bif x3.1 then (
          .done (AV.v (Value.bool false)) ([]))
         else (
          .call 14 ([AV.v (Value.slice A0 n0 c0)]) ([]) (Sh.one) ([Lf.i IntKind.i64]) ([]) (fun x4 =>
           .call 15 ([AV.v (Value.slice A0 n0 c0)]) ([]) (Sh.one) ([Lf.i IntKind.i64]) ([]) (fun x5 =>
            bif x4.1 == x5.1 then (
             .call 16 ([]) ([]) (Sh.one) ([Lf.b]) ([]) (fun x6 =>
              bif x6.1 then (
               .done (AV.v (Value.bool true)) ([]))
              else (
               .done (AV.v (Value.bool false)) ([]))))
            else (
             .done (AV.v (Value.bool false)) ([])))))))))
     else (
      .done (AV.v (Value.bool false)) ([]))))
   else (
    .call 11 ([AV.v (Value.slice A0 n0 c0)]) ([]) (Sh.one) ([Lf.b]) ([]) (fun x1 =>
     bif x1.1 then (
      .done (AV.v (Value.bool false)) ([]))
     else (
      .call 12 ([AV.v (Value.slice A0 n0 c0), AV.v (Value.int IntKind.i64 a1)]) ([]) (Sh.one) ([Lf.b]) ([]) (fun x2 =>
       bif x2.1 then (
        .call 13 ([AV.v (Value.slice A0 n0 c0), AV.v (Value.int IntKind.i64 a1)]) ([]) (Sh.one) ([Lf.b]) ([]) (fun x3 =>
         bif x3.1 then (
          .call 14 ([AV.v (Value.slice A0 n0 c0)]) ([]) (Sh.one) ([Lf.i IntKind.i64]) ([]) (fun x4 =>
           .call 15 ([AV.v (Value.slice A0 n0 c0)]) ([]) (Sh.one) ([Lf.i IntKind.i64]) ([]) (fun x5 =>
            bif x4.1 == x5.1 then (
             .call 16 ([]) ([]) (Sh.one) ([Lf.b]) ([]) (fun x6 =>
              bif x6.1 then (
               .done (AV.v (Value.bool true)) ([]))
              else (
               .done (AV.v (Value.bool false)) ([]))))
            else (
             .done (AV.v (Value.bool false)) ([])))))
         else (
          .done (AV.v (Value.bool false)) ([]))))
       else (
        .call 13 ([AV.v (Value.slice A0 n0 c0), AV.v (Value.int IntKind.i64 a1)]) ([]) (Sh.one) ([Lf.b]) ([]) (fun x3 =>
         bif x3.1 then (
          .done (AV.v (Value.bool false)) ([]))
         else (
          .call 14 ([AV.v (Value.slice A0 n0 c0)]) ([]) (Sh.one) ([Lf.i IntKind.i64]) ([]) (fun x4 =>
           .call 15 ([AV.v (Value.slice A0 n0 c0)]) ([]) (Sh.one) ([Lf.i IntKind.i64]) ([]) (fun x5 =>
            bif x4.1 == x5.1 then (
             .call 16 ([]) ([]) (Sh.one) ([Lf.b]) ([]) (fun x6 =>
              bif x6.1 then (
               .done (AV.v (Value.bool true)) ([]))
              else (
               .done (AV.v (Value.bool false)) ([]))))
            else (
             .done (AV.v (Value.bool false)) ([])))))))))))) := by kernel_rfl
set_option maxHeartbeats 4000000 in
theorem law05_SpansTells.c (k : Nat) (A0 : Option Addr) (n0 c0 : Nat) (l0 : List (Int × Int)) (a1 : Int) (r : Bool) (h : law05_SpansTells.F k l0 a1 = some r) (hn0 : n0 = l0.length) (w : World) (hS0 : SlR R22.row (fun _ => False) w A0 c0 l0) : Calls Try.prog 3 (AV.gs id [AV.v (Value.slice A0 n0 c0), AV.v (Value.int IntKind.i64 a1)]).toArray w fun e w' => e = .returned (((Sh.one : Sh).av (vs [Lf.b] (r, ()))).g id) ∧ Below w.heap.size w w' := by
  subst hn0
  refine enter0 mixed law05_SpansTells.A noC [AV.v (Value.slice A0 l0.length c0), AV.v (Value.int IntKind.i64 a1)] Try.func3 rfl rfl rfl (fun hF => ?_)
  rw [law05_SpansTells.t]
  unfold law05_SpansTells.F at h
  try dsimp only at h
  obtain ⟨v0_0, hr0, h⟩ := Option.bind_eq_some_iff.1 h
  refine ok_callm rfl (fun L0 w0 g0 lt0 => ?_)
  refine (spans_Right.c k _ _ _ l0 v0_0 hr0 rfl w0 (hS0.later (hF.trans g0)).bare).mono ?_
  rintro e w0' ⟨rfl, hb0⟩
  refine ⟨(v0_0, ()), rfl, hb0, fun g0' => ?_⟩
  try dsimp only
  have hF := hF.trans g0'
  refine ok_if (fun hc1 => ?_) (fun hc1 => ?_)
  · have h := bif_t h hc1
    obtain ⟨v1_0, hr1, h⟩ := Option.bind_eq_some_iff.1 h
    refine ok_callm rfl (fun L1 w1 g1 lt1 => ?_)
    refine (ref05_Right.c k _ _ _ l0 v1_0 hr1 rfl w1 (hS0.later (hF.trans g1)).bare).mono ?_
    rintro e w1' ⟨rfl, hb1⟩
    refine ⟨(v1_0, ()), rfl, hb1, fun g1' => ?_⟩
    try dsimp only
    have hF := hF.trans g1'
    refine ok_if (fun hc2 => ?_) (fun hc2 => ?_)
    · have h := bif_t h hc2
      obtain ⟨v2_0, hr2, h⟩ := Option.bind_eq_some_iff.1 h
      refine ok_callm rfl (fun L2 w2 g2 lt2 => ?_)
      refine (spans_Has.c k _ _ _ l0 a1 v2_0 hr2 rfl w2 (hS0.later (hF.trans g2)).bare).mono ?_
      rintro e w2' ⟨rfl, hb2⟩
      refine ⟨(v2_0, ()), rfl, hb2, fun g2' => ?_⟩
      try dsimp only
      have hF := hF.trans g2'
      refine ok_if (fun hc3 => ?_) (fun hc3 => ?_)
      · have h := bif_t h hc3
        obtain ⟨v3_0, hr3, h⟩ := Option.bind_eq_some_iff.1 h
        refine ok_callm rfl (fun L3 w3 g3 lt3 => ?_)
        refine (ref05_Has.c k _ _ _ l0 a1 v3_0 hr3 rfl w3 (hS0.later (hF.trans g3)).bare).mono ?_
        rintro e w3' ⟨rfl, hb3⟩
        refine ⟨(v3_0, ()), rfl, hb3, fun g3' => ?_⟩
        try dsimp only
        have hF := hF.trans g3'
        refine ok_if (fun hc4 => ?_) (fun hc4 => ?_)
        · have h := bif_t h hc4
          obtain ⟨v4_0, hr4, h⟩ := Option.bind_eq_some_iff.1 h
          refine ok_callm rfl (fun L4 w4 g4 lt4 => ?_)
          refine (spans_Count.c k _ _ _ l0 v4_0 hr4 rfl w4 (hS0.later (hF.trans g4)).bare).mono ?_
          rintro e w4' ⟨rfl, hb4⟩
          refine ⟨(v4_0, ()), rfl, hb4, fun g4' => ?_⟩
          try dsimp only
          have hF := hF.trans g4'
          obtain ⟨v5_0, hr5, h⟩ := Option.bind_eq_some_iff.1 h
          refine ok_callm rfl (fun L5 w5 g5 lt5 => ?_)
          refine (ref05_Count.c k _ _ _ l0 v5_0 hr5 rfl w5 (hS0.later (hF.trans g5)).bare).mono ?_
          rintro e w5' ⟨rfl, hb5⟩
          refine ⟨(v5_0, ()), rfl, hb5, fun g5' => ?_⟩
          try dsimp only
          have hF := hF.trans g5'
          refine ok_if (fun hc5 => ?_) (fun hc5 => ?_)
          · have h := bif_t h hc5
            obtain ⟨v6_0, hr6, h⟩ := Option.bind_eq_some_iff.1 h
            refine ok_callm rfl (fun L6 w6 g6 lt6 => ?_)
            refine (law05_alive.c k  v6_0 hr6  w6 ).mono ?_
            rintro e w6' ⟨rfl, hb6⟩
            refine ⟨(v6_0, ()), rfl, hb6, fun g6' => ?_⟩
            try dsimp only
            have hF := hF.trans g6'
            refine ok_if (fun hc6 => ?_) (fun hc6 => ?_)
            · have h := bif_t h hc6
              obtain rfl := Option.some.inj h
              intro ρ L w' _ he _ _
              exact ⟨rfl, (hF.ext he).below⟩
            · have h := bif_f h hc6
              obtain rfl := Option.some.inj h
              intro ρ L w' _ he _ _
              exact ⟨rfl, (hF.ext he).below⟩
          · have h := bif_f h hc5
            obtain rfl := Option.some.inj h
            intro ρ L w' _ he _ _
            exact ⟨rfl, (hF.ext he).below⟩
        · have h := bif_f h hc4
          obtain rfl := Option.some.inj h
          intro ρ L w' _ he _ _
          exact ⟨rfl, (hF.ext he).below⟩
      · have h := bif_f h hc3
        obtain ⟨v3_0, hr3, h⟩ := Option.bind_eq_some_iff.1 h
        refine ok_callm rfl (fun L3 w3 g3 lt3 => ?_)
        refine (ref05_Has.c k _ _ _ l0 a1 v3_0 hr3 rfl w3 (hS0.later (hF.trans g3)).bare).mono ?_
        rintro e w3' ⟨rfl, hb3⟩
        refine ⟨(v3_0, ()), rfl, hb3, fun g3' => ?_⟩
        try dsimp only
        have hF := hF.trans g3'
        refine ok_if (fun hc7 => ?_) (fun hc7 => ?_)
        · have h := bif_t h hc7
          obtain rfl := Option.some.inj h
          intro ρ L w' _ he _ _
          exact ⟨rfl, (hF.ext he).below⟩
        · have h := bif_f h hc7
          obtain ⟨v4_0, hr4, h⟩ := Option.bind_eq_some_iff.1 h
          refine ok_callm rfl (fun L4 w4 g4 lt4 => ?_)
          refine (spans_Count.c k _ _ _ l0 v4_0 hr4 rfl w4 (hS0.later (hF.trans g4)).bare).mono ?_
          rintro e w4' ⟨rfl, hb4⟩
          refine ⟨(v4_0, ()), rfl, hb4, fun g4' => ?_⟩
          try dsimp only
          have hF := hF.trans g4'
          obtain ⟨v5_0, hr5, h⟩ := Option.bind_eq_some_iff.1 h
          refine ok_callm rfl (fun L5 w5 g5 lt5 => ?_)
          refine (ref05_Count.c k _ _ _ l0 v5_0 hr5 rfl w5 (hS0.later (hF.trans g5)).bare).mono ?_
          rintro e w5' ⟨rfl, hb5⟩
          refine ⟨(v5_0, ()), rfl, hb5, fun g5' => ?_⟩
          try dsimp only
          have hF := hF.trans g5'
          refine ok_if (fun hc8 => ?_) (fun hc8 => ?_)
          · have h := bif_t h hc8
            obtain ⟨v6_0, hr6, h⟩ := Option.bind_eq_some_iff.1 h
            refine ok_callm rfl (fun L6 w6 g6 lt6 => ?_)
            refine (law05_alive.c k  v6_0 hr6  w6 ).mono ?_
            rintro e w6' ⟨rfl, hb6⟩
            refine ⟨(v6_0, ()), rfl, hb6, fun g6' => ?_⟩
            try dsimp only
            have hF := hF.trans g6'
            refine ok_if (fun hc9 => ?_) (fun hc9 => ?_)
            · have h := bif_t h hc9
              obtain rfl := Option.some.inj h
              intro ρ L w' _ he _ _
              exact ⟨rfl, (hF.ext he).below⟩
            · have h := bif_f h hc9
              obtain rfl := Option.some.inj h
              intro ρ L w' _ he _ _
              exact ⟨rfl, (hF.ext he).below⟩
          · have h := bif_f h hc8
            obtain rfl := Option.some.inj h
            intro ρ L w' _ he _ _
            exact ⟨rfl, (hF.ext he).below⟩
    · have h := bif_f h hc2
      obtain rfl := Option.some.inj h
      intro ρ L w' _ he _ _
      exact ⟨rfl, (hF.ext he).below⟩
  · have h := bif_f h hc1
    obtain ⟨v1_0, hr1, h⟩ := Option.bind_eq_some_iff.1 h
    refine ok_callm rfl (fun L1 w1 g1 lt1 => ?_)
    refine (ref05_Right.c k _ _ _ l0 v1_0 hr1 rfl w1 (hS0.later (hF.trans g1)).bare).mono ?_
    rintro e w1' ⟨rfl, hb1⟩
    refine ⟨(v1_0, ()), rfl, hb1, fun g1' => ?_⟩
    try dsimp only
    have hF := hF.trans g1'
    refine ok_if (fun hc10 => ?_) (fun hc10 => ?_)
    · have h := bif_t h hc10
      obtain rfl := Option.some.inj h
      intro ρ L w' _ he _ _
      exact ⟨rfl, (hF.ext he).below⟩
    · have h := bif_f h hc10
      obtain ⟨v2_0, hr2, h⟩ := Option.bind_eq_some_iff.1 h
      refine ok_callm rfl (fun L2 w2 g2 lt2 => ?_)
      refine (spans_Has.c k _ _ _ l0 a1 v2_0 hr2 rfl w2 (hS0.later (hF.trans g2)).bare).mono ?_
      rintro e w2' ⟨rfl, hb2⟩
      refine ⟨(v2_0, ()), rfl, hb2, fun g2' => ?_⟩
      try dsimp only
      have hF := hF.trans g2'
      refine ok_if (fun hc11 => ?_) (fun hc11 => ?_)
      · have h := bif_t h hc11
        obtain ⟨v3_0, hr3, h⟩ := Option.bind_eq_some_iff.1 h
        refine ok_callm rfl (fun L3 w3 g3 lt3 => ?_)
        refine (ref05_Has.c k _ _ _ l0 a1 v3_0 hr3 rfl w3 (hS0.later (hF.trans g3)).bare).mono ?_
        rintro e w3' ⟨rfl, hb3⟩
        refine ⟨(v3_0, ()), rfl, hb3, fun g3' => ?_⟩
        try dsimp only
        have hF := hF.trans g3'
        refine ok_if (fun hc12 => ?_) (fun hc12 => ?_)
        · have h := bif_t h hc12
          obtain ⟨v4_0, hr4, h⟩ := Option.bind_eq_some_iff.1 h
          refine ok_callm rfl (fun L4 w4 g4 lt4 => ?_)
          refine (spans_Count.c k _ _ _ l0 v4_0 hr4 rfl w4 (hS0.later (hF.trans g4)).bare).mono ?_
          rintro e w4' ⟨rfl, hb4⟩
          refine ⟨(v4_0, ()), rfl, hb4, fun g4' => ?_⟩
          try dsimp only
          have hF := hF.trans g4'
          obtain ⟨v5_0, hr5, h⟩ := Option.bind_eq_some_iff.1 h
          refine ok_callm rfl (fun L5 w5 g5 lt5 => ?_)
          refine (ref05_Count.c k _ _ _ l0 v5_0 hr5 rfl w5 (hS0.later (hF.trans g5)).bare).mono ?_
          rintro e w5' ⟨rfl, hb5⟩
          refine ⟨(v5_0, ()), rfl, hb5, fun g5' => ?_⟩
          try dsimp only
          have hF := hF.trans g5'
          refine ok_if (fun hc13 => ?_) (fun hc13 => ?_)
          · have h := bif_t h hc13
            obtain ⟨v6_0, hr6, h⟩ := Option.bind_eq_some_iff.1 h
            refine ok_callm rfl (fun L6 w6 g6 lt6 => ?_)
            refine (law05_alive.c k  v6_0 hr6  w6 ).mono ?_
            rintro e w6' ⟨rfl, hb6⟩
            refine ⟨(v6_0, ()), rfl, hb6, fun g6' => ?_⟩
            try dsimp only
            have hF := hF.trans g6'
            refine ok_if (fun hc14 => ?_) (fun hc14 => ?_)
            · have h := bif_t h hc14
              obtain rfl := Option.some.inj h
              intro ρ L w' _ he _ _
              exact ⟨rfl, (hF.ext he).below⟩
            · have h := bif_f h hc14
              obtain rfl := Option.some.inj h
              intro ρ L w' _ he _ _
              exact ⟨rfl, (hF.ext he).below⟩
          · have h := bif_f h hc13
            obtain rfl := Option.some.inj h
            intro ρ L w' _ he _ _
            exact ⟨rfl, (hF.ext he).below⟩
        · have h := bif_f h hc12
          obtain rfl := Option.some.inj h
          intro ρ L w' _ he _ _
          exact ⟨rfl, (hF.ext he).below⟩
      · have h := bif_f h hc11
        obtain ⟨v3_0, hr3, h⟩ := Option.bind_eq_some_iff.1 h
        refine ok_callm rfl (fun L3 w3 g3 lt3 => ?_)
        refine (ref05_Has.c k _ _ _ l0 a1 v3_0 hr3 rfl w3 (hS0.later (hF.trans g3)).bare).mono ?_
        rintro e w3' ⟨rfl, hb3⟩
        refine ⟨(v3_0, ()), rfl, hb3, fun g3' => ?_⟩
        try dsimp only
        have hF := hF.trans g3'
        refine ok_if (fun hc15 => ?_) (fun hc15 => ?_)
        · have h := bif_t h hc15
          obtain rfl := Option.some.inj h
          intro ρ L w' _ he _ _
          exact ⟨rfl, (hF.ext he).below⟩
        · have h := bif_f h hc15
          obtain ⟨v4_0, hr4, h⟩ := Option.bind_eq_some_iff.1 h
          refine ok_callm rfl (fun L4 w4 g4 lt4 => ?_)
          refine (spans_Count.c k _ _ _ l0 v4_0 hr4 rfl w4 (hS0.later (hF.trans g4)).bare).mono ?_
          rintro e w4' ⟨rfl, hb4⟩
          refine ⟨(v4_0, ()), rfl, hb4, fun g4' => ?_⟩
          try dsimp only
          have hF := hF.trans g4'
          obtain ⟨v5_0, hr5, h⟩ := Option.bind_eq_some_iff.1 h
          refine ok_callm rfl (fun L5 w5 g5 lt5 => ?_)
          refine (ref05_Count.c k _ _ _ l0 v5_0 hr5 rfl w5 (hS0.later (hF.trans g5)).bare).mono ?_
          rintro e w5' ⟨rfl, hb5⟩
          refine ⟨(v5_0, ()), rfl, hb5, fun g5' => ?_⟩
          try dsimp only
          have hF := hF.trans g5'
          refine ok_if (fun hc16 => ?_) (fun hc16 => ?_)
          · have h := bif_t h hc16
            obtain ⟨v6_0, hr6, h⟩ := Option.bind_eq_some_iff.1 h
            refine ok_callm rfl (fun L6 w6 g6 lt6 => ?_)
            refine (law05_alive.c k  v6_0 hr6  w6 ).mono ?_
            rintro e w6' ⟨rfl, hb6⟩
            refine ⟨(v6_0, ()), rfl, hb6, fun g6' => ?_⟩
            try dsimp only
            have hF := hF.trans g6'
            refine ok_if (fun hc17 => ?_) (fun hc17 => ?_)
            · have h := bif_t h hc17
              obtain rfl := Option.some.inj h
              intro ρ L w' _ he _ _
              exact ⟨rfl, (hF.ext he).below⟩
            · have h := bif_f h hc17
              obtain rfl := Option.some.inj h
              intro ρ L w' _ he _ _
              exact ⟨rfl, (hF.ext he).below⟩
          · have h := bif_f h hc16
            obtain rfl := Option.some.inj h
            intro ρ L w' _ he _ _
            exact ⟨rfl, (hF.ext he).below⟩
/-! ### turnbuckle/turnbucklelaw05.SpansTurns: function 5 -/
def law05_SpansTurns.F (k : Nat) (l0 : List (Int × Int)) (a1 : Int) (a2 : Int) : Option Bool := (spans_Add.F k l0 a1 a2).bind fun (s0_0, v0_1) => (ref05_Add.F k l0 a1 a2).bind fun (s1_0, v1_1) => (spans_Take.F k l0 a1 a2).bind fun (s2_0, v2_1) => (ref05_Take.F k l0 a1 a2).bind fun (s3_0, v3_1) => (ref05_Same.F k s0_0 s1_0).bind fun v4_0 => bif v4_0 then (bif v0_1 == v1_1 then ((ref05_Same.F k s2_0 s3_0).bind fun v5_0 => bif v5_0 then (bif v2_1 == v3_1 then ((law05_alive.F k ).bind fun v6_0 => bif v6_0 then (some true) else (some false)) else (some false)) else (some false)) else (some false)) else (some false)
abbrev law05_SpansTurns.A : Nat → LA := noA
set_option maxHeartbeats 4000000 in
theorem law05_SpansTurns.t (A0 : Option Addr) (n0 c0 : Nat) (a1 : Int) (a2 : Int) : tree Try.prog law05_SpansTurns.A noC Try.f5 [AV.v (Value.slice A0 n0 c0), AV.v (Value.int IntKind.i64 a1), AV.v (Value.int IntKind.i64 a2)] [] =
  .call 17 ([AV.v (Value.slice A0 n0 c0), AV.v (Value.int IntKind.i64 a1), AV.v (Value.int IntKind.i64 a2)]) ([]) (Sh.tup [(false, 1), (false, 1)]) ([Lf.sl, Lf.i IntKind.i64]) ([]) (fun x0 =>
   .call 19 ([AV.v (Value.slice A0 n0 c0), AV.v (Value.int IntKind.i64 a1), AV.v (Value.int IntKind.i64 a2)]) ([]) (Sh.tup [(false, 1), (false, 1)]) ([Lf.sl, Lf.i IntKind.i64]) ([]) (fun x1 =>
    .call 20 ([AV.v (Value.slice A0 n0 c0), AV.v (Value.int IntKind.i64 a1), AV.v (Value.int IntKind.i64 a2)]) ([]) (Sh.tup [(false, 1), (false, 1)]) ([Lf.sl, Lf.i IntKind.i64]) ([]) (fun x2 =>
     .call 21 ([AV.v (Value.slice A0 n0 c0), AV.v (Value.int IntKind.i64 a1), AV.v (Value.int IntKind.i64 a2)]) ([]) (Sh.tup [(false, 1), (false, 1)]) ([Lf.sl, Lf.i IntKind.i64]) ([]) (fun x3 =>
      .call 18 ([AV.v (Value.slice x0.1.1 x0.1.2.1 x0.1.2.2), AV.v (Value.slice x1.1.1 x1.1.2.1 x1.1.2.2)]) ([]) (Sh.one) ([Lf.b]) ([]) (fun x4 =>
       bif x4.1 then (
        bif x0.2.1 == x1.2.1 then (
         .call 18 ([AV.v (Value.slice x2.1.1 x2.1.2.1 x2.1.2.2), AV.v (Value.slice x3.1.1 x3.1.2.1 x3.1.2.2)]) ([]) (Sh.one) ([Lf.b]) ([]) (fun x5 =>
          bif x5.1 then (
           bif x2.2.1 == x3.2.1 then (
            .call 16 ([]) ([]) (Sh.one) ([Lf.b]) ([]) (fun x6 =>
             bif x6.1 then (
              .done (AV.v (Value.bool true)) ([]))
             else (
              .done (AV.v (Value.bool false)) ([]))))
           else (
            .done (AV.v (Value.bool false)) ([])))
          else (
           .done (AV.v (Value.bool false)) ([]))))
        else (
         .done (AV.v (Value.bool false)) ([])))
       else (
        .done (AV.v (Value.bool false)) ([]))))))) := by kernel_rfl
set_option maxHeartbeats 4000000 in
theorem law05_SpansTurns.c (k : Nat) (A0 : Option Addr) (n0 c0 : Nat) (l0 : List (Int × Int)) (a1 : Int) (a2 : Int) (r : Bool) (h : law05_SpansTurns.F k l0 a1 a2 = some r) (hn0 : n0 = l0.length) (w : World) (hS0 : SlR R22.row (fun _ => False) w A0 c0 l0) : Calls Try.prog 5 (AV.gs id [AV.v (Value.slice A0 n0 c0), AV.v (Value.int IntKind.i64 a1), AV.v (Value.int IntKind.i64 a2)]).toArray w fun e w' => e = .returned (((Sh.one : Sh).av (vs [Lf.b] (r, ()))).g id) ∧ Below w.heap.size w w' := by
  subst hn0
  refine enter0 mixed law05_SpansTurns.A noC [AV.v (Value.slice A0 l0.length c0), AV.v (Value.int IntKind.i64 a1), AV.v (Value.int IntKind.i64 a2)] Try.func5 rfl rfl rfl (fun hF => ?_)
  rw [law05_SpansTurns.t]
  unfold law05_SpansTurns.F at h
  try dsimp only at h
  obtain ⟨r0, hr0, h⟩ := Option.bind_eq_some_iff.1 h
  obtain ⟨s0_0, v0_1⟩ := r0
  try dsimp only at h
  refine ok_callm rfl (fun L0 w0 g0 lt0 => ?_)
  refine (spans_Add.c k _ _ _ l0 a1 a2 (s0_0, v0_1) hr0 rfl w0 (hS0.later (hF.trans g0)).bare).mono ?_
  rintro e w0' ⟨A0_0, c0_0, rfl, hb0, hO0_0⟩
  refine ⟨((A0_0, s0_0.length, c0_0), v0_1, ()), rfl, hb0, fun g0' => ?_⟩
  try dsimp only
  have hO0_0 := hO0_0.call (hF.trans g0).size lt0
  have hF := hF.trans g0'
  obtain ⟨r1, hr1, h⟩ := Option.bind_eq_some_iff.1 h
  obtain ⟨s1_0, v1_1⟩ := r1
  try dsimp only at h
  refine ok_callm rfl (fun L1 w1 g1 lt1 => ?_)
  refine (ref05_Add.c k _ _ _ l0 a1 a2 (s1_0, v1_1) hr1 rfl w1 (hS0.later (hF.trans g1)).bare).mono ?_
  rintro e w1' ⟨A1_0, c1_0, rfl, hb1, hO1_0⟩
  refine ⟨((A1_0, s1_0.length, c1_0), v1_1, ()), rfl, hb1, fun g1' => ?_⟩
  try dsimp only
  have dj_o2_o1 : Dj A1_0 A0_0 := Dj.new hO1_0.fresh (hO0_0.later g1).lt
  have hO1_0 := hO1_0.call (hF.trans g1).size lt1
  have hF := hF.trans g1'
  have hO0_0 := hO0_0.later g1'
  obtain ⟨r2, hr2, h⟩ := Option.bind_eq_some_iff.1 h
  obtain ⟨s2_0, v2_1⟩ := r2
  try dsimp only at h
  refine ok_callm rfl (fun L2 w2 g2 lt2 => ?_)
  refine (spans_Take.c k _ _ _ l0 a1 a2 (s2_0, v2_1) hr2 rfl w2 (hS0.later (hF.trans g2)).bare).mono ?_
  rintro e w2' ⟨A2_0, c2_0, rfl, hb2, hO2_0⟩
  refine ⟨((A2_0, s2_0.length, c2_0), v2_1, ()), rfl, hb2, fun g2' => ?_⟩
  try dsimp only
  have dj_o3_o1 : Dj A2_0 A0_0 := Dj.new hO2_0.fresh (hO0_0.later g2).lt
  have dj_o3_o2 : Dj A2_0 A1_0 := Dj.new hO2_0.fresh (hO1_0.later g2).lt
  have hO2_0 := hO2_0.call (hF.trans g2).size lt2
  have hF := hF.trans g2'
  have hO0_0 := hO0_0.later g2'
  have hO1_0 := hO1_0.later g2'
  obtain ⟨r3, hr3, h⟩ := Option.bind_eq_some_iff.1 h
  obtain ⟨s3_0, v3_1⟩ := r3
  try dsimp only at h
  refine ok_callm rfl (fun L3 w3 g3 lt3 => ?_)
  refine (ref05_Take.c k _ _ _ l0 a1 a2 (s3_0, v3_1) hr3 rfl w3 (hS0.later (hF.trans g3)).bare).mono ?_
  rintro e w3' ⟨A3_0, c3_0, rfl, hb3, hO3_0⟩
  refine ⟨((A3_0, s3_0.length, c3_0), v3_1, ()), rfl, hb3, fun g3' => ?_⟩
  try dsimp only
  have dj_o4_o1 : Dj A3_0 A0_0 := Dj.new hO3_0.fresh (hO0_0.later g3).lt
  have dj_o4_o2 : Dj A3_0 A1_0 := Dj.new hO3_0.fresh (hO1_0.later g3).lt
  have dj_o4_o3 : Dj A3_0 A2_0 := Dj.new hO3_0.fresh (hO2_0.later g3).lt
  have hO3_0 := hO3_0.call (hF.trans g3).size lt3
  have hF := hF.trans g3'
  have hO0_0 := hO0_0.later g3'
  have hO1_0 := hO1_0.later g3'
  have hO2_0 := hO2_0.later g3'
  obtain ⟨v4_0, hr4, h⟩ := Option.bind_eq_some_iff.1 h
  refine ok_callm rfl (fun L4 w4 g4 lt4 => ?_)
  refine (ref05_Same.c k _ _ _ s0_0 _ _ _ s1_0 v4_0 hr4 rfl rfl w4 (hO0_0.later g4).sl.bare (hO1_0.later g4).sl.bare).mono ?_
  rintro e w4' ⟨rfl, hb4⟩
  refine ⟨(v4_0, ()), rfl, hb4, fun g4' => ?_⟩
  try dsimp only
  have hF := hF.trans g4'
  have hO0_0 := hO0_0.later g4'
  have hO1_0 := hO1_0.later g4'
  have hO2_0 := hO2_0.later g4'
  have hO3_0 := hO3_0.later g4'
  refine ok_if (fun hc5 => ?_) (fun hc5 => ?_)
  · have h := bif_t h hc5
    refine ok_if (fun hc6 => ?_) (fun hc6 => ?_)
    · have h := bif_t h hc6
      obtain ⟨v5_0, hr5, h⟩ := Option.bind_eq_some_iff.1 h
      refine ok_callm rfl (fun L5 w5 g5 lt5 => ?_)
      refine (ref05_Same.c k _ _ _ s2_0 _ _ _ s3_0 v5_0 hr5 rfl rfl w5 (hO2_0.later g5).sl.bare (hO3_0.later g5).sl.bare).mono ?_
      rintro e w5' ⟨rfl, hb5⟩
      refine ⟨(v5_0, ()), rfl, hb5, fun g5' => ?_⟩
      try dsimp only
      have hF := hF.trans g5'
      have hO0_0 := hO0_0.later g5'
      have hO1_0 := hO1_0.later g5'
      have hO2_0 := hO2_0.later g5'
      have hO3_0 := hO3_0.later g5'
      refine ok_if (fun hc7 => ?_) (fun hc7 => ?_)
      · have h := bif_t h hc7
        refine ok_if (fun hc8 => ?_) (fun hc8 => ?_)
        · have h := bif_t h hc8
          obtain ⟨v6_0, hr6, h⟩ := Option.bind_eq_some_iff.1 h
          refine ok_callm rfl (fun L6 w6 g6 lt6 => ?_)
          refine (law05_alive.c k  v6_0 hr6  w6 ).mono ?_
          rintro e w6' ⟨rfl, hb6⟩
          refine ⟨(v6_0, ()), rfl, hb6, fun g6' => ?_⟩
          try dsimp only
          have hF := hF.trans g6'
          have hO0_0 := hO0_0.later g6'
          have hO1_0 := hO1_0.later g6'
          have hO2_0 := hO2_0.later g6'
          have hO3_0 := hO3_0.later g6'
          refine ok_if (fun hc9 => ?_) (fun hc9 => ?_)
          · have h := bif_t h hc9
            obtain rfl := Option.some.inj h
            intro ρ L w' _ he _ _
            exact ⟨rfl, (hF.ext he).below⟩
          · have h := bif_f h hc9
            obtain rfl := Option.some.inj h
            intro ρ L w' _ he _ _
            exact ⟨rfl, (hF.ext he).below⟩
        · have h := bif_f h hc8
          obtain rfl := Option.some.inj h
          intro ρ L w' _ he _ _
          exact ⟨rfl, (hF.ext he).below⟩
      · have h := bif_f h hc7
        obtain rfl := Option.some.inj h
        intro ρ L w' _ he _ _
        exact ⟨rfl, (hF.ext he).below⟩
    · have h := bif_f h hc6
      obtain rfl := Option.some.inj h
      intro ρ L w' _ he _ _
      exact ⟨rfl, (hF.ext he).below⟩
  · have h := bif_f h hc5
    obtain rfl := Option.some.inj h
    intro ρ L w' _ he _ _
    exact ⟨rfl, (hF.ext he).below⟩
/-! ### turnbuckle/turnbucklelaw05.SpansCuts: function 9 -/
def law05_SpansCuts.F (k : Nat) (l0 : List (Int × Int)) (a1 : Int) (a2_0 : Int) (a2_1 : Int) : Option Bool := (spans_Top.F k l0 a1).bind fun (s0_0, v0_1) => (ref05_Top.F k l0 a1).bind fun (s1_0, v1_1) => (spans_Gaps.F k l0 a2_0 a2_1).bind fun (s2_0, v2_1) => (ref05_Gaps.F k l0 a2_0 a2_1).bind fun (s3_0, v3_1) => (ref05_Same.F k s0_0 s1_0).bind fun v4_0 => bif v4_0 then (bif v0_1 == v1_1 then ((ref05_Same.F k s2_0 s3_0).bind fun v5_0 => bif v5_0 then (bif v2_1 == v3_1 then ((law05_alive.F k ).bind fun v6_0 => bif v6_0 then (some true) else (some false)) else (some false)) else (some false)) else (some false)) else (some false)
abbrev law05_SpansCuts.A : Nat → LA := noA
set_option maxHeartbeats 4000000 in
theorem law05_SpansCuts.t (A0 : Option Addr) (n0 c0 : Nat) (a1 : Int) (a2_0 : Int) (a2_1 : Int) : tree Try.prog law05_SpansCuts.A noC Try.f9 [AV.v (Value.slice A0 n0 c0), AV.v (Value.int IntKind.i64 a1), AV.agg [AV.v (Value.int IntKind.i64 a2_0), AV.v (Value.int IntKind.i64 a2_1)]] [] =
  .call 26 ([AV.v (Value.slice A0 n0 c0), AV.v (Value.int IntKind.i64 a1)]) ([]) (Sh.tup [(false, 1), (false, 1)]) ([Lf.sl, Lf.i IntKind.i64]) ([]) (fun x0 =>
   .call 27 ([AV.v (Value.slice A0 n0 c0), AV.v (Value.int IntKind.i64 a1)]) ([]) (Sh.tup [(false, 1), (false, 1)]) ([Lf.sl, Lf.i IntKind.i64]) ([]) (fun x1 =>
    .need (true) (
    .need (true) (
    .call 22 ([AV.v (Value.slice A0 n0 c0), AV.v (Value.int IntKind.i64 a2_0), AV.v (Value.int IntKind.i64 a2_1)]) ([]) (Sh.tup [(false, 1), (false, 1)]) ([Lf.sl, Lf.i IntKind.i64]) ([]) (fun x2 =>
     .need (true) (
     .need (true) (
     .call 28 ([AV.v (Value.slice A0 n0 c0), AV.v (Value.int IntKind.i64 a2_0), AV.v (Value.int IntKind.i64 a2_1)]) ([]) (Sh.tup [(false, 1), (false, 1)]) ([Lf.sl, Lf.i IntKind.i64]) ([]) (fun x3 =>
      .call 18 ([AV.v (Value.slice x0.1.1 x0.1.2.1 x0.1.2.2), AV.v (Value.slice x1.1.1 x1.1.2.1 x1.1.2.2)]) ([]) (Sh.one) ([Lf.b]) ([]) (fun x4 =>
       bif x4.1 then (
        bif x0.2.1 == x1.2.1 then (
         .call 18 ([AV.v (Value.slice x2.1.1 x2.1.2.1 x2.1.2.2), AV.v (Value.slice x3.1.1 x3.1.2.1 x3.1.2.2)]) ([]) (Sh.one) ([Lf.b]) ([]) (fun x5 =>
          bif x5.1 then (
           bif x2.2.1 == x3.2.1 then (
            .call 16 ([]) ([]) (Sh.one) ([Lf.b]) ([]) (fun x6 =>
             bif x6.1 then (
              .done (AV.v (Value.bool true)) ([]))
             else (
              .done (AV.v (Value.bool false)) ([]))))
           else (
            .done (AV.v (Value.bool false)) ([])))
          else (
           .done (AV.v (Value.bool false)) ([]))))
        else (
         .done (AV.v (Value.bool false)) ([])))
       else (
        .done (AV.v (Value.bool false)) ([]))))))))))) := by kernel_rfl
set_option maxHeartbeats 4000000 in
theorem law05_SpansCuts.c (k : Nat) (A0 : Option Addr) (n0 c0 : Nat) (l0 : List (Int × Int)) (a1 : Int) (a2_0 : Int) (a2_1 : Int) (r : Bool) (h : law05_SpansCuts.F k l0 a1 a2_0 a2_1 = some r) (hn0 : n0 = l0.length) (w : World) (hS0 : SlR R22.row (fun _ => False) w A0 c0 l0) : Calls Try.prog 9 (AV.gs id [AV.v (Value.slice A0 n0 c0), AV.v (Value.int IntKind.i64 a1), AV.agg [AV.v (Value.int IntKind.i64 a2_0), AV.v (Value.int IntKind.i64 a2_1)]]).toArray w fun e w' => e = .returned (((Sh.one : Sh).av (vs [Lf.b] (r, ()))).g id) ∧ Below w.heap.size w w' := by
  subst hn0
  refine enter0 mixed law05_SpansCuts.A noC [AV.v (Value.slice A0 l0.length c0), AV.v (Value.int IntKind.i64 a1), AV.agg [AV.v (Value.int IntKind.i64 a2_0), AV.v (Value.int IntKind.i64 a2_1)]] Try.func9 rfl rfl rfl (fun hF => ?_)
  rw [law05_SpansCuts.t]
  unfold law05_SpansCuts.F at h
  try dsimp only at h
  obtain ⟨r0, hr0, h⟩ := Option.bind_eq_some_iff.1 h
  obtain ⟨s0_0, v0_1⟩ := r0
  try dsimp only at h
  refine ok_callm rfl (fun L0 w0 g0 lt0 => ?_)
  refine (spans_Top.c k _ _ _ l0 a1 (s0_0, v0_1) hr0 rfl w0 (hS0.later (hF.trans g0)).bare).mono ?_
  rintro e w0' ⟨A0_0, c0_0, rfl, hb0, hO0_0⟩
  refine ⟨((A0_0, s0_0.length, c0_0), v0_1, ()), rfl, hb0, fun g0' => ?_⟩
  try dsimp only
  have hO0_0 := hO0_0.call (hF.trans g0).size lt0
  have hF := hF.trans g0'
  obtain ⟨r1, hr1, h⟩ := Option.bind_eq_some_iff.1 h
  obtain ⟨s1_0, v1_1⟩ := r1
  try dsimp only at h
  refine ok_callm rfl (fun L1 w1 g1 lt1 => ?_)
  refine (ref05_Top.c k _ _ _ l0 a1 (s1_0, v1_1) hr1 rfl w1 (hS0.later (hF.trans g1)).bare).mono ?_
  rintro e w1' ⟨A1_0, c1_0, rfl, hb1, hO1_0⟩
  refine ⟨((A1_0, s1_0.length, c1_0), v1_1, ()), rfl, hb1, fun g1' => ?_⟩
  try dsimp only
  have dj_o2_o1 : Dj A1_0 A0_0 := Dj.new hO1_0.fresh (hO0_0.later g1).lt
  have hO1_0 := hO1_0.call (hF.trans g1).size lt1
  have hF := hF.trans g1'
  have hO0_0 := hO0_0.later g1'
  refine ok_need rfl ?_
  refine ok_need rfl ?_
  obtain ⟨r2, hr2, h⟩ := Option.bind_eq_some_iff.1 h
  obtain ⟨s2_0, v2_1⟩ := r2
  try dsimp only at h
  refine ok_callm rfl (fun L2 w2 g2 lt2 => ?_)
  refine (spans_Gaps.c k _ _ _ l0 a2_0 a2_1 (s2_0, v2_1) hr2 rfl w2 (hS0.later (hF.trans g2)).bare).mono ?_
  rintro e w2' ⟨A2_0, c2_0, rfl, hb2, hO2_0⟩
  refine ⟨((A2_0, s2_0.length, c2_0), v2_1, ()), rfl, hb2, fun g2' => ?_⟩
  try dsimp only
  have dj_o3_o1 : Dj A2_0 A0_0 := Dj.new hO2_0.fresh (hO0_0.later g2).lt
  have dj_o3_o2 : Dj A2_0 A1_0 := Dj.new hO2_0.fresh (hO1_0.later g2).lt
  have hO2_0 := hO2_0.call (hF.trans g2).size lt2
  have hF := hF.trans g2'
  have hO0_0 := hO0_0.later g2'
  have hO1_0 := hO1_0.later g2'
  refine ok_need rfl ?_
  refine ok_need rfl ?_
  obtain ⟨r3, hr3, h⟩ := Option.bind_eq_some_iff.1 h
  obtain ⟨s3_0, v3_1⟩ := r3
  try dsimp only at h
  refine ok_callm rfl (fun L3 w3 g3 lt3 => ?_)
  refine (ref05_Gaps.c k _ _ _ l0 a2_0 a2_1 (s3_0, v3_1) hr3 rfl w3 (hS0.later (hF.trans g3)).bare).mono ?_
  rintro e w3' ⟨A3_0, c3_0, rfl, hb3, hO3_0⟩
  refine ⟨((A3_0, s3_0.length, c3_0), v3_1, ()), rfl, hb3, fun g3' => ?_⟩
  try dsimp only
  have dj_o4_o1 : Dj A3_0 A0_0 := Dj.new hO3_0.fresh (hO0_0.later g3).lt
  have dj_o4_o2 : Dj A3_0 A1_0 := Dj.new hO3_0.fresh (hO1_0.later g3).lt
  have dj_o4_o3 : Dj A3_0 A2_0 := Dj.new hO3_0.fresh (hO2_0.later g3).lt
  have hO3_0 := hO3_0.call (hF.trans g3).size lt3
  have hF := hF.trans g3'
  have hO0_0 := hO0_0.later g3'
  have hO1_0 := hO1_0.later g3'
  have hO2_0 := hO2_0.later g3'
  obtain ⟨v4_0, hr4, h⟩ := Option.bind_eq_some_iff.1 h
  refine ok_callm rfl (fun L4 w4 g4 lt4 => ?_)
  refine (ref05_Same.c k _ _ _ s0_0 _ _ _ s1_0 v4_0 hr4 rfl rfl w4 (hO0_0.later g4).sl.bare (hO1_0.later g4).sl.bare).mono ?_
  rintro e w4' ⟨rfl, hb4⟩
  refine ⟨(v4_0, ()), rfl, hb4, fun g4' => ?_⟩
  try dsimp only
  have hF := hF.trans g4'
  have hO0_0 := hO0_0.later g4'
  have hO1_0 := hO1_0.later g4'
  have hO2_0 := hO2_0.later g4'
  have hO3_0 := hO3_0.later g4'
  refine ok_if (fun hc5 => ?_) (fun hc5 => ?_)
  · have h := bif_t h hc5
    refine ok_if (fun hc6 => ?_) (fun hc6 => ?_)
    · have h := bif_t h hc6
      obtain ⟨v5_0, hr5, h⟩ := Option.bind_eq_some_iff.1 h
      refine ok_callm rfl (fun L5 w5 g5 lt5 => ?_)
      refine (ref05_Same.c k _ _ _ s2_0 _ _ _ s3_0 v5_0 hr5 rfl rfl w5 (hO2_0.later g5).sl.bare (hO3_0.later g5).sl.bare).mono ?_
      rintro e w5' ⟨rfl, hb5⟩
      refine ⟨(v5_0, ()), rfl, hb5, fun g5' => ?_⟩
      try dsimp only
      have hF := hF.trans g5'
      have hO0_0 := hO0_0.later g5'
      have hO1_0 := hO1_0.later g5'
      have hO2_0 := hO2_0.later g5'
      have hO3_0 := hO3_0.later g5'
      refine ok_if (fun hc7 => ?_) (fun hc7 => ?_)
      · have h := bif_t h hc7
        refine ok_if (fun hc8 => ?_) (fun hc8 => ?_)
        · have h := bif_t h hc8
          obtain ⟨v6_0, hr6, h⟩ := Option.bind_eq_some_iff.1 h
          refine ok_callm rfl (fun L6 w6 g6 lt6 => ?_)
          refine (law05_alive.c k  v6_0 hr6  w6 ).mono ?_
          rintro e w6' ⟨rfl, hb6⟩
          refine ⟨(v6_0, ()), rfl, hb6, fun g6' => ?_⟩
          try dsimp only
          have hF := hF.trans g6'
          have hO0_0 := hO0_0.later g6'
          have hO1_0 := hO1_0.later g6'
          have hO2_0 := hO2_0.later g6'
          have hO3_0 := hO3_0.later g6'
          refine ok_if (fun hc9 => ?_) (fun hc9 => ?_)
          · have h := bif_t h hc9
            obtain rfl := Option.some.inj h
            intro ρ L w' _ he _ _
            exact ⟨rfl, (hF.ext he).below⟩
          · have h := bif_f h hc9
            obtain rfl := Option.some.inj h
            intro ρ L w' _ he _ _
            exact ⟨rfl, (hF.ext he).below⟩
        · have h := bif_f h hc8
          obtain rfl := Option.some.inj h
          intro ρ L w' _ he _ _
          exact ⟨rfl, (hF.ext he).below⟩
      · have h := bif_f h hc7
        obtain rfl := Option.some.inj h
        intro ρ L w' _ he _ _
        exact ⟨rfl, (hF.ext he).below⟩
    · have h := bif_f h hc6
      obtain rfl := Option.some.inj h
      intro ρ L w' _ he _ _
      exact ⟨rfl, (hF.ext he).below⟩
  · have h := bif_f h hc5
    obtain rfl := Option.some.inj h
    intro ρ L w' _ he _ _
    exact ⟨rfl, (hF.ext he).below⟩
/-! ### turnbuckle/turnbucklelaw05.SpansIn: function 6 -/
def law05_SpansIn.F (k : Nat) (l0 : List (Int × Int)) (a1_0 : Int) (a1_1 : Int) (a2 : Int) : Option Bool := bif decide (a1_0 ≤ a2) then (bif decide (a2 ≤ a1_1) then ((spans_Add.F k l0 a1_0 a1_1).bind fun (s0_0, v0_1) => bif v0_1 == 0 then ((ref05_Right.F k s0_0).bind fun v1_0 => bif v1_0 then ((ref05_Has.F k s0_0 a2).bind fun v2_0 => bif v2_0 then ((spans_Take.F k l0 a1_0 a1_1).bind fun (s3_0, v3_1) => bif v3_1 == 0 then ((ref05_Right.F k s3_0).bind fun v4_0 => bif v4_0 then ((ref05_Has.F k s3_0 a2).bind fun v5_0 => bif v5_0 then (some false) else ((law05_alive.F k ).bind fun v6_0 => bif v6_0 then (some true) else (some false))) else (some false)) else ((law05_alive.F k ).bind fun v4_0 => bif v4_0 then (some true) else (some false))) else (some false)) else (some false)) else ((spans_Take.F k l0 a1_0 a1_1).bind fun (s1_0, v1_1) => bif v1_1 == 0 then ((ref05_Right.F k s1_0).bind fun v2_0 => bif v2_0 then ((ref05_Has.F k s1_0 a2).bind fun v3_0 => bif v3_0 then (some false) else ((law05_alive.F k ).bind fun v4_0 => bif v4_0 then (some true) else (some false))) else (some false)) else ((law05_alive.F k ).bind fun v2_0 => bif v2_0 then (some true) else (some false)))) else ((spans_Add.F k l0 a1_0 a1_1).bind fun (s0_0, v0_1) => bif v0_1 == 0 then ((ref05_Right.F k s0_0).bind fun v1_0 => bif v1_0 then ((ref05_Has.F k s0_0 a2).bind fun v2_0 => bif v2_0 then ((ref05_Has.F k l0 a2).bind fun v3_0 => bif v3_0 then ((spans_Take.F k l0 a1_0 a1_1).bind fun (s4_0, v4_1) => bif v4_1 == 0 then ((ref05_Right.F k s4_0).bind fun v5_0 => bif v5_0 then ((ref05_Has.F k s4_0 a2).bind fun v6_0 => bif v6_0 then ((ref05_Has.F k l0 a2).bind fun v7_0 => bif v7_0 then ((law05_alive.F k ).bind fun v8_0 => bif v8_0 then (some true) else (some false)) else (some false)) else ((ref05_Has.F k l0 a2).bind fun v7_0 => bif v7_0 then (some false) else ((law05_alive.F k ).bind fun v8_0 => bif v8_0 then (some true) else (some false)))) else (some false)) else ((law05_alive.F k ).bind fun v5_0 => bif v5_0 then (some true) else (some false))) else (some false)) else ((ref05_Has.F k l0 a2).bind fun v3_0 => bif v3_0 then (some false) else ((spans_Take.F k l0 a1_0 a1_1).bind fun (s4_0, v4_1) => bif v4_1 == 0 then ((ref05_Right.F k s4_0).bind fun v5_0 => bif v5_0 then ((ref05_Has.F k s4_0 a2).bind fun v6_0 => bif v6_0 then ((ref05_Has.F k l0 a2).bind fun v7_0 => bif v7_0 then ((law05_alive.F k ).bind fun v8_0 => bif v8_0 then (some true) else (some false)) else (some false)) else ((ref05_Has.F k l0 a2).bind fun v7_0 => bif v7_0 then (some false) else ((law05_alive.F k ).bind fun v8_0 => bif v8_0 then (some true) else (some false)))) else (some false)) else ((law05_alive.F k ).bind fun v5_0 => bif v5_0 then (some true) else (some false))))) else (some false)) else ((spans_Take.F k l0 a1_0 a1_1).bind fun (s1_0, v1_1) => bif v1_1 == 0 then ((ref05_Right.F k s1_0).bind fun v2_0 => bif v2_0 then ((ref05_Has.F k s1_0 a2).bind fun v3_0 => bif v3_0 then ((ref05_Has.F k l0 a2).bind fun v4_0 => bif v4_0 then ((law05_alive.F k ).bind fun v5_0 => bif v5_0 then (some true) else (some false)) else (some false)) else ((ref05_Has.F k l0 a2).bind fun v4_0 => bif v4_0 then (some false) else ((law05_alive.F k ).bind fun v5_0 => bif v5_0 then (some true) else (some false)))) else (some false)) else ((law05_alive.F k ).bind fun v2_0 => bif v2_0 then (some true) else (some false))))) else ((spans_Add.F k l0 a1_0 a1_1).bind fun (s0_0, v0_1) => bif v0_1 == 0 then ((ref05_Right.F k s0_0).bind fun v1_0 => bif v1_0 then ((ref05_Has.F k s0_0 a2).bind fun v2_0 => bif v2_0 then ((ref05_Has.F k l0 a2).bind fun v3_0 => bif v3_0 then ((spans_Take.F k l0 a1_0 a1_1).bind fun (s4_0, v4_1) => bif v4_1 == 0 then ((ref05_Right.F k s4_0).bind fun v5_0 => bif v5_0 then ((ref05_Has.F k s4_0 a2).bind fun v6_0 => bif v6_0 then ((ref05_Has.F k l0 a2).bind fun v7_0 => bif v7_0 then ((law05_alive.F k ).bind fun v8_0 => bif v8_0 then (some true) else (some false)) else (some false)) else ((ref05_Has.F k l0 a2).bind fun v7_0 => bif v7_0 then (some false) else ((law05_alive.F k ).bind fun v8_0 => bif v8_0 then (some true) else (some false)))) else (some false)) else ((law05_alive.F k ).bind fun v5_0 => bif v5_0 then (some true) else (some false))) else (some false)) else ((ref05_Has.F k l0 a2).bind fun v3_0 => bif v3_0 then (some false) else ((spans_Take.F k l0 a1_0 a1_1).bind fun (s4_0, v4_1) => bif v4_1 == 0 then ((ref05_Right.F k s4_0).bind fun v5_0 => bif v5_0 then ((ref05_Has.F k s4_0 a2).bind fun v6_0 => bif v6_0 then ((ref05_Has.F k l0 a2).bind fun v7_0 => bif v7_0 then ((law05_alive.F k ).bind fun v8_0 => bif v8_0 then (some true) else (some false)) else (some false)) else ((ref05_Has.F k l0 a2).bind fun v7_0 => bif v7_0 then (some false) else ((law05_alive.F k ).bind fun v8_0 => bif v8_0 then (some true) else (some false)))) else (some false)) else ((law05_alive.F k ).bind fun v5_0 => bif v5_0 then (some true) else (some false))))) else (some false)) else ((spans_Take.F k l0 a1_0 a1_1).bind fun (s1_0, v1_1) => bif v1_1 == 0 then ((ref05_Right.F k s1_0).bind fun v2_0 => bif v2_0 then ((ref05_Has.F k s1_0 a2).bind fun v3_0 => bif v3_0 then ((ref05_Has.F k l0 a2).bind fun v4_0 => bif v4_0 then ((law05_alive.F k ).bind fun v5_0 => bif v5_0 then (some true) else (some false)) else (some false)) else ((ref05_Has.F k l0 a2).bind fun v4_0 => bif v4_0 then (some false) else ((law05_alive.F k ).bind fun v5_0 => bif v5_0 then (some true) else (some false)))) else (some false)) else ((law05_alive.F k ).bind fun v2_0 => bif v2_0 then (some true) else (some false))))
abbrev law05_SpansIn.A : Nat → LA := noA
set_option maxHeartbeats 4000000 in
theorem law05_SpansIn.t (A0 : Option Addr) (n0 c0 : Nat) (a1_0 : Int) (a1_1 : Int) (a2 : Int) : tree Try.prog law05_SpansIn.A noC Try.f6 [AV.v (Value.slice A0 n0 c0), AV.agg [AV.v (Value.int IntKind.i64 a1_0), AV.v (Value.int IntKind.i64 a1_1)], AV.v (Value.int IntKind.i64 a2)] [] =
  .need (true) (
  bif decide (a1_0 ≤ a2) then (
   .need (true) (
   bif decide (a2 ≤ a1_1) then (
    .need (true) (
    .need (true) (
    .call 17 ([AV.v (Value.slice A0 n0 c0), AV.v (Value.int IntKind.i64 a1_0), AV.v (Value.int IntKind.i64 a1_1)]) ([]) (Sh.tup [(false, 1), (false, 1)]) ([Lf.sl, Lf.i IntKind.i64]) ([]) (fun x0 =>
     bif x0.2.1 == 0 then (
      .call 11 ([AV.v (Value.slice x0.1.1 x0.1.2.1 x0.1.2.2)]) ([]) (Sh.one) ([Lf.b]) ([]) (fun x1 =>
       bif x1.1 then (
        .call 13 ([AV.v (Value.slice x0.1.1 x0.1.2.1 x0.1.2.2), AV.v (Value.int IntKind.i64 a2)]) ([]) (Sh.one) ([Lf.b]) ([]) (fun x2 =>
         bif x2.1 then (
          .need (true) (
          .need (true) (
          .call 20 ([AV.v (Value.slice A0 n0 c0), AV.v (Value.int IntKind.i64 a1_0), AV.v (Value.int IntKind.i64 a1_1)]) ([]) (Sh.tup [(false, 1), (false, 1)]) ([Lf.sl, Lf.i IntKind.i64]) ([]) (fun x3 =>
           bif x3.2.1 == 0 then (
            .call 11 ([AV.v (Value.slice x3.1.1 x3.1.2.1 x3.1.2.2)]) ([]) (Sh.one) ([Lf.b]) ([]) (fun x4 =>
             bif x4.1 then (
              .call 13 ([AV.v (Value.slice x3.1.1 x3.1.2.1 x3.1.2.2), AV.v (Value.int IntKind.i64 a2)]) ([]) (Sh.one) ([Lf.b]) ([]) (fun x5 =>
               bif x5.1 then (
                .done (AV.v (Value.bool false)) ([]))
               else (
                .call 16 ([]) ([]) (Sh.one) ([Lf.b]) ([]) (fun x6 =>
                 bif x6.1 then (
                  .done (AV.v (Value.bool true)) ([]))
                 else (
                  .done (AV.v (Value.bool false)) ([]))))))
             else (
              .done (AV.v (Value.bool false)) ([]))))
           else (
            .call 16 ([]) ([]) (Sh.one) ([Lf.b]) ([]) (fun x4 =>
             bif x4.1 then (
              .done (AV.v (Value.bool true)) ([]))
             else (
              .done (AV.v (Value.bool false)) ([]))))))))
         else (
          .done (AV.v (Value.bool false)) ([]))))
       else (
        .done (AV.v (Value.bool false)) ([]))))
     else (
      .need (true) (
      .need (true) (
      .call 20 ([AV.v (Value.slice A0 n0 c0), AV.v (Value.int IntKind.i64 a1_0), AV.v (Value.int IntKind.i64 a1_1)]) ([]) (Sh.tup [(false, 1), (false, 1)]) ([Lf.sl, Lf.i IntKind.i64]) ([]) (fun x1 =>
       bif x1.2.1 == 0 then (
        .call 11 ([AV.v (Value.slice x1.1.1 x1.1.2.1 x1.1.2.2)]) ([]) (Sh.one) ([Lf.b]) ([]) (fun x2 =>
         bif x2.1 then (
          .call 13 ([AV.v (Value.slice x1.1.1 x1.1.2.1 x1.1.2.2), AV.v (Value.int IntKind.i64 a2)]) ([]) (Sh.one) ([Lf.b]) ([]) (fun x3 =>
           bif x3.1 then (
            .done (AV.v (Value.bool false)) ([]))
           else (
            .call 16 ([]) ([]) (Sh.one) ([Lf.b]) ([]) (fun x4 =>
             bif x4.1 then (
              .done (AV.v (Value.bool true)) ([]))
             else (
              .done (AV.v (Value.bool false)) ([]))))))
         else (
          .done (AV.v (Value.bool false)) ([]))))
       else (
        .call 16 ([]) ([]) (Sh.one) ([Lf.b]) ([]) (fun x2 =>
         bif x2.1 then (
          .done (AV.v (Value.bool true)) ([]))
         else (
          .done (AV.v (Value.bool false)) ([]))))))))))))
   else (
    .need (true) (
    .need (true) (
    .call 17 ([AV.v (Value.slice A0 n0 c0), AV.v (Value.int IntKind.i64 a1_0), AV.v (Value.int IntKind.i64 a1_1)]) ([]) (Sh.tup [(false, 1), (false, 1)]) ([Lf.sl, Lf.i IntKind.i64]) ([]) (fun x0 =>
     bif x0.2.1 == 0 then (
      .call 11 ([AV.v (Value.slice x0.1.1 x0.1.2.1 x0.1.2.2)]) ([]) (Sh.one) ([Lf.b]) ([]) (fun x1 =>
       bif x1.1 then (
        .call 13 ([AV.v (Value.slice x0.1.1 x0.1.2.1 x0.1.2.2), AV.v (Value.int IntKind.i64 a2)]) ([]) (Sh.one) ([Lf.b]) ([]) (fun x2 =>
         bif x2.1 then (
          .call 13 ([AV.v (Value.slice A0 n0 c0), AV.v (Value.int IntKind.i64 a2)]) ([]) (Sh.one) ([Lf.b]) ([]) (fun x3 =>
           bif x3.1 then (
            .need (true) (
            .need (true) (
            .call 20 ([AV.v (Value.slice A0 n0 c0), AV.v (Value.int IntKind.i64 a1_0), AV.v (Value.int IntKind.i64 a1_1)]) ([]) (Sh.tup [(false, 1), (false, 1)]) ([Lf.sl, Lf.i IntKind.i64]) ([]) (fun x4 =>
             bif x4.2.1 == 0 then (
              .call 11 ([AV.v (Value.slice x4.1.1 x4.1.2.1 x4.1.2.2)]) ([]) (Sh.one) ([Lf.b]) ([]) (fun x5 =>
               bif x5.1 then (
                .call 13 ([AV.v (Value.slice x4.1.1 x4.1.2.1 x4.1.2.2), AV.v (Value.int IntKind.i64 a2)]) ([]) (Sh.one) ([Lf.b]) ([]) (fun x6 =>
                 bif x6.1 then (
                  .call 13 ([AV.v (Value.slice A0 n0 c0), AV.v (Value.int IntKind.i64 a2)]) ([]) (Sh.one) ([Lf.b]) ([]) (fun x7 =>
                   bif x7.1 then (
                    .call 16 ([]) ([]) (Sh.one) ([Lf.b]) ([]) (fun x8 =>
                     bif x8.1 then (
                      .done (AV.v (Value.bool true)) ([]))
                     else (
                      .done (AV.v (Value.bool false)) ([]))))
                   else (
                    .done (AV.v (Value.bool false)) ([]))))
                 else (
                  .call 13 ([AV.v (Value.slice A0 n0 c0), AV.v (Value.int IntKind.i64 a2)]) ([]) (Sh.one) ([Lf.b]) ([]) (fun x7 =>
                   bif x7.1 then (
                    .done (AV.v (Value.bool false)) ([]))
                   else (
                    .call 16 ([]) ([]) (Sh.one) ([Lf.b]) ([]) (fun x8 =>
                     bif x8.1 then (
                      .done (AV.v (Value.bool true)) ([]))
                     else (
                      .done (AV.v (Value.bool false)) ([]))))))))
               else (
                .done (AV.v (Value.bool false)) ([]))))
             else (
              .call 16 ([]) ([]) (Sh.one) ([Lf.b]) ([]) (fun x5 =>
               bif x5.1 then (
                .done (AV.v (Value.bool true)) ([]))
               else (
                .done (AV.v (Value.bool false)) ([]))))))))
           else (
            .done (AV.v (Value.bool false)) ([]))))
         else (
          .call 13 ([AV.v (Value.slice A0 n0 c0), AV.v (Value.int IntKind.i64 a2)]) ([]) (Sh.one) ([Lf.b]) ([]) (fun x3 =>
           bif x3.1 then (
            .done (AV.v (Value.bool false)) ([]))
           else (
            .need (true) (
            .need (true) (
            .call 20 ([AV.v (Value.slice A0 n0 c0), AV.v (Value.int IntKind.i64 a1_0), AV.v (Value.int IntKind.i64 a1_1)]) ([]) (Sh.tup [(false, 1), (false, 1)]) ([Lf.sl, Lf.i IntKind.i64]) ([]) (fun x4 =>
             bif x4.2.1 == 0 then (
              .call 11 ([AV.v (Value.slice x4.1.1 x4.1.2.1 x4.1.2.2)]) ([]) (Sh.one) ([Lf.b]) ([]) (fun x5 =>
               bif x5.1 then (
                .call 13 ([AV.v (Value.slice x4.1.1 x4.1.2.1 x4.1.2.2), AV.v (Value.int IntKind.i64 a2)]) ([]) (Sh.one) ([Lf.b]) ([]) (fun x6 =>
                 bif x6.1 then (
                  .call 13 ([AV.v (Value.slice A0 n0 c0), AV.v (Value.int IntKind.i64 a2)]) ([]) (Sh.one) ([Lf.b]) ([]) (fun x7 =>
                   bif x7.1 then (
                    .call 16 ([]) ([]) (Sh.one) ([Lf.b]) ([]) (fun x8 =>
                     bif x8.1 then (
                      .done (AV.v (Value.bool true)) ([]))
                     else (
                      .done (AV.v (Value.bool false)) ([]))))
                   else (
                    .done (AV.v (Value.bool false)) ([]))))
                 else (
                  .call 13 ([AV.v (Value.slice A0 n0 c0), AV.v (Value.int IntKind.i64 a2)]) ([]) (Sh.one) ([Lf.b]) ([]) (fun x7 =>
                   bif x7.1 then (
                    .done (AV.v (Value.bool false)) ([]))
                   else (
                    .call 16 ([]) ([]) (Sh.one) ([Lf.b]) ([]) (fun x8 =>
                     bif x8.1 then (
                      .done (AV.v (Value.bool true)) ([]))
                     else (
                      .done (AV.v (Value.bool false)) ([]))))))))
               else (
                .done (AV.v (Value.bool false)) ([]))))
             else (
              .call 16 ([]) ([]) (Sh.one) ([Lf.b]) ([]) (fun x5 =>
               bif x5.1 then (
                .done (AV.v (Value.bool true)) ([]))
               else (
                .done (AV.v (Value.bool false)) ([]))))))))))))
       else (
        .done (AV.v (Value.bool false)) ([]))))
     else (
      .need (true) (
      .need (true) (
      .call 20 ([AV.v (Value.slice A0 n0 c0), AV.v (Value.int IntKind.i64 a1_0), AV.v (Value.int IntKind.i64 a1_1)]) ([]) (Sh.tup [(false, 1), (false, 1)]) ([Lf.sl, Lf.i IntKind.i64]) ([]) (fun x1 =>
       bif x1.2.1 == 0 then (
        .call 11 ([AV.v (Value.slice x1.1.1 x1.1.2.1 x1.1.2.2)]) ([]) (Sh.one) ([Lf.b]) ([]) (fun x2 =>
         bif x2.1 then (
          .call 13 ([AV.v (Value.slice x1.1.1 x1.1.2.1 x1.1.2.2), AV.v (Value.int IntKind.i64 a2)]) ([]) (Sh.one) ([Lf.b]) ([]) (fun x3 =>
           bif x3.1 then (
            .call 13 ([AV.v (Value.slice A0 n0 c0), AV.v (Value.int IntKind.i64 a2)]) ([]) (Sh.one) ([Lf.b]) ([]) (fun x4 =>
             bif x4.1 then (
              .call 16 ([]) ([]) (Sh.one) ([Lf.b]) ([]) (fun x5 =>
               bif x5.1 then (
                .done (AV.v (Value.bool true)) ([]))
               else (
                .done (AV.v (Value.bool false)) ([]))))
             else (
              .done (AV.v (Value.bool false)) ([]))))
           else (
            .call 13 ([AV.v (Value.slice A0 n0 c0), AV.v (Value.int IntKind.i64 a2)]) ([]) (Sh.one) ([Lf.b]) ([]) (fun x4 =>
             bif x4.1 then (
              .done (AV.v (Value.bool false)) ([]))
             else (
              .call 16 ([]) ([]) (Sh.one) ([Lf.b]) ([]) (fun x5 =>
               bif x5.1 then (
                .done (AV.v (Value.bool true)) ([]))
               else (
                .done (AV.v (Value.bool false)) ([]))))))))
         else (
          .done (AV.v (Value.bool false)) ([]))))
       else (
        .call 16 ([]) ([]) (Sh.one) ([Lf.b]) ([]) (fun x2 =>
         bif x2.1 then (
          .done (AV.v (Value.bool true)) ([]))
         else (
          .done (AV.v (Value.bool false)) ([]))))))))))))))
  else (
   .need (true) (
   .need (true) (
   .call 17 ([AV.v (Value.slice A0 n0 c0), AV.v (Value.int IntKind.i64 a1_0), AV.v (Value.int IntKind.i64 a1_1)]) ([]) (Sh.tup [(false, 1), (false, 1)]) ([Lf.sl, Lf.i IntKind.i64]) ([]) (fun x0 =>
    bif x0.2.1 == 0 then (
     .call 11 ([AV.v (Value.slice x0.1.1 x0.1.2.1 x0.1.2.2)]) ([]) (Sh.one) ([Lf.b]) ([]) (fun x1 =>
      bif x1.1 then (
       .call 13 ([AV.v (Value.slice x0.1.1 x0.1.2.1 x0.1.2.2), AV.v (Value.int IntKind.i64 a2)]) ([]) (Sh.one) ([Lf.b]) ([]) (fun x2 =>
        bif x2.1 then (
         .call 13 ([AV.v (Value.slice A0 n0 c0), AV.v (Value.int IntKind.i64 a2)]) ([]) (Sh.one) ([Lf.b]) ([]) (fun x3 =>
          bif x3.1 then (
           .need (true) (
           .need (true) (
           .call 20 ([AV.v (Value.slice A0 n0 c0), AV.v (Value.int IntKind.i64 a1_0), AV.v (Value.int IntKind.i64 a1_1)]) ([]) (Sh.tup [(false, 1), (false, 1)]) ([Lf.sl, Lf.i IntKind.i64]) ([]) (fun x4 =>
            bif x4.2.1 == 0 then (
             .call 11 ([AV.v (Value.slice x4.1.1 x4.1.2.1 x4.1.2.2)]) ([]) (Sh.one) ([Lf.b]) ([]) (fun x5 =>
              bif x5.1 then (
               .call 13 ([AV.v (Value.slice x4.1.1 x4.1.2.1 x4.1.2.2), AV.v (Value.int IntKind.i64 a2)]) ([]) (Sh.one) ([Lf.b]) ([]) (fun x6 =>
                bif x6.1 then (
                 .call 13 ([AV.v (Value.slice A0 n0 c0), AV.v (Value.int IntKind.i64 a2)]) ([]) (Sh.one) ([Lf.b]) ([]) (fun x7 =>
                  bif x7.1 then (
                   .call 16 ([]) ([]) (Sh.one) ([Lf.b]) ([]) (fun x8 =>
                    bif x8.1 then (
                     .done (AV.v (Value.bool true)) ([]))
                    else (
                     .done (AV.v (Value.bool false)) ([]))))
                  else (
                   .done (AV.v (Value.bool false)) ([]))))
                else (
                 .call 13 ([AV.v (Value.slice A0 n0 c0), AV.v (Value.int IntKind.i64 a2)]) ([]) (Sh.one) ([Lf.b]) ([]) (fun x7 =>
                  bif x7.1 then (
                   .done (AV.v (Value.bool false)) ([]))
                  else (
                   .call 16 ([]) ([]) (Sh.one) ([Lf.b]) ([]) (fun x8 =>
                    bif x8.1 then (
                     .done (AV.v (Value.bool true)) ([]))
                    else (
                     .done (AV.v (Value.bool false)) ([]))))))))
              else (
               .done (AV.v (Value.bool false)) ([]))))
            else (
             .call 16 ([]) ([]) (Sh.one) ([Lf.b]) ([]) (fun x5 =>
              bif x5.1 then (
               .done (AV.v (Value.bool true)) ([]))
              else (
               .done (AV.v (Value.bool false)) ([]))))))))
          else (
           .done (AV.v (Value.bool false)) ([]))))
        else (
         .call 13 ([AV.v (Value.slice A0 n0 c0), AV.v (Value.int IntKind.i64 a2)]) ([]) (Sh.one) ([Lf.b]) ([]) (fun x3 =>
          bif x3.1 then (
           .done (AV.v (Value.bool false)) ([]))
          else (
           .need (true) (
           .need (true) (
           .call 20 ([AV.v (Value.slice A0 n0 c0), AV.v (Value.int IntKind.i64 a1_0), AV.v (Value.int IntKind.i64 a1_1)]) ([]) (Sh.tup [(false, 1), (false, 1)]) ([Lf.sl, Lf.i IntKind.i64]) ([]) (fun x4 =>
            bif x4.2.1 == 0 then (
             .call 11 ([AV.v (Value.slice x4.1.1 x4.1.2.1 x4.1.2.2)]) ([]) (Sh.one) ([Lf.b]) ([]) (fun x5 =>
              bif x5.1 then (
               .call 13 ([AV.v (Value.slice x4.1.1 x4.1.2.1 x4.1.2.2), AV.v (Value.int IntKind.i64 a2)]) ([]) (Sh.one) ([Lf.b]) ([]) (fun x6 =>
                bif x6.1 then (
                 .call 13 ([AV.v (Value.slice A0 n0 c0), AV.v (Value.int IntKind.i64 a2)]) ([]) (Sh.one) ([Lf.b]) ([]) (fun x7 =>
                  bif x7.1 then (
                   .call 16 ([]) ([]) (Sh.one) ([Lf.b]) ([]) (fun x8 =>
                    bif x8.1 then (
                     .done (AV.v (Value.bool true)) ([]))
                    else (
                     .done (AV.v (Value.bool false)) ([]))))
                  else (
                   .done (AV.v (Value.bool false)) ([]))))
                else (
                 .call 13 ([AV.v (Value.slice A0 n0 c0), AV.v (Value.int IntKind.i64 a2)]) ([]) (Sh.one) ([Lf.b]) ([]) (fun x7 =>
                  bif x7.1 then (
                   .done (AV.v (Value.bool false)) ([]))
                  else (
                   .call 16 ([]) ([]) (Sh.one) ([Lf.b]) ([]) (fun x8 =>
                    bif x8.1 then (
                     .done (AV.v (Value.bool true)) ([]))
                    else (
                     .done (AV.v (Value.bool false)) ([]))))))))
              else (
               .done (AV.v (Value.bool false)) ([]))))
            else (
             .call 16 ([]) ([]) (Sh.one) ([Lf.b]) ([]) (fun x5 =>
              bif x5.1 then (
               .done (AV.v (Value.bool true)) ([]))
              else (
               .done (AV.v (Value.bool false)) ([]))))))))))))
      else (
       .done (AV.v (Value.bool false)) ([]))))
    else (
     .need (true) (
     .need (true) (
     .call 20 ([AV.v (Value.slice A0 n0 c0), AV.v (Value.int IntKind.i64 a1_0), AV.v (Value.int IntKind.i64 a1_1)]) ([]) (Sh.tup [(false, 1), (false, 1)]) ([Lf.sl, Lf.i IntKind.i64]) ([]) (fun x1 =>
      bif x1.2.1 == 0 then (
       .call 11 ([AV.v (Value.slice x1.1.1 x1.1.2.1 x1.1.2.2)]) ([]) (Sh.one) ([Lf.b]) ([]) (fun x2 =>
        bif x2.1 then (
         .call 13 ([AV.v (Value.slice x1.1.1 x1.1.2.1 x1.1.2.2), AV.v (Value.int IntKind.i64 a2)]) ([]) (Sh.one) ([Lf.b]) ([]) (fun x3 =>
          bif x3.1 then (
           .call 13 ([AV.v (Value.slice A0 n0 c0), AV.v (Value.int IntKind.i64 a2)]) ([]) (Sh.one) ([Lf.b]) ([]) (fun x4 =>
            bif x4.1 then (
             .call 16 ([]) ([]) (Sh.one) ([Lf.b]) ([]) (fun x5 =>
              bif x5.1 then (
               .done (AV.v (Value.bool true)) ([]))
              else (
               .done (AV.v (Value.bool false)) ([]))))
            else (
             .done (AV.v (Value.bool false)) ([]))))
          else (
           .call 13 ([AV.v (Value.slice A0 n0 c0), AV.v (Value.int IntKind.i64 a2)]) ([]) (Sh.one) ([Lf.b]) ([]) (fun x4 =>
            bif x4.1 then (
             .done (AV.v (Value.bool false)) ([]))
            else (
             .call 16 ([]) ([]) (Sh.one) ([Lf.b]) ([]) (fun x5 =>
              bif x5.1 then (
               .done (AV.v (Value.bool true)) ([]))
              else (
               .done (AV.v (Value.bool false)) ([]))))))))
        else (
         .done (AV.v (Value.bool false)) ([]))))
      else (
       .call 16 ([]) ([]) (Sh.one) ([Lf.b]) ([]) (fun x2 =>
        bif x2.1 then (
         .done (AV.v (Value.bool true)) ([]))
        else (
         .done (AV.v (Value.bool false)) ([]))))))))))))) := by kernel_rfl
set_option maxHeartbeats 4000000 in
theorem law05_SpansIn.c (k : Nat) (A0 : Option Addr) (n0 c0 : Nat) (l0 : List (Int × Int)) (a1_0 : Int) (a1_1 : Int) (a2 : Int) (r : Bool) (h : law05_SpansIn.F k l0 a1_0 a1_1 a2 = some r) (hn0 : n0 = l0.length) (w : World) (hS0 : SlR R22.row (fun _ => False) w A0 c0 l0) : Calls Try.prog 6 (AV.gs id [AV.v (Value.slice A0 n0 c0), AV.agg [AV.v (Value.int IntKind.i64 a1_0), AV.v (Value.int IntKind.i64 a1_1)], AV.v (Value.int IntKind.i64 a2)]).toArray w fun e w' => e = .returned (((Sh.one : Sh).av (vs [Lf.b] (r, ()))).g id) ∧ Below w.heap.size w w' := by
  subst hn0
  refine enter0 mixed law05_SpansIn.A noC [AV.v (Value.slice A0 l0.length c0), AV.agg [AV.v (Value.int IntKind.i64 a1_0), AV.v (Value.int IntKind.i64 a1_1)], AV.v (Value.int IntKind.i64 a2)] Try.func6 rfl rfl rfl (fun hF => ?_)
  rw [law05_SpansIn.t]
  unfold law05_SpansIn.F at h
  try dsimp only at h
  refine ok_need rfl ?_
  refine ok_if (fun hc1 => ?_) (fun hc1 => ?_)
  · have h := bif_t h hc1
    refine ok_need rfl ?_
    refine ok_if (fun hc2 => ?_) (fun hc2 => ?_)
    · have h := bif_t h hc2
      refine ok_need rfl ?_
      refine ok_need rfl ?_
      obtain ⟨r0, hr0, h⟩ := Option.bind_eq_some_iff.1 h
      obtain ⟨s0_0, v0_1⟩ := r0
      try dsimp only at h
      refine ok_callm rfl (fun L0 w0 g0 lt0 => ?_)
      refine (spans_Add.c k _ _ _ l0 a1_0 a1_1 (s0_0, v0_1) hr0 rfl w0 (hS0.later (hF.trans g0)).bare).mono ?_
      rintro e w0' ⟨A0_0, c0_0, rfl, hb0, hO0_0⟩
      refine ⟨((A0_0, s0_0.length, c0_0), v0_1, ()), rfl, hb0, fun g0' => ?_⟩
      try dsimp only
      have hO0_0 := hO0_0.call (hF.trans g0).size lt0
      have hF := hF.trans g0'
      refine ok_if (fun hc4 => ?_) (fun hc4 => ?_)
      · have h := bif_t h hc4
        obtain ⟨v1_0, hr1, h⟩ := Option.bind_eq_some_iff.1 h
        refine ok_callm rfl (fun L1 w1 g1 lt1 => ?_)
        refine (ref05_Right.c k _ _ _ s0_0 v1_0 hr1 rfl w1 (hO0_0.later g1).sl.bare).mono ?_
        rintro e w1' ⟨rfl, hb1⟩
        refine ⟨(v1_0, ()), rfl, hb1, fun g1' => ?_⟩
        try dsimp only
        have hF := hF.trans g1'
        have hO0_0 := hO0_0.later g1'
        refine ok_if (fun hc5 => ?_) (fun hc5 => ?_)
        · have h := bif_t h hc5
          obtain ⟨v2_0, hr2, h⟩ := Option.bind_eq_some_iff.1 h
          refine ok_callm rfl (fun L2 w2 g2 lt2 => ?_)
          refine (ref05_Has.c k _ _ _ s0_0 a2 v2_0 hr2 rfl w2 (hO0_0.later g2).sl.bare).mono ?_
          rintro e w2' ⟨rfl, hb2⟩
          refine ⟨(v2_0, ()), rfl, hb2, fun g2' => ?_⟩
          try dsimp only
          have hF := hF.trans g2'
          have hO0_0 := hO0_0.later g2'
          refine ok_if (fun hc6 => ?_) (fun hc6 => ?_)
          · have h := bif_t h hc6
            refine ok_need rfl ?_
            refine ok_need rfl ?_
            obtain ⟨r3, hr3, h⟩ := Option.bind_eq_some_iff.1 h
            obtain ⟨s3_0, v3_1⟩ := r3
            try dsimp only at h
            refine ok_callm rfl (fun L3 w3 g3 lt3 => ?_)
            refine (spans_Take.c k _ _ _ l0 a1_0 a1_1 (s3_0, v3_1) hr3 rfl w3 (hS0.later (hF.trans g3)).bare).mono ?_
            rintro e w3' ⟨A3_0, c3_0, rfl, hb3, hO3_0⟩
            refine ⟨((A3_0, s3_0.length, c3_0), v3_1, ()), rfl, hb3, fun g3' => ?_⟩
            try dsimp only
            have dj_o7_o3 : Dj A3_0 A0_0 := Dj.new hO3_0.fresh (hO0_0.later g3).lt
            have hO3_0 := hO3_0.call (hF.trans g3).size lt3
            have hF := hF.trans g3'
            have hO0_0 := hO0_0.later g3'
            refine ok_if (fun hc8 => ?_) (fun hc8 => ?_)
            · have h := bif_t h hc8
              obtain ⟨v4_0, hr4, h⟩ := Option.bind_eq_some_iff.1 h
              refine ok_callm rfl (fun L4 w4 g4 lt4 => ?_)
              refine (ref05_Right.c k _ _ _ s3_0 v4_0 hr4 rfl w4 (hO3_0.later g4).sl.bare).mono ?_
              rintro e w4' ⟨rfl, hb4⟩
              refine ⟨(v4_0, ()), rfl, hb4, fun g4' => ?_⟩
              try dsimp only
              have hF := hF.trans g4'
              have hO0_0 := hO0_0.later g4'
              have hO3_0 := hO3_0.later g4'
              refine ok_if (fun hc9 => ?_) (fun hc9 => ?_)
              · have h := bif_t h hc9
                obtain ⟨v5_0, hr5, h⟩ := Option.bind_eq_some_iff.1 h
                refine ok_callm rfl (fun L5 w5 g5 lt5 => ?_)
                refine (ref05_Has.c k _ _ _ s3_0 a2 v5_0 hr5 rfl w5 (hO3_0.later g5).sl.bare).mono ?_
                rintro e w5' ⟨rfl, hb5⟩
                refine ⟨(v5_0, ()), rfl, hb5, fun g5' => ?_⟩
                try dsimp only
                have hF := hF.trans g5'
                have hO0_0 := hO0_0.later g5'
                have hO3_0 := hO3_0.later g5'
                refine ok_if (fun hc10 => ?_) (fun hc10 => ?_)
                · have h := bif_t h hc10
                  obtain rfl := Option.some.inj h
                  intro ρ L w' _ he _ _
                  exact ⟨rfl, (hF.ext he).below⟩
                · have h := bif_f h hc10
                  obtain ⟨v6_0, hr6, h⟩ := Option.bind_eq_some_iff.1 h
                  refine ok_callm rfl (fun L6 w6 g6 lt6 => ?_)
                  refine (law05_alive.c k  v6_0 hr6  w6 ).mono ?_
                  rintro e w6' ⟨rfl, hb6⟩
                  refine ⟨(v6_0, ()), rfl, hb6, fun g6' => ?_⟩
                  try dsimp only
                  have hF := hF.trans g6'
                  have hO0_0 := hO0_0.later g6'
                  have hO3_0 := hO3_0.later g6'
                  refine ok_if (fun hc11 => ?_) (fun hc11 => ?_)
                  · have h := bif_t h hc11
                    obtain rfl := Option.some.inj h
                    intro ρ L w' _ he _ _
                    exact ⟨rfl, (hF.ext he).below⟩
                  · have h := bif_f h hc11
                    obtain rfl := Option.some.inj h
                    intro ρ L w' _ he _ _
                    exact ⟨rfl, (hF.ext he).below⟩
              · have h := bif_f h hc9
                obtain rfl := Option.some.inj h
                intro ρ L w' _ he _ _
                exact ⟨rfl, (hF.ext he).below⟩
            · have h := bif_f h hc8
              obtain ⟨v4_0, hr4, h⟩ := Option.bind_eq_some_iff.1 h
              refine ok_callm rfl (fun L4 w4 g4 lt4 => ?_)
              refine (law05_alive.c k  v4_0 hr4  w4 ).mono ?_
              rintro e w4' ⟨rfl, hb4⟩
              refine ⟨(v4_0, ()), rfl, hb4, fun g4' => ?_⟩
              try dsimp only
              have hF := hF.trans g4'
              have hO0_0 := hO0_0.later g4'
              have hO3_0 := hO3_0.later g4'
              refine ok_if (fun hc12 => ?_) (fun hc12 => ?_)
              · have h := bif_t h hc12
                obtain rfl := Option.some.inj h
                intro ρ L w' _ he _ _
                exact ⟨rfl, (hF.ext he).below⟩
              · have h := bif_f h hc12
                obtain rfl := Option.some.inj h
                intro ρ L w' _ he _ _
                exact ⟨rfl, (hF.ext he).below⟩
          · have h := bif_f h hc6
            obtain rfl := Option.some.inj h
            intro ρ L w' _ he _ _
            exact ⟨rfl, (hF.ext he).below⟩
        · have h := bif_f h hc5
          obtain rfl := Option.some.inj h
          intro ρ L w' _ he _ _
          exact ⟨rfl, (hF.ext he).below⟩
      · have h := bif_f h hc4
        refine ok_need rfl ?_
        refine ok_need rfl ?_
        obtain ⟨r1, hr1, h⟩ := Option.bind_eq_some_iff.1 h
        obtain ⟨s1_0, v1_1⟩ := r1
        try dsimp only at h
        refine ok_callm rfl (fun L1 w1 g1 lt1 => ?_)
        refine (spans_Take.c k _ _ _ l0 a1_0 a1_1 (s1_0, v1_1) hr1 rfl w1 (hS0.later (hF.trans g1)).bare).mono ?_
        rintro e w1' ⟨A1_0, c1_0, rfl, hb1, hO1_0⟩
        refine ⟨((A1_0, s1_0.length, c1_0), v1_1, ()), rfl, hb1, fun g1' => ?_⟩
        try dsimp only
        have dj_o13_o3 : Dj A1_0 A0_0 := Dj.new hO1_0.fresh (hO0_0.later g1).lt
        have hO1_0 := hO1_0.call (hF.trans g1).size lt1
        have hF := hF.trans g1'
        have hO0_0 := hO0_0.later g1'
        refine ok_if (fun hc14 => ?_) (fun hc14 => ?_)
        · have h := bif_t h hc14
          obtain ⟨v2_0, hr2, h⟩ := Option.bind_eq_some_iff.1 h
          refine ok_callm rfl (fun L2 w2 g2 lt2 => ?_)
          refine (ref05_Right.c k _ _ _ s1_0 v2_0 hr2 rfl w2 (hO1_0.later g2).sl.bare).mono ?_
          rintro e w2' ⟨rfl, hb2⟩
          refine ⟨(v2_0, ()), rfl, hb2, fun g2' => ?_⟩
          try dsimp only
          have hF := hF.trans g2'
          have hO0_0 := hO0_0.later g2'
          have hO1_0 := hO1_0.later g2'
          refine ok_if (fun hc15 => ?_) (fun hc15 => ?_)
          · have h := bif_t h hc15
            obtain ⟨v3_0, hr3, h⟩ := Option.bind_eq_some_iff.1 h
            refine ok_callm rfl (fun L3 w3 g3 lt3 => ?_)
            refine (ref05_Has.c k _ _ _ s1_0 a2 v3_0 hr3 rfl w3 (hO1_0.later g3).sl.bare).mono ?_
            rintro e w3' ⟨rfl, hb3⟩
            refine ⟨(v3_0, ()), rfl, hb3, fun g3' => ?_⟩
            try dsimp only
            have hF := hF.trans g3'
            have hO0_0 := hO0_0.later g3'
            have hO1_0 := hO1_0.later g3'
            refine ok_if (fun hc16 => ?_) (fun hc16 => ?_)
            · have h := bif_t h hc16
              obtain rfl := Option.some.inj h
              intro ρ L w' _ he _ _
              exact ⟨rfl, (hF.ext he).below⟩
            · have h := bif_f h hc16
              obtain ⟨v4_0, hr4, h⟩ := Option.bind_eq_some_iff.1 h
              refine ok_callm rfl (fun L4 w4 g4 lt4 => ?_)
              refine (law05_alive.c k  v4_0 hr4  w4 ).mono ?_
              rintro e w4' ⟨rfl, hb4⟩
              refine ⟨(v4_0, ()), rfl, hb4, fun g4' => ?_⟩
              try dsimp only
              have hF := hF.trans g4'
              have hO0_0 := hO0_0.later g4'
              have hO1_0 := hO1_0.later g4'
              refine ok_if (fun hc17 => ?_) (fun hc17 => ?_)
              · have h := bif_t h hc17
                obtain rfl := Option.some.inj h
                intro ρ L w' _ he _ _
                exact ⟨rfl, (hF.ext he).below⟩
              · have h := bif_f h hc17
                obtain rfl := Option.some.inj h
                intro ρ L w' _ he _ _
                exact ⟨rfl, (hF.ext he).below⟩
          · have h := bif_f h hc15
            obtain rfl := Option.some.inj h
            intro ρ L w' _ he _ _
            exact ⟨rfl, (hF.ext he).below⟩
        · have h := bif_f h hc14
          obtain ⟨v2_0, hr2, h⟩ := Option.bind_eq_some_iff.1 h
          refine ok_callm rfl (fun L2 w2 g2 lt2 => ?_)
          refine (law05_alive.c k  v2_0 hr2  w2 ).mono ?_
          rintro e w2' ⟨rfl, hb2⟩
          refine ⟨(v2_0, ()), rfl, hb2, fun g2' => ?_⟩
          try dsimp only
          have hF := hF.trans g2'
          have hO0_0 := hO0_0.later g2'
          have hO1_0 := hO1_0.later g2'
          refine ok_if (fun hc18 => ?_) (fun hc18 => ?_)
          · have h := bif_t h hc18
            obtain rfl := Option.some.inj h
            intro ρ L w' _ he _ _
            exact ⟨rfl, (hF.ext he).below⟩
          · have h := bif_f h hc18
            obtain rfl := Option.some.inj h
            intro ρ L w' _ he _ _
            exact ⟨rfl, (hF.ext he).below⟩
    · have h := bif_f h hc2
      refine ok_need rfl ?_
      refine ok_need rfl ?_
      obtain ⟨r0, hr0, h⟩ := Option.bind_eq_some_iff.1 h
      obtain ⟨s0_0, v0_1⟩ := r0
      try dsimp only at h
      refine ok_callm rfl (fun L0 w0 g0 lt0 => ?_)
      refine (spans_Add.c k _ _ _ l0 a1_0 a1_1 (s0_0, v0_1) hr0 rfl w0 (hS0.later (hF.trans g0)).bare).mono ?_
      rintro e w0' ⟨A0_0, c0_0, rfl, hb0, hO0_0⟩
      refine ⟨((A0_0, s0_0.length, c0_0), v0_1, ()), rfl, hb0, fun g0' => ?_⟩
      try dsimp only
      have hO0_0 := hO0_0.call (hF.trans g0).size lt0
      have hF := hF.trans g0'
      refine ok_if (fun hc20 => ?_) (fun hc20 => ?_)
      · have h := bif_t h hc20
        obtain ⟨v1_0, hr1, h⟩ := Option.bind_eq_some_iff.1 h
        refine ok_callm rfl (fun L1 w1 g1 lt1 => ?_)
        refine (ref05_Right.c k _ _ _ s0_0 v1_0 hr1 rfl w1 (hO0_0.later g1).sl.bare).mono ?_
        rintro e w1' ⟨rfl, hb1⟩
        refine ⟨(v1_0, ()), rfl, hb1, fun g1' => ?_⟩
        try dsimp only
        have hF := hF.trans g1'
        have hO0_0 := hO0_0.later g1'
        refine ok_if (fun hc21 => ?_) (fun hc21 => ?_)
        · have h := bif_t h hc21
          obtain ⟨v2_0, hr2, h⟩ := Option.bind_eq_some_iff.1 h
          refine ok_callm rfl (fun L2 w2 g2 lt2 => ?_)
          refine (ref05_Has.c k _ _ _ s0_0 a2 v2_0 hr2 rfl w2 (hO0_0.later g2).sl.bare).mono ?_
          rintro e w2' ⟨rfl, hb2⟩
          refine ⟨(v2_0, ()), rfl, hb2, fun g2' => ?_⟩
          try dsimp only
          have hF := hF.trans g2'
          have hO0_0 := hO0_0.later g2'
          refine ok_if (fun hc22 => ?_) (fun hc22 => ?_)
          · have h := bif_t h hc22
            obtain ⟨v3_0, hr3, h⟩ := Option.bind_eq_some_iff.1 h
            refine ok_callm rfl (fun L3 w3 g3 lt3 => ?_)
            refine (ref05_Has.c k _ _ _ l0 a2 v3_0 hr3 rfl w3 (hS0.later (hF.trans g3)).bare).mono ?_
            rintro e w3' ⟨rfl, hb3⟩
            refine ⟨(v3_0, ()), rfl, hb3, fun g3' => ?_⟩
            try dsimp only
            have hF := hF.trans g3'
            have hO0_0 := hO0_0.later g3'
            refine ok_if (fun hc23 => ?_) (fun hc23 => ?_)
            · have h := bif_t h hc23
              refine ok_need rfl ?_
              refine ok_need rfl ?_
              obtain ⟨r4, hr4, h⟩ := Option.bind_eq_some_iff.1 h
              obtain ⟨s4_0, v4_1⟩ := r4
              try dsimp only at h
              refine ok_callm rfl (fun L4 w4 g4 lt4 => ?_)
              refine (spans_Take.c k _ _ _ l0 a1_0 a1_1 (s4_0, v4_1) hr4 rfl w4 (hS0.later (hF.trans g4)).bare).mono ?_
              rintro e w4' ⟨A4_0, c4_0, rfl, hb4, hO4_0⟩
              refine ⟨((A4_0, s4_0.length, c4_0), v4_1, ()), rfl, hb4, fun g4' => ?_⟩
              try dsimp only
              have dj_o24_o19 : Dj A4_0 A0_0 := Dj.new hO4_0.fresh (hO0_0.later g4).lt
              have hO4_0 := hO4_0.call (hF.trans g4).size lt4
              have hF := hF.trans g4'
              have hO0_0 := hO0_0.later g4'
              refine ok_if (fun hc25 => ?_) (fun hc25 => ?_)
              · have h := bif_t h hc25
                obtain ⟨v5_0, hr5, h⟩ := Option.bind_eq_some_iff.1 h
                refine ok_callm rfl (fun L5 w5 g5 lt5 => ?_)
                refine (ref05_Right.c k _ _ _ s4_0 v5_0 hr5 rfl w5 (hO4_0.later g5).sl.bare).mono ?_
                rintro e w5' ⟨rfl, hb5⟩
                refine ⟨(v5_0, ()), rfl, hb5, fun g5' => ?_⟩
                try dsimp only
                have hF := hF.trans g5'
                have hO0_0 := hO0_0.later g5'
                have hO4_0 := hO4_0.later g5'
                refine ok_if (fun hc26 => ?_) (fun hc26 => ?_)
                · have h := bif_t h hc26
                  obtain ⟨v6_0, hr6, h⟩ := Option.bind_eq_some_iff.1 h
                  refine ok_callm rfl (fun L6 w6 g6 lt6 => ?_)
                  refine (ref05_Has.c k _ _ _ s4_0 a2 v6_0 hr6 rfl w6 (hO4_0.later g6).sl.bare).mono ?_
                  rintro e w6' ⟨rfl, hb6⟩
                  refine ⟨(v6_0, ()), rfl, hb6, fun g6' => ?_⟩
                  try dsimp only
                  have hF := hF.trans g6'
                  have hO0_0 := hO0_0.later g6'
                  have hO4_0 := hO4_0.later g6'
                  refine ok_if (fun hc27 => ?_) (fun hc27 => ?_)
                  · have h := bif_t h hc27
                    obtain ⟨v7_0, hr7, h⟩ := Option.bind_eq_some_iff.1 h
                    refine ok_callm rfl (fun L7 w7 g7 lt7 => ?_)
                    refine (ref05_Has.c k _ _ _ l0 a2 v7_0 hr7 rfl w7 (hS0.later (hF.trans g7)).bare).mono ?_
                    rintro e w7' ⟨rfl, hb7⟩
                    refine ⟨(v7_0, ()), rfl, hb7, fun g7' => ?_⟩
                    try dsimp only
                    have hF := hF.trans g7'
                    have hO0_0 := hO0_0.later g7'
                    have hO4_0 := hO4_0.later g7'
                    refine ok_if (fun hc28 => ?_) (fun hc28 => ?_)
                    · have h := bif_t h hc28
                      obtain ⟨v8_0, hr8, h⟩ := Option.bind_eq_some_iff.1 h
                      refine ok_callm rfl (fun L8 w8 g8 lt8 => ?_)
                      refine (law05_alive.c k  v8_0 hr8  w8 ).mono ?_
                      rintro e w8' ⟨rfl, hb8⟩
                      refine ⟨(v8_0, ()), rfl, hb8, fun g8' => ?_⟩
                      try dsimp only
                      have hF := hF.trans g8'
                      have hO0_0 := hO0_0.later g8'
                      have hO4_0 := hO4_0.later g8'
                      refine ok_if (fun hc29 => ?_) (fun hc29 => ?_)
                      · have h := bif_t h hc29
                        obtain rfl := Option.some.inj h
                        intro ρ L w' _ he _ _
                        exact ⟨rfl, (hF.ext he).below⟩
                      · have h := bif_f h hc29
                        obtain rfl := Option.some.inj h
                        intro ρ L w' _ he _ _
                        exact ⟨rfl, (hF.ext he).below⟩
                    · have h := bif_f h hc28
                      obtain rfl := Option.some.inj h
                      intro ρ L w' _ he _ _
                      exact ⟨rfl, (hF.ext he).below⟩
                  · have h := bif_f h hc27
                    obtain ⟨v7_0, hr7, h⟩ := Option.bind_eq_some_iff.1 h
                    refine ok_callm rfl (fun L7 w7 g7 lt7 => ?_)
                    refine (ref05_Has.c k _ _ _ l0 a2 v7_0 hr7 rfl w7 (hS0.later (hF.trans g7)).bare).mono ?_
                    rintro e w7' ⟨rfl, hb7⟩
                    refine ⟨(v7_0, ()), rfl, hb7, fun g7' => ?_⟩
                    try dsimp only
                    have hF := hF.trans g7'
                    have hO0_0 := hO0_0.later g7'
                    have hO4_0 := hO4_0.later g7'
                    refine ok_if (fun hc30 => ?_) (fun hc30 => ?_)
                    · have h := bif_t h hc30
                      obtain rfl := Option.some.inj h
                      intro ρ L w' _ he _ _
                      exact ⟨rfl, (hF.ext he).below⟩
                    · have h := bif_f h hc30
                      obtain ⟨v8_0, hr8, h⟩ := Option.bind_eq_some_iff.1 h
                      refine ok_callm rfl (fun L8 w8 g8 lt8 => ?_)
                      refine (law05_alive.c k  v8_0 hr8  w8 ).mono ?_
                      rintro e w8' ⟨rfl, hb8⟩
                      refine ⟨(v8_0, ()), rfl, hb8, fun g8' => ?_⟩
                      try dsimp only
                      have hF := hF.trans g8'
                      have hO0_0 := hO0_0.later g8'
                      have hO4_0 := hO4_0.later g8'
                      refine ok_if (fun hc31 => ?_) (fun hc31 => ?_)
                      · have h := bif_t h hc31
                        obtain rfl := Option.some.inj h
                        intro ρ L w' _ he _ _
                        exact ⟨rfl, (hF.ext he).below⟩
                      · have h := bif_f h hc31
                        obtain rfl := Option.some.inj h
                        intro ρ L w' _ he _ _
                        exact ⟨rfl, (hF.ext he).below⟩
                · have h := bif_f h hc26
                  obtain rfl := Option.some.inj h
                  intro ρ L w' _ he _ _
                  exact ⟨rfl, (hF.ext he).below⟩
              · have h := bif_f h hc25
                obtain ⟨v5_0, hr5, h⟩ := Option.bind_eq_some_iff.1 h
                refine ok_callm rfl (fun L5 w5 g5 lt5 => ?_)
                refine (law05_alive.c k  v5_0 hr5  w5 ).mono ?_
                rintro e w5' ⟨rfl, hb5⟩
                refine ⟨(v5_0, ()), rfl, hb5, fun g5' => ?_⟩
                try dsimp only
                have hF := hF.trans g5'
                have hO0_0 := hO0_0.later g5'
                have hO4_0 := hO4_0.later g5'
                refine ok_if (fun hc32 => ?_) (fun hc32 => ?_)
                · have h := bif_t h hc32
                  obtain rfl := Option.some.inj h
                  intro ρ L w' _ he _ _
                  exact ⟨rfl, (hF.ext he).below⟩
                · have h := bif_f h hc32
                  obtain rfl := Option.some.inj h
                  intro ρ L w' _ he _ _
                  exact ⟨rfl, (hF.ext he).below⟩
            · have h := bif_f h hc23
              obtain rfl := Option.some.inj h
              intro ρ L w' _ he _ _
              exact ⟨rfl, (hF.ext he).below⟩
          · have h := bif_f h hc22
            obtain ⟨v3_0, hr3, h⟩ := Option.bind_eq_some_iff.1 h
            refine ok_callm rfl (fun L3 w3 g3 lt3 => ?_)
            refine (ref05_Has.c k _ _ _ l0 a2 v3_0 hr3 rfl w3 (hS0.later (hF.trans g3)).bare).mono ?_
            rintro e w3' ⟨rfl, hb3⟩
            refine ⟨(v3_0, ()), rfl, hb3, fun g3' => ?_⟩
            try dsimp only
            have hF := hF.trans g3'
            have hO0_0 := hO0_0.later g3'
            refine ok_if (fun hc33 => ?_) (fun hc33 => ?_)
            · have h := bif_t h hc33
              obtain rfl := Option.some.inj h
              intro ρ L w' _ he _ _
              exact ⟨rfl, (hF.ext he).below⟩
            · have h := bif_f h hc33
              refine ok_need rfl ?_
              refine ok_need rfl ?_
              obtain ⟨r4, hr4, h⟩ := Option.bind_eq_some_iff.1 h
              obtain ⟨s4_0, v4_1⟩ := r4
              try dsimp only at h
              refine ok_callm rfl (fun L4 w4 g4 lt4 => ?_)
              refine (spans_Take.c k _ _ _ l0 a1_0 a1_1 (s4_0, v4_1) hr4 rfl w4 (hS0.later (hF.trans g4)).bare).mono ?_
              rintro e w4' ⟨A4_0, c4_0, rfl, hb4, hO4_0⟩
              refine ⟨((A4_0, s4_0.length, c4_0), v4_1, ()), rfl, hb4, fun g4' => ?_⟩
              try dsimp only
              have dj_o34_o19 : Dj A4_0 A0_0 := Dj.new hO4_0.fresh (hO0_0.later g4).lt
              have hO4_0 := hO4_0.call (hF.trans g4).size lt4
              have hF := hF.trans g4'
              have hO0_0 := hO0_0.later g4'
              refine ok_if (fun hc35 => ?_) (fun hc35 => ?_)
              · have h := bif_t h hc35
                obtain ⟨v5_0, hr5, h⟩ := Option.bind_eq_some_iff.1 h
                refine ok_callm rfl (fun L5 w5 g5 lt5 => ?_)
                refine (ref05_Right.c k _ _ _ s4_0 v5_0 hr5 rfl w5 (hO4_0.later g5).sl.bare).mono ?_
                rintro e w5' ⟨rfl, hb5⟩
                refine ⟨(v5_0, ()), rfl, hb5, fun g5' => ?_⟩
                try dsimp only
                have hF := hF.trans g5'
                have hO0_0 := hO0_0.later g5'
                have hO4_0 := hO4_0.later g5'
                refine ok_if (fun hc36 => ?_) (fun hc36 => ?_)
                · have h := bif_t h hc36
                  obtain ⟨v6_0, hr6, h⟩ := Option.bind_eq_some_iff.1 h
                  refine ok_callm rfl (fun L6 w6 g6 lt6 => ?_)
                  refine (ref05_Has.c k _ _ _ s4_0 a2 v6_0 hr6 rfl w6 (hO4_0.later g6).sl.bare).mono ?_
                  rintro e w6' ⟨rfl, hb6⟩
                  refine ⟨(v6_0, ()), rfl, hb6, fun g6' => ?_⟩
                  try dsimp only
                  have hF := hF.trans g6'
                  have hO0_0 := hO0_0.later g6'
                  have hO4_0 := hO4_0.later g6'
                  refine ok_if (fun hc37 => ?_) (fun hc37 => ?_)
                  · have h := bif_t h hc37
                    obtain ⟨v7_0, hr7, h⟩ := Option.bind_eq_some_iff.1 h
                    refine ok_callm rfl (fun L7 w7 g7 lt7 => ?_)
                    refine (ref05_Has.c k _ _ _ l0 a2 v7_0 hr7 rfl w7 (hS0.later (hF.trans g7)).bare).mono ?_
                    rintro e w7' ⟨rfl, hb7⟩
                    refine ⟨(v7_0, ()), rfl, hb7, fun g7' => ?_⟩
                    try dsimp only
                    have hF := hF.trans g7'
                    have hO0_0 := hO0_0.later g7'
                    have hO4_0 := hO4_0.later g7'
                    refine ok_if (fun hc38 => ?_) (fun hc38 => ?_)
                    · have h := bif_t h hc38
                      obtain ⟨v8_0, hr8, h⟩ := Option.bind_eq_some_iff.1 h
                      refine ok_callm rfl (fun L8 w8 g8 lt8 => ?_)
                      refine (law05_alive.c k  v8_0 hr8  w8 ).mono ?_
                      rintro e w8' ⟨rfl, hb8⟩
                      refine ⟨(v8_0, ()), rfl, hb8, fun g8' => ?_⟩
                      try dsimp only
                      have hF := hF.trans g8'
                      have hO0_0 := hO0_0.later g8'
                      have hO4_0 := hO4_0.later g8'
                      refine ok_if (fun hc39 => ?_) (fun hc39 => ?_)
                      · have h := bif_t h hc39
                        obtain rfl := Option.some.inj h
                        intro ρ L w' _ he _ _
                        exact ⟨rfl, (hF.ext he).below⟩
                      · have h := bif_f h hc39
                        obtain rfl := Option.some.inj h
                        intro ρ L w' _ he _ _
                        exact ⟨rfl, (hF.ext he).below⟩
                    · have h := bif_f h hc38
                      obtain rfl := Option.some.inj h
                      intro ρ L w' _ he _ _
                      exact ⟨rfl, (hF.ext he).below⟩
                  · have h := bif_f h hc37
                    obtain ⟨v7_0, hr7, h⟩ := Option.bind_eq_some_iff.1 h
                    refine ok_callm rfl (fun L7 w7 g7 lt7 => ?_)
                    refine (ref05_Has.c k _ _ _ l0 a2 v7_0 hr7 rfl w7 (hS0.later (hF.trans g7)).bare).mono ?_
                    rintro e w7' ⟨rfl, hb7⟩
                    refine ⟨(v7_0, ()), rfl, hb7, fun g7' => ?_⟩
                    try dsimp only
                    have hF := hF.trans g7'
                    have hO0_0 := hO0_0.later g7'
                    have hO4_0 := hO4_0.later g7'
                    refine ok_if (fun hc40 => ?_) (fun hc40 => ?_)
                    · have h := bif_t h hc40
                      obtain rfl := Option.some.inj h
                      intro ρ L w' _ he _ _
                      exact ⟨rfl, (hF.ext he).below⟩
                    · have h := bif_f h hc40
                      obtain ⟨v8_0, hr8, h⟩ := Option.bind_eq_some_iff.1 h
                      refine ok_callm rfl (fun L8 w8 g8 lt8 => ?_)
                      refine (law05_alive.c k  v8_0 hr8  w8 ).mono ?_
                      rintro e w8' ⟨rfl, hb8⟩
                      refine ⟨(v8_0, ()), rfl, hb8, fun g8' => ?_⟩
                      try dsimp only
                      have hF := hF.trans g8'
                      have hO0_0 := hO0_0.later g8'
                      have hO4_0 := hO4_0.later g8'
                      refine ok_if (fun hc41 => ?_) (fun hc41 => ?_)
                      · have h := bif_t h hc41
                        obtain rfl := Option.some.inj h
                        intro ρ L w' _ he _ _
                        exact ⟨rfl, (hF.ext he).below⟩
                      · have h := bif_f h hc41
                        obtain rfl := Option.some.inj h
                        intro ρ L w' _ he _ _
                        exact ⟨rfl, (hF.ext he).below⟩
                · have h := bif_f h hc36
                  obtain rfl := Option.some.inj h
                  intro ρ L w' _ he _ _
                  exact ⟨rfl, (hF.ext he).below⟩
              · have h := bif_f h hc35
                obtain ⟨v5_0, hr5, h⟩ := Option.bind_eq_some_iff.1 h
                refine ok_callm rfl (fun L5 w5 g5 lt5 => ?_)
                refine (law05_alive.c k  v5_0 hr5  w5 ).mono ?_
                rintro e w5' ⟨rfl, hb5⟩
                refine ⟨(v5_0, ()), rfl, hb5, fun g5' => ?_⟩
                try dsimp only
                have hF := hF.trans g5'
                have hO0_0 := hO0_0.later g5'
                have hO4_0 := hO4_0.later g5'
                refine ok_if (fun hc42 => ?_) (fun hc42 => ?_)
                · have h := bif_t h hc42
                  obtain rfl := Option.some.inj h
                  intro ρ L w' _ he _ _
                  exact ⟨rfl, (hF.ext he).below⟩
                · have h := bif_f h hc42
                  obtain rfl := Option.some.inj h
                  intro ρ L w' _ he _ _
                  exact ⟨rfl, (hF.ext he).below⟩
        · have h := bif_f h hc21
          obtain rfl := Option.some.inj h
          intro ρ L w' _ he _ _
          exact ⟨rfl, (hF.ext he).below⟩
      · have h := bif_f h hc20
        refine ok_need rfl ?_
        refine ok_need rfl ?_
        obtain ⟨r1, hr1, h⟩ := Option.bind_eq_some_iff.1 h
        obtain ⟨s1_0, v1_1⟩ := r1
        try dsimp only at h
        refine ok_callm rfl (fun L1 w1 g1 lt1 => ?_)
        refine (spans_Take.c k _ _ _ l0 a1_0 a1_1 (s1_0, v1_1) hr1 rfl w1 (hS0.later (hF.trans g1)).bare).mono ?_
        rintro e w1' ⟨A1_0, c1_0, rfl, hb1, hO1_0⟩
        refine ⟨((A1_0, s1_0.length, c1_0), v1_1, ()), rfl, hb1, fun g1' => ?_⟩
        try dsimp only
        have dj_o43_o19 : Dj A1_0 A0_0 := Dj.new hO1_0.fresh (hO0_0.later g1).lt
        have hO1_0 := hO1_0.call (hF.trans g1).size lt1
        have hF := hF.trans g1'
        have hO0_0 := hO0_0.later g1'
        refine ok_if (fun hc44 => ?_) (fun hc44 => ?_)
        · have h := bif_t h hc44
          obtain ⟨v2_0, hr2, h⟩ := Option.bind_eq_some_iff.1 h
          refine ok_callm rfl (fun L2 w2 g2 lt2 => ?_)
          refine (ref05_Right.c k _ _ _ s1_0 v2_0 hr2 rfl w2 (hO1_0.later g2).sl.bare).mono ?_
          rintro e w2' ⟨rfl, hb2⟩
          refine ⟨(v2_0, ()), rfl, hb2, fun g2' => ?_⟩
          try dsimp only
          have hF := hF.trans g2'
          have hO0_0 := hO0_0.later g2'
          have hO1_0 := hO1_0.later g2'
          refine ok_if (fun hc45 => ?_) (fun hc45 => ?_)
          · have h := bif_t h hc45
            obtain ⟨v3_0, hr3, h⟩ := Option.bind_eq_some_iff.1 h
            refine ok_callm rfl (fun L3 w3 g3 lt3 => ?_)
            refine (ref05_Has.c k _ _ _ s1_0 a2 v3_0 hr3 rfl w3 (hO1_0.later g3).sl.bare).mono ?_
            rintro e w3' ⟨rfl, hb3⟩
            refine ⟨(v3_0, ()), rfl, hb3, fun g3' => ?_⟩
            try dsimp only
            have hF := hF.trans g3'
            have hO0_0 := hO0_0.later g3'
            have hO1_0 := hO1_0.later g3'
            refine ok_if (fun hc46 => ?_) (fun hc46 => ?_)
            · have h := bif_t h hc46
              obtain ⟨v4_0, hr4, h⟩ := Option.bind_eq_some_iff.1 h
              refine ok_callm rfl (fun L4 w4 g4 lt4 => ?_)
              refine (ref05_Has.c k _ _ _ l0 a2 v4_0 hr4 rfl w4 (hS0.later (hF.trans g4)).bare).mono ?_
              rintro e w4' ⟨rfl, hb4⟩
              refine ⟨(v4_0, ()), rfl, hb4, fun g4' => ?_⟩
              try dsimp only
              have hF := hF.trans g4'
              have hO0_0 := hO0_0.later g4'
              have hO1_0 := hO1_0.later g4'
              refine ok_if (fun hc47 => ?_) (fun hc47 => ?_)
              · have h := bif_t h hc47
                obtain ⟨v5_0, hr5, h⟩ := Option.bind_eq_some_iff.1 h
                refine ok_callm rfl (fun L5 w5 g5 lt5 => ?_)
                refine (law05_alive.c k  v5_0 hr5  w5 ).mono ?_
                rintro e w5' ⟨rfl, hb5⟩
                refine ⟨(v5_0, ()), rfl, hb5, fun g5' => ?_⟩
                try dsimp only
                have hF := hF.trans g5'
                have hO0_0 := hO0_0.later g5'
                have hO1_0 := hO1_0.later g5'
                refine ok_if (fun hc48 => ?_) (fun hc48 => ?_)
                · have h := bif_t h hc48
                  obtain rfl := Option.some.inj h
                  intro ρ L w' _ he _ _
                  exact ⟨rfl, (hF.ext he).below⟩
                · have h := bif_f h hc48
                  obtain rfl := Option.some.inj h
                  intro ρ L w' _ he _ _
                  exact ⟨rfl, (hF.ext he).below⟩
              · have h := bif_f h hc47
                obtain rfl := Option.some.inj h
                intro ρ L w' _ he _ _
                exact ⟨rfl, (hF.ext he).below⟩
            · have h := bif_f h hc46
              obtain ⟨v4_0, hr4, h⟩ := Option.bind_eq_some_iff.1 h
              refine ok_callm rfl (fun L4 w4 g4 lt4 => ?_)
              refine (ref05_Has.c k _ _ _ l0 a2 v4_0 hr4 rfl w4 (hS0.later (hF.trans g4)).bare).mono ?_
              rintro e w4' ⟨rfl, hb4⟩
              refine ⟨(v4_0, ()), rfl, hb4, fun g4' => ?_⟩
              try dsimp only
              have hF := hF.trans g4'
              have hO0_0 := hO0_0.later g4'
              have hO1_0 := hO1_0.later g4'
              refine ok_if (fun hc49 => ?_) (fun hc49 => ?_)
              · have h := bif_t h hc49
                obtain rfl := Option.some.inj h
                intro ρ L w' _ he _ _
                exact ⟨rfl, (hF.ext he).below⟩
              · have h := bif_f h hc49
                obtain ⟨v5_0, hr5, h⟩ := Option.bind_eq_some_iff.1 h
                refine ok_callm rfl (fun L5 w5 g5 lt5 => ?_)
                refine (law05_alive.c k  v5_0 hr5  w5 ).mono ?_
                rintro e w5' ⟨rfl, hb5⟩
                refine ⟨(v5_0, ()), rfl, hb5, fun g5' => ?_⟩
                try dsimp only
                have hF := hF.trans g5'
                have hO0_0 := hO0_0.later g5'
                have hO1_0 := hO1_0.later g5'
                refine ok_if (fun hc50 => ?_) (fun hc50 => ?_)
                · have h := bif_t h hc50
                  obtain rfl := Option.some.inj h
                  intro ρ L w' _ he _ _
                  exact ⟨rfl, (hF.ext he).below⟩
                · have h := bif_f h hc50
                  obtain rfl := Option.some.inj h
                  intro ρ L w' _ he _ _
                  exact ⟨rfl, (hF.ext he).below⟩
          · have h := bif_f h hc45
            obtain rfl := Option.some.inj h
            intro ρ L w' _ he _ _
            exact ⟨rfl, (hF.ext he).below⟩
        · have h := bif_f h hc44
          obtain ⟨v2_0, hr2, h⟩ := Option.bind_eq_some_iff.1 h
          refine ok_callm rfl (fun L2 w2 g2 lt2 => ?_)
          refine (law05_alive.c k  v2_0 hr2  w2 ).mono ?_
          rintro e w2' ⟨rfl, hb2⟩
          refine ⟨(v2_0, ()), rfl, hb2, fun g2' => ?_⟩
          try dsimp only
          have hF := hF.trans g2'
          have hO0_0 := hO0_0.later g2'
          have hO1_0 := hO1_0.later g2'
          refine ok_if (fun hc51 => ?_) (fun hc51 => ?_)
          · have h := bif_t h hc51
            obtain rfl := Option.some.inj h
            intro ρ L w' _ he _ _
            exact ⟨rfl, (hF.ext he).below⟩
          · have h := bif_f h hc51
            obtain rfl := Option.some.inj h
            intro ρ L w' _ he _ _
            exact ⟨rfl, (hF.ext he).below⟩
  · have h := bif_f h hc1
    refine ok_need rfl ?_
    refine ok_need rfl ?_
    obtain ⟨r0, hr0, h⟩ := Option.bind_eq_some_iff.1 h
    obtain ⟨s0_0, v0_1⟩ := r0
    try dsimp only at h
    refine ok_callm rfl (fun L0 w0 g0 lt0 => ?_)
    refine (spans_Add.c k _ _ _ l0 a1_0 a1_1 (s0_0, v0_1) hr0 rfl w0 (hS0.later (hF.trans g0)).bare).mono ?_
    rintro e w0' ⟨A0_0, c0_0, rfl, hb0, hO0_0⟩
    refine ⟨((A0_0, s0_0.length, c0_0), v0_1, ()), rfl, hb0, fun g0' => ?_⟩
    try dsimp only
    have hO0_0 := hO0_0.call (hF.trans g0).size lt0
    have hF := hF.trans g0'
    refine ok_if (fun hc53 => ?_) (fun hc53 => ?_)
    · have h := bif_t h hc53
      obtain ⟨v1_0, hr1, h⟩ := Option.bind_eq_some_iff.1 h
      refine ok_callm rfl (fun L1 w1 g1 lt1 => ?_)
      refine (ref05_Right.c k _ _ _ s0_0 v1_0 hr1 rfl w1 (hO0_0.later g1).sl.bare).mono ?_
      rintro e w1' ⟨rfl, hb1⟩
      refine ⟨(v1_0, ()), rfl, hb1, fun g1' => ?_⟩
      try dsimp only
      have hF := hF.trans g1'
      have hO0_0 := hO0_0.later g1'
      refine ok_if (fun hc54 => ?_) (fun hc54 => ?_)
      · have h := bif_t h hc54
        obtain ⟨v2_0, hr2, h⟩ := Option.bind_eq_some_iff.1 h
        refine ok_callm rfl (fun L2 w2 g2 lt2 => ?_)
        refine (ref05_Has.c k _ _ _ s0_0 a2 v2_0 hr2 rfl w2 (hO0_0.later g2).sl.bare).mono ?_
        rintro e w2' ⟨rfl, hb2⟩
        refine ⟨(v2_0, ()), rfl, hb2, fun g2' => ?_⟩
        try dsimp only
        have hF := hF.trans g2'
        have hO0_0 := hO0_0.later g2'
        refine ok_if (fun hc55 => ?_) (fun hc55 => ?_)
        · have h := bif_t h hc55
          obtain ⟨v3_0, hr3, h⟩ := Option.bind_eq_some_iff.1 h
          refine ok_callm rfl (fun L3 w3 g3 lt3 => ?_)
          refine (ref05_Has.c k _ _ _ l0 a2 v3_0 hr3 rfl w3 (hS0.later (hF.trans g3)).bare).mono ?_
          rintro e w3' ⟨rfl, hb3⟩
          refine ⟨(v3_0, ()), rfl, hb3, fun g3' => ?_⟩
          try dsimp only
          have hF := hF.trans g3'
          have hO0_0 := hO0_0.later g3'
          refine ok_if (fun hc56 => ?_) (fun hc56 => ?_)
          · have h := bif_t h hc56
            refine ok_need rfl ?_
            refine ok_need rfl ?_
            obtain ⟨r4, hr4, h⟩ := Option.bind_eq_some_iff.1 h
            obtain ⟨s4_0, v4_1⟩ := r4
            try dsimp only at h
            refine ok_callm rfl (fun L4 w4 g4 lt4 => ?_)
            refine (spans_Take.c k _ _ _ l0 a1_0 a1_1 (s4_0, v4_1) hr4 rfl w4 (hS0.later (hF.trans g4)).bare).mono ?_
            rintro e w4' ⟨A4_0, c4_0, rfl, hb4, hO4_0⟩
            refine ⟨((A4_0, s4_0.length, c4_0), v4_1, ()), rfl, hb4, fun g4' => ?_⟩
            try dsimp only
            have dj_o57_o52 : Dj A4_0 A0_0 := Dj.new hO4_0.fresh (hO0_0.later g4).lt
            have hO4_0 := hO4_0.call (hF.trans g4).size lt4
            have hF := hF.trans g4'
            have hO0_0 := hO0_0.later g4'
            refine ok_if (fun hc58 => ?_) (fun hc58 => ?_)
            · have h := bif_t h hc58
              obtain ⟨v5_0, hr5, h⟩ := Option.bind_eq_some_iff.1 h
              refine ok_callm rfl (fun L5 w5 g5 lt5 => ?_)
              refine (ref05_Right.c k _ _ _ s4_0 v5_0 hr5 rfl w5 (hO4_0.later g5).sl.bare).mono ?_
              rintro e w5' ⟨rfl, hb5⟩
              refine ⟨(v5_0, ()), rfl, hb5, fun g5' => ?_⟩
              try dsimp only
              have hF := hF.trans g5'
              have hO0_0 := hO0_0.later g5'
              have hO4_0 := hO4_0.later g5'
              refine ok_if (fun hc59 => ?_) (fun hc59 => ?_)
              · have h := bif_t h hc59
                obtain ⟨v6_0, hr6, h⟩ := Option.bind_eq_some_iff.1 h
                refine ok_callm rfl (fun L6 w6 g6 lt6 => ?_)
                refine (ref05_Has.c k _ _ _ s4_0 a2 v6_0 hr6 rfl w6 (hO4_0.later g6).sl.bare).mono ?_
                rintro e w6' ⟨rfl, hb6⟩
                refine ⟨(v6_0, ()), rfl, hb6, fun g6' => ?_⟩
                try dsimp only
                have hF := hF.trans g6'
                have hO0_0 := hO0_0.later g6'
                have hO4_0 := hO4_0.later g6'
                refine ok_if (fun hc60 => ?_) (fun hc60 => ?_)
                · have h := bif_t h hc60
                  obtain ⟨v7_0, hr7, h⟩ := Option.bind_eq_some_iff.1 h
                  refine ok_callm rfl (fun L7 w7 g7 lt7 => ?_)
                  refine (ref05_Has.c k _ _ _ l0 a2 v7_0 hr7 rfl w7 (hS0.later (hF.trans g7)).bare).mono ?_
                  rintro e w7' ⟨rfl, hb7⟩
                  refine ⟨(v7_0, ()), rfl, hb7, fun g7' => ?_⟩
                  try dsimp only
                  have hF := hF.trans g7'
                  have hO0_0 := hO0_0.later g7'
                  have hO4_0 := hO4_0.later g7'
                  refine ok_if (fun hc61 => ?_) (fun hc61 => ?_)
                  · have h := bif_t h hc61
                    obtain ⟨v8_0, hr8, h⟩ := Option.bind_eq_some_iff.1 h
                    refine ok_callm rfl (fun L8 w8 g8 lt8 => ?_)
                    refine (law05_alive.c k  v8_0 hr8  w8 ).mono ?_
                    rintro e w8' ⟨rfl, hb8⟩
                    refine ⟨(v8_0, ()), rfl, hb8, fun g8' => ?_⟩
                    try dsimp only
                    have hF := hF.trans g8'
                    have hO0_0 := hO0_0.later g8'
                    have hO4_0 := hO4_0.later g8'
                    refine ok_if (fun hc62 => ?_) (fun hc62 => ?_)
                    · have h := bif_t h hc62
                      obtain rfl := Option.some.inj h
                      intro ρ L w' _ he _ _
                      exact ⟨rfl, (hF.ext he).below⟩
                    · have h := bif_f h hc62
                      obtain rfl := Option.some.inj h
                      intro ρ L w' _ he _ _
                      exact ⟨rfl, (hF.ext he).below⟩
                  · have h := bif_f h hc61
                    obtain rfl := Option.some.inj h
                    intro ρ L w' _ he _ _
                    exact ⟨rfl, (hF.ext he).below⟩
                · have h := bif_f h hc60
                  obtain ⟨v7_0, hr7, h⟩ := Option.bind_eq_some_iff.1 h
                  refine ok_callm rfl (fun L7 w7 g7 lt7 => ?_)
                  refine (ref05_Has.c k _ _ _ l0 a2 v7_0 hr7 rfl w7 (hS0.later (hF.trans g7)).bare).mono ?_
                  rintro e w7' ⟨rfl, hb7⟩
                  refine ⟨(v7_0, ()), rfl, hb7, fun g7' => ?_⟩
                  try dsimp only
                  have hF := hF.trans g7'
                  have hO0_0 := hO0_0.later g7'
                  have hO4_0 := hO4_0.later g7'
                  refine ok_if (fun hc63 => ?_) (fun hc63 => ?_)
                  · have h := bif_t h hc63
                    obtain rfl := Option.some.inj h
                    intro ρ L w' _ he _ _
                    exact ⟨rfl, (hF.ext he).below⟩
                  · have h := bif_f h hc63
                    obtain ⟨v8_0, hr8, h⟩ := Option.bind_eq_some_iff.1 h
                    refine ok_callm rfl (fun L8 w8 g8 lt8 => ?_)
                    refine (law05_alive.c k  v8_0 hr8  w8 ).mono ?_
                    rintro e w8' ⟨rfl, hb8⟩
                    refine ⟨(v8_0, ()), rfl, hb8, fun g8' => ?_⟩
                    try dsimp only
                    have hF := hF.trans g8'
                    have hO0_0 := hO0_0.later g8'
                    have hO4_0 := hO4_0.later g8'
                    refine ok_if (fun hc64 => ?_) (fun hc64 => ?_)
                    · have h := bif_t h hc64
                      obtain rfl := Option.some.inj h
                      intro ρ L w' _ he _ _
                      exact ⟨rfl, (hF.ext he).below⟩
                    · have h := bif_f h hc64
                      obtain rfl := Option.some.inj h
                      intro ρ L w' _ he _ _
                      exact ⟨rfl, (hF.ext he).below⟩
              · have h := bif_f h hc59
                obtain rfl := Option.some.inj h
                intro ρ L w' _ he _ _
                exact ⟨rfl, (hF.ext he).below⟩
            · have h := bif_f h hc58
              obtain ⟨v5_0, hr5, h⟩ := Option.bind_eq_some_iff.1 h
              refine ok_callm rfl (fun L5 w5 g5 lt5 => ?_)
              refine (law05_alive.c k  v5_0 hr5  w5 ).mono ?_
              rintro e w5' ⟨rfl, hb5⟩
              refine ⟨(v5_0, ()), rfl, hb5, fun g5' => ?_⟩
              try dsimp only
              have hF := hF.trans g5'
              have hO0_0 := hO0_0.later g5'
              have hO4_0 := hO4_0.later g5'
              refine ok_if (fun hc65 => ?_) (fun hc65 => ?_)
              · have h := bif_t h hc65
                obtain rfl := Option.some.inj h
                intro ρ L w' _ he _ _
                exact ⟨rfl, (hF.ext he).below⟩
              · have h := bif_f h hc65
                obtain rfl := Option.some.inj h
                intro ρ L w' _ he _ _
                exact ⟨rfl, (hF.ext he).below⟩
          · have h := bif_f h hc56
            obtain rfl := Option.some.inj h
            intro ρ L w' _ he _ _
            exact ⟨rfl, (hF.ext he).below⟩
        · have h := bif_f h hc55
          obtain ⟨v3_0, hr3, h⟩ := Option.bind_eq_some_iff.1 h
          refine ok_callm rfl (fun L3 w3 g3 lt3 => ?_)
          refine (ref05_Has.c k _ _ _ l0 a2 v3_0 hr3 rfl w3 (hS0.later (hF.trans g3)).bare).mono ?_
          rintro e w3' ⟨rfl, hb3⟩
          refine ⟨(v3_0, ()), rfl, hb3, fun g3' => ?_⟩
          try dsimp only
          have hF := hF.trans g3'
          have hO0_0 := hO0_0.later g3'
          refine ok_if (fun hc66 => ?_) (fun hc66 => ?_)
          · have h := bif_t h hc66
            obtain rfl := Option.some.inj h
            intro ρ L w' _ he _ _
            exact ⟨rfl, (hF.ext he).below⟩
          · have h := bif_f h hc66
            refine ok_need rfl ?_
            refine ok_need rfl ?_
            obtain ⟨r4, hr4, h⟩ := Option.bind_eq_some_iff.1 h
            obtain ⟨s4_0, v4_1⟩ := r4
            try dsimp only at h
            refine ok_callm rfl (fun L4 w4 g4 lt4 => ?_)
            refine (spans_Take.c k _ _ _ l0 a1_0 a1_1 (s4_0, v4_1) hr4 rfl w4 (hS0.later (hF.trans g4)).bare).mono ?_
            rintro e w4' ⟨A4_0, c4_0, rfl, hb4, hO4_0⟩
            refine ⟨((A4_0, s4_0.length, c4_0), v4_1, ()), rfl, hb4, fun g4' => ?_⟩
            try dsimp only
            have dj_o67_o52 : Dj A4_0 A0_0 := Dj.new hO4_0.fresh (hO0_0.later g4).lt
            have hO4_0 := hO4_0.call (hF.trans g4).size lt4
            have hF := hF.trans g4'
            have hO0_0 := hO0_0.later g4'
            refine ok_if (fun hc68 => ?_) (fun hc68 => ?_)
            · have h := bif_t h hc68
              obtain ⟨v5_0, hr5, h⟩ := Option.bind_eq_some_iff.1 h
              refine ok_callm rfl (fun L5 w5 g5 lt5 => ?_)
              refine (ref05_Right.c k _ _ _ s4_0 v5_0 hr5 rfl w5 (hO4_0.later g5).sl.bare).mono ?_
              rintro e w5' ⟨rfl, hb5⟩
              refine ⟨(v5_0, ()), rfl, hb5, fun g5' => ?_⟩
              try dsimp only
              have hF := hF.trans g5'
              have hO0_0 := hO0_0.later g5'
              have hO4_0 := hO4_0.later g5'
              refine ok_if (fun hc69 => ?_) (fun hc69 => ?_)
              · have h := bif_t h hc69
                obtain ⟨v6_0, hr6, h⟩ := Option.bind_eq_some_iff.1 h
                refine ok_callm rfl (fun L6 w6 g6 lt6 => ?_)
                refine (ref05_Has.c k _ _ _ s4_0 a2 v6_0 hr6 rfl w6 (hO4_0.later g6).sl.bare).mono ?_
                rintro e w6' ⟨rfl, hb6⟩
                refine ⟨(v6_0, ()), rfl, hb6, fun g6' => ?_⟩
                try dsimp only
                have hF := hF.trans g6'
                have hO0_0 := hO0_0.later g6'
                have hO4_0 := hO4_0.later g6'
                refine ok_if (fun hc70 => ?_) (fun hc70 => ?_)
                · have h := bif_t h hc70
                  obtain ⟨v7_0, hr7, h⟩ := Option.bind_eq_some_iff.1 h
                  refine ok_callm rfl (fun L7 w7 g7 lt7 => ?_)
                  refine (ref05_Has.c k _ _ _ l0 a2 v7_0 hr7 rfl w7 (hS0.later (hF.trans g7)).bare).mono ?_
                  rintro e w7' ⟨rfl, hb7⟩
                  refine ⟨(v7_0, ()), rfl, hb7, fun g7' => ?_⟩
                  try dsimp only
                  have hF := hF.trans g7'
                  have hO0_0 := hO0_0.later g7'
                  have hO4_0 := hO4_0.later g7'
                  refine ok_if (fun hc71 => ?_) (fun hc71 => ?_)
                  · have h := bif_t h hc71
                    obtain ⟨v8_0, hr8, h⟩ := Option.bind_eq_some_iff.1 h
                    refine ok_callm rfl (fun L8 w8 g8 lt8 => ?_)
                    refine (law05_alive.c k  v8_0 hr8  w8 ).mono ?_
                    rintro e w8' ⟨rfl, hb8⟩
                    refine ⟨(v8_0, ()), rfl, hb8, fun g8' => ?_⟩
                    try dsimp only
                    have hF := hF.trans g8'
                    have hO0_0 := hO0_0.later g8'
                    have hO4_0 := hO4_0.later g8'
                    refine ok_if (fun hc72 => ?_) (fun hc72 => ?_)
                    · have h := bif_t h hc72
                      obtain rfl := Option.some.inj h
                      intro ρ L w' _ he _ _
                      exact ⟨rfl, (hF.ext he).below⟩
                    · have h := bif_f h hc72
                      obtain rfl := Option.some.inj h
                      intro ρ L w' _ he _ _
                      exact ⟨rfl, (hF.ext he).below⟩
                  · have h := bif_f h hc71
                    obtain rfl := Option.some.inj h
                    intro ρ L w' _ he _ _
                    exact ⟨rfl, (hF.ext he).below⟩
                · have h := bif_f h hc70
                  obtain ⟨v7_0, hr7, h⟩ := Option.bind_eq_some_iff.1 h
                  refine ok_callm rfl (fun L7 w7 g7 lt7 => ?_)
                  refine (ref05_Has.c k _ _ _ l0 a2 v7_0 hr7 rfl w7 (hS0.later (hF.trans g7)).bare).mono ?_
                  rintro e w7' ⟨rfl, hb7⟩
                  refine ⟨(v7_0, ()), rfl, hb7, fun g7' => ?_⟩
                  try dsimp only
                  have hF := hF.trans g7'
                  have hO0_0 := hO0_0.later g7'
                  have hO4_0 := hO4_0.later g7'
                  refine ok_if (fun hc73 => ?_) (fun hc73 => ?_)
                  · have h := bif_t h hc73
                    obtain rfl := Option.some.inj h
                    intro ρ L w' _ he _ _
                    exact ⟨rfl, (hF.ext he).below⟩
                  · have h := bif_f h hc73
                    obtain ⟨v8_0, hr8, h⟩ := Option.bind_eq_some_iff.1 h
                    refine ok_callm rfl (fun L8 w8 g8 lt8 => ?_)
                    refine (law05_alive.c k  v8_0 hr8  w8 ).mono ?_
                    rintro e w8' ⟨rfl, hb8⟩
                    refine ⟨(v8_0, ()), rfl, hb8, fun g8' => ?_⟩
                    try dsimp only
                    have hF := hF.trans g8'
                    have hO0_0 := hO0_0.later g8'
                    have hO4_0 := hO4_0.later g8'
                    refine ok_if (fun hc74 => ?_) (fun hc74 => ?_)
                    · have h := bif_t h hc74
                      obtain rfl := Option.some.inj h
                      intro ρ L w' _ he _ _
                      exact ⟨rfl, (hF.ext he).below⟩
                    · have h := bif_f h hc74
                      obtain rfl := Option.some.inj h
                      intro ρ L w' _ he _ _
                      exact ⟨rfl, (hF.ext he).below⟩
              · have h := bif_f h hc69
                obtain rfl := Option.some.inj h
                intro ρ L w' _ he _ _
                exact ⟨rfl, (hF.ext he).below⟩
            · have h := bif_f h hc68
              obtain ⟨v5_0, hr5, h⟩ := Option.bind_eq_some_iff.1 h
              refine ok_callm rfl (fun L5 w5 g5 lt5 => ?_)
              refine (law05_alive.c k  v5_0 hr5  w5 ).mono ?_
              rintro e w5' ⟨rfl, hb5⟩
              refine ⟨(v5_0, ()), rfl, hb5, fun g5' => ?_⟩
              try dsimp only
              have hF := hF.trans g5'
              have hO0_0 := hO0_0.later g5'
              have hO4_0 := hO4_0.later g5'
              refine ok_if (fun hc75 => ?_) (fun hc75 => ?_)
              · have h := bif_t h hc75
                obtain rfl := Option.some.inj h
                intro ρ L w' _ he _ _
                exact ⟨rfl, (hF.ext he).below⟩
              · have h := bif_f h hc75
                obtain rfl := Option.some.inj h
                intro ρ L w' _ he _ _
                exact ⟨rfl, (hF.ext he).below⟩
      · have h := bif_f h hc54
        obtain rfl := Option.some.inj h
        intro ρ L w' _ he _ _
        exact ⟨rfl, (hF.ext he).below⟩
    · have h := bif_f h hc53
      refine ok_need rfl ?_
      refine ok_need rfl ?_
      obtain ⟨r1, hr1, h⟩ := Option.bind_eq_some_iff.1 h
      obtain ⟨s1_0, v1_1⟩ := r1
      try dsimp only at h
      refine ok_callm rfl (fun L1 w1 g1 lt1 => ?_)
      refine (spans_Take.c k _ _ _ l0 a1_0 a1_1 (s1_0, v1_1) hr1 rfl w1 (hS0.later (hF.trans g1)).bare).mono ?_
      rintro e w1' ⟨A1_0, c1_0, rfl, hb1, hO1_0⟩
      refine ⟨((A1_0, s1_0.length, c1_0), v1_1, ()), rfl, hb1, fun g1' => ?_⟩
      try dsimp only
      have dj_o76_o52 : Dj A1_0 A0_0 := Dj.new hO1_0.fresh (hO0_0.later g1).lt
      have hO1_0 := hO1_0.call (hF.trans g1).size lt1
      have hF := hF.trans g1'
      have hO0_0 := hO0_0.later g1'
      refine ok_if (fun hc77 => ?_) (fun hc77 => ?_)
      · have h := bif_t h hc77
        obtain ⟨v2_0, hr2, h⟩ := Option.bind_eq_some_iff.1 h
        refine ok_callm rfl (fun L2 w2 g2 lt2 => ?_)
        refine (ref05_Right.c k _ _ _ s1_0 v2_0 hr2 rfl w2 (hO1_0.later g2).sl.bare).mono ?_
        rintro e w2' ⟨rfl, hb2⟩
        refine ⟨(v2_0, ()), rfl, hb2, fun g2' => ?_⟩
        try dsimp only
        have hF := hF.trans g2'
        have hO0_0 := hO0_0.later g2'
        have hO1_0 := hO1_0.later g2'
        refine ok_if (fun hc78 => ?_) (fun hc78 => ?_)
        · have h := bif_t h hc78
          obtain ⟨v3_0, hr3, h⟩ := Option.bind_eq_some_iff.1 h
          refine ok_callm rfl (fun L3 w3 g3 lt3 => ?_)
          refine (ref05_Has.c k _ _ _ s1_0 a2 v3_0 hr3 rfl w3 (hO1_0.later g3).sl.bare).mono ?_
          rintro e w3' ⟨rfl, hb3⟩
          refine ⟨(v3_0, ()), rfl, hb3, fun g3' => ?_⟩
          try dsimp only
          have hF := hF.trans g3'
          have hO0_0 := hO0_0.later g3'
          have hO1_0 := hO1_0.later g3'
          refine ok_if (fun hc79 => ?_) (fun hc79 => ?_)
          · have h := bif_t h hc79
            obtain ⟨v4_0, hr4, h⟩ := Option.bind_eq_some_iff.1 h
            refine ok_callm rfl (fun L4 w4 g4 lt4 => ?_)
            refine (ref05_Has.c k _ _ _ l0 a2 v4_0 hr4 rfl w4 (hS0.later (hF.trans g4)).bare).mono ?_
            rintro e w4' ⟨rfl, hb4⟩
            refine ⟨(v4_0, ()), rfl, hb4, fun g4' => ?_⟩
            try dsimp only
            have hF := hF.trans g4'
            have hO0_0 := hO0_0.later g4'
            have hO1_0 := hO1_0.later g4'
            refine ok_if (fun hc80 => ?_) (fun hc80 => ?_)
            · have h := bif_t h hc80
              obtain ⟨v5_0, hr5, h⟩ := Option.bind_eq_some_iff.1 h
              refine ok_callm rfl (fun L5 w5 g5 lt5 => ?_)
              refine (law05_alive.c k  v5_0 hr5  w5 ).mono ?_
              rintro e w5' ⟨rfl, hb5⟩
              refine ⟨(v5_0, ()), rfl, hb5, fun g5' => ?_⟩
              try dsimp only
              have hF := hF.trans g5'
              have hO0_0 := hO0_0.later g5'
              have hO1_0 := hO1_0.later g5'
              refine ok_if (fun hc81 => ?_) (fun hc81 => ?_)
              · have h := bif_t h hc81
                obtain rfl := Option.some.inj h
                intro ρ L w' _ he _ _
                exact ⟨rfl, (hF.ext he).below⟩
              · have h := bif_f h hc81
                obtain rfl := Option.some.inj h
                intro ρ L w' _ he _ _
                exact ⟨rfl, (hF.ext he).below⟩
            · have h := bif_f h hc80
              obtain rfl := Option.some.inj h
              intro ρ L w' _ he _ _
              exact ⟨rfl, (hF.ext he).below⟩
          · have h := bif_f h hc79
            obtain ⟨v4_0, hr4, h⟩ := Option.bind_eq_some_iff.1 h
            refine ok_callm rfl (fun L4 w4 g4 lt4 => ?_)
            refine (ref05_Has.c k _ _ _ l0 a2 v4_0 hr4 rfl w4 (hS0.later (hF.trans g4)).bare).mono ?_
            rintro e w4' ⟨rfl, hb4⟩
            refine ⟨(v4_0, ()), rfl, hb4, fun g4' => ?_⟩
            try dsimp only
            have hF := hF.trans g4'
            have hO0_0 := hO0_0.later g4'
            have hO1_0 := hO1_0.later g4'
            refine ok_if (fun hc82 => ?_) (fun hc82 => ?_)
            · have h := bif_t h hc82
              obtain rfl := Option.some.inj h
              intro ρ L w' _ he _ _
              exact ⟨rfl, (hF.ext he).below⟩
            · have h := bif_f h hc82
              obtain ⟨v5_0, hr5, h⟩ := Option.bind_eq_some_iff.1 h
              refine ok_callm rfl (fun L5 w5 g5 lt5 => ?_)
              refine (law05_alive.c k  v5_0 hr5  w5 ).mono ?_
              rintro e w5' ⟨rfl, hb5⟩
              refine ⟨(v5_0, ()), rfl, hb5, fun g5' => ?_⟩
              try dsimp only
              have hF := hF.trans g5'
              have hO0_0 := hO0_0.later g5'
              have hO1_0 := hO1_0.later g5'
              refine ok_if (fun hc83 => ?_) (fun hc83 => ?_)
              · have h := bif_t h hc83
                obtain rfl := Option.some.inj h
                intro ρ L w' _ he _ _
                exact ⟨rfl, (hF.ext he).below⟩
              · have h := bif_f h hc83
                obtain rfl := Option.some.inj h
                intro ρ L w' _ he _ _
                exact ⟨rfl, (hF.ext he).below⟩
        · have h := bif_f h hc78
          obtain rfl := Option.some.inj h
          intro ρ L w' _ he _ _
          exact ⟨rfl, (hF.ext he).below⟩
      · have h := bif_f h hc77
        obtain ⟨v2_0, hr2, h⟩ := Option.bind_eq_some_iff.1 h
        refine ok_callm rfl (fun L2 w2 g2 lt2 => ?_)
        refine (law05_alive.c k  v2_0 hr2  w2 ).mono ?_
        rintro e w2' ⟨rfl, hb2⟩
        refine ⟨(v2_0, ()), rfl, hb2, fun g2' => ?_⟩
        try dsimp only
        have hF := hF.trans g2'
        have hO0_0 := hO0_0.later g2'
        have hO1_0 := hO1_0.later g2'
        refine ok_if (fun hc84 => ?_) (fun hc84 => ?_)
        · have h := bif_t h hc84
          obtain rfl := Option.some.inj h
          intro ρ L w' _ he _ _
          exact ⟨rfl, (hF.ext he).below⟩
        · have h := bif_f h hc84
          obtain rfl := Option.some.inj h
          intro ρ L w' _ he _ _
          exact ⟨rfl, (hF.ext he).below⟩
/-! ### turnbuckle/turnbucklelaw05.SpansTwice: function 7 -/
def law05_SpansTwice.F (k : Nat) (l0 : List (Int × Int)) (a1_0 : Int) (a1_1 : Int) : Option Bool := (spans_Gaps.F k l0 a1_0 a1_1).bind fun (s0_0, v0_1) => bif v0_1 != 0 then ((ref05_Right.F k l0).bind fun v1_0 => bif v1_0 then ((ref05_Span.F k a1_0 a1_1).bind fun v2_0 => bif v2_0 then (some false) else ((law05_alive.F k ).bind fun v3_0 => bif v3_0 then (some true) else (some false))) else ((law05_alive.F k ).bind fun v2_0 => bif v2_0 then (some true) else (some false))) else (bif decide (256 < ((s0_0.length : Nat) : Int)) then ((law05_alive.F k ).bind fun v1_0 => bif v1_0 then (some true) else (some false)) else ((spans_Gaps.F k s0_0 a1_0 a1_1).bind fun (s1_0, v1_1) => bif v1_1 == 0 then ((spans_Count.F k s0_0).bind fun v2_0 => (spans_Count.F k s1_0).bind fun v3_0 => bif IntKind.wrap IntKind.i64 (v2_0 + v3_0) == IntKind.wrap IntKind.i64 (IntKind.wrap IntKind.i64 (a1_1 - a1_0) + 1) then ((law05_disjoint.F k s0_0 s1_0).bind fun v4_0 => bif v4_0 then ((law05_within.F k s1_0 l0).bind fun v5_0 => bif v5_0 then ((law05_alive.F k ).bind fun v6_0 => bif v6_0 then (some true) else (some false)) else (some false)) else (some false)) else (some false)) else (some false)))
abbrev law05_SpansTwice.A : Nat → LA := noA
set_option maxHeartbeats 4000000 in
theorem law05_SpansTwice.t (A0 : Option Addr) (n0 c0 : Nat) (a1_0 : Int) (a1_1 : Int) : tree Try.prog law05_SpansTwice.A noC Try.f7 [AV.v (Value.slice A0 n0 c0), AV.agg [AV.v (Value.int IntKind.i64 a1_0), AV.v (Value.int IntKind.i64 a1_1)]] [] =
  .need (true) (
  .need (true) (
  .call 22 ([AV.v (Value.slice A0 n0 c0), AV.v (Value.int IntKind.i64 a1_0), AV.v (Value.int IntKind.i64 a1_1)]) ([]) (Sh.tup [(false, 1), (false, 1)]) ([Lf.sl, Lf.i IntKind.i64]) ([]) (fun x0 =>
   bif x0.2.1 != 0 then (
    .call 11 ([AV.v (Value.slice A0 n0 c0)]) ([]) (Sh.one) ([Lf.b]) ([]) (fun x1 =>
     bif x1.1 then (
      .need (true) (
      .need (true) (
      .call 23 ([AV.v (Value.int IntKind.i64 a1_0), AV.v (Value.int IntKind.i64 a1_1)]) ([]) (Sh.one) ([Lf.b]) ([]) (fun x2 =>
       bif x2.1 then (
        .done (AV.v (Value.bool false)) ([]))
       else (
        .call 16 ([]) ([]) (Sh.one) ([Lf.b]) ([]) (fun x3 =>
         bif x3.1 then (
          .done (AV.v (Value.bool true)) ([]))
         else (
          .done (AV.v (Value.bool false)) ([]))))))))
     else (
      .call 16 ([]) ([]) (Sh.one) ([Lf.b]) ([]) (fun x2 =>
       bif x2.1 then (
        .done (AV.v (Value.bool true)) ([]))
       else (
        .done (AV.v (Value.bool false)) ([]))))))
   else (
    bif decide (256 < ((x0.1.2.1 : Nat) : Int)) then (
     .call 16 ([]) ([]) (Sh.one) ([Lf.b]) ([]) (fun x1 =>
      bif x1.1 then (
       .done (AV.v (Value.bool true)) ([]))
      else (
       .done (AV.v (Value.bool false)) ([]))))
    else (
     .need (true) (
     .need (true) (
     .call 22 ([AV.v (Value.slice x0.1.1 x0.1.2.1 x0.1.2.2), AV.v (Value.int IntKind.i64 a1_0), AV.v (Value.int IntKind.i64 a1_1)]) ([]) (Sh.tup [(false, 1), (false, 1)]) ([Lf.sl, Lf.i IntKind.i64]) ([]) (fun x1 =>
      bif x1.2.1 == 0 then (
       .need (true) (
       .need (true) (
       .call 14 ([AV.v (Value.slice x0.1.1 x0.1.2.1 x0.1.2.2)]) ([]) (Sh.one) ([Lf.i IntKind.i64]) ([]) (fun x2 =>
        .call 14 ([AV.v (Value.slice x1.1.1 x1.1.2.1 x1.1.2.2)]) ([]) (Sh.one) ([Lf.i IntKind.i64]) ([]) (fun x3 =>
         bif IntKind.wrap IntKind.i64 (x2.1 + x3.1) == IntKind.wrap IntKind.i64 (IntKind.wrap IntKind.i64 (a1_1 - a1_0) + 1) then (
          .call 24 ([AV.v (Value.slice x0.1.1 x0.1.2.1 x0.1.2.2), AV.v (Value.slice x1.1.1 x1.1.2.1 x1.1.2.2)]) ([]) (Sh.one) ([Lf.b]) ([]) (fun x4 =>
           bif x4.1 then (
            .call 25 ([AV.v (Value.slice x1.1.1 x1.1.2.1 x1.1.2.2), AV.v (Value.slice A0 n0 c0)]) ([]) (Sh.one) ([Lf.b]) ([]) (fun x5 =>
             bif x5.1 then (
              .call 16 ([]) ([]) (Sh.one) ([Lf.b]) ([]) (fun x6 =>
               bif x6.1 then (
                .done (AV.v (Value.bool true)) ([]))
               else (
                .done (AV.v (Value.bool false)) ([]))))
             else (
              .done (AV.v (Value.bool false)) ([]))))
           else (
            .done (AV.v (Value.bool false)) ([]))))
         else (
          .done (AV.v (Value.bool false)) ([])))))))
      else (
       .done (AV.v (Value.bool false)) ([])))))))))) := by kernel_rfl
set_option maxHeartbeats 4000000 in
theorem law05_SpansTwice.c (k : Nat) (A0 : Option Addr) (n0 c0 : Nat) (l0 : List (Int × Int)) (a1_0 : Int) (a1_1 : Int) (r : Bool) (h : law05_SpansTwice.F k l0 a1_0 a1_1 = some r) (hn0 : n0 = l0.length) (w : World) (hS0 : SlR R22.row (fun _ => False) w A0 c0 l0) : Calls Try.prog 7 (AV.gs id [AV.v (Value.slice A0 n0 c0), AV.agg [AV.v (Value.int IntKind.i64 a1_0), AV.v (Value.int IntKind.i64 a1_1)]]).toArray w fun e w' => e = .returned (((Sh.one : Sh).av (vs [Lf.b] (r, ()))).g id) ∧ Below w.heap.size w w' := by
  subst hn0
  refine enter0 mixed law05_SpansTwice.A noC [AV.v (Value.slice A0 l0.length c0), AV.agg [AV.v (Value.int IntKind.i64 a1_0), AV.v (Value.int IntKind.i64 a1_1)]] Try.func7 rfl rfl rfl (fun hF => ?_)
  rw [law05_SpansTwice.t]
  unfold law05_SpansTwice.F at h
  try dsimp only at h
  refine ok_need rfl ?_
  refine ok_need rfl ?_
  obtain ⟨r0, hr0, h⟩ := Option.bind_eq_some_iff.1 h
  obtain ⟨s0_0, v0_1⟩ := r0
  try dsimp only at h
  refine ok_callm rfl (fun L0 w0 g0 lt0 => ?_)
  refine (spans_Gaps.c k _ _ _ l0 a1_0 a1_1 (s0_0, v0_1) hr0 rfl w0 (hS0.later (hF.trans g0)).bare).mono ?_
  rintro e w0' ⟨A0_0, c0_0, rfl, hb0, hO0_0⟩
  refine ⟨((A0_0, s0_0.length, c0_0), v0_1, ()), rfl, hb0, fun g0' => ?_⟩
  try dsimp only
  have hO0_0 := hO0_0.call (hF.trans g0).size lt0
  have hF := hF.trans g0'
  refine ok_if (fun hc2 => ?_) (fun hc2 => ?_)
  · have h := bif_t h hc2
    obtain ⟨v1_0, hr1, h⟩ := Option.bind_eq_some_iff.1 h
    refine ok_callm rfl (fun L1 w1 g1 lt1 => ?_)
    refine (ref05_Right.c k _ _ _ l0 v1_0 hr1 rfl w1 (hS0.later (hF.trans g1)).bare).mono ?_
    rintro e w1' ⟨rfl, hb1⟩
    refine ⟨(v1_0, ()), rfl, hb1, fun g1' => ?_⟩
    try dsimp only
    have hF := hF.trans g1'
    have hO0_0 := hO0_0.later g1'
    refine ok_if (fun hc3 => ?_) (fun hc3 => ?_)
    · have h := bif_t h hc3
      refine ok_need rfl ?_
      refine ok_need rfl ?_
      obtain ⟨v2_0, hr2, h⟩ := Option.bind_eq_some_iff.1 h
      refine ok_callm rfl (fun L2 w2 g2 lt2 => ?_)
      refine (ref05_Span.c k a1_0 a1_1 v2_0 hr2  w2 ).mono ?_
      rintro e w2' ⟨rfl, hb2⟩
      refine ⟨(v2_0, ()), rfl, hb2, fun g2' => ?_⟩
      try dsimp only
      have hF := hF.trans g2'
      have hO0_0 := hO0_0.later g2'
      refine ok_if (fun hc4 => ?_) (fun hc4 => ?_)
      · have h := bif_t h hc4
        obtain rfl := Option.some.inj h
        intro ρ L w' _ he _ _
        exact ⟨rfl, (hF.ext he).below⟩
      · have h := bif_f h hc4
        obtain ⟨v3_0, hr3, h⟩ := Option.bind_eq_some_iff.1 h
        refine ok_callm rfl (fun L3 w3 g3 lt3 => ?_)
        refine (law05_alive.c k  v3_0 hr3  w3 ).mono ?_
        rintro e w3' ⟨rfl, hb3⟩
        refine ⟨(v3_0, ()), rfl, hb3, fun g3' => ?_⟩
        try dsimp only
        have hF := hF.trans g3'
        have hO0_0 := hO0_0.later g3'
        refine ok_if (fun hc5 => ?_) (fun hc5 => ?_)
        · have h := bif_t h hc5
          obtain rfl := Option.some.inj h
          intro ρ L w' _ he _ _
          exact ⟨rfl, (hF.ext he).below⟩
        · have h := bif_f h hc5
          obtain rfl := Option.some.inj h
          intro ρ L w' _ he _ _
          exact ⟨rfl, (hF.ext he).below⟩
    · have h := bif_f h hc3
      obtain ⟨v2_0, hr2, h⟩ := Option.bind_eq_some_iff.1 h
      refine ok_callm rfl (fun L2 w2 g2 lt2 => ?_)
      refine (law05_alive.c k  v2_0 hr2  w2 ).mono ?_
      rintro e w2' ⟨rfl, hb2⟩
      refine ⟨(v2_0, ()), rfl, hb2, fun g2' => ?_⟩
      try dsimp only
      have hF := hF.trans g2'
      have hO0_0 := hO0_0.later g2'
      refine ok_if (fun hc6 => ?_) (fun hc6 => ?_)
      · have h := bif_t h hc6
        obtain rfl := Option.some.inj h
        intro ρ L w' _ he _ _
        exact ⟨rfl, (hF.ext he).below⟩
      · have h := bif_f h hc6
        obtain rfl := Option.some.inj h
        intro ρ L w' _ he _ _
        exact ⟨rfl, (hF.ext he).below⟩
  · have h := bif_f h hc2
    refine ok_if (fun hc7 => ?_) (fun hc7 => ?_)
    · have h := bif_t h hc7
      obtain ⟨v1_0, hr1, h⟩ := Option.bind_eq_some_iff.1 h
      refine ok_callm rfl (fun L1 w1 g1 lt1 => ?_)
      refine (law05_alive.c k  v1_0 hr1  w1 ).mono ?_
      rintro e w1' ⟨rfl, hb1⟩
      refine ⟨(v1_0, ()), rfl, hb1, fun g1' => ?_⟩
      try dsimp only
      have hF := hF.trans g1'
      have hO0_0 := hO0_0.later g1'
      refine ok_if (fun hc8 => ?_) (fun hc8 => ?_)
      · have h := bif_t h hc8
        obtain rfl := Option.some.inj h
        intro ρ L w' _ he _ _
        exact ⟨rfl, (hF.ext he).below⟩
      · have h := bif_f h hc8
        obtain rfl := Option.some.inj h
        intro ρ L w' _ he _ _
        exact ⟨rfl, (hF.ext he).below⟩
    · have h := bif_f h hc7
      refine ok_need rfl ?_
      refine ok_need rfl ?_
      obtain ⟨r1, hr1, h⟩ := Option.bind_eq_some_iff.1 h
      obtain ⟨s1_0, v1_1⟩ := r1
      try dsimp only at h
      refine ok_callm rfl (fun L1 w1 g1 lt1 => ?_)
      refine (spans_Gaps.c k _ _ _ s0_0 a1_0 a1_1 (s1_0, v1_1) hr1 rfl w1 (hO0_0.later g1).sl.bare).mono ?_
      rintro e w1' ⟨A1_0, c1_0, rfl, hb1, hO1_0⟩
      refine ⟨((A1_0, s1_0.length, c1_0), v1_1, ()), rfl, hb1, fun g1' => ?_⟩
      try dsimp only
      have dj_o9_o1 : Dj A1_0 A0_0 := Dj.new hO1_0.fresh (hO0_0.later g1).lt
      have hO1_0 := hO1_0.call (hF.trans g1).size lt1
      have hF := hF.trans g1'
      have hO0_0 := hO0_0.later g1'
      refine ok_if (fun hc10 => ?_) (fun hc10 => ?_)
      · have h := bif_t h hc10
        refine ok_need rfl ?_
        refine ok_need rfl ?_
        obtain ⟨v2_0, hr2, h⟩ := Option.bind_eq_some_iff.1 h
        refine ok_callm rfl (fun L2 w2 g2 lt2 => ?_)
        refine (spans_Count.c k _ _ _ s0_0 v2_0 hr2 rfl w2 (hO0_0.later g2).sl.bare).mono ?_
        rintro e w2' ⟨rfl, hb2⟩
        refine ⟨(v2_0, ()), rfl, hb2, fun g2' => ?_⟩
        try dsimp only
        have hF := hF.trans g2'
        have hO0_0 := hO0_0.later g2'
        have hO1_0 := hO1_0.later g2'
        obtain ⟨v3_0, hr3, h⟩ := Option.bind_eq_some_iff.1 h
        refine ok_callm rfl (fun L3 w3 g3 lt3 => ?_)
        refine (spans_Count.c k _ _ _ s1_0 v3_0 hr3 rfl w3 (hO1_0.later g3).sl.bare).mono ?_
        rintro e w3' ⟨rfl, hb3⟩
        refine ⟨(v3_0, ()), rfl, hb3, fun g3' => ?_⟩
        try dsimp only
        have hF := hF.trans g3'
        have hO0_0 := hO0_0.later g3'
        have hO1_0 := hO1_0.later g3'
        refine ok_if (fun hc11 => ?_) (fun hc11 => ?_)
        · have h := bif_t h hc11
          obtain ⟨v4_0, hr4, h⟩ := Option.bind_eq_some_iff.1 h
          refine ok_callm rfl (fun L4 w4 g4 lt4 => ?_)
          refine (law05_disjoint.c k _ _ _ s0_0 _ _ _ s1_0 v4_0 hr4 rfl rfl w4 (hO0_0.later g4).sl.bare (hO1_0.later g4).sl.bare).mono ?_
          rintro e w4' ⟨rfl, hb4⟩
          refine ⟨(v4_0, ()), rfl, hb4, fun g4' => ?_⟩
          try dsimp only
          have hF := hF.trans g4'
          have hO0_0 := hO0_0.later g4'
          have hO1_0 := hO1_0.later g4'
          refine ok_if (fun hc12 => ?_) (fun hc12 => ?_)
          · have h := bif_t h hc12
            obtain ⟨v5_0, hr5, h⟩ := Option.bind_eq_some_iff.1 h
            refine ok_callm rfl (fun L5 w5 g5 lt5 => ?_)
            refine (law05_within.c k _ _ _ s1_0 _ _ _ l0 v5_0 hr5 rfl rfl w5 (hO1_0.later g5).sl.bare (hS0.later (hF.trans g5)).bare).mono ?_
            rintro e w5' ⟨rfl, hb5⟩
            refine ⟨(v5_0, ()), rfl, hb5, fun g5' => ?_⟩
            try dsimp only
            have hF := hF.trans g5'
            have hO0_0 := hO0_0.later g5'
            have hO1_0 := hO1_0.later g5'
            refine ok_if (fun hc13 => ?_) (fun hc13 => ?_)
            · have h := bif_t h hc13
              obtain ⟨v6_0, hr6, h⟩ := Option.bind_eq_some_iff.1 h
              refine ok_callm rfl (fun L6 w6 g6 lt6 => ?_)
              refine (law05_alive.c k  v6_0 hr6  w6 ).mono ?_
              rintro e w6' ⟨rfl, hb6⟩
              refine ⟨(v6_0, ()), rfl, hb6, fun g6' => ?_⟩
              try dsimp only
              have hF := hF.trans g6'
              have hO0_0 := hO0_0.later g6'
              have hO1_0 := hO1_0.later g6'
              refine ok_if (fun hc14 => ?_) (fun hc14 => ?_)
              · have h := bif_t h hc14
                obtain rfl := Option.some.inj h
                intro ρ L w' _ he _ _
                exact ⟨rfl, (hF.ext he).below⟩
              · have h := bif_f h hc14
                obtain rfl := Option.some.inj h
                intro ρ L w' _ he _ _
                exact ⟨rfl, (hF.ext he).below⟩
            · have h := bif_f h hc13
              obtain rfl := Option.some.inj h
              intro ρ L w' _ he _ _
              exact ⟨rfl, (hF.ext he).below⟩
          · have h := bif_f h hc12
            obtain rfl := Option.some.inj h
            intro ρ L w' _ he _ _
            exact ⟨rfl, (hF.ext he).below⟩
        · have h := bif_f h hc11
          obtain rfl := Option.some.inj h
          intro ρ L w' _ he _ _
          exact ⟨rfl, (hF.ext he).below⟩
      · have h := bif_f h hc10
        obtain rfl := Option.some.inj h
        intro ρ L w' _ he _ _
        exact ⟨rfl, (hF.ext he).below⟩
end Go.Proofs.Ytnfaneojdfjepaa.X
