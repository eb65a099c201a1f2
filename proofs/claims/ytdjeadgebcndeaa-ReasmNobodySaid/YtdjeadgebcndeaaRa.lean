/- Functions: their trees, functions over lists that answer as they do, and that they do. -/
import Derived.Test.YtdjeadgebcndeaaRxU
import Derived.Test.YtdjeadgebcndeaaRxSeat
import Derived.Test.YtdjeadgebcndeaaProg
namespace Go.Proofs.Ytdjeadgebcndeaa.X
open Go Go.RowKit Go.Proofs.YtdjeadgebcndeaaW.Rx
set_option linter.unusedVariables false
set_option linter.unusedSimpArgs false
set_option maxRecDepth 10000
@[reducible] def R22 : FRow Int := ⟨1, by decide, fun x => [Value.int IntKind.u8 x], fun _ => rfl, fun x u h => by
  simp only [List.mem_cons, List.not_mem_nil, or_false] at h
  rcases h with rfl <;> rfl⟩
theorem E22 : Elem Try.prog 22 5 1 1 := ⟨rfl, _, _, rfl, rfl, rfl, rfl, rfl⟩
@[reducible] def R23 : FRow (Int × Int) := ⟨2, by decide, fun x => [Value.int IntKind.u8 x.1, Value.int IntKind.u8 x.2], fun _ => rfl, fun x u h => by
  simp only [List.mem_cons, List.not_mem_nil, or_false] at h
  rcases h with rfl | rfl <;> rfl⟩
theorem E23 : Elem Try.prog 23 30 2 2 := ⟨rfl, _, _, rfl, rfl, rfl, rfl, rfl⟩
@[reducible] def R43 : FRow (Int × Int) := ⟨2, by decide, fun x => [Value.int IntKind.i64 x.1, Value.int IntKind.i64 x.2], fun _ => rfl, fun x u h => by
  simp only [List.mem_cons, List.not_mem_nil, or_false] at h
  rcases h with rfl | rfl <;> rfl⟩
theorem E43 : Elem Try.prog 43 51 2 16 := ⟨rfl, _, _, rfl, rfl, rfl, rfl, rfl⟩
@[reducible] def R35 : Row (Int × Int × (List Int) × Bool) := ⟨4, by decide, fun L w x cs => ∃ (A2 : Option Addr) (n2 c2 : Nat), cs = [Value.int IntKind.u8 x.1, Value.int IntKind.i64 x.2.1, Lf.V .sl (A2, n2, c2), Value.bool x.2.2.2] ∧ n2 = (x.2.2.1).length ∧ SlR R22.row L w A2 c2 x.2.2.1,
  fun ⟨A2, n2, c2, e, m2, h2⟩ => by rw [e]; rfl, fun ⟨A2, n2, c2, e, m2, h2⟩ g => ⟨A2, n2, c2, e, m2, h2.later g⟩, fun ⟨A2, n2, c2, e, m2, h2⟩ g => ⟨A2, n2, c2, e, m2, h2.mono g⟩, fun ⟨A2, n2, c2, e, m2, h2⟩ u hu => by
    rw [e] at hu
    simp only [List.mem_cons, List.not_mem_nil, or_false] at hu
    rcases hu with rfl | rfl | rfl | rfl <;> rfl⟩
theorem E35 : Elem Try.prog 35 37 4 48 := ⟨rfl, _, _, rfl, rfl, rfl, rfl, rfl⟩
@[reducible] def R9045 : Row (Int × Int × (List Int) × (List (Int × Int)) × Int × Bool × Bool) := ⟨7, by decide, fun L w x cs => ∃ (A2 : Option Addr) (n2 c2 : Nat) (A3 : Option Addr) (n3 c3 : Nat), cs = [Value.int IntKind.i64 x.1, Value.int IntKind.i64 x.2.1, Lf.V .sl (A2, n2, c2), Lf.V .sl (A3, n3, c3), Value.int IntKind.i64 x.2.2.2.2.1, Value.bool x.2.2.2.2.2.1, Value.bool x.2.2.2.2.2.2] ∧ n2 = (x.2.2.1).length ∧ SlR R22.row L w A2 c2 x.2.2.1 ∧ n3 = (x.2.2.2.1).length ∧ SlR R43.row L w A3 c3 x.2.2.2.1,
  fun ⟨A2, n2, c2, A3, n3, c3, e, m2, h2, m3, h3⟩ => by rw [e]; rfl, fun ⟨A2, n2, c2, A3, n3, c3, e, m2, h2, m3, h3⟩ g => ⟨A2, n2, c2, A3, n3, c3, e, m2, h2.later g, m3, h3.later g⟩, fun ⟨A2, n2, c2, A3, n3, c3, e, m2, h2, m3, h3⟩ g => ⟨A2, n2, c2, A3, n3, c3, e, m2, h2.mono g, m3, h3.mono g⟩, fun ⟨A2, n2, c2, A3, n3, c3, e, m2, h2, m3, h3⟩ u hu => by
    rw [e] at hu
    simp only [List.mem_cons, List.not_mem_nil, or_false] at hu
    rcases hu with rfl | rfl | rfl | rfl | rfl | rfl | rfl <;> rfl⟩
@[reducible] def RW45 : FRow (Int × Int × (Option Addr × Nat × Nat) × (Option Addr × Nat × Nat) × Int × Bool × Bool) := ⟨7, by decide, fun x => [Value.int IntKind.i64 x.1, Value.int IntKind.i64 x.2.1, Lf.V .sl (x.2.2.1), Lf.V .sl (x.2.2.2.1), Value.int IntKind.i64 x.2.2.2.2.1, Value.bool x.2.2.2.2.2.1, Value.bool x.2.2.2.2.2.2], fun _ => rfl, fun x u h => by
  simp only [List.mem_cons, List.not_mem_nil, or_false] at h
  rcases h with rfl | rfl | rfl | rfl | rfl | rfl | rfl <;> rfl⟩
theorem obr45 {L : Nat → Prop} {w : World} {a : Option Addr} {s0 : Int} {s1 : Int} {s2 : List Int} {s3 : List (Int × Int)} {s4 : Int} {s5 : Bool} {s6 : Bool} {A2 : Option Addr} {c2 : Nat} {A3 : Option Addr} {c3 : Nat} (h : SlR RW45.row L w a 1 [(s0, s1, (A2, s2.length, c2), (A3, s3.length, c3), s4, s5, s6)]) (h2 : SlR R22.row L w A2 c2 s2) (h3 : SlR R43.row L w A3 c3 s3) : ObR R9045 L w a (some (s0, s1, s2, s3, s4, s5, s6)) := by
  refine ⟨h.some (by simp), ?_⟩
  obtain ⟨⟨cs, g1, g2⟩, g3⟩ := h
  obtain rfl := reps_flat.1 g2
  exact ⟨⟨_, g1, ⟨_, [], (List.append_nil _).symm, ⟨_, _, _, _, _, _, rfl, rfl, h2, rfl, h3⟩, rfl⟩⟩, g3⟩
/-! ### (*turnbuckle/reasm.Stream).ok: function 21 -/
def reasm_Stream_ok.F (k : Nat) (ob0 : Option (Int × Int × (List Int) × (List (Int × Int)) × Int × Bool × Bool)) : Option Bool := bif !Option.isNone ob0 then ((ob0).bind fun r2 => bif decide (0 < r2.1) then (some true) else (some false)) else (some false)
abbrev reasm_Stream_ok.A : Nat → LA := noA
set_option maxHeartbeats 4000000 in
theorem reasm_Stream_ok.t (a0 : Option Addr) : tree Try.prog reasm_Stream_ok.A noC Try.f21 [AV.v (Value.pointer a0)] [] =
  bif !Option.isNone a0 then (
   .need (Option.isSome a0) (
   .need (Option.isSome a0) (
   .ld (Option.map (fun x => Addr.add x 0) a0) ([Lf.i IntKind.i64]) (fun x0 =>
    bif decide (0 < x0.1) then (
     .done (AV.v (Value.bool true)) ([]))
    else (
     .done (AV.v (Value.bool false)) ([]))))))
  else (
   .done (AV.v (Value.bool false)) ([])) := by kernel_rfl
set_option maxHeartbeats 4000000 in
theorem reasm_Stream_ok.c (k : Nat) (a0 : Option Addr) (ob0 : Option (Int × Int × (List Int) × (List (Int × Int)) × Int × Bool × Bool)) (r : Bool) (h : reasm_Stream_ok.F k ob0 = some r)  (w : World) (hB0 : ObR R9045 (fun _ => False) w a0 ob0) : Calls Try.prog 21 (AV.gs id [AV.v (Value.pointer a0)]).toArray w fun e w' => e = .returned (((Sh.one : Sh).av (vs [Lf.b] (r, ()))).g id) ∧ Below w.heap.size w w' := by
  refine enter0 mixed reasm_Stream_ok.A noC [AV.v (Value.pointer a0)] Try.func21 rfl rfl rfl (fun hF => ?_)
  rw [reasm_Stream_ok.t]
  try rw [hB0.none]
  unfold reasm_Stream_ok.F at h
  try dsimp only at h
  refine ok_if (fun hc1 => ?_) (fun hc1 => ?_)
  · have h := bif_t h hc1
    obtain ⟨r2, hr3, h⟩ := Option.bind_eq_some_iff.1 h
    refine ok_need (hB0.need hr3) ?_
    refine ok_need (hB0.need hr3) ?_
    refine ok_ob 0 (hB0.sl hr3) hF (fun cs hcs => ?_)
    obtain ⟨A0_2, q0_2, c0_2, A0_3, q0_3, c0_3, rfl, hm0_2, hE0_2, hm0_3, hE0_3⟩ := hcs
    subst hm0_2
    subst hm0_3
    refine ⟨r2.1, rfl, ?_⟩
    try dsimp only
    refine ok_if (fun hc6 => ?_) (fun hc6 => ?_)
    · have h := bif_t h hc6
      obtain rfl := Option.some.inj h
      intro ρ L w' _ he _ _
      exact ⟨rfl, (hF.ext he).below⟩
    · have h := bif_f h hc6
      obtain rfl := Option.some.inj h
      intro ρ L w' _ he _ _
      exact ⟨rfl, (hF.ext he).below⟩
  · have h := bif_f h hc1
    obtain rfl := Option.some.inj h
    intro ρ L w' _ he _ _
    exact ⟨rfl, (hF.ext he).below⟩
/-! ### (*turnbuckle/reasm.Stream).last: function 22 -/
def reasm_Stream_last.F (k : Nat) (ob0 : Option (Int × Int × (List Int) × (List (Int × Int)) × Int × Bool × Bool)) : Option Int := (ob0).bind fun r1 => bif (((r1.2.2.2.1).length : Nat) : Int) == 0 then (some r1.2.1) else ((getI r1.2.2.2.1 (IntKind.wrap IntKind.i64 ((((r1.2.2.2.1).length : Nat) : Int) - 1))).bind fun r12 => some ((IntKind.wrap IntKind.i64 (r12.2 + 1))))
abbrev reasm_Stream_last.A : Nat → LA := noA
set_option maxHeartbeats 4000000 in
theorem reasm_Stream_last.t (a0 : Option Addr) : tree Try.prog reasm_Stream_last.A noC Try.f22 [AV.v (Value.pointer a0)] [] =
  .need (Option.isSome a0) (
  .need (Option.isSome a0) (
  .ld (Option.map (fun x => Addr.add x 3) a0) ([Lf.sl]) (fun x0 =>
   bif ((x0.1.2.1 : Nat) : Int) == 0 then (
    .need (Option.isSome a0) (
    .need (Option.isSome a0) (
    .ld (Option.map (fun x => Addr.add x 1) a0) ([Lf.i IntKind.i64]) (fun x1 =>
     .done (AV.v (Value.int IntKind.i64 x1.1)) ([])))))
   else (
    .need (Option.isSome a0) (
    .need (Option.isSome a0) (
    .ld (Option.map (fun x => Addr.add x 3) a0) ([Lf.sl]) (fun x1 =>
     .need (Option.isSome a0) (
     .need (Option.isSome a0) (
     .ld (Option.map (fun x => Addr.add x 3) a0) ([Lf.sl]) (fun x2 =>
      .need (decide (0 ≤ IntKind.wrap IntKind.i64 (((x2.1.2.1 : Nat) : Int) - 1)) && decide (IntKind.wrap IntKind.i64 (((x2.1.2.1 : Nat) : Int) - 1) < ((x1.1.2.1 : Nat) : Int)) && Option.isSome x1.1.1) (
      .need (Option.isSome (Option.map (fun x => Addr.add x (Int.toNat (IntKind.wrap IntKind.i64 (((x2.1.2.1 : Nat) : Int) - 1)) * 2)) x1.1.1)) (
      .ld (Option.map (fun x => Addr.add x 1) (Option.map (fun x => Addr.add x (Int.toNat (IntKind.wrap IntKind.i64 (((x2.1.2.1 : Nat) : Int) - 1)) * 2)) x1.1.1)) ([Lf.i IntKind.i64]) (fun x3 =>
       .done (AV.v (Value.int IntKind.i64 (IntKind.wrap IntKind.i64 (x3.1 + 1)))) ([])))))))))))))) := by kernel_rfl
set_option maxHeartbeats 4000000 in
theorem reasm_Stream_last.c (k : Nat) (a0 : Option Addr) (ob0 : Option (Int × Int × (List Int) × (List (Int × Int)) × Int × Bool × Bool)) (r : Int) (h : reasm_Stream_last.F k ob0 = some r)  (w : World) (hB0 : ObR R9045 (fun _ => False) w a0 ob0) : Calls Try.prog 22 (AV.gs id [AV.v (Value.pointer a0)]).toArray w fun e w' => e = .returned (((Sh.one : Sh).av (vs [Lf.i IntKind.i64] (r, ()))).g id) ∧ Below w.heap.size w w' := by
  refine enter0 mixed reasm_Stream_last.A noC [AV.v (Value.pointer a0)] Try.func22 rfl rfl rfl (fun hF => ?_)
  rw [reasm_Stream_last.t]
  try rw [hB0.none]
  unfold reasm_Stream_last.F at h
  try dsimp only at h
  obtain ⟨r1, hr2, h⟩ := Option.bind_eq_some_iff.1 h
  refine ok_need (hB0.need hr2) ?_
  refine ok_need (hB0.need hr2) ?_
  refine ok_ob 3 (hB0.sl hr2) hF (fun cs hcs => ?_)
  obtain ⟨A0_2, q0_2, c0_2, A0_3, q0_3, c0_3, rfl, hm0_2, hE0_2, hm0_3, hE0_3⟩ := hcs
  subst hm0_2
  subst hm0_3
  refine ⟨(A0_3, (r1.2.2.2.1).length, c0_3), rfl, ?_⟩
  try dsimp only
  refine ok_if (fun hc5 => ?_) (fun hc5 => ?_)
  · have h := bif_t h hc5
    refine ok_need (hB0.need hr2) ?_
    refine ok_need (hB0.need hr2) ?_
    refine ok_ob 1 (hB0.sl hr2) hF (fun cs hcs => ?_)
    obtain ⟨A1_2, q1_2, c1_2, A1_3, q1_3, c1_3, rfl, hm1_2, hE1_2, hm1_3, hE1_3⟩ := hcs
    subst hm1_2
    subst hm1_3
    refine ⟨r1.2.1, rfl, ?_⟩
    try dsimp only
    obtain rfl := Option.some.inj h
    intro ρ L w' _ he _ _
    exact ⟨rfl, (hF.ext he).below⟩
  · have h := bif_f h hc5
    refine ok_need (hB0.need hr2) ?_
    refine ok_need (hB0.need hr2) ?_
    refine ok_ob 3 (hB0.sl hr2) hF (fun cs hcs => ?_)
    obtain ⟨A1_2, q1_2, c1_2, A1_3, q1_3, c1_3, rfl, hm1_2, hE1_2, hm1_3, hE1_3⟩ := hcs
    subst hm1_2
    subst hm1_3
    refine ⟨(A1_3, (r1.2.2.2.1).length, c1_3), rfl, ?_⟩
    try dsimp only
    refine ok_need (hB0.need hr2) ?_
    refine ok_need (hB0.need hr2) ?_
    refine ok_ob 3 (hB0.sl hr2) hF (fun cs hcs => ?_)
    obtain ⟨A2_2, q2_2, c2_2, A2_3, q2_3, c2_3, rfl, hm2_2, hE2_2, hm2_3, hE2_3⟩ := hcs
    subst hm2_2
    subst hm2_3
    refine ⟨(A2_3, (r1.2.2.2.1).length, c2_3), rfl, ?_⟩
    try dsimp only
    obtain ⟨r12, hr13, h⟩ := Option.bind_eq_some_iff.1 h
    refine ok_need (getI_need (hE1_3.later hF) hr13) ?_
    refine ok_need (getI_need2 (hE1_3.later hF) hr13) ?_
    refine ok_getf 1 hE1_3 hF hr13 (fun cs hcs => ⟨r12.2, by rw [hcs]; rfl, ?_⟩)
    try dsimp only
    obtain rfl := Option.some.inj h
    intro ρ L w' _ he _ _
    exact ⟨rfl, (hF.ext he).below⟩
/-! ### (*turnbuckle/reasm.Stream).Limit: function 18 -/
def reasm_Stream_Limit.F (k : Nat) (ob0 : Option (Int × Int × (List Int) × (List (Int × Int)) × Int × Bool × Bool)) : Option Int := (reasm_Stream_ok.F k ob0).bind fun v0_0 => bif v0_0 then ((ob0).bind fun r2 => some ((IntKind.wrap IntKind.i64 (r2.2.1 + r2.1)))) else (some 0)
abbrev reasm_Stream_Limit.A : Nat → LA := noA
set_option maxHeartbeats 4000000 in
theorem reasm_Stream_Limit.t (a0 : Option Addr) : tree Try.prog reasm_Stream_Limit.A noC Try.f18 [AV.v (Value.pointer a0)] [] =
  .call 21 ([AV.v (Value.pointer a0)]) ([]) (Sh.one) ([Lf.b]) ([]) (fun x0 =>
   bif x0.1 then (
    .need (Option.isSome a0) (
    .need (Option.isSome a0) (
    .ld (Option.map (fun x => Addr.add x 1) a0) ([Lf.i IntKind.i64]) (fun x1 =>
     .need (Option.isSome a0) (
     .need (Option.isSome a0) (
     .ld (Option.map (fun x => Addr.add x 0) a0) ([Lf.i IntKind.i64]) (fun x2 =>
      .done (AV.v (Value.int IntKind.i64 (IntKind.wrap IntKind.i64 (x1.1 + x2.1)))) ([]))))))))
   else (
    .done (AV.v (Value.int IntKind.i64 0)) ([]))) := by kernel_rfl
set_option maxHeartbeats 4000000 in
theorem reasm_Stream_Limit.c (k : Nat) (a0 : Option Addr) (ob0 : Option (Int × Int × (List Int) × (List (Int × Int)) × Int × Bool × Bool)) (r : Int) (h : reasm_Stream_Limit.F k ob0 = some r)  (w : World) (hB0 : ObR R9045 (fun _ => False) w a0 ob0) : Calls Try.prog 18 (AV.gs id [AV.v (Value.pointer a0)]).toArray w fun e w' => e = .returned (((Sh.one : Sh).av (vs [Lf.i IntKind.i64] (r, ()))).g id) ∧ Below w.heap.size w w' := by
  refine enter0 mixed reasm_Stream_Limit.A noC [AV.v (Value.pointer a0)] Try.func18 rfl rfl rfl (fun hF => ?_)
  rw [reasm_Stream_Limit.t]
  try rw [hB0.none]
  unfold reasm_Stream_Limit.F at h
  try dsimp only at h
  obtain ⟨v0_0, hr0, h⟩ := Option.bind_eq_some_iff.1 h
  refine ok_callm rfl (fun L0 w0 g0 lt0 => ?_)
  refine (reasm_Stream_ok.c k _ ob0 v0_0 hr0  w0 (hB0.later (hF.trans g0)).bare).mono ?_
  rintro e w0' ⟨rfl, hb0⟩
  refine ⟨(v0_0, ()), rfl, hb0, fun g0' => ?_⟩
  try dsimp only
  have hF := hF.trans g0'
  refine ok_if (fun hc1 => ?_) (fun hc1 => ?_)
  · have h := bif_t h hc1
    obtain ⟨r2, hr3, h⟩ := Option.bind_eq_some_iff.1 h
    refine ok_need (hB0.need hr3) ?_
    refine ok_need (hB0.need hr3) ?_
    refine ok_ob 1 (hB0.sl hr3) hF (fun cs hcs => ?_)
    obtain ⟨A1_2, q1_2, c1_2, A1_3, q1_3, c1_3, rfl, hm1_2, hE1_2, hm1_3, hE1_3⟩ := hcs
    subst hm1_2
    subst hm1_3
    refine ⟨r2.2.1, rfl, ?_⟩
    try dsimp only
    refine ok_need (hB0.need hr3) ?_
    refine ok_need (hB0.need hr3) ?_
    refine ok_ob 0 (hB0.sl hr3) hF (fun cs hcs => ?_)
    obtain ⟨A2_2, q2_2, c2_2, A2_3, q2_3, c2_3, rfl, hm2_2, hE2_2, hm2_3, hE2_3⟩ := hcs
    subst hm2_2
    subst hm2_3
    refine ⟨r2.1, rfl, ?_⟩
    try dsimp only
    obtain rfl := Option.some.inj h
    intro ρ L w' _ he _ _
    exact ⟨rfl, (hF.ext he).below⟩
  · have h := bif_f h hc1
    obtain rfl := Option.some.inj h
    intro ρ L w' _ he _ _
    exact ⟨rfl, (hF.ext he).below⟩
/-! ### (*turnbuckle/reasm.Stream).At: function 14 -/
def reasm_Stream_At.F (k : Nat) (ob0 : Option (Int × Int × (List Int) × (List (Int × Int)) × Int × Bool × Bool)) : Option Int := (reasm_Stream_ok.F k ob0).bind fun v0_0 => bif v0_0 then ((ob0).bind fun r2 => some r2.2.1) else (some 0)
abbrev reasm_Stream_At.A : Nat → LA := noA
set_option maxHeartbeats 4000000 in
theorem reasm_Stream_At.t (a0 : Option Addr) : tree Try.prog reasm_Stream_At.A noC Try.f14 [AV.v (Value.pointer a0)] [] =
  .call 21 ([AV.v (Value.pointer a0)]) ([]) (Sh.one) ([Lf.b]) ([]) (fun x0 =>
   bif x0.1 then (
    .need (Option.isSome a0) (
    .need (Option.isSome a0) (
    .ld (Option.map (fun x => Addr.add x 1) a0) ([Lf.i IntKind.i64]) (fun x1 =>
     .done (AV.v (Value.int IntKind.i64 x1.1)) ([])))))
   else (
    .done (AV.v (Value.int IntKind.i64 0)) ([]))) := by kernel_rfl
set_option maxHeartbeats 4000000 in
theorem reasm_Stream_At.c (k : Nat) (a0 : Option Addr) (ob0 : Option (Int × Int × (List Int) × (List (Int × Int)) × Int × Bool × Bool)) (r : Int) (h : reasm_Stream_At.F k ob0 = some r)  (w : World) (hB0 : ObR R9045 (fun _ => False) w a0 ob0) : Calls Try.prog 14 (AV.gs id [AV.v (Value.pointer a0)]).toArray w fun e w' => e = .returned (((Sh.one : Sh).av (vs [Lf.i IntKind.i64] (r, ()))).g id) ∧ Below w.heap.size w w' := by
  refine enter0 mixed reasm_Stream_At.A noC [AV.v (Value.pointer a0)] Try.func14 rfl rfl rfl (fun hF => ?_)
  rw [reasm_Stream_At.t]
  try rw [hB0.none]
  unfold reasm_Stream_At.F at h
  try dsimp only at h
  obtain ⟨v0_0, hr0, h⟩ := Option.bind_eq_some_iff.1 h
  refine ok_callm rfl (fun L0 w0 g0 lt0 => ?_)
  refine (reasm_Stream_ok.c k _ ob0 v0_0 hr0  w0 (hB0.later (hF.trans g0)).bare).mono ?_
  rintro e w0' ⟨rfl, hb0⟩
  refine ⟨(v0_0, ()), rfl, hb0, fun g0' => ?_⟩
  try dsimp only
  have hF := hF.trans g0'
  refine ok_if (fun hc1 => ?_) (fun hc1 => ?_)
  · have h := bif_t h hc1
    obtain ⟨r2, hr3, h⟩ := Option.bind_eq_some_iff.1 h
    refine ok_need (hB0.need hr3) ?_
    refine ok_need (hB0.need hr3) ?_
    refine ok_ob 1 (hB0.sl hr3) hF (fun cs hcs => ?_)
    obtain ⟨A1_2, q1_2, c1_2, A1_3, q1_3, c1_3, rfl, hm1_2, hE1_2, hm1_3, hE1_3⟩ := hcs
    subst hm1_2
    subst hm1_3
    refine ⟨r2.2.1, rfl, ?_⟩
    try dsimp only
    obtain rfl := Option.some.inj h
    intro ρ L w' _ he _ _
    exact ⟨rfl, (hF.ext he).below⟩
  · have h := bif_f h hc1
    obtain rfl := Option.some.inj h
    intro ρ L w' _ he _ _
    exact ⟨rfl, (hF.ext he).below⟩
/-! ### (*turnbuckle/reasm.Stream).Ready: function 20 -/
def reasm_Stream_Ready.F (k : Nat) (ob0 : Option (Int × Int × (List Int) × (List (Int × Int)) × Int × Bool × Bool)) : Option Int := (reasm_Stream_ok.F k ob0).bind fun v0_0 => bif v0_0 then ((ob0).bind fun r2 => bif (((r2.2.2.2.1).length : Nat) : Int) == 0 then (some 0) else ((getI r2.2.2.2.1 0).bind fun r9 => bif decide (r2.2.1 < r9.1) then (some 0) else ((getI r2.2.2.2.1 0).bind fun r16 => some ((IntKind.wrap IntKind.i64 (IntKind.wrap IntKind.i64 (r16.2 + 1) - r2.2.1)))))) else (some 0)
abbrev reasm_Stream_Ready.A : Nat → LA := noA
set_option maxHeartbeats 4000000 in
theorem reasm_Stream_Ready.t (a0 : Option Addr) : tree Try.prog reasm_Stream_Ready.A noC Try.f20 [AV.v (Value.pointer a0)] [] =
  .call 21 ([AV.v (Value.pointer a0)]) ([]) (Sh.one) ([Lf.b]) ([]) (fun x0 =>
   bif x0.1 then (
    .need (Option.isSome a0) (
    .need (Option.isSome a0) (
    .ld (Option.map (fun x => Addr.add x 3) a0) ([Lf.sl]) (fun x1 =>
     bif ((x1.1.2.1 : Nat) : Int) == 0 then (
      .done (AV.v (Value.int IntKind.i64 0)) ([]))
     else (
      .need (Option.isSome a0) (
      .need (Option.isSome a0) (
      .ld (Option.map (fun x => Addr.add x 3) a0) ([Lf.sl]) (fun x2 =>
       .need (true && decide (0 < ((x2.1.2.1 : Nat) : Int)) && Option.isSome x2.1.1) (
       .need (Option.isSome (Option.map (fun x => Addr.add x 0) x2.1.1)) (
       .ld (Option.map (fun x => Addr.add x 0) (Option.map (fun x => Addr.add x 0) x2.1.1)) ([Lf.i IntKind.i64]) (fun x3 =>
        .need (Option.isSome a0) (
        .need (Option.isSome a0) (
        .ld (Option.map (fun x => Addr.add x 1) a0) ([Lf.i IntKind.i64]) (fun x4 =>
         bif decide (x4.1 < x3.1) then (
          .done (AV.v (Value.int IntKind.i64 0)) ([]))
         else (
          .need (Option.isSome a0) (
          .need (Option.isSome a0) (
          .ld (Option.map (fun x => Addr.add x 3) a0) ([Lf.sl]) (fun x5 =>
           .need (true && decide (0 < ((x5.1.2.1 : Nat) : Int)) && Option.isSome x5.1.1) (
           .need (Option.isSome (Option.map (fun x => Addr.add x 0) x5.1.1)) (
           .ld (Option.map (fun x => Addr.add x 1) (Option.map (fun x => Addr.add x 0) x5.1.1)) ([Lf.i IntKind.i64]) (fun x6 =>
            .need (Option.isSome a0) (
            .need (Option.isSome a0) (
            .ld (Option.map (fun x => Addr.add x 1) a0) ([Lf.i IntKind.i64]) (fun x7 =>
             .done (AV.v (Value.int IntKind.i64 (IntKind.wrap IntKind.i64 (IntKind.wrap IntKind.i64 (x6.1 + 1) - x7.1)))) ([])))))))))))))))))))))))))
   else (
    .done (AV.v (Value.int IntKind.i64 0)) ([]))) := by kernel_rfl
set_option maxHeartbeats 4000000 in
theorem reasm_Stream_Ready.c (k : Nat) (a0 : Option Addr) (ob0 : Option (Int × Int × (List Int) × (List (Int × Int)) × Int × Bool × Bool)) (r : Int) (h : reasm_Stream_Ready.F k ob0 = some r)  (w : World) (hB0 : ObR R9045 (fun _ => False) w a0 ob0) : Calls Try.prog 20 (AV.gs id [AV.v (Value.pointer a0)]).toArray w fun e w' => e = .returned (((Sh.one : Sh).av (vs [Lf.i IntKind.i64] (r, ()))).g id) ∧ Below w.heap.size w w' := by
  refine enter0 mixed reasm_Stream_Ready.A noC [AV.v (Value.pointer a0)] Try.func20 rfl rfl rfl (fun hF => ?_)
  rw [reasm_Stream_Ready.t]
  try rw [hB0.none]
  unfold reasm_Stream_Ready.F at h
  try dsimp only at h
  obtain ⟨v0_0, hr0, h⟩ := Option.bind_eq_some_iff.1 h
  refine ok_callm rfl (fun L0 w0 g0 lt0 => ?_)
  refine (reasm_Stream_ok.c k _ ob0 v0_0 hr0  w0 (hB0.later (hF.trans g0)).bare).mono ?_
  rintro e w0' ⟨rfl, hb0⟩
  refine ⟨(v0_0, ()), rfl, hb0, fun g0' => ?_⟩
  try dsimp only
  have hF := hF.trans g0'
  refine ok_if (fun hc1 => ?_) (fun hc1 => ?_)
  · have h := bif_t h hc1
    obtain ⟨r2, hr3, h⟩ := Option.bind_eq_some_iff.1 h
    refine ok_need (hB0.need hr3) ?_
    refine ok_need (hB0.need hr3) ?_
    refine ok_ob 3 (hB0.sl hr3) hF (fun cs hcs => ?_)
    obtain ⟨A1_2, q1_2, c1_2, A1_3, q1_3, c1_3, rfl, hm1_2, hE1_2, hm1_3, hE1_3⟩ := hcs
    subst hm1_2
    subst hm1_3
    refine ⟨(A1_3, (r2.2.2.2.1).length, c1_3), rfl, ?_⟩
    try dsimp only
    refine ok_if (fun hc6 => ?_) (fun hc6 => ?_)
    · have h := bif_t h hc6
      obtain rfl := Option.some.inj h
      intro ρ L w' _ he _ _
      exact ⟨rfl, (hF.ext he).below⟩
    · have h := bif_f h hc6
      refine ok_need (hB0.need hr3) ?_
      refine ok_need (hB0.need hr3) ?_
      refine ok_ob 3 (hB0.sl hr3) hF (fun cs hcs => ?_)
      obtain ⟨A2_2, q2_2, c2_2, A2_3, q2_3, c2_3, rfl, hm2_2, hE2_2, hm2_3, hE2_3⟩ := hcs
      subst hm2_2
      subst hm2_3
      refine ⟨(A2_3, (r2.2.2.2.1).length, c2_3), rfl, ?_⟩
      try dsimp only
      obtain ⟨r9, hr10, h⟩ := Option.bind_eq_some_iff.1 h
      refine ok_need (getI_need (hE2_3.later hF) hr10) ?_
      refine ok_need (getI_need2 (hE2_3.later hF) hr10) ?_
      refine ok_getf 0 hE2_3 hF hr10 (fun cs hcs => ⟨r9.1, by rw [hcs]; rfl, ?_⟩)
      try dsimp only
      refine ok_need (hB0.need hr3) ?_
      refine ok_need (hB0.need hr3) ?_
      refine ok_ob 1 (hB0.sl hr3) hF (fun cs hcs => ?_)
      obtain ⟨A4_2, q4_2, c4_2, A4_3, q4_3, c4_3, rfl, hm4_2, hE4_2, hm4_3, hE4_3⟩ := hcs
      subst hm4_2
      subst hm4_3
      refine ⟨r2.2.1, rfl, ?_⟩
      try dsimp only
      refine ok_if (fun hc13 => ?_) (fun hc13 => ?_)
      · have h := bif_t h hc13
        obtain rfl := Option.some.inj h
        intro ρ L w' _ he _ _
        exact ⟨rfl, (hF.ext he).below⟩
      · have h := bif_f h hc13
        refine ok_need (hB0.need hr3) ?_
        refine ok_need (hB0.need hr3) ?_
        refine ok_ob 3 (hB0.sl hr3) hF (fun cs hcs => ?_)
        obtain ⟨A5_2, q5_2, c5_2, A5_3, q5_3, c5_3, rfl, hm5_2, hE5_2, hm5_3, hE5_3⟩ := hcs
        subst hm5_2
        subst hm5_3
        refine ⟨(A5_3, (r2.2.2.2.1).length, c5_3), rfl, ?_⟩
        try dsimp only
        obtain ⟨r16, hr17, h⟩ := Option.bind_eq_some_iff.1 h
        refine ok_need (getI_need (hE5_3.later hF) hr17) ?_
        refine ok_need (getI_need2 (hE5_3.later hF) hr17) ?_
        refine ok_getf 1 hE5_3 hF hr17 (fun cs hcs => ⟨r16.2, by rw [hcs]; rfl, ?_⟩)
        try dsimp only
        refine ok_need (hB0.need hr3) ?_
        refine ok_need (hB0.need hr3) ?_
        refine ok_ob 1 (hB0.sl hr3) hF (fun cs hcs => ?_)
        obtain ⟨A7_2, q7_2, c7_2, A7_3, q7_3, c7_3, rfl, hm7_2, hE7_2, hm7_3, hE7_3⟩ := hcs
        subst hm7_2
        subst hm7_3
        refine ⟨r2.2.1, rfl, ?_⟩
        try dsimp only
        obtain rfl := Option.some.inj h
        intro ρ L w' _ he _ _
        exact ⟨rfl, (hF.ext he).below⟩
  · have h := bif_f h hc1
    obtain rfl := Option.some.inj h
    intro ρ L w' _ he _ _
    exact ⟨rfl, (hF.ext he).below⟩
/-! ### (*turnbuckle/reasm.Stream).Held: function 19 -/
def reasm_Stream_Held.s2 (k : Nat) (r2 : Int × Int × (List Int) × (List (Int × Int)) × Int × Bool × Bool) : (Int × Int) → Option (Sum (Int × Int) Int) := fun (v2_0, v2_1) => bif decide (v2_1 < (((r2.2.2.2.1).length : Nat) : Int)) then ((getI r2.2.2.2.1 v2_1).bind fun r8 => some (.inl ((IntKind.wrap IntKind.i64 (v2_0 + IntKind.wrap IntKind.i64 (IntKind.wrap IntKind.i64 (r8.2 - r8.1) + 1)), IntKind.wrap IntKind.i64 (v2_1 + 1))))) else (some (.inr v2_0))
def reasm_Stream_Held.F (k : Nat) (ob0 : Option (Int × Int × (List Int) × (List (Int × Int)) × Int × Bool × Bool)) : Option Int := (reasm_Stream_ok.F k ob0).bind fun v0_0 => bif v0_0 then ((ob0).bind fun r2 => iter (reasm_Stream_Held.s2 k r2) k (0, 0)) else (some 0)
abbrev reasm_Stream_Held.A : Nat → LA := fun r => if r = 4 then ⟨[(3, false, [Lf.i IntKind.i64]), (13, false, [Lf.i IntKind.i64])], []⟩ else ⟨[], []⟩
set_option maxHeartbeats 4000000 in
theorem reasm_Stream_Held.t (a0 : Option Addr) : tree Try.prog reasm_Stream_Held.A noC Try.f19 [AV.v (Value.pointer a0)] [] =
  .call 21 ([AV.v (Value.pointer a0)]) ([]) (Sh.one) ([Lf.b]) ([]) (fun x0 =>
   bif x0.1 then (
    .need (Option.isSome a0) (
    .need (Option.isSome a0) (
    .ld (Option.map (fun x => Addr.add x 3) a0) ([Lf.sl]) (fun x1 =>
     .loop ([Lf.i IntKind.i64, Lf.i IntKind.i64]) ((0, 0, PUnit.unit)) 0 (fun x2 =>
      bif decide (x2.2.1 < ((x1.1.2.1 : Nat) : Int)) then (
       .need (decide (0 ≤ x2.2.1) && decide (x2.2.1 < ((x1.1.2.1 : Nat) : Int)) && Option.isSome x1.1.1) (
       .ld (Option.map (fun x => Addr.add x (Int.toNat x2.2.1 * 2)) x1.1.1) ([Lf.i IntKind.i64, Lf.i IntKind.i64]) (fun x3 =>
        .again 0 ([Lf.i IntKind.i64, Lf.i IntKind.i64]) ((IntKind.wrap IntKind.i64 (x2.1 + IntKind.wrap IntKind.i64 (IntKind.wrap IntKind.i64 (x3.2.1 - x3.1) + 1)), IntKind.wrap IntKind.i64 (x2.2.1 + 1), PUnit.unit)))))
      else (
       .done (AV.v (Value.int IntKind.i64 x2.1)) ([])))))))
   else (
    .done (AV.v (Value.int IntKind.i64 0)) ([]))) := by kernel_rfl
set_option maxHeartbeats 4000000 in
theorem reasm_Stream_Held.c (k : Nat) (a0 : Option Addr) (ob0 : Option (Int × Int × (List Int) × (List (Int × Int)) × Int × Bool × Bool)) (r : Int) (h : reasm_Stream_Held.F k ob0 = some r)  (w : World) (hB0 : ObR R9045 (fun _ => False) w a0 ob0) : Calls Try.prog 19 (AV.gs id [AV.v (Value.pointer a0)]).toArray w fun e w' => e = .returned (((Sh.one : Sh).av (vs [Lf.i IntKind.i64] (r, ()))).g id) ∧ Below w.heap.size w w' := by
  refine enter0 mixed reasm_Stream_Held.A noC [AV.v (Value.pointer a0)] Try.func19 rfl rfl rfl (fun hF => ?_)
  rw [reasm_Stream_Held.t]
  try rw [hB0.none]
  unfold reasm_Stream_Held.F at h
  try dsimp only at h
  obtain ⟨v0_0, hr0, h⟩ := Option.bind_eq_some_iff.1 h
  refine ok_callm rfl (fun L0 w0 g0 lt0 => ?_)
  refine (reasm_Stream_ok.c k _ ob0 v0_0 hr0  w0 (hB0.later (hF.trans g0)).bare).mono ?_
  rintro e w0' ⟨rfl, hb0⟩
  refine ⟨(v0_0, ()), rfl, hb0, fun g0' => ?_⟩
  try dsimp only
  have hF := hF.trans g0'
  refine ok_if (fun hc1 => ?_) (fun hc1 => ?_)
  · have h := bif_t h hc1
    obtain ⟨r2, hr3, h⟩ := Option.bind_eq_some_iff.1 h
    refine ok_need (hB0.need hr3) ?_
    refine ok_need (hB0.need hr3) ?_
    refine ok_ob 3 (hB0.sl hr3) hF (fun cs hcs => ?_)
    obtain ⟨A1_2, q1_2, c1_2, A1_3, q1_3, c1_3, rfl, hm1_2, hE1_2, hm1_3, hE1_3⟩ := hcs
    subst hm1_2
    subst hm1_3
    refine ⟨(A1_3, (r2.2.2.2.1).length, c1_3), rfl, ?_⟩
    try dsimp only
    obtain ⟨I2, hI2⟩ : ∃ I : Nat → Tup [Lf.i IntKind.i64, Lf.i IntKind.i64] → (Nat → Prop) → World → Prop, I = (fun m_ y L w' => ∃ (v2_0 : Int) (v2_1 : Int), y = (v2_0, v2_1, ()) ∧ iter (reasm_Stream_Held.s2 k r2) m_ (v2_0, v2_1) = some r ∧ Fine (fun _ => False) w L w') := ⟨_, rfl⟩
    refine ok_loop I2 k (by rw [hI2]; exact ⟨_, _, rfl, h, hF⟩) ?_
    clear h
    intro m_ y L2 w2 hy
    rw [hI2] at hy
    obtain ⟨v2_0, v2_1, rfl, h, hF⟩ := hy
    obtain ⟨m2, o2, rfl, h, hl2, hr_2⟩ := iter_some h
    unfold reasm_Stream_Held.s2 at h
    try dsimp only at h
    try dsimp only
    refine ok_if (fun hc7 => ?_) (fun hc7 => ?_)
    · have h := bif_t h hc7
      obtain ⟨r8, hr9, h⟩ := Option.bind_eq_some_iff.1 h
      refine ok_need (getI_need (hE1_3.later hF) hr9) ?_
      refine ok_get hE1_3 hF hr9 (by simp) (fun cs hcs => ⟨(r8.1, r8.2, ()), hcs.symm, ?_⟩)
      try dsimp only
      obtain rfl := Option.some.inj h
      have h := hl2 _ rfl
      exact ok_again (I := I2) m2 (Nat.lt_succ_self _) (fun L w' he => by rw [hI2]; exact ⟨_, _, rfl, h, hF.trans he.fine⟩)
    · have h := bif_f h hc7
      obtain rfl := Option.some.inj h
      obtain rfl := hr_2 _ rfl
      intro ρ L w' _ he _ _
      exact ⟨rfl, (hF.ext he).below⟩
  · have h := bif_f h hc1
    obtain rfl := Option.some.inj h
    intro ρ L w' _ he _ _
    exact ⟨rfl, (hF.ext he).below⟩
/-! ### (*turnbuckle/reasm.Stream).End: function 16 -/
def reasm_Stream_End.F (k : Nat) (ob0 : Option (Int × Int × (List Int) × (List (Int × Int)) × Int × Bool × Bool)) : Option (Int × Bool) := (reasm_Stream_ok.F k ob0).bind fun v0_0 => bif v0_0 then ((ob0).bind fun r2 => bif r2.2.2.2.2.2.1 then (some ((r2.2.2.2.2.1, true))) else (some ((r2.2.2.2.2.1, false)))) else (some ((0, false)))
abbrev reasm_Stream_End.A : Nat → LA := noA
set_option maxHeartbeats 4000000 in
theorem reasm_Stream_End.t (a0 : Option Addr) : tree Try.prog reasm_Stream_End.A noC Try.f16 [AV.v (Value.pointer a0)] [] =
  .call 21 ([AV.v (Value.pointer a0)]) ([]) (Sh.one) ([Lf.b]) ([]) (fun x0 =>
   bif x0.1 then (
    .need (Option.isSome a0) (
    .need (Option.isSome a0) (
    .ld (Option.map (fun x => Addr.add x 4) a0) ([Lf.i IntKind.i64]) (fun x1 =>
     .need (Option.isSome a0) (
     .need (Option.isSome a0) (
     .ld (Option.map (fun x => Addr.add x 5) a0) ([Lf.b]) (fun x2 =>
      bif x2.1 then (
       .done (AV.tup [AV.v (Value.int IntKind.i64 x1.1), AV.v (Value.bool true)]) ([]))
      else (
       .done (AV.tup [AV.v (Value.int IntKind.i64 x1.1), AV.v (Value.bool false)]) ([])))))))))
   else (
    .done (AV.tup [AV.v (Value.int IntKind.i64 0), AV.v (Value.bool false)]) ([]))) := by kernel_rfl
set_option maxHeartbeats 4000000 in
theorem reasm_Stream_End.c (k : Nat) (a0 : Option Addr) (ob0 : Option (Int × Int × (List Int) × (List (Int × Int)) × Int × Bool × Bool)) (r : Int × Bool) (h : reasm_Stream_End.F k ob0 = some r)  (w : World) (hB0 : ObR R9045 (fun _ => False) w a0 ob0) : Calls Try.prog 16 (AV.gs id [AV.v (Value.pointer a0)]).toArray w fun e w' => e = .returned (((Sh.tup [(false, 1), (false, 1)] : Sh).av (vs [Lf.i IntKind.i64, Lf.b] (r.1, r.2, ()))).g id) ∧ Below w.heap.size w w' := by
  refine enter0 mixed reasm_Stream_End.A noC [AV.v (Value.pointer a0)] Try.func16 rfl rfl rfl (fun hF => ?_)
  rw [reasm_Stream_End.t]
  try rw [hB0.none]
  unfold reasm_Stream_End.F at h
  try dsimp only at h
  obtain ⟨v0_0, hr0, h⟩ := Option.bind_eq_some_iff.1 h
  refine ok_callm rfl (fun L0 w0 g0 lt0 => ?_)
  refine (reasm_Stream_ok.c k _ ob0 v0_0 hr0  w0 (hB0.later (hF.trans g0)).bare).mono ?_
  rintro e w0' ⟨rfl, hb0⟩
  refine ⟨(v0_0, ()), rfl, hb0, fun g0' => ?_⟩
  try dsimp only
  have hF := hF.trans g0'
  refine ok_if (fun hc1 => ?_) (fun hc1 => ?_)
  · have h := bif_t h hc1
    obtain ⟨r2, hr3, h⟩ := Option.bind_eq_some_iff.1 h
    refine ok_need (hB0.need hr3) ?_
    refine ok_need (hB0.need hr3) ?_
    refine ok_ob 4 (hB0.sl hr3) hF (fun cs hcs => ?_)
    obtain ⟨A1_2, q1_2, c1_2, A1_3, q1_3, c1_3, rfl, hm1_2, hE1_2, hm1_3, hE1_3⟩ := hcs
    subst hm1_2
    subst hm1_3
    refine ⟨r2.2.2.2.2.1, rfl, ?_⟩
    try dsimp only
    refine ok_need (hB0.need hr3) ?_
    refine ok_need (hB0.need hr3) ?_
    refine ok_ob 5 (hB0.sl hr3) hF (fun cs hcs => ?_)
    obtain ⟨A2_2, q2_2, c2_2, A2_3, q2_3, c2_3, rfl, hm2_2, hE2_2, hm2_3, hE2_3⟩ := hcs
    subst hm2_2
    subst hm2_3
    refine ⟨r2.2.2.2.2.2.1, rfl, ?_⟩
    try dsimp only
    refine ok_if (fun hc8 => ?_) (fun hc8 => ?_)
    · have h := bif_t h hc8
      obtain rfl := Option.some.inj h
      intro ρ L w' _ he _ _
      exact ⟨rfl, (hF.ext he).below⟩
    · have h := bif_f h hc8
      obtain rfl := Option.some.inj h
      intro ρ L w' _ he _ _
      exact ⟨rfl, (hF.ext he).below⟩
  · have h := bif_f h hc1
    obtain rfl := Option.some.inj h
    intro ρ L w' _ he _ _
    exact ⟨rfl, (hF.ext he).below⟩
/-! ### (*turnbuckle/reasm.Stream).Over: function 13 -/
def reasm_Stream_Over.F (k : Nat) (ob0 : Option (Int × Int × (List Int) × (List (Int × Int)) × Int × Bool × Bool)) : Option Bool := (reasm_Stream_ok.F k ob0).bind fun v0_0 => bif v0_0 then ((ob0).bind fun r2 => bif r2.2.2.2.2.2.2 then (some true) else (bif r2.2.2.2.2.2.1 then (bif r2.2.1 == r2.2.2.2.2.1 then (some true) else (some false)) else (some false))) else (some true)
abbrev reasm_Stream_Over.A : Nat → LA := noA
set_option maxHeartbeats 4000000 in
theorem reasm_Stream_Over.t (a0 : Option Addr) : tree Try.prog reasm_Stream_Over.A noC Try.f13 [AV.v (Value.pointer a0)] [] =
  .call 21 ([AV.v (Value.pointer a0)]) ([]) (Sh.one) ([Lf.b]) ([]) (fun x0 =>
   bif x0.1 then (
    .need (Option.isSome a0) (
    .need (Option.isSome a0) (
    .ld (Option.map (fun x => Addr.add x 6) a0) ([Lf.b]) (fun x1 =>
     bif x1.1 then (
      .done (AV.v (Value.bool true)) ([]))
     else (
      .need (Option.isSome a0) (
      .need (Option.isSome a0) (
      .ld (Option.map (fun x => Addr.add x 5) a0) ([Lf.b]) (fun x2 =>
       bif x2.1 then (
        .need (Option.isSome a0) (
        .need (Option.isSome a0) (
        .ld (Option.map (fun x => Addr.add x 1) a0) ([Lf.i IntKind.i64]) (fun x3 =>
         .need (Option.isSome a0) (
         .need (Option.isSome a0) (
         .ld (Option.map (fun x => Addr.add x 4) a0) ([Lf.i IntKind.i64]) (fun x4 =>
          bif x3.1 == x4.1 then (
           .done (AV.v (Value.bool true)) ([]))
          else (
           .done (AV.v (Value.bool false)) ([])))))))))
       else (
        .done (AV.v (Value.bool false)) ([]))))))))))
   else (
    .done (AV.v (Value.bool true)) ([]))) := by kernel_rfl
set_option maxHeartbeats 4000000 in
theorem reasm_Stream_Over.c (k : Nat) (a0 : Option Addr) (ob0 : Option (Int × Int × (List Int) × (List (Int × Int)) × Int × Bool × Bool)) (r : Bool) (h : reasm_Stream_Over.F k ob0 = some r)  (w : World) (hB0 : ObR R9045 (fun _ => False) w a0 ob0) : Calls Try.prog 13 (AV.gs id [AV.v (Value.pointer a0)]).toArray w fun e w' => e = .returned (((Sh.one : Sh).av (vs [Lf.b] (r, ()))).g id) ∧ Below w.heap.size w w' := by
  refine enter0 mixed reasm_Stream_Over.A noC [AV.v (Value.pointer a0)] Try.func13 rfl rfl rfl (fun hF => ?_)
  rw [reasm_Stream_Over.t]
  try rw [hB0.none]
  unfold reasm_Stream_Over.F at h
  try dsimp only at h
  obtain ⟨v0_0, hr0, h⟩ := Option.bind_eq_some_iff.1 h
  refine ok_callm rfl (fun L0 w0 g0 lt0 => ?_)
  refine (reasm_Stream_ok.c k _ ob0 v0_0 hr0  w0 (hB0.later (hF.trans g0)).bare).mono ?_
  rintro e w0' ⟨rfl, hb0⟩
  refine ⟨(v0_0, ()), rfl, hb0, fun g0' => ?_⟩
  try dsimp only
  have hF := hF.trans g0'
  refine ok_if (fun hc1 => ?_) (fun hc1 => ?_)
  · have h := bif_t h hc1
    obtain ⟨r2, hr3, h⟩ := Option.bind_eq_some_iff.1 h
    refine ok_need (hB0.need hr3) ?_
    refine ok_need (hB0.need hr3) ?_
    refine ok_ob 6 (hB0.sl hr3) hF (fun cs hcs => ?_)
    obtain ⟨A1_2, q1_2, c1_2, A1_3, q1_3, c1_3, rfl, hm1_2, hE1_2, hm1_3, hE1_3⟩ := hcs
    subst hm1_2
    subst hm1_3
    refine ⟨r2.2.2.2.2.2.2, rfl, ?_⟩
    try dsimp only
    refine ok_if (fun hc6 => ?_) (fun hc6 => ?_)
    · have h := bif_t h hc6
      obtain rfl := Option.some.inj h
      intro ρ L w' _ he _ _
      exact ⟨rfl, (hF.ext he).below⟩
    · have h := bif_f h hc6
      refine ok_need (hB0.need hr3) ?_
      refine ok_need (hB0.need hr3) ?_
      refine ok_ob 5 (hB0.sl hr3) hF (fun cs hcs => ?_)
      obtain ⟨A2_2, q2_2, c2_2, A2_3, q2_3, c2_3, rfl, hm2_2, hE2_2, hm2_3, hE2_3⟩ := hcs
      subst hm2_2
      subst hm2_3
      refine ⟨r2.2.2.2.2.2.1, rfl, ?_⟩
      try dsimp only
      refine ok_if (fun hc9 => ?_) (fun hc9 => ?_)
      · have h := bif_t h hc9
        refine ok_need (hB0.need hr3) ?_
        refine ok_need (hB0.need hr3) ?_
        refine ok_ob 1 (hB0.sl hr3) hF (fun cs hcs => ?_)
        obtain ⟨A3_2, q3_2, c3_2, A3_3, q3_3, c3_3, rfl, hm3_2, hE3_2, hm3_3, hE3_3⟩ := hcs
        subst hm3_2
        subst hm3_3
        refine ⟨r2.2.1, rfl, ?_⟩
        try dsimp only
        refine ok_need (hB0.need hr3) ?_
        refine ok_need (hB0.need hr3) ?_
        refine ok_ob 4 (hB0.sl hr3) hF (fun cs hcs => ?_)
        obtain ⟨A4_2, q4_2, c4_2, A4_3, q4_3, c4_3, rfl, hm4_2, hE4_2, hm4_3, hE4_3⟩ := hcs
        subst hm4_2
        subst hm4_3
        refine ⟨r2.2.2.2.2.1, rfl, ?_⟩
        try dsimp only
        refine ok_if (fun hc14 => ?_) (fun hc14 => ?_)
        · have h := bif_t h hc14
          obtain rfl := Option.some.inj h
          intro ρ L w' _ he _ _
          exact ⟨rfl, (hF.ext he).below⟩
        · have h := bif_f h hc14
          obtain rfl := Option.some.inj h
          intro ρ L w' _ he _ _
          exact ⟨rfl, (hF.ext he).below⟩
      · have h := bif_f h hc9
        obtain rfl := Option.some.inj h
        intro ρ L w' _ he _ _
        exact ⟨rfl, (hF.ext he).below⟩
  · have h := bif_f h hc1
    obtain rfl := Option.some.inj h
    intro ρ L w' _ he _ _
    exact ⟨rfl, (hF.ext he).below⟩
/-! ### (*turnbuckle/reasm.Stream).Broken: function 15 -/
def reasm_Stream_Broken.F (k : Nat) (ob0 : Option (Int × Int × (List Int) × (List (Int × Int)) × Int × Bool × Bool)) : Option Bool := (reasm_Stream_ok.F k ob0).bind fun v0_0 => bif v0_0 then ((ob0).bind fun r2 => bif r2.2.2.2.2.2.2 then (some true) else (some false)) else (some false)
abbrev reasm_Stream_Broken.A : Nat → LA := noA
set_option maxHeartbeats 4000000 in
theorem reasm_Stream_Broken.t (a0 : Option Addr) : tree Try.prog reasm_Stream_Broken.A noC Try.f15 [AV.v (Value.pointer a0)] [] =
  .call 21 ([AV.v (Value.pointer a0)]) ([]) (Sh.one) ([Lf.b]) ([]) (fun x0 =>
   bif x0.1 then (
    .need (Option.isSome a0) (
    .need (Option.isSome a0) (
    .ld (Option.map (fun x => Addr.add x 6) a0) ([Lf.b]) (fun x1 =>
     bif x1.1 then (
      .done (AV.v (Value.bool true)) ([]))
     else (
      .done (AV.v (Value.bool false)) ([]))))))
   else (
    .done (AV.v (Value.bool false)) ([]))) := by kernel_rfl
set_option maxHeartbeats 4000000 in
theorem reasm_Stream_Broken.c (k : Nat) (a0 : Option Addr) (ob0 : Option (Int × Int × (List Int) × (List (Int × Int)) × Int × Bool × Bool)) (r : Bool) (h : reasm_Stream_Broken.F k ob0 = some r)  (w : World) (hB0 : ObR R9045 (fun _ => False) w a0 ob0) : Calls Try.prog 15 (AV.gs id [AV.v (Value.pointer a0)]).toArray w fun e w' => e = .returned (((Sh.one : Sh).av (vs [Lf.b] (r, ()))).g id) ∧ Below w.heap.size w w' := by
  refine enter0 mixed reasm_Stream_Broken.A noC [AV.v (Value.pointer a0)] Try.func15 rfl rfl rfl (fun hF => ?_)
  rw [reasm_Stream_Broken.t]
  try rw [hB0.none]
  unfold reasm_Stream_Broken.F at h
  try dsimp only at h
  obtain ⟨v0_0, hr0, h⟩ := Option.bind_eq_some_iff.1 h
  refine ok_callm rfl (fun L0 w0 g0 lt0 => ?_)
  refine (reasm_Stream_ok.c k _ ob0 v0_0 hr0  w0 (hB0.later (hF.trans g0)).bare).mono ?_
  rintro e w0' ⟨rfl, hb0⟩
  refine ⟨(v0_0, ()), rfl, hb0, fun g0' => ?_⟩
  try dsimp only
  have hF := hF.trans g0'
  refine ok_if (fun hc1 => ?_) (fun hc1 => ?_)
  · have h := bif_t h hc1
    obtain ⟨r2, hr3, h⟩ := Option.bind_eq_some_iff.1 h
    refine ok_need (hB0.need hr3) ?_
    refine ok_need (hB0.need hr3) ?_
    refine ok_ob 6 (hB0.sl hr3) hF (fun cs hcs => ?_)
    obtain ⟨A1_2, q1_2, c1_2, A1_3, q1_3, c1_3, rfl, hm1_2, hE1_2, hm1_3, hE1_3⟩ := hcs
    subst hm1_2
    subst hm1_3
    refine ⟨r2.2.2.2.2.2.2, rfl, ?_⟩
    try dsimp only
    refine ok_if (fun hc6 => ?_) (fun hc6 => ?_)
    · have h := bif_t h hc6
      obtain rfl := Option.some.inj h
      intro ρ L w' _ he _ _
      exact ⟨rfl, (hF.ext he).below⟩
    · have h := bif_f h hc6
      obtain rfl := Option.some.inj h
      intro ρ L w' _ he _ _
      exact ⟨rfl, (hF.ext he).below⟩
  · have h := bif_f h hc1
    obtain rfl := Option.some.inj h
    intro ρ L w' _ he _ _
    exact ⟨rfl, (hF.ext he).below⟩
/-! ### (*turnbuckle/reasm.Stream).gaps: function 25 -/
def reasm_Stream_gaps.s1 (k : Nat) (a2 : Int) (ob0 : Option (Int × Int × (List Int) × (List (Int × Int)) × Int × Bool × Bool)) (s0_1 : List (Int × Int)) (v0_0 : Int) : Int → Option (Sum Int (Sum (Int × (List (Int × Int)) × Int) ((List (Int × Int))))) := fun v1_0 => (ob0).bind fun r4 => bif decide (v1_0 < (((r4.2.2.2.1).length : Nat) : Int)) then ((getI r4.2.2.2.1 v1_0).bind fun r11 => bif decide (r11.2 < v0_0) then (some (.inl (IntKind.wrap IntKind.i64 (v1_0 + 1)))) else (bif v1_0 == (((r4.2.2.2.1).length : Nat) : Int) then (bif decide ((s0_1.length + (([(v0_0, a2)] : List (Int × Int))).length) * 16 ≤ 140737488355328) then (some (.inr (.inr (((s0_1 ++ ([(v0_0, a2)] : List (Int × Int)))))))) else none) else ((getI r4.2.2.2.1 v1_0).bind fun r22 => bif decide (a2 < r22.1) then (bif decide ((s0_1.length + (([(v0_0, a2)] : List (Int × Int))).length) * 16 ≤ 140737488355328) then (some (.inr (.inr (((s0_1 ++ ([(v0_0, a2)] : List (Int × Int)))))))) else none) else ((getI r4.2.2.2.1 v1_0).bind fun r30 => bif decide (v0_0 < r30.1) then ((getI r4.2.2.2.1 v1_0).bind fun r35 => bif decide ((s0_1.length + (([(v0_0, IntKind.wrap IntKind.i64 (r35.1 - 1))] : List (Int × Int))).length) * 16 ≤ 140737488355328) then ((getI r4.2.2.2.1 v1_0).bind fun r42 => some (.inr (.inl ((IntKind.wrap IntKind.i64 (r42.2 + 1), (s0_1 ++ ([(v0_0, IntKind.wrap IntKind.i64 (r35.1 - 1))] : List (Int × Int))), v1_0))))) else none) else ((getI r4.2.2.2.1 v1_0).bind fun r46 => some (.inr (.inl ((IntKind.wrap IntKind.i64 (r46.2 + 1), s0_1, v1_0))))))))) else (bif v1_0 == (((r4.2.2.2.1).length : Nat) : Int) then (bif decide ((s0_1.length + (([(v0_0, a2)] : List (Int × Int))).length) * 16 ≤ 140737488355328) then (some (.inr (.inr (((s0_1 ++ ([(v0_0, a2)] : List (Int × Int)))))))) else none) else ((getI r4.2.2.2.1 v1_0).bind fun r56 => bif decide (a2 < r56.1) then (bif decide ((s0_1.length + (([(v0_0, a2)] : List (Int × Int))).length) * 16 ≤ 140737488355328) then (some (.inr (.inr (((s0_1 ++ ([(v0_0, a2)] : List (Int × Int)))))))) else none) else ((getI r4.2.2.2.1 v1_0).bind fun r64 => bif decide (v0_0 < r64.1) then ((getI r4.2.2.2.1 v1_0).bind fun r69 => bif decide ((s0_1.length + (([(v0_0, IntKind.wrap IntKind.i64 (r69.1 - 1))] : List (Int × Int))).length) * 16 ≤ 140737488355328) then ((getI r4.2.2.2.1 v1_0).bind fun r76 => some (.inr (.inl ((IntKind.wrap IntKind.i64 (r76.2 + 1), (s0_1 ++ ([(v0_0, IntKind.wrap IntKind.i64 (r69.1 - 1))] : List (Int × Int))), v1_0))))) else none) else ((getI r4.2.2.2.1 v1_0).bind fun r80 => some (.inr (.inl ((IntKind.wrap IntKind.i64 (r80.2 + 1), s0_1, v1_0))))))))
def reasm_Stream_gaps.s0 (k : Nat) (a2 : Int) (ob0 : Option (Int × Int × (List Int) × (List (Int × Int)) × Int × Bool × Bool)) : (Int × (List (Int × Int)) × Int) → Option (Sum (Int × (List (Int × Int)) × Int) ((List (Int × Int)))) := fun (v0_0, s0_1, v0_2) => bif decide (v0_0 ≤ a2) then (iter (reasm_Stream_gaps.s1 k a2 ob0 s0_1 v0_0) k v0_2) else (some (.inr s0_1))
def reasm_Stream_gaps.F (k : Nat) (ob0 : Option (Int × Int × (List Int) × (List (Int × Int)) × Int × Bool × Bool)) (a1 : Int) (a2 : Int) : Option ((List (Int × Int))) := iter (reasm_Stream_gaps.s0 k a2 ob0) k (a1, [], 0)
abbrev reasm_Stream_gaps.A : Nat → LA := fun r => if r = 4 then ⟨[(8, false, [Lf.i IntKind.i64])], []⟩ else if r = 3 then ⟨[(1, false, [Lf.i IntKind.i64]), (7, false, [Lf.sl]), (8, false, [Lf.i IntKind.i64])], []⟩ else ⟨[], []⟩
set_option maxHeartbeats 4000000 in
theorem reasm_Stream_gaps.t (a0 : Option Addr) (a1 : Int) (a2 : Int) : tree Try.prog reasm_Stream_gaps.A noC Try.f25 [AV.v (Value.pointer a0), AV.v (Value.int IntKind.i64 a1), AV.v (Value.int IntKind.i64 a2)] [] =
  .loop ([Lf.i IntKind.i64, Lf.sl, Lf.i IntKind.i64]) ((a1, (none, 0, 0), 0, PUnit.unit)) 0 (fun x0 =>
   bif decide (x0.1 ≤ a2) then (
    .loop ([Lf.i IntKind.i64]) ((x0.2.2.1, PUnit.unit)) 1 (fun x1 =>
     .need (Option.isSome a0) (
     .need (Option.isSome a0) (
     .ld (Option.map (fun x => Addr.add x 3) a0) ([Lf.sl]) (fun x2 =>
      bif decide (x1.1 < ((x2.1.2.1 : Nat) : Int)) then (
       .need (Option.isSome a0) (
       .need (Option.isSome a0) (
       .ld (Option.map (fun x => Addr.add x 3) a0) ([Lf.sl]) (fun x3 =>
        .need (decide (0 ≤ x1.1) && decide (x1.1 < ((x3.1.2.1 : Nat) : Int)) && Option.isSome x3.1.1) (
        .need (Option.isSome (Option.map (fun x => Addr.add x (Int.toNat x1.1 * 2)) x3.1.1)) (
        .ld (Option.map (fun x => Addr.add x 1) (Option.map (fun x => Addr.add x (Int.toNat x1.1 * 2)) x3.1.1)) ([Lf.i IntKind.i64]) (fun x4 =>
         bif decide (x4.1 < x0.1) then (
          .again 1 ([Lf.i IntKind.i64]) ((IntKind.wrap IntKind.i64 (x1.1 + 1), PUnit.unit)))
         else (
          .need (Option.isSome a0) (
          .need (Option.isSome a0) (
          .ld (Option.map (fun x => Addr.add x 3) a0) ([Lf.sl]) (fun x5 =>
           bif x1.1 == ((x5.1.2.1 : Nat) : Int) then (
            .sem (Instr.buildSlice 43 1 { toList := [(0, Value.agg { toList := [Value.int IntKind.i64 x0.1, Value.int IntKind.i64 a2] })] }) ([Lf.sl]) (Sh.one) (fun x6 =>
             .sem (Builtin.append_ { toList := [43, 43] } 43 { toList := [Value.slice x0.2.1.1 x0.2.1.2.1 x0.2.1.2.2, Value.slice x6.1.1 x6.1.2.1 x6.1.2.2] }) ([Lf.sl]) (Sh.one) (fun x7 =>
              .done (AV.v (Value.slice x7.1.1 x7.1.2.1 x7.1.2.2)) ([]))))
           else (
            .need (Option.isSome a0) (
            .need (Option.isSome a0) (
            .ld (Option.map (fun x => Addr.add x 3) a0) ([Lf.sl]) (fun x6 =>
             .need (decide (0 ≤ x1.1) && decide (x1.1 < ((x6.1.2.1 : Nat) : Int)) && Option.isSome x6.1.1) (
             .need (Option.isSome (Option.map (fun x => Addr.add x (Int.toNat x1.1 * 2)) x6.1.1)) (
             .ld (Option.map (fun x => Addr.add x 0) (Option.map (fun x => Addr.add x (Int.toNat x1.1 * 2)) x6.1.1)) ([Lf.i IntKind.i64]) (fun x7 =>
              bif decide (a2 < x7.1) then (
               .sem (Instr.buildSlice 43 1 { toList := [(0, Value.agg { toList := [Value.int IntKind.i64 x0.1, Value.int IntKind.i64 a2] })] }) ([Lf.sl]) (Sh.one) (fun x8 =>
                .sem (Builtin.append_ { toList := [43, 43] } 43 { toList := [Value.slice x0.2.1.1 x0.2.1.2.1 x0.2.1.2.2, Value.slice x8.1.1 x8.1.2.1 x8.1.2.2] }) ([Lf.sl]) (Sh.one) (fun x9 =>
                 .done (AV.v (Value.slice x9.1.1 x9.1.2.1 x9.1.2.2)) ([]))))
              else (
               .need (Option.isSome a0) (
               .need (Option.isSome a0) (
               .ld (Option.map (fun x => Addr.add x 3) a0) ([Lf.sl]) (fun x8 =>
                .need (decide (0 ≤ x1.1) && decide (x1.1 < ((x8.1.2.1 : Nat) : Int)) && Option.isSome x8.1.1) (
                .need (Option.isSome (Option.map (fun x => Addr.add x (Int.toNat x1.1 * 2)) x8.1.1)) (
                .ld (Option.map (fun x => Addr.add x 0) (Option.map (fun x => Addr.add x (Int.toNat x1.1 * 2)) x8.1.1)) ([Lf.i IntKind.i64]) (fun x9 =>
                 bif decide (x0.1 < x9.1) then (
                  .need (Option.isSome a0) (
                  .need (Option.isSome a0) (
                  .ld (Option.map (fun x => Addr.add x 3) a0) ([Lf.sl]) (fun x10 =>
                   .need (decide (0 ≤ x1.1) && decide (x1.1 < ((x10.1.2.1 : Nat) : Int)) && Option.isSome x10.1.1) (
                   .need (Option.isSome (Option.map (fun x => Addr.add x (Int.toNat x1.1 * 2)) x10.1.1)) (
                   .ld (Option.map (fun x => Addr.add x 0) (Option.map (fun x => Addr.add x (Int.toNat x1.1 * 2)) x10.1.1)) ([Lf.i IntKind.i64]) (fun x11 =>
                    .sem (Instr.buildSlice 43 1 { toList := [(0, Value.agg { toList := [Value.int IntKind.i64 x0.1, Value.int IntKind.i64 (IntKind.wrap IntKind.i64 (x11.1 - 1))] })] }) ([Lf.sl]) (Sh.one) (fun x12 =>
                     .sem (Builtin.append_ { toList := [43, 43] } 43 { toList := [Value.slice x0.2.1.1 x0.2.1.2.1 x0.2.1.2.2, Value.slice x12.1.1 x12.1.2.1 x12.1.2.2] }) ([Lf.sl]) (Sh.one) (fun x13 =>
                      .need (Option.isSome a0) (
                      .need (Option.isSome a0) (
                      .ld (Option.map (fun x => Addr.add x 3) a0) ([Lf.sl]) (fun x14 =>
                       .need (decide (0 ≤ x1.1) && decide (x1.1 < ((x14.1.2.1 : Nat) : Int)) && Option.isSome x14.1.1) (
                       .need (Option.isSome (Option.map (fun x => Addr.add x (Int.toNat x1.1 * 2)) x14.1.1)) (
                       .ld (Option.map (fun x => Addr.add x 1) (Option.map (fun x => Addr.add x (Int.toNat x1.1 * 2)) x14.1.1)) ([Lf.i IntKind.i64]) (fun x15 =>
                        .again 0 ([Lf.i IntKind.i64, Lf.sl, Lf.i IntKind.i64]) ((IntKind.wrap IntKind.i64 (x15.1 + 1), (x13.1.1, x13.1.2.1, x13.1.2.2), x1.1, PUnit.unit)))))))))))))))))
                 else (
                  .need (Option.isSome a0) (
                  .need (Option.isSome a0) (
                  .ld (Option.map (fun x => Addr.add x 3) a0) ([Lf.sl]) (fun x10 =>
                   .need (decide (0 ≤ x1.1) && decide (x1.1 < ((x10.1.2.1 : Nat) : Int)) && Option.isSome x10.1.1) (
                   .need (Option.isSome (Option.map (fun x => Addr.add x (Int.toNat x1.1 * 2)) x10.1.1)) (
                   .ld (Option.map (fun x => Addr.add x 1) (Option.map (fun x => Addr.add x (Int.toNat x1.1 * 2)) x10.1.1)) ([Lf.i IntKind.i64]) (fun x11 =>
                    .again 0 ([Lf.i IntKind.i64, Lf.sl, Lf.i IntKind.i64]) ((IntKind.wrap IntKind.i64 (x11.1 + 1), (x0.2.1.1, x0.2.1.2.1, x0.2.1.2.2), x1.1, PUnit.unit))))))))))))))))))))))))))))))))))
      else (
       .need (Option.isSome a0) (
       .need (Option.isSome a0) (
       .ld (Option.map (fun x => Addr.add x 3) a0) ([Lf.sl]) (fun x3 =>
        bif x1.1 == ((x3.1.2.1 : Nat) : Int) then (
         .sem (Instr.buildSlice 43 1 { toList := [(0, Value.agg { toList := [Value.int IntKind.i64 x0.1, Value.int IntKind.i64 a2] })] }) ([Lf.sl]) (Sh.one) (fun x4 =>
          .sem (Builtin.append_ { toList := [43, 43] } 43 { toList := [Value.slice x0.2.1.1 x0.2.1.2.1 x0.2.1.2.2, Value.slice x4.1.1 x4.1.2.1 x4.1.2.2] }) ([Lf.sl]) (Sh.one) (fun x5 =>
           .done (AV.v (Value.slice x5.1.1 x5.1.2.1 x5.1.2.2)) ([]))))
        else (
         .need (Option.isSome a0) (
         .need (Option.isSome a0) (
         .ld (Option.map (fun x => Addr.add x 3) a0) ([Lf.sl]) (fun x4 =>
          .need (decide (0 ≤ x1.1) && decide (x1.1 < ((x4.1.2.1 : Nat) : Int)) && Option.isSome x4.1.1) (
          .need (Option.isSome (Option.map (fun x => Addr.add x (Int.toNat x1.1 * 2)) x4.1.1)) (
          .ld (Option.map (fun x => Addr.add x 0) (Option.map (fun x => Addr.add x (Int.toNat x1.1 * 2)) x4.1.1)) ([Lf.i IntKind.i64]) (fun x5 =>
           bif decide (a2 < x5.1) then (
            .sem (Instr.buildSlice 43 1 { toList := [(0, Value.agg { toList := [Value.int IntKind.i64 x0.1, Value.int IntKind.i64 a2] })] }) ([Lf.sl]) (Sh.one) (fun x6 =>
             .sem (Builtin.append_ { toList := [43, 43] } 43 { toList := [Value.slice x0.2.1.1 x0.2.1.2.1 x0.2.1.2.2, Value.slice x6.1.1 x6.1.2.1 x6.1.2.2] }) ([Lf.sl]) (Sh.one) (fun x7 =>
              .done (AV.v (Value.slice x7.1.1 x7.1.2.1 x7.1.2.2)) ([]))))
           else (
            .need (Option.isSome a0) (
            .need (Option.isSome a0) (
            .ld (Option.map (fun x => Addr.add x 3) a0) ([Lf.sl]) (fun x6 =>
             .need (decide (0 ≤ x1.1) && decide (x1.1 < ((x6.1.2.1 : Nat) : Int)) && Option.isSome x6.1.1) (
             .need (Option.isSome (Option.map (fun x => Addr.add x (Int.toNat x1.1 * 2)) x6.1.1)) (
             .ld (Option.map (fun x => Addr.add x 0) (Option.map (fun x => Addr.add x (Int.toNat x1.1 * 2)) x6.1.1)) ([Lf.i IntKind.i64]) (fun x7 =>
              bif decide (x0.1 < x7.1) then (
               .need (Option.isSome a0) (
               .need (Option.isSome a0) (
               .ld (Option.map (fun x => Addr.add x 3) a0) ([Lf.sl]) (fun x8 =>
                .need (decide (0 ≤ x1.1) && decide (x1.1 < ((x8.1.2.1 : Nat) : Int)) && Option.isSome x8.1.1) (
                .need (Option.isSome (Option.map (fun x => Addr.add x (Int.toNat x1.1 * 2)) x8.1.1)) (
                .ld (Option.map (fun x => Addr.add x 0) (Option.map (fun x => Addr.add x (Int.toNat x1.1 * 2)) x8.1.1)) ([Lf.i IntKind.i64]) (fun x9 =>
                 .sem (Instr.buildSlice 43 1 { toList := [(0, Value.agg { toList := [Value.int IntKind.i64 x0.1, Value.int IntKind.i64 (IntKind.wrap IntKind.i64 (x9.1 - 1))] })] }) ([Lf.sl]) (Sh.one) (fun x10 =>
                  .sem (Builtin.append_ { toList := [43, 43] } 43 { toList := [Value.slice x0.2.1.1 x0.2.1.2.1 x0.2.1.2.2, Value.slice x10.1.1 x10.1.2.1 x10.1.2.2] }) ([Lf.sl]) (Sh.one) (fun x11 =>
                   .need (Option.isSome a0) (
                   .need (Option.isSome a0) (
                   .ld (Option.map (fun x => Addr.add x 3) a0) ([Lf.sl]) (fun x12 =>
                    .need (decide (0 ≤ x1.1) && decide (x1.1 < ((x12.1.2.1 : Nat) : Int)) && Option.isSome x12.1.1) (
                    .need (Option.isSome (Option.map (fun x => Addr.add x (Int.toNat x1.1 * 2)) x12.1.1)) (
                    .ld (Option.map (fun x => Addr.add x 1) (Option.map (fun x => Addr.add x (Int.toNat x1.1 * 2)) x12.1.1)) ([Lf.i IntKind.i64]) (fun x13 =>
                     .again 0 ([Lf.i IntKind.i64, Lf.sl, Lf.i IntKind.i64]) ((IntKind.wrap IntKind.i64 (x13.1 + 1), (x11.1.1, x11.1.2.1, x11.1.2.2), x1.1, PUnit.unit)))))))))))))))))
              else (
               .need (Option.isSome a0) (
               .need (Option.isSome a0) (
               .ld (Option.map (fun x => Addr.add x 3) a0) ([Lf.sl]) (fun x8 =>
                .need (decide (0 ≤ x1.1) && decide (x1.1 < ((x8.1.2.1 : Nat) : Int)) && Option.isSome x8.1.1) (
                .need (Option.isSome (Option.map (fun x => Addr.add x (Int.toNat x1.1 * 2)) x8.1.1)) (
                .ld (Option.map (fun x => Addr.add x 1) (Option.map (fun x => Addr.add x (Int.toNat x1.1 * 2)) x8.1.1)) ([Lf.i IntKind.i64]) (fun x9 =>
                 .again 0 ([Lf.i IntKind.i64, Lf.sl, Lf.i IntKind.i64]) ((IntKind.wrap IntKind.i64 (x9.1 + 1), (x0.2.1.1, x0.2.1.2.1, x0.2.1.2.2), x1.1, PUnit.unit))))))))))))))))))))))))))))))))
   else (
    .done (AV.v (Value.slice x0.2.1.1 x0.2.1.2.1 x0.2.1.2.2)) ([]))) := by kernel_rfl
set_option maxHeartbeats 4000000 in
theorem reasm_Stream_gaps.c (k : Nat) (a0 : Option Addr) (ob0 : Option (Int × Int × (List Int) × (List (Int × Int)) × Int × Bool × Bool)) (a1 : Int) (a2 : Int) (r : (List (Int × Int))) (h : reasm_Stream_gaps.F k ob0 a1 a2 = some r)  (w : World) (hB0 : ObR R9045 (fun _ => False) w a0 ob0) : Calls Try.prog 25 (AV.gs id [AV.v (Value.pointer a0), AV.v (Value.int IntKind.i64 a1), AV.v (Value.int IntKind.i64 a2)]).toArray w fun e w' => ∃ (B0 : Option Addr) (d0 : Nat), e = .returned (((Sh.one : Sh).av (vs [Lf.sl] ((B0, (r).length, d0), ()))).g id) ∧ Below w.heap.size w w' ∧ OwnF w.heap.size (fun b => b < w.heap.size) w' 51 R43 B0 d0 r := by
  refine enter0 mixed reasm_Stream_gaps.A noC [AV.v (Value.pointer a0), AV.v (Value.int IntKind.i64 a1), AV.v (Value.int IntKind.i64 a2)] Try.func25 rfl rfl rfl (fun hF => ?_)
  rw [reasm_Stream_gaps.t]
  try rw [hB0.none]
  unfold reasm_Stream_gaps.F at h
  try dsimp only at h
  obtain ⟨I0, hI0⟩ : ∃ I : Nat → Tup [Lf.i IntKind.i64, Lf.sl, Lf.i IntKind.i64] → (Nat → Prop) → World → Prop, I = (fun m_ y L w' => ∃ (v0_0 : Int) (A0_1 : Option Addr) (c0_1 : Nat) (s0_1 : List (Int × Int)) (v0_2 : Int), y = (v0_0, (A0_1, s0_1.length, c0_1), v0_2, ()) ∧ iter (reasm_Stream_gaps.s0 k a2 ob0) m_ (v0_0, s0_1, v0_2) = some r ∧ Fine (fun _ => False) w L w' ∧ OwnF w.heap.size L w' 51 R43 A0_1 c0_1 s0_1) := ⟨_, rfl⟩
  refine ok_loop I0 k (by rw [hI0]; exact ⟨_, none, 0, [], _, rfl, h, hF, OwnF.nil _ _ _ _ _⟩) ?_
  clear h
  intro m_ y L0 w0 hy
  rw [hI0] at hy
  obtain ⟨v0_0, A0_1, c0_1, s0_1, v0_2, rfl, h, hF, hO_s0_1⟩ := hy
  obtain ⟨m0, o0, rfl, h, hl0, hr_0⟩ := iter_some h
  unfold reasm_Stream_gaps.s0 at h
  try dsimp only at h
  try dsimp only
  refine ok_if (fun hc2 => ?_) (fun hc2 => ?_)
  · have h := bif_t h hc2
    obtain ⟨I1, hI1⟩ : ∃ I : Nat → Tup [Lf.i IntKind.i64] → (Nat → Prop) → World → Prop, I = (fun m_ y L w' => ∃ (v1_0 : Int), y = (v1_0, ()) ∧ iter (reasm_Stream_gaps.s1 k a2 ob0 s0_1 v0_0) m_ v1_0 = some o0 ∧ Fine (fun _ => False) w L w' ∧ OwnF w.heap.size L w' 51 R43 A0_1 c0_1 s0_1) := ⟨_, rfl⟩
    refine ok_loop I1 k (by rw [hI1]; exact ⟨_, rfl, h, hF, hO_s0_1⟩) ?_
    clear h
    intro m_ y L1 w1 hy
    rw [hI1] at hy
    obtain ⟨v1_0, rfl, h, hF, hO_s0_1⟩ := hy
    obtain ⟨m1, o1, rfl, h, hl1, hr_1⟩ := iter_some h
    unfold reasm_Stream_gaps.s1 at h
    try dsimp only at h
    try dsimp only
    obtain ⟨r4, hr5, h⟩ := Option.bind_eq_some_iff.1 h
    refine ok_need (hB0.need hr5) ?_
    refine ok_need (hB0.need hr5) ?_
    refine ok_ob 3 (hB0.sl hr5) hF (fun cs hcs => ?_)
    obtain ⟨A2_2, q2_2, c2_2, A2_3, q2_3, c2_3, rfl, hm2_2, hE2_2, hm2_3, hE2_3⟩ := hcs
    subst hm2_2
    subst hm2_3
    refine ⟨(A2_3, (r4.2.2.2.1).length, c2_3), rfl, ?_⟩
    try dsimp only
    refine ok_if (fun hc8 => ?_) (fun hc8 => ?_)
    · have h := bif_t h hc8
      refine ok_need (hB0.need hr5) ?_
      refine ok_need (hB0.need hr5) ?_
      refine ok_ob 3 (hB0.sl hr5) hF (fun cs hcs => ?_)
      obtain ⟨A3_2, q3_2, c3_2, A3_3, q3_3, c3_3, rfl, hm3_2, hE3_2, hm3_3, hE3_3⟩ := hcs
      subst hm3_2
      subst hm3_3
      refine ⟨(A3_3, (r4.2.2.2.1).length, c3_3), rfl, ?_⟩
      try dsimp only
      obtain ⟨r11, hr12, h⟩ := Option.bind_eq_some_iff.1 h
      refine ok_need (getI_need (hE3_3.later hF) hr12) ?_
      refine ok_need (getI_need2 (hE3_3.later hF) hr12) ?_
      refine ok_getf 1 hE3_3 hF hr12 (fun cs hcs => ⟨r11.2, by rw [hcs]; rfl, ?_⟩)
      try dsimp only
      refine ok_if (fun hc13 => ?_) (fun hc13 => ?_)
      · have h := bif_t h hc13
        obtain rfl := Option.some.inj h
        have h := hl1 _ rfl
        exact ok_again (I := I1) m1 (Nat.lt_succ_self _) (fun L w' he => by rw [hI1]; exact ⟨_, rfl, h, hF.trans he.fine, hO_s0_1.later he.fine⟩)
      · have h := bif_f h hc13
        refine ok_need (hB0.need hr5) ?_
        refine ok_need (hB0.need hr5) ?_
        refine ok_ob 3 (hB0.sl hr5) hF (fun cs hcs => ?_)
        obtain ⟨A5_2, q5_2, c5_2, A5_3, q5_3, c5_3, rfl, hm5_2, hE5_2, hm5_3, hE5_3⟩ := hcs
        subst hm5_2
        subst hm5_3
        refine ⟨(A5_3, (r4.2.2.2.1).length, c5_3), rfl, ?_⟩
        try dsimp only
        refine ok_if (fun hc16 => ?_) (fun hc16 => ?_)
        · have h := bif_t h hc16
          refine ok_lit (R := R43) (base := w.heap.size) (xs := ([(v0_0, a2)] : List (Int × Int))) #[Value.int IntKind.i64 v0_0, Value.int IntKind.i64 a2] E43 rfl (by decide) (by decide) ⟨_, _, rfl, rfl, by kernel_rfl⟩ rfl hF.size (fun A6 c6 L6 w6 hO6 g6 hbl6 => ?_)
          try dsimp only
          have dj_o17_s0_1 : Dj A6 A0_1 := Dj.new hbl6 hO_s0_1.lt
          have hF := hF.trans g6
          have hO_s0_1 := hO_s0_1.later g6
          obtain ⟨hq18, h⟩ := bif_need h
          have hq18 := of_decide_eq_true hq18
          refine ok_app (R := R43) (base := w.heap.size) (xs := s0_1) (ys := ([(v0_0, a2)] : List (Int × Int))) rfl rfl E43 hO_s0_1 hO6.sl (by decide) hq18 hF.size (fun A7 c7 L7 w7 hO7 g7 hid7 hbl7 => ?_)
          try dsimp only
          have dj_o19_o17 : Dj A7 A6 := Dj.grow (Dj.symm dj_o17_s0_1) hbl7 hO6.lt
          have hO6 := hO6.other dj_o17_s0_1 g7
          have hF := Fine.own hF g7 (fun b hb => Or.inr (Own.base hO_s0_1 hb)) hid7
          obtain rfl := Option.some.inj h
          obtain rfl := hr_1 _ rfl
          obtain rfl := hr_0 _ rfl
          intro ρ L w' _ he _ _
          exact ⟨A7, c7, rfl, (hF.ext he).below, (hO7.later he.fine).ret⟩
        · have h := bif_f h hc16
          refine ok_need (hB0.need hr5) ?_
          refine ok_need (hB0.need hr5) ?_
          refine ok_ob 3 (hB0.sl hr5) hF (fun cs hcs => ?_)
          obtain ⟨A6_2, q6_2, c6_2, A6_3, q6_3, c6_3, rfl, hm6_2, hE6_2, hm6_3, hE6_3⟩ := hcs
          subst hm6_2
          subst hm6_3
          refine ⟨(A6_3, (r4.2.2.2.1).length, c6_3), rfl, ?_⟩
          try dsimp only
          obtain ⟨r22, hr23, h⟩ := Option.bind_eq_some_iff.1 h
          refine ok_need (getI_need (hE6_3.later hF) hr23) ?_
          refine ok_need (getI_need2 (hE6_3.later hF) hr23) ?_
          refine ok_getf 0 hE6_3 hF hr23 (fun cs hcs => ⟨r22.1, by rw [hcs]; rfl, ?_⟩)
          try dsimp only
          refine ok_if (fun hc24 => ?_) (fun hc24 => ?_)
          · have h := bif_t h hc24
            refine ok_lit (R := R43) (base := w.heap.size) (xs := ([(v0_0, a2)] : List (Int × Int))) #[Value.int IntKind.i64 v0_0, Value.int IntKind.i64 a2] E43 rfl (by decide) (by decide) ⟨_, _, rfl, rfl, by kernel_rfl⟩ rfl hF.size (fun A8 c8 L8 w8 hO8 g8 hbl8 => ?_)
            try dsimp only
            have dj_o25_s0_1 : Dj A8 A0_1 := Dj.new hbl8 hO_s0_1.lt
            have hF := hF.trans g8
            have hO_s0_1 := hO_s0_1.later g8
            obtain ⟨hq26, h⟩ := bif_need h
            have hq26 := of_decide_eq_true hq26
            refine ok_app (R := R43) (base := w.heap.size) (xs := s0_1) (ys := ([(v0_0, a2)] : List (Int × Int))) rfl rfl E43 hO_s0_1 hO8.sl (by decide) hq26 hF.size (fun A9 c9 L9 w9 hO9 g9 hid9 hbl9 => ?_)
            try dsimp only
            have dj_o27_o25 : Dj A9 A8 := Dj.grow (Dj.symm dj_o25_s0_1) hbl9 hO8.lt
            have hO8 := hO8.other dj_o25_s0_1 g9
            have hF := Fine.own hF g9 (fun b hb => Or.inr (Own.base hO_s0_1 hb)) hid9
            obtain rfl := Option.some.inj h
            obtain rfl := hr_1 _ rfl
            obtain rfl := hr_0 _ rfl
            intro ρ L w' _ he _ _
            exact ⟨A9, c9, rfl, (hF.ext he).below, (hO9.later he.fine).ret⟩
          · have h := bif_f h hc24
            refine ok_need (hB0.need hr5) ?_
            refine ok_need (hB0.need hr5) ?_
            refine ok_ob 3 (hB0.sl hr5) hF (fun cs hcs => ?_)
            obtain ⟨A8_2, q8_2, c8_2, A8_3, q8_3, c8_3, rfl, hm8_2, hE8_2, hm8_3, hE8_3⟩ := hcs
            subst hm8_2
            subst hm8_3
            refine ⟨(A8_3, (r4.2.2.2.1).length, c8_3), rfl, ?_⟩
            try dsimp only
            obtain ⟨r30, hr31, h⟩ := Option.bind_eq_some_iff.1 h
            refine ok_need (getI_need (hE8_3.later hF) hr31) ?_
            refine ok_need (getI_need2 (hE8_3.later hF) hr31) ?_
            refine ok_getf 0 hE8_3 hF hr31 (fun cs hcs => ⟨r30.1, by rw [hcs]; rfl, ?_⟩)
            try dsimp only
            refine ok_if (fun hc32 => ?_) (fun hc32 => ?_)
            · have h := bif_t h hc32
              refine ok_need (hB0.need hr5) ?_
              refine ok_need (hB0.need hr5) ?_
              refine ok_ob 3 (hB0.sl hr5) hF (fun cs hcs => ?_)
              obtain ⟨A10_2, q10_2, c10_2, A10_3, q10_3, c10_3, rfl, hm10_2, hE10_2, hm10_3, hE10_3⟩ := hcs
              subst hm10_2
              subst hm10_3
              refine ⟨(A10_3, (r4.2.2.2.1).length, c10_3), rfl, ?_⟩
              try dsimp only
              obtain ⟨r35, hr36, h⟩ := Option.bind_eq_some_iff.1 h
              refine ok_need (getI_need (hE10_3.later hF) hr36) ?_
              refine ok_need (getI_need2 (hE10_3.later hF) hr36) ?_
              refine ok_getf 0 hE10_3 hF hr36 (fun cs hcs => ⟨r35.1, by rw [hcs]; rfl, ?_⟩)
              try dsimp only
              refine ok_lit (R := R43) (base := w.heap.size) (xs := ([(v0_0, IntKind.wrap IntKind.i64 (r35.1 - 1))] : List (Int × Int))) #[Value.int IntKind.i64 v0_0, Value.int IntKind.i64 (IntKind.wrap IntKind.i64 (r35.1 - 1))] E43 rfl (by decide) (by decide) ⟨_, _, rfl, rfl, by kernel_rfl⟩ rfl hF.size (fun A12 c12 L12 w12 hO12 g12 hbl12 => ?_)
              try dsimp only
              have dj_o37_s0_1 : Dj A12 A0_1 := Dj.new hbl12 hO_s0_1.lt
              have hF := hF.trans g12
              have hO_s0_1 := hO_s0_1.later g12
              obtain ⟨hq38, h⟩ := bif_need h
              have hq38 := of_decide_eq_true hq38
              refine ok_app (R := R43) (base := w.heap.size) (xs := s0_1) (ys := ([(v0_0, IntKind.wrap IntKind.i64 (r35.1 - 1))] : List (Int × Int))) rfl rfl E43 hO_s0_1 hO12.sl (by decide) hq38 hF.size (fun A13 c13 L13 w13 hO13 g13 hid13 hbl13 => ?_)
              try dsimp only
              have dj_o39_o37 : Dj A13 A12 := Dj.grow (Dj.symm dj_o37_s0_1) hbl13 hO12.lt
              have hO12 := hO12.other dj_o37_s0_1 g13
              have hF := Fine.own hF g13 (fun b hb => Or.inr (Own.base hO_s0_1 hb)) hid13
              refine ok_need (hB0.need hr5) ?_
              refine ok_need (hB0.need hr5) ?_
              refine ok_ob 3 (hB0.sl hr5) hF (fun cs hcs => ?_)
              obtain ⟨A14_2, q14_2, c14_2, A14_3, q14_3, c14_3, rfl, hm14_2, hE14_2, hm14_3, hE14_3⟩ := hcs
              subst hm14_2
              subst hm14_3
              refine ⟨(A14_3, (r4.2.2.2.1).length, c14_3), rfl, ?_⟩
              try dsimp only
              obtain ⟨r42, hr43, h⟩ := Option.bind_eq_some_iff.1 h
              refine ok_need (getI_need (hE14_3.later hF) hr43) ?_
              refine ok_need (getI_need2 (hE14_3.later hF) hr43) ?_
              refine ok_getf 1 hE14_3 hF hr43 (fun cs hcs => ⟨r42.2, by rw [hcs]; rfl, ?_⟩)
              try dsimp only
              obtain rfl := Option.some.inj h
              obtain rfl := hr_1 _ rfl
              have h := hl0 _ rfl
              refine ok_up ?_ (by decide)
              exact ok_again (I := I0) m0 (Nat.lt_succ_self _) (fun L w' he => by rw [hI0]; exact ⟨_, A13, c13, (s0_1 ++ ([(v0_0, IntKind.wrap IntKind.i64 (r35.1 - 1))] : List (Int × Int))), _, rfl, h, hF.trans he.fine, hO13.later he.fine⟩)
            · have h := bif_f h hc32
              refine ok_need (hB0.need hr5) ?_
              refine ok_need (hB0.need hr5) ?_
              refine ok_ob 3 (hB0.sl hr5) hF (fun cs hcs => ?_)
              obtain ⟨A10_2, q10_2, c10_2, A10_3, q10_3, c10_3, rfl, hm10_2, hE10_2, hm10_3, hE10_3⟩ := hcs
              subst hm10_2
              subst hm10_3
              refine ⟨(A10_3, (r4.2.2.2.1).length, c10_3), rfl, ?_⟩
              try dsimp only
              obtain ⟨r46, hr47, h⟩ := Option.bind_eq_some_iff.1 h
              refine ok_need (getI_need (hE10_3.later hF) hr47) ?_
              refine ok_need (getI_need2 (hE10_3.later hF) hr47) ?_
              refine ok_getf 1 hE10_3 hF hr47 (fun cs hcs => ⟨r46.2, by rw [hcs]; rfl, ?_⟩)
              try dsimp only
              obtain rfl := Option.some.inj h
              obtain rfl := hr_1 _ rfl
              have h := hl0 _ rfl
              refine ok_up ?_ (by decide)
              exact ok_again (I := I0) m0 (Nat.lt_succ_self _) (fun L w' he => by rw [hI0]; exact ⟨_, A0_1, c0_1, s0_1, _, rfl, h, hF.trans he.fine, hO_s0_1.later he.fine⟩)
    · have h := bif_f h hc8
      refine ok_need (hB0.need hr5) ?_
      refine ok_need (hB0.need hr5) ?_
      refine ok_ob 3 (hB0.sl hr5) hF (fun cs hcs => ?_)
      obtain ⟨A3_2, q3_2, c3_2, A3_3, q3_3, c3_3, rfl, hm3_2, hE3_2, hm3_3, hE3_3⟩ := hcs
      subst hm3_2
      subst hm3_3
      refine ⟨(A3_3, (r4.2.2.2.1).length, c3_3), rfl, ?_⟩
      try dsimp only
      refine ok_if (fun hc50 => ?_) (fun hc50 => ?_)
      · have h := bif_t h hc50
        refine ok_lit (R := R43) (base := w.heap.size) (xs := ([(v0_0, a2)] : List (Int × Int))) #[Value.int IntKind.i64 v0_0, Value.int IntKind.i64 a2] E43 rfl (by decide) (by decide) ⟨_, _, rfl, rfl, by kernel_rfl⟩ rfl hF.size (fun A4 c4 L4 w4 hO4 g4 hbl4 => ?_)
        try dsimp only
        have dj_o51_s0_1 : Dj A4 A0_1 := Dj.new hbl4 hO_s0_1.lt
        have hF := hF.trans g4
        have hO_s0_1 := hO_s0_1.later g4
        obtain ⟨hq52, h⟩ := bif_need h
        have hq52 := of_decide_eq_true hq52
        refine ok_app (R := R43) (base := w.heap.size) (xs := s0_1) (ys := ([(v0_0, a2)] : List (Int × Int))) rfl rfl E43 hO_s0_1 hO4.sl (by decide) hq52 hF.size (fun A5 c5 L5 w5 hO5 g5 hid5 hbl5 => ?_)
        try dsimp only
        have dj_o53_o51 : Dj A5 A4 := Dj.grow (Dj.symm dj_o51_s0_1) hbl5 hO4.lt
        have hO4 := hO4.other dj_o51_s0_1 g5
        have hF := Fine.own hF g5 (fun b hb => Or.inr (Own.base hO_s0_1 hb)) hid5
        obtain rfl := Option.some.inj h
        obtain rfl := hr_1 _ rfl
        obtain rfl := hr_0 _ rfl
        intro ρ L w' _ he _ _
        exact ⟨A5, c5, rfl, (hF.ext he).below, (hO5.later he.fine).ret⟩
      · have h := bif_f h hc50
        refine ok_need (hB0.need hr5) ?_
        refine ok_need (hB0.need hr5) ?_
        refine ok_ob 3 (hB0.sl hr5) hF (fun cs hcs => ?_)
        obtain ⟨A4_2, q4_2, c4_2, A4_3, q4_3, c4_3, rfl, hm4_2, hE4_2, hm4_3, hE4_3⟩ := hcs
        subst hm4_2
        subst hm4_3
        refine ⟨(A4_3, (r4.2.2.2.1).length, c4_3), rfl, ?_⟩
        try dsimp only
        obtain ⟨r56, hr57, h⟩ := Option.bind_eq_some_iff.1 h
        refine ok_need (getI_need (hE4_3.later hF) hr57) ?_
        refine ok_need (getI_need2 (hE4_3.later hF) hr57) ?_
        refine ok_getf 0 hE4_3 hF hr57 (fun cs hcs => ⟨r56.1, by rw [hcs]; rfl, ?_⟩)
        try dsimp only
        refine ok_if (fun hc58 => ?_) (fun hc58 => ?_)
        · have h := bif_t h hc58
          refine ok_lit (R := R43) (base := w.heap.size) (xs := ([(v0_0, a2)] : List (Int × Int))) #[Value.int IntKind.i64 v0_0, Value.int IntKind.i64 a2] E43 rfl (by decide) (by decide) ⟨_, _, rfl, rfl, by kernel_rfl⟩ rfl hF.size (fun A6 c6 L6 w6 hO6 g6 hbl6 => ?_)
          try dsimp only
          have dj_o59_s0_1 : Dj A6 A0_1 := Dj.new hbl6 hO_s0_1.lt
          have hF := hF.trans g6
          have hO_s0_1 := hO_s0_1.later g6
          obtain ⟨hq60, h⟩ := bif_need h
          have hq60 := of_decide_eq_true hq60
          refine ok_app (R := R43) (base := w.heap.size) (xs := s0_1) (ys := ([(v0_0, a2)] : List (Int × Int))) rfl rfl E43 hO_s0_1 hO6.sl (by decide) hq60 hF.size (fun A7 c7 L7 w7 hO7 g7 hid7 hbl7 => ?_)
          try dsimp only
          have dj_o61_o59 : Dj A7 A6 := Dj.grow (Dj.symm dj_o59_s0_1) hbl7 hO6.lt
          have hO6 := hO6.other dj_o59_s0_1 g7
          have hF := Fine.own hF g7 (fun b hb => Or.inr (Own.base hO_s0_1 hb)) hid7
          obtain rfl := Option.some.inj h
          obtain rfl := hr_1 _ rfl
          obtain rfl := hr_0 _ rfl
          intro ρ L w' _ he _ _
          exact ⟨A7, c7, rfl, (hF.ext he).below, (hO7.later he.fine).ret⟩
        · have h := bif_f h hc58
          refine ok_need (hB0.need hr5) ?_
          refine ok_need (hB0.need hr5) ?_
          refine ok_ob 3 (hB0.sl hr5) hF (fun cs hcs => ?_)
          obtain ⟨A6_2, q6_2, c6_2, A6_3, q6_3, c6_3, rfl, hm6_2, hE6_2, hm6_3, hE6_3⟩ := hcs
          subst hm6_2
          subst hm6_3
          refine ⟨(A6_3, (r4.2.2.2.1).length, c6_3), rfl, ?_⟩
          try dsimp only
          obtain ⟨r64, hr65, h⟩ := Option.bind_eq_some_iff.1 h
          refine ok_need (getI_need (hE6_3.later hF) hr65) ?_
          refine ok_need (getI_need2 (hE6_3.later hF) hr65) ?_
          refine ok_getf 0 hE6_3 hF hr65 (fun cs hcs => ⟨r64.1, by rw [hcs]; rfl, ?_⟩)
          try dsimp only
          refine ok_if (fun hc66 => ?_) (fun hc66 => ?_)
          · have h := bif_t h hc66
            refine ok_need (hB0.need hr5) ?_
            refine ok_need (hB0.need hr5) ?_
            refine ok_ob 3 (hB0.sl hr5) hF (fun cs hcs => ?_)
            obtain ⟨A8_2, q8_2, c8_2, A8_3, q8_3, c8_3, rfl, hm8_2, hE8_2, hm8_3, hE8_3⟩ := hcs
            subst hm8_2
            subst hm8_3
            refine ⟨(A8_3, (r4.2.2.2.1).length, c8_3), rfl, ?_⟩
            try dsimp only
            obtain ⟨r69, hr70, h⟩ := Option.bind_eq_some_iff.1 h
            refine ok_need (getI_need (hE8_3.later hF) hr70) ?_
            refine ok_need (getI_need2 (hE8_3.later hF) hr70) ?_
            refine ok_getf 0 hE8_3 hF hr70 (fun cs hcs => ⟨r69.1, by rw [hcs]; rfl, ?_⟩)
            try dsimp only
            refine ok_lit (R := R43) (base := w.heap.size) (xs := ([(v0_0, IntKind.wrap IntKind.i64 (r69.1 - 1))] : List (Int × Int))) #[Value.int IntKind.i64 v0_0, Value.int IntKind.i64 (IntKind.wrap IntKind.i64 (r69.1 - 1))] E43 rfl (by decide) (by decide) ⟨_, _, rfl, rfl, by kernel_rfl⟩ rfl hF.size (fun A10 c10 L10 w10 hO10 g10 hbl10 => ?_)
            try dsimp only
            have dj_o71_s0_1 : Dj A10 A0_1 := Dj.new hbl10 hO_s0_1.lt
            have hF := hF.trans g10
            have hO_s0_1 := hO_s0_1.later g10
            obtain ⟨hq72, h⟩ := bif_need h
            have hq72 := of_decide_eq_true hq72
            refine ok_app (R := R43) (base := w.heap.size) (xs := s0_1) (ys := ([(v0_0, IntKind.wrap IntKind.i64 (r69.1 - 1))] : List (Int × Int))) rfl rfl E43 hO_s0_1 hO10.sl (by decide) hq72 hF.size (fun A11 c11 L11 w11 hO11 g11 hid11 hbl11 => ?_)
            try dsimp only
            have dj_o73_o71 : Dj A11 A10 := Dj.grow (Dj.symm dj_o71_s0_1) hbl11 hO10.lt
            have hO10 := hO10.other dj_o71_s0_1 g11
            have hF := Fine.own hF g11 (fun b hb => Or.inr (Own.base hO_s0_1 hb)) hid11
            refine ok_need (hB0.need hr5) ?_
            refine ok_need (hB0.need hr5) ?_
            refine ok_ob 3 (hB0.sl hr5) hF (fun cs hcs => ?_)
            obtain ⟨A12_2, q12_2, c12_2, A12_3, q12_3, c12_3, rfl, hm12_2, hE12_2, hm12_3, hE12_3⟩ := hcs
            subst hm12_2
            subst hm12_3
            refine ⟨(A12_3, (r4.2.2.2.1).length, c12_3), rfl, ?_⟩
            try dsimp only
            obtain ⟨r76, hr77, h⟩ := Option.bind_eq_some_iff.1 h
            refine ok_need (getI_need (hE12_3.later hF) hr77) ?_
            refine ok_need (getI_need2 (hE12_3.later hF) hr77) ?_
            refine ok_getf 1 hE12_3 hF hr77 (fun cs hcs => ⟨r76.2, by rw [hcs]; rfl, ?_⟩)
            try dsimp only
            obtain rfl := Option.some.inj h
            obtain rfl := hr_1 _ rfl
            have h := hl0 _ rfl
            refine ok_up ?_ (by decide)
            exact ok_again (I := I0) m0 (Nat.lt_succ_self _) (fun L w' he => by rw [hI0]; exact ⟨_, A11, c11, (s0_1 ++ ([(v0_0, IntKind.wrap IntKind.i64 (r69.1 - 1))] : List (Int × Int))), _, rfl, h, hF.trans he.fine, hO11.later he.fine⟩)
          · have h := bif_f h hc66
            refine ok_need (hB0.need hr5) ?_
            refine ok_need (hB0.need hr5) ?_
            refine ok_ob 3 (hB0.sl hr5) hF (fun cs hcs => ?_)
            obtain ⟨A8_2, q8_2, c8_2, A8_3, q8_3, c8_3, rfl, hm8_2, hE8_2, hm8_3, hE8_3⟩ := hcs
            subst hm8_2
            subst hm8_3
            refine ⟨(A8_3, (r4.2.2.2.1).length, c8_3), rfl, ?_⟩
            try dsimp only
            obtain ⟨r80, hr81, h⟩ := Option.bind_eq_some_iff.1 h
            refine ok_need (getI_need (hE8_3.later hF) hr81) ?_
            refine ok_need (getI_need2 (hE8_3.later hF) hr81) ?_
            refine ok_getf 1 hE8_3 hF hr81 (fun cs hcs => ⟨r80.2, by rw [hcs]; rfl, ?_⟩)
            try dsimp only
            obtain rfl := Option.some.inj h
            obtain rfl := hr_1 _ rfl
            have h := hl0 _ rfl
            refine ok_up ?_ (by decide)
            exact ok_again (I := I0) m0 (Nat.lt_succ_self _) (fun L w' he => by rw [hI0]; exact ⟨_, A0_1, c0_1, s0_1, _, rfl, h, hF.trans he.fine, hO_s0_1.later he.fine⟩)
  · have h := bif_f h hc2
    obtain rfl := Option.some.inj h
    obtain rfl := hr_0 _ rfl
    intro ρ L w' _ he _ _
    exact ⟨A0_1, c0_1, rfl, (hF.ext he).below, (hO_s0_1.later he.fine).ret⟩
/-! ### slices.Clone: function 24 -/
def slices_Clone_byte_byte.F (k : Nat) (l0 : List Int) : Option (List Int) := bif decide (l0.length * 1 ≤ 140737488355328) then some l0 else none
theorem slices_Clone_byte_byte.c (k : Nat) (A0 : Option Addr) (n0 c0 : Nat) (l0 : List Int) (r : List Int) (h : slices_Clone_byte_byte.F k l0 = some r) (hn0 : n0 = l0.length) (w : World) (hS0 : SlR R22.row (fun _ => False) w A0 c0 l0) : Calls Try.prog 24 (AV.gs id [AV.v (Value.slice A0 n0 c0)]).toArray w fun e w' => ∃ (B0 : Option Addr) (d0 : Nat), e = .returned (((Sh.one : Sh).av (vs [Lf.sl] ((B0, r.length, d0), ()))).g id) ∧ Below w.heap.size w w' ∧ OwnF w.heap.size (fun b => b < w.heap.size) w' 5 R22 B0 d0 r := by
  subst hn0
  unfold slices_Clone_byte_byte.F at h
  obtain ⟨hq, h⟩ := bif_need h
  have hq := of_decide_eq_true hq
  obtain rfl := Option.some.inj h
  refine enter0 mixed noA noC [AV.v (Value.slice A0 l0.length c0)] Try.func24 rfl rfl rfl (fun hF => ?_)
  rw [show tree Try.prog noA noC Try.f24 [AV.v (Value.slice A0 l0.length c0)] [] = bif A0.isNone then .done (AV.v (Value.slice none 0 0)) [] else .sem (Instr.buildSlice 22 0 #[]) [Lf.sl] Sh.one (fun x0 => .sem (Builtin.append_ #[22, 22] 22 #[Value.slice x0.1.1 x0.1.2.1 x0.1.2.2, Value.slice A0 l0.length c0]) [Lf.sl] Sh.one (fun x1 => .done (AV.v (Value.slice x1.1.1 x1.1.2.1 x1.1.2.2)) [])) by kernel_rfl]
  refine ok_if (fun hc => ?_) (fun hc => ?_)
  · obtain rfl := hS0.isNil hc
    intro ρ L w' _ he _ _
    exact ⟨none, 0, rfl, (hF.ext he).below, OwnF.ret (OwnF.nil _ (fun _ => False) _ _ _)⟩
  · refine ok_lit0 (R := R22) (base := w.heap.size) E22 hF.size (fun A c L1 w1 hO1 g1 hbl1 => ?_)
    have hF1 := hF.trans g1
    refine ok_app (R := R22) (base := w.heap.size) (xs := []) (ys := l0) rfl rfl E22 hO1 (hS0.later hF1) (by decide) (by simpa using hq) hF1.size (fun A2 c2 L2 w2 hO2 g2 hid2 hbl2 => ?_)
    have hF2 := Fine.own hF1 g2 (fun b hb => Or.inr (Own.base hO1 hb)) hid2
    intro ρ L w' _ he _ _
    exact ⟨A2, c2, rfl, (hF2.ext he).below, (hO2.later he.fine).ret⟩
end Go.Proofs.Ytdjeadgebcndeaa.X
