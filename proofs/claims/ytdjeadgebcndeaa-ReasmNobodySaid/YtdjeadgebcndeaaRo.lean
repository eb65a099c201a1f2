/- Functions: their trees, functions over lists that answer as they do, and that they do. -/
import Derived.Test.YtdjeadgebcndeaaRxU
import Derived.Test.YtdjeadgebcndeaaRxSeat
import Derived.Test.YtdjeadgebcndeaaProg
import Derived.Test.YtdjeadgebcndeaaRw
namespace Go.Proofs.Ytdjeadgebcndeaa.X
open Go Go.RowKit Go.Proofs.YtdjeadgebcndeaaW.Rx
set_option linter.unusedVariables false
set_option linter.unusedSimpArgs false
set_option maxRecDepth 10000
/-! ### (*turnbuckle/reasm.Stream).Data: function 10 -/
def reasm_Stream_DataR.F (k : Nat) (ob0 : Option (Int × Int × (List Int) × (List (Int × Int)) × Int × Bool × Bool)) (a1 : Int) (l2 : List Int) (a3 : Bool) : Option Int := (reasm_Stream_ok.F k ob0).bind fun v0_0 => bif v0_0 then (bif decide (a1 < 0) then (some 1) else (bif decide (IntKind.wrap IntKind.i64 (4611686018427387903 - ((l2.length : Nat) : Int)) < a1) then (some 1) else ((ob0).bind fun r4 => bif r4.2.2.2.2.2.2 then (some 18) else (none)))) else (some 2)
set_option maxHeartbeats 4000000 in
theorem reasm_Stream_DataR.c (k : Nat) (a0 : Option Addr) (ob0 : Option (Int × Int × (List Int) × (List (Int × Int)) × Int × Bool × Bool)) (a1 : Int) (A2 : Option Addr) (n2 c2 : Nat) (l2 : List Int) (a3 : Bool) (r : Int) (h : reasm_Stream_DataR.F k ob0 a1 l2 a3 = some r) (hn2 : n2 = l2.length) (w : World) (hB0 : ObR R9045 (fun _ => False) w a0 ob0) (hS2 : SlR R22.row (fun _ => False) w A2 c2 l2) : Calls Try.prog 10 (AV.gs id [AV.v (Value.pointer a0), AV.v (Value.int IntKind.i64 a1), AV.v (Value.slice A2 n2 c2), AV.v (Value.bool a3)]).toArray w fun e w' => e = .returned (((Sh.one : Sh).av (vs [Lf.i IntKind.i64] (r, ()))).g id) ∧ Below w.heap.size w w' := by
  subst hn2
  refine enter0 mixed reasm_Stream_Data.A noC [AV.v (Value.pointer a0), AV.v (Value.int IntKind.i64 a1), AV.v (Value.slice A2 l2.length c2), AV.v (Value.bool a3)] Try.func10 rfl rfl rfl (fun hF => ?_)
  rw [reasm_Stream_Data.t]
  try rw [hB0.none]
  unfold reasm_Stream_DataR.F at h
  try dsimp only at h
  obtain ⟨v0_0, hr0, h⟩ := Option.bind_eq_some_iff.1 h
  refine ok_callm rfl (fun L0 w0 g0 lt0 => ?_)
  refine (reasm_Stream_ok.c k _ ob0 v0_0 hr0  w0 (hB0.later (hF.trans g0)).bare).mono ?_
  rintro e w0' ⟨rfl, hb0⟩
  refine ⟨(v0_0, ()), rfl, hb0, fun g0' => ?_⟩
  try dsimp only
  have hF := hF.trans g0'
  refine ok_if (fun hc1 => ?_) (fun hc1 => ?_)
  · have h := bif_t h hc1
    refine ok_if (fun hc2 => ?_) (fun hc2 => ?_)
    · have h := bif_t h hc2
      obtain rfl := Option.some.inj h
      intro ρ L w' _ he _ _
      exact ⟨rfl, (hF.ext he).below⟩
    · have h := bif_f h hc2
      refine ok_if (fun hc3 => ?_) (fun hc3 => ?_)
      · have h := bif_t h hc3
        obtain rfl := Option.some.inj h
        intro ρ L w' _ he _ _
        exact ⟨rfl, (hF.ext he).below⟩
      · have h := bif_f h hc3
        obtain ⟨r4, hob5, h⟩ := Option.bind_eq_some_iff.1 h
        refine ok_need (hB0.need hob5) ?_
        refine ok_need (hB0.need hob5) ?_
        refine ok_ob 6 (hB0.sl hob5) hF (fun cs hcs => ?_)
        obtain ⟨A1_2, q1_2, c1_2, A1_3, q1_3, c1_3, rfl, hm1_2, hE1_2, hm1_3, hE1_3⟩ := hcs
        subst hm1_2
        subst hm1_3
        refine ⟨r4.2.2.2.2.2.2, rfl, ?_⟩
        try dsimp only
        refine ok_if (fun hc8 => ?_) (fun hc8 => ?_)
        · have h := bif_t h hc8
          obtain rfl := Option.some.inj h
          intro ρ L w' _ he _ _
          exact ⟨rfl, (hF.ext he).below⟩
        · have h := bif_f h hc8
          cases h
  · have h := bif_f h hc1
    obtain rfl := Option.some.inj h
    intro ρ L w' _ he _ _
    exact ⟨rfl, (hF.ext he).below⟩
/-! ### (*turnbuckle/reasm.Stream).Reset: function 17 -/
def reasm_Stream_ResetR.F (k : Nat) (ob0 : Option (Int × Int × (List Int) × (List (Int × Int)) × Int × Bool × Bool)) (a1 : Int) : Option Int := (reasm_Stream_ok.F k ob0).bind fun v0_0 => bif v0_0 then (bif decide (a1 < 0) then (some 1) else (bif decide (4611686018427387903 < a1) then (some 1) else ((ob0).bind fun r4 => bif r4.2.2.2.2.2.2 then (some 18) else (bif r4.2.2.2.2.2.1 then (none) else (none))))) else (some 2)
set_option maxHeartbeats 4000000 in
theorem reasm_Stream_ResetR.c (k : Nat) (a0 : Option Addr) (ob0 : Option (Int × Int × (List Int) × (List (Int × Int)) × Int × Bool × Bool)) (a1 : Int) (r : Int) (h : reasm_Stream_ResetR.F k ob0 a1 = some r)  (w : World) (hB0 : ObR R9045 (fun _ => False) w a0 ob0) : Calls Try.prog 17 (AV.gs id [AV.v (Value.pointer a0), AV.v (Value.int IntKind.i64 a1)]).toArray w fun e w' => e = .returned (((Sh.one : Sh).av (vs [Lf.i IntKind.i64] (r, ()))).g id) ∧ Below w.heap.size w w' := by
  refine enter0 mixed reasm_Stream_Reset.A noC [AV.v (Value.pointer a0), AV.v (Value.int IntKind.i64 a1)] Try.func17 rfl rfl rfl (fun hF => ?_)
  rw [reasm_Stream_Reset.t]
  try rw [hB0.none]
  unfold reasm_Stream_ResetR.F at h
  try dsimp only at h
  obtain ⟨v0_0, hr0, h⟩ := Option.bind_eq_some_iff.1 h
  refine ok_callm rfl (fun L0 w0 g0 lt0 => ?_)
  refine (reasm_Stream_ok.c k _ ob0 v0_0 hr0  w0 (hB0.later (hF.trans g0)).bare).mono ?_
  rintro e w0' ⟨rfl, hb0⟩
  refine ⟨(v0_0, ()), rfl, hb0, fun g0' => ?_⟩
  try dsimp only
  have hF := hF.trans g0'
  refine ok_if (fun hc1 => ?_) (fun hc1 => ?_)
  · have h := bif_t h hc1
    refine ok_if (fun hc2 => ?_) (fun hc2 => ?_)
    · have h := bif_t h hc2
      obtain rfl := Option.some.inj h
      intro ρ L w' _ he _ _
      exact ⟨rfl, (hF.ext he).below⟩
    · have h := bif_f h hc2
      refine ok_if (fun hc3 => ?_) (fun hc3 => ?_)
      · have h := bif_t h hc3
        obtain rfl := Option.some.inj h
        intro ρ L w' _ he _ _
        exact ⟨rfl, (hF.ext he).below⟩
      · have h := bif_f h hc3
        obtain ⟨r4, hob5, h⟩ := Option.bind_eq_some_iff.1 h
        refine ok_need (hB0.need hob5) ?_
        refine ok_need (hB0.need hob5) ?_
        refine ok_ob 6 (hB0.sl hob5) hF (fun cs hcs => ?_)
        obtain ⟨A1_2, q1_2, c1_2, A1_3, q1_3, c1_3, rfl, hm1_2, hE1_2, hm1_3, hE1_3⟩ := hcs
        subst hm1_2
        subst hm1_3
        refine ⟨r4.2.2.2.2.2.2, rfl, ?_⟩
        try dsimp only
        refine ok_if (fun hc8 => ?_) (fun hc8 => ?_)
        · have h := bif_t h hc8
          obtain rfl := Option.some.inj h
          intro ρ L w' _ he _ _
          exact ⟨rfl, (hF.ext he).below⟩
        · have h := bif_f h hc8
          refine ok_need (hB0.need hob5) ?_
          refine ok_need (hB0.need hob5) ?_
          refine ok_ob 5 (hB0.sl hob5) hF (fun cs hcs => ?_)
          obtain ⟨A2_2, q2_2, c2_2, A2_3, q2_3, c2_3, rfl, hm2_2, hE2_2, hm2_3, hE2_3⟩ := hcs
          subst hm2_2
          subst hm2_3
          refine ⟨r4.2.2.2.2.2.1, rfl, ?_⟩
          try dsimp only
          refine ok_if (fun hc11 => ?_) (fun hc11 => ?_)
          · have h := bif_t h hc11
            refine ok_need (hB0.need hob5) ?_
            refine ok_need (hB0.need hob5) ?_
            refine ok_ob 1 (hB0.sl hob5) hF (fun cs hcs => ?_)
            obtain ⟨A3_2, q3_2, c3_2, A3_3, q3_3, c3_3, rfl, hm3_2, hE3_2, hm3_3, hE3_3⟩ := hcs
            subst hm3_2
            subst hm3_3
            refine ⟨r4.2.1, rfl, ?_⟩
            try dsimp only
            refine ok_need (hB0.need hob5) ?_
            refine ok_need (hB0.need hob5) ?_
            refine ok_ob 4 (hB0.sl hob5) hF (fun cs hcs => ?_)
            obtain ⟨A4_2, q4_2, c4_2, A4_3, q4_3, c4_3, rfl, hm4_2, hE4_2, hm4_3, hE4_3⟩ := hcs
            subst hm4_2
            subst hm4_3
            refine ⟨r4.2.2.2.2.1, rfl, ?_⟩
            try dsimp only
            cases h
          · have h := bif_f h hc11
            cases h
  · have h := bif_f h hc1
    obtain rfl := Option.some.inj h
    intro ρ L w' _ he _ _
    exact ⟨rfl, (hF.ext he).below⟩
/-! ### (*turnbuckle/reasm.Stream).Read: function 11 -/
def reasm_Stream_ReadR.F (k : Nat) (ob0 : Option (Int × Int × (List Int) × (List (Int × Int)) × Int × Bool × Bool)) (a1 : Int) : Option ((List Int)) := (reasm_Stream_Ready.F k ob0).bind fun v0_0 => bif decide ((if v0_0 < a1 then v0_0 else a1) < 1) then (some (([]))) else ((ob0).bind fun r2 => bif decide ((0 : Int) ≤ (0 : Int) ∧ (0 : Int) ≤ (if v0_0 < a1 then v0_0 else a1) ∧ (if v0_0 < a1 then v0_0 else a1) ≤ ((r2.2.2.1).length : Int)) then (none) else none)
set_option maxHeartbeats 4000000 in
theorem reasm_Stream_ReadR.c (k : Nat) (a0 : Option Addr) (ob0 : Option (Int × Int × (List Int) × (List (Int × Int)) × Int × Bool × Bool)) (a1 : Int) (r : (List Int)) (h : reasm_Stream_ReadR.F k ob0 a1 = some r)  (w : World) (hB0 : ObR R9045 (fun _ => False) w a0 ob0) : Calls Try.prog 11 (AV.gs id [AV.v (Value.pointer a0), AV.v (Value.int IntKind.i64 a1)]).toArray w fun e w' => ∃ (B0 : Option Addr) (d0 : Nat), e = .returned (((Sh.one : Sh).av (vs [Lf.sl] ((B0, (r).length, d0), ()))).g id) ∧ Below w.heap.size w w' ∧ OwnF w.heap.size (fun b => b < w.heap.size) w' 5 R22 B0 d0 r := by
  refine enter0 mixed reasm_Stream_Read.A noC [AV.v (Value.pointer a0), AV.v (Value.int IntKind.i64 a1)] Try.func11 rfl rfl rfl (fun hF => ?_)
  rw [reasm_Stream_Read.t]
  try rw [hB0.none]
  unfold reasm_Stream_ReadR.F at h
  try dsimp only at h
  obtain ⟨v0_0, hr0, h⟩ := Option.bind_eq_some_iff.1 h
  refine ok_callm rfl (fun L0 w0 g0 lt0 => ?_)
  refine (reasm_Stream_Ready.c k _ ob0 v0_0 hr0  w0 (hB0.later (hF.trans g0)).bare).mono ?_
  rintro e w0' ⟨rfl, hb0⟩
  refine ⟨(v0_0, ()), rfl, hb0, fun g0' => ?_⟩
  try dsimp only
  have hF := hF.trans g0'
  refine ok_if (fun hc1 => ?_) (fun hc1 => ?_)
  · have h := bif_t h hc1
    obtain rfl := Option.some.inj h
    intro ρ L w' _ he _ _
    exact ⟨none, 0, rfl, (hF.ext he).below, OwnF.ret (OwnF.nil _ (fun _ => False) _ _ _)⟩
  · have h := bif_f h hc1
    obtain ⟨r2, hob3, h⟩ := Option.bind_eq_some_iff.1 h
    refine ok_need (hB0.need hob3) ?_
    refine ok_need (hB0.need hob3) ?_
    refine ok_ob 2 (hB0.sl hob3) hF (fun cs hcs => ?_)
    obtain ⟨A1_2, q1_2, c1_2, A1_3, q1_3, c1_3, rfl, hm1_2, hE1_2, hm1_3, hE1_3⟩ := hcs
    subst hm1_2
    subst hm1_3
    refine ⟨(A1_2, (r2.2.2.1).length, c1_2), rfl, ?_⟩
    try dsimp only
    obtain ⟨hs6, h⟩ := bif_need h
    have hs6 := of_decide_eq_true hs6
    have hcap := (hE1_2.later hF).2.1
    refine ok_need (by first | exact part3 hs6 hcap | exact part3 hs6 (Nat.le_refl _)) ?_
    cases h
end Go.Proofs.Ytdjeadgebcndeaa.X
