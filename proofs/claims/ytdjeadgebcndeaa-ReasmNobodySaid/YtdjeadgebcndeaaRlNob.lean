/- Functions: their trees, functions over lists that answer as they do, and that they do. -/
import Derived.Test.YtdjeadgebcndeaaRlNobt
namespace Go.Proofs.Ytdjeadgebcndeaa.X
open Go Go.RowKit Go.Proofs.YtdjeadgebcndeaaW.Rx
set_option linter.unusedVariables false
set_option linter.unusedSimpArgs false
set_option maxRecDepth 10000
set_option maxHeartbeats 4000000 in
theorem law09_ReasmNobody.c (k : Nat) (A0 : Option Addr) (n0 c0 : Nat) (l0 : List Int) (a1_0 : Int) (a1_1 : Int) (A1_2 : Option Addr) (n1_2 c1_2 : Nat) (l1_2 : List Int) (a1_3 : Bool) (r : Bool) (h : law09_ReasmNobody.F k l0 a1_0 a1_1 l1_2 a1_3 = some r) (hn0 : n0 = l0.length) (hn1_2 : n1_2 = l1_2.length) (w : World) (hS0 : SlR R22.row (fun _ => False) w A0 c0 l0) (hS1_2 : SlR R22.row (fun _ => False) w A1_2 c1_2 l1_2) : Calls Try.prog 7 (AV.gs id [AV.v (Value.slice A0 n0 c0), AV.agg [AV.v (Value.int IntKind.u8 a1_0), AV.v (Value.int IntKind.i64 a1_1), AV.v (Value.slice A1_2 n1_2 c1_2), AV.v (Value.bool a1_3)]]).toArray w fun e w' => e = .returned (((Sh.one : Sh).av (vs [Lf.b] (r, ()))).g id) ∧ Below w.heap.size w w' := by
  subst hn0
  subst hn1_2
  refine enter0 mixed law09_ReasmNobody.A noC [AV.v (Value.slice A0 l0.length c0), AV.agg [AV.v (Value.int IntKind.u8 a1_0), AV.v (Value.int IntKind.i64 a1_1), AV.v (Value.slice A1_2 l1_2.length c1_2), AV.v (Value.bool a1_3)]] Try.func7 rfl rfl rfl (fun hF => ?_)
  rw [law09_ReasmNobody.t]
  unfold law09_ReasmNobody.F at h
  try dsimp only at h
  refine ok_boxR (R := R9045) (x := ((0, 0, [], [], 0, false, false) : Int × Int × (List Int) × (List (Int × Int)) × Int × Bool × Bool)) (fun L w' g => ⟨_, _, _, _, _, _, rfl, rfl, SlR.nil, rfl, SlR.nil⟩) (fun a0 L0 w0 hB0 g0 hbl0 => ?_)
  try dsimp only
  have hF := hF.trans g0
  refine ok_litN (R := R46) (xs := ([(none), ((some (0, 0, [], [], 0, false, false)))] : List ((Option (Int × Int × (List Int) × (List (Int × Int)) × Int × Bool × Bool))))) #[Value.pointer none, Value.pointer a0] E46 rfl (by decide) (by decide) ⟨_, _, rfl, rfl, by kernel_rfl⟩ (fun L w' g => ⟨[_], _, rfl, ⟨_, rfl, ObR.nil⟩, ⟨[_], _, rfl, ⟨_, rfl, (hB0.later g)⟩, rfl⟩⟩) (fun A1 c1 L1 w1 hC1 g1 hbl1 => ?_)
  try dsimp only
  have hF := hF.trans g1
  have hB0 := hB0.later g1
  obtain ⟨I2, hI2⟩ : ∃ I : Nat → Tup [Lf.i IntKind.i64] → (Nat → Prop) → World → Prop, I = (fun m_ y L w' => ∃ (v2_0 : Int), y = (v2_0, ()) ∧ iter (law09_ReasmNobody.s2 k a1_1 a1_3 l0 l1_2) m_ v2_0 = some r ∧ Fine (fun _ => False) w L w' ∧ SlR R46 L w' A1 c1 (([(none), ((some (0, 0, [], [], 0, false, false)))] : List ((Option (Int × Int × (List Int) × (List (Int × Int)) × Int × Bool × Bool)))))) := ⟨_, rfl⟩
  refine ok_loop I2 k (by rw [hI2]; exact ⟨_, rfl, h, hF, hC1⟩) ?_
  clear h
  intro m_ y L2 w2 hy
  rw [hI2] at hy
  obtain ⟨v2_0, rfl, h, hF, hC1⟩ := hy
  obtain ⟨m2, o2, rfl, h, hl2, hr_2⟩ := iter_some h
  unfold law09_ReasmNobody.s2 at h
  try dsimp only at h
  try dsimp only
  refine ok_if (fun hc4 => ?_) (fun hc4 => ?_)
  · have h := bif_t h hc4
    obtain ⟨r5, hr6, h⟩ := Option.bind_eq_some_iff.1 h
    refine ok_need (getI_need hC1 hr6) ?_
    refine ok_get hC1 (Fine.refl _ _) hr6 (by simp) (fun cs hcs => ?_)
    obtain ⟨p3_0, rfl, hE3_0⟩ := hcs
    refine ⟨(p3_0, ()), rfl, ?_⟩
    try dsimp only
    obtain ⟨r4, hr4, h⟩ := Option.bind_eq_some_iff.1 h
    obtain ⟨v4_0, v4_1⟩ := r4
    try dsimp only at h
    refine ok_callm rfl (fun L4 w4 g4 lt4 => ?_)
    refine (reasm_Stream_End.c k _ r5 (v4_0, v4_1) hr4  w4 (hE3_0.later g4).bare).mono ?_
    rintro e w4' ⟨rfl, hb4⟩
    refine ⟨(v4_0, v4_1, ()), rfl, hb4, fun g4' => ?_⟩
    try dsimp only
    have hF := hF.trans g4'
    have hC1 := hC1.later g4'
    have hE3_0 := hE3_0.later g4'
    refine ok_if (fun hc8 => ?_) (fun hc8 => ?_)
    · have h := bif_t h hc8
      refine ok_if (fun hc9 => ?_) (fun hc9 => ?_)
      · have h := bif_t h hc9
        obtain ⟨v5_0, hr5, h⟩ := Option.bind_eq_some_iff.1 h
        refine ok_callm rfl (fun L5 w5 g5 lt5 => ?_)
        refine (reasm_Stream_DataR.c k _ r5 a1_1 _ _ _ l1_2 true v5_0 hr5 rfl w5 (hE3_0.later g5).bare (hS1_2.later (hF.trans g5)).bare).mono ?_
        rintro e w5' ⟨rfl, hb5⟩
        refine ⟨(v5_0, ()), rfl, hb5, fun g5' => ?_⟩
        try dsimp only
        have hF := hF.trans g5'
        have hC1 := hC1.later g5'
        have hE3_0 := hE3_0.later g5'
        refine ok_if (fun hc10 => ?_) (fun hc10 => ?_)
        · have h := bif_t h hc10
          obtain rfl := Option.some.inj h
          obtain rfl := hr_2 _ rfl
          intro ρ L w' _ he _ _
          exact ⟨rfl, (hF.ext he).below⟩
        · have h := bif_f h hc10
          obtain ⟨v6_0, hr6, h⟩ := Option.bind_eq_some_iff.1 h
          refine ok_callm rfl (fun L6 w6 g6 lt6 => ?_)
          refine (reasm_Stream_ResetR.c k _ r5 a1_1 v6_0 hr6  w6 (hE3_0.later g6).bare).mono ?_
          rintro e w6' ⟨rfl, hb6⟩
          refine ⟨(v6_0, ()), rfl, hb6, fun g6' => ?_⟩
          try dsimp only
          have hF := hF.trans g6'
          have hC1 := hC1.later g6'
          have hE3_0 := hE3_0.later g6'
          refine ok_if (fun hc11 => ?_) (fun hc11 => ?_)
          · have h := bif_t h hc11
            obtain rfl := Option.some.inj h
            obtain rfl := hr_2 _ rfl
            intro ρ L w' _ he _ _
            exact ⟨rfl, (hF.ext he).below⟩
          · have h := bif_f h hc11
            obtain ⟨s7_0, hr7, h⟩ := Option.bind_eq_some_iff.1 h
            refine ok_callm rfl (fun L7 w7 g7 lt7 => ?_)
            refine (reasm_Stream_ReadR.c k _ r5 a1_1 s7_0 hr7  w7 (hE3_0.later g7).bare).mono ?_
            rintro e w7' ⟨A7_0, c7_0, rfl, hb7, hO7_0⟩
            refine ⟨((A7_0, s7_0.length, c7_0), ()), rfl, hb7, fun g7' => ?_⟩
            try dsimp only
            have hO7_0 := hO7_0.call (hF.trans g7).size lt7
            have hF := hF.trans g7'
            have hC1 := hC1.later g7'
            have hE3_0 := hE3_0.later g7'
            refine ok_if (fun hc13 => ?_) (fun hc13 => ?_)
            · have h := bif_t h hc13
              obtain rfl := Option.some.inj h
              obtain rfl := hr_2 _ rfl
              intro ρ L w' _ he _ _
              exact ⟨rfl, (hF.ext he).below⟩
            · have h := bif_f h hc13
              obtain ⟨v8_0, hr8, h⟩ := Option.bind_eq_some_iff.1 h
              refine ok_callm rfl (fun L8 w8 g8 lt8 => ?_)
              refine (reasm_Stream_Ready.c k _ r5 v8_0 hr8  w8 (hE3_0.later g8).bare).mono ?_
              rintro e w8' ⟨rfl, hb8⟩
              refine ⟨(v8_0, ()), rfl, hb8, fun g8' => ?_⟩
              try dsimp only
              have hF := hF.trans g8'
              have hO7_0 := hO7_0.later g8'
              have hC1 := hC1.later g8'
              have hE3_0 := hE3_0.later g8'
              refine ok_if (fun hc14 => ?_) (fun hc14 => ?_)
              · have h := bif_t h hc14
                obtain rfl := Option.some.inj h
                obtain rfl := hr_2 _ rfl
                intro ρ L w' _ he _ _
                exact ⟨rfl, (hF.ext he).below⟩
              · have h := bif_f h hc14
                obtain ⟨v9_0, hr9, h⟩ := Option.bind_eq_some_iff.1 h
                refine ok_callm rfl (fun L9 w9 g9 lt9 => ?_)
                refine (reasm_Stream_Limit.c k _ r5 v9_0 hr9  w9 (hE3_0.later g9).bare).mono ?_
                rintro e w9' ⟨rfl, hb9⟩
                refine ⟨(v9_0, ()), rfl, hb9, fun g9' => ?_⟩
                try dsimp only
                have hF := hF.trans g9'
                have hO7_0 := hO7_0.later g9'
                have hC1 := hC1.later g9'
                have hE3_0 := hE3_0.later g9'
                refine ok_if (fun hc15 => ?_) (fun hc15 => ?_)
                · have h := bif_t h hc15
                  obtain rfl := Option.some.inj h
                  obtain rfl := hr_2 _ rfl
                  intro ρ L w' _ he _ _
                  exact ⟨rfl, (hF.ext he).below⟩
                · have h := bif_f h hc15
                  obtain ⟨v10_0, hr10, h⟩ := Option.bind_eq_some_iff.1 h
                  refine ok_callm rfl (fun L10 w10 g10 lt10 => ?_)
                  refine (reasm_Stream_At.c k _ r5 v10_0 hr10  w10 (hE3_0.later g10).bare).mono ?_
                  rintro e w10' ⟨rfl, hb10⟩
                  refine ⟨(v10_0, ()), rfl, hb10, fun g10' => ?_⟩
                  try dsimp only
                  have hF := hF.trans g10'
                  have hO7_0 := hO7_0.later g10'
                  have hC1 := hC1.later g10'
                  have hE3_0 := hE3_0.later g10'
                  refine ok_if (fun hc16 => ?_) (fun hc16 => ?_)
                  · have h := bif_t h hc16
                    obtain rfl := Option.some.inj h
                    obtain rfl := hr_2 _ rfl
                    intro ρ L w' _ he _ _
                    exact ⟨rfl, (hF.ext he).below⟩
                  · have h := bif_f h hc16
                    obtain ⟨v11_0, hr11, h⟩ := Option.bind_eq_some_iff.1 h
                    refine ok_callm rfl (fun L11 w11 g11 lt11 => ?_)
                    refine (reasm_Stream_Held.c k _ r5 v11_0 hr11  w11 (hE3_0.later g11).bare).mono ?_
                    rintro e w11' ⟨rfl, hb11⟩
                    refine ⟨(v11_0, ()), rfl, hb11, fun g11' => ?_⟩
                    try dsimp only
                    have hF := hF.trans g11'
                    have hO7_0 := hO7_0.later g11'
                    have hC1 := hC1.later g11'
                    have hE3_0 := hE3_0.later g11'
                    refine ok_if (fun hc17 => ?_) (fun hc17 => ?_)
                    · have h := bif_t h hc17
                      obtain rfl := Option.some.inj h
                      obtain rfl := hr_2 _ rfl
                      intro ρ L w' _ he _ _
                      exact ⟨rfl, (hF.ext he).below⟩
                    · have h := bif_f h hc17
                      refine ok_if (fun hc18 => ?_) (fun hc18 => ?_)
                      · have h := bif_t h hc18
                        obtain rfl := Option.some.inj h
                        obtain rfl := hr_2 _ rfl
                        intro ρ L w' _ he _ _
                        exact ⟨rfl, (hF.ext he).below⟩
                      · have h := bif_f h hc18
                        obtain rfl := Option.some.inj h
                        obtain rfl := hr_2 _ rfl
                        intro ρ L w' _ he _ _
                        exact ⟨rfl, (hF.ext he).below⟩
      · have h := bif_f h hc9
        obtain ⟨v5_0, hr5, h⟩ := Option.bind_eq_some_iff.1 h
        refine ok_callm rfl (fun L5 w5 g5 lt5 => ?_)
        refine (reasm_Stream_DataR.c k _ r5 a1_1 _ _ _ l1_2 false v5_0 hr5 rfl w5 (hE3_0.later g5).bare (hS1_2.later (hF.trans g5)).bare).mono ?_
        rintro e w5' ⟨rfl, hb5⟩
        refine ⟨(v5_0, ()), rfl, hb5, fun g5' => ?_⟩
        try dsimp only
        have hF := hF.trans g5'
        have hC1 := hC1.later g5'
        have hE3_0 := hE3_0.later g5'
        refine ok_if (fun hc19 => ?_) (fun hc19 => ?_)
        · have h := bif_t h hc19
          obtain rfl := Option.some.inj h
          obtain rfl := hr_2 _ rfl
          intro ρ L w' _ he _ _
          exact ⟨rfl, (hF.ext he).below⟩
        · have h := bif_f h hc19
          obtain ⟨v6_0, hr6, h⟩ := Option.bind_eq_some_iff.1 h
          refine ok_callm rfl (fun L6 w6 g6 lt6 => ?_)
          refine (reasm_Stream_ResetR.c k _ r5 a1_1 v6_0 hr6  w6 (hE3_0.later g6).bare).mono ?_
          rintro e w6' ⟨rfl, hb6⟩
          refine ⟨(v6_0, ()), rfl, hb6, fun g6' => ?_⟩
          try dsimp only
          have hF := hF.trans g6'
          have hC1 := hC1.later g6'
          have hE3_0 := hE3_0.later g6'
          refine ok_if (fun hc20 => ?_) (fun hc20 => ?_)
          · have h := bif_t h hc20
            obtain rfl := Option.some.inj h
            obtain rfl := hr_2 _ rfl
            intro ρ L w' _ he _ _
            exact ⟨rfl, (hF.ext he).below⟩
          · have h := bif_f h hc20
            obtain ⟨s7_0, hr7, h⟩ := Option.bind_eq_some_iff.1 h
            refine ok_callm rfl (fun L7 w7 g7 lt7 => ?_)
            refine (reasm_Stream_ReadR.c k _ r5 a1_1 s7_0 hr7  w7 (hE3_0.later g7).bare).mono ?_
            rintro e w7' ⟨A7_0, c7_0, rfl, hb7, hO7_0⟩
            refine ⟨((A7_0, s7_0.length, c7_0), ()), rfl, hb7, fun g7' => ?_⟩
            try dsimp only
            have hO7_0 := hO7_0.call (hF.trans g7).size lt7
            have hF := hF.trans g7'
            have hC1 := hC1.later g7'
            have hE3_0 := hE3_0.later g7'
            refine ok_if (fun hc22 => ?_) (fun hc22 => ?_)
            · have h := bif_t h hc22
              obtain rfl := Option.some.inj h
              obtain rfl := hr_2 _ rfl
              intro ρ L w' _ he _ _
              exact ⟨rfl, (hF.ext he).below⟩
            · have h := bif_f h hc22
              obtain ⟨v8_0, hr8, h⟩ := Option.bind_eq_some_iff.1 h
              refine ok_callm rfl (fun L8 w8 g8 lt8 => ?_)
              refine (reasm_Stream_Ready.c k _ r5 v8_0 hr8  w8 (hE3_0.later g8).bare).mono ?_
              rintro e w8' ⟨rfl, hb8⟩
              refine ⟨(v8_0, ()), rfl, hb8, fun g8' => ?_⟩
              try dsimp only
              have hF := hF.trans g8'
              have hO7_0 := hO7_0.later g8'
              have hC1 := hC1.later g8'
              have hE3_0 := hE3_0.later g8'
              refine ok_if (fun hc23 => ?_) (fun hc23 => ?_)
              · have h := bif_t h hc23
                obtain rfl := Option.some.inj h
                obtain rfl := hr_2 _ rfl
                intro ρ L w' _ he _ _
                exact ⟨rfl, (hF.ext he).below⟩
              · have h := bif_f h hc23
                obtain ⟨v9_0, hr9, h⟩ := Option.bind_eq_some_iff.1 h
                refine ok_callm rfl (fun L9 w9 g9 lt9 => ?_)
                refine (reasm_Stream_Limit.c k _ r5 v9_0 hr9  w9 (hE3_0.later g9).bare).mono ?_
                rintro e w9' ⟨rfl, hb9⟩
                refine ⟨(v9_0, ()), rfl, hb9, fun g9' => ?_⟩
                try dsimp only
                have hF := hF.trans g9'
                have hO7_0 := hO7_0.later g9'
                have hC1 := hC1.later g9'
                have hE3_0 := hE3_0.later g9'
                refine ok_if (fun hc24 => ?_) (fun hc24 => ?_)
                · have h := bif_t h hc24
                  obtain rfl := Option.some.inj h
                  obtain rfl := hr_2 _ rfl
                  intro ρ L w' _ he _ _
                  exact ⟨rfl, (hF.ext he).below⟩
                · have h := bif_f h hc24
                  obtain ⟨v10_0, hr10, h⟩ := Option.bind_eq_some_iff.1 h
                  refine ok_callm rfl (fun L10 w10 g10 lt10 => ?_)
                  refine (reasm_Stream_At.c k _ r5 v10_0 hr10  w10 (hE3_0.later g10).bare).mono ?_
                  rintro e w10' ⟨rfl, hb10⟩
                  refine ⟨(v10_0, ()), rfl, hb10, fun g10' => ?_⟩
                  try dsimp only
                  have hF := hF.trans g10'
                  have hO7_0 := hO7_0.later g10'
                  have hC1 := hC1.later g10'
                  have hE3_0 := hE3_0.later g10'
                  refine ok_if (fun hc25 => ?_) (fun hc25 => ?_)
                  · have h := bif_t h hc25
                    obtain rfl := Option.some.inj h
                    obtain rfl := hr_2 _ rfl
                    intro ρ L w' _ he _ _
                    exact ⟨rfl, (hF.ext he).below⟩
                  · have h := bif_f h hc25
                    obtain ⟨v11_0, hr11, h⟩ := Option.bind_eq_some_iff.1 h
                    refine ok_callm rfl (fun L11 w11 g11 lt11 => ?_)
                    refine (reasm_Stream_Held.c k _ r5 v11_0 hr11  w11 (hE3_0.later g11).bare).mono ?_
                    rintro e w11' ⟨rfl, hb11⟩
                    refine ⟨(v11_0, ()), rfl, hb11, fun g11' => ?_⟩
                    try dsimp only
                    have hF := hF.trans g11'
                    have hO7_0 := hO7_0.later g11'
                    have hC1 := hC1.later g11'
                    have hE3_0 := hE3_0.later g11'
                    refine ok_if (fun hc26 => ?_) (fun hc26 => ?_)
                    · have h := bif_t h hc26
                      obtain rfl := Option.some.inj h
                      obtain rfl := hr_2 _ rfl
                      intro ρ L w' _ he _ _
                      exact ⟨rfl, (hF.ext he).below⟩
                    · have h := bif_f h hc26
                      refine ok_if (fun hc27 => ?_) (fun hc27 => ?_)
                      · have h := bif_t h hc27
                        obtain rfl := Option.some.inj h
                        obtain rfl := hr_2 _ rfl
                        intro ρ L w' _ he _ _
                        exact ⟨rfl, (hF.ext he).below⟩
                      · have h := bif_f h hc27
                        obtain rfl := Option.some.inj h
                        obtain rfl := hr_2 _ rfl
                        intro ρ L w' _ he _ _
                        exact ⟨rfl, (hF.ext he).below⟩
    · have h := bif_f h hc8
      refine ok_if (fun hc28 => ?_) (fun hc28 => ?_)
      · have h := bif_t h hc28
        obtain ⟨v5_0, hr5, h⟩ := Option.bind_eq_some_iff.1 h
        refine ok_callm rfl (fun L5 w5 g5 lt5 => ?_)
        refine (reasm_Stream_DataR.c k _ r5 a1_1 _ _ _ l1_2 true v5_0 hr5 rfl w5 (hE3_0.later g5).bare (hS1_2.later (hF.trans g5)).bare).mono ?_
        rintro e w5' ⟨rfl, hb5⟩
        refine ⟨(v5_0, ()), rfl, hb5, fun g5' => ?_⟩
        try dsimp only
        have hF := hF.trans g5'
        have hC1 := hC1.later g5'
        have hE3_0 := hE3_0.later g5'
        refine ok_if (fun hc29 => ?_) (fun hc29 => ?_)
        · have h := bif_t h hc29
          obtain rfl := Option.some.inj h
          obtain rfl := hr_2 _ rfl
          intro ρ L w' _ he _ _
          exact ⟨rfl, (hF.ext he).below⟩
        · have h := bif_f h hc29
          obtain ⟨v6_0, hr6, h⟩ := Option.bind_eq_some_iff.1 h
          refine ok_callm rfl (fun L6 w6 g6 lt6 => ?_)
          refine (reasm_Stream_ResetR.c k _ r5 a1_1 v6_0 hr6  w6 (hE3_0.later g6).bare).mono ?_
          rintro e w6' ⟨rfl, hb6⟩
          refine ⟨(v6_0, ()), rfl, hb6, fun g6' => ?_⟩
          try dsimp only
          have hF := hF.trans g6'
          have hC1 := hC1.later g6'
          have hE3_0 := hE3_0.later g6'
          refine ok_if (fun hc30 => ?_) (fun hc30 => ?_)
          · have h := bif_t h hc30
            obtain rfl := Option.some.inj h
            obtain rfl := hr_2 _ rfl
            intro ρ L w' _ he _ _
            exact ⟨rfl, (hF.ext he).below⟩
          · have h := bif_f h hc30
            obtain ⟨s7_0, hr7, h⟩ := Option.bind_eq_some_iff.1 h
            refine ok_callm rfl (fun L7 w7 g7 lt7 => ?_)
            refine (reasm_Stream_ReadR.c k _ r5 a1_1 s7_0 hr7  w7 (hE3_0.later g7).bare).mono ?_
            rintro e w7' ⟨A7_0, c7_0, rfl, hb7, hO7_0⟩
            refine ⟨((A7_0, s7_0.length, c7_0), ()), rfl, hb7, fun g7' => ?_⟩
            try dsimp only
            have hO7_0 := hO7_0.call (hF.trans g7).size lt7
            have hF := hF.trans g7'
            have hC1 := hC1.later g7'
            have hE3_0 := hE3_0.later g7'
            refine ok_if (fun hc32 => ?_) (fun hc32 => ?_)
            · have h := bif_t h hc32
              obtain rfl := Option.some.inj h
              obtain rfl := hr_2 _ rfl
              intro ρ L w' _ he _ _
              exact ⟨rfl, (hF.ext he).below⟩
            · have h := bif_f h hc32
              obtain ⟨v8_0, hr8, h⟩ := Option.bind_eq_some_iff.1 h
              refine ok_callm rfl (fun L8 w8 g8 lt8 => ?_)
              refine (reasm_Stream_Ready.c k _ r5 v8_0 hr8  w8 (hE3_0.later g8).bare).mono ?_
              rintro e w8' ⟨rfl, hb8⟩
              refine ⟨(v8_0, ()), rfl, hb8, fun g8' => ?_⟩
              try dsimp only
              have hF := hF.trans g8'
              have hO7_0 := hO7_0.later g8'
              have hC1 := hC1.later g8'
              have hE3_0 := hE3_0.later g8'
              refine ok_if (fun hc33 => ?_) (fun hc33 => ?_)
              · have h := bif_t h hc33
                obtain rfl := Option.some.inj h
                obtain rfl := hr_2 _ rfl
                intro ρ L w' _ he _ _
                exact ⟨rfl, (hF.ext he).below⟩
              · have h := bif_f h hc33
                obtain ⟨v9_0, hr9, h⟩ := Option.bind_eq_some_iff.1 h
                refine ok_callm rfl (fun L9 w9 g9 lt9 => ?_)
                refine (reasm_Stream_Limit.c k _ r5 v9_0 hr9  w9 (hE3_0.later g9).bare).mono ?_
                rintro e w9' ⟨rfl, hb9⟩
                refine ⟨(v9_0, ()), rfl, hb9, fun g9' => ?_⟩
                try dsimp only
                have hF := hF.trans g9'
                have hO7_0 := hO7_0.later g9'
                have hC1 := hC1.later g9'
                have hE3_0 := hE3_0.later g9'
                refine ok_if (fun hc34 => ?_) (fun hc34 => ?_)
                · have h := bif_t h hc34
                  obtain rfl := Option.some.inj h
                  obtain rfl := hr_2 _ rfl
                  intro ρ L w' _ he _ _
                  exact ⟨rfl, (hF.ext he).below⟩
                · have h := bif_f h hc34
                  obtain ⟨v10_0, hr10, h⟩ := Option.bind_eq_some_iff.1 h
                  refine ok_callm rfl (fun L10 w10 g10 lt10 => ?_)
                  refine (reasm_Stream_At.c k _ r5 v10_0 hr10  w10 (hE3_0.later g10).bare).mono ?_
                  rintro e w10' ⟨rfl, hb10⟩
                  refine ⟨(v10_0, ()), rfl, hb10, fun g10' => ?_⟩
                  try dsimp only
                  have hF := hF.trans g10'
                  have hO7_0 := hO7_0.later g10'
                  have hC1 := hC1.later g10'
                  have hE3_0 := hE3_0.later g10'
                  refine ok_if (fun hc35 => ?_) (fun hc35 => ?_)
                  · have h := bif_t h hc35
                    obtain rfl := Option.some.inj h
                    obtain rfl := hr_2 _ rfl
                    intro ρ L w' _ he _ _
                    exact ⟨rfl, (hF.ext he).below⟩
                  · have h := bif_f h hc35
                    obtain ⟨v11_0, hr11, h⟩ := Option.bind_eq_some_iff.1 h
                    refine ok_callm rfl (fun L11 w11 g11 lt11 => ?_)
                    refine (reasm_Stream_Held.c k _ r5 v11_0 hr11  w11 (hE3_0.later g11).bare).mono ?_
                    rintro e w11' ⟨rfl, hb11⟩
                    refine ⟨(v11_0, ()), rfl, hb11, fun g11' => ?_⟩
                    try dsimp only
                    have hF := hF.trans g11'
                    have hO7_0 := hO7_0.later g11'
                    have hC1 := hC1.later g11'
                    have hE3_0 := hE3_0.later g11'
                    refine ok_if (fun hc36 => ?_) (fun hc36 => ?_)
                    · have h := bif_t h hc36
                      obtain rfl := Option.some.inj h
                      obtain rfl := hr_2 _ rfl
                      intro ρ L w' _ he _ _
                      exact ⟨rfl, (hF.ext he).below⟩
                    · have h := bif_f h hc36
                      refine ok_if (fun hc37 => ?_) (fun hc37 => ?_)
                      · have h := bif_t h hc37
                        obtain rfl := Option.some.inj h
                        obtain rfl := hr_2 _ rfl
                        intro ρ L w' _ he _ _
                        exact ⟨rfl, (hF.ext he).below⟩
                      · have h := bif_f h hc37
                        obtain ⟨v12_0, hr12, h⟩ := Option.bind_eq_some_iff.1 h
                        refine ok_callm rfl (fun L12 w12 g12 lt12 => ?_)
                        refine (reasm_Stream_Over.c k _ r5 v12_0 hr12  w12 (hE3_0.later g12).bare).mono ?_
                        rintro e w12' ⟨rfl, hb12⟩
                        refine ⟨(v12_0, ()), rfl, hb12, fun g12' => ?_⟩
                        try dsimp only
                        have hF := hF.trans g12'
                        have hO7_0 := hO7_0.later g12'
                        have hC1 := hC1.later g12'
                        have hE3_0 := hE3_0.later g12'
                        refine ok_if (fun hc38 => ?_) (fun hc38 => ?_)
                        · have h := bif_t h hc38
                          obtain ⟨v13_0, hr13, h⟩ := Option.bind_eq_some_iff.1 h
                          refine ok_callm rfl (fun L13 w13 g13 lt13 => ?_)
                          refine (reasm_Stream_Broken.c k _ r5 v13_0 hr13  w13 (hE3_0.later g13).bare).mono ?_
                          rintro e w13' ⟨rfl, hb13⟩
                          refine ⟨(v13_0, ()), rfl, hb13, fun g13' => ?_⟩
                          try dsimp only
                          have hF := hF.trans g13'
                          have hO7_0 := hO7_0.later g13'
                          have hC1 := hC1.later g13'
                          have hE3_0 := hE3_0.later g13'
                          refine ok_if (fun hc39 => ?_) (fun hc39 => ?_)
                          · have h := bif_t h hc39
                            obtain rfl := Option.some.inj h
                            obtain rfl := hr_2 _ rfl
                            intro ρ L w' _ he _ _
                            exact ⟨rfl, (hF.ext he).below⟩
                          · have h := bif_f h hc39
                            obtain rfl := Option.some.inj h
                            have h := hl2 _ rfl
                            exact ok_again (I := I2) m2 (Nat.lt_succ_self _) (fun L w' he => by rw [hI2]; exact ⟨_, rfl, h, hF.trans he.fine, hC1.later he.fine⟩)
                        · have h := bif_f h hc38
                          obtain rfl := Option.some.inj h
                          obtain rfl := hr_2 _ rfl
                          intro ρ L w' _ he _ _
                          exact ⟨rfl, (hF.ext he).below⟩
      · have h := bif_f h hc28
        obtain ⟨v5_0, hr5, h⟩ := Option.bind_eq_some_iff.1 h
        refine ok_callm rfl (fun L5 w5 g5 lt5 => ?_)
        refine (reasm_Stream_DataR.c k _ r5 a1_1 _ _ _ l1_2 false v5_0 hr5 rfl w5 (hE3_0.later g5).bare (hS1_2.later (hF.trans g5)).bare).mono ?_
        rintro e w5' ⟨rfl, hb5⟩
        refine ⟨(v5_0, ()), rfl, hb5, fun g5' => ?_⟩
        try dsimp only
        have hF := hF.trans g5'
        have hC1 := hC1.later g5'
        have hE3_0 := hE3_0.later g5'
        refine ok_if (fun hc40 => ?_) (fun hc40 => ?_)
        · have h := bif_t h hc40
          obtain rfl := Option.some.inj h
          obtain rfl := hr_2 _ rfl
          intro ρ L w' _ he _ _
          exact ⟨rfl, (hF.ext he).below⟩
        · have h := bif_f h hc40
          obtain ⟨v6_0, hr6, h⟩ := Option.bind_eq_some_iff.1 h
          refine ok_callm rfl (fun L6 w6 g6 lt6 => ?_)
          refine (reasm_Stream_ResetR.c k _ r5 a1_1 v6_0 hr6  w6 (hE3_0.later g6).bare).mono ?_
          rintro e w6' ⟨rfl, hb6⟩
          refine ⟨(v6_0, ()), rfl, hb6, fun g6' => ?_⟩
          try dsimp only
          have hF := hF.trans g6'
          have hC1 := hC1.later g6'
          have hE3_0 := hE3_0.later g6'
          refine ok_if (fun hc41 => ?_) (fun hc41 => ?_)
          · have h := bif_t h hc41
            obtain rfl := Option.some.inj h
            obtain rfl := hr_2 _ rfl
            intro ρ L w' _ he _ _
            exact ⟨rfl, (hF.ext he).below⟩
          · have h := bif_f h hc41
            obtain ⟨s7_0, hr7, h⟩ := Option.bind_eq_some_iff.1 h
            refine ok_callm rfl (fun L7 w7 g7 lt7 => ?_)
            refine (reasm_Stream_ReadR.c k _ r5 a1_1 s7_0 hr7  w7 (hE3_0.later g7).bare).mono ?_
            rintro e w7' ⟨A7_0, c7_0, rfl, hb7, hO7_0⟩
            refine ⟨((A7_0, s7_0.length, c7_0), ()), rfl, hb7, fun g7' => ?_⟩
            try dsimp only
            have hO7_0 := hO7_0.call (hF.trans g7).size lt7
            have hF := hF.trans g7'
            have hC1 := hC1.later g7'
            have hE3_0 := hE3_0.later g7'
            refine ok_if (fun hc43 => ?_) (fun hc43 => ?_)
            · have h := bif_t h hc43
              obtain rfl := Option.some.inj h
              obtain rfl := hr_2 _ rfl
              intro ρ L w' _ he _ _
              exact ⟨rfl, (hF.ext he).below⟩
            · have h := bif_f h hc43
              obtain ⟨v8_0, hr8, h⟩ := Option.bind_eq_some_iff.1 h
              refine ok_callm rfl (fun L8 w8 g8 lt8 => ?_)
              refine (reasm_Stream_Ready.c k _ r5 v8_0 hr8  w8 (hE3_0.later g8).bare).mono ?_
              rintro e w8' ⟨rfl, hb8⟩
              refine ⟨(v8_0, ()), rfl, hb8, fun g8' => ?_⟩
              try dsimp only
              have hF := hF.trans g8'
              have hO7_0 := hO7_0.later g8'
              have hC1 := hC1.later g8'
              have hE3_0 := hE3_0.later g8'
              refine ok_if (fun hc44 => ?_) (fun hc44 => ?_)
              · have h := bif_t h hc44
                obtain rfl := Option.some.inj h
                obtain rfl := hr_2 _ rfl
                intro ρ L w' _ he _ _
                exact ⟨rfl, (hF.ext he).below⟩
              · have h := bif_f h hc44
                obtain ⟨v9_0, hr9, h⟩ := Option.bind_eq_some_iff.1 h
                refine ok_callm rfl (fun L9 w9 g9 lt9 => ?_)
                refine (reasm_Stream_Limit.c k _ r5 v9_0 hr9  w9 (hE3_0.later g9).bare).mono ?_
                rintro e w9' ⟨rfl, hb9⟩
                refine ⟨(v9_0, ()), rfl, hb9, fun g9' => ?_⟩
                try dsimp only
                have hF := hF.trans g9'
                have hO7_0 := hO7_0.later g9'
                have hC1 := hC1.later g9'
                have hE3_0 := hE3_0.later g9'
                refine ok_if (fun hc45 => ?_) (fun hc45 => ?_)
                · have h := bif_t h hc45
                  obtain rfl := Option.some.inj h
                  obtain rfl := hr_2 _ rfl
                  intro ρ L w' _ he _ _
                  exact ⟨rfl, (hF.ext he).below⟩
                · have h := bif_f h hc45
                  obtain ⟨v10_0, hr10, h⟩ := Option.bind_eq_some_iff.1 h
                  refine ok_callm rfl (fun L10 w10 g10 lt10 => ?_)
                  refine (reasm_Stream_At.c k _ r5 v10_0 hr10  w10 (hE3_0.later g10).bare).mono ?_
                  rintro e w10' ⟨rfl, hb10⟩
                  refine ⟨(v10_0, ()), rfl, hb10, fun g10' => ?_⟩
                  try dsimp only
                  have hF := hF.trans g10'
                  have hO7_0 := hO7_0.later g10'
                  have hC1 := hC1.later g10'
                  have hE3_0 := hE3_0.later g10'
                  refine ok_if (fun hc46 => ?_) (fun hc46 => ?_)
                  · have h := bif_t h hc46
                    obtain rfl := Option.some.inj h
                    obtain rfl := hr_2 _ rfl
                    intro ρ L w' _ he _ _
                    exact ⟨rfl, (hF.ext he).below⟩
                  · have h := bif_f h hc46
                    obtain ⟨v11_0, hr11, h⟩ := Option.bind_eq_some_iff.1 h
                    refine ok_callm rfl (fun L11 w11 g11 lt11 => ?_)
                    refine (reasm_Stream_Held.c k _ r5 v11_0 hr11  w11 (hE3_0.later g11).bare).mono ?_
                    rintro e w11' ⟨rfl, hb11⟩
                    refine ⟨(v11_0, ()), rfl, hb11, fun g11' => ?_⟩
                    try dsimp only
                    have hF := hF.trans g11'
                    have hO7_0 := hO7_0.later g11'
                    have hC1 := hC1.later g11'
                    have hE3_0 := hE3_0.later g11'
                    refine ok_if (fun hc47 => ?_) (fun hc47 => ?_)
                    · have h := bif_t h hc47
                      obtain rfl := Option.some.inj h
                      obtain rfl := hr_2 _ rfl
                      intro ρ L w' _ he _ _
                      exact ⟨rfl, (hF.ext he).below⟩
                    · have h := bif_f h hc47
                      refine ok_if (fun hc48 => ?_) (fun hc48 => ?_)
                      · have h := bif_t h hc48
                        obtain rfl := Option.some.inj h
                        obtain rfl := hr_2 _ rfl
                        intro ρ L w' _ he _ _
                        exact ⟨rfl, (hF.ext he).below⟩
                      · have h := bif_f h hc48
                        obtain ⟨v12_0, hr12, h⟩ := Option.bind_eq_some_iff.1 h
                        refine ok_callm rfl (fun L12 w12 g12 lt12 => ?_)
                        refine (reasm_Stream_Over.c k _ r5 v12_0 hr12  w12 (hE3_0.later g12).bare).mono ?_
                        rintro e w12' ⟨rfl, hb12⟩
                        refine ⟨(v12_0, ()), rfl, hb12, fun g12' => ?_⟩
                        try dsimp only
                        have hF := hF.trans g12'
                        have hO7_0 := hO7_0.later g12'
                        have hC1 := hC1.later g12'
                        have hE3_0 := hE3_0.later g12'
                        refine ok_if (fun hc49 => ?_) (fun hc49 => ?_)
                        · have h := bif_t h hc49
                          obtain ⟨v13_0, hr13, h⟩ := Option.bind_eq_some_iff.1 h
                          refine ok_callm rfl (fun L13 w13 g13 lt13 => ?_)
                          refine (reasm_Stream_Broken.c k _ r5 v13_0 hr13  w13 (hE3_0.later g13).bare).mono ?_
                          rintro e w13' ⟨rfl, hb13⟩
                          refine ⟨(v13_0, ()), rfl, hb13, fun g13' => ?_⟩
                          try dsimp only
                          have hF := hF.trans g13'
                          have hO7_0 := hO7_0.later g13'
                          have hC1 := hC1.later g13'
                          have hE3_0 := hE3_0.later g13'
                          refine ok_if (fun hc50 => ?_) (fun hc50 => ?_)
                          · have h := bif_t h hc50
                            obtain rfl := Option.some.inj h
                            obtain rfl := hr_2 _ rfl
                            intro ρ L w' _ he _ _
                            exact ⟨rfl, (hF.ext he).below⟩
                          · have h := bif_f h hc50
                            obtain rfl := Option.some.inj h
                            have h := hl2 _ rfl
                            exact ok_again (I := I2) m2 (Nat.lt_succ_self _) (fun L w' he => by rw [hI2]; exact ⟨_, rfl, h, hF.trans he.fine, hC1.later he.fine⟩)
                        · have h := bif_f h hc49
                          obtain rfl := Option.some.inj h
                          obtain rfl := hr_2 _ rfl
                          intro ρ L w' _ he _ _
                          exact ⟨rfl, (hF.ext he).below⟩
  · have h := bif_f h hc4
    obtain ⟨r3, hr3, h⟩ := Option.bind_eq_some_iff.1 h
    obtain ⟨p3, v3_1⟩ := r3
    try dsimp only at h
    refine ok_callm rfl (fun L3 w3 g3 lt3 => ?_)
    refine (reasm_New.c k 4096 (p3, v3_1) hr3  w3 ).mono ?_
    rintro e w3' ⟨b3, A3_w2, c3_w2, A3_w3, c3_w3, rfl, hb3, hN3⟩
    refine ⟨(b3, v3_1, ()), rfl, hb3, fun g3' => ?_⟩
    try dsimp only
    cases p3 with
    | none =>
      obtain rfl := hN3
      have hF := hF.trans g3'
      have hC1 := hC1.later g3'
      refine ok_if (fun hc51 => ?_) (fun hc51 => ?_)
      · have h := bif_t h hc51
        obtain rfl := Option.some.inj h
        obtain rfl := hr_2 _ rfl
        intro ρ L w' _ he _ _
        exact ⟨rfl, (hF.ext he).below⟩
      · have h := bif_f h hc51
        refine ok_if (fun hc52 => ?_) (fun hc52 => absurd (hc52.symm.trans rfl) (by decide))
        obtain rfl := Option.some.inj h
        obtain rfl := hr_2 _ rfl
        intro ρ L w' _ he _ _
        exact ⟨rfl, (hF.ext he).below⟩
    | some q3 =>
      obtain ⟨hWn3, hWn3_2, hWn3_3, djn3_1_0, djn3_2_0, djn3_2_1⟩ := hN3
      have hmn3 : ∀ b, blk (b3, 0, 0) b → (fun _ => False) b ∨ w.heap.size ≤ b := fun b hb => Or.inr (Nat.le_trans (hF.trans g3).size (hWn3.lt b hb).2.2)
      have hmn3_2 : ∀ b, blk (A3_w2, 0, 0) b → (fun _ => False) b ∨ w.heap.size ≤ b := fun b hb => Or.inr (Nat.le_trans (hF.trans g3).size (hWn3_2.lt b hb).2.2)
      have hmn3_3 : ∀ b, blk (A3_w3, 0, 0) b → (fun _ => False) b ∨ w.heap.size ≤ b := fun b hb => Or.inr (Nat.le_trans (hF.trans g3).size (hWn3_3.lt b hb).2.2)
      have hWn3 := hWn3.call0 lt3
      have hWn3_2 := hWn3_2.call0 lt3
      have hWn3_3 := hWn3_3.call0 lt3
      have hF := hF.trans g3'
      have hC1 := hC1.later g3'
      have hA_b3 : Option.isSome b3 = true := hWn3.sl.some (by simp)
      have hN_b3 : Option.isNone b3 = false := by cases b3 <;> simp_all
      refine ok_if (fun hc56 => ?_) (fun hc56 => ?_)
      · have h := bif_t h hc56
        obtain rfl := Option.some.inj h
        obtain rfl := hr_2 _ rfl
        intro ρ L w' _ he _ _
        exact ⟨rfl, (hF.ext he).below⟩
      · have h := bif_f h hc56
        refine ok_if (fun hc99 => absurd (hc99.symm.trans hN_b3) (by decide)) (fun hc99 => ?_)
        obtain ⟨hs57, h⟩ := bif_need h
        have hs57 := of_decide_eq_true hs57
        have hcap := (hS0.later hF).2.1
        refine ok_need (by first | exact part3 hs57 hcap | exact part3 hs57 (Nat.le_refl _)) ?_
        obtain ⟨hq59, h⟩ := bif_need h
        have hq59 := of_decide_eq_true hq59
        refine ok_app (R := R22) (base := w.heap.size) (xs := ([] : List Int)) (ys := ((l0.drop (Int.toNat 0)).take (Int.toNat (if 4000 < ((l0.length : Nat) : Int) then 4000 else ((l0.length : Nat) : Int)) - Int.toNat 0))) rfl (sub_len hs57.1 hs57.2.1 hs57.2.2) E22 (OwnF.nil _ _ _ _ _) ((hS0.later hF).sub _ _ hs57.1 hs57.2.1 hs57.2.2) (by decide) hq59 hF.size (fun A4 c4 L4 w4 hO4 g4 hid4 hbl4 => ?_)
        try dsimp only
        have dj_o60_w53 : Dj A4 b3 := Dj.grow Dj.nil2 hbl4 hWn3.lt1
        have dj_o60_w54 : Dj A4 A3_w2 := Dj.grow Dj.nil2 hbl4 hWn3_2.lt1
        have dj_o60_w55 : Dj A4 A3_w3 := Dj.grow Dj.nil2 hbl4 hWn3_3.lt1
        have hWn3 := hWn3.other Dj.nil g4
        have hWn3_2 := hWn3_2.other Dj.nil g4
        have hWn3_3 := hWn3_3.other Dj.nil g4
        have hF := Fine.own hF g4 (fun b hb => by obtain ⟨_, hb, _⟩ := hb; cases hb) hid4
        refine ok_str (R := R22) (fun _ => rfl) rfl rfl rfl rfl hO4.sl (fun L5 w5 g5 => ?_)
        try dsimp only
        have hF := hF.trans g5
        have hWn3 := hWn3.later g5
        have hWn3_2 := hWn3_2.later g5
        have hWn3_3 := hWn3_3.later g5
        have hO4 := hO4.later g5
        obtain ⟨r6, hr6, h⟩ := Option.bind_eq_some_iff.1 h
        obtain ⟨v6_0, q6⟩ := r6
        try dsimp only at h
        have hBv6 : ∀ b, (reasm_Stream_Data.S b3 A3_w2 A3_w3) b → ¬ _ ∧ b < _ := fun b hb => by rcases hb with hb | hb | hb; exact ⟨(hWn3.lt b hb).2.1, hWn3.lt1 b hb⟩; exact ⟨(hWn3_2.lt b hb).2.1, hWn3_2.lt1 b hb⟩; exact ⟨(hWn3_3.lt b hb).2.1, hWn3_3.lt1 b hb⟩
        have hBm6 : ∀ b, (reasm_Stream_Data.S b3 A3_w2 A3_w3) b → (fun _ => False) b ∨ w.heap.size ≤ b := fun b hb => by rcases hb with hb | hb | hb; exact hmn3 b hb; exact hmn3_2 b hb; exact hmn3_3 b hb
        have hjB6_o60 : ∀ b, blk (A4, 0, 0) b → ¬ (reasm_Stream_Data.S b3 A3_w2 A3_w3) b := fun b h0 hb => by rcases hb with hb | hb | hb; exact dj_o60_w53 b h0 hb; exact dj_o60_w54 b h0 hb; exact dj_o60_w55 b h0 hb
        refine ok_callo (reasm_Stream_Data.S b3 A3_w2 A3_w3) rfl hBv6 (fun L6 w6 g6 lt6 => ?_)
        refine (reasm_Stream_Data.c k _ q3 _ _ _ _ 0 _ _ _ ((([] : List Int) ++ ((l0.drop (Int.toNat 0)).take (Int.toNat (if 4000 < ((l0.length : Nat) : Int) then 4000 else ((l0.length : Nat) : Int)) - Int.toNat 0)))) false (v6_0, q6) hr6 rfl w6 (hWn3.later g6).bare' (hWn3_2.later g6).bare' (hWn3_3.later g6).bare' djn3_1_0 djn3_2_0 djn3_2_1 ((hO4.later g6).off.vis hjB6_o60).sl).mono ?_
        rintro e w6' ⟨A6_w2, c6_w2, A6_w3, c6_w3, rfl, hf6, hWc6, hWc6_2, hWc6_3, djc6_1_0, djc6_2_0, djc6_2_1, hzc6_2, hzc6_3⟩
        refine ⟨(v6_0, ()), rfl, hf6, fun g6' hid6 hv6 => ?_⟩
        try dsimp only
        have dn6_2_o60 : Dj A6_w2 A4 := Dj.byB hzc6_2 hjB6_o60 (hO4.later g6).lt
        have dn6_3_o60 : Dj A6_w3 A4 := Dj.byB hzc6_3 hjB6_o60 (hO4.later g6).lt
        have hmc6 := hmn3
        have hmc6_2 : ∀ b, blk (A6_w2, 0, 0) b → (fun _ => False) b ∨ w.heap.size ≤ b := fun b hb => (hzc6_2 b hb).elim (hBm6 b) (fun h => Or.inr (Nat.le_trans (hF.trans g6).size h))
        have hmc6_3 : ∀ b, blk (A6_w3, 0, 0) b → (fun _ => False) b ∨ w.heap.size ≤ b := fun b hb => (hzc6_3 b hb).elim (hBm6 b) (fun h => Or.inr (Nat.le_trans (hF.trans g6).size h))
        have hWc6 := hWc6.vis (fun b hb => hv6 b (Or.inl (Or.inl hb)))
        have hWc6_2 := hWc6_2.vis (fun b hb => hv6 b (hzc6_2 b hb))
        have hWc6_3 := hWc6_3.vis (fun b hb => hv6 b (hzc6_3 b hb))
        have hO4 := OwnF.others hO4 hjB6_o60 g6'
        have hF := Fine.own hF g6' hBm6 hid6
        have hh7_o60 : ∀ b, blk (A4, 0, 0) b → (fun _ => False) b ∨ w.heap.size ≤ b := (fun b hb => Or.inr (Own.base hO4 hb))
        obtain ⟨I7, hI7⟩ : ∃ I : Nat → Tup [Lf.i IntKind.i64] → (Nat → Prop) → World → Prop, I = (fun m_ y L w' => ∃ (v7_0 : Int) (q7_b3 : Int × Int × (List Int) × (List (Int × Int)) × Int × Bool × Bool) (A7_b3_2 : Option Addr) (c7_b3_2 : Nat) (A7_b3_3 : Option Addr) (c7_b3_3 : Nat) (m7_o60 : List Int), y = (v7_0, ()) ∧ iter (law09_ReasmNobody.s7 k l0) m_ (v7_0, q7_b3, m7_o60) = some o2 ∧ Fine (fun _ => False) w L w' ∧ OwnO 0 L w' 5 R22 A4 c4 m7_o60 ∧ OwnO 0 L w' 45 RW45 b3 1 [(q7_b3.1, q7_b3.2.1, (A7_b3_2, q7_b3.2.2.1.length, c7_b3_2), (A7_b3_3, q7_b3.2.2.2.1.length, c7_b3_3), q7_b3.2.2.2.2.1, q7_b3.2.2.2.2.2.1, q7_b3.2.2.2.2.2.2)] ∧ OwnO 0 L w' 5 R22 A7_b3_2 c7_b3_2 q7_b3.2.2.1 ∧ OwnO 0 L w' 51 R43 A7_b3_3 c7_b3_3 q7_b3.2.2.2.1 ∧ ((([] : List Int) ++ ((l0.drop (Int.toNat 0)).take (Int.toNat (if 4000 < ((l0.length : Nat) : Int) then 4000 else ((l0.length : Nat) : Int)) - Int.toNat 0)))).length = m7_o60.length ∧ Dj A7_b3_2 A4 ∧ Dj A7_b3_2 b3 ∧ Dj A7_b3_3 A4 ∧ Dj A7_b3_3 b3 ∧ Dj A7_b3_3 A7_b3_2 ∧ (∀ b, blk (A7_b3_2, 0, 0) b → (fun _ => False) b ∨ w.heap.size ≤ b) ∧ (∀ b, blk (A7_b3_3, 0, 0) b → (fun _ => False) b ∨ w.heap.size ≤ b)) := ⟨_, rfl⟩
        refine ok_loop I7 k (by rw [hI7]; exact ⟨_, q6, A6_w2, c6_w2, A6_w3, c6_w3, (([] : List Int) ++ ((l0.drop (Int.toNat 0)).take (Int.toNat (if 4000 < ((l0.length : Nat) : Int) then 4000 else ((l0.length : Nat) : Int)) - Int.toNat 0))), rfl, h, hF, (hO4.off.mono0), hWc6, hWc6_2, hWc6_3, rfl, dn6_2_o60, djc6_1_0, dn6_3_o60, djc6_2_0, djc6_2_1, hmc6_2, hmc6_3⟩) ?_
        clear h
        intro m_ y L7 w7 hy
        rw [hI7] at hy
        obtain ⟨v7_0, q7_b3, A7_b3_2, c7_b3_2, A7_b3_3, c7_b3_3, m7_o60, rfl, h, hF, hM7_o60, hW7_b3, hW7_b3_2, hW7_b3_3, hl7_o60, dj_w67_o60, dj_w67_w66, dj_w68_o60, dj_w68_w66, dj_w68_w67, hm7_b3_2, hm7_b3_3⟩ := hy
        obtain ⟨m7, o7, rfl, h, hl7, hr_7⟩ := iter_some h
        unfold law09_ReasmNobody.s7 at h
        try dsimp only at h
        try dsimp only
        refine ok_if (fun hc69 => ?_) (fun hc69 => ?_)
        · have h := bif_t h hc69
          obtain ⟨r70, hr71, h⟩ := Option.bind_eq_some_iff.1 h
          refine ok_need (by rw [hl7_o60]; exact getI_need hM7_o60.sl hr71) ?_
          refine ok_get hM7_o60.sl (Fine.refl _ _) hr71 (by simp) (fun cs hcs => ⟨(r70, ()), hcs.symm, ?_⟩)
          try dsimp only
          obtain ⟨r72, hr73, h⟩ := Option.bind_eq_some_iff.1 h
          refine ok_need (by rw [hl7_o60]; exact getI_need hM7_o60.sl hr73) ?_
          rw [← map_add0 (Option.map _ _)]
          refine ok_put (R := R22) (x := r72) (x' := (IntKind.wrap IntKind.u8 (((BitVec.toNat (BitVec.ofInt 8 r70 ^^^ BitVec.ofInt 8 255)) : Nat) : Int))) (vs := [Value.int IntKind.u8 (IntKind.wrap IntKind.u8 (((BitVec.toNat (BitVec.ofInt 8 r70 ^^^ BitVec.ofInt 8 255)) : Nat) : Int))]) (Int.toNat v7_0) 0 hM7_o60 (getI_iff.1 hr73).2 (Nat.le_of_ble_eq_true rfl) rfl (fun _ => rfl) (fun Lt74 wt74 ht74 gst74 hdt74 => ?_)
          have hW7_b3 := hW7_b3.other (Dj.symm dj_o60_w53) gst74
          have hW7_b3_2 := hW7_b3_2.other dj_w67_o60 gst74
          have hW7_b3_3 := hW7_b3_3.other dj_w68_o60 gst74
          have hF := Fine.own hF gst74 hh7_o60 hdt74
          have hM7_o60 := ht74
          have hzt74 : ((([] : List Int) ++ ((l0.drop (Int.toNat 0)).take (Int.toNat (if 4000 < ((l0.length : Nat) : Int) then 4000 else ((l0.length : Nat) : Int)) - Int.toNat 0)))).length = ((m7_o60.set (Int.toNat v7_0) ((IntKind.wrap IntKind.u8 (((BitVec.toNat (BitVec.ofInt 8 r70 ^^^ BitVec.ofInt 8 255)) : Nat) : Int))))).length := by rw [List.length_set]; exact hl7_o60
          obtain rfl := Option.some.inj h
          have h := hl7 _ rfl
          exact ok_again (I := I7) m7 (Nat.lt_succ_self _) (fun L w' he => by rw [hI7]; exact ⟨_, q7_b3, A7_b3_2, c7_b3_2, A7_b3_3, c7_b3_3, (m7_o60.set (Int.toNat v7_0) ((IntKind.wrap IntKind.u8 (((BitVec.toNat (BitVec.ofInt 8 r70 ^^^ BitVec.ofInt 8 255)) : Nat) : Int)))), rfl, h, hF.trans he.fine, hM7_o60.later he.fine, hW7_b3.later he.fine, hW7_b3_2.later he.fine, hW7_b3_3.later he.fine, hzt74, dj_w67_o60, dj_w67_w66, dj_w68_o60, dj_w68_w66, dj_w68_w67, hm7_b3_2, hm7_b3_3⟩)
        · have h := bif_f h hc69
          refine ok_need rfl ?_
          obtain ⟨r8, hr8, h⟩ := Option.bind_eq_some_iff.1 h
          obtain ⟨s8_0, q8⟩ := r8
          try dsimp only at h
          have hBv8 : ∀ b, (reasm_Stream_Read.S b3 A7_b3_2 A7_b3_3) b → ¬ _ ∧ b < _ := fun b hb => by rcases hb with hb | hb | hb; exact ⟨(hW7_b3.lt b hb).2.1, hW7_b3.lt1 b hb⟩; exact ⟨(hW7_b3_2.lt b hb).2.1, hW7_b3_2.lt1 b hb⟩; exact ⟨(hW7_b3_3.lt b hb).2.1, hW7_b3_3.lt1 b hb⟩
          have hBm8 : ∀ b, (reasm_Stream_Read.S b3 A7_b3_2 A7_b3_3) b → (fun _ => False) b ∨ w.heap.size ≤ b := fun b hb => by rcases hb with hb | hb | hb; exact hmc6 b hb; exact hm7_b3_2 b hb; exact hm7_b3_3 b hb
          have hjB8_w65 : ∀ b, blk (A4, 0, 0) b → ¬ (reasm_Stream_Read.S b3 A7_b3_2 A7_b3_3) b := fun b h0 hb => by rcases hb with hb | hb | hb; exact (Dj.symm (Dj.symm dj_o60_w53)) b h0 hb; exact (Dj.symm dj_w67_o60) b h0 hb; exact (Dj.symm dj_w68_o60) b h0 hb
          refine ok_callo (reasm_Stream_Read.S b3 A7_b3_2 A7_b3_3) rfl hBv8 (fun L8 w8 g8 lt8 => ?_)
          refine (reasm_Stream_Read.c k _ q7_b3 _ _ _ _ (IntKind.wrap IntKind.i64 (Int.tdiv (((((([] : List Int) ++ ((l0.drop (Int.toNat 0)).take (Int.toNat (if 4000 < ((l0.length : Nat) : Int) then 4000 else ((l0.length : Nat) : Int)) - Int.toNat 0)))).length : Nat) : Int)) 2)) (s8_0, q8) hr8  w8 (hW7_b3.later g8).bare' (hW7_b3_2.later g8).bare' (hW7_b3_3.later g8).bare' dj_w67_w66 dj_w68_w66 dj_w68_w67).mono ?_
          rintro e w8' ⟨A8_w2, c8_w2, A8_w3, c8_w3, A8_0, c8_0, rfl, hf8, hWc8, hWc8_2, hWc8_3, djc8_1_0, djc8_2_0, djc8_2_1, hzc8_2, hzc8_3, hO8_0, dr8_o76_2, dr8_o76_3⟩
          refine ⟨((A8_0, s8_0.length, c8_0), ()), rfl, hf8, fun g8' hid8 hv8 => ?_⟩
          try dsimp only
          have dn8_2_w65 : Dj A8_w2 A4 := Dj.byB hzc8_2 hjB8_w65 (hM7_o60.later g8).lt1
          have dn8_3_w65 : Dj A8_w3 A4 := Dj.byB hzc8_3 hjB8_w65 (hM7_o60.later g8).lt1
          have dj_o76_w65 : Dj A8_0 A4 := Dj.new hO8_0.fresh (hM7_o60.later g8).lt1
          have dk8_o76 : Dj A8_0 b3 := Dj.new hO8_0.fresh (fun b hb => Nat.lt_of_lt_of_le (hBv8 b (Or.inl hb)).2 g8.size)
          have hmc8 := hmc6
          have hmc8_2 : ∀ b, blk (A8_w2, 0, 0) b → (fun _ => False) b ∨ w.heap.size ≤ b := fun b hb => (hzc8_2 b hb).elim (hBm8 b) (fun h => Or.inr (Nat.le_trans (hF.trans g8).size h))
          have hmc8_3 : ∀ b, blk (A8_w3, 0, 0) b → (fun _ => False) b ∨ w.heap.size ≤ b := fun b hb => (hzc8_3 b hb).elim (hBm8 b) (fun h => Or.inr (Nat.le_trans (hF.trans g8).size h))
          have hWc8 := hWc8.vis (fun b hb => hv8 b (Or.inl (Or.inl hb)))
          have hWc8_2 := hWc8_2.vis (fun b hb => hv8 b (hzc8_2 b hb))
          have hWc8_3 := hWc8_3.vis (fun b hb => hv8 b (hzc8_3 b hb))
          have hO8_0 := hO8_0.call (hF.trans g8).size lt8
          have hM7_o60 := OwnO.others hM7_o60 hjB8_w65 g8'
          have hF := Fine.own hF g8' hBm8 hid8
          refine ok_str (R := R22) (fun _ => rfl) rfl rfl rfl rfl hO8_0.sl (fun L9 w9 g9 => ?_)
          try dsimp only
          have hF := hF.trans g9
          have hM7_o60 := hM7_o60.later g9
          have hO8_0 := hO8_0.later g9
          have hWc8 := hWc8.later g9
          have hWc8_2 := hWc8_2.later g9
          have hWc8_3 := hWc8_3.later g9
          have hh10_o76 : ∀ b, blk (A8_0, 0, 0) b → (fun _ => False) b ∨ w.heap.size ≤ b := (fun b hb => Or.inr (Own.base hO8_0 hb))
          obtain ⟨I10, hI10⟩ : ∃ I : Nat → Tup [Lf.i IntKind.i64] → (Nat → Prop) → World → Prop, I = (fun m_ y L w' => ∃ (v10_0 : Int) (q10_b3 : Int × Int × (List Int) × (List (Int × Int)) × Int × Bool × Bool) (A10_b3_2 : Option Addr) (c10_b3_2 : Nat) (A10_b3_3 : Option Addr) (c10_b3_3 : Nat) (m10_o76 : List Int), y = (v10_0, ()) ∧ iter (law09_ReasmNobody.s10 k l0 s8_0) m_ (v10_0, q10_b3, m10_o76) = some o7 ∧ Fine (fun _ => False) w L w' ∧ OwnO 0 L w' 5 R22 A4 c4 m7_o60 ∧ OwnO 0 L w' 5 R22 A8_0 c8_0 m10_o76 ∧ OwnO 0 L w' 45 RW45 b3 1 [(q10_b3.1, q10_b3.2.1, (A10_b3_2, q10_b3.2.2.1.length, c10_b3_2), (A10_b3_3, q10_b3.2.2.2.1.length, c10_b3_3), q10_b3.2.2.2.2.1, q10_b3.2.2.2.2.2.1, q10_b3.2.2.2.2.2.2)] ∧ OwnO 0 L w' 5 R22 A10_b3_2 c10_b3_2 q10_b3.2.2.1 ∧ OwnO 0 L w' 51 R43 A10_b3_3 c10_b3_3 q10_b3.2.2.2.1 ∧ s8_0.length = m10_o76.length ∧ Dj A10_b3_2 A4 ∧ Dj A10_b3_2 A8_0 ∧ Dj A10_b3_2 b3 ∧ Dj A10_b3_3 A4 ∧ Dj A10_b3_3 A8_0 ∧ Dj A10_b3_3 b3 ∧ Dj A10_b3_3 A10_b3_2 ∧ (∀ b, blk (A10_b3_2, 0, 0) b → (fun _ => False) b ∨ w.heap.size ≤ b) ∧ (∀ b, blk (A10_b3_3, 0, 0) b → (fun _ => False) b ∨ w.heap.size ≤ b)) := ⟨_, rfl⟩
          refine ok_loop I10 k (by rw [hI10]; exact ⟨_, q8, A8_w2, c8_w2, A8_w3, c8_w3, s8_0, rfl, h, hF, hM7_o60, (hO8_0.off.mono0), hWc8, hWc8_2, hWc8_3, rfl, dn8_2_w65, (Dj.symm dr8_o76_2), djc8_1_0, dn8_3_w65, (Dj.symm dr8_o76_3), djc8_2_0, djc8_2_1, hmc8_2, hmc8_3⟩) ?_
          clear h
          intro m_ y L10 w10 hy
          rw [hI10] at hy
          obtain ⟨v10_0, q10_b3, A10_b3_2, c10_b3_2, A10_b3_3, c10_b3_3, m10_o76, rfl, h, hF, hM7_o60, hM10_o76, hW10_b3, hW10_b3_2, hW10_b3_3, hl10_o76, dj_w83_w65, dj_w83_o76, dj_w83_w82, dj_w84_w65, dj_w84_o76, dj_w84_w82, dj_w84_w83, hm10_b3_2, hm10_b3_3⟩ := hy
          obtain ⟨m10, o10, rfl, h, hl10, hr_10⟩ := iter_some h
          unfold law09_ReasmNobody.s10 at h
          try dsimp only at h
          try dsimp only
          refine ok_if (fun hc85 => ?_) (fun hc85 => ?_)
          · have h := bif_t h hc85
            obtain ⟨r86, hr87, h⟩ := Option.bind_eq_some_iff.1 h
            refine ok_need (by rw [hl10_o76]; exact getI_need hM10_o76.sl hr87) ?_
            refine ok_get hM10_o76.sl (Fine.refl _ _) hr87 (by simp) (fun cs hcs => ⟨(r86, ()), hcs.symm, ?_⟩)
            try dsimp only
            obtain ⟨r88, hr89, h⟩ := Option.bind_eq_some_iff.1 h
            refine ok_need (by rw [hl10_o76]; exact getI_need hM10_o76.sl hr89) ?_
            rw [← map_add0 (Option.map _ _)]
            refine ok_put (R := R22) (x := r88) (x' := (IntKind.wrap IntKind.u8 (((BitVec.toNat (BitVec.ofInt 8 r86 ^^^ BitVec.ofInt 8 255)) : Nat) : Int))) (vs := [Value.int IntKind.u8 (IntKind.wrap IntKind.u8 (((BitVec.toNat (BitVec.ofInt 8 r86 ^^^ BitVec.ofInt 8 255)) : Nat) : Int))]) (Int.toNat v10_0) 0 hM10_o76 (getI_iff.1 hr89).2 (Nat.le_of_ble_eq_true rfl) rfl (fun _ => rfl) (fun Lt90 wt90 ht90 gst90 hdt90 => ?_)
            have hM7_o60 := hM7_o60.other (Dj.symm dj_o76_w65) gst90
            have hW10_b3 := hW10_b3.other (Dj.symm dk8_o76) gst90
            have hW10_b3_2 := hW10_b3_2.other dj_w83_o76 gst90
            have hW10_b3_3 := hW10_b3_3.other dj_w84_o76 gst90
            have hF := Fine.own hF gst90 hh10_o76 hdt90
            have hM10_o76 := ht90
            have hzt90 : s8_0.length = ((m10_o76.set (Int.toNat v10_0) ((IntKind.wrap IntKind.u8 (((BitVec.toNat (BitVec.ofInt 8 r86 ^^^ BitVec.ofInt 8 255)) : Nat) : Int))))).length := by rw [List.length_set]; exact hl10_o76
            obtain rfl := Option.some.inj h
            have h := hl10 _ rfl
            exact ok_again (I := I10) m10 (Nat.lt_succ_self _) (fun L w' he => by rw [hI10]; exact ⟨_, q10_b3, A10_b3_2, c10_b3_2, A10_b3_3, c10_b3_3, (m10_o76.set (Int.toNat v10_0) ((IntKind.wrap IntKind.u8 (((BitVec.toNat (BitVec.ofInt 8 r86 ^^^ BitVec.ofInt 8 255)) : Nat) : Int)))), rfl, h, hF.trans he.fine, hM7_o60.later he.fine, hM10_o76.later he.fine, hW10_b3.later he.fine, hW10_b3_2.later he.fine, hW10_b3_3.later he.fine, hzt90, dj_w83_w65, dj_w83_o76, dj_w83_w82, dj_w84_w65, dj_w84_o76, dj_w84_w82, dj_w84_w83, hm10_b3_2, hm10_b3_3⟩)
          · have h := bif_f h hc85
            obtain ⟨r11, hr11, h⟩ := Option.bind_eq_some_iff.1 h
            obtain ⟨s11_0, q11⟩ := r11
            try dsimp only at h
            have hBv11 : ∀ b, (reasm_Stream_Read.S b3 A10_b3_2 A10_b3_3) b → ¬ _ ∧ b < _ := fun b hb => by rcases hb with hb | hb | hb; exact ⟨(hW10_b3.lt b hb).2.1, hW10_b3.lt1 b hb⟩; exact ⟨(hW10_b3_2.lt b hb).2.1, hW10_b3_2.lt1 b hb⟩; exact ⟨(hW10_b3_3.lt b hb).2.1, hW10_b3_3.lt1 b hb⟩
            have hBm11 : ∀ b, (reasm_Stream_Read.S b3 A10_b3_2 A10_b3_3) b → (fun _ => False) b ∨ w.heap.size ≤ b := fun b hb => by rcases hb with hb | hb | hb; exact hmc8 b hb; exact hm10_b3_2 b hb; exact hm10_b3_3 b hb
            have hjB11_w65 : ∀ b, blk (A4, 0, 0) b → ¬ (reasm_Stream_Read.S b3 A10_b3_2 A10_b3_3) b := fun b h0 hb => by rcases hb with hb | hb | hb; exact (Dj.symm (Dj.symm dj_o60_w53)) b h0 hb; exact (Dj.symm dj_w83_w65) b h0 hb; exact (Dj.symm dj_w84_w65) b h0 hb
            have hjB11_w81 : ∀ b, blk (A8_0, 0, 0) b → ¬ (reasm_Stream_Read.S b3 A10_b3_2 A10_b3_3) b := fun b h0 hb => by rcases hb with hb | hb | hb; exact (Dj.symm (Dj.symm dk8_o76)) b h0 hb; exact (Dj.symm dj_w83_o76) b h0 hb; exact (Dj.symm dj_w84_o76) b h0 hb
            refine ok_callo (reasm_Stream_Read.S b3 A10_b3_2 A10_b3_3) rfl hBv11 (fun L11 w11 g11 lt11 => ?_)
            refine (reasm_Stream_Read.c k _ q10_b3 _ _ _ _ 4096 (s11_0, q11) hr11  w11 (hW10_b3.later g11).bare' (hW10_b3_2.later g11).bare' (hW10_b3_3.later g11).bare' dj_w83_w82 dj_w84_w82 dj_w84_w83).mono ?_
            rintro e w11' ⟨A11_w2, c11_w2, A11_w3, c11_w3, A11_0, c11_0, rfl, hf11, hWc11, hWc11_2, hWc11_3, djc11_1_0, djc11_2_0, djc11_2_1, hzc11_2, hzc11_3, hO11_0, dr11_o92_2, dr11_o92_3⟩
            refine ⟨((A11_0, s11_0.length, c11_0), ()), rfl, hf11, fun g11' hid11 hv11 => ?_⟩
            try dsimp only
            have dn11_2_w65 : Dj A11_w2 A4 := Dj.byB hzc11_2 hjB11_w65 (hM7_o60.later g11).lt1
            have dn11_2_w81 : Dj A11_w2 A8_0 := Dj.byB hzc11_2 hjB11_w81 (hM10_o76.later g11).lt1
            have dn11_3_w65 : Dj A11_w3 A4 := Dj.byB hzc11_3 hjB11_w65 (hM7_o60.later g11).lt1
            have dn11_3_w81 : Dj A11_w3 A8_0 := Dj.byB hzc11_3 hjB11_w81 (hM10_o76.later g11).lt1
            have dj_o92_w65 : Dj A11_0 A4 := Dj.new hO11_0.fresh (hM7_o60.later g11).lt1
            have dj_o92_w81 : Dj A11_0 A8_0 := Dj.new hO11_0.fresh (hM10_o76.later g11).lt1
            have dk11_o92 : Dj A11_0 b3 := Dj.new hO11_0.fresh (fun b hb => Nat.lt_of_lt_of_le (hBv11 b (Or.inl hb)).2 g11.size)
            have hmc11 := hmc8
            have hmc11_2 : ∀ b, blk (A11_w2, 0, 0) b → (fun _ => False) b ∨ w.heap.size ≤ b := fun b hb => (hzc11_2 b hb).elim (hBm11 b) (fun h => Or.inr (Nat.le_trans (hF.trans g11).size h))
            have hmc11_3 : ∀ b, blk (A11_w3, 0, 0) b → (fun _ => False) b ∨ w.heap.size ≤ b := fun b hb => (hzc11_3 b hb).elim (hBm11 b) (fun h => Or.inr (Nat.le_trans (hF.trans g11).size h))
            have hWc11 := hWc11.vis (fun b hb => hv11 b (Or.inl (Or.inl hb)))
            have hWc11_2 := hWc11_2.vis (fun b hb => hv11 b (hzc11_2 b hb))
            have hWc11_3 := hWc11_3.vis (fun b hb => hv11 b (hzc11_3 b hb))
            have hO11_0 := hO11_0.call (hF.trans g11).size lt11
            have hM7_o60 := OwnO.others hM7_o60 hjB11_w65 g11'
            have hM10_o76 := OwnO.others hM10_o76 hjB11_w81 g11'
            have hF := Fine.own hF g11' hBm11 hid11
            refine ok_str (R := R22) (fun _ => rfl) rfl rfl rfl rfl hO11_0.sl (fun L12 w12 g12 => ?_)
            try dsimp only
            have hF := hF.trans g12
            have hM7_o60 := hM7_o60.later g12
            have hM10_o76 := hM10_o76.later g12
            have hO11_0 := hO11_0.later g12
            have hWc11 := hWc11.later g12
            have hWc11_2 := hWc11_2.later g12
            have hWc11_3 := hWc11_3.later g12
            obtain ⟨hq96, h⟩ := bif_need h
            have hq96 := of_decide_eq_true hq96
            refine ok_sadd hq96 (fun L13 w13 g13 => ?_)
            try dsimp only
            have hF := hF.trans g13
            have hM7_o60 := hM7_o60.later g13
            have hM10_o76 := hM10_o76.later g13
            have hO11_0 := hO11_0.later g13
            have hWc11 := hWc11.later g13
            have hWc11_2 := hWc11_2.later g13
            have hWc11_3 := hWc11_3.later g13
            refine ok_if (fun hc97 => ?_) (fun hc97 => ?_)
            · have h := bif_t h hc97
              obtain ⟨v14_0, hr14, h⟩ := Option.bind_eq_some_iff.1 h
              refine ok_callm rfl (fun L14 w14 g14 lt14 => ?_)
              refine (law09_alive.c k  v14_0 hr14  w14 ).mono ?_
              rintro e w14' ⟨rfl, hb14⟩
              refine ⟨(v14_0, ()), rfl, hb14, fun g14' => ?_⟩
              try dsimp only
              have hF := hF.trans g14'
              have hM7_o60 := hM7_o60.later g14'
              have hM10_o76 := hM10_o76.later g14'
              have hO11_0 := hO11_0.later g14'
              have hWc11 := hWc11.later g14'
              have hWc11_2 := hWc11_2.later g14'
              have hWc11_3 := hWc11_3.later g14'
              refine ok_if (fun hc98 => ?_) (fun hc98 => ?_)
              · have h := bif_t h hc98
                obtain rfl := Option.some.inj h
                obtain rfl := hr_10 _ rfl
                obtain rfl := hr_7 _ rfl
                obtain rfl := hr_2 _ rfl
                intro ρ L w' _ he _ _
                exact ⟨rfl, (hF.ext he).below⟩
              · have h := bif_f h hc98
                obtain rfl := Option.some.inj h
                obtain rfl := hr_10 _ rfl
                obtain rfl := hr_7 _ rfl
                obtain rfl := hr_2 _ rfl
                intro ρ L w' _ he _ _
                exact ⟨rfl, (hF.ext he).below⟩
            · have h := bif_f h hc97
              obtain rfl := Option.some.inj h
              obtain rfl := hr_10 _ rfl
              obtain rfl := hr_7 _ rfl
              obtain rfl := hr_2 _ rfl
              intro ρ L w' _ he _ _
              exact ⟨rfl, (hF.ext he).below⟩
end Go.Proofs.Ytdjeadgebcndeaa.X
