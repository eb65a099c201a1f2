/- Functions: their trees, functions over lists that answer as they do, and that they do. -/
import Derived.Test.YtdjeadgebcndeaaRxU
import Derived.Test.YtdjeadgebcndeaaRxSeat
import Derived.Test.YtdjeadgebcndeaaProg
import Derived.Test.YtdjeadgebcndeaaRn
namespace Go.Proofs.Ytdjeadgebcndeaa.X
open Go Go.RowKit Go.Proofs.YtdjeadgebcndeaaW.Rx
set_option linter.unusedVariables false
set_option linter.unusedSimpArgs false
set_option maxRecDepth 10000
/-! ### turnbuckle/turnbuckleref01.Same: function 12 -/
def ref01_Same.F (k : Nat) (l0 : List Int) (l1 : List Int) : Option Bool := bif ByteArray.toList (strOfNums l0) == ByteArray.toList (strOfNums l1) then (some true) else (some false)
abbrev ref01_Same.A : Nat → LA := noA
set_option maxHeartbeats 4000000 in
theorem ref01_Same.t (A0 : Option Addr) (n0 c0 : Nat) (A1 : Option Addr) (n1 c1 : Nat) : tree Try.prog ref01_Same.A noC Try.f12 [AV.v (Value.slice A0 n0 c0), AV.v (Value.slice A1 n1 c1)] [] =
  .sem (convert 22 9 (Value.slice A0 n0 c0)) ([Lf.s]) (Sh.one) (fun x0 =>
   .sem (convert 22 9 (Value.slice A1 n1 c1)) ([Lf.s]) (Sh.one) (fun x1 =>
    bif ByteArray.toList x0.1 == ByteArray.toList x1.1 then (
     .done (AV.v (Value.bool true)) ([]))
    else (
     .done (AV.v (Value.bool false)) ([])))) := by kernel_rfl
set_option maxHeartbeats 4000000 in
theorem ref01_Same.c (k : Nat) (A0 : Option Addr) (n0 c0 : Nat) (l0 : List Int) (A1 : Option Addr) (n1 c1 : Nat) (l1 : List Int) (r : Bool) (h : ref01_Same.F k l0 l1 = some r) (hn0 : n0 = l0.length) (hn1 : n1 = l1.length) (w : World) (hS0 : SlR R22.row (fun _ => False) w A0 c0 l0) (hS1 : SlR R22.row (fun _ => False) w A1 c1 l1) : Calls Try.prog 12 (AV.gs id [AV.v (Value.slice A0 n0 c0), AV.v (Value.slice A1 n1 c1)]).toArray w fun e w' => e = .returned (((Sh.one : Sh).av (vs [Lf.b] (r, ()))).g id) ∧ Below w.heap.size w w' := by
  subst hn0
  subst hn1
  refine enter0 mixed ref01_Same.A noC [AV.v (Value.slice A0 l0.length c0), AV.v (Value.slice A1 l1.length c1)] Try.func12 rfl rfl rfl (fun hF => ?_)
  rw [ref01_Same.t]
  unfold ref01_Same.F at h
  try dsimp only at h
  refine ok_str (R := R22) (fun _ => rfl) rfl rfl rfl rfl (hS0.later hF) (fun L0 w0 g0 => ?_)
  try dsimp only
  have hF := hF.trans g0
  refine ok_str (R := R22) (fun _ => rfl) rfl rfl rfl rfl (hS1.later hF) (fun L1 w1 g1 => ?_)
  try dsimp only
  have hF := hF.trans g1
  refine ok_if (fun hc1 => ?_) (fun hc1 => ?_)
  · have h := bif_t h hc1
    obtain rfl := Option.some.inj h
    intro ρ L w' _ he _ _
    exact ⟨rfl, (hF.ext he).below⟩
  · have h := bif_f h hc1
    obtain rfl := Option.some.inj h
    intro ρ L w' _ he _ _
    exact ⟨rfl, (hF.ext he).below⟩
/-! ### turnbuckle/turnbucklelaw09.alive: function 9 -/
def law09_alive.F (k : Nat)  : Option Bool := (reasm_New.F k 8).bind fun (p0, v0_1) => match p0 with | none => some false | some q0 => bif v0_1 != 0 then (some false) else ((reasm_Stream_Data.F k q0 2 (([(99)] : List Int)) false).bind fun (v3_0, q3) => bif v3_0 != 0 then (some false) else ((reasm_Stream_Data.F k q3 0 (([(97), (98)] : List Int)) false).bind fun (v6_0, q6) => bif v6_0 != 0 then (some false) else ((reasm_Stream_Ready.F k (some q6)).bind fun v7_0 => bif v7_0 == 3 then ((reasm_Stream_Read.F k q6 9).bind fun (s8_0, q8) => bif ByteArray.toList (strOfNums s8_0) == ByteArray.toList { data := { toList := [97, 98, 99] } } then ((reasm_Stream_Limit.F k (some q8)).bind fun v10_0 => bif v10_0 == 11 then ((reasm_Stream_Over.F k (some q8)).bind fun v11_0 => bif v11_0 then (some false) else (some true)) else (some false)) else (some false)) else (some false))))
abbrev law09_alive.A : Nat → LA := noA
set_option maxHeartbeats 4000000 in
theorem law09_alive.t  : tree Try.prog law09_alive.A noC Try.f9 [] [] =
  .call 8 ([AV.v (Value.int IntKind.i64 8)]) ([]) (Sh.tup [(false, 1), (false, 1)]) ([Lf.p, Lf.i IntKind.i64]) ([]) (fun x0 =>
   bif Option.isNone x0.1 then (
    .done (AV.v (Value.bool false)) ([]))
   else (
    bif x0.2.1 != 0 then (
     .done (AV.v (Value.bool false)) ([]))
    else (
     .sem (Instr.buildSlice 22 1 { toList := [(0, Value.int IntKind.u8 99)] }) ([Lf.sl]) (Sh.one) (fun x1 =>
      .sem (convert 22 22 (Value.slice x1.1.1 x1.1.2.1 x1.1.2.2)) ([Lf.sl]) (Sh.one) (fun x2 =>
       .call 10 ([AV.v (Value.pointer x0.1), AV.v (Value.int IntKind.i64 2), AV.v (Value.slice x2.1.1 x2.1.2.1 x2.1.2.2), AV.v (Value.bool false)]) ([]) (Sh.one) ([Lf.i IntKind.i64]) ([]) (fun x3 =>
        bif x3.1 != 0 then (
         .done (AV.v (Value.bool false)) ([]))
        else (
         .sem (Instr.buildSlice 22 2 { toList := [(0, Value.int IntKind.u8 97), (1, Value.int IntKind.u8 98)] }) ([Lf.sl]) (Sh.one) (fun x4 =>
          .sem (convert 22 22 (Value.slice x4.1.1 x4.1.2.1 x4.1.2.2)) ([Lf.sl]) (Sh.one) (fun x5 =>
           .call 10 ([AV.v (Value.pointer x0.1), AV.v (Value.int IntKind.i64 0), AV.v (Value.slice x5.1.1 x5.1.2.1 x5.1.2.2), AV.v (Value.bool false)]) ([]) (Sh.one) ([Lf.i IntKind.i64]) ([]) (fun x6 =>
            bif x6.1 != 0 then (
             .done (AV.v (Value.bool false)) ([]))
            else (
             .call 20 ([AV.v (Value.pointer x0.1)]) ([]) (Sh.one) ([Lf.i IntKind.i64]) ([]) (fun x7 =>
              bif x7.1 == 3 then (
               .call 11 ([AV.v (Value.pointer x0.1), AV.v (Value.int IntKind.i64 9)]) ([]) (Sh.one) ([Lf.sl]) ([]) (fun x8 =>
                .sem (convert 22 9 (Value.slice x8.1.1 x8.1.2.1 x8.1.2.2)) ([Lf.s]) (Sh.one) (fun x9 =>
                 bif ByteArray.toList x9.1 == ByteArray.toList { data := { toList := [97, 98, 99] } } then (
                  .call 18 ([AV.v (Value.pointer x0.1)]) ([]) (Sh.one) ([Lf.i IntKind.i64]) ([]) (fun x10 =>
                   bif x10.1 == 11 then (
                    .call 13 ([AV.v (Value.pointer x0.1)]) ([]) (Sh.one) ([Lf.b]) ([]) (fun x11 =>
                     bif x11.1 then (
                      .done (AV.v (Value.bool false)) ([]))
                     else (
                      .done (AV.v (Value.bool true)) ([]))))
                   else (
                    .done (AV.v (Value.bool false)) ([]))))
                 else (
                  .done (AV.v (Value.bool false)) ([])))))
              else (
               .done (AV.v (Value.bool false)) ([])))))))))))))) := by kernel_rfl
set_option maxHeartbeats 4000000 in
theorem law09_alive.c (k : Nat)  (r : Bool) (h : law09_alive.F k  = some r)  (w : World)  : Calls Try.prog 9 (AV.gs id []).toArray w fun e w' => e = .returned (((Sh.one : Sh).av (vs [Lf.b] (r, ()))).g id) ∧ Below w.heap.size w w' := by
  refine enter0 mixed law09_alive.A noC [] Try.func9 rfl rfl rfl (fun hF => ?_)
  rw [law09_alive.t]
  unfold law09_alive.F at h
  try dsimp only at h
  obtain ⟨r0, hr0, h⟩ := Option.bind_eq_some_iff.1 h
  obtain ⟨p0, v0_1⟩ := r0
  try dsimp only at h
  refine ok_callm rfl (fun L0 w0 g0 lt0 => ?_)
  refine (reasm_New.c k 8 (p0, v0_1) hr0  w0 ).mono ?_
  rintro e w0' ⟨b0, A0_w2, c0_w2, A0_w3, c0_w3, rfl, hb0, hN0⟩
  refine ⟨(b0, v0_1, ()), rfl, hb0, fun g0' => ?_⟩
  try dsimp only
  cases p0 with
  | none =>
    obtain rfl := hN0
    have hF := hF.trans g0'
    refine ok_if (fun hc1 => ?_) (fun hc1 => absurd (hc1.symm.trans rfl) (by decide))
    obtain rfl := Option.some.inj h
    intro ρ L w' _ he _ _
    exact ⟨rfl, (hF.ext he).below⟩
  | some q0 =>
    obtain ⟨hWn0, hWn0_2, hWn0_3, djn0_1_0, djn0_2_0, djn0_2_1⟩ := hN0
    have hmn0 : ∀ b, blk (b0, 0, 0) b → (fun _ => False) b ∨ w.heap.size ≤ b := fun b hb => Or.inr (Nat.le_trans (hF.trans g0).size (hWn0.lt b hb).2.2)
    have hmn0_2 : ∀ b, blk (A0_w2, 0, 0) b → (fun _ => False) b ∨ w.heap.size ≤ b := fun b hb => Or.inr (Nat.le_trans (hF.trans g0).size (hWn0_2.lt b hb).2.2)
    have hmn0_3 : ∀ b, blk (A0_w3, 0, 0) b → (fun _ => False) b ∨ w.heap.size ≤ b := fun b hb => Or.inr (Nat.le_trans (hF.trans g0).size (hWn0_3.lt b hb).2.2)
    have hWn0 := hWn0.call0 lt0
    have hWn0_2 := hWn0_2.call0 lt0
    have hWn0_3 := hWn0_3.call0 lt0
    have hF := hF.trans g0'
    have hA_b0 : Option.isSome b0 = true := hWn0.sl.some (by simp)
    have hN_b0 : Option.isNone b0 = false := by cases b0 <;> simp_all
    refine ok_if (fun hc26 => absurd (hc26.symm.trans hN_b0) (by decide)) (fun hc26 => ?_)
    refine ok_if (fun hc5 => ?_) (fun hc5 => ?_)
    · have h := bif_t h hc5
      obtain rfl := Option.some.inj h
      intro ρ L w' _ he _ _
      exact ⟨rfl, (hF.ext he).below⟩
    · have h := bif_f h hc5
      refine ok_lit (R := R22) (base := w.heap.size) (xs := ([(99)] : List Int)) #[Value.int IntKind.u8 99] E22 rfl (by decide) (by decide) ⟨_, _, rfl, rfl, by kernel_rfl⟩ rfl hF.size (fun A1 c1 L1 w1 hO1 g1 hbl1 => ?_)
      try dsimp only
      have dj_o6_w2 : Dj A1 b0 := Dj.new hbl1 hWn0.lt1
      have dj_o6_w3 : Dj A1 A0_w2 := Dj.new hbl1 hWn0_2.lt1
      have dj_o6_w4 : Dj A1 A0_w3 := Dj.new hbl1 hWn0_3.lt1
      have hF := hF.trans g1
      have hWn0 := hWn0.later g1
      have hWn0_2 := hWn0_2.later g1
      have hWn0_3 := hWn0_3.later g1
      refine ok_convB (R := R22) rfl rfl rfl hO1 (by decide) (fun L2 w2 hV2 g2 hid2 => ?_)
      try dsimp only
      have hWn0 := hWn0.other (Dj.symm dj_o6_w2) g2
      have hWn0_2 := hWn0_2.other (Dj.symm dj_o6_w3) g2
      have hWn0_3 := hWn0_3.other (Dj.symm dj_o6_w4) g2
      have hF := Fine.own hF g2 (fun b hb => Or.inr (Own.base hO1 hb)) hid2
      obtain ⟨r3, hr3, h⟩ := Option.bind_eq_some_iff.1 h
      obtain ⟨v3_0, q3⟩ := r3
      try dsimp only at h
      have hBv3 : ∀ b, (reasm_Stream_Data.S b0 A0_w2 A0_w3) b → ¬ _ ∧ b < _ := fun b hb => by rcases hb with hb | hb | hb; exact ⟨(hWn0.lt b hb).2.1, hWn0.lt1 b hb⟩; exact ⟨(hWn0_2.lt b hb).2.1, hWn0_2.lt1 b hb⟩; exact ⟨(hWn0_3.lt b hb).2.1, hWn0_3.lt1 b hb⟩
      have hBm3 : ∀ b, (reasm_Stream_Data.S b0 A0_w2 A0_w3) b → (fun _ => False) b ∨ w.heap.size ≤ b := fun b hb => by rcases hb with hb | hb | hb; exact hmn0 b hb; exact hmn0_2 b hb; exact hmn0_3 b hb
      refine ok_callo (reasm_Stream_Data.S b0 A0_w2 A0_w3) rfl hBv3 (fun L3 w3 g3 lt3 => ?_)
      refine (reasm_Stream_Data.c k _ q0 _ _ _ _ 2 _ _ _ (([(99)] : List Int)) false (v3_0, q3) hr3 rfl w3 (hWn0.later g3).bare' (hWn0_2.later g3).bare' (hWn0_3.later g3).bare' djn0_1_0 djn0_2_0 djn0_2_1 ((hV2.later g3).offb (fun b h0 hb => by rcases hb with hb | hb | hb; exact dj_o6_w2 b h0 hb; exact dj_o6_w3 b h0 hb; exact dj_o6_w4 b h0 hb))).mono ?_
      rintro e w3' ⟨A3_w2, c3_w2, A3_w3, c3_w3, rfl, hf3, hWc3, hWc3_2, hWc3_3, djc3_1_0, djc3_2_0, djc3_2_1, hzc3_2, hzc3_3⟩
      refine ⟨(v3_0, ()), rfl, hf3, fun g3' hid3 hv3 => ?_⟩
      try dsimp only
      have hmc3 := hmn0
      have hmc3_2 : ∀ b, blk (A3_w2, 0, 0) b → (fun _ => False) b ∨ w.heap.size ≤ b := fun b hb => (hzc3_2 b hb).elim (hBm3 b) (fun h => Or.inr (Nat.le_trans (hF.trans g3).size h))
      have hmc3_3 : ∀ b, blk (A3_w3, 0, 0) b → (fun _ => False) b ∨ w.heap.size ≤ b := fun b hb => (hzc3_3 b hb).elim (hBm3 b) (fun h => Or.inr (Nat.le_trans (hF.trans g3).size h))
      have hWc3 := hWc3.vis (fun b hb => hv3 b (Or.inl (Or.inl hb)))
      have hWc3_2 := hWc3_2.vis (fun b hb => hv3 b (hzc3_2 b hb))
      have hWc3_3 := hWc3_3.vis (fun b hb => hv3 b (hzc3_3 b hb))
      have hF := Fine.own hF g3' hBm3 hid3
      refine ok_if (fun hc11 => ?_) (fun hc11 => ?_)
      · have h := bif_t h hc11
        obtain rfl := Option.some.inj h
        intro ρ L w' _ he _ _
        exact ⟨rfl, (hF.ext he).below⟩
      · have h := bif_f h hc11
        refine ok_lit (R := R22) (base := w.heap.size) (xs := ([(97), (98)] : List Int)) #[Value.int IntKind.u8 97, Value.int IntKind.u8 98] E22 rfl (by decide) (by decide) ⟨_, _, rfl, rfl, by kernel_rfl⟩ rfl hF.size (fun A4 c4 L4 w4 hO4 g4 hbl4 => ?_)
        try dsimp only
        have dj_o12_w8 : Dj A4 b0 := Dj.new hbl4 hWc3.lt1
        have dj_o12_w9 : Dj A4 A3_w2 := Dj.new hbl4 hWc3_2.lt1
        have dj_o12_w10 : Dj A4 A3_w3 := Dj.new hbl4 hWc3_3.lt1
        have hF := hF.trans g4
        have hWc3 := hWc3.later g4
        have hWc3_2 := hWc3_2.later g4
        have hWc3_3 := hWc3_3.later g4
        refine ok_convB (R := R22) rfl rfl rfl hO4 (by decide) (fun L5 w5 hV5 g5 hid5 => ?_)
        try dsimp only
        have hWc3 := hWc3.other (Dj.symm dj_o12_w8) g5
        have hWc3_2 := hWc3_2.other (Dj.symm dj_o12_w9) g5
        have hWc3_3 := hWc3_3.other (Dj.symm dj_o12_w10) g5
        have hF := Fine.own hF g5 (fun b hb => Or.inr (Own.base hO4 hb)) hid5
        obtain ⟨r6, hr6, h⟩ := Option.bind_eq_some_iff.1 h
        obtain ⟨v6_0, q6⟩ := r6
        try dsimp only at h
        have hBv6 : ∀ b, (reasm_Stream_Data.S b0 A3_w2 A3_w3) b → ¬ _ ∧ b < _ := fun b hb => by rcases hb with hb | hb | hb; exact ⟨(hWc3.lt b hb).2.1, hWc3.lt1 b hb⟩; exact ⟨(hWc3_2.lt b hb).2.1, hWc3_2.lt1 b hb⟩; exact ⟨(hWc3_3.lt b hb).2.1, hWc3_3.lt1 b hb⟩
        have hBm6 : ∀ b, (reasm_Stream_Data.S b0 A3_w2 A3_w3) b → (fun _ => False) b ∨ w.heap.size ≤ b := fun b hb => by rcases hb with hb | hb | hb; exact hmc3 b hb; exact hmc3_2 b hb; exact hmc3_3 b hb
        refine ok_callo (reasm_Stream_Data.S b0 A3_w2 A3_w3) rfl hBv6 (fun L6 w6 g6 lt6 => ?_)
        refine (reasm_Stream_Data.c k _ q3 _ _ _ _ 0 _ _ _ (([(97), (98)] : List Int)) false (v6_0, q6) hr6 rfl w6 (hWc3.later g6).bare' (hWc3_2.later g6).bare' (hWc3_3.later g6).bare' djc3_1_0 djc3_2_0 djc3_2_1 ((hV5.later g6).offb (fun b h0 hb => by rcases hb with hb | hb | hb; exact dj_o12_w8 b h0 hb; exact dj_o12_w9 b h0 hb; exact dj_o12_w10 b h0 hb))).mono ?_
        rintro e w6' ⟨A6_w2, c6_w2, A6_w3, c6_w3, rfl, hf6, hWc6, hWc6_2, hWc6_3, djc6_1_0, djc6_2_0, djc6_2_1, hzc6_2, hzc6_3⟩
        refine ⟨(v6_0, ()), rfl, hf6, fun g6' hid6 hv6 => ?_⟩
        try dsimp only
        have hmc6 := hmc3
        have hmc6_2 : ∀ b, blk (A6_w2, 0, 0) b → (fun _ => False) b ∨ w.heap.size ≤ b := fun b hb => (hzc6_2 b hb).elim (hBm6 b) (fun h => Or.inr (Nat.le_trans (hF.trans g6).size h))
        have hmc6_3 : ∀ b, blk (A6_w3, 0, 0) b → (fun _ => False) b ∨ w.heap.size ≤ b := fun b hb => (hzc6_3 b hb).elim (hBm6 b) (fun h => Or.inr (Nat.le_trans (hF.trans g6).size h))
        have hWc6 := hWc6.vis (fun b hb => hv6 b (Or.inl (Or.inl hb)))
        have hWc6_2 := hWc6_2.vis (fun b hb => hv6 b (hzc6_2 b hb))
        have hWc6_3 := hWc6_3.vis (fun b hb => hv6 b (hzc6_3 b hb))
        have hF := Fine.own hF g6' hBm6 hid6
        refine ok_if (fun hc17 => ?_) (fun hc17 => ?_)
        · have h := bif_t h hc17
          obtain rfl := Option.some.inj h
          intro ρ L w' _ he _ _
          exact ⟨rfl, (hF.ext he).below⟩
        · have h := bif_f h hc17
          obtain ⟨v7_0, hr7, h⟩ := Option.bind_eq_some_iff.1 h
          refine ok_callm rfl (fun L7 w7 g7 lt7 => ?_)
          refine (reasm_Stream_Ready.c k _ (some q6) v7_0 hr7  w7 ((obr45 hWc6.sl hWc6_2.sl hWc6_3.sl).later g7).bare).mono ?_
          rintro e w7' ⟨rfl, hb7⟩
          refine ⟨(v7_0, ()), rfl, hb7, fun g7' => ?_⟩
          try dsimp only
          have hF := hF.trans g7'
          have hWc6 := hWc6.later g7'
          have hWc6_2 := hWc6_2.later g7'
          have hWc6_3 := hWc6_3.later g7'
          refine ok_if (fun hc18 => ?_) (fun hc18 => ?_)
          · have h := bif_t h hc18
            obtain ⟨r8, hr8, h⟩ := Option.bind_eq_some_iff.1 h
            obtain ⟨s8_0, q8⟩ := r8
            try dsimp only at h
            have hBv8 : ∀ b, (reasm_Stream_Read.S b0 A6_w2 A6_w3) b → ¬ _ ∧ b < _ := fun b hb => by rcases hb with hb | hb | hb; exact ⟨(hWc6.lt b hb).2.1, hWc6.lt1 b hb⟩; exact ⟨(hWc6_2.lt b hb).2.1, hWc6_2.lt1 b hb⟩; exact ⟨(hWc6_3.lt b hb).2.1, hWc6_3.lt1 b hb⟩
            have hBm8 : ∀ b, (reasm_Stream_Read.S b0 A6_w2 A6_w3) b → (fun _ => False) b ∨ w.heap.size ≤ b := fun b hb => by rcases hb with hb | hb | hb; exact hmc6 b hb; exact hmc6_2 b hb; exact hmc6_3 b hb
            refine ok_callo (reasm_Stream_Read.S b0 A6_w2 A6_w3) rfl hBv8 (fun L8 w8 g8 lt8 => ?_)
            refine (reasm_Stream_Read.c k _ q6 _ _ _ _ 9 (s8_0, q8) hr8  w8 (hWc6.later g8).bare' (hWc6_2.later g8).bare' (hWc6_3.later g8).bare' djc6_1_0 djc6_2_0 djc6_2_1).mono ?_
            rintro e w8' ⟨A8_w2, c8_w2, A8_w3, c8_w3, A8_0, c8_0, rfl, hf8, hWc8, hWc8_2, hWc8_3, djc8_1_0, djc8_2_0, djc8_2_1, hzc8_2, hzc8_3, hO8_0, dr8_o19_2, dr8_o19_3⟩
            refine ⟨((A8_0, s8_0.length, c8_0), ()), rfl, hf8, fun g8' hid8 hv8 => ?_⟩
            try dsimp only
            have dk8_o19 : Dj A8_0 b0 := Dj.new hO8_0.fresh (fun b hb => Nat.lt_of_lt_of_le (hBv8 b (Or.inl hb)).2 g8.size)
            have hmc8 := hmc6
            have hmc8_2 : ∀ b, blk (A8_w2, 0, 0) b → (fun _ => False) b ∨ w.heap.size ≤ b := fun b hb => (hzc8_2 b hb).elim (hBm8 b) (fun h => Or.inr (Nat.le_trans (hF.trans g8).size h))
            have hmc8_3 : ∀ b, blk (A8_w3, 0, 0) b → (fun _ => False) b ∨ w.heap.size ≤ b := fun b hb => (hzc8_3 b hb).elim (hBm8 b) (fun h => Or.inr (Nat.le_trans (hF.trans g8).size h))
            have hWc8 := hWc8.vis (fun b hb => hv8 b (Or.inl (Or.inl hb)))
            have hWc8_2 := hWc8_2.vis (fun b hb => hv8 b (hzc8_2 b hb))
            have hWc8_3 := hWc8_3.vis (fun b hb => hv8 b (hzc8_3 b hb))
            have hO8_0 := hO8_0.call (hF.trans g8).size lt8
            have hF := Fine.own hF g8' hBm8 hid8
            refine ok_str (R := R22) (fun _ => rfl) rfl rfl rfl rfl hO8_0.sl (fun L9 w9 g9 => ?_)
            try dsimp only
            have hF := hF.trans g9
            have hO8_0 := hO8_0.later g9
            have hWc8 := hWc8.later g9
            have hWc8_2 := hWc8_2.later g9
            have hWc8_3 := hWc8_3.later g9
            refine ok_if (fun hc23 => ?_) (fun hc23 => ?_)
            · have h := bif_t h hc23
              obtain ⟨v10_0, hr10, h⟩ := Option.bind_eq_some_iff.1 h
              refine ok_callm rfl (fun L10 w10 g10 lt10 => ?_)
              refine (reasm_Stream_Limit.c k _ (some q8) v10_0 hr10  w10 ((obr45 hWc8.sl hWc8_2.sl hWc8_3.sl).later g10).bare).mono ?_
              rintro e w10' ⟨rfl, hb10⟩
              refine ⟨(v10_0, ()), rfl, hb10, fun g10' => ?_⟩
              try dsimp only
              have hF := hF.trans g10'
              have hO8_0 := hO8_0.later g10'
              have hWc8 := hWc8.later g10'
              have hWc8_2 := hWc8_2.later g10'
              have hWc8_3 := hWc8_3.later g10'
              refine ok_if (fun hc24 => ?_) (fun hc24 => ?_)
              · have h := bif_t h hc24
                obtain ⟨v11_0, hr11, h⟩ := Option.bind_eq_some_iff.1 h
                refine ok_callm rfl (fun L11 w11 g11 lt11 => ?_)
                refine (reasm_Stream_Over.c k _ (some q8) v11_0 hr11  w11 ((obr45 hWc8.sl hWc8_2.sl hWc8_3.sl).later g11).bare).mono ?_
                rintro e w11' ⟨rfl, hb11⟩
                refine ⟨(v11_0, ()), rfl, hb11, fun g11' => ?_⟩
                try dsimp only
                have hF := hF.trans g11'
                have hO8_0 := hO8_0.later g11'
                have hWc8 := hWc8.later g11'
                have hWc8_2 := hWc8_2.later g11'
                have hWc8_3 := hWc8_3.later g11'
                refine ok_if (fun hc25 => ?_) (fun hc25 => ?_)
                · have h := bif_t h hc25
                  obtain rfl := Option.some.inj h
                  intro ρ L w' _ he _ _
                  exact ⟨rfl, (hF.ext he).below⟩
                · have h := bif_f h hc25
                  obtain rfl := Option.some.inj h
                  intro ρ L w' _ he _ _
                  exact ⟨rfl, (hF.ext he).below⟩
              · have h := bif_f h hc24
                obtain rfl := Option.some.inj h
                intro ρ L w' _ he _ _
                exact ⟨rfl, (hF.ext he).below⟩
            · have h := bif_f h hc23
              obtain rfl := Option.some.inj h
              intro ρ L w' _ he _ _
              exact ⟨rfl, (hF.ext he).below⟩
          · have h := bif_f h hc18
            obtain rfl := Option.some.inj h
            intro ρ L w' _ he _ _
            exact ⟨rfl, (hF.ext he).below⟩
end Go.Proofs.Ytdjeadgebcndeaa.X
