import Derived.Test.YtdjeadgebcndeaazRlOvert
namespace Go.Proofs.Ytdjeadgebcndeaa.X
open Go Go.RowKit Go.Proofs.YtdjeadgebcndeaaW.Rx
set_option linter.unusedVariables false
set_option linter.unusedSimpArgs false
set_option maxRecDepth 10000
set_option maxHeartbeats 4000000 in
theorem law09_ReasmOver.c (k : Nat) (a0 : Int) (A1 : Option Addr) (n1 c1 : Nat) (l1 : List (Int × Int × (List Int) × Bool)) (r : Bool) (h : law09_ReasmOver.F k a0 l1 = some r) (hn1 : n1 = l1.length) (w : World) (hS1 : SlR R35 (fun _ => False) w A1 c1 l1) : Calls Try.prog 4 (AV.gs id [AV.v (Value.int IntKind.i64 a0), AV.v (Value.slice A1 n1 c1)]).toArray w fun e w' => e = .returned (((Sh.one : Sh).av (vs [Lf.b] (r, ()))).g id) ∧ Below w.heap.size w w' := by
 subst hn1
 refine enter0 mixed law09_ReasmOver.A noC [AV.v (Value.int IntKind.i64 a0), AV.v (Value.slice A1 l1.length c1)] Try.func4 rfl rfl rfl (fun hF => ?_)
 rw [law09_ReasmOver.t]
 unfold law09_ReasmOver.F at h
 try dsimp only at h
 obtain ⟨r0, hr0, h⟩ := Option.bind_eq_some_iff.1 h
 obtain ⟨p0, v0_1⟩ := r0
 try dsimp only at h
 refine ok_callm rfl (fun L0 w0 g0 lt0 => ?_)
 refine (reasm_New.c k a0 (p0, v0_1) hr0  w0 ).mono ?_
 rintro e w0' ⟨b0, A0_w2, c0_w2, A0_w3, c0_w3, rfl, hb0, hN0⟩
 refine ⟨(b0, v0_1, ()), rfl, hb0, fun g0' => ?_⟩
 try dsimp only
 cases p0 with
 | none =>
  obtain rfl := hN0
  have hF := hF.trans g0'
  refine ok_if (fun hc1 => ?_) (fun hc1 => ?_)
  ·have h := bif_t h hc1
   obtain ⟨v1_0, hr1, h⟩ := Option.bind_eq_some_iff.1 h
   refine ok_callm rfl (fun L1 w1 g1 lt1 => ?_)
   refine (law09_alive.c k  v1_0 hr1  w1 ).mono ?_
   rintro e w1' ⟨rfl, hb1⟩
   refine ⟨(v1_0, ()), rfl, hb1, fun g1' => ?_⟩
   try dsimp only
   have hF := hF.trans g1'
   refine ok_if (fun hc2 => ?_) (fun hc2 => ?_)
   ·have h := bif_t h hc2
    obtain rfl := Option.some.inj h
    intro ρ L w' _ he _ _
    exact ⟨rfl, (hF.ext he).below⟩
   ·have h := bif_f h hc2
    obtain rfl := Option.some.inj h
    intro ρ L w' _ he _ _
    exact ⟨rfl, (hF.ext he).below⟩
  ·have h := bif_f h hc1
   refine ok_if (fun hc4 => ?_) (fun hc4 => absurd (hc4.symm.trans rfl) (by decide))
   obtain ⟨v1_0, hr1, h⟩ := Option.bind_eq_some_iff.1 h
   refine ok_callm rfl (fun L1 w1 g1 lt1 => ?_)
   refine (law09_alive.c k  v1_0 hr1  w1 ).mono ?_
   rintro e w1' ⟨rfl, hb1⟩
   refine ⟨(v1_0, ()), rfl, hb1, fun g1' => ?_⟩
   try dsimp only
   have hF := hF.trans g1'
   refine ok_if (fun hc3 => ?_) (fun hc3 => ?_)
   ·have h := bif_t h hc3
    obtain rfl := Option.some.inj h
    intro ρ L w' _ he _ _
    exact ⟨rfl, (hF.ext he).below⟩
   ·have h := bif_f h hc3
    obtain rfl := Option.some.inj h
    intro ρ L w' _ he _ _
    exact ⟨rfl, (hF.ext he).below⟩
 | some q0 =>
  obtain ⟨hWn0, hWn0_2, hWn0_3, djn0_1_0, djn0_2_0, djn0_2_1⟩ := hN0
  have hmn0 : ∀ b, blk (b0, 0, 0) b → (fun _ => False) b ∨ w.heap.size ≤ b := fun b hb => Or.inr (Nat.le_trans (hF.trans g0).size (hWn0.lt b hb).2.2)
  have hmn0_2 : ∀ b, blk (A0_w2, 0, 0) b → (fun _ => False) b ∨ w.heap.size ≤ b := fun b hb => Or.inr (Nat.le_trans (hF.trans g0).size (hWn0_2.lt b hb).2.2)
  have hmn0_3 : ∀ b, blk (A0_w3, 0, 0) b → (fun _ => False) b ∨ w.heap.size ≤ b := fun b hb => Or.inr (Nat.le_trans (hF.trans g0).size (hWn0_3.lt b hb).2.2)
  have hWn0 := hWn0.call0 lt0
  have hWn0_2 := hWn0_2.call0 lt0
  have hWn0_3 := hWn0_3.call0 lt0
  have hF := hF.trans g0'
  have hA_b0 : Option.isSome b0 = true := hWn0.sl.some (by simp)
  have hN_b0 : Option.isNone b0 = false := by cases b0 <;> simp_all
  refine ok_if (fun hc8 => ?_) (fun hc8 => ?_)
  ·have h := bif_t h hc8
   obtain ⟨v1_0, hr1, h⟩ := Option.bind_eq_some_iff.1 h
   refine ok_callm rfl (fun L1 w1 g1 lt1 => ?_)
   refine (law09_alive.c k  v1_0 hr1  w1 ).mono ?_
   rintro e w1' ⟨rfl, hb1⟩
   refine ⟨(v1_0, ()), rfl, hb1, fun g1' => ?_⟩
   try dsimp only
   have hF := hF.trans g1'
   have hWn0 := hWn0.later g1'
   have hWn0_2 := hWn0_2.later g1'
   have hWn0_3 := hWn0_3.later g1'
   refine ok_if (fun hc9 => ?_) (fun hc9 => ?_)
   ·have h := bif_t h hc9
    obtain rfl := Option.some.inj h
    intro ρ L w' _ he _ _
    exact ⟨rfl, (hF.ext he).below⟩
   ·have h := bif_f h hc9
    obtain rfl := Option.some.inj h
    intro ρ L w' _ he _ _
    exact ⟨rfl, (hF.ext he).below⟩
  ·have h := bif_f h hc8
   refine ok_if (fun hc335 => absurd (hc335.symm.trans hN_b0) (by decide)) (fun hc335 => ?_)
   obtain ⟨v1_0, hr1, h⟩ := Option.bind_eq_some_iff.1 h
   refine ok_callm rfl (fun L1 w1 g1 lt1 => ?_)
   refine (law09_alive.c k  v1_0 hr1  w1 ).mono ?_
   rintro e w1' ⟨rfl, hb1⟩
   refine ⟨(v1_0, ()), rfl, hb1, fun g1' => ?_⟩
   try dsimp only
   have hF := hF.trans g1'
   have hWn0 := hWn0.later g1'
   have hWn0_2 := hWn0_2.later g1'
   have hWn0_3 := hWn0_3.later g1'
   refine ok_if (fun hc10 => ?_) (fun hc10 => ?_)
   ·have h := bif_t h hc10
    obtain ⟨I2, hI2⟩ : ∃ I : Nat → Tup [Lf.i IntKind.i64] → (Nat → Prop) → World → Prop, I = (fun m_ y L w' => ∃ (v2_0 : Int) (q2_b0 : Int × Int × (List Int) × (List (Int × Int)) × Int × Bool × Bool) (A2_b0_2 : Option Addr) (c2_b0_2 : Nat) (A2_b0_3 : Option Addr) (c2_b0_3 : Nat), y = (v2_0, ()) ∧ iter (law09_ReasmOver.s2 k l1) m_ (v2_0, q2_b0) = some r ∧ Fine (fun _ => False) w L w' ∧ OwnO 0 L w' 45 RW45 b0 1 [(q2_b0.1, q2_b0.2.1, (A2_b0_2, q2_b0.2.2.1.length, c2_b0_2), (A2_b0_3, q2_b0.2.2.2.1.length, c2_b0_3), q2_b0.2.2.2.2.1, q2_b0.2.2.2.2.2.1, q2_b0.2.2.2.2.2.2)] ∧ OwnO 0 L w' 5 R22 A2_b0_2 c2_b0_2 q2_b0.2.2.1 ∧ OwnO 0 L w' 51 R43 A2_b0_3 c2_b0_3 q2_b0.2.2.2.1 ∧ Dj A2_b0_2 b0 ∧ Dj A2_b0_3 b0 ∧ Dj A2_b0_3 A2_b0_2 ∧ (∀ b, blk (A2_b0_2, 0, 0) b → (fun _ => False) b ∨ w.heap.size ≤ b) ∧ (∀ b, blk (A2_b0_3, 0, 0) b → (fun _ => False) b ∨ w.heap.size ≤ b)) := ⟨_, rfl⟩
    refine ok_loop I2 k (by rw [hI2]; exact ⟨_, q0, A0_w2, c0_w2, A0_w3, c0_w3, rfl, h, hF, hWn0, hWn0_2, hWn0_3, djn0_1_0, djn0_2_0, djn0_2_1, hmn0_2, hmn0_3⟩) ?_
    clear h
    intro m_ y L2 w2 hy
    rw [hI2] at hy
    obtain ⟨v2_0, q2_b0, A2_b0_2, c2_b0_2, A2_b0_3, c2_b0_3, rfl, h, hF, hW2_b0, hW2_b0_2, hW2_b0_3, dj_w13_w12, dj_w14_w12, dj_w14_w13, hm2_b0_2, hm2_b0_3⟩ := hy
    obtain ⟨m2, o2, rfl, h, hl2, hr_2⟩ := iter_some h
    unfold law09_ReasmOver.s2 at h
    try dsimp only at h
    try dsimp only
    refine ok_if (fun hc15 => ?_) (fun hc15 => ?_)
    ·have h := bif_t h hc15
     obtain ⟨r16, hr17, h⟩ := Option.bind_eq_some_iff.1 h
     refine ok_need (getI_need (hS1.later hF) hr17) ?_
     refine ok_get hS1 hF hr17 (by simp) (fun cs hcs => ?_)
     obtain ⟨A3_2, q3_2, c3_2, rfl, hm3_2, hE3_2⟩ := hcs
     subst hm3_2
     refine ⟨(r16.1, r16.2.1, (A3_2, (r16.2.2.1).length, c3_2), r16.2.2.2, ()), rfl, ?_⟩
     try dsimp only
     obtain ⟨v4_0, hr4, h⟩ := Option.bind_eq_some_iff.1 h
     refine ok_callm rfl (fun L4 w4 g4 lt4 => ?_)
     refine (reasm_Stream_Over.c k _ (some q2_b0) v4_0 hr4  w4 ((obr45 hW2_b0.sl hW2_b0_2.sl hW2_b0_3.sl).later g4).bare).mono ?_
     rintro e w4' ⟨rfl, hb4⟩
     refine ⟨(v4_0, ()), rfl, hb4, fun g4' => ?_⟩
     try dsimp only
     have hF := hF.trans g4'
     have hW2_b0 := hW2_b0.later g4'
     have hW2_b0_2 := hW2_b0_2.later g4'
     have hW2_b0_3 := hW2_b0_3.later g4'
     refine ok_if (fun hc19 => ?_) (fun hc19 => ?_)
     ·have h := bif_t h hc19
      obtain ⟨v5_0, hr5, h⟩ := Option.bind_eq_some_iff.1 h
      refine ok_callm rfl (fun L5 w5 g5 lt5 => ?_)
      refine (reasm_Stream_At.c k _ (some q2_b0) v5_0 hr5  w5 ((obr45 hW2_b0.sl hW2_b0_2.sl hW2_b0_3.sl).later g5).bare).mono ?_
      rintro e w5' ⟨rfl, hb5⟩
      refine ⟨(v5_0, ()), rfl, hb5, fun g5' => ?_⟩
      try dsimp only
      have hF := hF.trans g5'
      have hW2_b0 := hW2_b0.later g5'
      have hW2_b0_2 := hW2_b0_2.later g5'
      have hW2_b0_3 := hW2_b0_3.later g5'
      obtain ⟨v6_0, hr6, h⟩ := Option.bind_eq_some_iff.1 h
      refine ok_callm rfl (fun L6 w6 g6 lt6 => ?_)
      refine (reasm_Stream_Broken.c k _ (some q2_b0) v6_0 hr6  w6 ((obr45 hW2_b0.sl hW2_b0_2.sl hW2_b0_3.sl).later g6).bare).mono ?_
      rintro e w6' ⟨rfl, hb6⟩
      refine ⟨(v6_0, ()), rfl, hb6, fun g6' => ?_⟩
      try dsimp only
      have hF := hF.trans g6'
      have hW2_b0 := hW2_b0.later g6'
      have hW2_b0_2 := hW2_b0_2.later g6'
      have hW2_b0_3 := hW2_b0_3.later g6'
      refine ok_if (fun hc20 => ?_) (fun hc20 => ?_)
      ·have h := bif_t h hc20
       obtain ⟨r7, hr7, h⟩ := Option.bind_eq_some_iff.1 h
       obtain ⟨v7_0, v7_1⟩ := r7
       try dsimp only at h
       refine ok_callm rfl (fun L7 w7 g7 lt7 => ?_)
       refine (reasm_Stream_End.c k _ (some q2_b0) (v7_0, v7_1) hr7  w7 ((obr45 hW2_b0.sl hW2_b0_2.sl hW2_b0_3.sl).later g7).bare).mono ?_
       rintro e w7' ⟨rfl, hb7⟩
       refine ⟨(v7_0, v7_1, ()), rfl, hb7, fun g7' => ?_⟩
       try dsimp only
       have hF := hF.trans g7'
       have hW2_b0 := hW2_b0.later g7'
       have hW2_b0_2 := hW2_b0_2.later g7'
       have hW2_b0_3 := hW2_b0_3.later g7'
       refine ok_if (fun hc21 => ?_) (fun hc21 => ?_)
       ·have h := bif_t h hc21
        refine ok_need rfl ?_
        refine ok_if (fun hc22 => ?_) (fun hc22 => ?_)
        ·have h := bif_t h hc22
         refine ok_if (fun hc23 => ?_) (fun hc23 => ?_)
         ·have h := bif_t h hc23
          obtain ⟨r8, hr8, h⟩ := Option.bind_eq_some_iff.1 h
          obtain ⟨v8_0, q8⟩ := r8
          try dsimp only at h
          have hBv8 : ∀ b, (reasm_Stream_Data.S b0 A2_b0_2 A2_b0_3) b → ¬ _ ∧ b < _ := fun b hb => by rcases hb with hb | hb | hb; exact ⟨(hW2_b0.lt b hb).2.1, hW2_b0.lt1 b hb⟩; exact ⟨(hW2_b0_2.lt b hb).2.1, hW2_b0_2.lt1 b hb⟩; exact ⟨(hW2_b0_3.lt b hb).2.1, hW2_b0_3.lt1 b hb⟩
          have hBm8 : ∀ b, (reasm_Stream_Data.S b0 A2_b0_2 A2_b0_3) b → (fun _ => False) b ∨ w.heap.size ≤ b := fun b hb => by rcases hb with hb | hb | hb; exact hmn0 b hb; exact hm2_b0_2 b hb; exact hm2_b0_3 b hb
          refine ok_callo (reasm_Stream_Data.S b0 A2_b0_2 A2_b0_3) rfl hBv8 (fun L8 w8 g8 lt8 => ?_)
          refine (reasm_Stream_Data.c k _ q2_b0 _ _ _ _ r16.2.1 _ _ _ r16.2.2.1 true (v8_0, q8) hr8 rfl w8 (hW2_b0.later g8).bare' (hW2_b0_2.later g8).bare' (hW2_b0_3.later g8).bare' dj_w13_w12 dj_w14_w12 dj_w14_w13 (hE3_2.later ((hF.trans g8).with hBm8))).mono ?_
          rintro e w8' ⟨A8_w2, c8_w2, A8_w3, c8_w3, rfl, hf8, hWc8, hWc8_2, hWc8_3, djc8_1_0, djc8_2_0, djc8_2_1, hzc8_2, hzc8_3⟩
          refine ⟨(v8_0, ()), rfl, hf8, fun g8' hid8 hv8 => ?_⟩
          try dsimp only
          have hmc8 := hmn0
          have hmc8_2 : ∀ b, blk (A8_w2, 0, 0) b → (fun _ => False) b ∨ w.heap.size ≤ b := fun b hb => (hzc8_2 b hb).elim (hBm8 b) (fun h => Or.inr (Nat.le_trans (hF.trans g8).size h))
          have hmc8_3 : ∀ b, blk (A8_w3, 0, 0) b → (fun _ => False) b ∨ w.heap.size ≤ b := fun b hb => (hzc8_3 b hb).elim (hBm8 b) (fun h => Or.inr (Nat.le_trans (hF.trans g8).size h))
          have hWc8 := hWc8.vis (fun b hb => hv8 b (Or.inl (Or.inl hb)))
          have hWc8_2 := hWc8_2.vis (fun b hb => hv8 b (hzc8_2 b hb))
          have hWc8_3 := hWc8_3.vis (fun b hb => hv8 b (hzc8_3 b hb))
          have hF := Fine.own hF g8' hBm8 hid8
          obtain ⟨r9, hr9, h⟩ := Option.bind_eq_some_iff.1 h
          obtain ⟨v9_0, v9_1⟩ := r9
          try dsimp only at h
          refine ok_callm rfl (fun L9 w9 g9 lt9 => ?_)
          refine (reasm_Stream_End.c k _ (some q8) (v9_0, v9_1) hr9  w9 ((obr45 hWc8.sl hWc8_2.sl hWc8_3.sl).later g9).bare).mono ?_
          rintro e w9' ⟨rfl, hb9⟩
          refine ⟨(v9_0, v9_1, ()), rfl, hb9, fun g9' => ?_⟩
          try dsimp only
          have hF := hF.trans g9'
          have hWc8 := hWc8.later g9'
          have hWc8_2 := hWc8_2.later g9'
          have hWc8_3 := hWc8_3.later g9'
          refine ok_if (fun hc27 => ?_) (fun hc27 => ?_)
          ·have h := bif_t h hc27
           obtain ⟨v10_0, hr10, h⟩ := Option.bind_eq_some_iff.1 h
           refine ok_callm rfl (fun L10 w10 g10 lt10 => ?_)
           refine (reasm_Stream_Over.c k _ (some q8) v10_0 hr10  w10 ((obr45 hWc8.sl hWc8_2.sl hWc8_3.sl).later g10).bare).mono ?_
           rintro e w10' ⟨rfl, hb10⟩
           refine ⟨(v10_0, ()), rfl, hb10, fun g10' => ?_⟩
           try dsimp only
           have hF := hF.trans g10'
           have hWc8 := hWc8.later g10'
           have hWc8_2 := hWc8_2.later g10'
           have hWc8_3 := hWc8_3.later g10'
           refine ok_if (fun hc28 => ?_) (fun hc28 => ?_)
           ·have h := bif_t h hc28
            obtain ⟨v11_0, hr11, h⟩ := Option.bind_eq_some_iff.1 h
            refine ok_callm rfl (fun L11 w11 g11 lt11 => ?_)
            refine (reasm_Stream_At.c k _ (some q8) v11_0 hr11  w11 ((obr45 hWc8.sl hWc8_2.sl hWc8_3.sl).later g11).bare).mono ?_
            rintro e w11' ⟨rfl, hb11⟩
            refine ⟨(v11_0, ()), rfl, hb11, fun g11' => ?_⟩
            try dsimp only
            have hF := hF.trans g11'
            have hWc8 := hWc8.later g11'
            have hWc8_2 := hWc8_2.later g11'
            have hWc8_3 := hWc8_3.later g11'
            refine ok_if (fun hc29 => ?_) (fun hc29 => ?_)
            ·have h := bif_t h hc29
             obtain rfl := Option.some.inj h
             obtain rfl := hr_2 _ rfl
             intro ρ L w' _ he _ _
             exact ⟨rfl, (hF.ext he).below⟩
            ·have h := bif_f h hc29
             obtain ⟨v12_0, hr12, h⟩ := Option.bind_eq_some_iff.1 h
             refine ok_callm rfl (fun L12 w12 g12 lt12 => ?_)
             refine (reasm_Stream_Broken.c k _ (some q8) v12_0 hr12  w12 ((obr45 hWc8.sl hWc8_2.sl hWc8_3.sl).later g12).bare).mono ?_
             rintro e w12' ⟨rfl, hb12⟩
             refine ⟨(v12_0, ()), rfl, hb12, fun g12' => ?_⟩
             try dsimp only
             have hF := hF.trans g12'
             have hWc8 := hWc8.later g12'
             have hWc8_2 := hWc8_2.later g12'
             have hWc8_3 := hWc8_3.later g12'
             refine ok_if (fun hc30 => ?_) (fun hc30 => ?_)
             ·have h := bif_t h hc30
              refine ok_if (fun hc31 => ?_) (fun hc31 => ?_)
              ·have h := bif_t h hc31
               obtain rfl := Option.some.inj h
               obtain rfl := hr_2 _ rfl
               intro ρ L w' _ he _ _
               exact ⟨rfl, (hF.ext he).below⟩
              ·have h := bif_f h hc31
               obtain rfl := Option.some.inj h
               have h := hl2 _ rfl
               exact ok_again (I := I2) m2 (Nat.lt_succ_self _) (fun L w' he => by rw [hI2]; exact ⟨_, q8, A8_w2, c8_w2, A8_w3, c8_w3, rfl, h, hF.trans he.fine, hWc8.later he.fine, hWc8_2.later he.fine, hWc8_3.later he.fine, djc8_1_0, djc8_2_0, djc8_2_1, hmc8_2, hmc8_3⟩)
             ·have h := bif_f h hc30
              obtain rfl := Option.some.inj h
              obtain rfl := hr_2 _ rfl
              intro ρ L w' _ he _ _
              exact ⟨rfl, (hF.ext he).below⟩
           ·have h := bif_f h hc28
            obtain rfl := Option.some.inj h
            obtain rfl := hr_2 _ rfl
            intro ρ L w' _ he _ _
            exact ⟨rfl, (hF.ext he).below⟩
          ·have h := bif_f h hc27
           obtain ⟨v10_0, hr10, h⟩ := Option.bind_eq_some_iff.1 h
           refine ok_callm rfl (fun L10 w10 g10 lt10 => ?_)
           refine (reasm_Stream_Over.c k _ (some q8) v10_0 hr10  w10 ((obr45 hWc8.sl hWc8_2.sl hWc8_3.sl).later g10).bare).mono ?_
           rintro e w10' ⟨rfl, hb10⟩
           refine ⟨(v10_0, ()), rfl, hb10, fun g10' => ?_⟩
           try dsimp only
           have hF := hF.trans g10'
           have hWc8 := hWc8.later g10'
           have hWc8_2 := hWc8_2.later g10'
           have hWc8_3 := hWc8_3.later g10'
           refine ok_if (fun hc32 => ?_) (fun hc32 => ?_)
           ·have h := bif_t h hc32
            obtain ⟨v11_0, hr11, h⟩ := Option.bind_eq_some_iff.1 h
            refine ok_callm rfl (fun L11 w11 g11 lt11 => ?_)
            refine (reasm_Stream_At.c k _ (some q8) v11_0 hr11  w11 ((obr45 hWc8.sl hWc8_2.sl hWc8_3.sl).later g11).bare).mono ?_
            rintro e w11' ⟨rfl, hb11⟩
            refine ⟨(v11_0, ()), rfl, hb11, fun g11' => ?_⟩
            try dsimp only
            have hF := hF.trans g11'
            have hWc8 := hWc8.later g11'
            have hWc8_2 := hWc8_2.later g11'
            have hWc8_3 := hWc8_3.later g11'
            refine ok_if (fun hc33 => ?_) (fun hc33 => ?_)
            ·have h := bif_t h hc33
             obtain rfl := Option.some.inj h
             obtain rfl := hr_2 _ rfl
             intro ρ L w' _ he _ _
             exact ⟨rfl, (hF.ext he).below⟩
            ·have h := bif_f h hc33
             obtain ⟨v12_0, hr12, h⟩ := Option.bind_eq_some_iff.1 h
             refine ok_callm rfl (fun L12 w12 g12 lt12 => ?_)
             refine (reasm_Stream_Broken.c k _ (some q8) v12_0 hr12  w12 ((obr45 hWc8.sl hWc8_2.sl hWc8_3.sl).later g12).bare).mono ?_
             rintro e w12' ⟨rfl, hb12⟩
             refine ⟨(v12_0, ()), rfl, hb12, fun g12' => ?_⟩
             try dsimp only
             have hF := hF.trans g12'
             have hWc8 := hWc8.later g12'
             have hWc8_2 := hWc8_2.later g12'
             have hWc8_3 := hWc8_3.later g12'
             refine ok_if (fun hc34 => ?_) (fun hc34 => ?_)
             ·have h := bif_t h hc34
              refine ok_if (fun hc35 => ?_) (fun hc35 => ?_)
              ·have h := bif_t h hc35
               obtain rfl := Option.some.inj h
               obtain rfl := hr_2 _ rfl
               intro ρ L w' _ he _ _
               exact ⟨rfl, (hF.ext he).below⟩
              ·have h := bif_f h hc35
               obtain rfl := Option.some.inj h
               obtain rfl := hr_2 _ rfl
               intro ρ L w' _ he _ _
               exact ⟨rfl, (hF.ext he).below⟩
             ·have h := bif_f h hc34
              obtain rfl := Option.some.inj h
              obtain rfl := hr_2 _ rfl
              intro ρ L w' _ he _ _
              exact ⟨rfl, (hF.ext he).below⟩
           ·have h := bif_f h hc32
            obtain rfl := Option.some.inj h
            obtain rfl := hr_2 _ rfl
            intro ρ L w' _ he _ _
            exact ⟨rfl, (hF.ext he).below⟩
         ·have h := bif_f h hc23
          obtain ⟨r8, hr8, h⟩ := Option.bind_eq_some_iff.1 h
          obtain ⟨v8_0, q8⟩ := r8
          try dsimp only at h
          have hBv8 : ∀ b, (reasm_Stream_Data.S b0 A2_b0_2 A2_b0_3) b → ¬ _ ∧ b < _ := fun b hb => by rcases hb with hb | hb | hb; exact ⟨(hW2_b0.lt b hb).2.1, hW2_b0.lt1 b hb⟩; exact ⟨(hW2_b0_2.lt b hb).2.1, hW2_b0_2.lt1 b hb⟩; exact ⟨(hW2_b0_3.lt b hb).2.1, hW2_b0_3.lt1 b hb⟩
          have hBm8 : ∀ b, (reasm_Stream_Data.S b0 A2_b0_2 A2_b0_3) b → (fun _ => False) b ∨ w.heap.size ≤ b := fun b hb => by rcases hb with hb | hb | hb; exact hmn0 b hb; exact hm2_b0_2 b hb; exact hm2_b0_3 b hb
          refine ok_callo (reasm_Stream_Data.S b0 A2_b0_2 A2_b0_3) rfl hBv8 (fun L8 w8 g8 lt8 => ?_)
          refine (reasm_Stream_Data.c k _ q2_b0 _ _ _ _ r16.2.1 _ _ _ r16.2.2.1 false (v8_0, q8) hr8 rfl w8 (hW2_b0.later g8).bare' (hW2_b0_2.later g8).bare' (hW2_b0_3.later g8).bare' dj_w13_w12 dj_w14_w12 dj_w14_w13 (hE3_2.later ((hF.trans g8).with hBm8))).mono ?_
          rintro e w8' ⟨A8_w2, c8_w2, A8_w3, c8_w3, rfl, hf8, hWc8, hWc8_2, hWc8_3, djc8_1_0, djc8_2_0, djc8_2_1, hzc8_2, hzc8_3⟩
          refine ⟨(v8_0, ()), rfl, hf8, fun g8' hid8 hv8 => ?_⟩
          try dsimp only
          have hmc8 := hmn0
          have hmc8_2 : ∀ b, blk (A8_w2, 0, 0) b → (fun _ => False) b ∨ w.heap.size ≤ b := fun b hb => (hzc8_2 b hb).elim (hBm8 b) (fun h => Or.inr (Nat.le_trans (hF.trans g8).size h))
          have hmc8_3 : ∀ b, blk (A8_w3, 0, 0) b → (fun _ => False) b ∨ w.heap.size ≤ b := fun b hb => (hzc8_3 b hb).elim (hBm8 b) (fun h => Or.inr (Nat.le_trans (hF.trans g8).size h))
          have hWc8 := hWc8.vis (fun b hb => hv8 b (Or.inl (Or.inl hb)))
          have hWc8_2 := hWc8_2.vis (fun b hb => hv8 b (hzc8_2 b hb))
          have hWc8_3 := hWc8_3.vis (fun b hb => hv8 b (hzc8_3 b hb))
          have hF := Fine.own hF g8' hBm8 hid8
          obtain ⟨r9, hr9, h⟩ := Option.bind_eq_some_iff.1 h
          obtain ⟨v9_0, v9_1⟩ := r9
          try dsimp only at h
          refine ok_callm rfl (fun L9 w9 g9 lt9 => ?_)
          refine (reasm_Stream_End.c k _ (some q8) (v9_0, v9_1) hr9  w9 ((obr45 hWc8.sl hWc8_2.sl hWc8_3.sl).later g9).bare).mono ?_
          rintro e w9' ⟨rfl, hb9⟩
          refine ⟨(v9_0, v9_1, ()), rfl, hb9, fun g9' => ?_⟩
          try dsimp only
          have hF := hF.trans g9'
          have hWc8 := hWc8.later g9'
          have hWc8_2 := hWc8_2.later g9'
          have hWc8_3 := hWc8_3.later g9'
          refine ok_if (fun hc39 => ?_) (fun hc39 => ?_)
          ·have h := bif_t h hc39
           obtain ⟨v10_0, hr10, h⟩ := Option.bind_eq_some_iff.1 h
           refine ok_callm rfl (fun L10 w10 g10 lt10 => ?_)
           refine (reasm_Stream_Over.c k _ (some q8) v10_0 hr10  w10 ((obr45 hWc8.sl hWc8_2.sl hWc8_3.sl).later g10).bare).mono ?_
           rintro e w10' ⟨rfl, hb10⟩
           refine ⟨(v10_0, ()), rfl, hb10, fun g10' => ?_⟩
           try dsimp only
           have hF := hF.trans g10'
           have hWc8 := hWc8.later g10'
           have hWc8_2 := hWc8_2.later g10'
           have hWc8_3 := hWc8_3.later g10'
           refine ok_if (fun hc40 => ?_) (fun hc40 => ?_)
           ·have h := bif_t h hc40
            obtain ⟨v11_0, hr11, h⟩ := Option.bind_eq_some_iff.1 h
            refine ok_callm rfl (fun L11 w11 g11 lt11 => ?_)
            refine (reasm_Stream_At.c k _ (some q8) v11_0 hr11  w11 ((obr45 hWc8.sl hWc8_2.sl hWc8_3.sl).later g11).bare).mono ?_
            rintro e w11' ⟨rfl, hb11⟩
            refine ⟨(v11_0, ()), rfl, hb11, fun g11' => ?_⟩
            try dsimp only
            have hF := hF.trans g11'
            have hWc8 := hWc8.later g11'
            have hWc8_2 := hWc8_2.later g11'
            have hWc8_3 := hWc8_3.later g11'
            refine ok_if (fun hc41 => ?_) (fun hc41 => ?_)
            ·have h := bif_t h hc41
             obtain rfl := Option.some.inj h
             obtain rfl := hr_2 _ rfl
             intro ρ L w' _ he _ _
             exact ⟨rfl, (hF.ext he).below⟩
            ·have h := bif_f h hc41
             obtain ⟨v12_0, hr12, h⟩ := Option.bind_eq_some_iff.1 h
             refine ok_callm rfl (fun L12 w12 g12 lt12 => ?_)
             refine (reasm_Stream_Broken.c k _ (some q8) v12_0 hr12  w12 ((obr45 hWc8.sl hWc8_2.sl hWc8_3.sl).later g12).bare).mono ?_
             rintro e w12' ⟨rfl, hb12⟩
             refine ⟨(v12_0, ()), rfl, hb12, fun g12' => ?_⟩
             try dsimp only
             have hF := hF.trans g12'
             have hWc8 := hWc8.later g12'
             have hWc8_2 := hWc8_2.later g12'
             have hWc8_3 := hWc8_3.later g12'
             refine ok_if (fun hc42 => ?_) (fun hc42 => ?_)
             ·have h := bif_t h hc42
              refine ok_if (fun hc43 => ?_) (fun hc43 => ?_)
              ·have h := bif_t h hc43
               obtain rfl := Option.some.inj h
               obtain rfl := hr_2 _ rfl
               intro ρ L w' _ he _ _
               exact ⟨rfl, (hF.ext he).below⟩
              ·have h := bif_f h hc43
               obtain rfl := Option.some.inj h
               have h := hl2 _ rfl
               exact ok_again (I := I2) m2 (Nat.lt_succ_self _) (fun L w' he => by rw [hI2]; exact ⟨_, q8, A8_w2, c8_w2, A8_w3, c8_w3, rfl, h, hF.trans he.fine, hWc8.later he.fine, hWc8_2.later he.fine, hWc8_3.later he.fine, djc8_1_0, djc8_2_0, djc8_2_1, hmc8_2, hmc8_3⟩)
             ·have h := bif_f h hc42
              obtain rfl := Option.some.inj h
              obtain rfl := hr_2 _ rfl
              intro ρ L w' _ he _ _
              exact ⟨rfl, (hF.ext he).below⟩
           ·have h := bif_f h hc40
            obtain rfl := Option.some.inj h
            obtain rfl := hr_2 _ rfl
            intro ρ L w' _ he _ _
            exact ⟨rfl, (hF.ext he).below⟩
          ·have h := bif_f h hc39
           obtain ⟨v10_0, hr10, h⟩ := Option.bind_eq_some_iff.1 h
           refine ok_callm rfl (fun L10 w10 g10 lt10 => ?_)
           refine (reasm_Stream_Over.c k _ (some q8) v10_0 hr10  w10 ((obr45 hWc8.sl hWc8_2.sl hWc8_3.sl).later g10).bare).mono ?_
           rintro e w10' ⟨rfl, hb10⟩
           refine ⟨(v10_0, ()), rfl, hb10, fun g10' => ?_⟩
           try dsimp only
           have hF := hF.trans g10'
           have hWc8 := hWc8.later g10'
           have hWc8_2 := hWc8_2.later g10'
           have hWc8_3 := hWc8_3.later g10'
           refine ok_if (fun hc44 => ?_) (fun hc44 => ?_)
           ·have h := bif_t h hc44
            obtain ⟨v11_0, hr11, h⟩ := Option.bind_eq_some_iff.1 h
            refine ok_callm rfl (fun L11 w11 g11 lt11 => ?_)
            refine (reasm_Stream_At.c k _ (some q8) v11_0 hr11  w11 ((obr45 hWc8.sl hWc8_2.sl hWc8_3.sl).later g11).bare).mono ?_
            rintro e w11' ⟨rfl, hb11⟩
            refine ⟨(v11_0, ()), rfl, hb11, fun g11' => ?_⟩
            try dsimp only
            have hF := hF.trans g11'
            have hWc8 := hWc8.later g11'
            have hWc8_2 := hWc8_2.later g11'
            have hWc8_3 := hWc8_3.later g11'
            refine ok_if (fun hc45 => ?_) (fun hc45 => ?_)
            ·have h := bif_t h hc45
             obtain rfl := Option.some.inj h
             obtain rfl := hr_2 _ rfl
             intro ρ L w' _ he _ _
             exact ⟨rfl, (hF.ext he).below⟩
            ·have h := bif_f h hc45
             obtain ⟨v12_0, hr12, h⟩ := Option.bind_eq_some_iff.1 h
             refine ok_callm rfl (fun L12 w12 g12 lt12 => ?_)
             refine (reasm_Stream_Broken.c k _ (some q8) v12_0 hr12  w12 ((obr45 hWc8.sl hWc8_2.sl hWc8_3.sl).later g12).bare).mono ?_
             rintro e w12' ⟨rfl, hb12⟩
             refine ⟨(v12_0, ()), rfl, hb12, fun g12' => ?_⟩
             try dsimp only
             have hF := hF.trans g12'
             have hWc8 := hWc8.later g12'
             have hWc8_2 := hWc8_2.later g12'
             have hWc8_3 := hWc8_3.later g12'
             refine ok_if (fun hc46 => ?_) (fun hc46 => ?_)
             ·have h := bif_t h hc46
              refine ok_if (fun hc47 => ?_) (fun hc47 => ?_)
              ·have h := bif_t h hc47
               obtain rfl := Option.some.inj h
               obtain rfl := hr_2 _ rfl
               intro ρ L w' _ he _ _
               exact ⟨rfl, (hF.ext he).below⟩
              ·have h := bif_f h hc47
               obtain rfl := Option.some.inj h
               obtain rfl := hr_2 _ rfl
               intro ρ L w' _ he _ _
               exact ⟨rfl, (hF.ext he).below⟩
             ·have h := bif_f h hc46
              obtain rfl := Option.some.inj h
              obtain rfl := hr_2 _ rfl
              intro ρ L w' _ he _ _
              exact ⟨rfl, (hF.ext he).below⟩
           ·have h := bif_f h hc44
            obtain rfl := Option.some.inj h
            obtain rfl := hr_2 _ rfl
            intro ρ L w' _ he _ _
            exact ⟨rfl, (hF.ext he).below⟩
        ·have h := bif_f h hc22
         refine ok_if (fun hc48 => ?_) (fun hc48 => ?_)
         ·have h := bif_t h hc48
          obtain ⟨r8, hr8, h⟩ := Option.bind_eq_some_iff.1 h
          obtain ⟨s8_0, q8⟩ := r8
          try dsimp only at h
          have hBv8 : ∀ b, (reasm_Stream_Read.S b0 A2_b0_2 A2_b0_3) b → ¬ _ ∧ b < _ := fun b hb => by rcases hb with hb | hb | hb; exact ⟨(hW2_b0.lt b hb).2.1, hW2_b0.lt1 b hb⟩; exact ⟨(hW2_b0_2.lt b hb).2.1, hW2_b0_2.lt1 b hb⟩; exact ⟨(hW2_b0_3.lt b hb).2.1, hW2_b0_3.lt1 b hb⟩
          have hBm8 : ∀ b, (reasm_Stream_Read.S b0 A2_b0_2 A2_b0_3) b → (fun _ => False) b ∨ w.heap.size ≤ b := fun b hb => by rcases hb with hb | hb | hb; exact hmn0 b hb; exact hm2_b0_2 b hb; exact hm2_b0_3 b hb
          refine ok_callo (reasm_Stream_Read.S b0 A2_b0_2 A2_b0_3) rfl hBv8 (fun L8 w8 g8 lt8 => ?_)
          refine (reasm_Stream_Read.c k _ q2_b0 _ _ _ _ r16.2.1 (s8_0, q8) hr8  w8 (hW2_b0.later g8).bare' (hW2_b0_2.later g8).bare' (hW2_b0_3.later g8).bare' dj_w13_w12 dj_w14_w12 dj_w14_w13).mono ?_
          rintro e w8' ⟨A8_w2, c8_w2, A8_w3, c8_w3, A8_0, c8_0, rfl, hf8, hWc8, hWc8_2, hWc8_3, djc8_1_0, djc8_2_0, djc8_2_1, hzc8_2, hzc8_3, hO8_0, dr8_o49_2, dr8_o49_3⟩
          refine ⟨((A8_0, s8_0.length, c8_0), ()), rfl, hf8, fun g8' hid8 hv8 => ?_⟩
          try dsimp only
          have dk8_o49 : Dj A8_0 b0 := Dj.new hO8_0.fresh (fun b hb => Nat.lt_of_lt_of_le (hBv8 b (Or.inl hb)).2 g8.size)
          have hmc8 := hmn0
          have hmc8_2 : ∀ b, blk (A8_w2, 0, 0) b → (fun _ => False) b ∨ w.heap.size ≤ b := fun b hb => (hzc8_2 b hb).elim (hBm8 b) (fun h => Or.inr (Nat.le_trans (hF.trans g8).size h))
          have hmc8_3 : ∀ b, blk (A8_w3, 0, 0) b → (fun _ => False) b ∨ w.heap.size ≤ b := fun b hb => (hzc8_3 b hb).elim (hBm8 b) (fun h => Or.inr (Nat.le_trans (hF.trans g8).size h))
          have hWc8 := hWc8.vis (fun b hb => hv8 b (Or.inl (Or.inl hb)))
          have hWc8_2 := hWc8_2.vis (fun b hb => hv8 b (hzc8_2 b hb))
          have hWc8_3 := hWc8_3.vis (fun b hb => hv8 b (hzc8_3 b hb))
          have hO8_0 := hO8_0.call (hF.trans g8).size lt8
          have hF := Fine.own hF g8' hBm8 hid8
          refine ok_if (fun hc53 => ?_) (fun hc53 => ?_)
          ·have h := bif_t h hc53
           obtain rfl := Option.some.inj h
           obtain rfl := hr_2 _ rfl
           intro ρ L w' _ he _ _
           exact ⟨rfl, (hF.ext he).below⟩
          ·have h := bif_f h hc53
           obtain ⟨r9, hr9, h⟩ := Option.bind_eq_some_iff.1 h
           obtain ⟨s9_0, q9⟩ := r9
           try dsimp only at h
           have hBv9 : ∀ b, (reasm_Stream_Read.S b0 A8_w2 A8_w3) b → ¬ _ ∧ b < _ := fun b hb => by rcases hb with hb | hb | hb; exact ⟨(hWc8.lt b hb).2.1, hWc8.lt1 b hb⟩; exact ⟨(hWc8_2.lt b hb).2.1, hWc8_2.lt1 b hb⟩; exact ⟨(hWc8_3.lt b hb).2.1, hWc8_3.lt1 b hb⟩
           have hBm9 : ∀ b, (reasm_Stream_Read.S b0 A8_w2 A8_w3) b → (fun _ => False) b ∨ w.heap.size ≤ b := fun b hb => by rcases hb with hb | hb | hb; exact hmc8 b hb; exact hmc8_2 b hb; exact hmc8_3 b hb
           have hjB9_o49 : ∀ b, blk (A8_0, 0, 0) b → ¬ (reasm_Stream_Read.S b0 A8_w2 A8_w3) b := fun b h0 hb => by rcases hb with hb | hb | hb; exact dk8_o49 b h0 hb; exact dr8_o49_2 b h0 hb; exact dr8_o49_3 b h0 hb
           refine ok_callo (reasm_Stream_Read.S b0 A8_w2 A8_w3) rfl hBv9 (fun L9 w9 g9 lt9 => ?_)
           refine (reasm_Stream_Read.c k _ q8 _ _ _ _ r16.2.1 (s9_0, q9) hr9  w9 (hWc8.later g9).bare' (hWc8_2.later g9).bare' (hWc8_3.later g9).bare' djc8_1_0 djc8_2_0 djc8_2_1).mono ?_
           rintro e w9' ⟨A9_w2, c9_w2, A9_w3, c9_w3, A9_0, c9_0, rfl, hf9, hWc9, hWc9_2, hWc9_3, djc9_1_0, djc9_2_0, djc9_2_1, hzc9_2, hzc9_3, hO9_0, dr9_o54_2, dr9_o54_3⟩
           refine ⟨((A9_0, s9_0.length, c9_0), ()), rfl, hf9, fun g9' hid9 hv9 => ?_⟩
           try dsimp only
           have dn9_2_o49 : Dj A9_w2 A8_0 := Dj.byB hzc9_2 hjB9_o49 (hO8_0.later g9).lt
           have dn9_3_o49 : Dj A9_w3 A8_0 := Dj.byB hzc9_3 hjB9_o49 (hO8_0.later g9).lt
           have dj_o54_o49 : Dj A9_0 A8_0 := Dj.new hO9_0.fresh (hO8_0.later g9).lt
           have dk9_o54 : Dj A9_0 b0 := Dj.new hO9_0.fresh (fun b hb => Nat.lt_of_lt_of_le (hBv9 b (Or.inl hb)).2 g9.size)
           have hmc9 := hmc8
           have hmc9_2 : ∀ b, blk (A9_w2, 0, 0) b → (fun _ => False) b ∨ w.heap.size ≤ b := fun b hb => (hzc9_2 b hb).elim (hBm9 b) (fun h => Or.inr (Nat.le_trans (hF.trans g9).size h))
           have hmc9_3 : ∀ b, blk (A9_w3, 0, 0) b → (fun _ => False) b ∨ w.heap.size ≤ b := fun b hb => (hzc9_3 b hb).elim (hBm9 b) (fun h => Or.inr (Nat.le_trans (hF.trans g9).size h))
           have hWc9 := hWc9.vis (fun b hb => hv9 b (Or.inl (Or.inl hb)))
           have hWc9_2 := hWc9_2.vis (fun b hb => hv9 b (hzc9_2 b hb))
           have hWc9_3 := hWc9_3.vis (fun b hb => hv9 b (hzc9_3 b hb))
           have hO9_0 := hO9_0.call (hF.trans g9).size lt9
           have hO8_0 := OwnF.others hO8_0 hjB9_o49 g9'
           have hF := Fine.own hF g9' hBm9 hid9
           obtain ⟨r10, hr10, h⟩ := Option.bind_eq_some_iff.1 h
           obtain ⟨v10_0, v10_1⟩ := r10
           try dsimp only at h
           refine ok_callm rfl (fun L10 w10 g10 lt10 => ?_)
           refine (reasm_Stream_End.c k _ (some q9) (v10_0, v10_1) hr10  w10 ((obr45 hWc9.sl hWc9_2.sl hWc9_3.sl).later g10).bare).mono ?_
           rintro e w10' ⟨rfl, hb10⟩
           refine ⟨(v10_0, v10_1, ()), rfl, hb10, fun g10' => ?_⟩
           try dsimp only
           have hF := hF.trans g10'
           have hO8_0 := hO8_0.later g10'
           have hO9_0 := hO9_0.later g10'
           have hWc9 := hWc9.later g10'
           have hWc9_2 := hWc9_2.later g10'
           have hWc9_3 := hWc9_3.later g10'
           refine ok_if (fun hc58 => ?_) (fun hc58 => ?_)
           ·have h := bif_t h hc58
            obtain ⟨v11_0, hr11, h⟩ := Option.bind_eq_some_iff.1 h
            refine ok_callm rfl (fun L11 w11 g11 lt11 => ?_)
            refine (reasm_Stream_Over.c k _ (some q9) v11_0 hr11  w11 ((obr45 hWc9.sl hWc9_2.sl hWc9_3.sl).later g11).bare).mono ?_
            rintro e w11' ⟨rfl, hb11⟩
            refine ⟨(v11_0, ()), rfl, hb11, fun g11' => ?_⟩
            try dsimp only
            have hF := hF.trans g11'
            have hO8_0 := hO8_0.later g11'
            have hO9_0 := hO9_0.later g11'
            have hWc9 := hWc9.later g11'
            have hWc9_2 := hWc9_2.later g11'
            have hWc9_3 := hWc9_3.later g11'
            refine ok_if (fun hc59 => ?_) (fun hc59 => ?_)
            ·have h := bif_t h hc59
             obtain ⟨v12_0, hr12, h⟩ := Option.bind_eq_some_iff.1 h
             refine ok_callm rfl (fun L12 w12 g12 lt12 => ?_)
             refine (reasm_Stream_At.c k _ (some q9) v12_0 hr12  w12 ((obr45 hWc9.sl hWc9_2.sl hWc9_3.sl).later g12).bare).mono ?_
             rintro e w12' ⟨rfl, hb12⟩
             refine ⟨(v12_0, ()), rfl, hb12, fun g12' => ?_⟩
             try dsimp only
             have hF := hF.trans g12'
             have hO8_0 := hO8_0.later g12'
             have hO9_0 := hO9_0.later g12'
             have hWc9 := hWc9.later g12'
             have hWc9_2 := hWc9_2.later g12'
             have hWc9_3 := hWc9_3.later g12'
             refine ok_if (fun hc60 => ?_) (fun hc60 => ?_)
             ·have h := bif_t h hc60
              obtain rfl := Option.some.inj h
              obtain rfl := hr_2 _ rfl
              intro ρ L w' _ he _ _
              exact ⟨rfl, (hF.ext he).below⟩
             ·have h := bif_f h hc60
              obtain ⟨v13_0, hr13, h⟩ := Option.bind_eq_some_iff.1 h
              refine ok_callm rfl (fun L13 w13 g13 lt13 => ?_)
              refine (reasm_Stream_Broken.c k _ (some q9) v13_0 hr13  w13 ((obr45 hWc9.sl hWc9_2.sl hWc9_3.sl).later g13).bare).mono ?_
              rintro e w13' ⟨rfl, hb13⟩
              refine ⟨(v13_0, ()), rfl, hb13, fun g13' => ?_⟩
              try dsimp only
              have hF := hF.trans g13'
              have hO8_0 := hO8_0.later g13'
              have hO9_0 := hO9_0.later g13'
              have hWc9 := hWc9.later g13'
              have hWc9_2 := hWc9_2.later g13'
              have hWc9_3 := hWc9_3.later g13'
              refine ok_if (fun hc61 => ?_) (fun hc61 => ?_)
              ·have h := bif_t h hc61
               refine ok_if (fun hc62 => ?_) (fun hc62 => ?_)
               ·have h := bif_t h hc62
                obtain rfl := Option.some.inj h
                obtain rfl := hr_2 _ rfl
                intro ρ L w' _ he _ _
                exact ⟨rfl, (hF.ext he).below⟩
               ·have h := bif_f h hc62
                obtain rfl := Option.some.inj h
                have h := hl2 _ rfl
                exact ok_again (I := I2) m2 (Nat.lt_succ_self _) (fun L w' he => by rw [hI2]; exact ⟨_, q9, A9_w2, c9_w2, A9_w3, c9_w3, rfl, h, hF.trans he.fine, hWc9.later he.fine, hWc9_2.later he.fine, hWc9_3.later he.fine, djc9_1_0, djc9_2_0, djc9_2_1, hmc9_2, hmc9_3⟩)
              ·have h := bif_f h hc61
               obtain rfl := Option.some.inj h
               obtain rfl := hr_2 _ rfl
               intro ρ L w' _ he _ _
               exact ⟨rfl, (hF.ext he).below⟩
            ·have h := bif_f h hc59
             obtain rfl := Option.some.inj h
             obtain rfl := hr_2 _ rfl
             intro ρ L w' _ he _ _
             exact ⟨rfl, (hF.ext he).below⟩
           ·have h := bif_f h hc58
            obtain ⟨v11_0, hr11, h⟩ := Option.bind_eq_some_iff.1 h
            refine ok_callm rfl (fun L11 w11 g11 lt11 => ?_)
            refine (reasm_Stream_Over.c k _ (some q9) v11_0 hr11  w11 ((obr45 hWc9.sl hWc9_2.sl hWc9_3.sl).later g11).bare).mono ?_
            rintro e w11' ⟨rfl, hb11⟩
            refine ⟨(v11_0, ()), rfl, hb11, fun g11' => ?_⟩
            try dsimp only
            have hF := hF.trans g11'
            have hO8_0 := hO8_0.later g11'
            have hO9_0 := hO9_0.later g11'
            have hWc9 := hWc9.later g11'
            have hWc9_2 := hWc9_2.later g11'
            have hWc9_3 := hWc9_3.later g11'
            refine ok_if (fun hc63 => ?_) (fun hc63 => ?_)
            ·have h := bif_t h hc63
             obtain ⟨v12_0, hr12, h⟩ := Option.bind_eq_some_iff.1 h
             refine ok_callm rfl (fun L12 w12 g12 lt12 => ?_)
             refine (reasm_Stream_At.c k _ (some q9) v12_0 hr12  w12 ((obr45 hWc9.sl hWc9_2.sl hWc9_3.sl).later g12).bare).mono ?_
             rintro e w12' ⟨rfl, hb12⟩
             refine ⟨(v12_0, ()), rfl, hb12, fun g12' => ?_⟩
             try dsimp only
             have hF := hF.trans g12'
             have hO8_0 := hO8_0.later g12'
             have hO9_0 := hO9_0.later g12'
             have hWc9 := hWc9.later g12'
             have hWc9_2 := hWc9_2.later g12'
             have hWc9_3 := hWc9_3.later g12'
             refine ok_if (fun hc64 => ?_) (fun hc64 => ?_)
             ·have h := bif_t h hc64
              obtain rfl := Option.some.inj h
              obtain rfl := hr_2 _ rfl
              intro ρ L w' _ he _ _
              exact ⟨rfl, (hF.ext he).below⟩
             ·have h := bif_f h hc64
              obtain ⟨v13_0, hr13, h⟩ := Option.bind_eq_some_iff.1 h
              refine ok_callm rfl (fun L13 w13 g13 lt13 => ?_)
              refine (reasm_Stream_Broken.c k _ (some q9) v13_0 hr13  w13 ((obr45 hWc9.sl hWc9_2.sl hWc9_3.sl).later g13).bare).mono ?_
              rintro e w13' ⟨rfl, hb13⟩
              refine ⟨(v13_0, ()), rfl, hb13, fun g13' => ?_⟩
              try dsimp only
              have hF := hF.trans g13'
              have hO8_0 := hO8_0.later g13'
              have hO9_0 := hO9_0.later g13'
              have hWc9 := hWc9.later g13'
              have hWc9_2 := hWc9_2.later g13'
              have hWc9_3 := hWc9_3.later g13'
              refine ok_if (fun hc65 => ?_) (fun hc65 => ?_)
              ·have h := bif_t h hc65
               refine ok_if (fun hc66 => ?_) (fun hc66 => ?_)
               ·have h := bif_t h hc66
                obtain rfl := Option.some.inj h
                obtain rfl := hr_2 _ rfl
                intro ρ L w' _ he _ _
                exact ⟨rfl, (hF.ext he).below⟩
               ·have h := bif_f h hc66
                obtain rfl := Option.some.inj h
                obtain rfl := hr_2 _ rfl
                intro ρ L w' _ he _ _
                exact ⟨rfl, (hF.ext he).below⟩
              ·have h := bif_f h hc65
               obtain rfl := Option.some.inj h
               obtain rfl := hr_2 _ rfl
               intro ρ L w' _ he _ _
               exact ⟨rfl, (hF.ext he).below⟩
            ·have h := bif_f h hc63
             obtain rfl := Option.some.inj h
             obtain rfl := hr_2 _ rfl
             intro ρ L w' _ he _ _
             exact ⟨rfl, (hF.ext he).below⟩
         ·have h := bif_f h hc48
          obtain ⟨r8, hr8, h⟩ := Option.bind_eq_some_iff.1 h
          obtain ⟨v8_0, q8⟩ := r8
          try dsimp only at h
          have hBv8 : ∀ b, (reasm_Stream_Reset.S b0 A2_b0_2 A2_b0_3) b → ¬ _ ∧ b < _ := fun b hb => by rcases hb with hb | hb | hb; exact ⟨(hW2_b0.lt b hb).2.1, hW2_b0.lt1 b hb⟩; exact ⟨(hW2_b0_2.lt b hb).2.1, hW2_b0_2.lt1 b hb⟩; exact ⟨(hW2_b0_3.lt b hb).2.1, hW2_b0_3.lt1 b hb⟩
          have hBm8 : ∀ b, (reasm_Stream_Reset.S b0 A2_b0_2 A2_b0_3) b → (fun _ => False) b ∨ w.heap.size ≤ b := fun b hb => by rcases hb with hb | hb | hb; exact hmn0 b hb; exact hm2_b0_2 b hb; exact hm2_b0_3 b hb
          refine ok_callo (reasm_Stream_Reset.S b0 A2_b0_2 A2_b0_3) rfl hBv8 (fun L8 w8 g8 lt8 => ?_)
          refine (reasm_Stream_Reset.c k _ q2_b0 _ _ _ _ r16.2.1 (v8_0, q8) hr8  w8 (hW2_b0.later g8).bare' (hW2_b0_2.later g8).bare' (hW2_b0_3.later g8).bare' dj_w13_w12 dj_w14_w12 dj_w14_w13).mono ?_
          rintro e w8' ⟨A8_w2, c8_w2, A8_w3, c8_w3, rfl, hf8, hWc8, hWc8_2, hWc8_3, djc8_1_0, djc8_2_0, djc8_2_1, hzc8_2, hzc8_3⟩
          refine ⟨(v8_0, ()), rfl, hf8, fun g8' hid8 hv8 => ?_⟩
          try dsimp only
          have hmc8 := hmn0
          have hmc8_2 : ∀ b, blk (A8_w2, 0, 0) b → (fun _ => False) b ∨ w.heap.size ≤ b := fun b hb => (hzc8_2 b hb).elim (hBm8 b) (fun h => Or.inr (Nat.le_trans (hF.trans g8).size h))
          have hmc8_3 : ∀ b, blk (A8_w3, 0, 0) b → (fun _ => False) b ∨ w.heap.size ≤ b := fun b hb => (hzc8_3 b hb).elim (hBm8 b) (fun h => Or.inr (Nat.le_trans (hF.trans g8).size h))
          have hWc8 := hWc8.vis (fun b hb => hv8 b (Or.inl (Or.inl hb)))
          have hWc8_2 := hWc8_2.vis (fun b hb => hv8 b (hzc8_2 b hb))
          have hWc8_3 := hWc8_3.vis (fun b hb => hv8 b (hzc8_3 b hb))
          have hF := Fine.own hF g8' hBm8 hid8
          obtain ⟨r9, hr9, h⟩ := Option.bind_eq_some_iff.1 h
          obtain ⟨v9_0, v9_1⟩ := r9
          try dsimp only at h
          refine ok_callm rfl (fun L9 w9 g9 lt9 => ?_)
          refine (reasm_Stream_End.c k _ (some q8) (v9_0, v9_1) hr9  w9 ((obr45 hWc8.sl hWc8_2.sl hWc8_3.sl).later g9).bare).mono ?_
          rintro e w9' ⟨rfl, hb9⟩
          refine ⟨(v9_0, v9_1, ()), rfl, hb9, fun g9' => ?_⟩
          try dsimp only
          have hF := hF.trans g9'
          have hWc8 := hWc8.later g9'
          have hWc8_2 := hWc8_2.later g9'
          have hWc8_3 := hWc8_3.later g9'
          refine ok_if (fun hc70 => ?_) (fun hc70 => ?_)
          ·have h := bif_t h hc70
           obtain ⟨v10_0, hr10, h⟩ := Option.bind_eq_some_iff.1 h
           refine ok_callm rfl (fun L10 w10 g10 lt10 => ?_)
           refine (reasm_Stream_Over.c k _ (some q8) v10_0 hr10  w10 ((obr45 hWc8.sl hWc8_2.sl hWc8_3.sl).later g10).bare).mono ?_
           rintro e w10' ⟨rfl, hb10⟩
           refine ⟨(v10_0, ()), rfl, hb10, fun g10' => ?_⟩
           try dsimp only
           have hF := hF.trans g10'
           have hWc8 := hWc8.later g10'
           have hWc8_2 := hWc8_2.later g10'
           have hWc8_3 := hWc8_3.later g10'
           refine ok_if (fun hc71 => ?_) (fun hc71 => ?_)
           ·have h := bif_t h hc71
            obtain ⟨v11_0, hr11, h⟩ := Option.bind_eq_some_iff.1 h
            refine ok_callm rfl (fun L11 w11 g11 lt11 => ?_)
            refine (reasm_Stream_At.c k _ (some q8) v11_0 hr11  w11 ((obr45 hWc8.sl hWc8_2.sl hWc8_3.sl).later g11).bare).mono ?_
            rintro e w11' ⟨rfl, hb11⟩
            refine ⟨(v11_0, ()), rfl, hb11, fun g11' => ?_⟩
            try dsimp only
            have hF := hF.trans g11'
            have hWc8 := hWc8.later g11'
            have hWc8_2 := hWc8_2.later g11'
            have hWc8_3 := hWc8_3.later g11'
            refine ok_if (fun hc72 => ?_) (fun hc72 => ?_)
            ·have h := bif_t h hc72
             obtain rfl := Option.some.inj h
             obtain rfl := hr_2 _ rfl
             intro ρ L w' _ he _ _
             exact ⟨rfl, (hF.ext he).below⟩
            ·have h := bif_f h hc72
             obtain ⟨v12_0, hr12, h⟩ := Option.bind_eq_some_iff.1 h
             refine ok_callm rfl (fun L12 w12 g12 lt12 => ?_)
             refine (reasm_Stream_Broken.c k _ (some q8) v12_0 hr12  w12 ((obr45 hWc8.sl hWc8_2.sl hWc8_3.sl).later g12).bare).mono ?_
             rintro e w12' ⟨rfl, hb12⟩
             refine ⟨(v12_0, ()), rfl, hb12, fun g12' => ?_⟩
             try dsimp only
             have hF := hF.trans g12'
             have hWc8 := hWc8.later g12'
             have hWc8_2 := hWc8_2.later g12'
             have hWc8_3 := hWc8_3.later g12'
             refine ok_if (fun hc73 => ?_) (fun hc73 => ?_)
             ·have h := bif_t h hc73
              refine ok_if (fun hc74 => ?_) (fun hc74 => ?_)
              ·have h := bif_t h hc74
               obtain rfl := Option.some.inj h
               obtain rfl := hr_2 _ rfl
               intro ρ L w' _ he _ _
               exact ⟨rfl, (hF.ext he).below⟩
              ·have h := bif_f h hc74
               obtain rfl := Option.some.inj h
               have h := hl2 _ rfl
               exact ok_again (I := I2) m2 (Nat.lt_succ_self _) (fun L w' he => by rw [hI2]; exact ⟨_, q8, A8_w2, c8_w2, A8_w3, c8_w3, rfl, h, hF.trans he.fine, hWc8.later he.fine, hWc8_2.later he.fine, hWc8_3.later he.fine, djc8_1_0, djc8_2_0, djc8_2_1, hmc8_2, hmc8_3⟩)
             ·have h := bif_f h hc73
              obtain rfl := Option.some.inj h
              obtain rfl := hr_2 _ rfl
              intro ρ L w' _ he _ _
              exact ⟨rfl, (hF.ext he).below⟩
           ·have h := bif_f h hc71
            obtain rfl := Option.some.inj h
            obtain rfl := hr_2 _ rfl
            intro ρ L w' _ he _ _
            exact ⟨rfl, (hF.ext he).below⟩
          ·have h := bif_f h hc70
           obtain ⟨v10_0, hr10, h⟩ := Option.bind_eq_some_iff.1 h
           refine ok_callm rfl (fun L10 w10 g10 lt10 => ?_)
           refine (reasm_Stream_Over.c k _ (some q8) v10_0 hr10  w10 ((obr45 hWc8.sl hWc8_2.sl hWc8_3.sl).later g10).bare).mono ?_
           rintro e w10' ⟨rfl, hb10⟩
           refine ⟨(v10_0, ()), rfl, hb10, fun g10' => ?_⟩
           try dsimp only
           have hF := hF.trans g10'
           have hWc8 := hWc8.later g10'
           have hWc8_2 := hWc8_2.later g10'
           have hWc8_3 := hWc8_3.later g10'
           refine ok_if (fun hc75 => ?_) (fun hc75 => ?_)
           ·have h := bif_t h hc75
            obtain ⟨v11_0, hr11, h⟩ := Option.bind_eq_some_iff.1 h
            refine ok_callm rfl (fun L11 w11 g11 lt11 => ?_)
            refine (reasm_Stream_At.c k _ (some q8) v11_0 hr11  w11 ((obr45 hWc8.sl hWc8_2.sl hWc8_3.sl).later g11).bare).mono ?_
            rintro e w11' ⟨rfl, hb11⟩
            refine ⟨(v11_0, ()), rfl, hb11, fun g11' => ?_⟩
            try dsimp only
            have hF := hF.trans g11'
            have hWc8 := hWc8.later g11'
            have hWc8_2 := hWc8_2.later g11'
            have hWc8_3 := hWc8_3.later g11'
            refine ok_if (fun hc76 => ?_) (fun hc76 => ?_)
            ·have h := bif_t h hc76
             obtain rfl := Option.some.inj h
             obtain rfl := hr_2 _ rfl
             intro ρ L w' _ he _ _
             exact ⟨rfl, (hF.ext he).below⟩
            ·have h := bif_f h hc76
             obtain ⟨v12_0, hr12, h⟩ := Option.bind_eq_some_iff.1 h
             refine ok_callm rfl (fun L12 w12 g12 lt12 => ?_)
             refine (reasm_Stream_Broken.c k _ (some q8) v12_0 hr12  w12 ((obr45 hWc8.sl hWc8_2.sl hWc8_3.sl).later g12).bare).mono ?_
             rintro e w12' ⟨rfl, hb12⟩
             refine ⟨(v12_0, ()), rfl, hb12, fun g12' => ?_⟩
             try dsimp only
             have hF := hF.trans g12'
             have hWc8 := hWc8.later g12'
             have hWc8_2 := hWc8_2.later g12'
             have hWc8_3 := hWc8_3.later g12'
             refine ok_if (fun hc77 => ?_) (fun hc77 => ?_)
             ·have h := bif_t h hc77
              refine ok_if (fun hc78 => ?_) (fun hc78 => ?_)
              ·have h := bif_t h hc78
               obtain rfl := Option.some.inj h
               obtain rfl := hr_2 _ rfl
               intro ρ L w' _ he _ _
               exact ⟨rfl, (hF.ext he).below⟩
              ·have h := bif_f h hc78
               obtain rfl := Option.some.inj h
               obtain rfl := hr_2 _ rfl
               intro ρ L w' _ he _ _
               exact ⟨rfl, (hF.ext he).below⟩
             ·have h := bif_f h hc77
              obtain rfl := Option.some.inj h
              obtain rfl := hr_2 _ rfl
              intro ρ L w' _ he _ _
              exact ⟨rfl, (hF.ext he).below⟩
           ·have h := bif_f h hc75
            obtain rfl := Option.some.inj h
            obtain rfl := hr_2 _ rfl
            intro ρ L w' _ he _ _
            exact ⟨rfl, (hF.ext he).below⟩
       ·have h := bif_f h hc21
        refine ok_need rfl ?_
        refine ok_if (fun hc79 => ?_) (fun hc79 => ?_)
        ·have h := bif_t h hc79
         refine ok_if (fun hc80 => ?_) (fun hc80 => ?_)
         ·have h := bif_t h hc80
          obtain ⟨r8, hr8, h⟩ := Option.bind_eq_some_iff.1 h
          obtain ⟨v8_0, q8⟩ := r8
          try dsimp only at h
          have hBv8 : ∀ b, (reasm_Stream_Data.S b0 A2_b0_2 A2_b0_3) b → ¬ _ ∧ b < _ := fun b hb => by rcases hb with hb | hb | hb; exact ⟨(hW2_b0.lt b hb).2.1, hW2_b0.lt1 b hb⟩; exact ⟨(hW2_b0_2.lt b hb).2.1, hW2_b0_2.lt1 b hb⟩; exact ⟨(hW2_b0_3.lt b hb).2.1, hW2_b0_3.lt1 b hb⟩
          have hBm8 : ∀ b, (reasm_Stream_Data.S b0 A2_b0_2 A2_b0_3) b → (fun _ => False) b ∨ w.heap.size ≤ b := fun b hb => by rcases hb with hb | hb | hb; exact hmn0 b hb; exact hm2_b0_2 b hb; exact hm2_b0_3 b hb
          refine ok_callo (reasm_Stream_Data.S b0 A2_b0_2 A2_b0_3) rfl hBv8 (fun L8 w8 g8 lt8 => ?_)
          refine (reasm_Stream_Data.c k _ q2_b0 _ _ _ _ r16.2.1 _ _ _ r16.2.2.1 true (v8_0, q8) hr8 rfl w8 (hW2_b0.later g8).bare' (hW2_b0_2.later g8).bare' (hW2_b0_3.later g8).bare' dj_w13_w12 dj_w14_w12 dj_w14_w13 (hE3_2.later ((hF.trans g8).with hBm8))).mono ?_
          rintro e w8' ⟨A8_w2, c8_w2, A8_w3, c8_w3, rfl, hf8, hWc8, hWc8_2, hWc8_3, djc8_1_0, djc8_2_0, djc8_2_1, hzc8_2, hzc8_3⟩
          refine ⟨(v8_0, ()), rfl, hf8, fun g8' hid8 hv8 => ?_⟩
          try dsimp only
          have hmc8 := hmn0
          have hmc8_2 : ∀ b, blk (A8_w2, 0, 0) b → (fun _ => False) b ∨ w.heap.size ≤ b := fun b hb => (hzc8_2 b hb).elim (hBm8 b) (fun h => Or.inr (Nat.le_trans (hF.trans g8).size h))
          have hmc8_3 : ∀ b, blk (A8_w3, 0, 0) b → (fun _ => False) b ∨ w.heap.size ≤ b := fun b hb => (hzc8_3 b hb).elim (hBm8 b) (fun h => Or.inr (Nat.le_trans (hF.trans g8).size h))
          have hWc8 := hWc8.vis (fun b hb => hv8 b (Or.inl (Or.inl hb)))
          have hWc8_2 := hWc8_2.vis (fun b hb => hv8 b (hzc8_2 b hb))
          have hWc8_3 := hWc8_3.vis (fun b hb => hv8 b (hzc8_3 b hb))
          have hF := Fine.own hF g8' hBm8 hid8
          obtain ⟨r9, hr9, h⟩ := Option.bind_eq_some_iff.1 h
          obtain ⟨v9_0, v9_1⟩ := r9
          try dsimp only at h
          refine ok_callm rfl (fun L9 w9 g9 lt9 => ?_)
          refine (reasm_Stream_End.c k _ (some q8) (v9_0, v9_1) hr9  w9 ((obr45 hWc8.sl hWc8_2.sl hWc8_3.sl).later g9).bare).mono ?_
          rintro e w9' ⟨rfl, hb9⟩
          refine ⟨(v9_0, v9_1, ()), rfl, hb9, fun g9' => ?_⟩
          try dsimp only
          have hF := hF.trans g9'
          have hWc8 := hWc8.later g9'
          have hWc8_2 := hWc8_2.later g9'
          have hWc8_3 := hWc8_3.later g9'
          refine ok_if (fun hc84 => ?_) (fun hc84 => ?_)
          ·have h := bif_t h hc84
           obtain ⟨v10_0, hr10, h⟩ := Option.bind_eq_some_iff.1 h
           refine ok_callm rfl (fun L10 w10 g10 lt10 => ?_)
           refine (reasm_Stream_Over.c k _ (some q8) v10_0 hr10  w10 ((obr45 hWc8.sl hWc8_2.sl hWc8_3.sl).later g10).bare).mono ?_
           rintro e w10' ⟨rfl, hb10⟩
           refine ⟨(v10_0, ()), rfl, hb10, fun g10' => ?_⟩
           try dsimp only
           have hF := hF.trans g10'
           have hWc8 := hWc8.later g10'
           have hWc8_2 := hWc8_2.later g10'
           have hWc8_3 := hWc8_3.later g10'
           refine ok_if (fun hc85 => ?_) (fun hc85 => ?_)
           ·have h := bif_t h hc85
            obtain ⟨v11_0, hr11, h⟩ := Option.bind_eq_some_iff.1 h
            refine ok_callm rfl (fun L11 w11 g11 lt11 => ?_)
            refine (reasm_Stream_At.c k _ (some q8) v11_0 hr11  w11 ((obr45 hWc8.sl hWc8_2.sl hWc8_3.sl).later g11).bare).mono ?_
            rintro e w11' ⟨rfl, hb11⟩
            refine ⟨(v11_0, ()), rfl, hb11, fun g11' => ?_⟩
            try dsimp only
            have hF := hF.trans g11'
            have hWc8 := hWc8.later g11'
            have hWc8_2 := hWc8_2.later g11'
            have hWc8_3 := hWc8_3.later g11'
            refine ok_if (fun hc86 => ?_) (fun hc86 => ?_)
            ·have h := bif_t h hc86
             obtain rfl := Option.some.inj h
             obtain rfl := hr_2 _ rfl
             intro ρ L w' _ he _ _
             exact ⟨rfl, (hF.ext he).below⟩
            ·have h := bif_f h hc86
             obtain ⟨v12_0, hr12, h⟩ := Option.bind_eq_some_iff.1 h
             refine ok_callm rfl (fun L12 w12 g12 lt12 => ?_)
             refine (reasm_Stream_Broken.c k _ (some q8) v12_0 hr12  w12 ((obr45 hWc8.sl hWc8_2.sl hWc8_3.sl).later g12).bare).mono ?_
             rintro e w12' ⟨rfl, hb12⟩
             refine ⟨(v12_0, ()), rfl, hb12, fun g12' => ?_⟩
             try dsimp only
             have hF := hF.trans g12'
             have hWc8 := hWc8.later g12'
             have hWc8_2 := hWc8_2.later g12'
             have hWc8_3 := hWc8_3.later g12'
             refine ok_if (fun hc87 => ?_) (fun hc87 => ?_)
             ·have h := bif_t h hc87
              refine ok_if (fun hc88 => ?_) (fun hc88 => ?_)
              ·have h := bif_t h hc88
               obtain rfl := Option.some.inj h
               obtain rfl := hr_2 _ rfl
               intro ρ L w' _ he _ _
               exact ⟨rfl, (hF.ext he).below⟩
              ·have h := bif_f h hc88
               obtain rfl := Option.some.inj h
               have h := hl2 _ rfl
               exact ok_again (I := I2) m2 (Nat.lt_succ_self _) (fun L w' he => by rw [hI2]; exact ⟨_, q8, A8_w2, c8_w2, A8_w3, c8_w3, rfl, h, hF.trans he.fine, hWc8.later he.fine, hWc8_2.later he.fine, hWc8_3.later he.fine, djc8_1_0, djc8_2_0, djc8_2_1, hmc8_2, hmc8_3⟩)
             ·have h := bif_f h hc87
              obtain rfl := Option.some.inj h
              obtain rfl := hr_2 _ rfl
              intro ρ L w' _ he _ _
              exact ⟨rfl, (hF.ext he).below⟩
           ·have h := bif_f h hc85
            obtain rfl := Option.some.inj h
            obtain rfl := hr_2 _ rfl
            intro ρ L w' _ he _ _
            exact ⟨rfl, (hF.ext he).below⟩
          ·have h := bif_f h hc84
           obtain ⟨v10_0, hr10, h⟩ := Option.bind_eq_some_iff.1 h
           refine ok_callm rfl (fun L10 w10 g10 lt10 => ?_)
           refine (reasm_Stream_Over.c k _ (some q8) v10_0 hr10  w10 ((obr45 hWc8.sl hWc8_2.sl hWc8_3.sl).later g10).bare).mono ?_
           rintro e w10' ⟨rfl, hb10⟩
           refine ⟨(v10_0, ()), rfl, hb10, fun g10' => ?_⟩
           try dsimp only
           have hF := hF.trans g10'
           have hWc8 := hWc8.later g10'
           have hWc8_2 := hWc8_2.later g10'
           have hWc8_3 := hWc8_3.later g10'
           refine ok_if (fun hc89 => ?_) (fun hc89 => ?_)
           ·have h := bif_t h hc89
            obtain ⟨v11_0, hr11, h⟩ := Option.bind_eq_some_iff.1 h
            refine ok_callm rfl (fun L11 w11 g11 lt11 => ?_)
            refine (reasm_Stream_At.c k _ (some q8) v11_0 hr11  w11 ((obr45 hWc8.sl hWc8_2.sl hWc8_3.sl).later g11).bare).mono ?_
            rintro e w11' ⟨rfl, hb11⟩
            refine ⟨(v11_0, ()), rfl, hb11, fun g11' => ?_⟩
            try dsimp only
            have hF := hF.trans g11'
            have hWc8 := hWc8.later g11'
            have hWc8_2 := hWc8_2.later g11'
            have hWc8_3 := hWc8_3.later g11'
            refine ok_if (fun hc90 => ?_) (fun hc90 => ?_)
            ·have h := bif_t h hc90
             obtain rfl := Option.some.inj h
             obtain rfl := hr_2 _ rfl
             intro ρ L w' _ he _ _
             exact ⟨rfl, (hF.ext he).below⟩
            ·have h := bif_f h hc90
             obtain ⟨v12_0, hr12, h⟩ := Option.bind_eq_some_iff.1 h
             refine ok_callm rfl (fun L12 w12 g12 lt12 => ?_)
             refine (reasm_Stream_Broken.c k _ (some q8) v12_0 hr12  w12 ((obr45 hWc8.sl hWc8_2.sl hWc8_3.sl).later g12).bare).mono ?_
             rintro e w12' ⟨rfl, hb12⟩
             refine ⟨(v12_0, ()), rfl, hb12, fun g12' => ?_⟩
             try dsimp only
             have hF := hF.trans g12'
             have hWc8 := hWc8.later g12'
             have hWc8_2 := hWc8_2.later g12'
             have hWc8_3 := hWc8_3.later g12'
             refine ok_if (fun hc91 => ?_) (fun hc91 => ?_)
             ·have h := bif_t h hc91
              refine ok_if (fun hc92 => ?_) (fun hc92 => ?_)
              ·have h := bif_t h hc92
               obtain rfl := Option.some.inj h
               obtain rfl := hr_2 _ rfl
               intro ρ L w' _ he _ _
               exact ⟨rfl, (hF.ext he).below⟩
              ·have h := bif_f h hc92
               obtain rfl := Option.some.inj h
               obtain rfl := hr_2 _ rfl
               intro ρ L w' _ he _ _
               exact ⟨rfl, (hF.ext he).below⟩
             ·have h := bif_f h hc91
              obtain rfl := Option.some.inj h
              obtain rfl := hr_2 _ rfl
              intro ρ L w' _ he _ _
              exact ⟨rfl, (hF.ext he).below⟩
           ·have h := bif_f h hc89
            obtain rfl := Option.some.inj h
            obtain rfl := hr_2 _ rfl
            intro ρ L w' _ he _ _
            exact ⟨rfl, (hF.ext he).below⟩
         ·have h := bif_f h hc80
          obtain ⟨r8, hr8, h⟩ := Option.bind_eq_some_iff.1 h
          obtain ⟨v8_0, q8⟩ := r8
          try dsimp only at h
          have hBv8 : ∀ b, (reasm_Stream_Data.S b0 A2_b0_2 A2_b0_3) b → ¬ _ ∧ b < _ := fun b hb => by rcases hb with hb | hb | hb; exact ⟨(hW2_b0.lt b hb).2.1, hW2_b0.lt1 b hb⟩; exact ⟨(hW2_b0_2.lt b hb).2.1, hW2_b0_2.lt1 b hb⟩; exact ⟨(hW2_b0_3.lt b hb).2.1, hW2_b0_3.lt1 b hb⟩
          have hBm8 : ∀ b, (reasm_Stream_Data.S b0 A2_b0_2 A2_b0_3) b → (fun _ => False) b ∨ w.heap.size ≤ b := fun b hb => by rcases hb with hb | hb | hb; exact hmn0 b hb; exact hm2_b0_2 b hb; exact hm2_b0_3 b hb
          refine ok_callo (reasm_Stream_Data.S b0 A2_b0_2 A2_b0_3) rfl hBv8 (fun L8 w8 g8 lt8 => ?_)
          refine (reasm_Stream_Data.c k _ q2_b0 _ _ _ _ r16.2.1 _ _ _ r16.2.2.1 false (v8_0, q8) hr8 rfl w8 (hW2_b0.later g8).bare' (hW2_b0_2.later g8).bare' (hW2_b0_3.later g8).bare' dj_w13_w12 dj_w14_w12 dj_w14_w13 (hE3_2.later ((hF.trans g8).with hBm8))).mono ?_
          rintro e w8' ⟨A8_w2, c8_w2, A8_w3, c8_w3, rfl, hf8, hWc8, hWc8_2, hWc8_3, djc8_1_0, djc8_2_0, djc8_2_1, hzc8_2, hzc8_3⟩
          refine ⟨(v8_0, ()), rfl, hf8, fun g8' hid8 hv8 => ?_⟩
          try dsimp only
          have hmc8 := hmn0
          have hmc8_2 : ∀ b, blk (A8_w2, 0, 0) b → (fun _ => False) b ∨ w.heap.size ≤ b := fun b hb => (hzc8_2 b hb).elim (hBm8 b) (fun h => Or.inr (Nat.le_trans (hF.trans g8).size h))
          have hmc8_3 : ∀ b, blk (A8_w3, 0, 0) b → (fun _ => False) b ∨ w.heap.size ≤ b := fun b hb => (hzc8_3 b hb).elim (hBm8 b) (fun h => Or.inr (Nat.le_trans (hF.trans g8).size h))
          have hWc8 := hWc8.vis (fun b hb => hv8 b (Or.inl (Or.inl hb)))
          have hWc8_2 := hWc8_2.vis (fun b hb => hv8 b (hzc8_2 b hb))
          have hWc8_3 := hWc8_3.vis (fun b hb => hv8 b (hzc8_3 b hb))
          have hF := Fine.own hF g8' hBm8 hid8
          obtain ⟨r9, hr9, h⟩ := Option.bind_eq_some_iff.1 h
          obtain ⟨v9_0, v9_1⟩ := r9
          try dsimp only at h
          refine ok_callm rfl (fun L9 w9 g9 lt9 => ?_)
          refine (reasm_Stream_End.c k _ (some q8) (v9_0, v9_1) hr9  w9 ((obr45 hWc8.sl hWc8_2.sl hWc8_3.sl).later g9).bare).mono ?_
          rintro e w9' ⟨rfl, hb9⟩
          refine ⟨(v9_0, v9_1, ()), rfl, hb9, fun g9' => ?_⟩
          try dsimp only
          have hF := hF.trans g9'
          have hWc8 := hWc8.later g9'
          have hWc8_2 := hWc8_2.later g9'
          have hWc8_3 := hWc8_3.later g9'
          refine ok_if (fun hc96 => ?_) (fun hc96 => ?_)
          ·have h := bif_t h hc96
           obtain ⟨v10_0, hr10, h⟩ := Option.bind_eq_some_iff.1 h
           refine ok_callm rfl (fun L10 w10 g10 lt10 => ?_)
           refine (reasm_Stream_Over.c k _ (some q8) v10_0 hr10  w10 ((obr45 hWc8.sl hWc8_2.sl hWc8_3.sl).later g10).bare).mono ?_
           rintro e w10' ⟨rfl, hb10⟩
           refine ⟨(v10_0, ()), rfl, hb10, fun g10' => ?_⟩
           try dsimp only
           have hF := hF.trans g10'
           have hWc8 := hWc8.later g10'
           have hWc8_2 := hWc8_2.later g10'
           have hWc8_3 := hWc8_3.later g10'
           refine ok_if (fun hc97 => ?_) (fun hc97 => ?_)
           ·have h := bif_t h hc97
            obtain ⟨v11_0, hr11, h⟩ := Option.bind_eq_some_iff.1 h
            refine ok_callm rfl (fun L11 w11 g11 lt11 => ?_)
            refine (reasm_Stream_At.c k _ (some q8) v11_0 hr11  w11 ((obr45 hWc8.sl hWc8_2.sl hWc8_3.sl).later g11).bare).mono ?_
            rintro e w11' ⟨rfl, hb11⟩
            refine ⟨(v11_0, ()), rfl, hb11, fun g11' => ?_⟩
            try dsimp only
            have hF := hF.trans g11'
            have hWc8 := hWc8.later g11'
            have hWc8_2 := hWc8_2.later g11'
            have hWc8_3 := hWc8_3.later g11'
            refine ok_if (fun hc98 => ?_) (fun hc98 => ?_)
            ·have h := bif_t h hc98
             obtain rfl := Option.some.inj h
             obtain rfl := hr_2 _ rfl
             intro ρ L w' _ he _ _
             exact ⟨rfl, (hF.ext he).below⟩
            ·have h := bif_f h hc98
             obtain ⟨v12_0, hr12, h⟩ := Option.bind_eq_some_iff.1 h
             refine ok_callm rfl (fun L12 w12 g12 lt12 => ?_)
             refine (reasm_Stream_Broken.c k _ (some q8) v12_0 hr12  w12 ((obr45 hWc8.sl hWc8_2.sl hWc8_3.sl).later g12).bare).mono ?_
             rintro e w12' ⟨rfl, hb12⟩
             refine ⟨(v12_0, ()), rfl, hb12, fun g12' => ?_⟩
             try dsimp only
             have hF := hF.trans g12'
             have hWc8 := hWc8.later g12'
             have hWc8_2 := hWc8_2.later g12'
             have hWc8_3 := hWc8_3.later g12'
             refine ok_if (fun hc99 => ?_) (fun hc99 => ?_)
             ·have h := bif_t h hc99
              refine ok_if (fun hc100 => ?_) (fun hc100 => ?_)
              ·have h := bif_t h hc100
               obtain rfl := Option.some.inj h
               obtain rfl := hr_2 _ rfl
               intro ρ L w' _ he _ _
               exact ⟨rfl, (hF.ext he).below⟩
              ·have h := bif_f h hc100
               obtain rfl := Option.some.inj h
               have h := hl2 _ rfl
               exact ok_again (I := I2) m2 (Nat.lt_succ_self _) (fun L w' he => by rw [hI2]; exact ⟨_, q8, A8_w2, c8_w2, A8_w3, c8_w3, rfl, h, hF.trans he.fine, hWc8.later he.fine, hWc8_2.later he.fine, hWc8_3.later he.fine, djc8_1_0, djc8_2_0, djc8_2_1, hmc8_2, hmc8_3⟩)
             ·have h := bif_f h hc99
              obtain rfl := Option.some.inj h
              obtain rfl := hr_2 _ rfl
              intro ρ L w' _ he _ _
              exact ⟨rfl, (hF.ext he).below⟩
           ·have h := bif_f h hc97
            obtain rfl := Option.some.inj h
            obtain rfl := hr_2 _ rfl
            intro ρ L w' _ he _ _
            exact ⟨rfl, (hF.ext he).below⟩
          ·have h := bif_f h hc96
           obtain ⟨v10_0, hr10, h⟩ := Option.bind_eq_some_iff.1 h
           refine ok_callm rfl (fun L10 w10 g10 lt10 => ?_)
           refine (reasm_Stream_Over.c k _ (some q8) v10_0 hr10  w10 ((obr45 hWc8.sl hWc8_2.sl hWc8_3.sl).later g10).bare).mono ?_
           rintro e w10' ⟨rfl, hb10⟩
           refine ⟨(v10_0, ()), rfl, hb10, fun g10' => ?_⟩
           try dsimp only
           have hF := hF.trans g10'
           have hWc8 := hWc8.later g10'
           have hWc8_2 := hWc8_2.later g10'
           have hWc8_3 := hWc8_3.later g10'
           refine ok_if (fun hc101 => ?_) (fun hc101 => ?_)
           ·have h := bif_t h hc101
            obtain ⟨v11_0, hr11, h⟩ := Option.bind_eq_some_iff.1 h
            refine ok_callm rfl (fun L11 w11 g11 lt11 => ?_)
            refine (reasm_Stream_At.c k _ (some q8) v11_0 hr11  w11 ((obr45 hWc8.sl hWc8_2.sl hWc8_3.sl).later g11).bare).mono ?_
            rintro e w11' ⟨rfl, hb11⟩
            refine ⟨(v11_0, ()), rfl, hb11, fun g11' => ?_⟩
            try dsimp only
            have hF := hF.trans g11'
            have hWc8 := hWc8.later g11'
            have hWc8_2 := hWc8_2.later g11'
            have hWc8_3 := hWc8_3.later g11'
            refine ok_if (fun hc102 => ?_) (fun hc102 => ?_)
            ·have h := bif_t h hc102
             obtain rfl := Option.some.inj h
             obtain rfl := hr_2 _ rfl
             intro ρ L w' _ he _ _
             exact ⟨rfl, (hF.ext he).below⟩
            ·have h := bif_f h hc102
             obtain ⟨v12_0, hr12, h⟩ := Option.bind_eq_some_iff.1 h
             refine ok_callm rfl (fun L12 w12 g12 lt12 => ?_)
             refine (reasm_Stream_Broken.c k _ (some q8) v12_0 hr12  w12 ((obr45 hWc8.sl hWc8_2.sl hWc8_3.sl).later g12).bare).mono ?_
             rintro e w12' ⟨rfl, hb12⟩
             refine ⟨(v12_0, ()), rfl, hb12, fun g12' => ?_⟩
             try dsimp only
             have hF := hF.trans g12'
             have hWc8 := hWc8.later g12'
             have hWc8_2 := hWc8_2.later g12'
             have hWc8_3 := hWc8_3.later g12'
             refine ok_if (fun hc103 => ?_) (fun hc103 => ?_)
             ·have h := bif_t h hc103
              refine ok_if (fun hc104 => ?_) (fun hc104 => ?_)
              ·have h := bif_t h hc104
               obtain rfl := Option.some.inj h
               obtain rfl := hr_2 _ rfl
               intro ρ L w' _ he _ _
               exact ⟨rfl, (hF.ext he).below⟩
              ·have h := bif_f h hc104
               obtain rfl := Option.some.inj h
               obtain rfl := hr_2 _ rfl
               intro ρ L w' _ he _ _
               exact ⟨rfl, (hF.ext he).below⟩
             ·have h := bif_f h hc103
              obtain rfl := Option.some.inj h
              obtain rfl := hr_2 _ rfl
              intro ρ L w' _ he _ _
              exact ⟨rfl, (hF.ext he).below⟩
           ·have h := bif_f h hc101
            obtain rfl := Option.some.inj h
            obtain rfl := hr_2 _ rfl
            intro ρ L w' _ he _ _
            exact ⟨rfl, (hF.ext he).below⟩
        ·have h := bif_f h hc79
         refine ok_if (fun hc105 => ?_) (fun hc105 => ?_)
         ·have h := bif_t h hc105
          obtain ⟨r8, hr8, h⟩ := Option.bind_eq_some_iff.1 h
          obtain ⟨s8_0, q8⟩ := r8
          try dsimp only at h
          have hBv8 : ∀ b, (reasm_Stream_Read.S b0 A2_b0_2 A2_b0_3) b → ¬ _ ∧ b < _ := fun b hb => by rcases hb with hb | hb | hb; exact ⟨(hW2_b0.lt b hb).2.1, hW2_b0.lt1 b hb⟩; exact ⟨(hW2_b0_2.lt b hb).2.1, hW2_b0_2.lt1 b hb⟩; exact ⟨(hW2_b0_3.lt b hb).2.1, hW2_b0_3.lt1 b hb⟩
          have hBm8 : ∀ b, (reasm_Stream_Read.S b0 A2_b0_2 A2_b0_3) b → (fun _ => False) b ∨ w.heap.size ≤ b := fun b hb => by rcases hb with hb | hb | hb; exact hmn0 b hb; exact hm2_b0_2 b hb; exact hm2_b0_3 b hb
          refine ok_callo (reasm_Stream_Read.S b0 A2_b0_2 A2_b0_3) rfl hBv8 (fun L8 w8 g8 lt8 => ?_)
          refine (reasm_Stream_Read.c k _ q2_b0 _ _ _ _ r16.2.1 (s8_0, q8) hr8  w8 (hW2_b0.later g8).bare' (hW2_b0_2.later g8).bare' (hW2_b0_3.later g8).bare' dj_w13_w12 dj_w14_w12 dj_w14_w13).mono ?_
          rintro e w8' ⟨A8_w2, c8_w2, A8_w3, c8_w3, A8_0, c8_0, rfl, hf8, hWc8, hWc8_2, hWc8_3, djc8_1_0, djc8_2_0, djc8_2_1, hzc8_2, hzc8_3, hO8_0, dr8_o106_2, dr8_o106_3⟩
          refine ⟨((A8_0, s8_0.length, c8_0), ()), rfl, hf8, fun g8' hid8 hv8 => ?_⟩
          try dsimp only
          have dk8_o106 : Dj A8_0 b0 := Dj.new hO8_0.fresh (fun b hb => Nat.lt_of_lt_of_le (hBv8 b (Or.inl hb)).2 g8.size)
          have hmc8 := hmn0
          have hmc8_2 : ∀ b, blk (A8_w2, 0, 0) b → (fun _ => False) b ∨ w.heap.size ≤ b := fun b hb => (hzc8_2 b hb).elim (hBm8 b) (fun h => Or.inr (Nat.le_trans (hF.trans g8).size h))
          have hmc8_3 : ∀ b, blk (A8_w3, 0, 0) b → (fun _ => False) b ∨ w.heap.size ≤ b := fun b hb => (hzc8_3 b hb).elim (hBm8 b) (fun h => Or.inr (Nat.le_trans (hF.trans g8).size h))
          have hWc8 := hWc8.vis (fun b hb => hv8 b (Or.inl (Or.inl hb)))
          have hWc8_2 := hWc8_2.vis (fun b hb => hv8 b (hzc8_2 b hb))
          have hWc8_3 := hWc8_3.vis (fun b hb => hv8 b (hzc8_3 b hb))
          have hO8_0 := hO8_0.call (hF.trans g8).size lt8
          have hF := Fine.own hF g8' hBm8 hid8
          refine ok_if (fun hc110 => ?_) (fun hc110 => ?_)
          ·have h := bif_t h hc110
           obtain rfl := Option.some.inj h
           obtain rfl := hr_2 _ rfl
           intro ρ L w' _ he _ _
           exact ⟨rfl, (hF.ext he).below⟩
          ·have h := bif_f h hc110
           obtain ⟨r9, hr9, h⟩ := Option.bind_eq_some_iff.1 h
           obtain ⟨s9_0, q9⟩ := r9
           try dsimp only at h
           have hBv9 : ∀ b, (reasm_Stream_Read.S b0 A8_w2 A8_w3) b → ¬ _ ∧ b < _ := fun b hb => by rcases hb with hb | hb | hb; exact ⟨(hWc8.lt b hb).2.1, hWc8.lt1 b hb⟩; exact ⟨(hWc8_2.lt b hb).2.1, hWc8_2.lt1 b hb⟩; exact ⟨(hWc8_3.lt b hb).2.1, hWc8_3.lt1 b hb⟩
           have hBm9 : ∀ b, (reasm_Stream_Read.S b0 A8_w2 A8_w3) b → (fun _ => False) b ∨ w.heap.size ≤ b := fun b hb => by rcases hb with hb | hb | hb; exact hmc8 b hb; exact hmc8_2 b hb; exact hmc8_3 b hb
           have hjB9_o106 : ∀ b, blk (A8_0, 0, 0) b → ¬ (reasm_Stream_Read.S b0 A8_w2 A8_w3) b := fun b h0 hb => by rcases hb with hb | hb | hb; exact dk8_o106 b h0 hb; exact dr8_o106_2 b h0 hb; exact dr8_o106_3 b h0 hb
           refine ok_callo (reasm_Stream_Read.S b0 A8_w2 A8_w3) rfl hBv9 (fun L9 w9 g9 lt9 => ?_)
           refine (reasm_Stream_Read.c k _ q8 _ _ _ _ r16.2.1 (s9_0, q9) hr9  w9 (hWc8.later g9).bare' (hWc8_2.later g9).bare' (hWc8_3.later g9).bare' djc8_1_0 djc8_2_0 djc8_2_1).mono ?_
           rintro e w9' ⟨A9_w2, c9_w2, A9_w3, c9_w3, A9_0, c9_0, rfl, hf9, hWc9, hWc9_2, hWc9_3, djc9_1_0, djc9_2_0, djc9_2_1, hzc9_2, hzc9_3, hO9_0, dr9_o111_2, dr9_o111_3⟩
           refine ⟨((A9_0, s9_0.length, c9_0), ()), rfl, hf9, fun g9' hid9 hv9 => ?_⟩
           try dsimp only
           have dn9_2_o106 : Dj A9_w2 A8_0 := Dj.byB hzc9_2 hjB9_o106 (hO8_0.later g9).lt
           have dn9_3_o106 : Dj A9_w3 A8_0 := Dj.byB hzc9_3 hjB9_o106 (hO8_0.later g9).lt
           have dj_o111_o106 : Dj A9_0 A8_0 := Dj.new hO9_0.fresh (hO8_0.later g9).lt
           have dk9_o111 : Dj A9_0 b0 := Dj.new hO9_0.fresh (fun b hb => Nat.lt_of_lt_of_le (hBv9 b (Or.inl hb)).2 g9.size)
           have hmc9 := hmc8
           have hmc9_2 : ∀ b, blk (A9_w2, 0, 0) b → (fun _ => False) b ∨ w.heap.size ≤ b := fun b hb => (hzc9_2 b hb).elim (hBm9 b) (fun h => Or.inr (Nat.le_trans (hF.trans g9).size h))
           have hmc9_3 : ∀ b, blk (A9_w3, 0, 0) b → (fun _ => False) b ∨ w.heap.size ≤ b := fun b hb => (hzc9_3 b hb).elim (hBm9 b) (fun h => Or.inr (Nat.le_trans (hF.trans g9).size h))
           have hWc9 := hWc9.vis (fun b hb => hv9 b (Or.inl (Or.inl hb)))
           have hWc9_2 := hWc9_2.vis (fun b hb => hv9 b (hzc9_2 b hb))
           have hWc9_3 := hWc9_3.vis (fun b hb => hv9 b (hzc9_3 b hb))
           have hO9_0 := hO9_0.call (hF.trans g9).size lt9
           have hO8_0 := OwnF.others hO8_0 hjB9_o106 g9'
           have hF := Fine.own hF g9' hBm9 hid9
           obtain ⟨r10, hr10, h⟩ := Option.bind_eq_some_iff.1 h
           obtain ⟨v10_0, v10_1⟩ := r10
           try dsimp only at h
           refine ok_callm rfl (fun L10 w10 g10 lt10 => ?_)
           refine (reasm_Stream_End.c k _ (some q9) (v10_0, v10_1) hr10  w10 ((obr45 hWc9.sl hWc9_2.sl hWc9_3.sl).later g10).bare).mono ?_
           rintro e w10' ⟨rfl, hb10⟩
           refine ⟨(v10_0, v10_1, ()), rfl, hb10, fun g10' => ?_⟩
           try dsimp only
           have hF := hF.trans g10'
           have hO8_0 := hO8_0.later g10'
           have hO9_0 := hO9_0.later g10'
           have hWc9 := hWc9.later g10'
           have hWc9_2 := hWc9_2.later g10'
           have hWc9_3 := hWc9_3.later g10'
           refine ok_if (fun hc115 => ?_) (fun hc115 => ?_)
           ·have h := bif_t h hc115
            obtain ⟨v11_0, hr11, h⟩ := Option.bind_eq_some_iff.1 h
            refine ok_callm rfl (fun L11 w11 g11 lt11 => ?_)
            refine (reasm_Stream_Over.c k _ (some q9) v11_0 hr11  w11 ((obr45 hWc9.sl hWc9_2.sl hWc9_3.sl).later g11).bare).mono ?_
            rintro e w11' ⟨rfl, hb11⟩
            refine ⟨(v11_0, ()), rfl, hb11, fun g11' => ?_⟩
            try dsimp only
            have hF := hF.trans g11'
            have hO8_0 := hO8_0.later g11'
            have hO9_0 := hO9_0.later g11'
            have hWc9 := hWc9.later g11'
            have hWc9_2 := hWc9_2.later g11'
            have hWc9_3 := hWc9_3.later g11'
            refine ok_if (fun hc116 => ?_) (fun hc116 => ?_)
            ·have h := bif_t h hc116
             obtain ⟨v12_0, hr12, h⟩ := Option.bind_eq_some_iff.1 h
             refine ok_callm rfl (fun L12 w12 g12 lt12 => ?_)
             refine (reasm_Stream_At.c k _ (some q9) v12_0 hr12  w12 ((obr45 hWc9.sl hWc9_2.sl hWc9_3.sl).later g12).bare).mono ?_
             rintro e w12' ⟨rfl, hb12⟩
             refine ⟨(v12_0, ()), rfl, hb12, fun g12' => ?_⟩
             try dsimp only
             have hF := hF.trans g12'
             have hO8_0 := hO8_0.later g12'
             have hO9_0 := hO9_0.later g12'
             have hWc9 := hWc9.later g12'
             have hWc9_2 := hWc9_2.later g12'
             have hWc9_3 := hWc9_3.later g12'
             refine ok_if (fun hc117 => ?_) (fun hc117 => ?_)
             ·have h := bif_t h hc117
              obtain rfl := Option.some.inj h
              obtain rfl := hr_2 _ rfl
              intro ρ L w' _ he _ _
              exact ⟨rfl, (hF.ext he).below⟩
             ·have h := bif_f h hc117
              obtain ⟨v13_0, hr13, h⟩ := Option.bind_eq_some_iff.1 h
              refine ok_callm rfl (fun L13 w13 g13 lt13 => ?_)
              refine (reasm_Stream_Broken.c k _ (some q9) v13_0 hr13  w13 ((obr45 hWc9.sl hWc9_2.sl hWc9_3.sl).later g13).bare).mono ?_
              rintro e w13' ⟨rfl, hb13⟩
              refine ⟨(v13_0, ()), rfl, hb13, fun g13' => ?_⟩
              try dsimp only
              have hF := hF.trans g13'
              have hO8_0 := hO8_0.later g13'
              have hO9_0 := hO9_0.later g13'
              have hWc9 := hWc9.later g13'
              have hWc9_2 := hWc9_2.later g13'
              have hWc9_3 := hWc9_3.later g13'
              refine ok_if (fun hc118 => ?_) (fun hc118 => ?_)
              ·have h := bif_t h hc118
               refine ok_if (fun hc119 => ?_) (fun hc119 => ?_)
               ·have h := bif_t h hc119
                obtain rfl := Option.some.inj h
                obtain rfl := hr_2 _ rfl
                intro ρ L w' _ he _ _
                exact ⟨rfl, (hF.ext he).below⟩
               ·have h := bif_f h hc119
                obtain rfl := Option.some.inj h
                have h := hl2 _ rfl
                exact ok_again (I := I2) m2 (Nat.lt_succ_self _) (fun L w' he => by rw [hI2]; exact ⟨_, q9, A9_w2, c9_w2, A9_w3, c9_w3, rfl, h, hF.trans he.fine, hWc9.later he.fine, hWc9_2.later he.fine, hWc9_3.later he.fine, djc9_1_0, djc9_2_0, djc9_2_1, hmc9_2, hmc9_3⟩)
              ·have h := bif_f h hc118
               obtain rfl := Option.some.inj h
               obtain rfl := hr_2 _ rfl
               intro ρ L w' _ he _ _
               exact ⟨rfl, (hF.ext he).below⟩
            ·have h := bif_f h hc116
             obtain rfl := Option.some.inj h
             obtain rfl := hr_2 _ rfl
             intro ρ L w' _ he _ _
             exact ⟨rfl, (hF.ext he).below⟩
           ·have h := bif_f h hc115
            obtain ⟨v11_0, hr11, h⟩ := Option.bind_eq_some_iff.1 h
            refine ok_callm rfl (fun L11 w11 g11 lt11 => ?_)
            refine (reasm_Stream_Over.c k _ (some q9) v11_0 hr11  w11 ((obr45 hWc9.sl hWc9_2.sl hWc9_3.sl).later g11).bare).mono ?_
            rintro e w11' ⟨rfl, hb11⟩
            refine ⟨(v11_0, ()), rfl, hb11, fun g11' => ?_⟩
            try dsimp only
            have hF := hF.trans g11'
            have hO8_0 := hO8_0.later g11'
            have hO9_0 := hO9_0.later g11'
            have hWc9 := hWc9.later g11'
            have hWc9_2 := hWc9_2.later g11'
            have hWc9_3 := hWc9_3.later g11'
            refine ok_if (fun hc120 => ?_) (fun hc120 => ?_)
            ·have h := bif_t h hc120
             obtain ⟨v12_0, hr12, h⟩ := Option.bind_eq_some_iff.1 h
             refine ok_callm rfl (fun L12 w12 g12 lt12 => ?_)
             refine (reasm_Stream_At.c k _ (some q9) v12_0 hr12  w12 ((obr45 hWc9.sl hWc9_2.sl hWc9_3.sl).later g12).bare).mono ?_
             rintro e w12' ⟨rfl, hb12⟩
             refine ⟨(v12_0, ()), rfl, hb12, fun g12' => ?_⟩
             try dsimp only
             have hF := hF.trans g12'
             have hO8_0 := hO8_0.later g12'
             have hO9_0 := hO9_0.later g12'
             have hWc9 := hWc9.later g12'
             have hWc9_2 := hWc9_2.later g12'
             have hWc9_3 := hWc9_3.later g12'
             refine ok_if (fun hc121 => ?_) (fun hc121 => ?_)
             ·have h := bif_t h hc121
              obtain rfl := Option.some.inj h
              obtain rfl := hr_2 _ rfl
              intro ρ L w' _ he _ _
              exact ⟨rfl, (hF.ext he).below⟩
             ·have h := bif_f h hc121
              obtain ⟨v13_0, hr13, h⟩ := Option.bind_eq_some_iff.1 h
              refine ok_callm rfl (fun L13 w13 g13 lt13 => ?_)
              refine (reasm_Stream_Broken.c k _ (some q9) v13_0 hr13  w13 ((obr45 hWc9.sl hWc9_2.sl hWc9_3.sl).later g13).bare).mono ?_
              rintro e w13' ⟨rfl, hb13⟩
              refine ⟨(v13_0, ()), rfl, hb13, fun g13' => ?_⟩
              try dsimp only
              have hF := hF.trans g13'
              have hO8_0 := hO8_0.later g13'
              have hO9_0 := hO9_0.later g13'
              have hWc9 := hWc9.later g13'
              have hWc9_2 := hWc9_2.later g13'
              have hWc9_3 := hWc9_3.later g13'
              refine ok_if (fun hc122 => ?_) (fun hc122 => ?_)
              ·have h := bif_t h hc122
               refine ok_if (fun hc123 => ?_) (fun hc123 => ?_)
               ·have h := bif_t h hc123
                obtain rfl := Option.some.inj h
                obtain rfl := hr_2 _ rfl
                intro ρ L w' _ he _ _
                exact ⟨rfl, (hF.ext he).below⟩
               ·have h := bif_f h hc123
                obtain rfl := Option.some.inj h
                obtain rfl := hr_2 _ rfl
                intro ρ L w' _ he _ _
                exact ⟨rfl, (hF.ext he).below⟩
              ·have h := bif_f h hc122
               obtain rfl := Option.some.inj h
               obtain rfl := hr_2 _ rfl
               intro ρ L w' _ he _ _
               exact ⟨rfl, (hF.ext he).below⟩
            ·have h := bif_f h hc120
             obtain rfl := Option.some.inj h
             obtain rfl := hr_2 _ rfl
             intro ρ L w' _ he _ _
             exact ⟨rfl, (hF.ext he).below⟩
         ·have h := bif_f h hc105
          obtain ⟨r8, hr8, h⟩ := Option.bind_eq_some_iff.1 h
          obtain ⟨v8_0, q8⟩ := r8
          try dsimp only at h
          have hBv8 : ∀ b, (reasm_Stream_Reset.S b0 A2_b0_2 A2_b0_3) b → ¬ _ ∧ b < _ := fun b hb => by rcases hb with hb | hb | hb; exact ⟨(hW2_b0.lt b hb).2.1, hW2_b0.lt1 b hb⟩; exact ⟨(hW2_b0_2.lt b hb).2.1, hW2_b0_2.lt1 b hb⟩; exact ⟨(hW2_b0_3.lt b hb).2.1, hW2_b0_3.lt1 b hb⟩
          have hBm8 : ∀ b, (reasm_Stream_Reset.S b0 A2_b0_2 A2_b0_3) b → (fun _ => False) b ∨ w.heap.size ≤ b := fun b hb => by rcases hb with hb | hb | hb; exact hmn0 b hb; exact hm2_b0_2 b hb; exact hm2_b0_3 b hb
          refine ok_callo (reasm_Stream_Reset.S b0 A2_b0_2 A2_b0_3) rfl hBv8 (fun L8 w8 g8 lt8 => ?_)
          refine (reasm_Stream_Reset.c k _ q2_b0 _ _ _ _ r16.2.1 (v8_0, q8) hr8  w8 (hW2_b0.later g8).bare' (hW2_b0_2.later g8).bare' (hW2_b0_3.later g8).bare' dj_w13_w12 dj_w14_w12 dj_w14_w13).mono ?_
          rintro e w8' ⟨A8_w2, c8_w2, A8_w3, c8_w3, rfl, hf8, hWc8, hWc8_2, hWc8_3, djc8_1_0, djc8_2_0, djc8_2_1, hzc8_2, hzc8_3⟩
          refine ⟨(v8_0, ()), rfl, hf8, fun g8' hid8 hv8 => ?_⟩
          try dsimp only
          have hmc8 := hmn0
          have hmc8_2 : ∀ b, blk (A8_w2, 0, 0) b → (fun _ => False) b ∨ w.heap.size ≤ b := fun b hb => (hzc8_2 b hb).elim (hBm8 b) (fun h => Or.inr (Nat.le_trans (hF.trans g8).size h))
          have hmc8_3 : ∀ b, blk (A8_w3, 0, 0) b → (fun _ => False) b ∨ w.heap.size ≤ b := fun b hb => (hzc8_3 b hb).elim (hBm8 b) (fun h => Or.inr (Nat.le_trans (hF.trans g8).size h))
          have hWc8 := hWc8.vis (fun b hb => hv8 b (Or.inl (Or.inl hb)))
          have hWc8_2 := hWc8_2.vis (fun b hb => hv8 b (hzc8_2 b hb))
          have hWc8_3 := hWc8_3.vis (fun b hb => hv8 b (hzc8_3 b hb))
          have hF := Fine.own hF g8' hBm8 hid8
          obtain ⟨r9, hr9, h⟩ := Option.bind_eq_some_iff.1 h
          obtain ⟨v9_0, v9_1⟩ := r9
          try dsimp only at h
          refine ok_callm rfl (fun L9 w9 g9 lt9 => ?_)
          refine (reasm_Stream_End.c k _ (some q8) (v9_0, v9_1) hr9  w9 ((obr45 hWc8.sl hWc8_2.sl hWc8_3.sl).later g9).bare).mono ?_
          rintro e w9' ⟨rfl, hb9⟩
          refine ⟨(v9_0, v9_1, ()), rfl, hb9, fun g9' => ?_⟩
          try dsimp only
          have hF := hF.trans g9'
          have hWc8 := hWc8.later g9'
          have hWc8_2 := hWc8_2.later g9'
          have hWc8_3 := hWc8_3.later g9'
          refine ok_if (fun hc127 => ?_) (fun hc127 => ?_)
          ·have h := bif_t h hc127
           obtain ⟨v10_0, hr10, h⟩ := Option.bind_eq_some_iff.1 h
           refine ok_callm rfl (fun L10 w10 g10 lt10 => ?_)
           refine (reasm_Stream_Over.c k _ (some q8) v10_0 hr10  w10 ((obr45 hWc8.sl hWc8_2.sl hWc8_3.sl).later g10).bare).mono ?_
           rintro e w10' ⟨rfl, hb10⟩
           refine ⟨(v10_0, ()), rfl, hb10, fun g10' => ?_⟩
           try dsimp only
           have hF := hF.trans g10'
           have hWc8 := hWc8.later g10'
           have hWc8_2 := hWc8_2.later g10'
           have hWc8_3 := hWc8_3.later g10'
           refine ok_if (fun hc128 => ?_) (fun hc128 => ?_)
           ·have h := bif_t h hc128
            obtain ⟨v11_0, hr11, h⟩ := Option.bind_eq_some_iff.1 h
            refine ok_callm rfl (fun L11 w11 g11 lt11 => ?_)
            refine (reasm_Stream_At.c k _ (some q8) v11_0 hr11  w11 ((obr45 hWc8.sl hWc8_2.sl hWc8_3.sl).later g11).bare).mono ?_
            rintro e w11' ⟨rfl, hb11⟩
            refine ⟨(v11_0, ()), rfl, hb11, fun g11' => ?_⟩
            try dsimp only
            have hF := hF.trans g11'
            have hWc8 := hWc8.later g11'
            have hWc8_2 := hWc8_2.later g11'
            have hWc8_3 := hWc8_3.later g11'
            refine ok_if (fun hc129 => ?_) (fun hc129 => ?_)
            ·have h := bif_t h hc129
             obtain rfl := Option.some.inj h
             obtain rfl := hr_2 _ rfl
             intro ρ L w' _ he _ _
             exact ⟨rfl, (hF.ext he).below⟩
            ·have h := bif_f h hc129
             obtain ⟨v12_0, hr12, h⟩ := Option.bind_eq_some_iff.1 h
             refine ok_callm rfl (fun L12 w12 g12 lt12 => ?_)
             refine (reasm_Stream_Broken.c k _ (some q8) v12_0 hr12  w12 ((obr45 hWc8.sl hWc8_2.sl hWc8_3.sl).later g12).bare).mono ?_
             rintro e w12' ⟨rfl, hb12⟩
             refine ⟨(v12_0, ()), rfl, hb12, fun g12' => ?_⟩
             try dsimp only
             have hF := hF.trans g12'
             have hWc8 := hWc8.later g12'
             have hWc8_2 := hWc8_2.later g12'
             have hWc8_3 := hWc8_3.later g12'
             refine ok_if (fun hc130 => ?_) (fun hc130 => ?_)
             ·have h := bif_t h hc130
              refine ok_if (fun hc131 => ?_) (fun hc131 => ?_)
              ·have h := bif_t h hc131
               obtain rfl := Option.some.inj h
               obtain rfl := hr_2 _ rfl
               intro ρ L w' _ he _ _
               exact ⟨rfl, (hF.ext he).below⟩
              ·have h := bif_f h hc131
               obtain rfl := Option.some.inj h
               have h := hl2 _ rfl
               exact ok_again (I := I2) m2 (Nat.lt_succ_self _) (fun L w' he => by rw [hI2]; exact ⟨_, q8, A8_w2, c8_w2, A8_w3, c8_w3, rfl, h, hF.trans he.fine, hWc8.later he.fine, hWc8_2.later he.fine, hWc8_3.later he.fine, djc8_1_0, djc8_2_0, djc8_2_1, hmc8_2, hmc8_3⟩)
             ·have h := bif_f h hc130
              obtain rfl := Option.some.inj h
              obtain rfl := hr_2 _ rfl
              intro ρ L w' _ he _ _
              exact ⟨rfl, (hF.ext he).below⟩
           ·have h := bif_f h hc128
            obtain rfl := Option.some.inj h
            obtain rfl := hr_2 _ rfl
            intro ρ L w' _ he _ _
            exact ⟨rfl, (hF.ext he).below⟩
          ·have h := bif_f h hc127
           obtain ⟨v10_0, hr10, h⟩ := Option.bind_eq_some_iff.1 h
           refine ok_callm rfl (fun L10 w10 g10 lt10 => ?_)
           refine (reasm_Stream_Over.c k _ (some q8) v10_0 hr10  w10 ((obr45 hWc8.sl hWc8_2.sl hWc8_3.sl).later g10).bare).mono ?_
           rintro e w10' ⟨rfl, hb10⟩
           refine ⟨(v10_0, ()), rfl, hb10, fun g10' => ?_⟩
           try dsimp only
           have hF := hF.trans g10'
           have hWc8 := hWc8.later g10'
           have hWc8_2 := hWc8_2.later g10'
           have hWc8_3 := hWc8_3.later g10'
           refine ok_if (fun hc132 => ?_) (fun hc132 => ?_)
           ·have h := bif_t h hc132
            obtain ⟨v11_0, hr11, h⟩ := Option.bind_eq_some_iff.1 h
            refine ok_callm rfl (fun L11 w11 g11 lt11 => ?_)
            refine (reasm_Stream_At.c k _ (some q8) v11_0 hr11  w11 ((obr45 hWc8.sl hWc8_2.sl hWc8_3.sl).later g11).bare).mono ?_
            rintro e w11' ⟨rfl, hb11⟩
            refine ⟨(v11_0, ()), rfl, hb11, fun g11' => ?_⟩
            try dsimp only
            have hF := hF.trans g11'
            have hWc8 := hWc8.later g11'
            have hWc8_2 := hWc8_2.later g11'
            have hWc8_3 := hWc8_3.later g11'
            refine ok_if (fun hc133 => ?_) (fun hc133 => ?_)
            ·have h := bif_t h hc133
             obtain rfl := Option.some.inj h
             obtain rfl := hr_2 _ rfl
             intro ρ L w' _ he _ _
             exact ⟨rfl, (hF.ext he).below⟩
            ·have h := bif_f h hc133
             obtain ⟨v12_0, hr12, h⟩ := Option.bind_eq_some_iff.1 h
             refine ok_callm rfl (fun L12 w12 g12 lt12 => ?_)
             refine (reasm_Stream_Broken.c k _ (some q8) v12_0 hr12  w12 ((obr45 hWc8.sl hWc8_2.sl hWc8_3.sl).later g12).bare).mono ?_
             rintro e w12' ⟨rfl, hb12⟩
             refine ⟨(v12_0, ()), rfl, hb12, fun g12' => ?_⟩
             try dsimp only
             have hF := hF.trans g12'
             have hWc8 := hWc8.later g12'
             have hWc8_2 := hWc8_2.later g12'
             have hWc8_3 := hWc8_3.later g12'
             refine ok_if (fun hc134 => ?_) (fun hc134 => ?_)
             ·have h := bif_t h hc134
              refine ok_if (fun hc135 => ?_) (fun hc135 => ?_)
              ·have h := bif_t h hc135
               obtain rfl := Option.some.inj h
               obtain rfl := hr_2 _ rfl
               intro ρ L w' _ he _ _
               exact ⟨rfl, (hF.ext he).below⟩
              ·have h := bif_f h hc135
               obtain rfl := Option.some.inj h
               obtain rfl := hr_2 _ rfl
               intro ρ L w' _ he _ _
               exact ⟨rfl, (hF.ext he).below⟩
             ·have h := bif_f h hc134
              obtain rfl := Option.some.inj h
              obtain rfl := hr_2 _ rfl
              intro ρ L w' _ he _ _
              exact ⟨rfl, (hF.ext he).below⟩
           ·have h := bif_f h hc132
            obtain rfl := Option.some.inj h
            obtain rfl := hr_2 _ rfl
            intro ρ L w' _ he _ _
            exact ⟨rfl, (hF.ext he).below⟩
      ·have h := bif_f h hc20
       obtain ⟨r7, hr7, h⟩ := Option.bind_eq_some_iff.1 h
       obtain ⟨v7_0, v7_1⟩ := r7
       try dsimp only at h
       refine ok_callm rfl (fun L7 w7 g7 lt7 => ?_)
       refine (reasm_Stream_End.c k _ (some q2_b0) (v7_0, v7_1) hr7  w7 ((obr45 hW2_b0.sl hW2_b0_2.sl hW2_b0_3.sl).later g7).bare).mono ?_
       rintro e w7' ⟨rfl, hb7⟩
       refine ⟨(v7_0, v7_1, ()), rfl, hb7, fun g7' => ?_⟩
       try dsimp only
       have hF := hF.trans g7'
       have hW2_b0 := hW2_b0.later g7'
       have hW2_b0_2 := hW2_b0_2.later g7'
       have hW2_b0_3 := hW2_b0_3.later g7'
       refine ok_if (fun hc136 => ?_) (fun hc136 => ?_)
       ·have h := bif_t h hc136
        refine ok_need rfl ?_
        refine ok_if (fun hc137 => ?_) (fun hc137 => ?_)
        ·have h := bif_t h hc137
         refine ok_if (fun hc138 => ?_) (fun hc138 => ?_)
         ·have h := bif_t h hc138
          obtain ⟨r8, hr8, h⟩ := Option.bind_eq_some_iff.1 h
          obtain ⟨v8_0, q8⟩ := r8
          try dsimp only at h
          have hBv8 : ∀ b, (reasm_Stream_Data.S b0 A2_b0_2 A2_b0_3) b → ¬ _ ∧ b < _ := fun b hb => by rcases hb with hb | hb | hb; exact ⟨(hW2_b0.lt b hb).2.1, hW2_b0.lt1 b hb⟩; exact ⟨(hW2_b0_2.lt b hb).2.1, hW2_b0_2.lt1 b hb⟩; exact ⟨(hW2_b0_3.lt b hb).2.1, hW2_b0_3.lt1 b hb⟩
          have hBm8 : ∀ b, (reasm_Stream_Data.S b0 A2_b0_2 A2_b0_3) b → (fun _ => False) b ∨ w.heap.size ≤ b := fun b hb => by rcases hb with hb | hb | hb; exact hmn0 b hb; exact hm2_b0_2 b hb; exact hm2_b0_3 b hb
          refine ok_callo (reasm_Stream_Data.S b0 A2_b0_2 A2_b0_3) rfl hBv8 (fun L8 w8 g8 lt8 => ?_)
          refine (reasm_Stream_Data.c k _ q2_b0 _ _ _ _ r16.2.1 _ _ _ r16.2.2.1 true (v8_0, q8) hr8 rfl w8 (hW2_b0.later g8).bare' (hW2_b0_2.later g8).bare' (hW2_b0_3.later g8).bare' dj_w13_w12 dj_w14_w12 dj_w14_w13 (hE3_2.later ((hF.trans g8).with hBm8))).mono ?_
          rintro e w8' ⟨A8_w2, c8_w2, A8_w3, c8_w3, rfl, hf8, hWc8, hWc8_2, hWc8_3, djc8_1_0, djc8_2_0, djc8_2_1, hzc8_2, hzc8_3⟩
          refine ⟨(v8_0, ()), rfl, hf8, fun g8' hid8 hv8 => ?_⟩
          try dsimp only
          have hmc8 := hmn0
          have hmc8_2 : ∀ b, blk (A8_w2, 0, 0) b → (fun _ => False) b ∨ w.heap.size ≤ b := fun b hb => (hzc8_2 b hb).elim (hBm8 b) (fun h => Or.inr (Nat.le_trans (hF.trans g8).size h))
          have hmc8_3 : ∀ b, blk (A8_w3, 0, 0) b → (fun _ => False) b ∨ w.heap.size ≤ b := fun b hb => (hzc8_3 b hb).elim (hBm8 b) (fun h => Or.inr (Nat.le_trans (hF.trans g8).size h))
          have hWc8 := hWc8.vis (fun b hb => hv8 b (Or.inl (Or.inl hb)))
          have hWc8_2 := hWc8_2.vis (fun b hb => hv8 b (hzc8_2 b hb))
          have hWc8_3 := hWc8_3.vis (fun b hb => hv8 b (hzc8_3 b hb))
          have hF := Fine.own hF g8' hBm8 hid8
          obtain ⟨r9, hr9, h⟩ := Option.bind_eq_some_iff.1 h
          obtain ⟨v9_0, v9_1⟩ := r9
          try dsimp only at h
          refine ok_callm rfl (fun L9 w9 g9 lt9 => ?_)
          refine (reasm_Stream_End.c k _ (some q8) (v9_0, v9_1) hr9  w9 ((obr45 hWc8.sl hWc8_2.sl hWc8_3.sl).later g9).bare).mono ?_
          rintro e w9' ⟨rfl, hb9⟩
          refine ⟨(v9_0, v9_1, ()), rfl, hb9, fun g9' => ?_⟩
          try dsimp only
          have hF := hF.trans g9'
          have hWc8 := hWc8.later g9'
          have hWc8_2 := hWc8_2.later g9'
          have hWc8_3 := hWc8_3.later g9'
          refine ok_if (fun hc142 => ?_) (fun hc142 => ?_)
          ·have h := bif_t h hc142
           obtain ⟨v10_0, hr10, h⟩ := Option.bind_eq_some_iff.1 h
           refine ok_callm rfl (fun L10 w10 g10 lt10 => ?_)
           refine (reasm_Stream_Over.c k _ (some q8) v10_0 hr10  w10 ((obr45 hWc8.sl hWc8_2.sl hWc8_3.sl).later g10).bare).mono ?_
           rintro e w10' ⟨rfl, hb10⟩
           refine ⟨(v10_0, ()), rfl, hb10, fun g10' => ?_⟩
           try dsimp only
           have hF := hF.trans g10'
           have hWc8 := hWc8.later g10'
           have hWc8_2 := hWc8_2.later g10'
           have hWc8_3 := hWc8_3.later g10'
           refine ok_if (fun hc143 => ?_) (fun hc143 => ?_)
           ·have h := bif_t h hc143
            obtain ⟨v11_0, hr11, h⟩ := Option.bind_eq_some_iff.1 h
            refine ok_callm rfl (fun L11 w11 g11 lt11 => ?_)
            refine (reasm_Stream_At.c k _ (some q8) v11_0 hr11  w11 ((obr45 hWc8.sl hWc8_2.sl hWc8_3.sl).later g11).bare).mono ?_
            rintro e w11' ⟨rfl, hb11⟩
            refine ⟨(v11_0, ()), rfl, hb11, fun g11' => ?_⟩
            try dsimp only
            have hF := hF.trans g11'
            have hWc8 := hWc8.later g11'
            have hWc8_2 := hWc8_2.later g11'
            have hWc8_3 := hWc8_3.later g11'
            refine ok_if (fun hc144 => ?_) (fun hc144 => ?_)
            ·have h := bif_t h hc144
             obtain rfl := Option.some.inj h
             obtain rfl := hr_2 _ rfl
             intro ρ L w' _ he _ _
             exact ⟨rfl, (hF.ext he).below⟩
            ·have h := bif_f h hc144
             obtain ⟨v12_0, hr12, h⟩ := Option.bind_eq_some_iff.1 h
             refine ok_callm rfl (fun L12 w12 g12 lt12 => ?_)
             refine (reasm_Stream_Broken.c k _ (some q8) v12_0 hr12  w12 ((obr45 hWc8.sl hWc8_2.sl hWc8_3.sl).later g12).bare).mono ?_
             rintro e w12' ⟨rfl, hb12⟩
             refine ⟨(v12_0, ()), rfl, hb12, fun g12' => ?_⟩
             try dsimp only
             have hF := hF.trans g12'
             have hWc8 := hWc8.later g12'
             have hWc8_2 := hWc8_2.later g12'
             have hWc8_3 := hWc8_3.later g12'
             refine ok_if (fun hc145 => ?_) (fun hc145 => ?_)
             ·have h := bif_t h hc145
              obtain rfl := Option.some.inj h
              obtain rfl := hr_2 _ rfl
              intro ρ L w' _ he _ _
              exact ⟨rfl, (hF.ext he).below⟩
             ·have h := bif_f h hc145
              refine ok_if (fun hc146 => ?_) (fun hc146 => ?_)
              ·have h := bif_t h hc146
               obtain rfl := Option.some.inj h
               obtain rfl := hr_2 _ rfl
               intro ρ L w' _ he _ _
               exact ⟨rfl, (hF.ext he).below⟩
              ·have h := bif_f h hc146
               obtain rfl := Option.some.inj h
               have h := hl2 _ rfl
               exact ok_again (I := I2) m2 (Nat.lt_succ_self _) (fun L w' he => by rw [hI2]; exact ⟨_, q8, A8_w2, c8_w2, A8_w3, c8_w3, rfl, h, hF.trans he.fine, hWc8.later he.fine, hWc8_2.later he.fine, hWc8_3.later he.fine, djc8_1_0, djc8_2_0, djc8_2_1, hmc8_2, hmc8_3⟩)
           ·have h := bif_f h hc143
            obtain rfl := Option.some.inj h
            obtain rfl := hr_2 _ rfl
            intro ρ L w' _ he _ _
            exact ⟨rfl, (hF.ext he).below⟩
          ·have h := bif_f h hc142
           obtain ⟨v10_0, hr10, h⟩ := Option.bind_eq_some_iff.1 h
           refine ok_callm rfl (fun L10 w10 g10 lt10 => ?_)
           refine (reasm_Stream_Over.c k _ (some q8) v10_0 hr10  w10 ((obr45 hWc8.sl hWc8_2.sl hWc8_3.sl).later g10).bare).mono ?_
           rintro e w10' ⟨rfl, hb10⟩
           refine ⟨(v10_0, ()), rfl, hb10, fun g10' => ?_⟩
           try dsimp only
           have hF := hF.trans g10'
           have hWc8 := hWc8.later g10'
           have hWc8_2 := hWc8_2.later g10'
           have hWc8_3 := hWc8_3.later g10'
           refine ok_if (fun hc147 => ?_) (fun hc147 => ?_)
           ·have h := bif_t h hc147
            obtain ⟨v11_0, hr11, h⟩ := Option.bind_eq_some_iff.1 h
            refine ok_callm rfl (fun L11 w11 g11 lt11 => ?_)
            refine (reasm_Stream_At.c k _ (some q8) v11_0 hr11  w11 ((obr45 hWc8.sl hWc8_2.sl hWc8_3.sl).later g11).bare).mono ?_
            rintro e w11' ⟨rfl, hb11⟩
            refine ⟨(v11_0, ()), rfl, hb11, fun g11' => ?_⟩
            try dsimp only
            have hF := hF.trans g11'
            have hWc8 := hWc8.later g11'
            have hWc8_2 := hWc8_2.later g11'
            have hWc8_3 := hWc8_3.later g11'
            refine ok_if (fun hc148 => ?_) (fun hc148 => ?_)
            ·have h := bif_t h hc148
             obtain rfl := Option.some.inj h
             obtain rfl := hr_2 _ rfl
             intro ρ L w' _ he _ _
             exact ⟨rfl, (hF.ext he).below⟩
            ·have h := bif_f h hc148
             obtain ⟨v12_0, hr12, h⟩ := Option.bind_eq_some_iff.1 h
             refine ok_callm rfl (fun L12 w12 g12 lt12 => ?_)
             refine (reasm_Stream_Broken.c k _ (some q8) v12_0 hr12  w12 ((obr45 hWc8.sl hWc8_2.sl hWc8_3.sl).later g12).bare).mono ?_
             rintro e w12' ⟨rfl, hb12⟩
             refine ⟨(v12_0, ()), rfl, hb12, fun g12' => ?_⟩
             try dsimp only
             have hF := hF.trans g12'
             have hWc8 := hWc8.later g12'
             have hWc8_2 := hWc8_2.later g12'
             have hWc8_3 := hWc8_3.later g12'
             refine ok_if (fun hc149 => ?_) (fun hc149 => ?_)
             ·have h := bif_t h hc149
              obtain rfl := Option.some.inj h
              obtain rfl := hr_2 _ rfl
              intro ρ L w' _ he _ _
              exact ⟨rfl, (hF.ext he).below⟩
             ·have h := bif_f h hc149
              refine ok_if (fun hc150 => ?_) (fun hc150 => ?_)
              ·have h := bif_t h hc150
               obtain rfl := Option.some.inj h
               obtain rfl := hr_2 _ rfl
               intro ρ L w' _ he _ _
               exact ⟨rfl, (hF.ext he).below⟩
              ·have h := bif_f h hc150
               obtain rfl := Option.some.inj h
               obtain rfl := hr_2 _ rfl
               intro ρ L w' _ he _ _
               exact ⟨rfl, (hF.ext he).below⟩
           ·have h := bif_f h hc147
            obtain rfl := Option.some.inj h
            obtain rfl := hr_2 _ rfl
            intro ρ L w' _ he _ _
            exact ⟨rfl, (hF.ext he).below⟩
         ·have h := bif_f h hc138
          obtain ⟨r8, hr8, h⟩ := Option.bind_eq_some_iff.1 h
          obtain ⟨v8_0, q8⟩ := r8
          try dsimp only at h
          have hBv8 : ∀ b, (reasm_Stream_Data.S b0 A2_b0_2 A2_b0_3) b → ¬ _ ∧ b < _ := fun b hb => by rcases hb with hb | hb | hb; exact ⟨(hW2_b0.lt b hb).2.1, hW2_b0.lt1 b hb⟩; exact ⟨(hW2_b0_2.lt b hb).2.1, hW2_b0_2.lt1 b hb⟩; exact ⟨(hW2_b0_3.lt b hb).2.1, hW2_b0_3.lt1 b hb⟩
          have hBm8 : ∀ b, (reasm_Stream_Data.S b0 A2_b0_2 A2_b0_3) b → (fun _ => False) b ∨ w.heap.size ≤ b := fun b hb => by rcases hb with hb | hb | hb; exact hmn0 b hb; exact hm2_b0_2 b hb; exact hm2_b0_3 b hb
          refine ok_callo (reasm_Stream_Data.S b0 A2_b0_2 A2_b0_3) rfl hBv8 (fun L8 w8 g8 lt8 => ?_)
          refine (reasm_Stream_Data.c k _ q2_b0 _ _ _ _ r16.2.1 _ _ _ r16.2.2.1 false (v8_0, q8) hr8 rfl w8 (hW2_b0.later g8).bare' (hW2_b0_2.later g8).bare' (hW2_b0_3.later g8).bare' dj_w13_w12 dj_w14_w12 dj_w14_w13 (hE3_2.later ((hF.trans g8).with hBm8))).mono ?_
          rintro e w8' ⟨A8_w2, c8_w2, A8_w3, c8_w3, rfl, hf8, hWc8, hWc8_2, hWc8_3, djc8_1_0, djc8_2_0, djc8_2_1, hzc8_2, hzc8_3⟩
          refine ⟨(v8_0, ()), rfl, hf8, fun g8' hid8 hv8 => ?_⟩
          try dsimp only
          have hmc8 := hmn0
          have hmc8_2 : ∀ b, blk (A8_w2, 0, 0) b → (fun _ => False) b ∨ w.heap.size ≤ b := fun b hb => (hzc8_2 b hb).elim (hBm8 b) (fun h => Or.inr (Nat.le_trans (hF.trans g8).size h))
          have hmc8_3 : ∀ b, blk (A8_w3, 0, 0) b → (fun _ => False) b ∨ w.heap.size ≤ b := fun b hb => (hzc8_3 b hb).elim (hBm8 b) (fun h => Or.inr (Nat.le_trans (hF.trans g8).size h))
          have hWc8 := hWc8.vis (fun b hb => hv8 b (Or.inl (Or.inl hb)))
          have hWc8_2 := hWc8_2.vis (fun b hb => hv8 b (hzc8_2 b hb))
          have hWc8_3 := hWc8_3.vis (fun b hb => hv8 b (hzc8_3 b hb))
          have hF := Fine.own hF g8' hBm8 hid8
          obtain ⟨r9, hr9, h⟩ := Option.bind_eq_some_iff.1 h
          obtain ⟨v9_0, v9_1⟩ := r9
          try dsimp only at h
          refine ok_callm rfl (fun L9 w9 g9 lt9 => ?_)
          refine (reasm_Stream_End.c k _ (some q8) (v9_0, v9_1) hr9  w9 ((obr45 hWc8.sl hWc8_2.sl hWc8_3.sl).later g9).bare).mono ?_
          rintro e w9' ⟨rfl, hb9⟩
          refine ⟨(v9_0, v9_1, ()), rfl, hb9, fun g9' => ?_⟩
          try dsimp only
          have hF := hF.trans g9'
          have hWc8 := hWc8.later g9'
          have hWc8_2 := hWc8_2.later g9'
          have hWc8_3 := hWc8_3.later g9'
          refine ok_if (fun hc154 => ?_) (fun hc154 => ?_)
          ·have h := bif_t h hc154
           obtain ⟨v10_0, hr10, h⟩ := Option.bind_eq_some_iff.1 h
           refine ok_callm rfl (fun L10 w10 g10 lt10 => ?_)
           refine (reasm_Stream_Over.c k _ (some q8) v10_0 hr10  w10 ((obr45 hWc8.sl hWc8_2.sl hWc8_3.sl).later g10).bare).mono ?_
           rintro e w10' ⟨rfl, hb10⟩
           refine ⟨(v10_0, ()), rfl, hb10, fun g10' => ?_⟩
           try dsimp only
           have hF := hF.trans g10'
           have hWc8 := hWc8.later g10'
           have hWc8_2 := hWc8_2.later g10'
           have hWc8_3 := hWc8_3.later g10'
           refine ok_if (fun hc155 => ?_) (fun hc155 => ?_)
           ·have h := bif_t h hc155
            obtain ⟨v11_0, hr11, h⟩ := Option.bind_eq_some_iff.1 h
            refine ok_callm rfl (fun L11 w11 g11 lt11 => ?_)
            refine (reasm_Stream_At.c k _ (some q8) v11_0 hr11  w11 ((obr45 hWc8.sl hWc8_2.sl hWc8_3.sl).later g11).bare).mono ?_
            rintro e w11' ⟨rfl, hb11⟩
            refine ⟨(v11_0, ()), rfl, hb11, fun g11' => ?_⟩
            try dsimp only
            have hF := hF.trans g11'
            have hWc8 := hWc8.later g11'
            have hWc8_2 := hWc8_2.later g11'
            have hWc8_3 := hWc8_3.later g11'
            refine ok_if (fun hc156 => ?_) (fun hc156 => ?_)
            ·have h := bif_t h hc156
             obtain rfl := Option.some.inj h
             obtain rfl := hr_2 _ rfl
             intro ρ L w' _ he _ _
             exact ⟨rfl, (hF.ext he).below⟩
            ·have h := bif_f h hc156
             obtain ⟨v12_0, hr12, h⟩ := Option.bind_eq_some_iff.1 h
             refine ok_callm rfl (fun L12 w12 g12 lt12 => ?_)
             refine (reasm_Stream_Broken.c k _ (some q8) v12_0 hr12  w12 ((obr45 hWc8.sl hWc8_2.sl hWc8_3.sl).later g12).bare).mono ?_
             rintro e w12' ⟨rfl, hb12⟩
             refine ⟨(v12_0, ()), rfl, hb12, fun g12' => ?_⟩
             try dsimp only
             have hF := hF.trans g12'
             have hWc8 := hWc8.later g12'
             have hWc8_2 := hWc8_2.later g12'
             have hWc8_3 := hWc8_3.later g12'
             refine ok_if (fun hc157 => ?_) (fun hc157 => ?_)
             ·have h := bif_t h hc157
              obtain rfl := Option.some.inj h
              obtain rfl := hr_2 _ rfl
              intro ρ L w' _ he _ _
              exact ⟨rfl, (hF.ext he).below⟩
             ·have h := bif_f h hc157
              refine ok_if (fun hc158 => ?_) (fun hc158 => ?_)
              ·have h := bif_t h hc158
               obtain rfl := Option.some.inj h
               obtain rfl := hr_2 _ rfl
               intro ρ L w' _ he _ _
               exact ⟨rfl, (hF.ext he).below⟩
              ·have h := bif_f h hc158
               obtain rfl := Option.some.inj h
               have h := hl2 _ rfl
               exact ok_again (I := I2) m2 (Nat.lt_succ_self _) (fun L w' he => by rw [hI2]; exact ⟨_, q8, A8_w2, c8_w2, A8_w3, c8_w3, rfl, h, hF.trans he.fine, hWc8.later he.fine, hWc8_2.later he.fine, hWc8_3.later he.fine, djc8_1_0, djc8_2_0, djc8_2_1, hmc8_2, hmc8_3⟩)
           ·have h := bif_f h hc155
            obtain rfl := Option.some.inj h
            obtain rfl := hr_2 _ rfl
            intro ρ L w' _ he _ _
            exact ⟨rfl, (hF.ext he).below⟩
          ·have h := bif_f h hc154
           obtain ⟨v10_0, hr10, h⟩ := Option.bind_eq_some_iff.1 h
           refine ok_callm rfl (fun L10 w10 g10 lt10 => ?_)
           refine (reasm_Stream_Over.c k _ (some q8) v10_0 hr10  w10 ((obr45 hWc8.sl hWc8_2.sl hWc8_3.sl).later g10).bare).mono ?_
           rintro e w10' ⟨rfl, hb10⟩
           refine ⟨(v10_0, ()), rfl, hb10, fun g10' => ?_⟩
           try dsimp only
           have hF := hF.trans g10'
           have hWc8 := hWc8.later g10'
           have hWc8_2 := hWc8_2.later g10'
           have hWc8_3 := hWc8_3.later g10'
           refine ok_if (fun hc159 => ?_) (fun hc159 => ?_)
           ·have h := bif_t h hc159
            obtain ⟨v11_0, hr11, h⟩ := Option.bind_eq_some_iff.1 h
            refine ok_callm rfl (fun L11 w11 g11 lt11 => ?_)
            refine (reasm_Stream_At.c k _ (some q8) v11_0 hr11  w11 ((obr45 hWc8.sl hWc8_2.sl hWc8_3.sl).later g11).bare).mono ?_
            rintro e w11' ⟨rfl, hb11⟩
            refine ⟨(v11_0, ()), rfl, hb11, fun g11' => ?_⟩
            try dsimp only
            have hF := hF.trans g11'
            have hWc8 := hWc8.later g11'
            have hWc8_2 := hWc8_2.later g11'
            have hWc8_3 := hWc8_3.later g11'
            refine ok_if (fun hc160 => ?_) (fun hc160 => ?_)
            ·have h := bif_t h hc160
             obtain rfl := Option.some.inj h
             obtain rfl := hr_2 _ rfl
             intro ρ L w' _ he _ _
             exact ⟨rfl, (hF.ext he).below⟩
            ·have h := bif_f h hc160
             obtain ⟨v12_0, hr12, h⟩ := Option.bind_eq_some_iff.1 h
             refine ok_callm rfl (fun L12 w12 g12 lt12 => ?_)
             refine (reasm_Stream_Broken.c k _ (some q8) v12_0 hr12  w12 ((obr45 hWc8.sl hWc8_2.sl hWc8_3.sl).later g12).bare).mono ?_
             rintro e w12' ⟨rfl, hb12⟩
             refine ⟨(v12_0, ()), rfl, hb12, fun g12' => ?_⟩
             try dsimp only
             have hF := hF.trans g12'
             have hWc8 := hWc8.later g12'
             have hWc8_2 := hWc8_2.later g12'
             have hWc8_3 := hWc8_3.later g12'
             refine ok_if (fun hc161 => ?_) (fun hc161 => ?_)
             ·have h := bif_t h hc161
              obtain rfl := Option.some.inj h
              obtain rfl := hr_2 _ rfl
              intro ρ L w' _ he _ _
              exact ⟨rfl, (hF.ext he).below⟩
             ·have h := bif_f h hc161
              refine ok_if (fun hc162 => ?_) (fun hc162 => ?_)
              ·have h := bif_t h hc162
               obtain rfl := Option.some.inj h
               obtain rfl := hr_2 _ rfl
               intro ρ L w' _ he _ _
               exact ⟨rfl, (hF.ext he).below⟩
              ·have h := bif_f h hc162
               obtain rfl := Option.some.inj h
               obtain rfl := hr_2 _ rfl
               intro ρ L w' _ he _ _
               exact ⟨rfl, (hF.ext he).below⟩
           ·have h := bif_f h hc159
            obtain rfl := Option.some.inj h
            obtain rfl := hr_2 _ rfl
            intro ρ L w' _ he _ _
            exact ⟨rfl, (hF.ext he).below⟩
        ·have h := bif_f h hc137
         refine ok_if (fun hc163 => ?_) (fun hc163 => ?_)
         ·have h := bif_t h hc163
          obtain ⟨r8, hr8, h⟩ := Option.bind_eq_some_iff.1 h
          obtain ⟨s8_0, q8⟩ := r8
          try dsimp only at h
          have hBv8 : ∀ b, (reasm_Stream_Read.S b0 A2_b0_2 A2_b0_3) b → ¬ _ ∧ b < _ := fun b hb => by rcases hb with hb | hb | hb; exact ⟨(hW2_b0.lt b hb).2.1, hW2_b0.lt1 b hb⟩; exact ⟨(hW2_b0_2.lt b hb).2.1, hW2_b0_2.lt1 b hb⟩; exact ⟨(hW2_b0_3.lt b hb).2.1, hW2_b0_3.lt1 b hb⟩
          have hBm8 : ∀ b, (reasm_Stream_Read.S b0 A2_b0_2 A2_b0_3) b → (fun _ => False) b ∨ w.heap.size ≤ b := fun b hb => by rcases hb with hb | hb | hb; exact hmn0 b hb; exact hm2_b0_2 b hb; exact hm2_b0_3 b hb
          refine ok_callo (reasm_Stream_Read.S b0 A2_b0_2 A2_b0_3) rfl hBv8 (fun L8 w8 g8 lt8 => ?_)
          refine (reasm_Stream_Read.c k _ q2_b0 _ _ _ _ r16.2.1 (s8_0, q8) hr8  w8 (hW2_b0.later g8).bare' (hW2_b0_2.later g8).bare' (hW2_b0_3.later g8).bare' dj_w13_w12 dj_w14_w12 dj_w14_w13).mono ?_
          rintro e w8' ⟨A8_w2, c8_w2, A8_w3, c8_w3, A8_0, c8_0, rfl, hf8, hWc8, hWc8_2, hWc8_3, djc8_1_0, djc8_2_0, djc8_2_1, hzc8_2, hzc8_3, hO8_0, dr8_o164_2, dr8_o164_3⟩
          refine ⟨((A8_0, s8_0.length, c8_0), ()), rfl, hf8, fun g8' hid8 hv8 => ?_⟩
          try dsimp only
          have dk8_o164 : Dj A8_0 b0 := Dj.new hO8_0.fresh (fun b hb => Nat.lt_of_lt_of_le (hBv8 b (Or.inl hb)).2 g8.size)
          have hmc8 := hmn0
          have hmc8_2 : ∀ b, blk (A8_w2, 0, 0) b → (fun _ => False) b ∨ w.heap.size ≤ b := fun b hb => (hzc8_2 b hb).elim (hBm8 b) (fun h => Or.inr (Nat.le_trans (hF.trans g8).size h))
          have hmc8_3 : ∀ b, blk (A8_w3, 0, 0) b → (fun _ => False) b ∨ w.heap.size ≤ b := fun b hb => (hzc8_3 b hb).elim (hBm8 b) (fun h => Or.inr (Nat.le_trans (hF.trans g8).size h))
          have hWc8 := hWc8.vis (fun b hb => hv8 b (Or.inl (Or.inl hb)))
          have hWc8_2 := hWc8_2.vis (fun b hb => hv8 b (hzc8_2 b hb))
          have hWc8_3 := hWc8_3.vis (fun b hb => hv8 b (hzc8_3 b hb))
          have hO8_0 := hO8_0.call (hF.trans g8).size lt8
          have hF := Fine.own hF g8' hBm8 hid8
          refine ok_if (fun hc168 => ?_) (fun hc168 => ?_)
          ·have h := bif_t h hc168
           obtain rfl := Option.some.inj h
           obtain rfl := hr_2 _ rfl
           intro ρ L w' _ he _ _
           exact ⟨rfl, (hF.ext he).below⟩
          ·have h := bif_f h hc168
           obtain ⟨r9, hr9, h⟩ := Option.bind_eq_some_iff.1 h
           obtain ⟨s9_0, q9⟩ := r9
           try dsimp only at h
           have hBv9 : ∀ b, (reasm_Stream_Read.S b0 A8_w2 A8_w3) b → ¬ _ ∧ b < _ := fun b hb => by rcases hb with hb | hb | hb; exact ⟨(hWc8.lt b hb).2.1, hWc8.lt1 b hb⟩; exact ⟨(hWc8_2.lt b hb).2.1, hWc8_2.lt1 b hb⟩; exact ⟨(hWc8_3.lt b hb).2.1, hWc8_3.lt1 b hb⟩
           have hBm9 : ∀ b, (reasm_Stream_Read.S b0 A8_w2 A8_w3) b → (fun _ => False) b ∨ w.heap.size ≤ b := fun b hb => by rcases hb with hb | hb | hb; exact hmc8 b hb; exact hmc8_2 b hb; exact hmc8_3 b hb
           have hjB9_o164 : ∀ b, blk (A8_0, 0, 0) b → ¬ (reasm_Stream_Read.S b0 A8_w2 A8_w3) b := fun b h0 hb => by rcases hb with hb | hb | hb; exact dk8_o164 b h0 hb; exact dr8_o164_2 b h0 hb; exact dr8_o164_3 b h0 hb
           refine ok_callo (reasm_Stream_Read.S b0 A8_w2 A8_w3) rfl hBv9 (fun L9 w9 g9 lt9 => ?_)
           refine (reasm_Stream_Read.c k _ q8 _ _ _ _ r16.2.1 (s9_0, q9) hr9  w9 (hWc8.later g9).bare' (hWc8_2.later g9).bare' (hWc8_3.later g9).bare' djc8_1_0 djc8_2_0 djc8_2_1).mono ?_
           rintro e w9' ⟨A9_w2, c9_w2, A9_w3, c9_w3, A9_0, c9_0, rfl, hf9, hWc9, hWc9_2, hWc9_3, djc9_1_0, djc9_2_0, djc9_2_1, hzc9_2, hzc9_3, hO9_0, dr9_o169_2, dr9_o169_3⟩
           refine ⟨((A9_0, s9_0.length, c9_0), ()), rfl, hf9, fun g9' hid9 hv9 => ?_⟩
           try dsimp only
           have dn9_2_o164 : Dj A9_w2 A8_0 := Dj.byB hzc9_2 hjB9_o164 (hO8_0.later g9).lt
           have dn9_3_o164 : Dj A9_w3 A8_0 := Dj.byB hzc9_3 hjB9_o164 (hO8_0.later g9).lt
           have dj_o169_o164 : Dj A9_0 A8_0 := Dj.new hO9_0.fresh (hO8_0.later g9).lt
           have dk9_o169 : Dj A9_0 b0 := Dj.new hO9_0.fresh (fun b hb => Nat.lt_of_lt_of_le (hBv9 b (Or.inl hb)).2 g9.size)
           have hmc9 := hmc8
           have hmc9_2 : ∀ b, blk (A9_w2, 0, 0) b → (fun _ => False) b ∨ w.heap.size ≤ b := fun b hb => (hzc9_2 b hb).elim (hBm9 b) (fun h => Or.inr (Nat.le_trans (hF.trans g9).size h))
           have hmc9_3 : ∀ b, blk (A9_w3, 0, 0) b → (fun _ => False) b ∨ w.heap.size ≤ b := fun b hb => (hzc9_3 b hb).elim (hBm9 b) (fun h => Or.inr (Nat.le_trans (hF.trans g9).size h))
           have hWc9 := hWc9.vis (fun b hb => hv9 b (Or.inl (Or.inl hb)))
           have hWc9_2 := hWc9_2.vis (fun b hb => hv9 b (hzc9_2 b hb))
           have hWc9_3 := hWc9_3.vis (fun b hb => hv9 b (hzc9_3 b hb))
           have hO9_0 := hO9_0.call (hF.trans g9).size lt9
           have hO8_0 := OwnF.others hO8_0 hjB9_o164 g9'
           have hF := Fine.own hF g9' hBm9 hid9
           obtain ⟨r10, hr10, h⟩ := Option.bind_eq_some_iff.1 h
           obtain ⟨v10_0, v10_1⟩ := r10
           try dsimp only at h
           refine ok_callm rfl (fun L10 w10 g10 lt10 => ?_)
           refine (reasm_Stream_End.c k _ (some q9) (v10_0, v10_1) hr10  w10 ((obr45 hWc9.sl hWc9_2.sl hWc9_3.sl).later g10).bare).mono ?_
           rintro e w10' ⟨rfl, hb10⟩
           refine ⟨(v10_0, v10_1, ()), rfl, hb10, fun g10' => ?_⟩
           try dsimp only
           have hF := hF.trans g10'
           have hO8_0 := hO8_0.later g10'
           have hO9_0 := hO9_0.later g10'
           have hWc9 := hWc9.later g10'
           have hWc9_2 := hWc9_2.later g10'
           have hWc9_3 := hWc9_3.later g10'
           refine ok_if (fun hc173 => ?_) (fun hc173 => ?_)
           ·have h := bif_t h hc173
            obtain ⟨v11_0, hr11, h⟩ := Option.bind_eq_some_iff.1 h
            refine ok_callm rfl (fun L11 w11 g11 lt11 => ?_)
            refine (reasm_Stream_Over.c k _ (some q9) v11_0 hr11  w11 ((obr45 hWc9.sl hWc9_2.sl hWc9_3.sl).later g11).bare).mono ?_
            rintro e w11' ⟨rfl, hb11⟩
            refine ⟨(v11_0, ()), rfl, hb11, fun g11' => ?_⟩
            try dsimp only
            have hF := hF.trans g11'
            have hO8_0 := hO8_0.later g11'
            have hO9_0 := hO9_0.later g11'
            have hWc9 := hWc9.later g11'
            have hWc9_2 := hWc9_2.later g11'
            have hWc9_3 := hWc9_3.later g11'
            refine ok_if (fun hc174 => ?_) (fun hc174 => ?_)
            ·have h := bif_t h hc174
             obtain ⟨v12_0, hr12, h⟩ := Option.bind_eq_some_iff.1 h
             refine ok_callm rfl (fun L12 w12 g12 lt12 => ?_)
             refine (reasm_Stream_At.c k _ (some q9) v12_0 hr12  w12 ((obr45 hWc9.sl hWc9_2.sl hWc9_3.sl).later g12).bare).mono ?_
             rintro e w12' ⟨rfl, hb12⟩
             refine ⟨(v12_0, ()), rfl, hb12, fun g12' => ?_⟩
             try dsimp only
             have hF := hF.trans g12'
             have hO8_0 := hO8_0.later g12'
             have hO9_0 := hO9_0.later g12'
             have hWc9 := hWc9.later g12'
             have hWc9_2 := hWc9_2.later g12'
             have hWc9_3 := hWc9_3.later g12'
             refine ok_if (fun hc175 => ?_) (fun hc175 => ?_)
             ·have h := bif_t h hc175
              obtain rfl := Option.some.inj h
              obtain rfl := hr_2 _ rfl
              intro ρ L w' _ he _ _
              exact ⟨rfl, (hF.ext he).below⟩
             ·have h := bif_f h hc175
              obtain ⟨v13_0, hr13, h⟩ := Option.bind_eq_some_iff.1 h
              refine ok_callm rfl (fun L13 w13 g13 lt13 => ?_)
              refine (reasm_Stream_Broken.c k _ (some q9) v13_0 hr13  w13 ((obr45 hWc9.sl hWc9_2.sl hWc9_3.sl).later g13).bare).mono ?_
              rintro e w13' ⟨rfl, hb13⟩
              refine ⟨(v13_0, ()), rfl, hb13, fun g13' => ?_⟩
              try dsimp only
              have hF := hF.trans g13'
              have hO8_0 := hO8_0.later g13'
              have hO9_0 := hO9_0.later g13'
              have hWc9 := hWc9.later g13'
              have hWc9_2 := hWc9_2.later g13'
              have hWc9_3 := hWc9_3.later g13'
              refine ok_if (fun hc176 => ?_) (fun hc176 => ?_)
              ·have h := bif_t h hc176
               obtain rfl := Option.some.inj h
               obtain rfl := hr_2 _ rfl
               intro ρ L w' _ he _ _
               exact ⟨rfl, (hF.ext he).below⟩
              ·have h := bif_f h hc176
               refine ok_if (fun hc177 => ?_) (fun hc177 => ?_)
               ·have h := bif_t h hc177
                obtain rfl := Option.some.inj h
                obtain rfl := hr_2 _ rfl
                intro ρ L w' _ he _ _
                exact ⟨rfl, (hF.ext he).below⟩
               ·have h := bif_f h hc177
                obtain rfl := Option.some.inj h
                have h := hl2 _ rfl
                exact ok_again (I := I2) m2 (Nat.lt_succ_self _) (fun L w' he => by rw [hI2]; exact ⟨_, q9, A9_w2, c9_w2, A9_w3, c9_w3, rfl, h, hF.trans he.fine, hWc9.later he.fine, hWc9_2.later he.fine, hWc9_3.later he.fine, djc9_1_0, djc9_2_0, djc9_2_1, hmc9_2, hmc9_3⟩)
            ·have h := bif_f h hc174
             obtain rfl := Option.some.inj h
             obtain rfl := hr_2 _ rfl
             intro ρ L w' _ he _ _
             exact ⟨rfl, (hF.ext he).below⟩
           ·have h := bif_f h hc173
            obtain ⟨v11_0, hr11, h⟩ := Option.bind_eq_some_iff.1 h
            refine ok_callm rfl (fun L11 w11 g11 lt11 => ?_)
            refine (reasm_Stream_Over.c k _ (some q9) v11_0 hr11  w11 ((obr45 hWc9.sl hWc9_2.sl hWc9_3.sl).later g11).bare).mono ?_
            rintro e w11' ⟨rfl, hb11⟩
            refine ⟨(v11_0, ()), rfl, hb11, fun g11' => ?_⟩
            try dsimp only
            have hF := hF.trans g11'
            have hO8_0 := hO8_0.later g11'
            have hO9_0 := hO9_0.later g11'
            have hWc9 := hWc9.later g11'
            have hWc9_2 := hWc9_2.later g11'
            have hWc9_3 := hWc9_3.later g11'
            refine ok_if (fun hc178 => ?_) (fun hc178 => ?_)
            ·have h := bif_t h hc178
             obtain ⟨v12_0, hr12, h⟩ := Option.bind_eq_some_iff.1 h
             refine ok_callm rfl (fun L12 w12 g12 lt12 => ?_)
             refine (reasm_Stream_At.c k _ (some q9) v12_0 hr12  w12 ((obr45 hWc9.sl hWc9_2.sl hWc9_3.sl).later g12).bare).mono ?_
             rintro e w12' ⟨rfl, hb12⟩
             refine ⟨(v12_0, ()), rfl, hb12, fun g12' => ?_⟩
             try dsimp only
             have hF := hF.trans g12'
             have hO8_0 := hO8_0.later g12'
             have hO9_0 := hO9_0.later g12'
             have hWc9 := hWc9.later g12'
             have hWc9_2 := hWc9_2.later g12'
             have hWc9_3 := hWc9_3.later g12'
             refine ok_if (fun hc179 => ?_) (fun hc179 => ?_)
             ·have h := bif_t h hc179
              obtain rfl := Option.some.inj h
              obtain rfl := hr_2 _ rfl
              intro ρ L w' _ he _ _
              exact ⟨rfl, (hF.ext he).below⟩
             ·have h := bif_f h hc179
              obtain ⟨v13_0, hr13, h⟩ := Option.bind_eq_some_iff.1 h
              refine ok_callm rfl (fun L13 w13 g13 lt13 => ?_)
              refine (reasm_Stream_Broken.c k _ (some q9) v13_0 hr13  w13 ((obr45 hWc9.sl hWc9_2.sl hWc9_3.sl).later g13).bare).mono ?_
              rintro e w13' ⟨rfl, hb13⟩
              refine ⟨(v13_0, ()), rfl, hb13, fun g13' => ?_⟩
              try dsimp only
              have hF := hF.trans g13'
              have hO8_0 := hO8_0.later g13'
              have hO9_0 := hO9_0.later g13'
              have hWc9 := hWc9.later g13'
              have hWc9_2 := hWc9_2.later g13'
              have hWc9_3 := hWc9_3.later g13'
              refine ok_if (fun hc180 => ?_) (fun hc180 => ?_)
              ·have h := bif_t h hc180
               obtain rfl := Option.some.inj h
               obtain rfl := hr_2 _ rfl
               intro ρ L w' _ he _ _
               exact ⟨rfl, (hF.ext he).below⟩
              ·have h := bif_f h hc180
               refine ok_if (fun hc181 => ?_) (fun hc181 => ?_)
               ·have h := bif_t h hc181
                obtain rfl := Option.some.inj h
                obtain rfl := hr_2 _ rfl
                intro ρ L w' _ he _ _
                exact ⟨rfl, (hF.ext he).below⟩
               ·have h := bif_f h hc181
                obtain rfl := Option.some.inj h
                obtain rfl := hr_2 _ rfl
                intro ρ L w' _ he _ _
                exact ⟨rfl, (hF.ext he).below⟩
            ·have h := bif_f h hc178
             obtain rfl := Option.some.inj h
             obtain rfl := hr_2 _ rfl
             intro ρ L w' _ he _ _
             exact ⟨rfl, (hF.ext he).below⟩
         ·have h := bif_f h hc163
          obtain ⟨r8, hr8, h⟩ := Option.bind_eq_some_iff.1 h
          obtain ⟨v8_0, q8⟩ := r8
          try dsimp only at h
          have hBv8 : ∀ b, (reasm_Stream_Reset.S b0 A2_b0_2 A2_b0_3) b → ¬ _ ∧ b < _ := fun b hb => by rcases hb with hb | hb | hb; exact ⟨(hW2_b0.lt b hb).2.1, hW2_b0.lt1 b hb⟩; exact ⟨(hW2_b0_2.lt b hb).2.1, hW2_b0_2.lt1 b hb⟩; exact ⟨(hW2_b0_3.lt b hb).2.1, hW2_b0_3.lt1 b hb⟩
          have hBm8 : ∀ b, (reasm_Stream_Reset.S b0 A2_b0_2 A2_b0_3) b → (fun _ => False) b ∨ w.heap.size ≤ b := fun b hb => by rcases hb with hb | hb | hb; exact hmn0 b hb; exact hm2_b0_2 b hb; exact hm2_b0_3 b hb
          refine ok_callo (reasm_Stream_Reset.S b0 A2_b0_2 A2_b0_3) rfl hBv8 (fun L8 w8 g8 lt8 => ?_)
          refine (reasm_Stream_Reset.c k _ q2_b0 _ _ _ _ r16.2.1 (v8_0, q8) hr8  w8 (hW2_b0.later g8).bare' (hW2_b0_2.later g8).bare' (hW2_b0_3.later g8).bare' dj_w13_w12 dj_w14_w12 dj_w14_w13).mono ?_
          rintro e w8' ⟨A8_w2, c8_w2, A8_w3, c8_w3, rfl, hf8, hWc8, hWc8_2, hWc8_3, djc8_1_0, djc8_2_0, djc8_2_1, hzc8_2, hzc8_3⟩
          refine ⟨(v8_0, ()), rfl, hf8, fun g8' hid8 hv8 => ?_⟩
          try dsimp only
          have hmc8 := hmn0
          have hmc8_2 : ∀ b, blk (A8_w2, 0, 0) b → (fun _ => False) b ∨ w.heap.size ≤ b := fun b hb => (hzc8_2 b hb).elim (hBm8 b) (fun h => Or.inr (Nat.le_trans (hF.trans g8).size h))
          have hmc8_3 : ∀ b, blk (A8_w3, 0, 0) b → (fun _ => False) b ∨ w.heap.size ≤ b := fun b hb => (hzc8_3 b hb).elim (hBm8 b) (fun h => Or.inr (Nat.le_trans (hF.trans g8).size h))
          have hWc8 := hWc8.vis (fun b hb => hv8 b (Or.inl (Or.inl hb)))
          have hWc8_2 := hWc8_2.vis (fun b hb => hv8 b (hzc8_2 b hb))
          have hWc8_3 := hWc8_3.vis (fun b hb => hv8 b (hzc8_3 b hb))
          have hF := Fine.own hF g8' hBm8 hid8
          obtain ⟨r9, hr9, h⟩ := Option.bind_eq_some_iff.1 h
          obtain ⟨v9_0, v9_1⟩ := r9
          try dsimp only at h
          refine ok_callm rfl (fun L9 w9 g9 lt9 => ?_)
          refine (reasm_Stream_End.c k _ (some q8) (v9_0, v9_1) hr9  w9 ((obr45 hWc8.sl hWc8_2.sl hWc8_3.sl).later g9).bare).mono ?_
          rintro e w9' ⟨rfl, hb9⟩
          refine ⟨(v9_0, v9_1, ()), rfl, hb9, fun g9' => ?_⟩
          try dsimp only
          have hF := hF.trans g9'
          have hWc8 := hWc8.later g9'
          have hWc8_2 := hWc8_2.later g9'
          have hWc8_3 := hWc8_3.later g9'
          refine ok_if (fun hc185 => ?_) (fun hc185 => ?_)
          ·have h := bif_t h hc185
           obtain ⟨v10_0, hr10, h⟩ := Option.bind_eq_some_iff.1 h
           refine ok_callm rfl (fun L10 w10 g10 lt10 => ?_)
           refine (reasm_Stream_Over.c k _ (some q8) v10_0 hr10  w10 ((obr45 hWc8.sl hWc8_2.sl hWc8_3.sl).later g10).bare).mono ?_
           rintro e w10' ⟨rfl, hb10⟩
           refine ⟨(v10_0, ()), rfl, hb10, fun g10' => ?_⟩
           try dsimp only
           have hF := hF.trans g10'
           have hWc8 := hWc8.later g10'
           have hWc8_2 := hWc8_2.later g10'
           have hWc8_3 := hWc8_3.later g10'
           refine ok_if (fun hc186 => ?_) (fun hc186 => ?_)
           ·have h := bif_t h hc186
            obtain ⟨v11_0, hr11, h⟩ := Option.bind_eq_some_iff.1 h
            refine ok_callm rfl (fun L11 w11 g11 lt11 => ?_)
            refine (reasm_Stream_At.c k _ (some q8) v11_0 hr11  w11 ((obr45 hWc8.sl hWc8_2.sl hWc8_3.sl).later g11).bare).mono ?_
            rintro e w11' ⟨rfl, hb11⟩
            refine ⟨(v11_0, ()), rfl, hb11, fun g11' => ?_⟩
            try dsimp only
            have hF := hF.trans g11'
            have hWc8 := hWc8.later g11'
            have hWc8_2 := hWc8_2.later g11'
            have hWc8_3 := hWc8_3.later g11'
            refine ok_if (fun hc187 => ?_) (fun hc187 => ?_)
            ·have h := bif_t h hc187
             obtain rfl := Option.some.inj h
             obtain rfl := hr_2 _ rfl
             intro ρ L w' _ he _ _
             exact ⟨rfl, (hF.ext he).below⟩
            ·have h := bif_f h hc187
             obtain ⟨v12_0, hr12, h⟩ := Option.bind_eq_some_iff.1 h
             refine ok_callm rfl (fun L12 w12 g12 lt12 => ?_)
             refine (reasm_Stream_Broken.c k _ (some q8) v12_0 hr12  w12 ((obr45 hWc8.sl hWc8_2.sl hWc8_3.sl).later g12).bare).mono ?_
             rintro e w12' ⟨rfl, hb12⟩
             refine ⟨(v12_0, ()), rfl, hb12, fun g12' => ?_⟩
             try dsimp only
             have hF := hF.trans g12'
             have hWc8 := hWc8.later g12'
             have hWc8_2 := hWc8_2.later g12'
             have hWc8_3 := hWc8_3.later g12'
             refine ok_if (fun hc188 => ?_) (fun hc188 => ?_)
             ·have h := bif_t h hc188
              obtain rfl := Option.some.inj h
              obtain rfl := hr_2 _ rfl
              intro ρ L w' _ he _ _
              exact ⟨rfl, (hF.ext he).below⟩
             ·have h := bif_f h hc188
              refine ok_if (fun hc189 => ?_) (fun hc189 => ?_)
              ·have h := bif_t h hc189
               obtain rfl := Option.some.inj h
               obtain rfl := hr_2 _ rfl
               intro ρ L w' _ he _ _
               exact ⟨rfl, (hF.ext he).below⟩
              ·have h := bif_f h hc189
               obtain rfl := Option.some.inj h
               have h := hl2 _ rfl
               exact ok_again (I := I2) m2 (Nat.lt_succ_self _) (fun L w' he => by rw [hI2]; exact ⟨_, q8, A8_w2, c8_w2, A8_w3, c8_w3, rfl, h, hF.trans he.fine, hWc8.later he.fine, hWc8_2.later he.fine, hWc8_3.later he.fine, djc8_1_0, djc8_2_0, djc8_2_1, hmc8_2, hmc8_3⟩)
           ·have h := bif_f h hc186
            obtain rfl := Option.some.inj h
            obtain rfl := hr_2 _ rfl
            intro ρ L w' _ he _ _
            exact ⟨rfl, (hF.ext he).below⟩
          ·have h := bif_f h hc185
           obtain ⟨v10_0, hr10, h⟩ := Option.bind_eq_some_iff.1 h
           refine ok_callm rfl (fun L10 w10 g10 lt10 => ?_)
           refine (reasm_Stream_Over.c k _ (some q8) v10_0 hr10  w10 ((obr45 hWc8.sl hWc8_2.sl hWc8_3.sl).later g10).bare).mono ?_
           rintro e w10' ⟨rfl, hb10⟩
           refine ⟨(v10_0, ()), rfl, hb10, fun g10' => ?_⟩
           try dsimp only
           have hF := hF.trans g10'
           have hWc8 := hWc8.later g10'
           have hWc8_2 := hWc8_2.later g10'
           have hWc8_3 := hWc8_3.later g10'
           refine ok_if (fun hc190 => ?_) (fun hc190 => ?_)
           ·have h := bif_t h hc190
            obtain ⟨v11_0, hr11, h⟩ := Option.bind_eq_some_iff.1 h
            refine ok_callm rfl (fun L11 w11 g11 lt11 => ?_)
            refine (reasm_Stream_At.c k _ (some q8) v11_0 hr11  w11 ((obr45 hWc8.sl hWc8_2.sl hWc8_3.sl).later g11).bare).mono ?_
            rintro e w11' ⟨rfl, hb11⟩
            refine ⟨(v11_0, ()), rfl, hb11, fun g11' => ?_⟩
            try dsimp only
            have hF := hF.trans g11'
            have hWc8 := hWc8.later g11'
            have hWc8_2 := hWc8_2.later g11'
            have hWc8_3 := hWc8_3.later g11'
            refine ok_if (fun hc191 => ?_) (fun hc191 => ?_)
            ·have h := bif_t h hc191
             obtain rfl := Option.some.inj h
             obtain rfl := hr_2 _ rfl
             intro ρ L w' _ he _ _
             exact ⟨rfl, (hF.ext he).below⟩
            ·have h := bif_f h hc191
             obtain ⟨v12_0, hr12, h⟩ := Option.bind_eq_some_iff.1 h
             refine ok_callm rfl (fun L12 w12 g12 lt12 => ?_)
             refine (reasm_Stream_Broken.c k _ (some q8) v12_0 hr12  w12 ((obr45 hWc8.sl hWc8_2.sl hWc8_3.sl).later g12).bare).mono ?_
             rintro e w12' ⟨rfl, hb12⟩
             refine ⟨(v12_0, ()), rfl, hb12, fun g12' => ?_⟩
             try dsimp only
             have hF := hF.trans g12'
             have hWc8 := hWc8.later g12'
             have hWc8_2 := hWc8_2.later g12'
             have hWc8_3 := hWc8_3.later g12'
             refine ok_if (fun hc192 => ?_) (fun hc192 => ?_)
             ·have h := bif_t h hc192
              obtain rfl := Option.some.inj h
              obtain rfl := hr_2 _ rfl
              intro ρ L w' _ he _ _
              exact ⟨rfl, (hF.ext he).below⟩
             ·have h := bif_f h hc192
              refine ok_if (fun hc193 => ?_) (fun hc193 => ?_)
              ·have h := bif_t h hc193
               obtain rfl := Option.some.inj h
               obtain rfl := hr_2 _ rfl
               intro ρ L w' _ he _ _
               exact ⟨rfl, (hF.ext he).below⟩
              ·have h := bif_f h hc193
               obtain rfl := Option.some.inj h
               obtain rfl := hr_2 _ rfl
               intro ρ L w' _ he _ _
               exact ⟨rfl, (hF.ext he).below⟩
           ·have h := bif_f h hc190
            obtain rfl := Option.some.inj h
            obtain rfl := hr_2 _ rfl
            intro ρ L w' _ he _ _
            exact ⟨rfl, (hF.ext he).below⟩
       ·have h := bif_f h hc136
        refine ok_need rfl ?_
        refine ok_if (fun hc194 => ?_) (fun hc194 => ?_)
        ·have h := bif_t h hc194
         refine ok_if (fun hc195 => ?_) (fun hc195 => ?_)
         ·have h := bif_t h hc195
          obtain ⟨r8, hr8, h⟩ := Option.bind_eq_some_iff.1 h
          obtain ⟨v8_0, q8⟩ := r8
          try dsimp only at h
          have hBv8 : ∀ b, (reasm_Stream_Data.S b0 A2_b0_2 A2_b0_3) b → ¬ _ ∧ b < _ := fun b hb => by rcases hb with hb | hb | hb; exact ⟨(hW2_b0.lt b hb).2.1, hW2_b0.lt1 b hb⟩; exact ⟨(hW2_b0_2.lt b hb).2.1, hW2_b0_2.lt1 b hb⟩; exact ⟨(hW2_b0_3.lt b hb).2.1, hW2_b0_3.lt1 b hb⟩
          have hBm8 : ∀ b, (reasm_Stream_Data.S b0 A2_b0_2 A2_b0_3) b → (fun _ => False) b ∨ w.heap.size ≤ b := fun b hb => by rcases hb with hb | hb | hb; exact hmn0 b hb; exact hm2_b0_2 b hb; exact hm2_b0_3 b hb
          refine ok_callo (reasm_Stream_Data.S b0 A2_b0_2 A2_b0_3) rfl hBv8 (fun L8 w8 g8 lt8 => ?_)
          refine (reasm_Stream_Data.c k _ q2_b0 _ _ _ _ r16.2.1 _ _ _ r16.2.2.1 true (v8_0, q8) hr8 rfl w8 (hW2_b0.later g8).bare' (hW2_b0_2.later g8).bare' (hW2_b0_3.later g8).bare' dj_w13_w12 dj_w14_w12 dj_w14_w13 (hE3_2.later ((hF.trans g8).with hBm8))).mono ?_
          rintro e w8' ⟨A8_w2, c8_w2, A8_w3, c8_w3, rfl, hf8, hWc8, hWc8_2, hWc8_3, djc8_1_0, djc8_2_0, djc8_2_1, hzc8_2, hzc8_3⟩
          refine ⟨(v8_0, ()), rfl, hf8, fun g8' hid8 hv8 => ?_⟩
          try dsimp only
          have hmc8 := hmn0
          have hmc8_2 : ∀ b, blk (A8_w2, 0, 0) b → (fun _ => False) b ∨ w.heap.size ≤ b := fun b hb => (hzc8_2 b hb).elim (hBm8 b) (fun h => Or.inr (Nat.le_trans (hF.trans g8).size h))
          have hmc8_3 : ∀ b, blk (A8_w3, 0, 0) b → (fun _ => False) b ∨ w.heap.size ≤ b := fun b hb => (hzc8_3 b hb).elim (hBm8 b) (fun h => Or.inr (Nat.le_trans (hF.trans g8).size h))
          have hWc8 := hWc8.vis (fun b hb => hv8 b (Or.inl (Or.inl hb)))
          have hWc8_2 := hWc8_2.vis (fun b hb => hv8 b (hzc8_2 b hb))
          have hWc8_3 := hWc8_3.vis (fun b hb => hv8 b (hzc8_3 b hb))
          have hF := Fine.own hF g8' hBm8 hid8
          obtain ⟨r9, hr9, h⟩ := Option.bind_eq_some_iff.1 h
          obtain ⟨v9_0, v9_1⟩ := r9
          try dsimp only at h
          refine ok_callm rfl (fun L9 w9 g9 lt9 => ?_)
          refine (reasm_Stream_End.c k _ (some q8) (v9_0, v9_1) hr9  w9 ((obr45 hWc8.sl hWc8_2.sl hWc8_3.sl).later g9).bare).mono ?_
          rintro e w9' ⟨rfl, hb9⟩
          refine ⟨(v9_0, v9_1, ()), rfl, hb9, fun g9' => ?_⟩
          try dsimp only
          have hF := hF.trans g9'
          have hWc8 := hWc8.later g9'
          have hWc8_2 := hWc8_2.later g9'
          have hWc8_3 := hWc8_3.later g9'
          refine ok_if (fun hc199 => ?_) (fun hc199 => ?_)
          ·have h := bif_t h hc199
           obtain ⟨v10_0, hr10, h⟩ := Option.bind_eq_some_iff.1 h
           refine ok_callm rfl (fun L10 w10 g10 lt10 => ?_)
           refine (reasm_Stream_Over.c k _ (some q8) v10_0 hr10  w10 ((obr45 hWc8.sl hWc8_2.sl hWc8_3.sl).later g10).bare).mono ?_
           rintro e w10' ⟨rfl, hb10⟩
           refine ⟨(v10_0, ()), rfl, hb10, fun g10' => ?_⟩
           try dsimp only
           have hF := hF.trans g10'
           have hWc8 := hWc8.later g10'
           have hWc8_2 := hWc8_2.later g10'
           have hWc8_3 := hWc8_3.later g10'
           refine ok_if (fun hc200 => ?_) (fun hc200 => ?_)
           ·have h := bif_t h hc200
            obtain ⟨v11_0, hr11, h⟩ := Option.bind_eq_some_iff.1 h
            refine ok_callm rfl (fun L11 w11 g11 lt11 => ?_)
            refine (reasm_Stream_At.c k _ (some q8) v11_0 hr11  w11 ((obr45 hWc8.sl hWc8_2.sl hWc8_3.sl).later g11).bare).mono ?_
            rintro e w11' ⟨rfl, hb11⟩
            refine ⟨(v11_0, ()), rfl, hb11, fun g11' => ?_⟩
            try dsimp only
            have hF := hF.trans g11'
            have hWc8 := hWc8.later g11'
            have hWc8_2 := hWc8_2.later g11'
            have hWc8_3 := hWc8_3.later g11'
            refine ok_if (fun hc201 => ?_) (fun hc201 => ?_)
            ·have h := bif_t h hc201
             obtain rfl := Option.some.inj h
             obtain rfl := hr_2 _ rfl
             intro ρ L w' _ he _ _
             exact ⟨rfl, (hF.ext he).below⟩
            ·have h := bif_f h hc201
             obtain ⟨v12_0, hr12, h⟩ := Option.bind_eq_some_iff.1 h
             refine ok_callm rfl (fun L12 w12 g12 lt12 => ?_)
             refine (reasm_Stream_Broken.c k _ (some q8) v12_0 hr12  w12 ((obr45 hWc8.sl hWc8_2.sl hWc8_3.sl).later g12).bare).mono ?_
             rintro e w12' ⟨rfl, hb12⟩
             refine ⟨(v12_0, ()), rfl, hb12, fun g12' => ?_⟩
             try dsimp only
             have hF := hF.trans g12'
             have hWc8 := hWc8.later g12'
             have hWc8_2 := hWc8_2.later g12'
             have hWc8_3 := hWc8_3.later g12'
             refine ok_if (fun hc202 => ?_) (fun hc202 => ?_)
             ·have h := bif_t h hc202
              obtain rfl := Option.some.inj h
              obtain rfl := hr_2 _ rfl
              intro ρ L w' _ he _ _
              exact ⟨rfl, (hF.ext he).below⟩
             ·have h := bif_f h hc202
              refine ok_if (fun hc203 => ?_) (fun hc203 => ?_)
              ·have h := bif_t h hc203
               obtain rfl := Option.some.inj h
               obtain rfl := hr_2 _ rfl
               intro ρ L w' _ he _ _
               exact ⟨rfl, (hF.ext he).below⟩
              ·have h := bif_f h hc203
               obtain rfl := Option.some.inj h
               have h := hl2 _ rfl
               exact ok_again (I := I2) m2 (Nat.lt_succ_self _) (fun L w' he => by rw [hI2]; exact ⟨_, q8, A8_w2, c8_w2, A8_w3, c8_w3, rfl, h, hF.trans he.fine, hWc8.later he.fine, hWc8_2.later he.fine, hWc8_3.later he.fine, djc8_1_0, djc8_2_0, djc8_2_1, hmc8_2, hmc8_3⟩)
           ·have h := bif_f h hc200
            obtain rfl := Option.some.inj h
            obtain rfl := hr_2 _ rfl
            intro ρ L w' _ he _ _
            exact ⟨rfl, (hF.ext he).below⟩
          ·have h := bif_f h hc199
           obtain ⟨v10_0, hr10, h⟩ := Option.bind_eq_some_iff.1 h
           refine ok_callm rfl (fun L10 w10 g10 lt10 => ?_)
           refine (reasm_Stream_Over.c k _ (some q8) v10_0 hr10  w10 ((obr45 hWc8.sl hWc8_2.sl hWc8_3.sl).later g10).bare).mono ?_
           rintro e w10' ⟨rfl, hb10⟩
           refine ⟨(v10_0, ()), rfl, hb10, fun g10' => ?_⟩
           try dsimp only
           have hF := hF.trans g10'
           have hWc8 := hWc8.later g10'
           have hWc8_2 := hWc8_2.later g10'
           have hWc8_3 := hWc8_3.later g10'
           refine ok_if (fun hc204 => ?_) (fun hc204 => ?_)
           ·have h := bif_t h hc204
            obtain ⟨v11_0, hr11, h⟩ := Option.bind_eq_some_iff.1 h
            refine ok_callm rfl (fun L11 w11 g11 lt11 => ?_)
            refine (reasm_Stream_At.c k _ (some q8) v11_0 hr11  w11 ((obr45 hWc8.sl hWc8_2.sl hWc8_3.sl).later g11).bare).mono ?_
            rintro e w11' ⟨rfl, hb11⟩
            refine ⟨(v11_0, ()), rfl, hb11, fun g11' => ?_⟩
            try dsimp only
            have hF := hF.trans g11'
            have hWc8 := hWc8.later g11'
            have hWc8_2 := hWc8_2.later g11'
            have hWc8_3 := hWc8_3.later g11'
            refine ok_if (fun hc205 => ?_) (fun hc205 => ?_)
            ·have h := bif_t h hc205
             obtain rfl := Option.some.inj h
             obtain rfl := hr_2 _ rfl
             intro ρ L w' _ he _ _
             exact ⟨rfl, (hF.ext he).below⟩
            ·have h := bif_f h hc205
             obtain ⟨v12_0, hr12, h⟩ := Option.bind_eq_some_iff.1 h
             refine ok_callm rfl (fun L12 w12 g12 lt12 => ?_)
             refine (reasm_Stream_Broken.c k _ (some q8) v12_0 hr12  w12 ((obr45 hWc8.sl hWc8_2.sl hWc8_3.sl).later g12).bare).mono ?_
             rintro e w12' ⟨rfl, hb12⟩
             refine ⟨(v12_0, ()), rfl, hb12, fun g12' => ?_⟩
             try dsimp only
             have hF := hF.trans g12'
             have hWc8 := hWc8.later g12'
             have hWc8_2 := hWc8_2.later g12'
             have hWc8_3 := hWc8_3.later g12'
             refine ok_if (fun hc206 => ?_) (fun hc206 => ?_)
             ·have h := bif_t h hc206
              obtain rfl := Option.some.inj h
              obtain rfl := hr_2 _ rfl
              intro ρ L w' _ he _ _
              exact ⟨rfl, (hF.ext he).below⟩
             ·have h := bif_f h hc206
              refine ok_if (fun hc207 => ?_) (fun hc207 => ?_)
              ·have h := bif_t h hc207
               obtain rfl := Option.some.inj h
               obtain rfl := hr_2 _ rfl
               intro ρ L w' _ he _ _
               exact ⟨rfl, (hF.ext he).below⟩
              ·have h := bif_f h hc207
               obtain rfl := Option.some.inj h
               obtain rfl := hr_2 _ rfl
               intro ρ L w' _ he _ _
               exact ⟨rfl, (hF.ext he).below⟩
           ·have h := bif_f h hc204
            obtain rfl := Option.some.inj h
            obtain rfl := hr_2 _ rfl
            intro ρ L w' _ he _ _
            exact ⟨rfl, (hF.ext he).below⟩
         ·have h := bif_f h hc195
          obtain ⟨r8, hr8, h⟩ := Option.bind_eq_some_iff.1 h
          obtain ⟨v8_0, q8⟩ := r8
          try dsimp only at h
          have hBv8 : ∀ b, (reasm_Stream_Data.S b0 A2_b0_2 A2_b0_3) b → ¬ _ ∧ b < _ := fun b hb => by rcases hb with hb | hb | hb; exact ⟨(hW2_b0.lt b hb).2.1, hW2_b0.lt1 b hb⟩; exact ⟨(hW2_b0_2.lt b hb).2.1, hW2_b0_2.lt1 b hb⟩; exact ⟨(hW2_b0_3.lt b hb).2.1, hW2_b0_3.lt1 b hb⟩
          have hBm8 : ∀ b, (reasm_Stream_Data.S b0 A2_b0_2 A2_b0_3) b → (fun _ => False) b ∨ w.heap.size ≤ b := fun b hb => by rcases hb with hb | hb | hb; exact hmn0 b hb; exact hm2_b0_2 b hb; exact hm2_b0_3 b hb
          refine ok_callo (reasm_Stream_Data.S b0 A2_b0_2 A2_b0_3) rfl hBv8 (fun L8 w8 g8 lt8 => ?_)
          refine (reasm_Stream_Data.c k _ q2_b0 _ _ _ _ r16.2.1 _ _ _ r16.2.2.1 false (v8_0, q8) hr8 rfl w8 (hW2_b0.later g8).bare' (hW2_b0_2.later g8).bare' (hW2_b0_3.later g8).bare' dj_w13_w12 dj_w14_w12 dj_w14_w13 (hE3_2.later ((hF.trans g8).with hBm8))).mono ?_
          rintro e w8' ⟨A8_w2, c8_w2, A8_w3, c8_w3, rfl, hf8, hWc8, hWc8_2, hWc8_3, djc8_1_0, djc8_2_0, djc8_2_1, hzc8_2, hzc8_3⟩
          refine ⟨(v8_0, ()), rfl, hf8, fun g8' hid8 hv8 => ?_⟩
          try dsimp only
          have hmc8 := hmn0
          have hmc8_2 : ∀ b, blk (A8_w2, 0, 0) b → (fun _ => False) b ∨ w.heap.size ≤ b := fun b hb => (hzc8_2 b hb).elim (hBm8 b) (fun h => Or.inr (Nat.le_trans (hF.trans g8).size h))
          have hmc8_3 : ∀ b, blk (A8_w3, 0, 0) b → (fun _ => False) b ∨ w.heap.size ≤ b := fun b hb => (hzc8_3 b hb).elim (hBm8 b) (fun h => Or.inr (Nat.le_trans (hF.trans g8).size h))
          have hWc8 := hWc8.vis (fun b hb => hv8 b (Or.inl (Or.inl hb)))
          have hWc8_2 := hWc8_2.vis (fun b hb => hv8 b (hzc8_2 b hb))
          have hWc8_3 := hWc8_3.vis (fun b hb => hv8 b (hzc8_3 b hb))
          have hF := Fine.own hF g8' hBm8 hid8
          obtain ⟨r9, hr9, h⟩ := Option.bind_eq_some_iff.1 h
          obtain ⟨v9_0, v9_1⟩ := r9
          try dsimp only at h
          refine ok_callm rfl (fun L9 w9 g9 lt9 => ?_)
          refine (reasm_Stream_End.c k _ (some q8) (v9_0, v9_1) hr9  w9 ((obr45 hWc8.sl hWc8_2.sl hWc8_3.sl).later g9).bare).mono ?_
          rintro e w9' ⟨rfl, hb9⟩
          refine ⟨(v9_0, v9_1, ()), rfl, hb9, fun g9' => ?_⟩
          try dsimp only
          have hF := hF.trans g9'
          have hWc8 := hWc8.later g9'
          have hWc8_2 := hWc8_2.later g9'
          have hWc8_3 := hWc8_3.later g9'
          refine ok_if (fun hc211 => ?_) (fun hc211 => ?_)
          ·have h := bif_t h hc211
           obtain ⟨v10_0, hr10, h⟩ := Option.bind_eq_some_iff.1 h
           refine ok_callm rfl (fun L10 w10 g10 lt10 => ?_)
           refine (reasm_Stream_Over.c k _ (some q8) v10_0 hr10  w10 ((obr45 hWc8.sl hWc8_2.sl hWc8_3.sl).later g10).bare).mono ?_
           rintro e w10' ⟨rfl, hb10⟩
           refine ⟨(v10_0, ()), rfl, hb10, fun g10' => ?_⟩
           try dsimp only
           have hF := hF.trans g10'
           have hWc8 := hWc8.later g10'
           have hWc8_2 := hWc8_2.later g10'
           have hWc8_3 := hWc8_3.later g10'
           refine ok_if (fun hc212 => ?_) (fun hc212 => ?_)
           ·have h := bif_t h hc212
            obtain ⟨v11_0, hr11, h⟩ := Option.bind_eq_some_iff.1 h
            refine ok_callm rfl (fun L11 w11 g11 lt11 => ?_)
            refine (reasm_Stream_At.c k _ (some q8) v11_0 hr11  w11 ((obr45 hWc8.sl hWc8_2.sl hWc8_3.sl).later g11).bare).mono ?_
            rintro e w11' ⟨rfl, hb11⟩
            refine ⟨(v11_0, ()), rfl, hb11, fun g11' => ?_⟩
            try dsimp only
            have hF := hF.trans g11'
            have hWc8 := hWc8.later g11'
            have hWc8_2 := hWc8_2.later g11'
            have hWc8_3 := hWc8_3.later g11'
            refine ok_if (fun hc213 => ?_) (fun hc213 => ?_)
            ·have h := bif_t h hc213
             obtain rfl := Option.some.inj h
             obtain rfl := hr_2 _ rfl
             intro ρ L w' _ he _ _
             exact ⟨rfl, (hF.ext he).below⟩
            ·have h := bif_f h hc213
             obtain ⟨v12_0, hr12, h⟩ := Option.bind_eq_some_iff.1 h
             refine ok_callm rfl (fun L12 w12 g12 lt12 => ?_)
             refine (reasm_Stream_Broken.c k _ (some q8) v12_0 hr12  w12 ((obr45 hWc8.sl hWc8_2.sl hWc8_3.sl).later g12).bare).mono ?_
             rintro e w12' ⟨rfl, hb12⟩
             refine ⟨(v12_0, ()), rfl, hb12, fun g12' => ?_⟩
             try dsimp only
             have hF := hF.trans g12'
             have hWc8 := hWc8.later g12'
             have hWc8_2 := hWc8_2.later g12'
             have hWc8_3 := hWc8_3.later g12'
             refine ok_if (fun hc214 => ?_) (fun hc214 => ?_)
             ·have h := bif_t h hc214
              obtain rfl := Option.some.inj h
              obtain rfl := hr_2 _ rfl
              intro ρ L w' _ he _ _
              exact ⟨rfl, (hF.ext he).below⟩
             ·have h := bif_f h hc214
              refine ok_if (fun hc215 => ?_) (fun hc215 => ?_)
              ·have h := bif_t h hc215
               obtain rfl := Option.some.inj h
               obtain rfl := hr_2 _ rfl
               intro ρ L w' _ he _ _
               exact ⟨rfl, (hF.ext he).below⟩
              ·have h := bif_f h hc215
               obtain rfl := Option.some.inj h
               have h := hl2 _ rfl
               exact ok_again (I := I2) m2 (Nat.lt_succ_self _) (fun L w' he => by rw [hI2]; exact ⟨_, q8, A8_w2, c8_w2, A8_w3, c8_w3, rfl, h, hF.trans he.fine, hWc8.later he.fine, hWc8_2.later he.fine, hWc8_3.later he.fine, djc8_1_0, djc8_2_0, djc8_2_1, hmc8_2, hmc8_3⟩)
           ·have h := bif_f h hc212
            obtain rfl := Option.some.inj h
            obtain rfl := hr_2 _ rfl
            intro ρ L w' _ he _ _
            exact ⟨rfl, (hF.ext he).below⟩
          ·have h := bif_f h hc211
           obtain ⟨v10_0, hr10, h⟩ := Option.bind_eq_some_iff.1 h
           refine ok_callm rfl (fun L10 w10 g10 lt10 => ?_)
           refine (reasm_Stream_Over.c k _ (some q8) v10_0 hr10  w10 ((obr45 hWc8.sl hWc8_2.sl hWc8_3.sl).later g10).bare).mono ?_
           rintro e w10' ⟨rfl, hb10⟩
           refine ⟨(v10_0, ()), rfl, hb10, fun g10' => ?_⟩
           try dsimp only
           have hF := hF.trans g10'
           have hWc8 := hWc8.later g10'
           have hWc8_2 := hWc8_2.later g10'
           have hWc8_3 := hWc8_3.later g10'
           refine ok_if (fun hc216 => ?_) (fun hc216 => ?_)
           ·have h := bif_t h hc216
            obtain ⟨v11_0, hr11, h⟩ := Option.bind_eq_some_iff.1 h
            refine ok_callm rfl (fun L11 w11 g11 lt11 => ?_)
            refine (reasm_Stream_At.c k _ (some q8) v11_0 hr11  w11 ((obr45 hWc8.sl hWc8_2.sl hWc8_3.sl).later g11).bare).mono ?_
            rintro e w11' ⟨rfl, hb11⟩
            refine ⟨(v11_0, ()), rfl, hb11, fun g11' => ?_⟩
            try dsimp only
            have hF := hF.trans g11'
            have hWc8 := hWc8.later g11'
            have hWc8_2 := hWc8_2.later g11'
            have hWc8_3 := hWc8_3.later g11'
            refine ok_if (fun hc217 => ?_) (fun hc217 => ?_)
            ·have h := bif_t h hc217
             obtain rfl := Option.some.inj h
             obtain rfl := hr_2 _ rfl
             intro ρ L w' _ he _ _
             exact ⟨rfl, (hF.ext he).below⟩
            ·have h := bif_f h hc217
             obtain ⟨v12_0, hr12, h⟩ := Option.bind_eq_some_iff.1 h
             refine ok_callm rfl (fun L12 w12 g12 lt12 => ?_)
             refine (reasm_Stream_Broken.c k _ (some q8) v12_0 hr12  w12 ((obr45 hWc8.sl hWc8_2.sl hWc8_3.sl).later g12).bare).mono ?_
             rintro e w12' ⟨rfl, hb12⟩
             refine ⟨(v12_0, ()), rfl, hb12, fun g12' => ?_⟩
             try dsimp only
             have hF := hF.trans g12'
             have hWc8 := hWc8.later g12'
             have hWc8_2 := hWc8_2.later g12'
             have hWc8_3 := hWc8_3.later g12'
             refine ok_if (fun hc218 => ?_) (fun hc218 => ?_)
             ·have h := bif_t h hc218
              obtain rfl := Option.some.inj h
              obtain rfl := hr_2 _ rfl
              intro ρ L w' _ he _ _
              exact ⟨rfl, (hF.ext he).below⟩
             ·have h := bif_f h hc218
              refine ok_if (fun hc219 => ?_) (fun hc219 => ?_)
              ·have h := bif_t h hc219
               obtain rfl := Option.some.inj h
               obtain rfl := hr_2 _ rfl
               intro ρ L w' _ he _ _
               exact ⟨rfl, (hF.ext he).below⟩
              ·have h := bif_f h hc219
               obtain rfl := Option.some.inj h
               obtain rfl := hr_2 _ rfl
               intro ρ L w' _ he _ _
               exact ⟨rfl, (hF.ext he).below⟩
           ·have h := bif_f h hc216
            obtain rfl := Option.some.inj h
            obtain rfl := hr_2 _ rfl
            intro ρ L w' _ he _ _
            exact ⟨rfl, (hF.ext he).below⟩
        ·have h := bif_f h hc194
         refine ok_if (fun hc220 => ?_) (fun hc220 => ?_)
         ·have h := bif_t h hc220
          obtain ⟨r8, hr8, h⟩ := Option.bind_eq_some_iff.1 h
          obtain ⟨s8_0, q8⟩ := r8
          try dsimp only at h
          have hBv8 : ∀ b, (reasm_Stream_Read.S b0 A2_b0_2 A2_b0_3) b → ¬ _ ∧ b < _ := fun b hb => by rcases hb with hb | hb | hb; exact ⟨(hW2_b0.lt b hb).2.1, hW2_b0.lt1 b hb⟩; exact ⟨(hW2_b0_2.lt b hb).2.1, hW2_b0_2.lt1 b hb⟩; exact ⟨(hW2_b0_3.lt b hb).2.1, hW2_b0_3.lt1 b hb⟩
          have hBm8 : ∀ b, (reasm_Stream_Read.S b0 A2_b0_2 A2_b0_3) b → (fun _ => False) b ∨ w.heap.size ≤ b := fun b hb => by rcases hb with hb | hb | hb; exact hmn0 b hb; exact hm2_b0_2 b hb; exact hm2_b0_3 b hb
          refine ok_callo (reasm_Stream_Read.S b0 A2_b0_2 A2_b0_3) rfl hBv8 (fun L8 w8 g8 lt8 => ?_)
          refine (reasm_Stream_Read.c k _ q2_b0 _ _ _ _ r16.2.1 (s8_0, q8) hr8  w8 (hW2_b0.later g8).bare' (hW2_b0_2.later g8).bare' (hW2_b0_3.later g8).bare' dj_w13_w12 dj_w14_w12 dj_w14_w13).mono ?_
          rintro e w8' ⟨A8_w2, c8_w2, A8_w3, c8_w3, A8_0, c8_0, rfl, hf8, hWc8, hWc8_2, hWc8_3, djc8_1_0, djc8_2_0, djc8_2_1, hzc8_2, hzc8_3, hO8_0, dr8_o221_2, dr8_o221_3⟩
          refine ⟨((A8_0, s8_0.length, c8_0), ()), rfl, hf8, fun g8' hid8 hv8 => ?_⟩
          try dsimp only
          have dk8_o221 : Dj A8_0 b0 := Dj.new hO8_0.fresh (fun b hb => Nat.lt_of_lt_of_le (hBv8 b (Or.inl hb)).2 g8.size)
          have hmc8 := hmn0
          have hmc8_2 : ∀ b, blk (A8_w2, 0, 0) b → (fun _ => False) b ∨ w.heap.size ≤ b := fun b hb => (hzc8_2 b hb).elim (hBm8 b) (fun h => Or.inr (Nat.le_trans (hF.trans g8).size h))
          have hmc8_3 : ∀ b, blk (A8_w3, 0, 0) b → (fun _ => False) b ∨ w.heap.size ≤ b := fun b hb => (hzc8_3 b hb).elim (hBm8 b) (fun h => Or.inr (Nat.le_trans (hF.trans g8).size h))
          have hWc8 := hWc8.vis (fun b hb => hv8 b (Or.inl (Or.inl hb)))
          have hWc8_2 := hWc8_2.vis (fun b hb => hv8 b (hzc8_2 b hb))
          have hWc8_3 := hWc8_3.vis (fun b hb => hv8 b (hzc8_3 b hb))
          have hO8_0 := hO8_0.call (hF.trans g8).size lt8
          have hF := Fine.own hF g8' hBm8 hid8
          refine ok_if (fun hc225 => ?_) (fun hc225 => ?_)
          ·have h := bif_t h hc225
           obtain rfl := Option.some.inj h
           obtain rfl := hr_2 _ rfl
           intro ρ L w' _ he _ _
           exact ⟨rfl, (hF.ext he).below⟩
          ·have h := bif_f h hc225
           obtain ⟨r9, hr9, h⟩ := Option.bind_eq_some_iff.1 h
           obtain ⟨s9_0, q9⟩ := r9
           try dsimp only at h
           have hBv9 : ∀ b, (reasm_Stream_Read.S b0 A8_w2 A8_w3) b → ¬ _ ∧ b < _ := fun b hb => by rcases hb with hb | hb | hb; exact ⟨(hWc8.lt b hb).2.1, hWc8.lt1 b hb⟩; exact ⟨(hWc8_2.lt b hb).2.1, hWc8_2.lt1 b hb⟩; exact ⟨(hWc8_3.lt b hb).2.1, hWc8_3.lt1 b hb⟩
           have hBm9 : ∀ b, (reasm_Stream_Read.S b0 A8_w2 A8_w3) b → (fun _ => False) b ∨ w.heap.size ≤ b := fun b hb => by rcases hb with hb | hb | hb; exact hmc8 b hb; exact hmc8_2 b hb; exact hmc8_3 b hb
           have hjB9_o221 : ∀ b, blk (A8_0, 0, 0) b → ¬ (reasm_Stream_Read.S b0 A8_w2 A8_w3) b := fun b h0 hb => by rcases hb with hb | hb | hb; exact dk8_o221 b h0 hb; exact dr8_o221_2 b h0 hb; exact dr8_o221_3 b h0 hb
           refine ok_callo (reasm_Stream_Read.S b0 A8_w2 A8_w3) rfl hBv9 (fun L9 w9 g9 lt9 => ?_)
           refine (reasm_Stream_Read.c k _ q8 _ _ _ _ r16.2.1 (s9_0, q9) hr9  w9 (hWc8.later g9).bare' (hWc8_2.later g9).bare' (hWc8_3.later g9).bare' djc8_1_0 djc8_2_0 djc8_2_1).mono ?_
           rintro e w9' ⟨A9_w2, c9_w2, A9_w3, c9_w3, A9_0, c9_0, rfl, hf9, hWc9, hWc9_2, hWc9_3, djc9_1_0, djc9_2_0, djc9_2_1, hzc9_2, hzc9_3, hO9_0, dr9_o226_2, dr9_o226_3⟩
           refine ⟨((A9_0, s9_0.length, c9_0), ()), rfl, hf9, fun g9' hid9 hv9 => ?_⟩
           try dsimp only
           have dn9_2_o221 : Dj A9_w2 A8_0 := Dj.byB hzc9_2 hjB9_o221 (hO8_0.later g9).lt
           have dn9_3_o221 : Dj A9_w3 A8_0 := Dj.byB hzc9_3 hjB9_o221 (hO8_0.later g9).lt
           have dj_o226_o221 : Dj A9_0 A8_0 := Dj.new hO9_0.fresh (hO8_0.later g9).lt
           have dk9_o226 : Dj A9_0 b0 := Dj.new hO9_0.fresh (fun b hb => Nat.lt_of_lt_of_le (hBv9 b (Or.inl hb)).2 g9.size)
           have hmc9 := hmc8
           have hmc9_2 : ∀ b, blk (A9_w2, 0, 0) b → (fun _ => False) b ∨ w.heap.size ≤ b := fun b hb => (hzc9_2 b hb).elim (hBm9 b) (fun h => Or.inr (Nat.le_trans (hF.trans g9).size h))
           have hmc9_3 : ∀ b, blk (A9_w3, 0, 0) b → (fun _ => False) b ∨ w.heap.size ≤ b := fun b hb => (hzc9_3 b hb).elim (hBm9 b) (fun h => Or.inr (Nat.le_trans (hF.trans g9).size h))
           have hWc9 := hWc9.vis (fun b hb => hv9 b (Or.inl (Or.inl hb)))
           have hWc9_2 := hWc9_2.vis (fun b hb => hv9 b (hzc9_2 b hb))
           have hWc9_3 := hWc9_3.vis (fun b hb => hv9 b (hzc9_3 b hb))
           have hO9_0 := hO9_0.call (hF.trans g9).size lt9
           have hO8_0 := OwnF.others hO8_0 hjB9_o221 g9'
           have hF := Fine.own hF g9' hBm9 hid9
           obtain ⟨r10, hr10, h⟩ := Option.bind_eq_some_iff.1 h
           obtain ⟨v10_0, v10_1⟩ := r10
           try dsimp only at h
           refine ok_callm rfl (fun L10 w10 g10 lt10 => ?_)
           refine (reasm_Stream_End.c k _ (some q9) (v10_0, v10_1) hr10  w10 ((obr45 hWc9.sl hWc9_2.sl hWc9_3.sl).later g10).bare).mono ?_
           rintro e w10' ⟨rfl, hb10⟩
           refine ⟨(v10_0, v10_1, ()), rfl, hb10, fun g10' => ?_⟩
           try dsimp only
           have hF := hF.trans g10'
           have hO8_0 := hO8_0.later g10'
           have hO9_0 := hO9_0.later g10'
           have hWc9 := hWc9.later g10'
           have hWc9_2 := hWc9_2.later g10'
           have hWc9_3 := hWc9_3.later g10'
           refine ok_if (fun hc230 => ?_) (fun hc230 => ?_)
           ·have h := bif_t h hc230
            obtain ⟨v11_0, hr11, h⟩ := Option.bind_eq_some_iff.1 h
            refine ok_callm rfl (fun L11 w11 g11 lt11 => ?_)
            refine (reasm_Stream_Over.c k _ (some q9) v11_0 hr11  w11 ((obr45 hWc9.sl hWc9_2.sl hWc9_3.sl).later g11).bare).mono ?_
            rintro e w11' ⟨rfl, hb11⟩
            refine ⟨(v11_0, ()), rfl, hb11, fun g11' => ?_⟩
            try dsimp only
            have hF := hF.trans g11'
            have hO8_0 := hO8_0.later g11'
            have hO9_0 := hO9_0.later g11'
            have hWc9 := hWc9.later g11'
            have hWc9_2 := hWc9_2.later g11'
            have hWc9_3 := hWc9_3.later g11'
            refine ok_if (fun hc231 => ?_) (fun hc231 => ?_)
            ·have h := bif_t h hc231
             obtain ⟨v12_0, hr12, h⟩ := Option.bind_eq_some_iff.1 h
             refine ok_callm rfl (fun L12 w12 g12 lt12 => ?_)
             refine (reasm_Stream_At.c k _ (some q9) v12_0 hr12  w12 ((obr45 hWc9.sl hWc9_2.sl hWc9_3.sl).later g12).bare).mono ?_
             rintro e w12' ⟨rfl, hb12⟩
             refine ⟨(v12_0, ()), rfl, hb12, fun g12' => ?_⟩
             try dsimp only
             have hF := hF.trans g12'
             have hO8_0 := hO8_0.later g12'
             have hO9_0 := hO9_0.later g12'
             have hWc9 := hWc9.later g12'
             have hWc9_2 := hWc9_2.later g12'
             have hWc9_3 := hWc9_3.later g12'
             refine ok_if (fun hc232 => ?_) (fun hc232 => ?_)
             ·have h := bif_t h hc232
              obtain rfl := Option.some.inj h
              obtain rfl := hr_2 _ rfl
              intro ρ L w' _ he _ _
              exact ⟨rfl, (hF.ext he).below⟩
             ·have h := bif_f h hc232
              obtain ⟨v13_0, hr13, h⟩ := Option.bind_eq_some_iff.1 h
              refine ok_callm rfl (fun L13 w13 g13 lt13 => ?_)
              refine (reasm_Stream_Broken.c k _ (some q9) v13_0 hr13  w13 ((obr45 hWc9.sl hWc9_2.sl hWc9_3.sl).later g13).bare).mono ?_
              rintro e w13' ⟨rfl, hb13⟩
              refine ⟨(v13_0, ()), rfl, hb13, fun g13' => ?_⟩
              try dsimp only
              have hF := hF.trans g13'
              have hO8_0 := hO8_0.later g13'
              have hO9_0 := hO9_0.later g13'
              have hWc9 := hWc9.later g13'
              have hWc9_2 := hWc9_2.later g13'
              have hWc9_3 := hWc9_3.later g13'
              refine ok_if (fun hc233 => ?_) (fun hc233 => ?_)
              ·have h := bif_t h hc233
               obtain rfl := Option.some.inj h
               obtain rfl := hr_2 _ rfl
               intro ρ L w' _ he _ _
               exact ⟨rfl, (hF.ext he).below⟩
              ·have h := bif_f h hc233
               refine ok_if (fun hc234 => ?_) (fun hc234 => ?_)
               ·have h := bif_t h hc234
                obtain rfl := Option.some.inj h
                obtain rfl := hr_2 _ rfl
                intro ρ L w' _ he _ _
                exact ⟨rfl, (hF.ext he).below⟩
               ·have h := bif_f h hc234
                obtain rfl := Option.some.inj h
                have h := hl2 _ rfl
                exact ok_again (I := I2) m2 (Nat.lt_succ_self _) (fun L w' he => by rw [hI2]; exact ⟨_, q9, A9_w2, c9_w2, A9_w3, c9_w3, rfl, h, hF.trans he.fine, hWc9.later he.fine, hWc9_2.later he.fine, hWc9_3.later he.fine, djc9_1_0, djc9_2_0, djc9_2_1, hmc9_2, hmc9_3⟩)
            ·have h := bif_f h hc231
             obtain rfl := Option.some.inj h
             obtain rfl := hr_2 _ rfl
             intro ρ L w' _ he _ _
             exact ⟨rfl, (hF.ext he).below⟩
           ·have h := bif_f h hc230
            obtain ⟨v11_0, hr11, h⟩ := Option.bind_eq_some_iff.1 h
            refine ok_callm rfl (fun L11 w11 g11 lt11 => ?_)
            refine (reasm_Stream_Over.c k _ (some q9) v11_0 hr11  w11 ((obr45 hWc9.sl hWc9_2.sl hWc9_3.sl).later g11).bare).mono ?_
            rintro e w11' ⟨rfl, hb11⟩
            refine ⟨(v11_0, ()), rfl, hb11, fun g11' => ?_⟩
            try dsimp only
            have hF := hF.trans g11'
            have hO8_0 := hO8_0.later g11'
            have hO9_0 := hO9_0.later g11'
            have hWc9 := hWc9.later g11'
            have hWc9_2 := hWc9_2.later g11'
            have hWc9_3 := hWc9_3.later g11'
            refine ok_if (fun hc235 => ?_) (fun hc235 => ?_)
            ·have h := bif_t h hc235
             obtain ⟨v12_0, hr12, h⟩ := Option.bind_eq_some_iff.1 h
             refine ok_callm rfl (fun L12 w12 g12 lt12 => ?_)
             refine (reasm_Stream_At.c k _ (some q9) v12_0 hr12  w12 ((obr45 hWc9.sl hWc9_2.sl hWc9_3.sl).later g12).bare).mono ?_
             rintro e w12' ⟨rfl, hb12⟩
             refine ⟨(v12_0, ()), rfl, hb12, fun g12' => ?_⟩
             try dsimp only
             have hF := hF.trans g12'
             have hO8_0 := hO8_0.later g12'
             have hO9_0 := hO9_0.later g12'
             have hWc9 := hWc9.later g12'
             have hWc9_2 := hWc9_2.later g12'
             have hWc9_3 := hWc9_3.later g12'
             refine ok_if (fun hc236 => ?_) (fun hc236 => ?_)
             ·have h := bif_t h hc236
              obtain rfl := Option.some.inj h
              obtain rfl := hr_2 _ rfl
              intro ρ L w' _ he _ _
              exact ⟨rfl, (hF.ext he).below⟩
             ·have h := bif_f h hc236
              obtain ⟨v13_0, hr13, h⟩ := Option.bind_eq_some_iff.1 h
              refine ok_callm rfl (fun L13 w13 g13 lt13 => ?_)
              refine (reasm_Stream_Broken.c k _ (some q9) v13_0 hr13  w13 ((obr45 hWc9.sl hWc9_2.sl hWc9_3.sl).later g13).bare).mono ?_
              rintro e w13' ⟨rfl, hb13⟩
              refine ⟨(v13_0, ()), rfl, hb13, fun g13' => ?_⟩
              try dsimp only
              have hF := hF.trans g13'
              have hO8_0 := hO8_0.later g13'
              have hO9_0 := hO9_0.later g13'
              have hWc9 := hWc9.later g13'
              have hWc9_2 := hWc9_2.later g13'
              have hWc9_3 := hWc9_3.later g13'
              refine ok_if (fun hc237 => ?_) (fun hc237 => ?_)
              ·have h := bif_t h hc237
               obtain rfl := Option.some.inj h
               obtain rfl := hr_2 _ rfl
               intro ρ L w' _ he _ _
               exact ⟨rfl, (hF.ext he).below⟩
              ·have h := bif_f h hc237
               refine ok_if (fun hc238 => ?_) (fun hc238 => ?_)
               ·have h := bif_t h hc238
                obtain rfl := Option.some.inj h
                obtain rfl := hr_2 _ rfl
                intro ρ L w' _ he _ _
                exact ⟨rfl, (hF.ext he).below⟩
               ·have h := bif_f h hc238
                obtain rfl := Option.some.inj h
                obtain rfl := hr_2 _ rfl
                intro ρ L w' _ he _ _
                exact ⟨rfl, (hF.ext he).below⟩
            ·have h := bif_f h hc235
             obtain rfl := Option.some.inj h
             obtain rfl := hr_2 _ rfl
             intro ρ L w' _ he _ _
             exact ⟨rfl, (hF.ext he).below⟩
         ·have h := bif_f h hc220
          obtain ⟨r8, hr8, h⟩ := Option.bind_eq_some_iff.1 h
          obtain ⟨v8_0, q8⟩ := r8
          try dsimp only at h
          have hBv8 : ∀ b, (reasm_Stream_Reset.S b0 A2_b0_2 A2_b0_3) b → ¬ _ ∧ b < _ := fun b hb => by rcases hb with hb | hb | hb; exact ⟨(hW2_b0.lt b hb).2.1, hW2_b0.lt1 b hb⟩; exact ⟨(hW2_b0_2.lt b hb).2.1, hW2_b0_2.lt1 b hb⟩; exact ⟨(hW2_b0_3.lt b hb).2.1, hW2_b0_3.lt1 b hb⟩
          have hBm8 : ∀ b, (reasm_Stream_Reset.S b0 A2_b0_2 A2_b0_3) b → (fun _ => False) b ∨ w.heap.size ≤ b := fun b hb => by rcases hb with hb | hb | hb; exact hmn0 b hb; exact hm2_b0_2 b hb; exact hm2_b0_3 b hb
          refine ok_callo (reasm_Stream_Reset.S b0 A2_b0_2 A2_b0_3) rfl hBv8 (fun L8 w8 g8 lt8 => ?_)
          refine (reasm_Stream_Reset.c k _ q2_b0 _ _ _ _ r16.2.1 (v8_0, q8) hr8  w8 (hW2_b0.later g8).bare' (hW2_b0_2.later g8).bare' (hW2_b0_3.later g8).bare' dj_w13_w12 dj_w14_w12 dj_w14_w13).mono ?_
          rintro e w8' ⟨A8_w2, c8_w2, A8_w3, c8_w3, rfl, hf8, hWc8, hWc8_2, hWc8_3, djc8_1_0, djc8_2_0, djc8_2_1, hzc8_2, hzc8_3⟩
          refine ⟨(v8_0, ()), rfl, hf8, fun g8' hid8 hv8 => ?_⟩
          try dsimp only
          have hmc8 := hmn0
          have hmc8_2 : ∀ b, blk (A8_w2, 0, 0) b → (fun _ => False) b ∨ w.heap.size ≤ b := fun b hb => (hzc8_2 b hb).elim (hBm8 b) (fun h => Or.inr (Nat.le_trans (hF.trans g8).size h))
          have hmc8_3 : ∀ b, blk (A8_w3, 0, 0) b → (fun _ => False) b ∨ w.heap.size ≤ b := fun b hb => (hzc8_3 b hb).elim (hBm8 b) (fun h => Or.inr (Nat.le_trans (hF.trans g8).size h))
          have hWc8 := hWc8.vis (fun b hb => hv8 b (Or.inl (Or.inl hb)))
          have hWc8_2 := hWc8_2.vis (fun b hb => hv8 b (hzc8_2 b hb))
          have hWc8_3 := hWc8_3.vis (fun b hb => hv8 b (hzc8_3 b hb))
          have hF := Fine.own hF g8' hBm8 hid8
          obtain ⟨r9, hr9, h⟩ := Option.bind_eq_some_iff.1 h
          obtain ⟨v9_0, v9_1⟩ := r9
          try dsimp only at h
          refine ok_callm rfl (fun L9 w9 g9 lt9 => ?_)
          refine (reasm_Stream_End.c k _ (some q8) (v9_0, v9_1) hr9  w9 ((obr45 hWc8.sl hWc8_2.sl hWc8_3.sl).later g9).bare).mono ?_
          rintro e w9' ⟨rfl, hb9⟩
          refine ⟨(v9_0, v9_1, ()), rfl, hb9, fun g9' => ?_⟩
          try dsimp only
          have hF := hF.trans g9'
          have hWc8 := hWc8.later g9'
          have hWc8_2 := hWc8_2.later g9'
          have hWc8_3 := hWc8_3.later g9'
          refine ok_if (fun hc242 => ?_) (fun hc242 => ?_)
          ·have h := bif_t h hc242
           obtain ⟨v10_0, hr10, h⟩ := Option.bind_eq_some_iff.1 h
           refine ok_callm rfl (fun L10 w10 g10 lt10 => ?_)
           refine (reasm_Stream_Over.c k _ (some q8) v10_0 hr10  w10 ((obr45 hWc8.sl hWc8_2.sl hWc8_3.sl).later g10).bare).mono ?_
           rintro e w10' ⟨rfl, hb10⟩
           refine ⟨(v10_0, ()), rfl, hb10, fun g10' => ?_⟩
           try dsimp only
           have hF := hF.trans g10'
           have hWc8 := hWc8.later g10'
           have hWc8_2 := hWc8_2.later g10'
           have hWc8_3 := hWc8_3.later g10'
           refine ok_if (fun hc243 => ?_) (fun hc243 => ?_)
           ·have h := bif_t h hc243
            obtain ⟨v11_0, hr11, h⟩ := Option.bind_eq_some_iff.1 h
            refine ok_callm rfl (fun L11 w11 g11 lt11 => ?_)
            refine (reasm_Stream_At.c k _ (some q8) v11_0 hr11  w11 ((obr45 hWc8.sl hWc8_2.sl hWc8_3.sl).later g11).bare).mono ?_
            rintro e w11' ⟨rfl, hb11⟩
            refine ⟨(v11_0, ()), rfl, hb11, fun g11' => ?_⟩
            try dsimp only
            have hF := hF.trans g11'
            have hWc8 := hWc8.later g11'
            have hWc8_2 := hWc8_2.later g11'
            have hWc8_3 := hWc8_3.later g11'
            refine ok_if (fun hc244 => ?_) (fun hc244 => ?_)
            ·have h := bif_t h hc244
             obtain rfl := Option.some.inj h
             obtain rfl := hr_2 _ rfl
             intro ρ L w' _ he _ _
             exact ⟨rfl, (hF.ext he).below⟩
            ·have h := bif_f h hc244
             obtain ⟨v12_0, hr12, h⟩ := Option.bind_eq_some_iff.1 h
             refine ok_callm rfl (fun L12 w12 g12 lt12 => ?_)
             refine (reasm_Stream_Broken.c k _ (some q8) v12_0 hr12  w12 ((obr45 hWc8.sl hWc8_2.sl hWc8_3.sl).later g12).bare).mono ?_
             rintro e w12' ⟨rfl, hb12⟩
             refine ⟨(v12_0, ()), rfl, hb12, fun g12' => ?_⟩
             try dsimp only
             have hF := hF.trans g12'
             have hWc8 := hWc8.later g12'
             have hWc8_2 := hWc8_2.later g12'
             have hWc8_3 := hWc8_3.later g12'
             refine ok_if (fun hc245 => ?_) (fun hc245 => ?_)
             ·have h := bif_t h hc245
              obtain rfl := Option.some.inj h
              obtain rfl := hr_2 _ rfl
              intro ρ L w' _ he _ _
              exact ⟨rfl, (hF.ext he).below⟩
             ·have h := bif_f h hc245
              refine ok_if (fun hc246 => ?_) (fun hc246 => ?_)
              ·have h := bif_t h hc246
               obtain rfl := Option.some.inj h
               obtain rfl := hr_2 _ rfl
               intro ρ L w' _ he _ _
               exact ⟨rfl, (hF.ext he).below⟩
              ·have h := bif_f h hc246
               obtain rfl := Option.some.inj h
               have h := hl2 _ rfl
               exact ok_again (I := I2) m2 (Nat.lt_succ_self _) (fun L w' he => by rw [hI2]; exact ⟨_, q8, A8_w2, c8_w2, A8_w3, c8_w3, rfl, h, hF.trans he.fine, hWc8.later he.fine, hWc8_2.later he.fine, hWc8_3.later he.fine, djc8_1_0, djc8_2_0, djc8_2_1, hmc8_2, hmc8_3⟩)
           ·have h := bif_f h hc243
            obtain rfl := Option.some.inj h
            obtain rfl := hr_2 _ rfl
            intro ρ L w' _ he _ _
            exact ⟨rfl, (hF.ext he).below⟩
          ·have h := bif_f h hc242
           obtain ⟨v10_0, hr10, h⟩ := Option.bind_eq_some_iff.1 h
           refine ok_callm rfl (fun L10 w10 g10 lt10 => ?_)
           refine (reasm_Stream_Over.c k _ (some q8) v10_0 hr10  w10 ((obr45 hWc8.sl hWc8_2.sl hWc8_3.sl).later g10).bare).mono ?_
           rintro e w10' ⟨rfl, hb10⟩
           refine ⟨(v10_0, ()), rfl, hb10, fun g10' => ?_⟩
           try dsimp only
           have hF := hF.trans g10'
           have hWc8 := hWc8.later g10'
           have hWc8_2 := hWc8_2.later g10'
           have hWc8_3 := hWc8_3.later g10'
           refine ok_if (fun hc247 => ?_) (fun hc247 => ?_)
           ·have h := bif_t h hc247
            obtain ⟨v11_0, hr11, h⟩ := Option.bind_eq_some_iff.1 h
            refine ok_callm rfl (fun L11 w11 g11 lt11 => ?_)
            refine (reasm_Stream_At.c k _ (some q8) v11_0 hr11  w11 ((obr45 hWc8.sl hWc8_2.sl hWc8_3.sl).later g11).bare).mono ?_
            rintro e w11' ⟨rfl, hb11⟩
            refine ⟨(v11_0, ()), rfl, hb11, fun g11' => ?_⟩
            try dsimp only
            have hF := hF.trans g11'
            have hWc8 := hWc8.later g11'
            have hWc8_2 := hWc8_2.later g11'
            have hWc8_3 := hWc8_3.later g11'
            refine ok_if (fun hc248 => ?_) (fun hc248 => ?_)
            ·have h := bif_t h hc248
             obtain rfl := Option.some.inj h
             obtain rfl := hr_2 _ rfl
             intro ρ L w' _ he _ _
             exact ⟨rfl, (hF.ext he).below⟩
            ·have h := bif_f h hc248
             obtain ⟨v12_0, hr12, h⟩ := Option.bind_eq_some_iff.1 h
             refine ok_callm rfl (fun L12 w12 g12 lt12 => ?_)
             refine (reasm_Stream_Broken.c k _ (some q8) v12_0 hr12  w12 ((obr45 hWc8.sl hWc8_2.sl hWc8_3.sl).later g12).bare).mono ?_
             rintro e w12' ⟨rfl, hb12⟩
             refine ⟨(v12_0, ()), rfl, hb12, fun g12' => ?_⟩
             try dsimp only
             have hF := hF.trans g12'
             have hWc8 := hWc8.later g12'
             have hWc8_2 := hWc8_2.later g12'
             have hWc8_3 := hWc8_3.later g12'
             refine ok_if (fun hc249 => ?_) (fun hc249 => ?_)
             ·have h := bif_t h hc249
              obtain rfl := Option.some.inj h
              obtain rfl := hr_2 _ rfl
              intro ρ L w' _ he _ _
              exact ⟨rfl, (hF.ext he).below⟩
             ·have h := bif_f h hc249
              refine ok_if (fun hc250 => ?_) (fun hc250 => ?_)
              ·have h := bif_t h hc250
               obtain rfl := Option.some.inj h
               obtain rfl := hr_2 _ rfl
               intro ρ L w' _ he _ _
               exact ⟨rfl, (hF.ext he).below⟩
              ·have h := bif_f h hc250
               obtain rfl := Option.some.inj h
               obtain rfl := hr_2 _ rfl
               intro ρ L w' _ he _ _
               exact ⟨rfl, (hF.ext he).below⟩
           ·have h := bif_f h hc247
            obtain rfl := Option.some.inj h
            obtain rfl := hr_2 _ rfl
            intro ρ L w' _ he _ _
            exact ⟨rfl, (hF.ext he).below⟩
     ·have h := bif_f h hc19
      obtain ⟨v5_0, hr5, h⟩ := Option.bind_eq_some_iff.1 h
      refine ok_callm rfl (fun L5 w5 g5 lt5 => ?_)
      refine (reasm_Stream_At.c k _ (some q2_b0) v5_0 hr5  w5 ((obr45 hW2_b0.sl hW2_b0_2.sl hW2_b0_3.sl).later g5).bare).mono ?_
      rintro e w5' ⟨rfl, hb5⟩
      refine ⟨(v5_0, ()), rfl, hb5, fun g5' => ?_⟩
      try dsimp only
      have hF := hF.trans g5'
      have hW2_b0 := hW2_b0.later g5'
      have hW2_b0_2 := hW2_b0_2.later g5'
      have hW2_b0_3 := hW2_b0_3.later g5'
      obtain ⟨v6_0, hr6, h⟩ := Option.bind_eq_some_iff.1 h
      refine ok_callm rfl (fun L6 w6 g6 lt6 => ?_)
      refine (reasm_Stream_Broken.c k _ (some q2_b0) v6_0 hr6  w6 ((obr45 hW2_b0.sl hW2_b0_2.sl hW2_b0_3.sl).later g6).bare).mono ?_
      rintro e w6' ⟨rfl, hb6⟩
      refine ⟨(v6_0, ()), rfl, hb6, fun g6' => ?_⟩
      try dsimp only
      have hF := hF.trans g6'
      have hW2_b0 := hW2_b0.later g6'
      have hW2_b0_2 := hW2_b0_2.later g6'
      have hW2_b0_3 := hW2_b0_3.later g6'
      refine ok_if (fun hc251 => ?_) (fun hc251 => ?_)
      ·have h := bif_t h hc251
       obtain ⟨r7, hr7, h⟩ := Option.bind_eq_some_iff.1 h
       obtain ⟨v7_0, v7_1⟩ := r7
       try dsimp only at h
       refine ok_callm rfl (fun L7 w7 g7 lt7 => ?_)
       refine (reasm_Stream_End.c k _ (some q2_b0) (v7_0, v7_1) hr7  w7 ((obr45 hW2_b0.sl hW2_b0_2.sl hW2_b0_3.sl).later g7).bare).mono ?_
       rintro e w7' ⟨rfl, hb7⟩
       refine ⟨(v7_0, v7_1, ()), rfl, hb7, fun g7' => ?_⟩
       try dsimp only
       have hF := hF.trans g7'
       have hW2_b0 := hW2_b0.later g7'
       have hW2_b0_2 := hW2_b0_2.later g7'
       have hW2_b0_3 := hW2_b0_3.later g7'
       refine ok_if (fun hc252 => ?_) (fun hc252 => ?_)
       ·have h := bif_t h hc252
        refine ok_need rfl ?_
        refine ok_if (fun hc253 => ?_) (fun hc253 => ?_)
        ·have h := bif_t h hc253
         refine ok_if (fun hc254 => ?_) (fun hc254 => ?_)
         ·have h := bif_t h hc254
          obtain ⟨r8, hr8, h⟩ := Option.bind_eq_some_iff.1 h
          obtain ⟨v8_0, q8⟩ := r8
          try dsimp only at h
          have hBv8 : ∀ b, (reasm_Stream_Data.S b0 A2_b0_2 A2_b0_3) b → ¬ _ ∧ b < _ := fun b hb => by rcases hb with hb | hb | hb; exact ⟨(hW2_b0.lt b hb).2.1, hW2_b0.lt1 b hb⟩; exact ⟨(hW2_b0_2.lt b hb).2.1, hW2_b0_2.lt1 b hb⟩; exact ⟨(hW2_b0_3.lt b hb).2.1, hW2_b0_3.lt1 b hb⟩
          have hBm8 : ∀ b, (reasm_Stream_Data.S b0 A2_b0_2 A2_b0_3) b → (fun _ => False) b ∨ w.heap.size ≤ b := fun b hb => by rcases hb with hb | hb | hb; exact hmn0 b hb; exact hm2_b0_2 b hb; exact hm2_b0_3 b hb
          refine ok_callo (reasm_Stream_Data.S b0 A2_b0_2 A2_b0_3) rfl hBv8 (fun L8 w8 g8 lt8 => ?_)
          refine (reasm_Stream_Data.c k _ q2_b0 _ _ _ _ r16.2.1 _ _ _ r16.2.2.1 true (v8_0, q8) hr8 rfl w8 (hW2_b0.later g8).bare' (hW2_b0_2.later g8).bare' (hW2_b0_3.later g8).bare' dj_w13_w12 dj_w14_w12 dj_w14_w13 (hE3_2.later ((hF.trans g8).with hBm8))).mono ?_
          rintro e w8' ⟨A8_w2, c8_w2, A8_w3, c8_w3, rfl, hf8, hWc8, hWc8_2, hWc8_3, djc8_1_0, djc8_2_0, djc8_2_1, hzc8_2, hzc8_3⟩
          refine ⟨(v8_0, ()), rfl, hf8, fun g8' hid8 hv8 => ?_⟩
          try dsimp only
          have hmc8 := hmn0
          have hmc8_2 : ∀ b, blk (A8_w2, 0, 0) b → (fun _ => False) b ∨ w.heap.size ≤ b := fun b hb => (hzc8_2 b hb).elim (hBm8 b) (fun h => Or.inr (Nat.le_trans (hF.trans g8).size h))
          have hmc8_3 : ∀ b, blk (A8_w3, 0, 0) b → (fun _ => False) b ∨ w.heap.size ≤ b := fun b hb => (hzc8_3 b hb).elim (hBm8 b) (fun h => Or.inr (Nat.le_trans (hF.trans g8).size h))
          have hWc8 := hWc8.vis (fun b hb => hv8 b (Or.inl (Or.inl hb)))
          have hWc8_2 := hWc8_2.vis (fun b hb => hv8 b (hzc8_2 b hb))
          have hWc8_3 := hWc8_3.vis (fun b hb => hv8 b (hzc8_3 b hb))
          have hF := Fine.own hF g8' hBm8 hid8
          obtain ⟨r9, hr9, h⟩ := Option.bind_eq_some_iff.1 h
          obtain ⟨v9_0, v9_1⟩ := r9
          try dsimp only at h
          refine ok_callm rfl (fun L9 w9 g9 lt9 => ?_)
          refine (reasm_Stream_End.c k _ (some q8) (v9_0, v9_1) hr9  w9 ((obr45 hWc8.sl hWc8_2.sl hWc8_3.sl).later g9).bare).mono ?_
          rintro e w9' ⟨rfl, hb9⟩
          refine ⟨(v9_0, v9_1, ()), rfl, hb9, fun g9' => ?_⟩
          try dsimp only
          have hF := hF.trans g9'
          have hWc8 := hWc8.later g9'
          have hWc8_2 := hWc8_2.later g9'
          have hWc8_3 := hWc8_3.later g9'
          refine ok_if (fun hc258 => ?_) (fun hc258 => ?_)
          ·have h := bif_t h hc258
           obtain rfl := Option.some.inj h
           have h := hl2 _ rfl
           exact ok_again (I := I2) m2 (Nat.lt_succ_self _) (fun L w' he => by rw [hI2]; exact ⟨_, q8, A8_w2, c8_w2, A8_w3, c8_w3, rfl, h, hF.trans he.fine, hWc8.later he.fine, hWc8_2.later he.fine, hWc8_3.later he.fine, djc8_1_0, djc8_2_0, djc8_2_1, hmc8_2, hmc8_3⟩)
          ·have h := bif_f h hc258
           obtain rfl := Option.some.inj h
           have h := hl2 _ rfl
           exact ok_again (I := I2) m2 (Nat.lt_succ_self _) (fun L w' he => by rw [hI2]; exact ⟨_, q8, A8_w2, c8_w2, A8_w3, c8_w3, rfl, h, hF.trans he.fine, hWc8.later he.fine, hWc8_2.later he.fine, hWc8_3.later he.fine, djc8_1_0, djc8_2_0, djc8_2_1, hmc8_2, hmc8_3⟩)
         ·have h := bif_f h hc254
          obtain ⟨r8, hr8, h⟩ := Option.bind_eq_some_iff.1 h
          obtain ⟨v8_0, q8⟩ := r8
          try dsimp only at h
          have hBv8 : ∀ b, (reasm_Stream_Data.S b0 A2_b0_2 A2_b0_3) b → ¬ _ ∧ b < _ := fun b hb => by rcases hb with hb | hb | hb; exact ⟨(hW2_b0.lt b hb).2.1, hW2_b0.lt1 b hb⟩; exact ⟨(hW2_b0_2.lt b hb).2.1, hW2_b0_2.lt1 b hb⟩; exact ⟨(hW2_b0_3.lt b hb).2.1, hW2_b0_3.lt1 b hb⟩
          have hBm8 : ∀ b, (reasm_Stream_Data.S b0 A2_b0_2 A2_b0_3) b → (fun _ => False) b ∨ w.heap.size ≤ b := fun b hb => by rcases hb with hb | hb | hb; exact hmn0 b hb; exact hm2_b0_2 b hb; exact hm2_b0_3 b hb
          refine ok_callo (reasm_Stream_Data.S b0 A2_b0_2 A2_b0_3) rfl hBv8 (fun L8 w8 g8 lt8 => ?_)
          refine (reasm_Stream_Data.c k _ q2_b0 _ _ _ _ r16.2.1 _ _ _ r16.2.2.1 false (v8_0, q8) hr8 rfl w8 (hW2_b0.later g8).bare' (hW2_b0_2.later g8).bare' (hW2_b0_3.later g8).bare' dj_w13_w12 dj_w14_w12 dj_w14_w13 (hE3_2.later ((hF.trans g8).with hBm8))).mono ?_
          rintro e w8' ⟨A8_w2, c8_w2, A8_w3, c8_w3, rfl, hf8, hWc8, hWc8_2, hWc8_3, djc8_1_0, djc8_2_0, djc8_2_1, hzc8_2, hzc8_3⟩
          refine ⟨(v8_0, ()), rfl, hf8, fun g8' hid8 hv8 => ?_⟩
          try dsimp only
          have hmc8 := hmn0
          have hmc8_2 : ∀ b, blk (A8_w2, 0, 0) b → (fun _ => False) b ∨ w.heap.size ≤ b := fun b hb => (hzc8_2 b hb).elim (hBm8 b) (fun h => Or.inr (Nat.le_trans (hF.trans g8).size h))
          have hmc8_3 : ∀ b, blk (A8_w3, 0, 0) b → (fun _ => False) b ∨ w.heap.size ≤ b := fun b hb => (hzc8_3 b hb).elim (hBm8 b) (fun h => Or.inr (Nat.le_trans (hF.trans g8).size h))
          have hWc8 := hWc8.vis (fun b hb => hv8 b (Or.inl (Or.inl hb)))
          have hWc8_2 := hWc8_2.vis (fun b hb => hv8 b (hzc8_2 b hb))
          have hWc8_3 := hWc8_3.vis (fun b hb => hv8 b (hzc8_3 b hb))
          have hF := Fine.own hF g8' hBm8 hid8
          obtain ⟨r9, hr9, h⟩ := Option.bind_eq_some_iff.1 h
          obtain ⟨v9_0, v9_1⟩ := r9
          try dsimp only at h
          refine ok_callm rfl (fun L9 w9 g9 lt9 => ?_)
          refine (reasm_Stream_End.c k _ (some q8) (v9_0, v9_1) hr9  w9 ((obr45 hWc8.sl hWc8_2.sl hWc8_3.sl).later g9).bare).mono ?_
          rintro e w9' ⟨rfl, hb9⟩
          refine ⟨(v9_0, v9_1, ()), rfl, hb9, fun g9' => ?_⟩
          try dsimp only
          have hF := hF.trans g9'
          have hWc8 := hWc8.later g9'
          have hWc8_2 := hWc8_2.later g9'
          have hWc8_3 := hWc8_3.later g9'
          refine ok_if (fun hc262 => ?_) (fun hc262 => ?_)
          ·have h := bif_t h hc262
           obtain rfl := Option.some.inj h
           have h := hl2 _ rfl
           exact ok_again (I := I2) m2 (Nat.lt_succ_self _) (fun L w' he => by rw [hI2]; exact ⟨_, q8, A8_w2, c8_w2, A8_w3, c8_w3, rfl, h, hF.trans he.fine, hWc8.later he.fine, hWc8_2.later he.fine, hWc8_3.later he.fine, djc8_1_0, djc8_2_0, djc8_2_1, hmc8_2, hmc8_3⟩)
          ·have h := bif_f h hc262
           obtain rfl := Option.some.inj h
           have h := hl2 _ rfl
           exact ok_again (I := I2) m2 (Nat.lt_succ_self _) (fun L w' he => by rw [hI2]; exact ⟨_, q8, A8_w2, c8_w2, A8_w3, c8_w3, rfl, h, hF.trans he.fine, hWc8.later he.fine, hWc8_2.later he.fine, hWc8_3.later he.fine, djc8_1_0, djc8_2_0, djc8_2_1, hmc8_2, hmc8_3⟩)
        ·have h := bif_f h hc253
         refine ok_if (fun hc263 => ?_) (fun hc263 => ?_)
         ·have h := bif_t h hc263
          obtain ⟨r8, hr8, h⟩ := Option.bind_eq_some_iff.1 h
          obtain ⟨s8_0, q8⟩ := r8
          try dsimp only at h
          have hBv8 : ∀ b, (reasm_Stream_Read.S b0 A2_b0_2 A2_b0_3) b → ¬ _ ∧ b < _ := fun b hb => by rcases hb with hb | hb | hb; exact ⟨(hW2_b0.lt b hb).2.1, hW2_b0.lt1 b hb⟩; exact ⟨(hW2_b0_2.lt b hb).2.1, hW2_b0_2.lt1 b hb⟩; exact ⟨(hW2_b0_3.lt b hb).2.1, hW2_b0_3.lt1 b hb⟩
          have hBm8 : ∀ b, (reasm_Stream_Read.S b0 A2_b0_2 A2_b0_3) b → (fun _ => False) b ∨ w.heap.size ≤ b := fun b hb => by rcases hb with hb | hb | hb; exact hmn0 b hb; exact hm2_b0_2 b hb; exact hm2_b0_3 b hb
          refine ok_callo (reasm_Stream_Read.S b0 A2_b0_2 A2_b0_3) rfl hBv8 (fun L8 w8 g8 lt8 => ?_)
          refine (reasm_Stream_Read.c k _ q2_b0 _ _ _ _ r16.2.1 (s8_0, q8) hr8  w8 (hW2_b0.later g8).bare' (hW2_b0_2.later g8).bare' (hW2_b0_3.later g8).bare' dj_w13_w12 dj_w14_w12 dj_w14_w13).mono ?_
          rintro e w8' ⟨A8_w2, c8_w2, A8_w3, c8_w3, A8_0, c8_0, rfl, hf8, hWc8, hWc8_2, hWc8_3, djc8_1_0, djc8_2_0, djc8_2_1, hzc8_2, hzc8_3, hO8_0, dr8_o264_2, dr8_o264_3⟩
          refine ⟨((A8_0, s8_0.length, c8_0), ()), rfl, hf8, fun g8' hid8 hv8 => ?_⟩
          try dsimp only
          have dk8_o264 : Dj A8_0 b0 := Dj.new hO8_0.fresh (fun b hb => Nat.lt_of_lt_of_le (hBv8 b (Or.inl hb)).2 g8.size)
          have hmc8 := hmn0
          have hmc8_2 : ∀ b, blk (A8_w2, 0, 0) b → (fun _ => False) b ∨ w.heap.size ≤ b := fun b hb => (hzc8_2 b hb).elim (hBm8 b) (fun h => Or.inr (Nat.le_trans (hF.trans g8).size h))
          have hmc8_3 : ∀ b, blk (A8_w3, 0, 0) b → (fun _ => False) b ∨ w.heap.size ≤ b := fun b hb => (hzc8_3 b hb).elim (hBm8 b) (fun h => Or.inr (Nat.le_trans (hF.trans g8).size h))
          have hWc8 := hWc8.vis (fun b hb => hv8 b (Or.inl (Or.inl hb)))
          have hWc8_2 := hWc8_2.vis (fun b hb => hv8 b (hzc8_2 b hb))
          have hWc8_3 := hWc8_3.vis (fun b hb => hv8 b (hzc8_3 b hb))
          have hO8_0 := hO8_0.call (hF.trans g8).size lt8
          have hF := Fine.own hF g8' hBm8 hid8
          obtain ⟨r9, hr9, h⟩ := Option.bind_eq_some_iff.1 h
          obtain ⟨v9_0, v9_1⟩ := r9
          try dsimp only at h
          refine ok_callm rfl (fun L9 w9 g9 lt9 => ?_)
          refine (reasm_Stream_End.c k _ (some q8) (v9_0, v9_1) hr9  w9 ((obr45 hWc8.sl hWc8_2.sl hWc8_3.sl).later g9).bare).mono ?_
          rintro e w9' ⟨rfl, hb9⟩
          refine ⟨(v9_0, v9_1, ()), rfl, hb9, fun g9' => ?_⟩
          try dsimp only
          have hF := hF.trans g9'
          have hO8_0 := hO8_0.later g9'
          have hWc8 := hWc8.later g9'
          have hWc8_2 := hWc8_2.later g9'
          have hWc8_3 := hWc8_3.later g9'
          refine ok_if (fun hc268 => ?_) (fun hc268 => ?_)
          ·have h := bif_t h hc268
           obtain rfl := Option.some.inj h
           have h := hl2 _ rfl
           exact ok_again (I := I2) m2 (Nat.lt_succ_self _) (fun L w' he => by rw [hI2]; exact ⟨_, q8, A8_w2, c8_w2, A8_w3, c8_w3, rfl, h, hF.trans he.fine, hWc8.later he.fine, hWc8_2.later he.fine, hWc8_3.later he.fine, djc8_1_0, djc8_2_0, djc8_2_1, hmc8_2, hmc8_3⟩)
          ·have h := bif_f h hc268
           obtain rfl := Option.some.inj h
           have h := hl2 _ rfl
           exact ok_again (I := I2) m2 (Nat.lt_succ_self _) (fun L w' he => by rw [hI2]; exact ⟨_, q8, A8_w2, c8_w2, A8_w3, c8_w3, rfl, h, hF.trans he.fine, hWc8.later he.fine, hWc8_2.later he.fine, hWc8_3.later he.fine, djc8_1_0, djc8_2_0, djc8_2_1, hmc8_2, hmc8_3⟩)
         ·have h := bif_f h hc263
          obtain ⟨r8, hr8, h⟩ := Option.bind_eq_some_iff.1 h
          obtain ⟨v8_0, q8⟩ := r8
          try dsimp only at h
          have hBv8 : ∀ b, (reasm_Stream_Reset.S b0 A2_b0_2 A2_b0_3) b → ¬ _ ∧ b < _ := fun b hb => by rcases hb with hb | hb | hb; exact ⟨(hW2_b0.lt b hb).2.1, hW2_b0.lt1 b hb⟩; exact ⟨(hW2_b0_2.lt b hb).2.1, hW2_b0_2.lt1 b hb⟩; exact ⟨(hW2_b0_3.lt b hb).2.1, hW2_b0_3.lt1 b hb⟩
          have hBm8 : ∀ b, (reasm_Stream_Reset.S b0 A2_b0_2 A2_b0_3) b → (fun _ => False) b ∨ w.heap.size ≤ b := fun b hb => by rcases hb with hb | hb | hb; exact hmn0 b hb; exact hm2_b0_2 b hb; exact hm2_b0_3 b hb
          refine ok_callo (reasm_Stream_Reset.S b0 A2_b0_2 A2_b0_3) rfl hBv8 (fun L8 w8 g8 lt8 => ?_)
          refine (reasm_Stream_Reset.c k _ q2_b0 _ _ _ _ r16.2.1 (v8_0, q8) hr8  w8 (hW2_b0.later g8).bare' (hW2_b0_2.later g8).bare' (hW2_b0_3.later g8).bare' dj_w13_w12 dj_w14_w12 dj_w14_w13).mono ?_
          rintro e w8' ⟨A8_w2, c8_w2, A8_w3, c8_w3, rfl, hf8, hWc8, hWc8_2, hWc8_3, djc8_1_0, djc8_2_0, djc8_2_1, hzc8_2, hzc8_3⟩
          refine ⟨(v8_0, ()), rfl, hf8, fun g8' hid8 hv8 => ?_⟩
          try dsimp only
          have hmc8 := hmn0
          have hmc8_2 : ∀ b, blk (A8_w2, 0, 0) b → (fun _ => False) b ∨ w.heap.size ≤ b := fun b hb => (hzc8_2 b hb).elim (hBm8 b) (fun h => Or.inr (Nat.le_trans (hF.trans g8).size h))
          have hmc8_3 : ∀ b, blk (A8_w3, 0, 0) b → (fun _ => False) b ∨ w.heap.size ≤ b := fun b hb => (hzc8_3 b hb).elim (hBm8 b) (fun h => Or.inr (Nat.le_trans (hF.trans g8).size h))
          have hWc8 := hWc8.vis (fun b hb => hv8 b (Or.inl (Or.inl hb)))
          have hWc8_2 := hWc8_2.vis (fun b hb => hv8 b (hzc8_2 b hb))
          have hWc8_3 := hWc8_3.vis (fun b hb => hv8 b (hzc8_3 b hb))
          have hF := Fine.own hF g8' hBm8 hid8
          obtain ⟨r9, hr9, h⟩ := Option.bind_eq_some_iff.1 h
          obtain ⟨v9_0, v9_1⟩ := r9
          try dsimp only at h
          refine ok_callm rfl (fun L9 w9 g9 lt9 => ?_)
          refine (reasm_Stream_End.c k _ (some q8) (v9_0, v9_1) hr9  w9 ((obr45 hWc8.sl hWc8_2.sl hWc8_3.sl).later g9).bare).mono ?_
          rintro e w9' ⟨rfl, hb9⟩
          refine ⟨(v9_0, v9_1, ()), rfl, hb9, fun g9' => ?_⟩
          try dsimp only
          have hF := hF.trans g9'
          have hWc8 := hWc8.later g9'
          have hWc8_2 := hWc8_2.later g9'
          have hWc8_3 := hWc8_3.later g9'
          refine ok_if (fun hc272 => ?_) (fun hc272 => ?_)
          ·have h := bif_t h hc272
           obtain rfl := Option.some.inj h
           have h := hl2 _ rfl
           exact ok_again (I := I2) m2 (Nat.lt_succ_self _) (fun L w' he => by rw [hI2]; exact ⟨_, q8, A8_w2, c8_w2, A8_w3, c8_w3, rfl, h, hF.trans he.fine, hWc8.later he.fine, hWc8_2.later he.fine, hWc8_3.later he.fine, djc8_1_0, djc8_2_0, djc8_2_1, hmc8_2, hmc8_3⟩)
          ·have h := bif_f h hc272
           obtain rfl := Option.some.inj h
           have h := hl2 _ rfl
           exact ok_again (I := I2) m2 (Nat.lt_succ_self _) (fun L w' he => by rw [hI2]; exact ⟨_, q8, A8_w2, c8_w2, A8_w3, c8_w3, rfl, h, hF.trans he.fine, hWc8.later he.fine, hWc8_2.later he.fine, hWc8_3.later he.fine, djc8_1_0, djc8_2_0, djc8_2_1, hmc8_2, hmc8_3⟩)
       ·have h := bif_f h hc252
        refine ok_need rfl ?_
        refine ok_if (fun hc273 => ?_) (fun hc273 => ?_)
        ·have h := bif_t h hc273
         refine ok_if (fun hc274 => ?_) (fun hc274 => ?_)
         ·have h := bif_t h hc274
          obtain ⟨r8, hr8, h⟩ := Option.bind_eq_some_iff.1 h
          obtain ⟨v8_0, q8⟩ := r8
          try dsimp only at h
          have hBv8 : ∀ b, (reasm_Stream_Data.S b0 A2_b0_2 A2_b0_3) b → ¬ _ ∧ b < _ := fun b hb => by rcases hb with hb | hb | hb; exact ⟨(hW2_b0.lt b hb).2.1, hW2_b0.lt1 b hb⟩; exact ⟨(hW2_b0_2.lt b hb).2.1, hW2_b0_2.lt1 b hb⟩; exact ⟨(hW2_b0_3.lt b hb).2.1, hW2_b0_3.lt1 b hb⟩
          have hBm8 : ∀ b, (reasm_Stream_Data.S b0 A2_b0_2 A2_b0_3) b → (fun _ => False) b ∨ w.heap.size ≤ b := fun b hb => by rcases hb with hb | hb | hb; exact hmn0 b hb; exact hm2_b0_2 b hb; exact hm2_b0_3 b hb
          refine ok_callo (reasm_Stream_Data.S b0 A2_b0_2 A2_b0_3) rfl hBv8 (fun L8 w8 g8 lt8 => ?_)
          refine (reasm_Stream_Data.c k _ q2_b0 _ _ _ _ r16.2.1 _ _ _ r16.2.2.1 true (v8_0, q8) hr8 rfl w8 (hW2_b0.later g8).bare' (hW2_b0_2.later g8).bare' (hW2_b0_3.later g8).bare' dj_w13_w12 dj_w14_w12 dj_w14_w13 (hE3_2.later ((hF.trans g8).with hBm8))).mono ?_
          rintro e w8' ⟨A8_w2, c8_w2, A8_w3, c8_w3, rfl, hf8, hWc8, hWc8_2, hWc8_3, djc8_1_0, djc8_2_0, djc8_2_1, hzc8_2, hzc8_3⟩
          refine ⟨(v8_0, ()), rfl, hf8, fun g8' hid8 hv8 => ?_⟩
          try dsimp only
          have hmc8 := hmn0
          have hmc8_2 : ∀ b, blk (A8_w2, 0, 0) b → (fun _ => False) b ∨ w.heap.size ≤ b := fun b hb => (hzc8_2 b hb).elim (hBm8 b) (fun h => Or.inr (Nat.le_trans (hF.trans g8).size h))
          have hmc8_3 : ∀ b, blk (A8_w3, 0, 0) b → (fun _ => False) b ∨ w.heap.size ≤ b := fun b hb => (hzc8_3 b hb).elim (hBm8 b) (fun h => Or.inr (Nat.le_trans (hF.trans g8).size h))
          have hWc8 := hWc8.vis (fun b hb => hv8 b (Or.inl (Or.inl hb)))
          have hWc8_2 := hWc8_2.vis (fun b hb => hv8 b (hzc8_2 b hb))
          have hWc8_3 := hWc8_3.vis (fun b hb => hv8 b (hzc8_3 b hb))
          have hF := Fine.own hF g8' hBm8 hid8
          obtain ⟨r9, hr9, h⟩ := Option.bind_eq_some_iff.1 h
          obtain ⟨v9_0, v9_1⟩ := r9
          try dsimp only at h
          refine ok_callm rfl (fun L9 w9 g9 lt9 => ?_)
          refine (reasm_Stream_End.c k _ (some q8) (v9_0, v9_1) hr9  w9 ((obr45 hWc8.sl hWc8_2.sl hWc8_3.sl).later g9).bare).mono ?_
          rintro e w9' ⟨rfl, hb9⟩
          refine ⟨(v9_0, v9_1, ()), rfl, hb9, fun g9' => ?_⟩
          try dsimp only
          have hF := hF.trans g9'
          have hWc8 := hWc8.later g9'
          have hWc8_2 := hWc8_2.later g9'
          have hWc8_3 := hWc8_3.later g9'
          refine ok_if (fun hc278 => ?_) (fun hc278 => ?_)
          ·have h := bif_t h hc278
           obtain rfl := Option.some.inj h
           have h := hl2 _ rfl
           exact ok_again (I := I2) m2 (Nat.lt_succ_self _) (fun L w' he => by rw [hI2]; exact ⟨_, q8, A8_w2, c8_w2, A8_w3, c8_w3, rfl, h, hF.trans he.fine, hWc8.later he.fine, hWc8_2.later he.fine, hWc8_3.later he.fine, djc8_1_0, djc8_2_0, djc8_2_1, hmc8_2, hmc8_3⟩)
          ·have h := bif_f h hc278
           obtain rfl := Option.some.inj h
           have h := hl2 _ rfl
           exact ok_again (I := I2) m2 (Nat.lt_succ_self _) (fun L w' he => by rw [hI2]; exact ⟨_, q8, A8_w2, c8_w2, A8_w3, c8_w3, rfl, h, hF.trans he.fine, hWc8.later he.fine, hWc8_2.later he.fine, hWc8_3.later he.fine, djc8_1_0, djc8_2_0, djc8_2_1, hmc8_2, hmc8_3⟩)
         ·have h := bif_f h hc274
          obtain ⟨r8, hr8, h⟩ := Option.bind_eq_some_iff.1 h
          obtain ⟨v8_0, q8⟩ := r8
          try dsimp only at h
          have hBv8 : ∀ b, (reasm_Stream_Data.S b0 A2_b0_2 A2_b0_3) b → ¬ _ ∧ b < _ := fun b hb => by rcases hb with hb | hb | hb; exact ⟨(hW2_b0.lt b hb).2.1, hW2_b0.lt1 b hb⟩; exact ⟨(hW2_b0_2.lt b hb).2.1, hW2_b0_2.lt1 b hb⟩; exact ⟨(hW2_b0_3.lt b hb).2.1, hW2_b0_3.lt1 b hb⟩
          have hBm8 : ∀ b, (reasm_Stream_Data.S b0 A2_b0_2 A2_b0_3) b → (fun _ => False) b ∨ w.heap.size ≤ b := fun b hb => by rcases hb with hb | hb | hb; exact hmn0 b hb; exact hm2_b0_2 b hb; exact hm2_b0_3 b hb
          refine ok_callo (reasm_Stream_Data.S b0 A2_b0_2 A2_b0_3) rfl hBv8 (fun L8 w8 g8 lt8 => ?_)
          refine (reasm_Stream_Data.c k _ q2_b0 _ _ _ _ r16.2.1 _ _ _ r16.2.2.1 false (v8_0, q8) hr8 rfl w8 (hW2_b0.later g8).bare' (hW2_b0_2.later g8).bare' (hW2_b0_3.later g8).bare' dj_w13_w12 dj_w14_w12 dj_w14_w13 (hE3_2.later ((hF.trans g8).with hBm8))).mono ?_
          rintro e w8' ⟨A8_w2, c8_w2, A8_w3, c8_w3, rfl, hf8, hWc8, hWc8_2, hWc8_3, djc8_1_0, djc8_2_0, djc8_2_1, hzc8_2, hzc8_3⟩
          refine ⟨(v8_0, ()), rfl, hf8, fun g8' hid8 hv8 => ?_⟩
          try dsimp only
          have hmc8 := hmn0
          have hmc8_2 : ∀ b, blk (A8_w2, 0, 0) b → (fun _ => False) b ∨ w.heap.size ≤ b := fun b hb => (hzc8_2 b hb).elim (hBm8 b) (fun h => Or.inr (Nat.le_trans (hF.trans g8).size h))
          have hmc8_3 : ∀ b, blk (A8_w3, 0, 0) b → (fun _ => False) b ∨ w.heap.size ≤ b := fun b hb => (hzc8_3 b hb).elim (hBm8 b) (fun h => Or.inr (Nat.le_trans (hF.trans g8).size h))
          have hWc8 := hWc8.vis (fun b hb => hv8 b (Or.inl (Or.inl hb)))
          have hWc8_2 := hWc8_2.vis (fun b hb => hv8 b (hzc8_2 b hb))
          have hWc8_3 := hWc8_3.vis (fun b hb => hv8 b (hzc8_3 b hb))
          have hF := Fine.own hF g8' hBm8 hid8
          obtain ⟨r9, hr9, h⟩ := Option.bind_eq_some_iff.1 h
          obtain ⟨v9_0, v9_1⟩ := r9
          try dsimp only at h
          refine ok_callm rfl (fun L9 w9 g9 lt9 => ?_)
          refine (reasm_Stream_End.c k _ (some q8) (v9_0, v9_1) hr9  w9 ((obr45 hWc8.sl hWc8_2.sl hWc8_3.sl).later g9).bare).mono ?_
          rintro e w9' ⟨rfl, hb9⟩
          refine ⟨(v9_0, v9_1, ()), rfl, hb9, fun g9' => ?_⟩
          try dsimp only
          have hF := hF.trans g9'
          have hWc8 := hWc8.later g9'
          have hWc8_2 := hWc8_2.later g9'
          have hWc8_3 := hWc8_3.later g9'
          refine ok_if (fun hc282 => ?_) (fun hc282 => ?_)
          ·have h := bif_t h hc282
           obtain rfl := Option.some.inj h
           have h := hl2 _ rfl
           exact ok_again (I := I2) m2 (Nat.lt_succ_self _) (fun L w' he => by rw [hI2]; exact ⟨_, q8, A8_w2, c8_w2, A8_w3, c8_w3, rfl, h, hF.trans he.fine, hWc8.later he.fine, hWc8_2.later he.fine, hWc8_3.later he.fine, djc8_1_0, djc8_2_0, djc8_2_1, hmc8_2, hmc8_3⟩)
          ·have h := bif_f h hc282
           obtain rfl := Option.some.inj h
           have h := hl2 _ rfl
           exact ok_again (I := I2) m2 (Nat.lt_succ_self _) (fun L w' he => by rw [hI2]; exact ⟨_, q8, A8_w2, c8_w2, A8_w3, c8_w3, rfl, h, hF.trans he.fine, hWc8.later he.fine, hWc8_2.later he.fine, hWc8_3.later he.fine, djc8_1_0, djc8_2_0, djc8_2_1, hmc8_2, hmc8_3⟩)
        ·have h := bif_f h hc273
         refine ok_if (fun hc283 => ?_) (fun hc283 => ?_)
         ·have h := bif_t h hc283
          obtain ⟨r8, hr8, h⟩ := Option.bind_eq_some_iff.1 h
          obtain ⟨s8_0, q8⟩ := r8
          try dsimp only at h
          have hBv8 : ∀ b, (reasm_Stream_Read.S b0 A2_b0_2 A2_b0_3) b → ¬ _ ∧ b < _ := fun b hb => by rcases hb with hb | hb | hb; exact ⟨(hW2_b0.lt b hb).2.1, hW2_b0.lt1 b hb⟩; exact ⟨(hW2_b0_2.lt b hb).2.1, hW2_b0_2.lt1 b hb⟩; exact ⟨(hW2_b0_3.lt b hb).2.1, hW2_b0_3.lt1 b hb⟩
          have hBm8 : ∀ b, (reasm_Stream_Read.S b0 A2_b0_2 A2_b0_3) b → (fun _ => False) b ∨ w.heap.size ≤ b := fun b hb => by rcases hb with hb | hb | hb; exact hmn0 b hb; exact hm2_b0_2 b hb; exact hm2_b0_3 b hb
          refine ok_callo (reasm_Stream_Read.S b0 A2_b0_2 A2_b0_3) rfl hBv8 (fun L8 w8 g8 lt8 => ?_)
          refine (reasm_Stream_Read.c k _ q2_b0 _ _ _ _ r16.2.1 (s8_0, q8) hr8  w8 (hW2_b0.later g8).bare' (hW2_b0_2.later g8).bare' (hW2_b0_3.later g8).bare' dj_w13_w12 dj_w14_w12 dj_w14_w13).mono ?_
          rintro e w8' ⟨A8_w2, c8_w2, A8_w3, c8_w3, A8_0, c8_0, rfl, hf8, hWc8, hWc8_2, hWc8_3, djc8_1_0, djc8_2_0, djc8_2_1, hzc8_2, hzc8_3, hO8_0, dr8_o284_2, dr8_o284_3⟩
          refine ⟨((A8_0, s8_0.length, c8_0), ()), rfl, hf8, fun g8' hid8 hv8 => ?_⟩
          try dsimp only
          have dk8_o284 : Dj A8_0 b0 := Dj.new hO8_0.fresh (fun b hb => Nat.lt_of_lt_of_le (hBv8 b (Or.inl hb)).2 g8.size)
          have hmc8 := hmn0
          have hmc8_2 : ∀ b, blk (A8_w2, 0, 0) b → (fun _ => False) b ∨ w.heap.size ≤ b := fun b hb => (hzc8_2 b hb).elim (hBm8 b) (fun h => Or.inr (Nat.le_trans (hF.trans g8).size h))
          have hmc8_3 : ∀ b, blk (A8_w3, 0, 0) b → (fun _ => False) b ∨ w.heap.size ≤ b := fun b hb => (hzc8_3 b hb).elim (hBm8 b) (fun h => Or.inr (Nat.le_trans (hF.trans g8).size h))
          have hWc8 := hWc8.vis (fun b hb => hv8 b (Or.inl (Or.inl hb)))
          have hWc8_2 := hWc8_2.vis (fun b hb => hv8 b (hzc8_2 b hb))
          have hWc8_3 := hWc8_3.vis (fun b hb => hv8 b (hzc8_3 b hb))
          have hO8_0 := hO8_0.call (hF.trans g8).size lt8
          have hF := Fine.own hF g8' hBm8 hid8
          obtain ⟨r9, hr9, h⟩ := Option.bind_eq_some_iff.1 h
          obtain ⟨v9_0, v9_1⟩ := r9
          try dsimp only at h
          refine ok_callm rfl (fun L9 w9 g9 lt9 => ?_)
          refine (reasm_Stream_End.c k _ (some q8) (v9_0, v9_1) hr9  w9 ((obr45 hWc8.sl hWc8_2.sl hWc8_3.sl).later g9).bare).mono ?_
          rintro e w9' ⟨rfl, hb9⟩
          refine ⟨(v9_0, v9_1, ()), rfl, hb9, fun g9' => ?_⟩
          try dsimp only
          have hF := hF.trans g9'
          have hO8_0 := hO8_0.later g9'
          have hWc8 := hWc8.later g9'
          have hWc8_2 := hWc8_2.later g9'
          have hWc8_3 := hWc8_3.later g9'
          refine ok_if (fun hc288 => ?_) (fun hc288 => ?_)
          ·have h := bif_t h hc288
           obtain rfl := Option.some.inj h
           have h := hl2 _ rfl
           exact ok_again (I := I2) m2 (Nat.lt_succ_self _) (fun L w' he => by rw [hI2]; exact ⟨_, q8, A8_w2, c8_w2, A8_w3, c8_w3, rfl, h, hF.trans he.fine, hWc8.later he.fine, hWc8_2.later he.fine, hWc8_3.later he.fine, djc8_1_0, djc8_2_0, djc8_2_1, hmc8_2, hmc8_3⟩)
          ·have h := bif_f h hc288
           obtain rfl := Option.some.inj h
           have h := hl2 _ rfl
           exact ok_again (I := I2) m2 (Nat.lt_succ_self _) (fun L w' he => by rw [hI2]; exact ⟨_, q8, A8_w2, c8_w2, A8_w3, c8_w3, rfl, h, hF.trans he.fine, hWc8.later he.fine, hWc8_2.later he.fine, hWc8_3.later he.fine, djc8_1_0, djc8_2_0, djc8_2_1, hmc8_2, hmc8_3⟩)
         ·have h := bif_f h hc283
          obtain ⟨r8, hr8, h⟩ := Option.bind_eq_some_iff.1 h
          obtain ⟨v8_0, q8⟩ := r8
          try dsimp only at h
          have hBv8 : ∀ b, (reasm_Stream_Reset.S b0 A2_b0_2 A2_b0_3) b → ¬ _ ∧ b < _ := fun b hb => by rcases hb with hb | hb | hb; exact ⟨(hW2_b0.lt b hb).2.1, hW2_b0.lt1 b hb⟩; exact ⟨(hW2_b0_2.lt b hb).2.1, hW2_b0_2.lt1 b hb⟩; exact ⟨(hW2_b0_3.lt b hb).2.1, hW2_b0_3.lt1 b hb⟩
          have hBm8 : ∀ b, (reasm_Stream_Reset.S b0 A2_b0_2 A2_b0_3) b → (fun _ => False) b ∨ w.heap.size ≤ b := fun b hb => by rcases hb with hb | hb | hb; exact hmn0 b hb; exact hm2_b0_2 b hb; exact hm2_b0_3 b hb
          refine ok_callo (reasm_Stream_Reset.S b0 A2_b0_2 A2_b0_3) rfl hBv8 (fun L8 w8 g8 lt8 => ?_)
          refine (reasm_Stream_Reset.c k _ q2_b0 _ _ _ _ r16.2.1 (v8_0, q8) hr8  w8 (hW2_b0.later g8).bare' (hW2_b0_2.later g8).bare' (hW2_b0_3.later g8).bare' dj_w13_w12 dj_w14_w12 dj_w14_w13).mono ?_
          rintro e w8' ⟨A8_w2, c8_w2, A8_w3, c8_w3, rfl, hf8, hWc8, hWc8_2, hWc8_3, djc8_1_0, djc8_2_0, djc8_2_1, hzc8_2, hzc8_3⟩
          refine ⟨(v8_0, ()), rfl, hf8, fun g8' hid8 hv8 => ?_⟩
          try dsimp only
          have hmc8 := hmn0
          have hmc8_2 : ∀ b, blk (A8_w2, 0, 0) b → (fun _ => False) b ∨ w.heap.size ≤ b := fun b hb => (hzc8_2 b hb).elim (hBm8 b) (fun h => Or.inr (Nat.le_trans (hF.trans g8).size h))
          have hmc8_3 : ∀ b, blk (A8_w3, 0, 0) b → (fun _ => False) b ∨ w.heap.size ≤ b := fun b hb => (hzc8_3 b hb).elim (hBm8 b) (fun h => Or.inr (Nat.le_trans (hF.trans g8).size h))
          have hWc8 := hWc8.vis (fun b hb => hv8 b (Or.inl (Or.inl hb)))
          have hWc8_2 := hWc8_2.vis (fun b hb => hv8 b (hzc8_2 b hb))
          have hWc8_3 := hWc8_3.vis (fun b hb => hv8 b (hzc8_3 b hb))
          have hF := Fine.own hF g8' hBm8 hid8
          obtain ⟨r9, hr9, h⟩ := Option.bind_eq_some_iff.1 h
          obtain ⟨v9_0, v9_1⟩ := r9
          try dsimp only at h
          refine ok_callm rfl (fun L9 w9 g9 lt9 => ?_)
          refine (reasm_Stream_End.c k _ (some q8) (v9_0, v9_1) hr9  w9 ((obr45 hWc8.sl hWc8_2.sl hWc8_3.sl).later g9).bare).mono ?_
          rintro e w9' ⟨rfl, hb9⟩
          refine ⟨(v9_0, v9_1, ()), rfl, hb9, fun g9' => ?_⟩
          try dsimp only
          have hF := hF.trans g9'
          have hWc8 := hWc8.later g9'
          have hWc8_2 := hWc8_2.later g9'
          have hWc8_3 := hWc8_3.later g9'
          refine ok_if (fun hc292 => ?_) (fun hc292 => ?_)
          ·have h := bif_t h hc292
           obtain rfl := Option.some.inj h
           have h := hl2 _ rfl
           exact ok_again (I := I2) m2 (Nat.lt_succ_self _) (fun L w' he => by rw [hI2]; exact ⟨_, q8, A8_w2, c8_w2, A8_w3, c8_w3, rfl, h, hF.trans he.fine, hWc8.later he.fine, hWc8_2.later he.fine, hWc8_3.later he.fine, djc8_1_0, djc8_2_0, djc8_2_1, hmc8_2, hmc8_3⟩)
          ·have h := bif_f h hc292
           obtain rfl := Option.some.inj h
           have h := hl2 _ rfl
           exact ok_again (I := I2) m2 (Nat.lt_succ_self _) (fun L w' he => by rw [hI2]; exact ⟨_, q8, A8_w2, c8_w2, A8_w3, c8_w3, rfl, h, hF.trans he.fine, hWc8.later he.fine, hWc8_2.later he.fine, hWc8_3.later he.fine, djc8_1_0, djc8_2_0, djc8_2_1, hmc8_2, hmc8_3⟩)
      ·have h := bif_f h hc251
       obtain ⟨r7, hr7, h⟩ := Option.bind_eq_some_iff.1 h
       obtain ⟨v7_0, v7_1⟩ := r7
       try dsimp only at h
       refine ok_callm rfl (fun L7 w7 g7 lt7 => ?_)
       refine (reasm_Stream_End.c k _ (some q2_b0) (v7_0, v7_1) hr7  w7 ((obr45 hW2_b0.sl hW2_b0_2.sl hW2_b0_3.sl).later g7).bare).mono ?_
       rintro e w7' ⟨rfl, hb7⟩
       refine ⟨(v7_0, v7_1, ()), rfl, hb7, fun g7' => ?_⟩
       try dsimp only
       have hF := hF.trans g7'
       have hW2_b0 := hW2_b0.later g7'
       have hW2_b0_2 := hW2_b0_2.later g7'
       have hW2_b0_3 := hW2_b0_3.later g7'
       refine ok_if (fun hc293 => ?_) (fun hc293 => ?_)
       ·have h := bif_t h hc293
        refine ok_need rfl ?_
        refine ok_if (fun hc294 => ?_) (fun hc294 => ?_)
        ·have h := bif_t h hc294
         refine ok_if (fun hc295 => ?_) (fun hc295 => ?_)
         ·have h := bif_t h hc295
          obtain ⟨r8, hr8, h⟩ := Option.bind_eq_some_iff.1 h
          obtain ⟨v8_0, q8⟩ := r8
          try dsimp only at h
          have hBv8 : ∀ b, (reasm_Stream_Data.S b0 A2_b0_2 A2_b0_3) b → ¬ _ ∧ b < _ := fun b hb => by rcases hb with hb | hb | hb; exact ⟨(hW2_b0.lt b hb).2.1, hW2_b0.lt1 b hb⟩; exact ⟨(hW2_b0_2.lt b hb).2.1, hW2_b0_2.lt1 b hb⟩; exact ⟨(hW2_b0_3.lt b hb).2.1, hW2_b0_3.lt1 b hb⟩
          have hBm8 : ∀ b, (reasm_Stream_Data.S b0 A2_b0_2 A2_b0_3) b → (fun _ => False) b ∨ w.heap.size ≤ b := fun b hb => by rcases hb with hb | hb | hb; exact hmn0 b hb; exact hm2_b0_2 b hb; exact hm2_b0_3 b hb
          refine ok_callo (reasm_Stream_Data.S b0 A2_b0_2 A2_b0_3) rfl hBv8 (fun L8 w8 g8 lt8 => ?_)
          refine (reasm_Stream_Data.c k _ q2_b0 _ _ _ _ r16.2.1 _ _ _ r16.2.2.1 true (v8_0, q8) hr8 rfl w8 (hW2_b0.later g8).bare' (hW2_b0_2.later g8).bare' (hW2_b0_3.later g8).bare' dj_w13_w12 dj_w14_w12 dj_w14_w13 (hE3_2.later ((hF.trans g8).with hBm8))).mono ?_
          rintro e w8' ⟨A8_w2, c8_w2, A8_w3, c8_w3, rfl, hf8, hWc8, hWc8_2, hWc8_3, djc8_1_0, djc8_2_0, djc8_2_1, hzc8_2, hzc8_3⟩
          refine ⟨(v8_0, ()), rfl, hf8, fun g8' hid8 hv8 => ?_⟩
          try dsimp only
          have hmc8 := hmn0
          have hmc8_2 : ∀ b, blk (A8_w2, 0, 0) b → (fun _ => False) b ∨ w.heap.size ≤ b := fun b hb => (hzc8_2 b hb).elim (hBm8 b) (fun h => Or.inr (Nat.le_trans (hF.trans g8).size h))
          have hmc8_3 : ∀ b, blk (A8_w3, 0, 0) b → (fun _ => False) b ∨ w.heap.size ≤ b := fun b hb => (hzc8_3 b hb).elim (hBm8 b) (fun h => Or.inr (Nat.le_trans (hF.trans g8).size h))
          have hWc8 := hWc8.vis (fun b hb => hv8 b (Or.inl (Or.inl hb)))
          have hWc8_2 := hWc8_2.vis (fun b hb => hv8 b (hzc8_2 b hb))
          have hWc8_3 := hWc8_3.vis (fun b hb => hv8 b (hzc8_3 b hb))
          have hF := Fine.own hF g8' hBm8 hid8
          obtain ⟨r9, hr9, h⟩ := Option.bind_eq_some_iff.1 h
          obtain ⟨v9_0, v9_1⟩ := r9
          try dsimp only at h
          refine ok_callm rfl (fun L9 w9 g9 lt9 => ?_)
          refine (reasm_Stream_End.c k _ (some q8) (v9_0, v9_1) hr9  w9 ((obr45 hWc8.sl hWc8_2.sl hWc8_3.sl).later g9).bare).mono ?_
          rintro e w9' ⟨rfl, hb9⟩
          refine ⟨(v9_0, v9_1, ()), rfl, hb9, fun g9' => ?_⟩
          try dsimp only
          have hF := hF.trans g9'
          have hWc8 := hWc8.later g9'
          have hWc8_2 := hWc8_2.later g9'
          have hWc8_3 := hWc8_3.later g9'
          refine ok_if (fun hc299 => ?_) (fun hc299 => ?_)
          ·have h := bif_t h hc299
           obtain rfl := Option.some.inj h
           have h := hl2 _ rfl
           exact ok_again (I := I2) m2 (Nat.lt_succ_self _) (fun L w' he => by rw [hI2]; exact ⟨_, q8, A8_w2, c8_w2, A8_w3, c8_w3, rfl, h, hF.trans he.fine, hWc8.later he.fine, hWc8_2.later he.fine, hWc8_3.later he.fine, djc8_1_0, djc8_2_0, djc8_2_1, hmc8_2, hmc8_3⟩)
          ·have h := bif_f h hc299
           obtain rfl := Option.some.inj h
           have h := hl2 _ rfl
           exact ok_again (I := I2) m2 (Nat.lt_succ_self _) (fun L w' he => by rw [hI2]; exact ⟨_, q8, A8_w2, c8_w2, A8_w3, c8_w3, rfl, h, hF.trans he.fine, hWc8.later he.fine, hWc8_2.later he.fine, hWc8_3.later he.fine, djc8_1_0, djc8_2_0, djc8_2_1, hmc8_2, hmc8_3⟩)
         ·have h := bif_f h hc295
          obtain ⟨r8, hr8, h⟩ := Option.bind_eq_some_iff.1 h
          obtain ⟨v8_0, q8⟩ := r8
          try dsimp only at h
          have hBv8 : ∀ b, (reasm_Stream_Data.S b0 A2_b0_2 A2_b0_3) b → ¬ _ ∧ b < _ := fun b hb => by rcases hb with hb | hb | hb; exact ⟨(hW2_b0.lt b hb).2.1, hW2_b0.lt1 b hb⟩; exact ⟨(hW2_b0_2.lt b hb).2.1, hW2_b0_2.lt1 b hb⟩; exact ⟨(hW2_b0_3.lt b hb).2.1, hW2_b0_3.lt1 b hb⟩
          have hBm8 : ∀ b, (reasm_Stream_Data.S b0 A2_b0_2 A2_b0_3) b → (fun _ => False) b ∨ w.heap.size ≤ b := fun b hb => by rcases hb with hb | hb | hb; exact hmn0 b hb; exact hm2_b0_2 b hb; exact hm2_b0_3 b hb
          refine ok_callo (reasm_Stream_Data.S b0 A2_b0_2 A2_b0_3) rfl hBv8 (fun L8 w8 g8 lt8 => ?_)
          refine (reasm_Stream_Data.c k _ q2_b0 _ _ _ _ r16.2.1 _ _ _ r16.2.2.1 false (v8_0, q8) hr8 rfl w8 (hW2_b0.later g8).bare' (hW2_b0_2.later g8).bare' (hW2_b0_3.later g8).bare' dj_w13_w12 dj_w14_w12 dj_w14_w13 (hE3_2.later ((hF.trans g8).with hBm8))).mono ?_
          rintro e w8' ⟨A8_w2, c8_w2, A8_w3, c8_w3, rfl, hf8, hWc8, hWc8_2, hWc8_3, djc8_1_0, djc8_2_0, djc8_2_1, hzc8_2, hzc8_3⟩
          refine ⟨(v8_0, ()), rfl, hf8, fun g8' hid8 hv8 => ?_⟩
          try dsimp only
          have hmc8 := hmn0
          have hmc8_2 : ∀ b, blk (A8_w2, 0, 0) b → (fun _ => False) b ∨ w.heap.size ≤ b := fun b hb => (hzc8_2 b hb).elim (hBm8 b) (fun h => Or.inr (Nat.le_trans (hF.trans g8).size h))
          have hmc8_3 : ∀ b, blk (A8_w3, 0, 0) b → (fun _ => False) b ∨ w.heap.size ≤ b := fun b hb => (hzc8_3 b hb).elim (hBm8 b) (fun h => Or.inr (Nat.le_trans (hF.trans g8).size h))
          have hWc8 := hWc8.vis (fun b hb => hv8 b (Or.inl (Or.inl hb)))
          have hWc8_2 := hWc8_2.vis (fun b hb => hv8 b (hzc8_2 b hb))
          have hWc8_3 := hWc8_3.vis (fun b hb => hv8 b (hzc8_3 b hb))
          have hF := Fine.own hF g8' hBm8 hid8
          obtain ⟨r9, hr9, h⟩ := Option.bind_eq_some_iff.1 h
          obtain ⟨v9_0, v9_1⟩ := r9
          try dsimp only at h
          refine ok_callm rfl (fun L9 w9 g9 lt9 => ?_)
          refine (reasm_Stream_End.c k _ (some q8) (v9_0, v9_1) hr9  w9 ((obr45 hWc8.sl hWc8_2.sl hWc8_3.sl).later g9).bare).mono ?_
          rintro e w9' ⟨rfl, hb9⟩
          refine ⟨(v9_0, v9_1, ()), rfl, hb9, fun g9' => ?_⟩
          try dsimp only
          have hF := hF.trans g9'
          have hWc8 := hWc8.later g9'
          have hWc8_2 := hWc8_2.later g9'
          have hWc8_3 := hWc8_3.later g9'
          refine ok_if (fun hc303 => ?_) (fun hc303 => ?_)
          ·have h := bif_t h hc303
           obtain rfl := Option.some.inj h
           have h := hl2 _ rfl
           exact ok_again (I := I2) m2 (Nat.lt_succ_self _) (fun L w' he => by rw [hI2]; exact ⟨_, q8, A8_w2, c8_w2, A8_w3, c8_w3, rfl, h, hF.trans he.fine, hWc8.later he.fine, hWc8_2.later he.fine, hWc8_3.later he.fine, djc8_1_0, djc8_2_0, djc8_2_1, hmc8_2, hmc8_3⟩)
          ·have h := bif_f h hc303
           obtain rfl := Option.some.inj h
           have h := hl2 _ rfl
           exact ok_again (I := I2) m2 (Nat.lt_succ_self _) (fun L w' he => by rw [hI2]; exact ⟨_, q8, A8_w2, c8_w2, A8_w3, c8_w3, rfl, h, hF.trans he.fine, hWc8.later he.fine, hWc8_2.later he.fine, hWc8_3.later he.fine, djc8_1_0, djc8_2_0, djc8_2_1, hmc8_2, hmc8_3⟩)
        ·have h := bif_f h hc294
         refine ok_if (fun hc304 => ?_) (fun hc304 => ?_)
         ·have h := bif_t h hc304
          obtain ⟨r8, hr8, h⟩ := Option.bind_eq_some_iff.1 h
          obtain ⟨s8_0, q8⟩ := r8
          try dsimp only at h
          have hBv8 : ∀ b, (reasm_Stream_Read.S b0 A2_b0_2 A2_b0_3) b → ¬ _ ∧ b < _ := fun b hb => by rcases hb with hb | hb | hb; exact ⟨(hW2_b0.lt b hb).2.1, hW2_b0.lt1 b hb⟩; exact ⟨(hW2_b0_2.lt b hb).2.1, hW2_b0_2.lt1 b hb⟩; exact ⟨(hW2_b0_3.lt b hb).2.1, hW2_b0_3.lt1 b hb⟩
          have hBm8 : ∀ b, (reasm_Stream_Read.S b0 A2_b0_2 A2_b0_3) b → (fun _ => False) b ∨ w.heap.size ≤ b := fun b hb => by rcases hb with hb | hb | hb; exact hmn0 b hb; exact hm2_b0_2 b hb; exact hm2_b0_3 b hb
          refine ok_callo (reasm_Stream_Read.S b0 A2_b0_2 A2_b0_3) rfl hBv8 (fun L8 w8 g8 lt8 => ?_)
          refine (reasm_Stream_Read.c k _ q2_b0 _ _ _ _ r16.2.1 (s8_0, q8) hr8  w8 (hW2_b0.later g8).bare' (hW2_b0_2.later g8).bare' (hW2_b0_3.later g8).bare' dj_w13_w12 dj_w14_w12 dj_w14_w13).mono ?_
          rintro e w8' ⟨A8_w2, c8_w2, A8_w3, c8_w3, A8_0, c8_0, rfl, hf8, hWc8, hWc8_2, hWc8_3, djc8_1_0, djc8_2_0, djc8_2_1, hzc8_2, hzc8_3, hO8_0, dr8_o305_2, dr8_o305_3⟩
          refine ⟨((A8_0, s8_0.length, c8_0), ()), rfl, hf8, fun g8' hid8 hv8 => ?_⟩
          try dsimp only
          have dk8_o305 : Dj A8_0 b0 := Dj.new hO8_0.fresh (fun b hb => Nat.lt_of_lt_of_le (hBv8 b (Or.inl hb)).2 g8.size)
          have hmc8 := hmn0
          have hmc8_2 : ∀ b, blk (A8_w2, 0, 0) b → (fun _ => False) b ∨ w.heap.size ≤ b := fun b hb => (hzc8_2 b hb).elim (hBm8 b) (fun h => Or.inr (Nat.le_trans (hF.trans g8).size h))
          have hmc8_3 : ∀ b, blk (A8_w3, 0, 0) b → (fun _ => False) b ∨ w.heap.size ≤ b := fun b hb => (hzc8_3 b hb).elim (hBm8 b) (fun h => Or.inr (Nat.le_trans (hF.trans g8).size h))
          have hWc8 := hWc8.vis (fun b hb => hv8 b (Or.inl (Or.inl hb)))
          have hWc8_2 := hWc8_2.vis (fun b hb => hv8 b (hzc8_2 b hb))
          have hWc8_3 := hWc8_3.vis (fun b hb => hv8 b (hzc8_3 b hb))
          have hO8_0 := hO8_0.call (hF.trans g8).size lt8
          have hF := Fine.own hF g8' hBm8 hid8
          obtain ⟨r9, hr9, h⟩ := Option.bind_eq_some_iff.1 h
          obtain ⟨v9_0, v9_1⟩ := r9
          try dsimp only at h
          refine ok_callm rfl (fun L9 w9 g9 lt9 => ?_)
          refine (reasm_Stream_End.c k _ (some q8) (v9_0, v9_1) hr9  w9 ((obr45 hWc8.sl hWc8_2.sl hWc8_3.sl).later g9).bare).mono ?_
          rintro e w9' ⟨rfl, hb9⟩
          refine ⟨(v9_0, v9_1, ()), rfl, hb9, fun g9' => ?_⟩
          try dsimp only
          have hF := hF.trans g9'
          have hO8_0 := hO8_0.later g9'
          have hWc8 := hWc8.later g9'
          have hWc8_2 := hWc8_2.later g9'
          have hWc8_3 := hWc8_3.later g9'
          refine ok_if (fun hc309 => ?_) (fun hc309 => ?_)
          ·have h := bif_t h hc309
           obtain rfl := Option.some.inj h
           have h := hl2 _ rfl
           exact ok_again (I := I2) m2 (Nat.lt_succ_self _) (fun L w' he => by rw [hI2]; exact ⟨_, q8, A8_w2, c8_w2, A8_w3, c8_w3, rfl, h, hF.trans he.fine, hWc8.later he.fine, hWc8_2.later he.fine, hWc8_3.later he.fine, djc8_1_0, djc8_2_0, djc8_2_1, hmc8_2, hmc8_3⟩)
          ·have h := bif_f h hc309
           obtain rfl := Option.some.inj h
           have h := hl2 _ rfl
           exact ok_again (I := I2) m2 (Nat.lt_succ_self _) (fun L w' he => by rw [hI2]; exact ⟨_, q8, A8_w2, c8_w2, A8_w3, c8_w3, rfl, h, hF.trans he.fine, hWc8.later he.fine, hWc8_2.later he.fine, hWc8_3.later he.fine, djc8_1_0, djc8_2_0, djc8_2_1, hmc8_2, hmc8_3⟩)
         ·have h := bif_f h hc304
          obtain ⟨r8, hr8, h⟩ := Option.bind_eq_some_iff.1 h
          obtain ⟨v8_0, q8⟩ := r8
          try dsimp only at h
          have hBv8 : ∀ b, (reasm_Stream_Reset.S b0 A2_b0_2 A2_b0_3) b → ¬ _ ∧ b < _ := fun b hb => by rcases hb with hb | hb | hb; exact ⟨(hW2_b0.lt b hb).2.1, hW2_b0.lt1 b hb⟩; exact ⟨(hW2_b0_2.lt b hb).2.1, hW2_b0_2.lt1 b hb⟩; exact ⟨(hW2_b0_3.lt b hb).2.1, hW2_b0_3.lt1 b hb⟩
          have hBm8 : ∀ b, (reasm_Stream_Reset.S b0 A2_b0_2 A2_b0_3) b → (fun _ => False) b ∨ w.heap.size ≤ b := fun b hb => by rcases hb with hb | hb | hb; exact hmn0 b hb; exact hm2_b0_2 b hb; exact hm2_b0_3 b hb
          refine ok_callo (reasm_Stream_Reset.S b0 A2_b0_2 A2_b0_3) rfl hBv8 (fun L8 w8 g8 lt8 => ?_)
          refine (reasm_Stream_Reset.c k _ q2_b0 _ _ _ _ r16.2.1 (v8_0, q8) hr8  w8 (hW2_b0.later g8).bare' (hW2_b0_2.later g8).bare' (hW2_b0_3.later g8).bare' dj_w13_w12 dj_w14_w12 dj_w14_w13).mono ?_
          rintro e w8' ⟨A8_w2, c8_w2, A8_w3, c8_w3, rfl, hf8, hWc8, hWc8_2, hWc8_3, djc8_1_0, djc8_2_0, djc8_2_1, hzc8_2, hzc8_3⟩
          refine ⟨(v8_0, ()), rfl, hf8, fun g8' hid8 hv8 => ?_⟩
          try dsimp only
          have hmc8 := hmn0
          have hmc8_2 : ∀ b, blk (A8_w2, 0, 0) b → (fun _ => False) b ∨ w.heap.size ≤ b := fun b hb => (hzc8_2 b hb).elim (hBm8 b) (fun h => Or.inr (Nat.le_trans (hF.trans g8).size h))
          have hmc8_3 : ∀ b, blk (A8_w3, 0, 0) b → (fun _ => False) b ∨ w.heap.size ≤ b := fun b hb => (hzc8_3 b hb).elim (hBm8 b) (fun h => Or.inr (Nat.le_trans (hF.trans g8).size h))
          have hWc8 := hWc8.vis (fun b hb => hv8 b (Or.inl (Or.inl hb)))
          have hWc8_2 := hWc8_2.vis (fun b hb => hv8 b (hzc8_2 b hb))
          have hWc8_3 := hWc8_3.vis (fun b hb => hv8 b (hzc8_3 b hb))
          have hF := Fine.own hF g8' hBm8 hid8
          obtain ⟨r9, hr9, h⟩ := Option.bind_eq_some_iff.1 h
          obtain ⟨v9_0, v9_1⟩ := r9
          try dsimp only at h
          refine ok_callm rfl (fun L9 w9 g9 lt9 => ?_)
          refine (reasm_Stream_End.c k _ (some q8) (v9_0, v9_1) hr9  w9 ((obr45 hWc8.sl hWc8_2.sl hWc8_3.sl).later g9).bare).mono ?_
          rintro e w9' ⟨rfl, hb9⟩
          refine ⟨(v9_0, v9_1, ()), rfl, hb9, fun g9' => ?_⟩
          try dsimp only
          have hF := hF.trans g9'
          have hWc8 := hWc8.later g9'
          have hWc8_2 := hWc8_2.later g9'
          have hWc8_3 := hWc8_3.later g9'
          refine ok_if (fun hc313 => ?_) (fun hc313 => ?_)
          ·have h := bif_t h hc313
           obtain rfl := Option.some.inj h
           have h := hl2 _ rfl
           exact ok_again (I := I2) m2 (Nat.lt_succ_self _) (fun L w' he => by rw [hI2]; exact ⟨_, q8, A8_w2, c8_w2, A8_w3, c8_w3, rfl, h, hF.trans he.fine, hWc8.later he.fine, hWc8_2.later he.fine, hWc8_3.later he.fine, djc8_1_0, djc8_2_0, djc8_2_1, hmc8_2, hmc8_3⟩)
          ·have h := bif_f h hc313
           obtain rfl := Option.some.inj h
           have h := hl2 _ rfl
           exact ok_again (I := I2) m2 (Nat.lt_succ_self _) (fun L w' he => by rw [hI2]; exact ⟨_, q8, A8_w2, c8_w2, A8_w3, c8_w3, rfl, h, hF.trans he.fine, hWc8.later he.fine, hWc8_2.later he.fine, hWc8_3.later he.fine, djc8_1_0, djc8_2_0, djc8_2_1, hmc8_2, hmc8_3⟩)
       ·have h := bif_f h hc293
        refine ok_need rfl ?_
        refine ok_if (fun hc314 => ?_) (fun hc314 => ?_)
        ·have h := bif_t h hc314
         refine ok_if (fun hc315 => ?_) (fun hc315 => ?_)
         ·have h := bif_t h hc315
          obtain ⟨r8, hr8, h⟩ := Option.bind_eq_some_iff.1 h
          obtain ⟨v8_0, q8⟩ := r8
          try dsimp only at h
          have hBv8 : ∀ b, (reasm_Stream_Data.S b0 A2_b0_2 A2_b0_3) b → ¬ _ ∧ b < _ := fun b hb => by rcases hb with hb | hb | hb; exact ⟨(hW2_b0.lt b hb).2.1, hW2_b0.lt1 b hb⟩; exact ⟨(hW2_b0_2.lt b hb).2.1, hW2_b0_2.lt1 b hb⟩; exact ⟨(hW2_b0_3.lt b hb).2.1, hW2_b0_3.lt1 b hb⟩
          have hBm8 : ∀ b, (reasm_Stream_Data.S b0 A2_b0_2 A2_b0_3) b → (fun _ => False) b ∨ w.heap.size ≤ b := fun b hb => by rcases hb with hb | hb | hb; exact hmn0 b hb; exact hm2_b0_2 b hb; exact hm2_b0_3 b hb
          refine ok_callo (reasm_Stream_Data.S b0 A2_b0_2 A2_b0_3) rfl hBv8 (fun L8 w8 g8 lt8 => ?_)
          refine (reasm_Stream_Data.c k _ q2_b0 _ _ _ _ r16.2.1 _ _ _ r16.2.2.1 true (v8_0, q8) hr8 rfl w8 (hW2_b0.later g8).bare' (hW2_b0_2.later g8).bare' (hW2_b0_3.later g8).bare' dj_w13_w12 dj_w14_w12 dj_w14_w13 (hE3_2.later ((hF.trans g8).with hBm8))).mono ?_
          rintro e w8' ⟨A8_w2, c8_w2, A8_w3, c8_w3, rfl, hf8, hWc8, hWc8_2, hWc8_3, djc8_1_0, djc8_2_0, djc8_2_1, hzc8_2, hzc8_3⟩
          refine ⟨(v8_0, ()), rfl, hf8, fun g8' hid8 hv8 => ?_⟩
          try dsimp only
          have hmc8 := hmn0
          have hmc8_2 : ∀ b, blk (A8_w2, 0, 0) b → (fun _ => False) b ∨ w.heap.size ≤ b := fun b hb => (hzc8_2 b hb).elim (hBm8 b) (fun h => Or.inr (Nat.le_trans (hF.trans g8).size h))
          have hmc8_3 : ∀ b, blk (A8_w3, 0, 0) b → (fun _ => False) b ∨ w.heap.size ≤ b := fun b hb => (hzc8_3 b hb).elim (hBm8 b) (fun h => Or.inr (Nat.le_trans (hF.trans g8).size h))
          have hWc8 := hWc8.vis (fun b hb => hv8 b (Or.inl (Or.inl hb)))
          have hWc8_2 := hWc8_2.vis (fun b hb => hv8 b (hzc8_2 b hb))
          have hWc8_3 := hWc8_3.vis (fun b hb => hv8 b (hzc8_3 b hb))
          have hF := Fine.own hF g8' hBm8 hid8
          obtain ⟨r9, hr9, h⟩ := Option.bind_eq_some_iff.1 h
          obtain ⟨v9_0, v9_1⟩ := r9
          try dsimp only at h
          refine ok_callm rfl (fun L9 w9 g9 lt9 => ?_)
          refine (reasm_Stream_End.c k _ (some q8) (v9_0, v9_1) hr9  w9 ((obr45 hWc8.sl hWc8_2.sl hWc8_3.sl).later g9).bare).mono ?_
          rintro e w9' ⟨rfl, hb9⟩
          refine ⟨(v9_0, v9_1, ()), rfl, hb9, fun g9' => ?_⟩
          try dsimp only
          have hF := hF.trans g9'
          have hWc8 := hWc8.later g9'
          have hWc8_2 := hWc8_2.later g9'
          have hWc8_3 := hWc8_3.later g9'
          refine ok_if (fun hc319 => ?_) (fun hc319 => ?_)
          ·have h := bif_t h hc319
           obtain rfl := Option.some.inj h
           have h := hl2 _ rfl
           exact ok_again (I := I2) m2 (Nat.lt_succ_self _) (fun L w' he => by rw [hI2]; exact ⟨_, q8, A8_w2, c8_w2, A8_w3, c8_w3, rfl, h, hF.trans he.fine, hWc8.later he.fine, hWc8_2.later he.fine, hWc8_3.later he.fine, djc8_1_0, djc8_2_0, djc8_2_1, hmc8_2, hmc8_3⟩)
          ·have h := bif_f h hc319
           obtain rfl := Option.some.inj h
           have h := hl2 _ rfl
           exact ok_again (I := I2) m2 (Nat.lt_succ_self _) (fun L w' he => by rw [hI2]; exact ⟨_, q8, A8_w2, c8_w2, A8_w3, c8_w3, rfl, h, hF.trans he.fine, hWc8.later he.fine, hWc8_2.later he.fine, hWc8_3.later he.fine, djc8_1_0, djc8_2_0, djc8_2_1, hmc8_2, hmc8_3⟩)
         ·have h := bif_f h hc315
          obtain ⟨r8, hr8, h⟩ := Option.bind_eq_some_iff.1 h
          obtain ⟨v8_0, q8⟩ := r8
          try dsimp only at h
          have hBv8 : ∀ b, (reasm_Stream_Data.S b0 A2_b0_2 A2_b0_3) b → ¬ _ ∧ b < _ := fun b hb => by rcases hb with hb | hb | hb; exact ⟨(hW2_b0.lt b hb).2.1, hW2_b0.lt1 b hb⟩; exact ⟨(hW2_b0_2.lt b hb).2.1, hW2_b0_2.lt1 b hb⟩; exact ⟨(hW2_b0_3.lt b hb).2.1, hW2_b0_3.lt1 b hb⟩
          have hBm8 : ∀ b, (reasm_Stream_Data.S b0 A2_b0_2 A2_b0_3) b → (fun _ => False) b ∨ w.heap.size ≤ b := fun b hb => by rcases hb with hb | hb | hb; exact hmn0 b hb; exact hm2_b0_2 b hb; exact hm2_b0_3 b hb
          refine ok_callo (reasm_Stream_Data.S b0 A2_b0_2 A2_b0_3) rfl hBv8 (fun L8 w8 g8 lt8 => ?_)
          refine (reasm_Stream_Data.c k _ q2_b0 _ _ _ _ r16.2.1 _ _ _ r16.2.2.1 false (v8_0, q8) hr8 rfl w8 (hW2_b0.later g8).bare' (hW2_b0_2.later g8).bare' (hW2_b0_3.later g8).bare' dj_w13_w12 dj_w14_w12 dj_w14_w13 (hE3_2.later ((hF.trans g8).with hBm8))).mono ?_
          rintro e w8' ⟨A8_w2, c8_w2, A8_w3, c8_w3, rfl, hf8, hWc8, hWc8_2, hWc8_3, djc8_1_0, djc8_2_0, djc8_2_1, hzc8_2, hzc8_3⟩
          refine ⟨(v8_0, ()), rfl, hf8, fun g8' hid8 hv8 => ?_⟩
          try dsimp only
          have hmc8 := hmn0
          have hmc8_2 : ∀ b, blk (A8_w2, 0, 0) b → (fun _ => False) b ∨ w.heap.size ≤ b := fun b hb => (hzc8_2 b hb).elim (hBm8 b) (fun h => Or.inr (Nat.le_trans (hF.trans g8).size h))
          have hmc8_3 : ∀ b, blk (A8_w3, 0, 0) b → (fun _ => False) b ∨ w.heap.size ≤ b := fun b hb => (hzc8_3 b hb).elim (hBm8 b) (fun h => Or.inr (Nat.le_trans (hF.trans g8).size h))
          have hWc8 := hWc8.vis (fun b hb => hv8 b (Or.inl (Or.inl hb)))
          have hWc8_2 := hWc8_2.vis (fun b hb => hv8 b (hzc8_2 b hb))
          have hWc8_3 := hWc8_3.vis (fun b hb => hv8 b (hzc8_3 b hb))
          have hF := Fine.own hF g8' hBm8 hid8
          obtain ⟨r9, hr9, h⟩ := Option.bind_eq_some_iff.1 h
          obtain ⟨v9_0, v9_1⟩ := r9
          try dsimp only at h
          refine ok_callm rfl (fun L9 w9 g9 lt9 => ?_)
          refine (reasm_Stream_End.c k _ (some q8) (v9_0, v9_1) hr9  w9 ((obr45 hWc8.sl hWc8_2.sl hWc8_3.sl).later g9).bare).mono ?_
          rintro e w9' ⟨rfl, hb9⟩
          refine ⟨(v9_0, v9_1, ()), rfl, hb9, fun g9' => ?_⟩
          try dsimp only
          have hF := hF.trans g9'
          have hWc8 := hWc8.later g9'
          have hWc8_2 := hWc8_2.later g9'
          have hWc8_3 := hWc8_3.later g9'
          refine ok_if (fun hc323 => ?_) (fun hc323 => ?_)
          ·have h := bif_t h hc323
           obtain rfl := Option.some.inj h
           have h := hl2 _ rfl
           exact ok_again (I := I2) m2 (Nat.lt_succ_self _) (fun L w' he => by rw [hI2]; exact ⟨_, q8, A8_w2, c8_w2, A8_w3, c8_w3, rfl, h, hF.trans he.fine, hWc8.later he.fine, hWc8_2.later he.fine, hWc8_3.later he.fine, djc8_1_0, djc8_2_0, djc8_2_1, hmc8_2, hmc8_3⟩)
          ·have h := bif_f h hc323
           obtain rfl := Option.some.inj h
           have h := hl2 _ rfl
           exact ok_again (I := I2) m2 (Nat.lt_succ_self _) (fun L w' he => by rw [hI2]; exact ⟨_, q8, A8_w2, c8_w2, A8_w3, c8_w3, rfl, h, hF.trans he.fine, hWc8.later he.fine, hWc8_2.later he.fine, hWc8_3.later he.fine, djc8_1_0, djc8_2_0, djc8_2_1, hmc8_2, hmc8_3⟩)
        ·have h := bif_f h hc314
         refine ok_if (fun hc324 => ?_) (fun hc324 => ?_)
         ·have h := bif_t h hc324
          obtain ⟨r8, hr8, h⟩ := Option.bind_eq_some_iff.1 h
          obtain ⟨s8_0, q8⟩ := r8
          try dsimp only at h
          have hBv8 : ∀ b, (reasm_Stream_Read.S b0 A2_b0_2 A2_b0_3) b → ¬ _ ∧ b < _ := fun b hb => by rcases hb with hb | hb | hb; exact ⟨(hW2_b0.lt b hb).2.1, hW2_b0.lt1 b hb⟩; exact ⟨(hW2_b0_2.lt b hb).2.1, hW2_b0_2.lt1 b hb⟩; exact ⟨(hW2_b0_3.lt b hb).2.1, hW2_b0_3.lt1 b hb⟩
          have hBm8 : ∀ b, (reasm_Stream_Read.S b0 A2_b0_2 A2_b0_3) b → (fun _ => False) b ∨ w.heap.size ≤ b := fun b hb => by rcases hb with hb | hb | hb; exact hmn0 b hb; exact hm2_b0_2 b hb; exact hm2_b0_3 b hb
          refine ok_callo (reasm_Stream_Read.S b0 A2_b0_2 A2_b0_3) rfl hBv8 (fun L8 w8 g8 lt8 => ?_)
          refine (reasm_Stream_Read.c k _ q2_b0 _ _ _ _ r16.2.1 (s8_0, q8) hr8  w8 (hW2_b0.later g8).bare' (hW2_b0_2.later g8).bare' (hW2_b0_3.later g8).bare' dj_w13_w12 dj_w14_w12 dj_w14_w13).mono ?_
          rintro e w8' ⟨A8_w2, c8_w2, A8_w3, c8_w3, A8_0, c8_0, rfl, hf8, hWc8, hWc8_2, hWc8_3, djc8_1_0, djc8_2_0, djc8_2_1, hzc8_2, hzc8_3, hO8_0, dr8_o325_2, dr8_o325_3⟩
          refine ⟨((A8_0, s8_0.length, c8_0), ()), rfl, hf8, fun g8' hid8 hv8 => ?_⟩
          try dsimp only
          have dk8_o325 : Dj A8_0 b0 := Dj.new hO8_0.fresh (fun b hb => Nat.lt_of_lt_of_le (hBv8 b (Or.inl hb)).2 g8.size)
          have hmc8 := hmn0
          have hmc8_2 : ∀ b, blk (A8_w2, 0, 0) b → (fun _ => False) b ∨ w.heap.size ≤ b := fun b hb => (hzc8_2 b hb).elim (hBm8 b) (fun h => Or.inr (Nat.le_trans (hF.trans g8).size h))
          have hmc8_3 : ∀ b, blk (A8_w3, 0, 0) b → (fun _ => False) b ∨ w.heap.size ≤ b := fun b hb => (hzc8_3 b hb).elim (hBm8 b) (fun h => Or.inr (Nat.le_trans (hF.trans g8).size h))
          have hWc8 := hWc8.vis (fun b hb => hv8 b (Or.inl (Or.inl hb)))
          have hWc8_2 := hWc8_2.vis (fun b hb => hv8 b (hzc8_2 b hb))
          have hWc8_3 := hWc8_3.vis (fun b hb => hv8 b (hzc8_3 b hb))
          have hO8_0 := hO8_0.call (hF.trans g8).size lt8
          have hF := Fine.own hF g8' hBm8 hid8
          obtain ⟨r9, hr9, h⟩ := Option.bind_eq_some_iff.1 h
          obtain ⟨v9_0, v9_1⟩ := r9
          try dsimp only at h
          refine ok_callm rfl (fun L9 w9 g9 lt9 => ?_)
          refine (reasm_Stream_End.c k _ (some q8) (v9_0, v9_1) hr9  w9 ((obr45 hWc8.sl hWc8_2.sl hWc8_3.sl).later g9).bare).mono ?_
          rintro e w9' ⟨rfl, hb9⟩
          refine ⟨(v9_0, v9_1, ()), rfl, hb9, fun g9' => ?_⟩
          try dsimp only
          have hF := hF.trans g9'
          have hO8_0 := hO8_0.later g9'
          have hWc8 := hWc8.later g9'
          have hWc8_2 := hWc8_2.later g9'
          have hWc8_3 := hWc8_3.later g9'
          refine ok_if (fun hc329 => ?_) (fun hc329 => ?_)
          ·have h := bif_t h hc329
           obtain rfl := Option.some.inj h
           have h := hl2 _ rfl
           exact ok_again (I := I2) m2 (Nat.lt_succ_self _) (fun L w' he => by rw [hI2]; exact ⟨_, q8, A8_w2, c8_w2, A8_w3, c8_w3, rfl, h, hF.trans he.fine, hWc8.later he.fine, hWc8_2.later he.fine, hWc8_3.later he.fine, djc8_1_0, djc8_2_0, djc8_2_1, hmc8_2, hmc8_3⟩)
          ·have h := bif_f h hc329
           obtain rfl := Option.some.inj h
           have h := hl2 _ rfl
           exact ok_again (I := I2) m2 (Nat.lt_succ_self _) (fun L w' he => by rw [hI2]; exact ⟨_, q8, A8_w2, c8_w2, A8_w3, c8_w3, rfl, h, hF.trans he.fine, hWc8.later he.fine, hWc8_2.later he.fine, hWc8_3.later he.fine, djc8_1_0, djc8_2_0, djc8_2_1, hmc8_2, hmc8_3⟩)
         ·have h := bif_f h hc324
          obtain ⟨r8, hr8, h⟩ := Option.bind_eq_some_iff.1 h
          obtain ⟨v8_0, q8⟩ := r8
          try dsimp only at h
          have hBv8 : ∀ b, (reasm_Stream_Reset.S b0 A2_b0_2 A2_b0_3) b → ¬ _ ∧ b < _ := fun b hb => by rcases hb with hb | hb | hb; exact ⟨(hW2_b0.lt b hb).2.1, hW2_b0.lt1 b hb⟩; exact ⟨(hW2_b0_2.lt b hb).2.1, hW2_b0_2.lt1 b hb⟩; exact ⟨(hW2_b0_3.lt b hb).2.1, hW2_b0_3.lt1 b hb⟩
          have hBm8 : ∀ b, (reasm_Stream_Reset.S b0 A2_b0_2 A2_b0_3) b → (fun _ => False) b ∨ w.heap.size ≤ b := fun b hb => by rcases hb with hb | hb | hb; exact hmn0 b hb; exact hm2_b0_2 b hb; exact hm2_b0_3 b hb
          refine ok_callo (reasm_Stream_Reset.S b0 A2_b0_2 A2_b0_3) rfl hBv8 (fun L8 w8 g8 lt8 => ?_)
          refine (reasm_Stream_Reset.c k _ q2_b0 _ _ _ _ r16.2.1 (v8_0, q8) hr8  w8 (hW2_b0.later g8).bare' (hW2_b0_2.later g8).bare' (hW2_b0_3.later g8).bare' dj_w13_w12 dj_w14_w12 dj_w14_w13).mono ?_
          rintro e w8' ⟨A8_w2, c8_w2, A8_w3, c8_w3, rfl, hf8, hWc8, hWc8_2, hWc8_3, djc8_1_0, djc8_2_0, djc8_2_1, hzc8_2, hzc8_3⟩
          refine ⟨(v8_0, ()), rfl, hf8, fun g8' hid8 hv8 => ?_⟩
          try dsimp only
          have hmc8 := hmn0
          have hmc8_2 : ∀ b, blk (A8_w2, 0, 0) b → (fun _ => False) b ∨ w.heap.size ≤ b := fun b hb => (hzc8_2 b hb).elim (hBm8 b) (fun h => Or.inr (Nat.le_trans (hF.trans g8).size h))
          have hmc8_3 : ∀ b, blk (A8_w3, 0, 0) b → (fun _ => False) b ∨ w.heap.size ≤ b := fun b hb => (hzc8_3 b hb).elim (hBm8 b) (fun h => Or.inr (Nat.le_trans (hF.trans g8).size h))
          have hWc8 := hWc8.vis (fun b hb => hv8 b (Or.inl (Or.inl hb)))
          have hWc8_2 := hWc8_2.vis (fun b hb => hv8 b (hzc8_2 b hb))
          have hWc8_3 := hWc8_3.vis (fun b hb => hv8 b (hzc8_3 b hb))
          have hF := Fine.own hF g8' hBm8 hid8
          obtain ⟨r9, hr9, h⟩ := Option.bind_eq_some_iff.1 h
          obtain ⟨v9_0, v9_1⟩ := r9
          try dsimp only at h
          refine ok_callm rfl (fun L9 w9 g9 lt9 => ?_)
          refine (reasm_Stream_End.c k _ (some q8) (v9_0, v9_1) hr9  w9 ((obr45 hWc8.sl hWc8_2.sl hWc8_3.sl).later g9).bare).mono ?_
          rintro e w9' ⟨rfl, hb9⟩
          refine ⟨(v9_0, v9_1, ()), rfl, hb9, fun g9' => ?_⟩
          try dsimp only
          have hF := hF.trans g9'
          have hWc8 := hWc8.later g9'
          have hWc8_2 := hWc8_2.later g9'
          have hWc8_3 := hWc8_3.later g9'
          refine ok_if (fun hc333 => ?_) (fun hc333 => ?_)
          ·have h := bif_t h hc333
           obtain rfl := Option.some.inj h
           have h := hl2 _ rfl
           exact ok_again (I := I2) m2 (Nat.lt_succ_self _) (fun L w' he => by rw [hI2]; exact ⟨_, q8, A8_w2, c8_w2, A8_w3, c8_w3, rfl, h, hF.trans he.fine, hWc8.later he.fine, hWc8_2.later he.fine, hWc8_3.later he.fine, djc8_1_0, djc8_2_0, djc8_2_1, hmc8_2, hmc8_3⟩)
          ·have h := bif_f h hc333
           obtain rfl := Option.some.inj h
           have h := hl2 _ rfl
           exact ok_again (I := I2) m2 (Nat.lt_succ_self _) (fun L w' he => by rw [hI2]; exact ⟨_, q8, A8_w2, c8_w2, A8_w3, c8_w3, rfl, h, hF.trans he.fine, hWc8.later he.fine, hWc8_2.later he.fine, hWc8_3.later he.fine, djc8_1_0, djc8_2_0, djc8_2_1, hmc8_2, hmc8_3⟩)
    ·have h := bif_f h hc15
     obtain rfl := Option.some.inj h
     obtain rfl := hr_2 _ rfl
     intro ρ L w' _ he _ _
     exact ⟨rfl, (hF.ext he).below⟩
   ·have h := bif_f h hc10
    obtain ⟨v2_0, hr2, h⟩ := Option.bind_eq_some_iff.1 h
    refine ok_callm rfl (fun L2 w2 g2 lt2 => ?_)
    refine (law09_alive.c k  v2_0 hr2  w2 ).mono ?_
    rintro e w2' ⟨rfl, hb2⟩
    refine ⟨(v2_0, ()), rfl, hb2, fun g2' => ?_⟩
    try dsimp only
    have hF := hF.trans g2'
    have hWn0 := hWn0.later g2'
    have hWn0_2 := hWn0_2.later g2'
    have hWn0_3 := hWn0_3.later g2'
    refine ok_if (fun hc334 => ?_) (fun hc334 => ?_)
    ·have h := bif_t h hc334
     obtain rfl := Option.some.inj h
     intro ρ L w' _ he _ _
     exact ⟨rfl, (hF.ext he).below⟩
    ·have h := bif_f h hc334
     obtain rfl := Option.some.inj h
     intro ρ L w' _ he _ _
     exact ⟨rfl, (hF.ext he).below⟩
end Go.Proofs.Ytdjeadgebcndeaa.X
