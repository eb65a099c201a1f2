/- Functions: their trees, functions over lists that answer as they do, and that they do. -/
import Derived.Test.YtdjeadgebcndeaaRwt
namespace Go.Proofs.Ytdjeadgebcndeaa.X
open Go Go.RowKit Go.Proofs.YtdjeadgebcndeaaW.Rx
set_option linter.unusedVariables false
set_option linter.unusedSimpArgs false
set_option maxRecDepth 10000
set_option maxHeartbeats 4000000 in
theorem reasm_Stream_put.c (k : Nat) (a0 : Option Addr) (q0 : Int × Int × (List Int) × (List (Int × Int)) × Int × Bool × Bool) (A0_2 : Option Addr) (c0_2 : Nat) (A0_3 : Option Addr) (c0_3 : Nat) (a1 : Int) (A2 : Option Addr) (n2 c2 : Nat) (l2 : List Int) (r : (Int × Int × (List Int) × (List (Int × Int)) × Int × Bool × Bool)) (h : reasm_Stream_put.F k q0 a1 l2 = some r) (hn2 : n2 = l2.length) (w : World) (hW0 : OwnO 0 (fun _ => False) w 45 RW45 a0 1 [(q0.1, q0.2.1, (A0_2, q0.2.2.1.length, c0_2), (A0_3, q0.2.2.2.1.length, c0_3), q0.2.2.2.2.1, q0.2.2.2.2.2.1, q0.2.2.2.2.2.2)]) (hW0_2 : OwnO 0 (fun _ => False) w 5 R22 A0_2 c0_2 q0.2.2.1) (hW0_3 : OwnO 0 (fun _ => False) w 51 R43 A0_3 c0_3 q0.2.2.2.1) (dj0_1_0 : Dj A0_2 a0) (dj0_2_0 : Dj A0_3 a0) (dj0_2_1 : Dj A0_3 A0_2) (hS2 : SlR R22.row (reasm_Stream_put.S a0 A0_2 A0_3) w A2 c2 l2) : Calls Try.prog 23 (AV.gs id [AV.v (Value.pointer a0), AV.v (Value.int IntKind.i64 a1), AV.v (Value.slice A2 n2 c2)]).toArray w fun e w' => ∃ (P2 : Option Addr) (p2 : Nat) (P3 : Option Addr) (p3 : Nat), e = .returned (((Sh.tup [] : Sh).av (vs [] (()))).g id) ∧ Fine (reasm_Stream_put.S a0 A0_2 A0_3) w (reasm_Stream_put.S a0 A0_2 A0_3) w' ∧ OwnO 0 (fun _ => False) w' 45 RW45 a0 1 [(r.1, r.2.1, (P2, r.2.2.1.length, p2), (P3, r.2.2.2.1.length, p3), r.2.2.2.2.1, r.2.2.2.2.2.1, r.2.2.2.2.2.2)] ∧ OwnO 0 (fun _ => False) w' 5 R22 P2 p2 r.2.2.1 ∧ OwnO 0 (fun _ => False) w' 51 R43 P3 p3 r.2.2.2.1 ∧ Dj P2 a0 ∧ Dj P3 a0 ∧ Dj P3 P2 ∧ (∀ b, blk (P2, 0, 0) b → (reasm_Stream_put.S a0 A0_2 A0_3) b ∨ w.heap.size ≤ b) ∧ (∀ b, blk (P3, 0, 0) b → (reasm_Stream_put.S a0 A0_2 A0_3) b ∨ w.heap.size ≤ b) := by
  subst hn2
  refine enter0 mixed reasm_Stream_put.A noC [AV.v (Value.pointer a0), AV.v (Value.int IntKind.i64 a1), AV.v (Value.slice A2 l2.length c2)] Try.func23 rfl rfl rfl (fun hF => ?_)
  have hA_a0 : Option.isSome a0 = true := hW0.sl.some (by simp)
  have hN_a0 : Option.isNone a0 = false := by cases a0 <;> simp_all
  have hF : Fine (reasm_Stream_put.S a0 A0_2 A0_3) w (fun _ => False) w := ⟨rfl, rfl, rfl, Nat.le_refl _, fun _ _ _ => rfl, fun b h => h.elim⟩
  have hm0 : ∀ b, blk (a0, 0, 0) b → (reasm_Stream_put.S a0 A0_2 A0_3) b ∨ w.heap.size ≤ b := fun b hb => Or.inl (Or.inl hb)
  have hm0_2 : ∀ b, blk (A0_2, 0, 0) b → (reasm_Stream_put.S a0 A0_2 A0_3) b ∨ w.heap.size ≤ b := fun b hb => Or.inl (Or.inr (Or.inl hb))
  have hm0_3 : ∀ b, blk (A0_3, 0, 0) b → (reasm_Stream_put.S a0 A0_2 A0_3) b ∨ w.heap.size ≤ b := fun b hb => Or.inl (Or.inr (Or.inr hb))
  rw [reasm_Stream_put.t]
  unfold reasm_Stream_put.F at h
  try dsimp only at h
  refine ok_if (fun hc4 => ?_) (fun hc4 => ?_)
  · have h := bif_t h hc4
    obtain rfl := Option.some.inj h
    have homes := fun (b : Nat) (h : b < w.heap.size) => h
    intro ρ L w' _ he _ _
    exact ⟨A0_2, c0_2, A0_3, c0_3, rfl, (hF.ext he).with (fun b h => Or.inl h), (hW0.later he.fine).bare', (hW0_2.later he.fine).bare', (hW0_3.later he.fine).bare', dj0_1_0, dj0_2_0, dj0_2_1, hm0_2, hm0_3⟩
  · have h := bif_f h hc4
    obtain ⟨s0_0, hr0, h⟩ := Option.bind_eq_some_iff.1 h
    refine ok_callm rfl (fun L0 w0 g0 lt0 => ?_)
    refine (reasm_Stream_gaps.c k _ (some q0) a1 (IntKind.wrap IntKind.i64 (IntKind.wrap IntKind.i64 (a1 + ((l2.length : Nat) : Int)) - 1)) s0_0 hr0  w0 ((obr45 hW0.sl hW0_2.sl hW0_3.sl).later g0).bare).mono ?_
    rintro e w0' ⟨A0_0, c0_0, rfl, hb0, hO0_0⟩
    refine ⟨((A0_0, s0_0.length, c0_0), ()), rfl, hb0, fun g0' => ?_⟩
    try dsimp only
    have dj_o5_w1 : Dj A0_0 a0 := Dj.new hO0_0.fresh (hW0.later g0).lt1
    have dj_o5_w2 : Dj A0_0 A0_2 := Dj.new hO0_0.fresh (hW0_2.later g0).lt1
    have dj_o5_w3 : Dj A0_0 A0_3 := Dj.new hO0_0.fresh (hW0_3.later g0).lt1
    have hO0_0 := hO0_0.call (hF.trans g0).size lt0
    have hF := hF.trans g0'
    have hW0 := hW0.later g0'
    have hW0_2 := hW0_2.later g0'
    have hW0_3 := hW0_3.later g0'
    obtain ⟨I1, hI1⟩ : ∃ I : Nat → Tup [Lf.i IntKind.i64] → (Nat → Prop) → World → Prop, I = (fun m_ y L w' => ∃ (v1_0 : Int) (q1_a0 : Int × Int × (List Int) × (List (Int × Int)) × Int × Bool × Bool) (A1_a0_2 : Option Addr) (c1_a0_2 : Nat) (A1_a0_3 : Option Addr) (c1_a0_3 : Nat), y = (v1_0, ()) ∧ iter (reasm_Stream_put.s1 k a1 l2 s0_0) m_ (v1_0, q1_a0) = some r ∧ Fine (reasm_Stream_put.S a0 A0_2 A0_3) w L w' ∧ OwnF w.heap.size L w' 51 R43 A0_0 c0_0 s0_0 ∧ OwnO 0 L w' 45 RW45 a0 1 [(q1_a0.1, q1_a0.2.1, (A1_a0_2, q1_a0.2.2.1.length, c1_a0_2), (A1_a0_3, q1_a0.2.2.2.1.length, c1_a0_3), q1_a0.2.2.2.2.1, q1_a0.2.2.2.2.2.1, q1_a0.2.2.2.2.2.2)] ∧ OwnO 0 L w' 5 R22 A1_a0_2 c1_a0_2 q1_a0.2.2.1 ∧ OwnO 0 L w' 51 R43 A1_a0_3 c1_a0_3 q1_a0.2.2.2.1 ∧ Dj A1_a0_2 A0_0 ∧ Dj A1_a0_2 a0 ∧ Dj A1_a0_3 A0_0 ∧ Dj A1_a0_3 a0 ∧ Dj A1_a0_3 A1_a0_2 ∧ (∀ b, blk (A1_a0_2, 0, 0) b → (reasm_Stream_put.S a0 A0_2 A0_3) b ∨ w.heap.size ≤ b) ∧ (∀ b, blk (A1_a0_3, 0, 0) b → (reasm_Stream_put.S a0 A0_2 A0_3) b ∨ w.heap.size ≤ b)) := ⟨_, rfl⟩
    refine ok_loop I1 k (by rw [hI1]; exact ⟨_, q0, A0_2, c0_2, A0_3, c0_3, rfl, h, hF, hO0_0, hW0, hW0_2, hW0_3, (Dj.symm dj_o5_w2), dj0_1_0, (Dj.symm dj_o5_w3), dj0_2_0, dj0_2_1, hm0_2, hm0_3⟩) ?_
    clear h
    intro m_ y L1 w1 hy
    rw [hI1] at hy
    obtain ⟨v1_0, q1_a0, A1_a0_2, c1_a0_2, A1_a0_3, c1_a0_3, rfl, h, hF, hO0_0, hW1_a0, hW1_a0_2, hW1_a0_3, dj_w8_o5, dj_w8_w7, dj_w9_o5, dj_w9_w7, dj_w9_w8, hm1_a0_2, hm1_a0_3⟩ := hy
    obtain ⟨m1, o1, rfl, h, hl1, hr_1⟩ := iter_some h
    unfold reasm_Stream_put.s1 at h
    try dsimp only at h
    try dsimp only
    refine ok_if (fun hc10 => ?_) (fun hc10 => ?_)
    · have h := bif_t h hc10
      obtain ⟨r11, hr12, h⟩ := Option.bind_eq_some_iff.1 h
      refine ok_need (getI_need hO0_0.sl hr12) ?_
      refine ok_get hO0_0.sl (Fine.refl _ _) hr12 (by simp) (fun cs hcs => ⟨(r11.1, r11.2, ()), hcs.symm, ?_⟩)
      try dsimp only
      refine ok_need hA_a0 ?_
      refine ok_need hA_a0 ?_
      refine ok_ob 2 hW1_a0.sl (Fine.refl _ _) (fun cs hcs => ⟨(A1_a0_2, q1_a0.2.2.1.length, c1_a0_2), by rw [hcs]; rfl, ?_⟩)
      try dsimp only
      refine ok_need hA_a0 ?_
      refine ok_need hA_a0 ?_
      refine ok_ob 1 hW1_a0.sl (Fine.refl _ _) (fun cs hcs => ⟨q1_a0.2.1, by rw [hcs]; rfl, ?_⟩)
      try dsimp only
      obtain ⟨hs13, h⟩ := bif_need h
      have hs13 := of_decide_eq_true hs13
      have hcap := hW1_a0_2.sl.2.1
      refine ok_need (by first | exact part3 hs13 hcap | exact part3 hs13 (Nat.le_refl _)) ?_
      obtain ⟨hs15, h⟩ := bif_need h
      have hs15 := of_decide_eq_true hs15
      have hcap := (hS2.later hF).2.1
      refine ok_need (by first | exact part3 hs15 hcap | exact part3 hs15 (Nat.le_refl _)) ?_
      refine ok_copyG (R := R22) (xs := q1_a0.2.2.1) (ys := (((l2.drop (Int.toNat (IntKind.wrap IntKind.i64 (r11.1 - a1)))).take (Int.toNat (IntKind.wrap IntKind.i64 (IntKind.wrap IntKind.i64 (r11.2 - a1) + 1)) - Int.toNat (IntKind.wrap IntKind.i64 (r11.1 - a1)))))) E22 hW1_a0_2 ((hS2.later hF).sub _ _ hs15.1 hs15.2.1 hs15.2.2) (sub_len hs15.1 hs15.2.1 hs15.2.2) hs13.1 (Int.le_trans hs13.2.1 hs13.2.2) (by simp) (fun L5 w5 h5 g5 hid5 => ?_)
      try dsimp only
      have hO0_0 := hO0_0.other (Dj.symm dj_w8_o5) g5
      have hW1_a0 := hW1_a0.other (Dj.symm dj_w8_w7) g5
      have hW1_a0_3 := hW1_a0_3.other dj_w9_w8 g5
      have hF := Fine.own hF g5 hm1_a0_2 hid5
      have hW1_a0_2 := h5
      have hW1_a0 : OwnO 0 L5 w5 45 RW45 a0 1 [(q1_a0.1, q1_a0.2.1, (A1_a0_2, ((cop (Int.toNat (IntKind.wrap IntKind.i64 (r11.1 - q1_a0.2.1))) q1_a0.2.2.1 (((l2.drop (Int.toNat (IntKind.wrap IntKind.i64 (r11.1 - a1)))).take (Int.toNat (IntKind.wrap IntKind.i64 (IntKind.wrap IntKind.i64 (r11.2 - a1) + 1)) - Int.toNat (IntKind.wrap IntKind.i64 (r11.1 - a1))))))).length, c1_a0_2), (A1_a0_3, q1_a0.2.2.2.1.length, c1_a0_3), q1_a0.2.2.2.2.1, q1_a0.2.2.2.2.2.1, q1_a0.2.2.2.2.2.2)] := by rw [cop_len (by have := hs13.1; have := Int.le_trans hs13.2.1 hs13.2.2; omega)]; exact hW1_a0
      obtain rfl := Option.some.inj h
      have h := hl1 _ rfl
      exact ok_again (I := I1) m1 (Nat.lt_succ_self _) (fun L w' he => by rw [hI1]; exact ⟨_, (q1_a0.1, q1_a0.2.1, (cop (Int.toNat (IntKind.wrap IntKind.i64 (r11.1 - q1_a0.2.1))) q1_a0.2.2.1 (((l2.drop (Int.toNat (IntKind.wrap IntKind.i64 (r11.1 - a1)))).take (Int.toNat (IntKind.wrap IntKind.i64 (IntKind.wrap IntKind.i64 (r11.2 - a1) + 1)) - Int.toNat (IntKind.wrap IntKind.i64 (r11.1 - a1)))))), q1_a0.2.2.2.1, q1_a0.2.2.2.2.1, q1_a0.2.2.2.2.2.1, q1_a0.2.2.2.2.2.2), A1_a0_2, c1_a0_2, A1_a0_3, c1_a0_3, rfl, h, hF.trans he.fine, hO0_0.later he.fine, hW1_a0.later he.fine, hW1_a0_2.later he.fine, hW1_a0_3.later he.fine, dj_w8_o5, dj_w8_w7, dj_w9_o5, dj_w9_w7, dj_w9_w8, hm1_a0_2, hm1_a0_3⟩)
    · have h := bif_f h hc10
      refine ok_need hA_a0 ?_
      refine ok_need hA_a0 ?_
      refine ok_ob 3 hW1_a0.sl (Fine.refl _ _) (fun cs hcs => ⟨(A1_a0_3, q1_a0.2.2.2.1.length, c1_a0_3), by rw [hcs]; rfl, ?_⟩)
      try dsimp only
      obtain ⟨I3, hI3⟩ : ∃ I : Nat → Tup [Lf.i IntKind.i64] → (Nat → Prop) → World → Prop, I = (fun m_ y L w' => ∃ (v3_0 : Int) (q3_a0 : Int × Int × (List Int) × (List (Int × Int)) × Int × Bool × Bool) (A3_a0_2 : Option Addr) (c3_a0_2 : Nat) (A3_a0_3 : Option Addr) (c3_a0_3 : Nat), y = (v3_0, ()) ∧ iter (reasm_Stream_put.s3 k a1 l2 q1_a0) m_ (v3_0, q3_a0) = some o1 ∧ Fine (reasm_Stream_put.S a0 A0_2 A0_3) w L w' ∧ OwnF w.heap.size L w' 51 R43 A0_0 c0_0 s0_0 ∧ OwnO 0 L w' 45 RW45 a0 1 [(q3_a0.1, q3_a0.2.1, (A3_a0_2, q3_a0.2.2.1.length, c3_a0_2), (A3_a0_3, q3_a0.2.2.2.1.length, c3_a0_3), q3_a0.2.2.2.2.1, q3_a0.2.2.2.2.2.1, q3_a0.2.2.2.2.2.2)] ∧ OwnO 0 L w' 5 R22 A3_a0_2 c3_a0_2 q3_a0.2.2.1 ∧ OwnO 0 L w' 51 R43 A3_a0_3 c3_a0_3 q3_a0.2.2.2.1 ∧ Dj A3_a0_2 A0_0 ∧ Dj A3_a0_2 a0 ∧ Dj A3_a0_3 A0_0 ∧ Dj A3_a0_3 a0 ∧ Dj A3_a0_3 A3_a0_2 ∧ (∀ b, blk (A3_a0_2, 0, 0) b → (reasm_Stream_put.S a0 A0_2 A0_3) b ∨ w.heap.size ≤ b) ∧ (∀ b, blk (A3_a0_3, 0, 0) b → (reasm_Stream_put.S a0 A0_2 A0_3) b ∨ w.heap.size ≤ b)) := ⟨_, rfl⟩
      refine ok_loop I3 k (by rw [hI3]; exact ⟨_, q1_a0, A1_a0_2, c1_a0_2, A1_a0_3, c1_a0_3, rfl, h, hF, hO0_0, hW1_a0, hW1_a0_2, hW1_a0_3, dj_w8_o5, dj_w8_w7, dj_w9_o5, dj_w9_w7, dj_w9_w8, hm1_a0_2, hm1_a0_3⟩) ?_
      clear h
      intro m_ y L3 w3 hy
      rw [hI3] at hy
      obtain ⟨v3_0, q3_a0, A3_a0_2, c3_a0_2, A3_a0_3, c3_a0_3, rfl, h, hF, hO0_0, hW3_a0, hW3_a0_2, hW3_a0_3, dj_w20_o5, dj_w20_w19, dj_w21_o5, dj_w21_w19, dj_w21_w20, hm3_a0_2, hm3_a0_3⟩ := hy
      obtain ⟨m3, o3, rfl, h, hl3, hr_3⟩ := iter_some h
      unfold reasm_Stream_put.s3 at h
      try dsimp only at h
      try dsimp only
      refine ok_need hA_a0 ?_
      refine ok_need hA_a0 ?_
      refine ok_ob 3 hW3_a0.sl (Fine.refl _ _) (fun cs hcs => ⟨(A3_a0_3, q3_a0.2.2.2.1.length, c3_a0_3), by rw [hcs]; rfl, ?_⟩)
      try dsimp only
      refine ok_if (fun hc22 => ?_) (fun hc22 => ?_)
      · have h := bif_t h hc22
        refine ok_need hA_a0 ?_
        refine ok_need hA_a0 ?_
        refine ok_ob 3 hW3_a0.sl (Fine.refl _ _) (fun cs hcs => ⟨(A3_a0_3, q3_a0.2.2.2.1.length, c3_a0_3), by rw [hcs]; rfl, ?_⟩)
        try dsimp only
        obtain ⟨r23, hr24, h⟩ := Option.bind_eq_some_iff.1 h
        refine ok_need (getI_need hW3_a0_3.sl hr24) ?_
        refine ok_need (getI_need2 hW3_a0_3.sl hr24) ?_
        refine ok_getf 1 hW3_a0_3.sl (Fine.refl _ _) hr24 (fun cs hcs => ⟨r23.2, by rw [hcs]; rfl, ?_⟩)
        try dsimp only
        refine ok_if (fun hc25 => ?_) (fun hc25 => ?_)
        · have h := bif_t h hc25
          obtain rfl := Option.some.inj h
          have h := hl3 _ rfl
          exact ok_again (I := I3) m3 (Nat.lt_succ_self _) (fun L w' he => by rw [hI3]; exact ⟨_, q3_a0, A3_a0_2, c3_a0_2, A3_a0_3, c3_a0_3, rfl, h, hF.trans he.fine, hO0_0.later he.fine, hW3_a0.later he.fine, hW3_a0_2.later he.fine, hW3_a0_3.later he.fine, dj_w20_o5, dj_w20_w19, dj_w21_o5, dj_w21_w19, dj_w21_w20, hm3_a0_2, hm3_a0_3⟩)
        · have h := bif_f h hc25
          obtain ⟨I7, hI7⟩ : ∃ I : Nat → Tup [Lf.i IntKind.i64] → (Nat → Prop) → World → Prop, I = (fun m_ y L w' => ∃ (v7_0 : Int) (q7_a0 : Int × Int × (List Int) × (List (Int × Int)) × Int × Bool × Bool) (A7_a0_2 : Option Addr) (c7_a0_2 : Nat) (A7_a0_3 : Option Addr) (c7_a0_3 : Nat), y = (v7_0, ()) ∧ iter (reasm_Stream_put.s7 k a1 l2 v3_0) m_ (v7_0, q7_a0) = some o3 ∧ Fine (reasm_Stream_put.S a0 A0_2 A0_3) w L w' ∧ OwnF w.heap.size L w' 51 R43 A0_0 c0_0 s0_0 ∧ OwnO 0 L w' 45 RW45 a0 1 [(q7_a0.1, q7_a0.2.1, (A7_a0_2, q7_a0.2.2.1.length, c7_a0_2), (A7_a0_3, q7_a0.2.2.2.1.length, c7_a0_3), q7_a0.2.2.2.2.1, q7_a0.2.2.2.2.2.1, q7_a0.2.2.2.2.2.2)] ∧ OwnO 0 L w' 5 R22 A7_a0_2 c7_a0_2 q7_a0.2.2.1 ∧ OwnO 0 L w' 51 R43 A7_a0_3 c7_a0_3 q7_a0.2.2.2.1 ∧ Dj A7_a0_2 A0_0 ∧ Dj A7_a0_2 a0 ∧ Dj A7_a0_3 A0_0 ∧ Dj A7_a0_3 a0 ∧ Dj A7_a0_3 A7_a0_2 ∧ (∀ b, blk (A7_a0_2, 0, 0) b → (reasm_Stream_put.S a0 A0_2 A0_3) b ∨ w.heap.size ≤ b) ∧ (∀ b, blk (A7_a0_3, 0, 0) b → (reasm_Stream_put.S a0 A0_2 A0_3) b ∨ w.heap.size ≤ b)) := ⟨_, rfl⟩
          refine ok_loop I7 k (by rw [hI7]; exact ⟨_, q3_a0, A3_a0_2, c3_a0_2, A3_a0_3, c3_a0_3, rfl, h, hF, hO0_0, hW3_a0, hW3_a0_2, hW3_a0_3, dj_w20_o5, dj_w20_w19, dj_w21_o5, dj_w21_w19, dj_w21_w20, hm3_a0_2, hm3_a0_3⟩) ?_
          clear h
          intro m_ y L7 w7 hy
          rw [hI7] at hy
          obtain ⟨v7_0, q7_a0, A7_a0_2, c7_a0_2, A7_a0_3, c7_a0_3, rfl, h, hF, hO0_0, hW7_a0, hW7_a0_2, hW7_a0_3, dj_w28_o5, dj_w28_w27, dj_w29_o5, dj_w29_w27, dj_w29_w28, hm7_a0_2, hm7_a0_3⟩ := hy
          obtain ⟨m7, o7, rfl, h, hl7, hr_7⟩ := iter_some h
          unfold reasm_Stream_put.s7 at h
          try dsimp only at h
          try dsimp only
          refine ok_if (fun hc30 => ?_) (fun hc30 => ?_)
          · have h := bif_t h hc30
            refine ok_need hA_a0 ?_
            refine ok_need hA_a0 ?_
            refine ok_ob 3 hW7_a0.sl (Fine.refl _ _) (fun cs hcs => ⟨(A7_a0_3, q7_a0.2.2.2.1.length, c7_a0_3), by rw [hcs]; rfl, ?_⟩)
            try dsimp only
            obtain ⟨r31, hr32, h⟩ := Option.bind_eq_some_iff.1 h
            refine ok_need (getI_need hW7_a0_3.sl hr32) ?_
            refine ok_need (getI_need2 hW7_a0_3.sl hr32) ?_
            refine ok_getf 0 hW7_a0_3.sl (Fine.refl _ _) hr32 (fun cs hcs => ⟨r31.1, by rw [hcs]; rfl, ?_⟩)
            try dsimp only
            refine ok_if (fun hc33 => ?_) (fun hc33 => ?_)
            · have h := bif_t h hc33
              obtain rfl := Option.some.inj h
              have h := hl7 _ rfl
              exact ok_again (I := I7) m7 (Nat.lt_succ_self _) (fun L w' he => by rw [hI7]; exact ⟨_, q7_a0, A7_a0_2, c7_a0_2, A7_a0_3, c7_a0_3, rfl, h, hF.trans he.fine, hO0_0.later he.fine, hW7_a0.later he.fine, hW7_a0_2.later he.fine, hW7_a0_3.later he.fine, dj_w28_o5, dj_w28_w27, dj_w29_o5, dj_w29_w27, dj_w29_w28, hm7_a0_2, hm7_a0_3⟩)
            · have h := bif_f h hc33
              refine ok_if (fun hc34 => ?_) (fun hc34 => ?_)
              · have h := bif_t h hc34
                refine ok_need hA_a0 ?_
                refine ok_need hA_a0 ?_
                refine ok_ob 3 hW7_a0.sl (Fine.refl _ _) (fun cs hcs => ⟨(A7_a0_3, q7_a0.2.2.2.1.length, c7_a0_3), by rw [hcs]; rfl, ?_⟩)
                try dsimp only
                obtain ⟨r35, hr36, h⟩ := Option.bind_eq_some_iff.1 h
                refine ok_need (getI_need hW7_a0_3.sl hr36) ?_
                refine ok_need (getI_need2 hW7_a0_3.sl hr36) ?_
                refine ok_getf 0 hW7_a0_3.sl (Fine.refl _ _) hr36 (fun cs hcs => ⟨r35.1, by rw [hcs]; rfl, ?_⟩)
                try dsimp only
                refine ok_need hA_a0 ?_
                refine ok_need hA_a0 ?_
                refine ok_ob 3 hW7_a0.sl (Fine.refl _ _) (fun cs hcs => ⟨(A7_a0_3, q7_a0.2.2.2.1.length, c7_a0_3), by rw [hcs]; rfl, ?_⟩)
                try dsimp only
                obtain ⟨r37, hr38, h⟩ := Option.bind_eq_some_iff.1 h
                refine ok_need (getI_need hW7_a0_3.sl hr38) ?_
                refine ok_need (getI_need2 hW7_a0_3.sl hr38) ?_
                refine ok_getf 1 hW7_a0_3.sl (Fine.refl _ _) hr38 (fun cs hcs => ⟨r37.2, by rw [hcs]; rfl, ?_⟩)
                try dsimp only
                refine ok_need hA_a0 ?_
                refine ok_need hA_a0 ?_
                refine ok_ob 3 hW7_a0.sl (Fine.refl _ _) (fun cs hcs => ⟨(A7_a0_3, q7_a0.2.2.2.1.length, c7_a0_3), by rw [hcs]; rfl, ?_⟩)
                try dsimp only
                refine ok_lit (R := R43) (base := w.heap.size) (xs := ([(if r35.1 < a1 then r35.1 else a1, if IntKind.wrap IntKind.i64 (IntKind.wrap IntKind.i64 (a1 + ((l2.length : Nat) : Int)) - 1) < r37.2 then r37.2 else IntKind.wrap IntKind.i64 (IntKind.wrap IntKind.i64 (a1 + ((l2.length : Nat) : Int)) - 1))] : List (Int × Int))) #[Value.int IntKind.i64 (if r35.1 < a1 then r35.1 else a1), Value.int IntKind.i64 (if IntKind.wrap IntKind.i64 (IntKind.wrap IntKind.i64 (a1 + ((l2.length : Nat) : Int)) - 1) < r37.2 then r37.2 else IntKind.wrap IntKind.i64 (IntKind.wrap IntKind.i64 (a1 + ((l2.length : Nat) : Int)) - 1))] E43 rfl (by decide) (by decide) ⟨_, _, rfl, rfl, by kernel_rfl⟩ rfl hF.size (fun A15 c15 L15 w15 hO15 g15 hbl15 => ?_)
                try dsimp only
                have dj_o39_o5 : Dj A15 A0_0 := Dj.new hbl15 hO0_0.lt
                have dj_o39_w27 : Dj A15 a0 := Dj.new hbl15 hW7_a0.lt1
                have dj_o39_w28 : Dj A15 A7_a0_2 := Dj.new hbl15 hW7_a0_2.lt1
                have dj_o39_w29 : Dj A15 A7_a0_3 := Dj.new hbl15 hW7_a0_3.lt1
                have hF := hF.trans g15
                have hO0_0 := hO0_0.later g15
                have hW7_a0 := hW7_a0.later g15
                have hW7_a0_2 := hW7_a0_2.later g15
                have hW7_a0_3 := hW7_a0_3.later g15
                refine ok_keep0 (lf := .sl) 3 ((A7_a0_3, q7_a0.2.2.2.1.length, c7_a0_3)) hW7_a0.sl (fun cs hcs => by rw [hcs]; rfl) rfl ?_
                obtain ⟨hq40, h⟩ := bif_need h
                have hq40 := of_decide_eq_true hq40
                refine ok_rep43 rfl hW7_a0_3 hO15.off.mono0 dj_o39_w29 hq40.1 hq40.2.1 hq40.2.2.1 hq40.2.2.2 (fun A16 c16 L16 w16 hO16 g16 hid16 hbl16 => ?_)
                try dsimp only
                have dj_o41_o5 : Dj A16 A0_0 := Dj.grow dj_w29_o5 hbl16 hO0_0.lt
                have dj_o41_w27 : Dj A16 a0 := Dj.grow dj_w29_w27 hbl16 hW7_a0.lt1
                have dj_o41_w28 : Dj A16 A7_a0_2 := Dj.grow dj_w29_w28 hbl16 hW7_a0_2.lt1
                have dj_o41_o39 : Dj A16 A15 := Dj.grow (Dj.symm dj_o39_w29) hbl16 hO15.lt
                have hm_hO16 : ∀ b, blk (A16, 0, 0) b → (reasm_Stream_put.S a0 A0_2 A0_3) b ∨ w.heap.size ≤ b := fun b hb => (hbl16 b hb).elim (hm7_a0_3 b) (fun h => Or.inr (Nat.le_trans hF.size h))
                have hO0_0 := hO0_0.other (Dj.symm dj_w29_o5) g16
                have hW7_a0 := hW7_a0.other (Dj.symm dj_w29_w27) g16
                have hW7_a0_2 := hW7_a0_2.other (Dj.symm dj_w29_w28) g16
                have hO15 := hO15.other dj_o39_w29 g16
                have hF := Fine.own hF g16 hm7_a0_3 hid16
                refine ok_need hA_a0 ?_
                refine ok_need hA_a0 ?_
                refine ok_put0 (R := RW45) (x' := (q7_a0.1, q7_a0.2.1, (A7_a0_2, q7_a0.2.2.1.length, c7_a0_2), (A16, ((q7_a0.2.2.2.1.take (Int.toNat v3_0) ++ [(if r35.1 < a1 then r35.1 else a1, if IntKind.wrap IntKind.i64 (IntKind.wrap IntKind.i64 (a1 + ((l2.length : Nat) : Int)) - 1) < r37.2 then r37.2 else IntKind.wrap IntKind.i64 (IntKind.wrap IntKind.i64 (a1 + ((l2.length : Nat) : Int)) - 1))] ++ q7_a0.2.2.2.1.drop (Int.toNat v7_0))).length, c16), q7_a0.2.2.2.2.1, q7_a0.2.2.2.2.2.1, q7_a0.2.2.2.2.2.2)) (vs := [Value.slice A16 (((q7_a0.2.2.2.1.take (Int.toNat v3_0) ++ [(if r35.1 < a1 then r35.1 else a1, if IntKind.wrap IntKind.i64 (IntKind.wrap IntKind.i64 (a1 + ((l2.length : Nat) : Int)) - 1) < r37.2 then r37.2 else IntKind.wrap IntKind.i64 (IntKind.wrap IntKind.i64 (a1 + ((l2.length : Nat) : Int)) - 1))] ++ q7_a0.2.2.2.1.drop (Int.toNat v7_0))).length) c16]) 3 hW7_a0 (Nat.le_of_ble_eq_true rfl) rfl (fun _ => rfl) (fun Lt42 wt42 ht42 gst42 hdt42 => ?_)
                have hO0_0 := hO0_0.other (Dj.symm (Dj.symm dj_o5_w1)) gst42
                have hW7_a0_2 := hW7_a0_2.other dj_w28_w27 gst42
                have hO15 := hO15.other dj_o39_w27 gst42
                have hO16 := hO16.other dj_o41_w27 gst42
                have hF := Fine.own hF gst42 hm0 hdt42
                have hW7_a0 := ht42
                obtain rfl := Option.some.inj h
                obtain rfl := hr_7 _ rfl
                obtain rfl := hr_3 _ rfl
                obtain rfl := hr_1 _ rfl
                have homes := fun (b : Nat) (h : b < w.heap.size) => h
                intro ρ L w' _ he _ _
                exact ⟨A7_a0_2, c7_a0_2, A16, c16, rfl, (hF.ext he).with (fun b h => Or.inl h), (hW7_a0.later he.fine).bare', (hW7_a0_2.later he.fine).bare', (hO16.later he.fine).bare', dj_w28_w27, dj_o41_w27, dj_o41_w28, hm7_a0_2, hm_hO16⟩
              · have h := bif_f h hc34
                refine ok_need hA_a0 ?_
                refine ok_need hA_a0 ?_
                refine ok_ob 3 hW7_a0.sl (Fine.refl _ _) (fun cs hcs => ⟨(A7_a0_3, q7_a0.2.2.2.1.length, c7_a0_3), by rw [hcs]; rfl, ?_⟩)
                try dsimp only
                refine ok_lit (R := R43) (base := w.heap.size) (xs := ([(a1, IntKind.wrap IntKind.i64 (IntKind.wrap IntKind.i64 (a1 + ((l2.length : Nat) : Int)) - 1))] : List (Int × Int))) #[Value.int IntKind.i64 a1, Value.int IntKind.i64 (IntKind.wrap IntKind.i64 (IntKind.wrap IntKind.i64 (a1 + ((l2.length : Nat) : Int)) - 1))] E43 rfl (by decide) (by decide) ⟨_, _, rfl, rfl, by kernel_rfl⟩ rfl hF.size (fun A11 c11 L11 w11 hO11 g11 hbl11 => ?_)
                try dsimp only
                have dj_o43_o5 : Dj A11 A0_0 := Dj.new hbl11 hO0_0.lt
                have dj_o43_w27 : Dj A11 a0 := Dj.new hbl11 hW7_a0.lt1
                have dj_o43_w28 : Dj A11 A7_a0_2 := Dj.new hbl11 hW7_a0_2.lt1
                have dj_o43_w29 : Dj A11 A7_a0_3 := Dj.new hbl11 hW7_a0_3.lt1
                have hF := hF.trans g11
                have hO0_0 := hO0_0.later g11
                have hW7_a0 := hW7_a0.later g11
                have hW7_a0_2 := hW7_a0_2.later g11
                have hW7_a0_3 := hW7_a0_3.later g11
                refine ok_keep0 (lf := .sl) 3 ((A7_a0_3, q7_a0.2.2.2.1.length, c7_a0_3)) hW7_a0.sl (fun cs hcs => by rw [hcs]; rfl) rfl ?_
                obtain ⟨hq44, h⟩ := bif_need h
                have hq44 := of_decide_eq_true hq44
                refine ok_rep43 rfl hW7_a0_3 hO11.off.mono0 dj_o43_w29 hq44.1 hq44.2.1 hq44.2.2.1 hq44.2.2.2 (fun A12 c12 L12 w12 hO12 g12 hid12 hbl12 => ?_)
                try dsimp only
                have dj_o45_o5 : Dj A12 A0_0 := Dj.grow dj_w29_o5 hbl12 hO0_0.lt
                have dj_o45_w27 : Dj A12 a0 := Dj.grow dj_w29_w27 hbl12 hW7_a0.lt1
                have dj_o45_w28 : Dj A12 A7_a0_2 := Dj.grow dj_w29_w28 hbl12 hW7_a0_2.lt1
                have dj_o45_o43 : Dj A12 A11 := Dj.grow (Dj.symm dj_o43_w29) hbl12 hO11.lt
                have hm_hO12 : ∀ b, blk (A12, 0, 0) b → (reasm_Stream_put.S a0 A0_2 A0_3) b ∨ w.heap.size ≤ b := fun b hb => (hbl12 b hb).elim (hm7_a0_3 b) (fun h => Or.inr (Nat.le_trans hF.size h))
                have hO0_0 := hO0_0.other (Dj.symm dj_w29_o5) g12
                have hW7_a0 := hW7_a0.other (Dj.symm dj_w29_w27) g12
                have hW7_a0_2 := hW7_a0_2.other (Dj.symm dj_w29_w28) g12
                have hO11 := hO11.other dj_o43_w29 g12
                have hF := Fine.own hF g12 hm7_a0_3 hid12
                refine ok_need hA_a0 ?_
                refine ok_need hA_a0 ?_
                refine ok_put0 (R := RW45) (x' := (q7_a0.1, q7_a0.2.1, (A7_a0_2, q7_a0.2.2.1.length, c7_a0_2), (A12, ((q7_a0.2.2.2.1.take (Int.toNat v3_0) ++ [(a1, IntKind.wrap IntKind.i64 (IntKind.wrap IntKind.i64 (a1 + ((l2.length : Nat) : Int)) - 1))] ++ q7_a0.2.2.2.1.drop (Int.toNat v7_0))).length, c12), q7_a0.2.2.2.2.1, q7_a0.2.2.2.2.2.1, q7_a0.2.2.2.2.2.2)) (vs := [Value.slice A12 (((q7_a0.2.2.2.1.take (Int.toNat v3_0) ++ [(a1, IntKind.wrap IntKind.i64 (IntKind.wrap IntKind.i64 (a1 + ((l2.length : Nat) : Int)) - 1))] ++ q7_a0.2.2.2.1.drop (Int.toNat v7_0))).length) c12]) 3 hW7_a0 (Nat.le_of_ble_eq_true rfl) rfl (fun _ => rfl) (fun Lt46 wt46 ht46 gst46 hdt46 => ?_)
                have hO0_0 := hO0_0.other (Dj.symm (Dj.symm dj_o5_w1)) gst46
                have hW7_a0_2 := hW7_a0_2.other dj_w28_w27 gst46
                have hO11 := hO11.other dj_o43_w27 gst46
                have hO12 := hO12.other dj_o45_w27 gst46
                have hF := Fine.own hF gst46 hm0 hdt46
                have hW7_a0 := ht46
                obtain rfl := Option.some.inj h
                obtain rfl := hr_7 _ rfl
                obtain rfl := hr_3 _ rfl
                obtain rfl := hr_1 _ rfl
                have homes := fun (b : Nat) (h : b < w.heap.size) => h
                intro ρ L w' _ he _ _
                exact ⟨A7_a0_2, c7_a0_2, A12, c12, rfl, (hF.ext he).with (fun b h => Or.inl h), (hW7_a0.later he.fine).bare', (hW7_a0_2.later he.fine).bare', (hO12.later he.fine).bare', dj_w28_w27, dj_o45_w27, dj_o45_w28, hm7_a0_2, hm_hO12⟩
          · have h := bif_f h hc30
            refine ok_if (fun hc47 => ?_) (fun hc47 => ?_)
            · have h := bif_t h hc47
              refine ok_need hA_a0 ?_
              refine ok_need hA_a0 ?_
              refine ok_ob 3 hW7_a0.sl (Fine.refl _ _) (fun cs hcs => ⟨(A7_a0_3, q7_a0.2.2.2.1.length, c7_a0_3), by rw [hcs]; rfl, ?_⟩)
              try dsimp only
              obtain ⟨r48, hr49, h⟩ := Option.bind_eq_some_iff.1 h
              refine ok_need (getI_need hW7_a0_3.sl hr49) ?_
              refine ok_need (getI_need2 hW7_a0_3.sl hr49) ?_
              refine ok_getf 0 hW7_a0_3.sl (Fine.refl _ _) hr49 (fun cs hcs => ⟨r48.1, by rw [hcs]; rfl, ?_⟩)
              try dsimp only
              refine ok_need hA_a0 ?_
              refine ok_need hA_a0 ?_
              refine ok_ob 3 hW7_a0.sl (Fine.refl _ _) (fun cs hcs => ⟨(A7_a0_3, q7_a0.2.2.2.1.length, c7_a0_3), by rw [hcs]; rfl, ?_⟩)
              try dsimp only
              obtain ⟨r50, hr51, h⟩ := Option.bind_eq_some_iff.1 h
              refine ok_need (getI_need hW7_a0_3.sl hr51) ?_
              refine ok_need (getI_need2 hW7_a0_3.sl hr51) ?_
              refine ok_getf 1 hW7_a0_3.sl (Fine.refl _ _) hr51 (fun cs hcs => ⟨r50.2, by rw [hcs]; rfl, ?_⟩)
              try dsimp only
              refine ok_need hA_a0 ?_
              refine ok_need hA_a0 ?_
              refine ok_ob 3 hW7_a0.sl (Fine.refl _ _) (fun cs hcs => ⟨(A7_a0_3, q7_a0.2.2.2.1.length, c7_a0_3), by rw [hcs]; rfl, ?_⟩)
              try dsimp only
              refine ok_lit (R := R43) (base := w.heap.size) (xs := ([(if r48.1 < a1 then r48.1 else a1, if IntKind.wrap IntKind.i64 (IntKind.wrap IntKind.i64 (a1 + ((l2.length : Nat) : Int)) - 1) < r50.2 then r50.2 else IntKind.wrap IntKind.i64 (IntKind.wrap IntKind.i64 (a1 + ((l2.length : Nat) : Int)) - 1))] : List (Int × Int))) #[Value.int IntKind.i64 (if r48.1 < a1 then r48.1 else a1), Value.int IntKind.i64 (if IntKind.wrap IntKind.i64 (IntKind.wrap IntKind.i64 (a1 + ((l2.length : Nat) : Int)) - 1) < r50.2 then r50.2 else IntKind.wrap IntKind.i64 (IntKind.wrap IntKind.i64 (a1 + ((l2.length : Nat) : Int)) - 1))] E43 rfl (by decide) (by decide) ⟨_, _, rfl, rfl, by kernel_rfl⟩ rfl hF.size (fun A13 c13 L13 w13 hO13 g13 hbl13 => ?_)
              try dsimp only
              have dj_o52_o5 : Dj A13 A0_0 := Dj.new hbl13 hO0_0.lt
              have dj_o52_w27 : Dj A13 a0 := Dj.new hbl13 hW7_a0.lt1
              have dj_o52_w28 : Dj A13 A7_a0_2 := Dj.new hbl13 hW7_a0_2.lt1
              have dj_o52_w29 : Dj A13 A7_a0_3 := Dj.new hbl13 hW7_a0_3.lt1
              have hF := hF.trans g13
              have hO0_0 := hO0_0.later g13
              have hW7_a0 := hW7_a0.later g13
              have hW7_a0_2 := hW7_a0_2.later g13
              have hW7_a0_3 := hW7_a0_3.later g13
              refine ok_keep0 (lf := .sl) 3 ((A7_a0_3, q7_a0.2.2.2.1.length, c7_a0_3)) hW7_a0.sl (fun cs hcs => by rw [hcs]; rfl) rfl ?_
              obtain ⟨hq53, h⟩ := bif_need h
              have hq53 := of_decide_eq_true hq53
              refine ok_rep43 rfl hW7_a0_3 hO13.off.mono0 dj_o52_w29 hq53.1 hq53.2.1 hq53.2.2.1 hq53.2.2.2 (fun A14 c14 L14 w14 hO14 g14 hid14 hbl14 => ?_)
              try dsimp only
              have dj_o54_o5 : Dj A14 A0_0 := Dj.grow dj_w29_o5 hbl14 hO0_0.lt
              have dj_o54_w27 : Dj A14 a0 := Dj.grow dj_w29_w27 hbl14 hW7_a0.lt1
              have dj_o54_w28 : Dj A14 A7_a0_2 := Dj.grow dj_w29_w28 hbl14 hW7_a0_2.lt1
              have dj_o54_o52 : Dj A14 A13 := Dj.grow (Dj.symm dj_o52_w29) hbl14 hO13.lt
              have hm_hO14 : ∀ b, blk (A14, 0, 0) b → (reasm_Stream_put.S a0 A0_2 A0_3) b ∨ w.heap.size ≤ b := fun b hb => (hbl14 b hb).elim (hm7_a0_3 b) (fun h => Or.inr (Nat.le_trans hF.size h))
              have hO0_0 := hO0_0.other (Dj.symm dj_w29_o5) g14
              have hW7_a0 := hW7_a0.other (Dj.symm dj_w29_w27) g14
              have hW7_a0_2 := hW7_a0_2.other (Dj.symm dj_w29_w28) g14
              have hO13 := hO13.other dj_o52_w29 g14
              have hF := Fine.own hF g14 hm7_a0_3 hid14
              refine ok_need hA_a0 ?_
              refine ok_need hA_a0 ?_
              refine ok_put0 (R := RW45) (x' := (q7_a0.1, q7_a0.2.1, (A7_a0_2, q7_a0.2.2.1.length, c7_a0_2), (A14, ((q7_a0.2.2.2.1.take (Int.toNat v3_0) ++ [(if r48.1 < a1 then r48.1 else a1, if IntKind.wrap IntKind.i64 (IntKind.wrap IntKind.i64 (a1 + ((l2.length : Nat) : Int)) - 1) < r50.2 then r50.2 else IntKind.wrap IntKind.i64 (IntKind.wrap IntKind.i64 (a1 + ((l2.length : Nat) : Int)) - 1))] ++ q7_a0.2.2.2.1.drop (Int.toNat v7_0))).length, c14), q7_a0.2.2.2.2.1, q7_a0.2.2.2.2.2.1, q7_a0.2.2.2.2.2.2)) (vs := [Value.slice A14 (((q7_a0.2.2.2.1.take (Int.toNat v3_0) ++ [(if r48.1 < a1 then r48.1 else a1, if IntKind.wrap IntKind.i64 (IntKind.wrap IntKind.i64 (a1 + ((l2.length : Nat) : Int)) - 1) < r50.2 then r50.2 else IntKind.wrap IntKind.i64 (IntKind.wrap IntKind.i64 (a1 + ((l2.length : Nat) : Int)) - 1))] ++ q7_a0.2.2.2.1.drop (Int.toNat v7_0))).length) c14]) 3 hW7_a0 (Nat.le_of_ble_eq_true rfl) rfl (fun _ => rfl) (fun Lt55 wt55 ht55 gst55 hdt55 => ?_)
              have hO0_0 := hO0_0.other (Dj.symm (Dj.symm dj_o5_w1)) gst55
              have hW7_a0_2 := hW7_a0_2.other dj_w28_w27 gst55
              have hO13 := hO13.other dj_o52_w27 gst55
              have hO14 := hO14.other dj_o54_w27 gst55
              have hF := Fine.own hF gst55 hm0 hdt55
              have hW7_a0 := ht55
              obtain rfl := Option.some.inj h
              obtain rfl := hr_7 _ rfl
              obtain rfl := hr_3 _ rfl
              obtain rfl := hr_1 _ rfl
              have homes := fun (b : Nat) (h : b < w.heap.size) => h
              intro ρ L w' _ he _ _
              exact ⟨A7_a0_2, c7_a0_2, A14, c14, rfl, (hF.ext he).with (fun b h => Or.inl h), (hW7_a0.later he.fine).bare', (hW7_a0_2.later he.fine).bare', (hO14.later he.fine).bare', dj_w28_w27, dj_o54_w27, dj_o54_w28, hm7_a0_2, hm_hO14⟩
            · have h := bif_f h hc47
              refine ok_need hA_a0 ?_
              refine ok_need hA_a0 ?_
              refine ok_ob 3 hW7_a0.sl (Fine.refl _ _) (fun cs hcs => ⟨(A7_a0_3, q7_a0.2.2.2.1.length, c7_a0_3), by rw [hcs]; rfl, ?_⟩)
              try dsimp only
              refine ok_lit (R := R43) (base := w.heap.size) (xs := ([(a1, IntKind.wrap IntKind.i64 (IntKind.wrap IntKind.i64 (a1 + ((l2.length : Nat) : Int)) - 1))] : List (Int × Int))) #[Value.int IntKind.i64 a1, Value.int IntKind.i64 (IntKind.wrap IntKind.i64 (IntKind.wrap IntKind.i64 (a1 + ((l2.length : Nat) : Int)) - 1))] E43 rfl (by decide) (by decide) ⟨_, _, rfl, rfl, by kernel_rfl⟩ rfl hF.size (fun A9 c9 L9 w9 hO9 g9 hbl9 => ?_)
              try dsimp only
              have dj_o56_o5 : Dj A9 A0_0 := Dj.new hbl9 hO0_0.lt
              have dj_o56_w27 : Dj A9 a0 := Dj.new hbl9 hW7_a0.lt1
              have dj_o56_w28 : Dj A9 A7_a0_2 := Dj.new hbl9 hW7_a0_2.lt1
              have dj_o56_w29 : Dj A9 A7_a0_3 := Dj.new hbl9 hW7_a0_3.lt1
              have hF := hF.trans g9
              have hO0_0 := hO0_0.later g9
              have hW7_a0 := hW7_a0.later g9
              have hW7_a0_2 := hW7_a0_2.later g9
              have hW7_a0_3 := hW7_a0_3.later g9
              refine ok_keep0 (lf := .sl) 3 ((A7_a0_3, q7_a0.2.2.2.1.length, c7_a0_3)) hW7_a0.sl (fun cs hcs => by rw [hcs]; rfl) rfl ?_
              obtain ⟨hq57, h⟩ := bif_need h
              have hq57 := of_decide_eq_true hq57
              refine ok_rep43 rfl hW7_a0_3 hO9.off.mono0 dj_o56_w29 hq57.1 hq57.2.1 hq57.2.2.1 hq57.2.2.2 (fun A10 c10 L10 w10 hO10 g10 hid10 hbl10 => ?_)
              try dsimp only
              have dj_o58_o5 : Dj A10 A0_0 := Dj.grow dj_w29_o5 hbl10 hO0_0.lt
              have dj_o58_w27 : Dj A10 a0 := Dj.grow dj_w29_w27 hbl10 hW7_a0.lt1
              have dj_o58_w28 : Dj A10 A7_a0_2 := Dj.grow dj_w29_w28 hbl10 hW7_a0_2.lt1
              have dj_o58_o56 : Dj A10 A9 := Dj.grow (Dj.symm dj_o56_w29) hbl10 hO9.lt
              have hm_hO10 : ∀ b, blk (A10, 0, 0) b → (reasm_Stream_put.S a0 A0_2 A0_3) b ∨ w.heap.size ≤ b := fun b hb => (hbl10 b hb).elim (hm7_a0_3 b) (fun h => Or.inr (Nat.le_trans hF.size h))
              have hO0_0 := hO0_0.other (Dj.symm dj_w29_o5) g10
              have hW7_a0 := hW7_a0.other (Dj.symm dj_w29_w27) g10
              have hW7_a0_2 := hW7_a0_2.other (Dj.symm dj_w29_w28) g10
              have hO9 := hO9.other dj_o56_w29 g10
              have hF := Fine.own hF g10 hm7_a0_3 hid10
              refine ok_need hA_a0 ?_
              refine ok_need hA_a0 ?_
              refine ok_put0 (R := RW45) (x' := (q7_a0.1, q7_a0.2.1, (A7_a0_2, q7_a0.2.2.1.length, c7_a0_2), (A10, ((q7_a0.2.2.2.1.take (Int.toNat v3_0) ++ [(a1, IntKind.wrap IntKind.i64 (IntKind.wrap IntKind.i64 (a1 + ((l2.length : Nat) : Int)) - 1))] ++ q7_a0.2.2.2.1.drop (Int.toNat v7_0))).length, c10), q7_a0.2.2.2.2.1, q7_a0.2.2.2.2.2.1, q7_a0.2.2.2.2.2.2)) (vs := [Value.slice A10 (((q7_a0.2.2.2.1.take (Int.toNat v3_0) ++ [(a1, IntKind.wrap IntKind.i64 (IntKind.wrap IntKind.i64 (a1 + ((l2.length : Nat) : Int)) - 1))] ++ q7_a0.2.2.2.1.drop (Int.toNat v7_0))).length) c10]) 3 hW7_a0 (Nat.le_of_ble_eq_true rfl) rfl (fun _ => rfl) (fun Lt59 wt59 ht59 gst59 hdt59 => ?_)
              have hO0_0 := hO0_0.other (Dj.symm (Dj.symm dj_o5_w1)) gst59
              have hW7_a0_2 := hW7_a0_2.other dj_w28_w27 gst59
              have hO9 := hO9.other dj_o56_w27 gst59
              have hO10 := hO10.other dj_o58_w27 gst59
              have hF := Fine.own hF gst59 hm0 hdt59
              have hW7_a0 := ht59
              obtain rfl := Option.some.inj h
              obtain rfl := hr_7 _ rfl
              obtain rfl := hr_3 _ rfl
              obtain rfl := hr_1 _ rfl
              have homes := fun (b : Nat) (h : b < w.heap.size) => h
              intro ρ L w' _ he _ _
              exact ⟨A7_a0_2, c7_a0_2, A10, c10, rfl, (hF.ext he).with (fun b h => Or.inl h), (hW7_a0.later he.fine).bare', (hW7_a0_2.later he.fine).bare', (hO10.later he.fine).bare', dj_w28_w27, dj_o58_w27, dj_o58_w28, hm7_a0_2, hm_hO10⟩
      · have h := bif_f h hc22
        obtain ⟨I5, hI5⟩ : ∃ I : Nat → Tup [Lf.i IntKind.i64] → (Nat → Prop) → World → Prop, I = (fun m_ y L w' => ∃ (v5_0 : Int) (q5_a0 : Int × Int × (List Int) × (List (Int × Int)) × Int × Bool × Bool) (A5_a0_2 : Option Addr) (c5_a0_2 : Nat) (A5_a0_3 : Option Addr) (c5_a0_3 : Nat), y = (v5_0, ()) ∧ iter (reasm_Stream_put.s5 k a1 l2 v3_0) m_ (v5_0, q5_a0) = some o3 ∧ Fine (reasm_Stream_put.S a0 A0_2 A0_3) w L w' ∧ OwnF w.heap.size L w' 51 R43 A0_0 c0_0 s0_0 ∧ OwnO 0 L w' 45 RW45 a0 1 [(q5_a0.1, q5_a0.2.1, (A5_a0_2, q5_a0.2.2.1.length, c5_a0_2), (A5_a0_3, q5_a0.2.2.2.1.length, c5_a0_3), q5_a0.2.2.2.2.1, q5_a0.2.2.2.2.2.1, q5_a0.2.2.2.2.2.2)] ∧ OwnO 0 L w' 5 R22 A5_a0_2 c5_a0_2 q5_a0.2.2.1 ∧ OwnO 0 L w' 51 R43 A5_a0_3 c5_a0_3 q5_a0.2.2.2.1 ∧ Dj A5_a0_2 A0_0 ∧ Dj A5_a0_2 a0 ∧ Dj A5_a0_3 A0_0 ∧ Dj A5_a0_3 a0 ∧ Dj A5_a0_3 A5_a0_2 ∧ (∀ b, blk (A5_a0_2, 0, 0) b → (reasm_Stream_put.S a0 A0_2 A0_3) b ∨ w.heap.size ≤ b) ∧ (∀ b, blk (A5_a0_3, 0, 0) b → (reasm_Stream_put.S a0 A0_2 A0_3) b ∨ w.heap.size ≤ b)) := ⟨_, rfl⟩
        refine ok_loop I5 k (by rw [hI5]; exact ⟨_, q3_a0, A3_a0_2, c3_a0_2, A3_a0_3, c3_a0_3, rfl, h, hF, hO0_0, hW3_a0, hW3_a0_2, hW3_a0_3, dj_w20_o5, dj_w20_w19, dj_w21_o5, dj_w21_w19, dj_w21_w20, hm3_a0_2, hm3_a0_3⟩) ?_
        clear h
        intro m_ y L5 w5 hy
        rw [hI5] at hy
        obtain ⟨v5_0, q5_a0, A5_a0_2, c5_a0_2, A5_a0_3, c5_a0_3, rfl, h, hF, hO0_0, hW5_a0, hW5_a0_2, hW5_a0_3, dj_w62_o5, dj_w62_w61, dj_w63_o5, dj_w63_w61, dj_w63_w62, hm5_a0_2, hm5_a0_3⟩ := hy
        obtain ⟨m5, o5, rfl, h, hl5, hr_5⟩ := iter_some h
        unfold reasm_Stream_put.s5 at h
        try dsimp only at h
        try dsimp only
        refine ok_if (fun hc64 => ?_) (fun hc64 => ?_)
        · have h := bif_t h hc64
          refine ok_need hA_a0 ?_
          refine ok_need hA_a0 ?_
          refine ok_ob 3 hW5_a0.sl (Fine.refl _ _) (fun cs hcs => ⟨(A5_a0_3, q5_a0.2.2.2.1.length, c5_a0_3), by rw [hcs]; rfl, ?_⟩)
          try dsimp only
          obtain ⟨r65, hr66, h⟩ := Option.bind_eq_some_iff.1 h
          refine ok_need (getI_need hW5_a0_3.sl hr66) ?_
          refine ok_need (getI_need2 hW5_a0_3.sl hr66) ?_
          refine ok_getf 0 hW5_a0_3.sl (Fine.refl _ _) hr66 (fun cs hcs => ⟨r65.1, by rw [hcs]; rfl, ?_⟩)
          try dsimp only
          refine ok_if (fun hc67 => ?_) (fun hc67 => ?_)
          · have h := bif_t h hc67
            obtain rfl := Option.some.inj h
            have h := hl5 _ rfl
            exact ok_again (I := I5) m5 (Nat.lt_succ_self _) (fun L w' he => by rw [hI5]; exact ⟨_, q5_a0, A5_a0_2, c5_a0_2, A5_a0_3, c5_a0_3, rfl, h, hF.trans he.fine, hO0_0.later he.fine, hW5_a0.later he.fine, hW5_a0_2.later he.fine, hW5_a0_3.later he.fine, dj_w62_o5, dj_w62_w61, dj_w63_o5, dj_w63_w61, dj_w63_w62, hm5_a0_2, hm5_a0_3⟩)
          · have h := bif_f h hc67
            refine ok_if (fun hc68 => ?_) (fun hc68 => ?_)
            · have h := bif_t h hc68
              refine ok_need hA_a0 ?_
              refine ok_need hA_a0 ?_
              refine ok_ob 3 hW5_a0.sl (Fine.refl _ _) (fun cs hcs => ⟨(A5_a0_3, q5_a0.2.2.2.1.length, c5_a0_3), by rw [hcs]; rfl, ?_⟩)
              try dsimp only
              obtain ⟨r69, hr70, h⟩ := Option.bind_eq_some_iff.1 h
              refine ok_need (getI_need hW5_a0_3.sl hr70) ?_
              refine ok_need (getI_need2 hW5_a0_3.sl hr70) ?_
              refine ok_getf 0 hW5_a0_3.sl (Fine.refl _ _) hr70 (fun cs hcs => ⟨r69.1, by rw [hcs]; rfl, ?_⟩)
              try dsimp only
              refine ok_need hA_a0 ?_
              refine ok_need hA_a0 ?_
              refine ok_ob 3 hW5_a0.sl (Fine.refl _ _) (fun cs hcs => ⟨(A5_a0_3, q5_a0.2.2.2.1.length, c5_a0_3), by rw [hcs]; rfl, ?_⟩)
              try dsimp only
              obtain ⟨r71, hr72, h⟩ := Option.bind_eq_some_iff.1 h
              refine ok_need (getI_need hW5_a0_3.sl hr72) ?_
              refine ok_need (getI_need2 hW5_a0_3.sl hr72) ?_
              refine ok_getf 1 hW5_a0_3.sl (Fine.refl _ _) hr72 (fun cs hcs => ⟨r71.2, by rw [hcs]; rfl, ?_⟩)
              try dsimp only
              refine ok_need hA_a0 ?_
              refine ok_need hA_a0 ?_
              refine ok_ob 3 hW5_a0.sl (Fine.refl _ _) (fun cs hcs => ⟨(A5_a0_3, q5_a0.2.2.2.1.length, c5_a0_3), by rw [hcs]; rfl, ?_⟩)
              try dsimp only
              refine ok_lit (R := R43) (base := w.heap.size) (xs := ([(if r69.1 < a1 then r69.1 else a1, if IntKind.wrap IntKind.i64 (IntKind.wrap IntKind.i64 (a1 + ((l2.length : Nat) : Int)) - 1) < r71.2 then r71.2 else IntKind.wrap IntKind.i64 (IntKind.wrap IntKind.i64 (a1 + ((l2.length : Nat) : Int)) - 1))] : List (Int × Int))) #[Value.int IntKind.i64 (if r69.1 < a1 then r69.1 else a1), Value.int IntKind.i64 (if IntKind.wrap IntKind.i64 (IntKind.wrap IntKind.i64 (a1 + ((l2.length : Nat) : Int)) - 1) < r71.2 then r71.2 else IntKind.wrap IntKind.i64 (IntKind.wrap IntKind.i64 (a1 + ((l2.length : Nat) : Int)) - 1))] E43 rfl (by decide) (by decide) ⟨_, _, rfl, rfl, by kernel_rfl⟩ rfl hF.size (fun A13 c13 L13 w13 hO13 g13 hbl13 => ?_)
              try dsimp only
              have dj_o73_o5 : Dj A13 A0_0 := Dj.new hbl13 hO0_0.lt
              have dj_o73_w61 : Dj A13 a0 := Dj.new hbl13 hW5_a0.lt1
              have dj_o73_w62 : Dj A13 A5_a0_2 := Dj.new hbl13 hW5_a0_2.lt1
              have dj_o73_w63 : Dj A13 A5_a0_3 := Dj.new hbl13 hW5_a0_3.lt1
              have hF := hF.trans g13
              have hO0_0 := hO0_0.later g13
              have hW5_a0 := hW5_a0.later g13
              have hW5_a0_2 := hW5_a0_2.later g13
              have hW5_a0_3 := hW5_a0_3.later g13
              refine ok_keep0 (lf := .sl) 3 ((A5_a0_3, q5_a0.2.2.2.1.length, c5_a0_3)) hW5_a0.sl (fun cs hcs => by rw [hcs]; rfl) rfl ?_
              obtain ⟨hq74, h⟩ := bif_need h
              have hq74 := of_decide_eq_true hq74
              refine ok_rep43 rfl hW5_a0_3 hO13.off.mono0 dj_o73_w63 hq74.1 hq74.2.1 hq74.2.2.1 hq74.2.2.2 (fun A14 c14 L14 w14 hO14 g14 hid14 hbl14 => ?_)
              try dsimp only
              have dj_o75_o5 : Dj A14 A0_0 := Dj.grow dj_w63_o5 hbl14 hO0_0.lt
              have dj_o75_w61 : Dj A14 a0 := Dj.grow dj_w63_w61 hbl14 hW5_a0.lt1
              have dj_o75_w62 : Dj A14 A5_a0_2 := Dj.grow dj_w63_w62 hbl14 hW5_a0_2.lt1
              have dj_o75_o73 : Dj A14 A13 := Dj.grow (Dj.symm dj_o73_w63) hbl14 hO13.lt
              have hm_hO14 : ∀ b, blk (A14, 0, 0) b → (reasm_Stream_put.S a0 A0_2 A0_3) b ∨ w.heap.size ≤ b := fun b hb => (hbl14 b hb).elim (hm5_a0_3 b) (fun h => Or.inr (Nat.le_trans hF.size h))
              have hO0_0 := hO0_0.other (Dj.symm dj_w63_o5) g14
              have hW5_a0 := hW5_a0.other (Dj.symm dj_w63_w61) g14
              have hW5_a0_2 := hW5_a0_2.other (Dj.symm dj_w63_w62) g14
              have hO13 := hO13.other dj_o73_w63 g14
              have hF := Fine.own hF g14 hm5_a0_3 hid14
              refine ok_need hA_a0 ?_
              refine ok_need hA_a0 ?_
              refine ok_put0 (R := RW45) (x' := (q5_a0.1, q5_a0.2.1, (A5_a0_2, q5_a0.2.2.1.length, c5_a0_2), (A14, ((q5_a0.2.2.2.1.take (Int.toNat v3_0) ++ [(if r69.1 < a1 then r69.1 else a1, if IntKind.wrap IntKind.i64 (IntKind.wrap IntKind.i64 (a1 + ((l2.length : Nat) : Int)) - 1) < r71.2 then r71.2 else IntKind.wrap IntKind.i64 (IntKind.wrap IntKind.i64 (a1 + ((l2.length : Nat) : Int)) - 1))] ++ q5_a0.2.2.2.1.drop (Int.toNat v5_0))).length, c14), q5_a0.2.2.2.2.1, q5_a0.2.2.2.2.2.1, q5_a0.2.2.2.2.2.2)) (vs := [Value.slice A14 (((q5_a0.2.2.2.1.take (Int.toNat v3_0) ++ [(if r69.1 < a1 then r69.1 else a1, if IntKind.wrap IntKind.i64 (IntKind.wrap IntKind.i64 (a1 + ((l2.length : Nat) : Int)) - 1) < r71.2 then r71.2 else IntKind.wrap IntKind.i64 (IntKind.wrap IntKind.i64 (a1 + ((l2.length : Nat) : Int)) - 1))] ++ q5_a0.2.2.2.1.drop (Int.toNat v5_0))).length) c14]) 3 hW5_a0 (Nat.le_of_ble_eq_true rfl) rfl (fun _ => rfl) (fun Lt76 wt76 ht76 gst76 hdt76 => ?_)
              have hO0_0 := hO0_0.other (Dj.symm (Dj.symm dj_o5_w1)) gst76
              have hW5_a0_2 := hW5_a0_2.other dj_w62_w61 gst76
              have hO13 := hO13.other dj_o73_w61 gst76
              have hO14 := hO14.other dj_o75_w61 gst76
              have hF := Fine.own hF gst76 hm0 hdt76
              have hW5_a0 := ht76
              obtain rfl := Option.some.inj h
              obtain rfl := hr_5 _ rfl
              obtain rfl := hr_3 _ rfl
              obtain rfl := hr_1 _ rfl
              have homes := fun (b : Nat) (h : b < w.heap.size) => h
              intro ρ L w' _ he _ _
              exact ⟨A5_a0_2, c5_a0_2, A14, c14, rfl, (hF.ext he).with (fun b h => Or.inl h), (hW5_a0.later he.fine).bare', (hW5_a0_2.later he.fine).bare', (hO14.later he.fine).bare', dj_w62_w61, dj_o75_w61, dj_o75_w62, hm5_a0_2, hm_hO14⟩
            · have h := bif_f h hc68
              refine ok_need hA_a0 ?_
              refine ok_need hA_a0 ?_
              refine ok_ob 3 hW5_a0.sl (Fine.refl _ _) (fun cs hcs => ⟨(A5_a0_3, q5_a0.2.2.2.1.length, c5_a0_3), by rw [hcs]; rfl, ?_⟩)
              try dsimp only
              refine ok_lit (R := R43) (base := w.heap.size) (xs := ([(a1, IntKind.wrap IntKind.i64 (IntKind.wrap IntKind.i64 (a1 + ((l2.length : Nat) : Int)) - 1))] : List (Int × Int))) #[Value.int IntKind.i64 a1, Value.int IntKind.i64 (IntKind.wrap IntKind.i64 (IntKind.wrap IntKind.i64 (a1 + ((l2.length : Nat) : Int)) - 1))] E43 rfl (by decide) (by decide) ⟨_, _, rfl, rfl, by kernel_rfl⟩ rfl hF.size (fun A9 c9 L9 w9 hO9 g9 hbl9 => ?_)
              try dsimp only
              have dj_o77_o5 : Dj A9 A0_0 := Dj.new hbl9 hO0_0.lt
              have dj_o77_w61 : Dj A9 a0 := Dj.new hbl9 hW5_a0.lt1
              have dj_o77_w62 : Dj A9 A5_a0_2 := Dj.new hbl9 hW5_a0_2.lt1
              have dj_o77_w63 : Dj A9 A5_a0_3 := Dj.new hbl9 hW5_a0_3.lt1
              have hF := hF.trans g9
              have hO0_0 := hO0_0.later g9
              have hW5_a0 := hW5_a0.later g9
              have hW5_a0_2 := hW5_a0_2.later g9
              have hW5_a0_3 := hW5_a0_3.later g9
              refine ok_keep0 (lf := .sl) 3 ((A5_a0_3, q5_a0.2.2.2.1.length, c5_a0_3)) hW5_a0.sl (fun cs hcs => by rw [hcs]; rfl) rfl ?_
              obtain ⟨hq78, h⟩ := bif_need h
              have hq78 := of_decide_eq_true hq78
              refine ok_rep43 rfl hW5_a0_3 hO9.off.mono0 dj_o77_w63 hq78.1 hq78.2.1 hq78.2.2.1 hq78.2.2.2 (fun A10 c10 L10 w10 hO10 g10 hid10 hbl10 => ?_)
              try dsimp only
              have dj_o79_o5 : Dj A10 A0_0 := Dj.grow dj_w63_o5 hbl10 hO0_0.lt
              have dj_o79_w61 : Dj A10 a0 := Dj.grow dj_w63_w61 hbl10 hW5_a0.lt1
              have dj_o79_w62 : Dj A10 A5_a0_2 := Dj.grow dj_w63_w62 hbl10 hW5_a0_2.lt1
              have dj_o79_o77 : Dj A10 A9 := Dj.grow (Dj.symm dj_o77_w63) hbl10 hO9.lt
              have hm_hO10 : ∀ b, blk (A10, 0, 0) b → (reasm_Stream_put.S a0 A0_2 A0_3) b ∨ w.heap.size ≤ b := fun b hb => (hbl10 b hb).elim (hm5_a0_3 b) (fun h => Or.inr (Nat.le_trans hF.size h))
              have hO0_0 := hO0_0.other (Dj.symm dj_w63_o5) g10
              have hW5_a0 := hW5_a0.other (Dj.symm dj_w63_w61) g10
              have hW5_a0_2 := hW5_a0_2.other (Dj.symm dj_w63_w62) g10
              have hO9 := hO9.other dj_o77_w63 g10
              have hF := Fine.own hF g10 hm5_a0_3 hid10
              refine ok_need hA_a0 ?_
              refine ok_need hA_a0 ?_
              refine ok_put0 (R := RW45) (x' := (q5_a0.1, q5_a0.2.1, (A5_a0_2, q5_a0.2.2.1.length, c5_a0_2), (A10, ((q5_a0.2.2.2.1.take (Int.toNat v3_0) ++ [(a1, IntKind.wrap IntKind.i64 (IntKind.wrap IntKind.i64 (a1 + ((l2.length : Nat) : Int)) - 1))] ++ q5_a0.2.2.2.1.drop (Int.toNat v5_0))).length, c10), q5_a0.2.2.2.2.1, q5_a0.2.2.2.2.2.1, q5_a0.2.2.2.2.2.2)) (vs := [Value.slice A10 (((q5_a0.2.2.2.1.take (Int.toNat v3_0) ++ [(a1, IntKind.wrap IntKind.i64 (IntKind.wrap IntKind.i64 (a1 + ((l2.length : Nat) : Int)) - 1))] ++ q5_a0.2.2.2.1.drop (Int.toNat v5_0))).length) c10]) 3 hW5_a0 (Nat.le_of_ble_eq_true rfl) rfl (fun _ => rfl) (fun Lt80 wt80 ht80 gst80 hdt80 => ?_)
              have hO0_0 := hO0_0.other (Dj.symm (Dj.symm dj_o5_w1)) gst80
              have hW5_a0_2 := hW5_a0_2.other dj_w62_w61 gst80
              have hO9 := hO9.other dj_o77_w61 gst80
              have hO10 := hO10.other dj_o79_w61 gst80
              have hF := Fine.own hF gst80 hm0 hdt80
              have hW5_a0 := ht80
              obtain rfl := Option.some.inj h
              obtain rfl := hr_5 _ rfl
              obtain rfl := hr_3 _ rfl
              obtain rfl := hr_1 _ rfl
              have homes := fun (b : Nat) (h : b < w.heap.size) => h
              intro ρ L w' _ he _ _
              exact ⟨A5_a0_2, c5_a0_2, A10, c10, rfl, (hF.ext he).with (fun b h => Or.inl h), (hW5_a0.later he.fine).bare', (hW5_a0_2.later he.fine).bare', (hO10.later he.fine).bare', dj_w62_w61, dj_o79_w61, dj_o79_w62, hm5_a0_2, hm_hO10⟩
        · have h := bif_f h hc64
          refine ok_if (fun hc81 => ?_) (fun hc81 => ?_)
          · have h := bif_t h hc81
            refine ok_need hA_a0 ?_
            refine ok_need hA_a0 ?_
            refine ok_ob 3 hW5_a0.sl (Fine.refl _ _) (fun cs hcs => ⟨(A5_a0_3, q5_a0.2.2.2.1.length, c5_a0_3), by rw [hcs]; rfl, ?_⟩)
            try dsimp only
            obtain ⟨r82, hr83, h⟩ := Option.bind_eq_some_iff.1 h
            refine ok_need (getI_need hW5_a0_3.sl hr83) ?_
            refine ok_need (getI_need2 hW5_a0_3.sl hr83) ?_
            refine ok_getf 0 hW5_a0_3.sl (Fine.refl _ _) hr83 (fun cs hcs => ⟨r82.1, by rw [hcs]; rfl, ?_⟩)
            try dsimp only
            refine ok_need hA_a0 ?_
            refine ok_need hA_a0 ?_
            refine ok_ob 3 hW5_a0.sl (Fine.refl _ _) (fun cs hcs => ⟨(A5_a0_3, q5_a0.2.2.2.1.length, c5_a0_3), by rw [hcs]; rfl, ?_⟩)
            try dsimp only
            obtain ⟨r84, hr85, h⟩ := Option.bind_eq_some_iff.1 h
            refine ok_need (getI_need hW5_a0_3.sl hr85) ?_
            refine ok_need (getI_need2 hW5_a0_3.sl hr85) ?_
            refine ok_getf 1 hW5_a0_3.sl (Fine.refl _ _) hr85 (fun cs hcs => ⟨r84.2, by rw [hcs]; rfl, ?_⟩)
            try dsimp only
            refine ok_need hA_a0 ?_
            refine ok_need hA_a0 ?_
            refine ok_ob 3 hW5_a0.sl (Fine.refl _ _) (fun cs hcs => ⟨(A5_a0_3, q5_a0.2.2.2.1.length, c5_a0_3), by rw [hcs]; rfl, ?_⟩)
            try dsimp only
            refine ok_lit (R := R43) (base := w.heap.size) (xs := ([(if r82.1 < a1 then r82.1 else a1, if IntKind.wrap IntKind.i64 (IntKind.wrap IntKind.i64 (a1 + ((l2.length : Nat) : Int)) - 1) < r84.2 then r84.2 else IntKind.wrap IntKind.i64 (IntKind.wrap IntKind.i64 (a1 + ((l2.length : Nat) : Int)) - 1))] : List (Int × Int))) #[Value.int IntKind.i64 (if r82.1 < a1 then r82.1 else a1), Value.int IntKind.i64 (if IntKind.wrap IntKind.i64 (IntKind.wrap IntKind.i64 (a1 + ((l2.length : Nat) : Int)) - 1) < r84.2 then r84.2 else IntKind.wrap IntKind.i64 (IntKind.wrap IntKind.i64 (a1 + ((l2.length : Nat) : Int)) - 1))] E43 rfl (by decide) (by decide) ⟨_, _, rfl, rfl, by kernel_rfl⟩ rfl hF.size (fun A11 c11 L11 w11 hO11 g11 hbl11 => ?_)
            try dsimp only
            have dj_o86_o5 : Dj A11 A0_0 := Dj.new hbl11 hO0_0.lt
            have dj_o86_w61 : Dj A11 a0 := Dj.new hbl11 hW5_a0.lt1
            have dj_o86_w62 : Dj A11 A5_a0_2 := Dj.new hbl11 hW5_a0_2.lt1
            have dj_o86_w63 : Dj A11 A5_a0_3 := Dj.new hbl11 hW5_a0_3.lt1
            have hF := hF.trans g11
            have hO0_0 := hO0_0.later g11
            have hW5_a0 := hW5_a0.later g11
            have hW5_a0_2 := hW5_a0_2.later g11
            have hW5_a0_3 := hW5_a0_3.later g11
            refine ok_keep0 (lf := .sl) 3 ((A5_a0_3, q5_a0.2.2.2.1.length, c5_a0_3)) hW5_a0.sl (fun cs hcs => by rw [hcs]; rfl) rfl ?_
            obtain ⟨hq87, h⟩ := bif_need h
            have hq87 := of_decide_eq_true hq87
            refine ok_rep43 rfl hW5_a0_3 hO11.off.mono0 dj_o86_w63 hq87.1 hq87.2.1 hq87.2.2.1 hq87.2.2.2 (fun A12 c12 L12 w12 hO12 g12 hid12 hbl12 => ?_)
            try dsimp only
            have dj_o88_o5 : Dj A12 A0_0 := Dj.grow dj_w63_o5 hbl12 hO0_0.lt
            have dj_o88_w61 : Dj A12 a0 := Dj.grow dj_w63_w61 hbl12 hW5_a0.lt1
            have dj_o88_w62 : Dj A12 A5_a0_2 := Dj.grow dj_w63_w62 hbl12 hW5_a0_2.lt1
            have dj_o88_o86 : Dj A12 A11 := Dj.grow (Dj.symm dj_o86_w63) hbl12 hO11.lt
            have hm_hO12 : ∀ b, blk (A12, 0, 0) b → (reasm_Stream_put.S a0 A0_2 A0_3) b ∨ w.heap.size ≤ b := fun b hb => (hbl12 b hb).elim (hm5_a0_3 b) (fun h => Or.inr (Nat.le_trans hF.size h))
            have hO0_0 := hO0_0.other (Dj.symm dj_w63_o5) g12
            have hW5_a0 := hW5_a0.other (Dj.symm dj_w63_w61) g12
            have hW5_a0_2 := hW5_a0_2.other (Dj.symm dj_w63_w62) g12
            have hO11 := hO11.other dj_o86_w63 g12
            have hF := Fine.own hF g12 hm5_a0_3 hid12
            refine ok_need hA_a0 ?_
            refine ok_need hA_a0 ?_
            refine ok_put0 (R := RW45) (x' := (q5_a0.1, q5_a0.2.1, (A5_a0_2, q5_a0.2.2.1.length, c5_a0_2), (A12, ((q5_a0.2.2.2.1.take (Int.toNat v3_0) ++ [(if r82.1 < a1 then r82.1 else a1, if IntKind.wrap IntKind.i64 (IntKind.wrap IntKind.i64 (a1 + ((l2.length : Nat) : Int)) - 1) < r84.2 then r84.2 else IntKind.wrap IntKind.i64 (IntKind.wrap IntKind.i64 (a1 + ((l2.length : Nat) : Int)) - 1))] ++ q5_a0.2.2.2.1.drop (Int.toNat v5_0))).length, c12), q5_a0.2.2.2.2.1, q5_a0.2.2.2.2.2.1, q5_a0.2.2.2.2.2.2)) (vs := [Value.slice A12 (((q5_a0.2.2.2.1.take (Int.toNat v3_0) ++ [(if r82.1 < a1 then r82.1 else a1, if IntKind.wrap IntKind.i64 (IntKind.wrap IntKind.i64 (a1 + ((l2.length : Nat) : Int)) - 1) < r84.2 then r84.2 else IntKind.wrap IntKind.i64 (IntKind.wrap IntKind.i64 (a1 + ((l2.length : Nat) : Int)) - 1))] ++ q5_a0.2.2.2.1.drop (Int.toNat v5_0))).length) c12]) 3 hW5_a0 (Nat.le_of_ble_eq_true rfl) rfl (fun _ => rfl) (fun Lt89 wt89 ht89 gst89 hdt89 => ?_)
            have hO0_0 := hO0_0.other (Dj.symm (Dj.symm dj_o5_w1)) gst89
            have hW5_a0_2 := hW5_a0_2.other dj_w62_w61 gst89
            have hO11 := hO11.other dj_o86_w61 gst89
            have hO12 := hO12.other dj_o88_w61 gst89
            have hF := Fine.own hF gst89 hm0 hdt89
            have hW5_a0 := ht89
            obtain rfl := Option.some.inj h
            obtain rfl := hr_5 _ rfl
            obtain rfl := hr_3 _ rfl
            obtain rfl := hr_1 _ rfl
            have homes := fun (b : Nat) (h : b < w.heap.size) => h
            intro ρ L w' _ he _ _
            exact ⟨A5_a0_2, c5_a0_2, A12, c12, rfl, (hF.ext he).with (fun b h => Or.inl h), (hW5_a0.later he.fine).bare', (hW5_a0_2.later he.fine).bare', (hO12.later he.fine).bare', dj_w62_w61, dj_o88_w61, dj_o88_w62, hm5_a0_2, hm_hO12⟩
          · have h := bif_f h hc81
            refine ok_need hA_a0 ?_
            refine ok_need hA_a0 ?_
            refine ok_ob 3 hW5_a0.sl (Fine.refl _ _) (fun cs hcs => ⟨(A5_a0_3, q5_a0.2.2.2.1.length, c5_a0_3), by rw [hcs]; rfl, ?_⟩)
            try dsimp only
            refine ok_lit (R := R43) (base := w.heap.size) (xs := ([(a1, IntKind.wrap IntKind.i64 (IntKind.wrap IntKind.i64 (a1 + ((l2.length : Nat) : Int)) - 1))] : List (Int × Int))) #[Value.int IntKind.i64 a1, Value.int IntKind.i64 (IntKind.wrap IntKind.i64 (IntKind.wrap IntKind.i64 (a1 + ((l2.length : Nat) : Int)) - 1))] E43 rfl (by decide) (by decide) ⟨_, _, rfl, rfl, by kernel_rfl⟩ rfl hF.size (fun A7 c7 L7 w7 hO7 g7 hbl7 => ?_)
            try dsimp only
            have dj_o90_o5 : Dj A7 A0_0 := Dj.new hbl7 hO0_0.lt
            have dj_o90_w61 : Dj A7 a0 := Dj.new hbl7 hW5_a0.lt1
            have dj_o90_w62 : Dj A7 A5_a0_2 := Dj.new hbl7 hW5_a0_2.lt1
            have dj_o90_w63 : Dj A7 A5_a0_3 := Dj.new hbl7 hW5_a0_3.lt1
            have hF := hF.trans g7
            have hO0_0 := hO0_0.later g7
            have hW5_a0 := hW5_a0.later g7
            have hW5_a0_2 := hW5_a0_2.later g7
            have hW5_a0_3 := hW5_a0_3.later g7
            refine ok_keep0 (lf := .sl) 3 ((A5_a0_3, q5_a0.2.2.2.1.length, c5_a0_3)) hW5_a0.sl (fun cs hcs => by rw [hcs]; rfl) rfl ?_
            obtain ⟨hq91, h⟩ := bif_need h
            have hq91 := of_decide_eq_true hq91
            refine ok_rep43 rfl hW5_a0_3 hO7.off.mono0 dj_o90_w63 hq91.1 hq91.2.1 hq91.2.2.1 hq91.2.2.2 (fun A8 c8 L8 w8 hO8 g8 hid8 hbl8 => ?_)
            try dsimp only
            have dj_o92_o5 : Dj A8 A0_0 := Dj.grow dj_w63_o5 hbl8 hO0_0.lt
            have dj_o92_w61 : Dj A8 a0 := Dj.grow dj_w63_w61 hbl8 hW5_a0.lt1
            have dj_o92_w62 : Dj A8 A5_a0_2 := Dj.grow dj_w63_w62 hbl8 hW5_a0_2.lt1
            have dj_o92_o90 : Dj A8 A7 := Dj.grow (Dj.symm dj_o90_w63) hbl8 hO7.lt
            have hm_hO8 : ∀ b, blk (A8, 0, 0) b → (reasm_Stream_put.S a0 A0_2 A0_3) b ∨ w.heap.size ≤ b := fun b hb => (hbl8 b hb).elim (hm5_a0_3 b) (fun h => Or.inr (Nat.le_trans hF.size h))
            have hO0_0 := hO0_0.other (Dj.symm dj_w63_o5) g8
            have hW5_a0 := hW5_a0.other (Dj.symm dj_w63_w61) g8
            have hW5_a0_2 := hW5_a0_2.other (Dj.symm dj_w63_w62) g8
            have hO7 := hO7.other dj_o90_w63 g8
            have hF := Fine.own hF g8 hm5_a0_3 hid8
            refine ok_need hA_a0 ?_
            refine ok_need hA_a0 ?_
            refine ok_put0 (R := RW45) (x' := (q5_a0.1, q5_a0.2.1, (A5_a0_2, q5_a0.2.2.1.length, c5_a0_2), (A8, ((q5_a0.2.2.2.1.take (Int.toNat v3_0) ++ [(a1, IntKind.wrap IntKind.i64 (IntKind.wrap IntKind.i64 (a1 + ((l2.length : Nat) : Int)) - 1))] ++ q5_a0.2.2.2.1.drop (Int.toNat v5_0))).length, c8), q5_a0.2.2.2.2.1, q5_a0.2.2.2.2.2.1, q5_a0.2.2.2.2.2.2)) (vs := [Value.slice A8 (((q5_a0.2.2.2.1.take (Int.toNat v3_0) ++ [(a1, IntKind.wrap IntKind.i64 (IntKind.wrap IntKind.i64 (a1 + ((l2.length : Nat) : Int)) - 1))] ++ q5_a0.2.2.2.1.drop (Int.toNat v5_0))).length) c8]) 3 hW5_a0 (Nat.le_of_ble_eq_true rfl) rfl (fun _ => rfl) (fun Lt93 wt93 ht93 gst93 hdt93 => ?_)
            have hO0_0 := hO0_0.other (Dj.symm (Dj.symm dj_o5_w1)) gst93
            have hW5_a0_2 := hW5_a0_2.other dj_w62_w61 gst93
            have hO7 := hO7.other dj_o90_w61 gst93
            have hO8 := hO8.other dj_o92_w61 gst93
            have hF := Fine.own hF gst93 hm0 hdt93
            have hW5_a0 := ht93
            obtain rfl := Option.some.inj h
            obtain rfl := hr_5 _ rfl
            obtain rfl := hr_3 _ rfl
            obtain rfl := hr_1 _ rfl
            have homes := fun (b : Nat) (h : b < w.heap.size) => h
            intro ρ L w' _ he _ _
            exact ⟨A5_a0_2, c5_a0_2, A8, c8, rfl, (hF.ext he).with (fun b h => Or.inl h), (hW5_a0.later he.fine).bare', (hW5_a0_2.later he.fine).bare', (hO8.later he.fine).bare', dj_w62_w61, dj_o92_w61, dj_o92_w62, hm5_a0_2, hm_hO8⟩
set_option maxHeartbeats 4000000 in
theorem reasm_Stream_Data.c (k : Nat) (a0 : Option Addr) (q0 : Int × Int × (List Int) × (List (Int × Int)) × Int × Bool × Bool) (A0_2 : Option Addr) (c0_2 : Nat) (A0_3 : Option Addr) (c0_3 : Nat) (a1 : Int) (A2 : Option Addr) (n2 c2 : Nat) (l2 : List Int) (a3 : Bool) (r : Int × (Int × Int × (List Int) × (List (Int × Int)) × Int × Bool × Bool)) (h : reasm_Stream_Data.F k q0 a1 l2 a3 = some r) (hn2 : n2 = l2.length) (w : World) (hW0 : OwnO 0 (fun _ => False) w 45 RW45 a0 1 [(q0.1, q0.2.1, (A0_2, q0.2.2.1.length, c0_2), (A0_3, q0.2.2.2.1.length, c0_3), q0.2.2.2.2.1, q0.2.2.2.2.2.1, q0.2.2.2.2.2.2)]) (hW0_2 : OwnO 0 (fun _ => False) w 5 R22 A0_2 c0_2 q0.2.2.1) (hW0_3 : OwnO 0 (fun _ => False) w 51 R43 A0_3 c0_3 q0.2.2.2.1) (dj0_1_0 : Dj A0_2 a0) (dj0_2_0 : Dj A0_3 a0) (dj0_2_1 : Dj A0_3 A0_2) (hS2 : SlR R22.row (reasm_Stream_Data.S a0 A0_2 A0_3) w A2 c2 l2) : Calls Try.prog 10 (AV.gs id [AV.v (Value.pointer a0), AV.v (Value.int IntKind.i64 a1), AV.v (Value.slice A2 n2 c2), AV.v (Value.bool a3)]).toArray w fun e w' => ∃ (P2 : Option Addr) (p2 : Nat) (P3 : Option Addr) (p3 : Nat), e = .returned (((Sh.one : Sh).av (vs [Lf.i IntKind.i64] (r.1, ()))).g id) ∧ Fine (reasm_Stream_Data.S a0 A0_2 A0_3) w (reasm_Stream_Data.S a0 A0_2 A0_3) w' ∧ OwnO 0 (fun _ => False) w' 45 RW45 a0 1 [(r.2.1, r.2.2.1, (P2, r.2.2.2.1.length, p2), (P3, r.2.2.2.2.1.length, p3), r.2.2.2.2.2.1, r.2.2.2.2.2.2.1, r.2.2.2.2.2.2.2)] ∧ OwnO 0 (fun _ => False) w' 5 R22 P2 p2 r.2.2.2.1 ∧ OwnO 0 (fun _ => False) w' 51 R43 P3 p3 r.2.2.2.2.1 ∧ Dj P2 a0 ∧ Dj P3 a0 ∧ Dj P3 P2 ∧ (∀ b, blk (P2, 0, 0) b → (reasm_Stream_Data.S a0 A0_2 A0_3) b ∨ w.heap.size ≤ b) ∧ (∀ b, blk (P3, 0, 0) b → (reasm_Stream_Data.S a0 A0_2 A0_3) b ∨ w.heap.size ≤ b) := by
  subst hn2
  refine enter0 mixed reasm_Stream_Data.A noC [AV.v (Value.pointer a0), AV.v (Value.int IntKind.i64 a1), AV.v (Value.slice A2 l2.length c2), AV.v (Value.bool a3)] Try.func10 rfl rfl rfl (fun hF => ?_)
  have hA_a0 : Option.isSome a0 = true := hW0.sl.some (by simp)
  have hN_a0 : Option.isNone a0 = false := by cases a0 <;> simp_all
  have hF : Fine (reasm_Stream_Data.S a0 A0_2 A0_3) w (fun _ => False) w := ⟨rfl, rfl, rfl, Nat.le_refl _, fun _ _ _ => rfl, fun b h => h.elim⟩
  have hm0 : ∀ b, blk (a0, 0, 0) b → (reasm_Stream_Data.S a0 A0_2 A0_3) b ∨ w.heap.size ≤ b := fun b hb => Or.inl (Or.inl hb)
  have hm0_2 : ∀ b, blk (A0_2, 0, 0) b → (reasm_Stream_Data.S a0 A0_2 A0_3) b ∨ w.heap.size ≤ b := fun b hb => Or.inl (Or.inr (Or.inl hb))
  have hm0_3 : ∀ b, blk (A0_3, 0, 0) b → (reasm_Stream_Data.S a0 A0_2 A0_3) b ∨ w.heap.size ≤ b := fun b hb => Or.inl (Or.inr (Or.inr hb))
  rw [reasm_Stream_Data.t]
  unfold reasm_Stream_Data.F at h
  try dsimp only at h
  obtain ⟨v0_0, hr0, h⟩ := Option.bind_eq_some_iff.1 h
  refine ok_callm rfl (fun L0 w0 g0 lt0 => ?_)
  refine (reasm_Stream_ok.c k _ (some q0) v0_0 hr0  w0 ((obr45 hW0.sl hW0_2.sl hW0_3.sl).later g0).bare).mono ?_
  rintro e w0' ⟨rfl, hb0⟩
  refine ⟨(v0_0, ()), rfl, hb0, fun g0' => ?_⟩
  try dsimp only
  have hF := hF.trans g0'
  have hW0 := hW0.later g0'
  have hW0_2 := hW0_2.later g0'
  have hW0_3 := hW0_3.later g0'
  refine ok_if (fun hc4 => ?_) (fun hc4 => ?_)
  · have h := bif_t h hc4
    refine ok_if (fun hc5 => ?_) (fun hc5 => ?_)
    · have h := bif_t h hc5
      obtain rfl := Option.some.inj h
      have homes := fun (b : Nat) (h : b < w.heap.size) => h
      intro ρ L w' _ he _ _
      exact ⟨A0_2, c0_2, A0_3, c0_3, rfl, (hF.ext he).with (fun b h => Or.inl h), (hW0.later he.fine).bare', (hW0_2.later he.fine).bare', (hW0_3.later he.fine).bare', dj0_1_0, dj0_2_0, dj0_2_1, hm0_2, hm0_3⟩
    · have h := bif_f h hc5
      refine ok_if (fun hc6 => ?_) (fun hc6 => ?_)
      · have h := bif_t h hc6
        obtain rfl := Option.some.inj h
        have homes := fun (b : Nat) (h : b < w.heap.size) => h
        intro ρ L w' _ he _ _
        exact ⟨A0_2, c0_2, A0_3, c0_3, rfl, (hF.ext he).with (fun b h => Or.inl h), (hW0.later he.fine).bare', (hW0_2.later he.fine).bare', (hW0_3.later he.fine).bare', dj0_1_0, dj0_2_0, dj0_2_1, hm0_2, hm0_3⟩
      · have h := bif_f h hc6
        refine ok_need hA_a0 ?_
        refine ok_need hA_a0 ?_
        refine ok_ob 6 hW0.sl (Fine.refl _ _) (fun cs hcs => ⟨q0.2.2.2.2.2.2, by rw [hcs]; rfl, ?_⟩)
        try dsimp only
        refine ok_if (fun hc7 => ?_) (fun hc7 => ?_)
        · have h := bif_t h hc7
          obtain rfl := Option.some.inj h
          have homes := fun (b : Nat) (h : b < w.heap.size) => h
          intro ρ L w' _ he _ _
          exact ⟨A0_2, c0_2, A0_3, c0_3, rfl, (hF.ext he).with (fun b h => Or.inl h), (hW0.later he.fine).bare', (hW0_2.later he.fine).bare', (hW0_3.later he.fine).bare', dj0_1_0, dj0_2_0, dj0_2_1, hm0_2, hm0_3⟩
        · have h := bif_f h hc7
          obtain ⟨v2_0, hr2, h⟩ := Option.bind_eq_some_iff.1 h
          refine ok_callm rfl (fun L2 w2 g2 lt2 => ?_)
          refine (reasm_Stream_Limit.c k _ (some q0) v2_0 hr2  w2 ((obr45 hW0.sl hW0_2.sl hW0_3.sl).later g2).bare).mono ?_
          rintro e w2' ⟨rfl, hb2⟩
          refine ⟨(v2_0, ()), rfl, hb2, fun g2' => ?_⟩
          try dsimp only
          have hF := hF.trans g2'
          have hW0 := hW0.later g2'
          have hW0_2 := hW0_2.later g2'
          have hW0_3 := hW0_3.later g2'
          refine ok_if (fun hc8 => ?_) (fun hc8 => ?_)
          · have h := bif_t h hc8
            obtain rfl := Option.some.inj h
            have homes := fun (b : Nat) (h : b < w.heap.size) => h
            intro ρ L w' _ he _ _
            exact ⟨A0_2, c0_2, A0_3, c0_3, rfl, (hF.ext he).with (fun b h => Or.inl h), (hW0.later he.fine).bare', (hW0_2.later he.fine).bare', (hW0_3.later he.fine).bare', dj0_1_0, dj0_2_0, dj0_2_1, hm0_2, hm0_3⟩
          · have h := bif_f h hc8
            refine ok_need hA_a0 ?_
            refine ok_need hA_a0 ?_
            refine ok_ob 5 hW0.sl (Fine.refl _ _) (fun cs hcs => ⟨q0.2.2.2.2.2.1, by rw [hcs]; rfl, ?_⟩)
            try dsimp only
            refine ok_if (fun hc9 => ?_) (fun hc9 => ?_)
            · have h := bif_t h hc9
              refine ok_need hA_a0 ?_
              refine ok_need hA_a0 ?_
              refine ok_ob 4 hW0.sl (Fine.refl _ _) (fun cs hcs => ⟨q0.2.2.2.2.1, by rw [hcs]; rfl, ?_⟩)
              try dsimp only
              refine ok_if (fun hc10 => ?_) (fun hc10 => ?_)
              · have h := bif_t h hc10
                obtain rfl := Option.some.inj h
                have homes := fun (b : Nat) (h : b < w.heap.size) => h
                intro ρ L w' _ he _ _
                exact ⟨A0_2, c0_2, A0_3, c0_3, rfl, (hF.ext he).with (fun b h => Or.inl h), (hW0.later he.fine).bare', (hW0_2.later he.fine).bare', (hW0_3.later he.fine).bare', dj0_1_0, dj0_2_0, dj0_2_1, hm0_2, hm0_3⟩
              · have h := bif_f h hc10
                refine ok_need hA_a0 ?_
                refine ok_need hA_a0 ?_
                refine ok_ob 5 hW0.sl (Fine.refl _ _) (fun cs hcs => ⟨q0.2.2.2.2.2.1, by rw [hcs]; rfl, ?_⟩)
                try dsimp only
                refine ok_if (fun hc11 => ?_) (fun hc11 => ?_)
                · have h := bif_t h hc11
                  refine ok_if (fun hc12 => ?_) (fun hc12 => ?_)
                  · have h := bif_t h hc12
                    refine ok_need hA_a0 ?_
                    refine ok_need hA_a0 ?_
                    refine ok_ob 4 hW0.sl (Fine.refl _ _) (fun cs hcs => ⟨q0.2.2.2.2.1, by rw [hcs]; rfl, ?_⟩)
                    try dsimp only
                    refine ok_if (fun hc13 => ?_) (fun hc13 => ?_)
                    · have h := bif_t h hc13
                      obtain rfl := Option.some.inj h
                      have homes := fun (b : Nat) (h : b < w.heap.size) => h
                      intro ρ L w' _ he _ _
                      exact ⟨A0_2, c0_2, A0_3, c0_3, rfl, (hF.ext he).with (fun b h => Or.inl h), (hW0.later he.fine).bare', (hW0_2.later he.fine).bare', (hW0_3.later he.fine).bare', dj0_1_0, dj0_2_0, dj0_2_1, hm0_2, hm0_3⟩
                    · have h := bif_f h hc13
                      refine ok_if (fun hc14 => ?_) (fun hc14 => ?_)
                      · have h := bif_t h hc14
                        obtain ⟨v7_0, hr7, h⟩ := Option.bind_eq_some_iff.1 h
                        refine ok_callm rfl (fun L7 w7 g7 lt7 => ?_)
                        refine (reasm_Stream_last.c k _ (some q0) v7_0 hr7  w7 ((obr45 hW0.sl hW0_2.sl hW0_3.sl).later g7).bare).mono ?_
                        rintro e w7' ⟨rfl, hb7⟩
                        refine ⟨(v7_0, ()), rfl, hb7, fun g7' => ?_⟩
                        try dsimp only
                        have hF := hF.trans g7'
                        have hW0 := hW0.later g7'
                        have hW0_2 := hW0_2.later g7'
                        have hW0_3 := hW0_3.later g7'
                        refine ok_if (fun hc15 => ?_) (fun hc15 => ?_)
                        · have h := bif_t h hc15
                          obtain rfl := Option.some.inj h
                          have homes := fun (b : Nat) (h : b < w.heap.size) => h
                          intro ρ L w' _ he _ _
                          exact ⟨A0_2, c0_2, A0_3, c0_3, rfl, (hF.ext he).with (fun b h => Or.inl h), (hW0.later he.fine).bare', (hW0_2.later he.fine).bare', (hW0_3.later he.fine).bare', dj0_1_0, dj0_2_0, dj0_2_1, hm0_2, hm0_3⟩
                        · have h := bif_f h hc15
                          refine ok_need hA_a0 ?_
                          refine ok_need hA_a0 ?_
                          refine ok_ob 1 hW0.sl (Fine.refl _ _) (fun cs hcs => ⟨q0.2.1, by rw [hcs]; rfl, ?_⟩)
                          try dsimp only
                          obtain ⟨hs16, h⟩ := bif_need h
                          have hs16 := of_decide_eq_true hs16
                          have hcap := (hS2.later hF).2.1
                          refine ok_need (by first | exact part3 hs16 hcap | exact part3 hs16 (Nat.le_refl _)) ?_
                          obtain ⟨q9, hr9, h⟩ := Option.bind_eq_some_iff.1 h
                          have hBv9 : ∀ b, (reasm_Stream_put.S a0 A0_2 A0_3) b → ¬ _ ∧ b < _ := fun b hb => by rcases hb with hb | hb | hb; exact ⟨(hW0.lt b hb).2.1, hW0.lt1 b hb⟩; exact ⟨(hW0_2.lt b hb).2.1, hW0_2.lt1 b hb⟩; exact ⟨(hW0_3.lt b hb).2.1, hW0_3.lt1 b hb⟩
                          have hBm9 : ∀ b, (reasm_Stream_put.S a0 A0_2 A0_3) b → (reasm_Stream_Data.S a0 A0_2 A0_3) b ∨ w.heap.size ≤ b := fun b hb => by rcases hb with hb | hb | hb; exact hm0 b hb; exact hm0_2 b hb; exact hm0_3 b hb
                          refine ok_callo (reasm_Stream_put.S a0 A0_2 A0_3) rfl hBv9 (fun L9 w9 g9 lt9 => ?_)
                          refine (reasm_Stream_put.c k _ q0 _ _ _ _ (IntKind.wrap IntKind.i64 (a1 + if ((l2.length : Nat) : Int) < if IntKind.wrap IntKind.i64 (q0.2.1 - a1) < 0 then 0 else IntKind.wrap IntKind.i64 (q0.2.1 - a1) then ((l2.length : Nat) : Int) else if IntKind.wrap IntKind.i64 (q0.2.1 - a1) < 0 then 0 else IntKind.wrap IntKind.i64 (q0.2.1 - a1))) _ _ _ (((l2.drop (Int.toNat (if ((l2.length : Nat) : Int) < if IntKind.wrap IntKind.i64 (q0.2.1 - a1) < 0 then 0 else IntKind.wrap IntKind.i64 (q0.2.1 - a1) then ((l2.length : Nat) : Int) else if IntKind.wrap IntKind.i64 (q0.2.1 - a1) < 0 then 0 else IntKind.wrap IntKind.i64 (q0.2.1 - a1)))).take (Int.toNat (((l2.length : Nat) : Int)) - Int.toNat (if ((l2.length : Nat) : Int) < if IntKind.wrap IntKind.i64 (q0.2.1 - a1) < 0 then 0 else IntKind.wrap IntKind.i64 (q0.2.1 - a1) then ((l2.length : Nat) : Int) else if IntKind.wrap IntKind.i64 (q0.2.1 - a1) < 0 then 0 else IntKind.wrap IntKind.i64 (q0.2.1 - a1))))) q9 hr9 (sub_len hs16.1 hs16.2.1 hs16.2.2) w9 (hW0.later g9).bare' (hW0_2.later g9).bare' (hW0_3.later g9).bare' dj0_1_0 dj0_2_0 dj0_2_1 ((hS2.later ((hF.trans g9).with hBm9)).sub _ _ hs16.1 hs16.2.1 hs16.2.2)).mono ?_
                          rintro e w9' ⟨A9_w2, c9_w2, A9_w3, c9_w3, rfl, hf9, hWc9, hWc9_2, hWc9_3, djc9_1_0, djc9_2_0, djc9_2_1, hzc9_2, hzc9_3⟩
                          refine ⟨(()), rfl, hf9, fun g9' hid9 hv9 => ?_⟩
                          try dsimp only
                          have hmc9 := hm0
                          have hmc9_2 : ∀ b, blk (A9_w2, 0, 0) b → (reasm_Stream_Data.S a0 A0_2 A0_3) b ∨ w.heap.size ≤ b := fun b hb => (hzc9_2 b hb).elim (hBm9 b) (fun h => Or.inr (Nat.le_trans (hF.trans g9).size h))
                          have hmc9_3 : ∀ b, blk (A9_w3, 0, 0) b → (reasm_Stream_Data.S a0 A0_2 A0_3) b ∨ w.heap.size ≤ b := fun b hb => (hzc9_3 b hb).elim (hBm9 b) (fun h => Or.inr (Nat.le_trans (hF.trans g9).size h))
                          have hWc9 := hWc9.vis (fun b hb => hv9 b (Or.inl (Or.inl hb)))
                          have hWc9_2 := hWc9_2.vis (fun b hb => hv9 b (hzc9_2 b hb))
                          have hWc9_3 := hWc9_3.vis (fun b hb => hv9 b (hzc9_3 b hb))
                          have hF := Fine.own hF g9' hBm9 hid9
                          refine ok_if (fun hc21 => ?_) (fun hc21 => ?_)
                          · have h := bif_t h hc21
                            refine ok_need hA_a0 ?_
                            refine ok_need hA_a0 ?_
                            refine ok_put0 (R := RW45) (x' := (q9.1, q9.2.1, (A9_w2, q9.2.2.1.length, c9_w2), (A9_w3, q9.2.2.2.1.length, c9_w3), (IntKind.wrap IntKind.i64 (a1 + ((l2.length : Nat) : Int))), q9.2.2.2.2.2.1, q9.2.2.2.2.2.2)) (vs := [Value.int IntKind.i64 (IntKind.wrap IntKind.i64 (a1 + ((l2.length : Nat) : Int)))]) 4 hWc9 (Nat.le_of_ble_eq_true rfl) rfl (fun _ => rfl) (fun Lt22 wt22 ht22 gst22 hdt22 => ?_)
                            have hWc9_2 := hWc9_2.other djc9_1_0 gst22
                            have hWc9_3 := hWc9_3.other djc9_2_0 gst22
                            have hF := Fine.own hF gst22 hmc9 hdt22
                            have hWc9 := ht22
                            refine ok_need hA_a0 ?_
                            refine ok_need hA_a0 ?_
                            refine ok_put0 (R := RW45) (x' := (q9.1, q9.2.1, (A9_w2, q9.2.2.1.length, c9_w2), (A9_w3, q9.2.2.2.1.length, c9_w3), (IntKind.wrap IntKind.i64 (a1 + ((l2.length : Nat) : Int))), true, q9.2.2.2.2.2.2)) (vs := [Value.bool true]) 5 hWc9 (Nat.le_of_ble_eq_true rfl) rfl (fun _ => rfl) (fun Lt23 wt23 ht23 gst23 hdt23 => ?_)
                            have hWc9_2 := hWc9_2.other djc9_1_0 gst23
                            have hWc9_3 := hWc9_3.other djc9_2_0 gst23
                            have hF := Fine.own hF gst23 hmc9 hdt23
                            have hWc9 := ht23
                            obtain rfl := Option.some.inj h
                            have homes := fun (b : Nat) (h : b < w.heap.size) => h
                            intro ρ L w' _ he _ _
                            exact ⟨A9_w2, c9_w2, A9_w3, c9_w3, rfl, (hF.ext he).with (fun b h => Or.inl h), (hWc9.later he.fine).bare', (hWc9_2.later he.fine).bare', (hWc9_3.later he.fine).bare', djc9_1_0, djc9_2_0, djc9_2_1, hmc9_2, hmc9_3⟩
                          · have h := bif_f h hc21
                            obtain rfl := Option.some.inj h
                            have homes := fun (b : Nat) (h : b < w.heap.size) => h
                            intro ρ L w' _ he _ _
                            exact ⟨A9_w2, c9_w2, A9_w3, c9_w3, rfl, (hF.ext he).with (fun b h => Or.inl h), (hWc9.later he.fine).bare', (hWc9_2.later he.fine).bare', (hWc9_3.later he.fine).bare', djc9_1_0, djc9_2_0, djc9_2_1, hmc9_2, hmc9_3⟩
                      · have h := bif_f h hc14
                        refine ok_need hA_a0 ?_
                        refine ok_need hA_a0 ?_
                        refine ok_ob 1 hW0.sl (Fine.refl _ _) (fun cs hcs => ⟨q0.2.1, by rw [hcs]; rfl, ?_⟩)
                        try dsimp only
                        obtain ⟨hs24, h⟩ := bif_need h
                        have hs24 := of_decide_eq_true hs24
                        have hcap := (hS2.later hF).2.1
                        refine ok_need (by first | exact part3 hs24 hcap | exact part3 hs24 (Nat.le_refl _)) ?_
                        obtain ⟨q8, hr8, h⟩ := Option.bind_eq_some_iff.1 h
                        have hBv8 : ∀ b, (reasm_Stream_put.S a0 A0_2 A0_3) b → ¬ _ ∧ b < _ := fun b hb => by rcases hb with hb | hb | hb; exact ⟨(hW0.lt b hb).2.1, hW0.lt1 b hb⟩; exact ⟨(hW0_2.lt b hb).2.1, hW0_2.lt1 b hb⟩; exact ⟨(hW0_3.lt b hb).2.1, hW0_3.lt1 b hb⟩
                        have hBm8 : ∀ b, (reasm_Stream_put.S a0 A0_2 A0_3) b → (reasm_Stream_Data.S a0 A0_2 A0_3) b ∨ w.heap.size ≤ b := fun b hb => by rcases hb with hb | hb | hb; exact hm0 b hb; exact hm0_2 b hb; exact hm0_3 b hb
                        refine ok_callo (reasm_Stream_put.S a0 A0_2 A0_3) rfl hBv8 (fun L8 w8 g8 lt8 => ?_)
                        refine (reasm_Stream_put.c k _ q0 _ _ _ _ (IntKind.wrap IntKind.i64 (a1 + if ((l2.length : Nat) : Int) < if IntKind.wrap IntKind.i64 (q0.2.1 - a1) < 0 then 0 else IntKind.wrap IntKind.i64 (q0.2.1 - a1) then ((l2.length : Nat) : Int) else if IntKind.wrap IntKind.i64 (q0.2.1 - a1) < 0 then 0 else IntKind.wrap IntKind.i64 (q0.2.1 - a1))) _ _ _ (((l2.drop (Int.toNat (if ((l2.length : Nat) : Int) < if IntKind.wrap IntKind.i64 (q0.2.1 - a1) < 0 then 0 else IntKind.wrap IntKind.i64 (q0.2.1 - a1) then ((l2.length : Nat) : Int) else if IntKind.wrap IntKind.i64 (q0.2.1 - a1) < 0 then 0 else IntKind.wrap IntKind.i64 (q0.2.1 - a1)))).take (Int.toNat (((l2.length : Nat) : Int)) - Int.toNat (if ((l2.length : Nat) : Int) < if IntKind.wrap IntKind.i64 (q0.2.1 - a1) < 0 then 0 else IntKind.wrap IntKind.i64 (q0.2.1 - a1) then ((l2.length : Nat) : Int) else if IntKind.wrap IntKind.i64 (q0.2.1 - a1) < 0 then 0 else IntKind.wrap IntKind.i64 (q0.2.1 - a1))))) q8 hr8 (sub_len hs24.1 hs24.2.1 hs24.2.2) w8 (hW0.later g8).bare' (hW0_2.later g8).bare' (hW0_3.later g8).bare' dj0_1_0 dj0_2_0 dj0_2_1 ((hS2.later ((hF.trans g8).with hBm8)).sub _ _ hs24.1 hs24.2.1 hs24.2.2)).mono ?_
                        rintro e w8' ⟨A8_w2, c8_w2, A8_w3, c8_w3, rfl, hf8, hWc8, hWc8_2, hWc8_3, djc8_1_0, djc8_2_0, djc8_2_1, hzc8_2, hzc8_3⟩
                        refine ⟨(()), rfl, hf8, fun g8' hid8 hv8 => ?_⟩
                        try dsimp only
                        have hmc8 := hm0
                        have hmc8_2 : ∀ b, blk (A8_w2, 0, 0) b → (reasm_Stream_Data.S a0 A0_2 A0_3) b ∨ w.heap.size ≤ b := fun b hb => (hzc8_2 b hb).elim (hBm8 b) (fun h => Or.inr (Nat.le_trans (hF.trans g8).size h))
                        have hmc8_3 : ∀ b, blk (A8_w3, 0, 0) b → (reasm_Stream_Data.S a0 A0_2 A0_3) b ∨ w.heap.size ≤ b := fun b hb => (hzc8_3 b hb).elim (hBm8 b) (fun h => Or.inr (Nat.le_trans (hF.trans g8).size h))
                        have hWc8 := hWc8.vis (fun b hb => hv8 b (Or.inl (Or.inl hb)))
                        have hWc8_2 := hWc8_2.vis (fun b hb => hv8 b (hzc8_2 b hb))
                        have hWc8_3 := hWc8_3.vis (fun b hb => hv8 b (hzc8_3 b hb))
                        have hF := Fine.own hF g8' hBm8 hid8
                        refine ok_if (fun hc29 => ?_) (fun hc29 => ?_)
                        · have h := bif_t h hc29
                          refine ok_need hA_a0 ?_
                          refine ok_need hA_a0 ?_
                          refine ok_put0 (R := RW45) (x' := (q8.1, q8.2.1, (A8_w2, q8.2.2.1.length, c8_w2), (A8_w3, q8.2.2.2.1.length, c8_w3), (IntKind.wrap IntKind.i64 (a1 + ((l2.length : Nat) : Int))), q8.2.2.2.2.2.1, q8.2.2.2.2.2.2)) (vs := [Value.int IntKind.i64 (IntKind.wrap IntKind.i64 (a1 + ((l2.length : Nat) : Int)))]) 4 hWc8 (Nat.le_of_ble_eq_true rfl) rfl (fun _ => rfl) (fun Lt30 wt30 ht30 gst30 hdt30 => ?_)
                          have hWc8_2 := hWc8_2.other djc8_1_0 gst30
                          have hWc8_3 := hWc8_3.other djc8_2_0 gst30
                          have hF := Fine.own hF gst30 hmc8 hdt30
                          have hWc8 := ht30
                          refine ok_need hA_a0 ?_
                          refine ok_need hA_a0 ?_
                          refine ok_put0 (R := RW45) (x' := (q8.1, q8.2.1, (A8_w2, q8.2.2.1.length, c8_w2), (A8_w3, q8.2.2.2.1.length, c8_w3), (IntKind.wrap IntKind.i64 (a1 + ((l2.length : Nat) : Int))), true, q8.2.2.2.2.2.2)) (vs := [Value.bool true]) 5 hWc8 (Nat.le_of_ble_eq_true rfl) rfl (fun _ => rfl) (fun Lt31 wt31 ht31 gst31 hdt31 => ?_)
                          have hWc8_2 := hWc8_2.other djc8_1_0 gst31
                          have hWc8_3 := hWc8_3.other djc8_2_0 gst31
                          have hF := Fine.own hF gst31 hmc8 hdt31
                          have hWc8 := ht31
                          obtain rfl := Option.some.inj h
                          have homes := fun (b : Nat) (h : b < w.heap.size) => h
                          intro ρ L w' _ he _ _
                          exact ⟨A8_w2, c8_w2, A8_w3, c8_w3, rfl, (hF.ext he).with (fun b h => Or.inl h), (hWc8.later he.fine).bare', (hWc8_2.later he.fine).bare', (hWc8_3.later he.fine).bare', djc8_1_0, djc8_2_0, djc8_2_1, hmc8_2, hmc8_3⟩
                        · have h := bif_f h hc29
                          obtain rfl := Option.some.inj h
                          have homes := fun (b : Nat) (h : b < w.heap.size) => h
                          intro ρ L w' _ he _ _
                          exact ⟨A8_w2, c8_w2, A8_w3, c8_w3, rfl, (hF.ext he).with (fun b h => Or.inl h), (hWc8.later he.fine).bare', (hWc8_2.later he.fine).bare', (hWc8_3.later he.fine).bare', djc8_1_0, djc8_2_0, djc8_2_1, hmc8_2, hmc8_3⟩
                  · have h := bif_f h hc12
                    refine ok_if (fun hc32 => ?_) (fun hc32 => ?_)
                    · have h := bif_t h hc32
                      obtain ⟨v6_0, hr6, h⟩ := Option.bind_eq_some_iff.1 h
                      refine ok_callm rfl (fun L6 w6 g6 lt6 => ?_)
                      refine (reasm_Stream_last.c k _ (some q0) v6_0 hr6  w6 ((obr45 hW0.sl hW0_2.sl hW0_3.sl).later g6).bare).mono ?_
                      rintro e w6' ⟨rfl, hb6⟩
                      refine ⟨(v6_0, ()), rfl, hb6, fun g6' => ?_⟩
                      try dsimp only
                      have hF := hF.trans g6'
                      have hW0 := hW0.later g6'
                      have hW0_2 := hW0_2.later g6'
                      have hW0_3 := hW0_3.later g6'
                      refine ok_if (fun hc33 => ?_) (fun hc33 => ?_)
                      · have h := bif_t h hc33
                        obtain rfl := Option.some.inj h
                        have homes := fun (b : Nat) (h : b < w.heap.size) => h
                        intro ρ L w' _ he _ _
                        exact ⟨A0_2, c0_2, A0_3, c0_3, rfl, (hF.ext he).with (fun b h => Or.inl h), (hW0.later he.fine).bare', (hW0_2.later he.fine).bare', (hW0_3.later he.fine).bare', dj0_1_0, dj0_2_0, dj0_2_1, hm0_2, hm0_3⟩
                      · have h := bif_f h hc33
                        refine ok_need hA_a0 ?_
                        refine ok_need hA_a0 ?_
                        refine ok_ob 1 hW0.sl (Fine.refl _ _) (fun cs hcs => ⟨q0.2.1, by rw [hcs]; rfl, ?_⟩)
                        try dsimp only
                        obtain ⟨hs34, h⟩ := bif_need h
                        have hs34 := of_decide_eq_true hs34
                        have hcap := (hS2.later hF).2.1
                        refine ok_need (by first | exact part3 hs34 hcap | exact part3 hs34 (Nat.le_refl _)) ?_
                        obtain ⟨q8, hr8, h⟩ := Option.bind_eq_some_iff.1 h
                        have hBv8 : ∀ b, (reasm_Stream_put.S a0 A0_2 A0_3) b → ¬ _ ∧ b < _ := fun b hb => by rcases hb with hb | hb | hb; exact ⟨(hW0.lt b hb).2.1, hW0.lt1 b hb⟩; exact ⟨(hW0_2.lt b hb).2.1, hW0_2.lt1 b hb⟩; exact ⟨(hW0_3.lt b hb).2.1, hW0_3.lt1 b hb⟩
                        have hBm8 : ∀ b, (reasm_Stream_put.S a0 A0_2 A0_3) b → (reasm_Stream_Data.S a0 A0_2 A0_3) b ∨ w.heap.size ≤ b := fun b hb => by rcases hb with hb | hb | hb; exact hm0 b hb; exact hm0_2 b hb; exact hm0_3 b hb
                        refine ok_callo (reasm_Stream_put.S a0 A0_2 A0_3) rfl hBv8 (fun L8 w8 g8 lt8 => ?_)
                        refine (reasm_Stream_put.c k _ q0 _ _ _ _ (IntKind.wrap IntKind.i64 (a1 + if ((l2.length : Nat) : Int) < if IntKind.wrap IntKind.i64 (q0.2.1 - a1) < 0 then 0 else IntKind.wrap IntKind.i64 (q0.2.1 - a1) then ((l2.length : Nat) : Int) else if IntKind.wrap IntKind.i64 (q0.2.1 - a1) < 0 then 0 else IntKind.wrap IntKind.i64 (q0.2.1 - a1))) _ _ _ (((l2.drop (Int.toNat (if ((l2.length : Nat) : Int) < if IntKind.wrap IntKind.i64 (q0.2.1 - a1) < 0 then 0 else IntKind.wrap IntKind.i64 (q0.2.1 - a1) then ((l2.length : Nat) : Int) else if IntKind.wrap IntKind.i64 (q0.2.1 - a1) < 0 then 0 else IntKind.wrap IntKind.i64 (q0.2.1 - a1)))).take (Int.toNat (((l2.length : Nat) : Int)) - Int.toNat (if ((l2.length : Nat) : Int) < if IntKind.wrap IntKind.i64 (q0.2.1 - a1) < 0 then 0 else IntKind.wrap IntKind.i64 (q0.2.1 - a1) then ((l2.length : Nat) : Int) else if IntKind.wrap IntKind.i64 (q0.2.1 - a1) < 0 then 0 else IntKind.wrap IntKind.i64 (q0.2.1 - a1))))) q8 hr8 (sub_len hs34.1 hs34.2.1 hs34.2.2) w8 (hW0.later g8).bare' (hW0_2.later g8).bare' (hW0_3.later g8).bare' dj0_1_0 dj0_2_0 dj0_2_1 ((hS2.later ((hF.trans g8).with hBm8)).sub _ _ hs34.1 hs34.2.1 hs34.2.2)).mono ?_
                        rintro e w8' ⟨A8_w2, c8_w2, A8_w3, c8_w3, rfl, hf8, hWc8, hWc8_2, hWc8_3, djc8_1_0, djc8_2_0, djc8_2_1, hzc8_2, hzc8_3⟩
                        refine ⟨(()), rfl, hf8, fun g8' hid8 hv8 => ?_⟩
                        try dsimp only
                        have hmc8 := hm0
                        have hmc8_2 : ∀ b, blk (A8_w2, 0, 0) b → (reasm_Stream_Data.S a0 A0_2 A0_3) b ∨ w.heap.size ≤ b := fun b hb => (hzc8_2 b hb).elim (hBm8 b) (fun h => Or.inr (Nat.le_trans (hF.trans g8).size h))
                        have hmc8_3 : ∀ b, blk (A8_w3, 0, 0) b → (reasm_Stream_Data.S a0 A0_2 A0_3) b ∨ w.heap.size ≤ b := fun b hb => (hzc8_3 b hb).elim (hBm8 b) (fun h => Or.inr (Nat.le_trans (hF.trans g8).size h))
                        have hWc8 := hWc8.vis (fun b hb => hv8 b (Or.inl (Or.inl hb)))
                        have hWc8_2 := hWc8_2.vis (fun b hb => hv8 b (hzc8_2 b hb))
                        have hWc8_3 := hWc8_3.vis (fun b hb => hv8 b (hzc8_3 b hb))
                        have hF := Fine.own hF g8' hBm8 hid8
                        refine ok_if (fun hc39 => ?_) (fun hc39 => ?_)
                        · have h := bif_t h hc39
                          refine ok_need hA_a0 ?_
                          refine ok_need hA_a0 ?_
                          refine ok_put0 (R := RW45) (x' := (q8.1, q8.2.1, (A8_w2, q8.2.2.1.length, c8_w2), (A8_w3, q8.2.2.2.1.length, c8_w3), (IntKind.wrap IntKind.i64 (a1 + ((l2.length : Nat) : Int))), q8.2.2.2.2.2.1, q8.2.2.2.2.2.2)) (vs := [Value.int IntKind.i64 (IntKind.wrap IntKind.i64 (a1 + ((l2.length : Nat) : Int)))]) 4 hWc8 (Nat.le_of_ble_eq_true rfl) rfl (fun _ => rfl) (fun Lt40 wt40 ht40 gst40 hdt40 => ?_)
                          have hWc8_2 := hWc8_2.other djc8_1_0 gst40
                          have hWc8_3 := hWc8_3.other djc8_2_0 gst40
                          have hF := Fine.own hF gst40 hmc8 hdt40
                          have hWc8 := ht40
                          refine ok_need hA_a0 ?_
                          refine ok_need hA_a0 ?_
                          refine ok_put0 (R := RW45) (x' := (q8.1, q8.2.1, (A8_w2, q8.2.2.1.length, c8_w2), (A8_w3, q8.2.2.2.1.length, c8_w3), (IntKind.wrap IntKind.i64 (a1 + ((l2.length : Nat) : Int))), true, q8.2.2.2.2.2.2)) (vs := [Value.bool true]) 5 hWc8 (Nat.le_of_ble_eq_true rfl) rfl (fun _ => rfl) (fun Lt41 wt41 ht41 gst41 hdt41 => ?_)
                          have hWc8_2 := hWc8_2.other djc8_1_0 gst41
                          have hWc8_3 := hWc8_3.other djc8_2_0 gst41
                          have hF := Fine.own hF gst41 hmc8 hdt41
                          have hWc8 := ht41
                          obtain rfl := Option.some.inj h
                          have homes := fun (b : Nat) (h : b < w.heap.size) => h
                          intro ρ L w' _ he _ _
                          exact ⟨A8_w2, c8_w2, A8_w3, c8_w3, rfl, (hF.ext he).with (fun b h => Or.inl h), (hWc8.later he.fine).bare', (hWc8_2.later he.fine).bare', (hWc8_3.later he.fine).bare', djc8_1_0, djc8_2_0, djc8_2_1, hmc8_2, hmc8_3⟩
                        · have h := bif_f h hc39
                          obtain rfl := Option.some.inj h
                          have homes := fun (b : Nat) (h : b < w.heap.size) => h
                          intro ρ L w' _ he _ _
                          exact ⟨A8_w2, c8_w2, A8_w3, c8_w3, rfl, (hF.ext he).with (fun b h => Or.inl h), (hWc8.later he.fine).bare', (hWc8_2.later he.fine).bare', (hWc8_3.later he.fine).bare', djc8_1_0, djc8_2_0, djc8_2_1, hmc8_2, hmc8_3⟩
                    · have h := bif_f h hc32
                      refine ok_need hA_a0 ?_
                      refine ok_need hA_a0 ?_
                      refine ok_ob 1 hW0.sl (Fine.refl _ _) (fun cs hcs => ⟨q0.2.1, by rw [hcs]; rfl, ?_⟩)
                      try dsimp only
                      obtain ⟨hs42, h⟩ := bif_need h
                      have hs42 := of_decide_eq_true hs42
                      have hcap := (hS2.later hF).2.1
                      refine ok_need (by first | exact part3 hs42 hcap | exact part3 hs42 (Nat.le_refl _)) ?_
                      obtain ⟨q7, hr7, h⟩ := Option.bind_eq_some_iff.1 h
                      have hBv7 : ∀ b, (reasm_Stream_put.S a0 A0_2 A0_3) b → ¬ _ ∧ b < _ := fun b hb => by rcases hb with hb | hb | hb; exact ⟨(hW0.lt b hb).2.1, hW0.lt1 b hb⟩; exact ⟨(hW0_2.lt b hb).2.1, hW0_2.lt1 b hb⟩; exact ⟨(hW0_3.lt b hb).2.1, hW0_3.lt1 b hb⟩
                      have hBm7 : ∀ b, (reasm_Stream_put.S a0 A0_2 A0_3) b → (reasm_Stream_Data.S a0 A0_2 A0_3) b ∨ w.heap.size ≤ b := fun b hb => by rcases hb with hb | hb | hb; exact hm0 b hb; exact hm0_2 b hb; exact hm0_3 b hb
                      refine ok_callo (reasm_Stream_put.S a0 A0_2 A0_3) rfl hBv7 (fun L7 w7 g7 lt7 => ?_)
                      refine (reasm_Stream_put.c k _ q0 _ _ _ _ (IntKind.wrap IntKind.i64 (a1 + if ((l2.length : Nat) : Int) < if IntKind.wrap IntKind.i64 (q0.2.1 - a1) < 0 then 0 else IntKind.wrap IntKind.i64 (q0.2.1 - a1) then ((l2.length : Nat) : Int) else if IntKind.wrap IntKind.i64 (q0.2.1 - a1) < 0 then 0 else IntKind.wrap IntKind.i64 (q0.2.1 - a1))) _ _ _ (((l2.drop (Int.toNat (if ((l2.length : Nat) : Int) < if IntKind.wrap IntKind.i64 (q0.2.1 - a1) < 0 then 0 else IntKind.wrap IntKind.i64 (q0.2.1 - a1) then ((l2.length : Nat) : Int) else if IntKind.wrap IntKind.i64 (q0.2.1 - a1) < 0 then 0 else IntKind.wrap IntKind.i64 (q0.2.1 - a1)))).take (Int.toNat (((l2.length : Nat) : Int)) - Int.toNat (if ((l2.length : Nat) : Int) < if IntKind.wrap IntKind.i64 (q0.2.1 - a1) < 0 then 0 else IntKind.wrap IntKind.i64 (q0.2.1 - a1) then ((l2.length : Nat) : Int) else if IntKind.wrap IntKind.i64 (q0.2.1 - a1) < 0 then 0 else IntKind.wrap IntKind.i64 (q0.2.1 - a1))))) q7 hr7 (sub_len hs42.1 hs42.2.1 hs42.2.2) w7 (hW0.later g7).bare' (hW0_2.later g7).bare' (hW0_3.later g7).bare' dj0_1_0 dj0_2_0 dj0_2_1 ((hS2.later ((hF.trans g7).with hBm7)).sub _ _ hs42.1 hs42.2.1 hs42.2.2)).mono ?_
                      rintro e w7' ⟨A7_w2, c7_w2, A7_w3, c7_w3, rfl, hf7, hWc7, hWc7_2, hWc7_3, djc7_1_0, djc7_2_0, djc7_2_1, hzc7_2, hzc7_3⟩
                      refine ⟨(()), rfl, hf7, fun g7' hid7 hv7 => ?_⟩
                      try dsimp only
                      have hmc7 := hm0
                      have hmc7_2 : ∀ b, blk (A7_w2, 0, 0) b → (reasm_Stream_Data.S a0 A0_2 A0_3) b ∨ w.heap.size ≤ b := fun b hb => (hzc7_2 b hb).elim (hBm7 b) (fun h => Or.inr (Nat.le_trans (hF.trans g7).size h))
                      have hmc7_3 : ∀ b, blk (A7_w3, 0, 0) b → (reasm_Stream_Data.S a0 A0_2 A0_3) b ∨ w.heap.size ≤ b := fun b hb => (hzc7_3 b hb).elim (hBm7 b) (fun h => Or.inr (Nat.le_trans (hF.trans g7).size h))
                      have hWc7 := hWc7.vis (fun b hb => hv7 b (Or.inl (Or.inl hb)))
                      have hWc7_2 := hWc7_2.vis (fun b hb => hv7 b (hzc7_2 b hb))
                      have hWc7_3 := hWc7_3.vis (fun b hb => hv7 b (hzc7_3 b hb))
                      have hF := Fine.own hF g7' hBm7 hid7
                      refine ok_if (fun hc47 => ?_) (fun hc47 => ?_)
                      · have h := bif_t h hc47
                        refine ok_need hA_a0 ?_
                        refine ok_need hA_a0 ?_
                        refine ok_put0 (R := RW45) (x' := (q7.1, q7.2.1, (A7_w2, q7.2.2.1.length, c7_w2), (A7_w3, q7.2.2.2.1.length, c7_w3), (IntKind.wrap IntKind.i64 (a1 + ((l2.length : Nat) : Int))), q7.2.2.2.2.2.1, q7.2.2.2.2.2.2)) (vs := [Value.int IntKind.i64 (IntKind.wrap IntKind.i64 (a1 + ((l2.length : Nat) : Int)))]) 4 hWc7 (Nat.le_of_ble_eq_true rfl) rfl (fun _ => rfl) (fun Lt48 wt48 ht48 gst48 hdt48 => ?_)
                        have hWc7_2 := hWc7_2.other djc7_1_0 gst48
                        have hWc7_3 := hWc7_3.other djc7_2_0 gst48
                        have hF := Fine.own hF gst48 hmc7 hdt48
                        have hWc7 := ht48
                        refine ok_need hA_a0 ?_
                        refine ok_need hA_a0 ?_
                        refine ok_put0 (R := RW45) (x' := (q7.1, q7.2.1, (A7_w2, q7.2.2.1.length, c7_w2), (A7_w3, q7.2.2.2.1.length, c7_w3), (IntKind.wrap IntKind.i64 (a1 + ((l2.length : Nat) : Int))), true, q7.2.2.2.2.2.2)) (vs := [Value.bool true]) 5 hWc7 (Nat.le_of_ble_eq_true rfl) rfl (fun _ => rfl) (fun Lt49 wt49 ht49 gst49 hdt49 => ?_)
                        have hWc7_2 := hWc7_2.other djc7_1_0 gst49
                        have hWc7_3 := hWc7_3.other djc7_2_0 gst49
                        have hF := Fine.own hF gst49 hmc7 hdt49
                        have hWc7 := ht49
                        obtain rfl := Option.some.inj h
                        have homes := fun (b : Nat) (h : b < w.heap.size) => h
                        intro ρ L w' _ he _ _
                        exact ⟨A7_w2, c7_w2, A7_w3, c7_w3, rfl, (hF.ext he).with (fun b h => Or.inl h), (hWc7.later he.fine).bare', (hWc7_2.later he.fine).bare', (hWc7_3.later he.fine).bare', djc7_1_0, djc7_2_0, djc7_2_1, hmc7_2, hmc7_3⟩
                      · have h := bif_f h hc47
                        obtain rfl := Option.some.inj h
                        have homes := fun (b : Nat) (h : b < w.heap.size) => h
                        intro ρ L w' _ he _ _
                        exact ⟨A7_w2, c7_w2, A7_w3, c7_w3, rfl, (hF.ext he).with (fun b h => Or.inl h), (hWc7.later he.fine).bare', (hWc7_2.later he.fine).bare', (hWc7_3.later he.fine).bare', djc7_1_0, djc7_2_0, djc7_2_1, hmc7_2, hmc7_3⟩
                · have h := bif_f h hc11
                  refine ok_if (fun hc50 => ?_) (fun hc50 => ?_)
                  · have h := bif_t h hc50
                    obtain ⟨v6_0, hr6, h⟩ := Option.bind_eq_some_iff.1 h
                    refine ok_callm rfl (fun L6 w6 g6 lt6 => ?_)
                    refine (reasm_Stream_last.c k _ (some q0) v6_0 hr6  w6 ((obr45 hW0.sl hW0_2.sl hW0_3.sl).later g6).bare).mono ?_
                    rintro e w6' ⟨rfl, hb6⟩
                    refine ⟨(v6_0, ()), rfl, hb6, fun g6' => ?_⟩
                    try dsimp only
                    have hF := hF.trans g6'
                    have hW0 := hW0.later g6'
                    have hW0_2 := hW0_2.later g6'
                    have hW0_3 := hW0_3.later g6'
                    refine ok_if (fun hc51 => ?_) (fun hc51 => ?_)
                    · have h := bif_t h hc51
                      obtain rfl := Option.some.inj h
                      have homes := fun (b : Nat) (h : b < w.heap.size) => h
                      intro ρ L w' _ he _ _
                      exact ⟨A0_2, c0_2, A0_3, c0_3, rfl, (hF.ext he).with (fun b h => Or.inl h), (hW0.later he.fine).bare', (hW0_2.later he.fine).bare', (hW0_3.later he.fine).bare', dj0_1_0, dj0_2_0, dj0_2_1, hm0_2, hm0_3⟩
                    · have h := bif_f h hc51
                      refine ok_need hA_a0 ?_
                      refine ok_need hA_a0 ?_
                      refine ok_ob 1 hW0.sl (Fine.refl _ _) (fun cs hcs => ⟨q0.2.1, by rw [hcs]; rfl, ?_⟩)
                      try dsimp only
                      obtain ⟨hs52, h⟩ := bif_need h
                      have hs52 := of_decide_eq_true hs52
                      have hcap := (hS2.later hF).2.1
                      refine ok_need (by first | exact part3 hs52 hcap | exact part3 hs52 (Nat.le_refl _)) ?_
                      obtain ⟨q8, hr8, h⟩ := Option.bind_eq_some_iff.1 h
                      have hBv8 : ∀ b, (reasm_Stream_put.S a0 A0_2 A0_3) b → ¬ _ ∧ b < _ := fun b hb => by rcases hb with hb | hb | hb; exact ⟨(hW0.lt b hb).2.1, hW0.lt1 b hb⟩; exact ⟨(hW0_2.lt b hb).2.1, hW0_2.lt1 b hb⟩; exact ⟨(hW0_3.lt b hb).2.1, hW0_3.lt1 b hb⟩
                      have hBm8 : ∀ b, (reasm_Stream_put.S a0 A0_2 A0_3) b → (reasm_Stream_Data.S a0 A0_2 A0_3) b ∨ w.heap.size ≤ b := fun b hb => by rcases hb with hb | hb | hb; exact hm0 b hb; exact hm0_2 b hb; exact hm0_3 b hb
                      refine ok_callo (reasm_Stream_put.S a0 A0_2 A0_3) rfl hBv8 (fun L8 w8 g8 lt8 => ?_)
                      refine (reasm_Stream_put.c k _ q0 _ _ _ _ (IntKind.wrap IntKind.i64 (a1 + if ((l2.length : Nat) : Int) < if IntKind.wrap IntKind.i64 (q0.2.1 - a1) < 0 then 0 else IntKind.wrap IntKind.i64 (q0.2.1 - a1) then ((l2.length : Nat) : Int) else if IntKind.wrap IntKind.i64 (q0.2.1 - a1) < 0 then 0 else IntKind.wrap IntKind.i64 (q0.2.1 - a1))) _ _ _ (((l2.drop (Int.toNat (if ((l2.length : Nat) : Int) < if IntKind.wrap IntKind.i64 (q0.2.1 - a1) < 0 then 0 else IntKind.wrap IntKind.i64 (q0.2.1 - a1) then ((l2.length : Nat) : Int) else if IntKind.wrap IntKind.i64 (q0.2.1 - a1) < 0 then 0 else IntKind.wrap IntKind.i64 (q0.2.1 - a1)))).take (Int.toNat (((l2.length : Nat) : Int)) - Int.toNat (if ((l2.length : Nat) : Int) < if IntKind.wrap IntKind.i64 (q0.2.1 - a1) < 0 then 0 else IntKind.wrap IntKind.i64 (q0.2.1 - a1) then ((l2.length : Nat) : Int) else if IntKind.wrap IntKind.i64 (q0.2.1 - a1) < 0 then 0 else IntKind.wrap IntKind.i64 (q0.2.1 - a1))))) q8 hr8 (sub_len hs52.1 hs52.2.1 hs52.2.2) w8 (hW0.later g8).bare' (hW0_2.later g8).bare' (hW0_3.later g8).bare' dj0_1_0 dj0_2_0 dj0_2_1 ((hS2.later ((hF.trans g8).with hBm8)).sub _ _ hs52.1 hs52.2.1 hs52.2.2)).mono ?_
                      rintro e w8' ⟨A8_w2, c8_w2, A8_w3, c8_w3, rfl, hf8, hWc8, hWc8_2, hWc8_3, djc8_1_0, djc8_2_0, djc8_2_1, hzc8_2, hzc8_3⟩
                      refine ⟨(()), rfl, hf8, fun g8' hid8 hv8 => ?_⟩
                      try dsimp only
                      have hmc8 := hm0
                      have hmc8_2 : ∀ b, blk (A8_w2, 0, 0) b → (reasm_Stream_Data.S a0 A0_2 A0_3) b ∨ w.heap.size ≤ b := fun b hb => (hzc8_2 b hb).elim (hBm8 b) (fun h => Or.inr (Nat.le_trans (hF.trans g8).size h))
                      have hmc8_3 : ∀ b, blk (A8_w3, 0, 0) b → (reasm_Stream_Data.S a0 A0_2 A0_3) b ∨ w.heap.size ≤ b := fun b hb => (hzc8_3 b hb).elim (hBm8 b) (fun h => Or.inr (Nat.le_trans (hF.trans g8).size h))
                      have hWc8 := hWc8.vis (fun b hb => hv8 b (Or.inl (Or.inl hb)))
                      have hWc8_2 := hWc8_2.vis (fun b hb => hv8 b (hzc8_2 b hb))
                      have hWc8_3 := hWc8_3.vis (fun b hb => hv8 b (hzc8_3 b hb))
                      have hF := Fine.own hF g8' hBm8 hid8
                      refine ok_if (fun hc57 => ?_) (fun hc57 => ?_)
                      · have h := bif_t h hc57
                        refine ok_need hA_a0 ?_
                        refine ok_need hA_a0 ?_
                        refine ok_put0 (R := RW45) (x' := (q8.1, q8.2.1, (A8_w2, q8.2.2.1.length, c8_w2), (A8_w3, q8.2.2.2.1.length, c8_w3), (IntKind.wrap IntKind.i64 (a1 + ((l2.length : Nat) : Int))), q8.2.2.2.2.2.1, q8.2.2.2.2.2.2)) (vs := [Value.int IntKind.i64 (IntKind.wrap IntKind.i64 (a1 + ((l2.length : Nat) : Int)))]) 4 hWc8 (Nat.le_of_ble_eq_true rfl) rfl (fun _ => rfl) (fun Lt58 wt58 ht58 gst58 hdt58 => ?_)
                        have hWc8_2 := hWc8_2.other djc8_1_0 gst58
                        have hWc8_3 := hWc8_3.other djc8_2_0 gst58
                        have hF := Fine.own hF gst58 hmc8 hdt58
                        have hWc8 := ht58
                        refine ok_need hA_a0 ?_
                        refine ok_need hA_a0 ?_
                        refine ok_put0 (R := RW45) (x' := (q8.1, q8.2.1, (A8_w2, q8.2.2.1.length, c8_w2), (A8_w3, q8.2.2.2.1.length, c8_w3), (IntKind.wrap IntKind.i64 (a1 + ((l2.length : Nat) : Int))), true, q8.2.2.2.2.2.2)) (vs := [Value.bool true]) 5 hWc8 (Nat.le_of_ble_eq_true rfl) rfl (fun _ => rfl) (fun Lt59 wt59 ht59 gst59 hdt59 => ?_)
                        have hWc8_2 := hWc8_2.other djc8_1_0 gst59
                        have hWc8_3 := hWc8_3.other djc8_2_0 gst59
                        have hF := Fine.own hF gst59 hmc8 hdt59
                        have hWc8 := ht59
                        obtain rfl := Option.some.inj h
                        have homes := fun (b : Nat) (h : b < w.heap.size) => h
                        intro ρ L w' _ he _ _
                        exact ⟨A8_w2, c8_w2, A8_w3, c8_w3, rfl, (hF.ext he).with (fun b h => Or.inl h), (hWc8.later he.fine).bare', (hWc8_2.later he.fine).bare', (hWc8_3.later he.fine).bare', djc8_1_0, djc8_2_0, djc8_2_1, hmc8_2, hmc8_3⟩
                      · have h := bif_f h hc57
                        obtain rfl := Option.some.inj h
                        have homes := fun (b : Nat) (h : b < w.heap.size) => h
                        intro ρ L w' _ he _ _
                        exact ⟨A8_w2, c8_w2, A8_w3, c8_w3, rfl, (hF.ext he).with (fun b h => Or.inl h), (hWc8.later he.fine).bare', (hWc8_2.later he.fine).bare', (hWc8_3.later he.fine).bare', djc8_1_0, djc8_2_0, djc8_2_1, hmc8_2, hmc8_3⟩
                  · have h := bif_f h hc50
                    refine ok_need hA_a0 ?_
                    refine ok_need hA_a0 ?_
                    refine ok_ob 1 hW0.sl (Fine.refl _ _) (fun cs hcs => ⟨q0.2.1, by rw [hcs]; rfl, ?_⟩)
                    try dsimp only
                    obtain ⟨hs60, h⟩ := bif_need h
                    have hs60 := of_decide_eq_true hs60
                    have hcap := (hS2.later hF).2.1
                    refine ok_need (by first | exact part3 hs60 hcap | exact part3 hs60 (Nat.le_refl _)) ?_
                    obtain ⟨q7, hr7, h⟩ := Option.bind_eq_some_iff.1 h
                    have hBv7 : ∀ b, (reasm_Stream_put.S a0 A0_2 A0_3) b → ¬ _ ∧ b < _ := fun b hb => by rcases hb with hb | hb | hb; exact ⟨(hW0.lt b hb).2.1, hW0.lt1 b hb⟩; exact ⟨(hW0_2.lt b hb).2.1, hW0_2.lt1 b hb⟩; exact ⟨(hW0_3.lt b hb).2.1, hW0_3.lt1 b hb⟩
                    have hBm7 : ∀ b, (reasm_Stream_put.S a0 A0_2 A0_3) b → (reasm_Stream_Data.S a0 A0_2 A0_3) b ∨ w.heap.size ≤ b := fun b hb => by rcases hb with hb | hb | hb; exact hm0 b hb; exact hm0_2 b hb; exact hm0_3 b hb
                    refine ok_callo (reasm_Stream_put.S a0 A0_2 A0_3) rfl hBv7 (fun L7 w7 g7 lt7 => ?_)
                    refine (reasm_Stream_put.c k _ q0 _ _ _ _ (IntKind.wrap IntKind.i64 (a1 + if ((l2.length : Nat) : Int) < if IntKind.wrap IntKind.i64 (q0.2.1 - a1) < 0 then 0 else IntKind.wrap IntKind.i64 (q0.2.1 - a1) then ((l2.length : Nat) : Int) else if IntKind.wrap IntKind.i64 (q0.2.1 - a1) < 0 then 0 else IntKind.wrap IntKind.i64 (q0.2.1 - a1))) _ _ _ (((l2.drop (Int.toNat (if ((l2.length : Nat) : Int) < if IntKind.wrap IntKind.i64 (q0.2.1 - a1) < 0 then 0 else IntKind.wrap IntKind.i64 (q0.2.1 - a1) then ((l2.length : Nat) : Int) else if IntKind.wrap IntKind.i64 (q0.2.1 - a1) < 0 then 0 else IntKind.wrap IntKind.i64 (q0.2.1 - a1)))).take (Int.toNat (((l2.length : Nat) : Int)) - Int.toNat (if ((l2.length : Nat) : Int) < if IntKind.wrap IntKind.i64 (q0.2.1 - a1) < 0 then 0 else IntKind.wrap IntKind.i64 (q0.2.1 - a1) then ((l2.length : Nat) : Int) else if IntKind.wrap IntKind.i64 (q0.2.1 - a1) < 0 then 0 else IntKind.wrap IntKind.i64 (q0.2.1 - a1))))) q7 hr7 (sub_len hs60.1 hs60.2.1 hs60.2.2) w7 (hW0.later g7).bare' (hW0_2.later g7).bare' (hW0_3.later g7).bare' dj0_1_0 dj0_2_0 dj0_2_1 ((hS2.later ((hF.trans g7).with hBm7)).sub _ _ hs60.1 hs60.2.1 hs60.2.2)).mono ?_
                    rintro e w7' ⟨A7_w2, c7_w2, A7_w3, c7_w3, rfl, hf7, hWc7, hWc7_2, hWc7_3, djc7_1_0, djc7_2_0, djc7_2_1, hzc7_2, hzc7_3⟩
                    refine ⟨(()), rfl, hf7, fun g7' hid7 hv7 => ?_⟩
                    try dsimp only
                    have hmc7 := hm0
                    have hmc7_2 : ∀ b, blk (A7_w2, 0, 0) b → (reasm_Stream_Data.S a0 A0_2 A0_3) b ∨ w.heap.size ≤ b := fun b hb => (hzc7_2 b hb).elim (hBm7 b) (fun h => Or.inr (Nat.le_trans (hF.trans g7).size h))
                    have hmc7_3 : ∀ b, blk (A7_w3, 0, 0) b → (reasm_Stream_Data.S a0 A0_2 A0_3) b ∨ w.heap.size ≤ b := fun b hb => (hzc7_3 b hb).elim (hBm7 b) (fun h => Or.inr (Nat.le_trans (hF.trans g7).size h))
                    have hWc7 := hWc7.vis (fun b hb => hv7 b (Or.inl (Or.inl hb)))
                    have hWc7_2 := hWc7_2.vis (fun b hb => hv7 b (hzc7_2 b hb))
                    have hWc7_3 := hWc7_3.vis (fun b hb => hv7 b (hzc7_3 b hb))
                    have hF := Fine.own hF g7' hBm7 hid7
                    refine ok_if (fun hc65 => ?_) (fun hc65 => ?_)
                    · have h := bif_t h hc65
                      refine ok_need hA_a0 ?_
                      refine ok_need hA_a0 ?_
                      refine ok_put0 (R := RW45) (x' := (q7.1, q7.2.1, (A7_w2, q7.2.2.1.length, c7_w2), (A7_w3, q7.2.2.2.1.length, c7_w3), (IntKind.wrap IntKind.i64 (a1 + ((l2.length : Nat) : Int))), q7.2.2.2.2.2.1, q7.2.2.2.2.2.2)) (vs := [Value.int IntKind.i64 (IntKind.wrap IntKind.i64 (a1 + ((l2.length : Nat) : Int)))]) 4 hWc7 (Nat.le_of_ble_eq_true rfl) rfl (fun _ => rfl) (fun Lt66 wt66 ht66 gst66 hdt66 => ?_)
                      have hWc7_2 := hWc7_2.other djc7_1_0 gst66
                      have hWc7_3 := hWc7_3.other djc7_2_0 gst66
                      have hF := Fine.own hF gst66 hmc7 hdt66
                      have hWc7 := ht66
                      refine ok_need hA_a0 ?_
                      refine ok_need hA_a0 ?_
                      refine ok_put0 (R := RW45) (x' := (q7.1, q7.2.1, (A7_w2, q7.2.2.1.length, c7_w2), (A7_w3, q7.2.2.2.1.length, c7_w3), (IntKind.wrap IntKind.i64 (a1 + ((l2.length : Nat) : Int))), true, q7.2.2.2.2.2.2)) (vs := [Value.bool true]) 5 hWc7 (Nat.le_of_ble_eq_true rfl) rfl (fun _ => rfl) (fun Lt67 wt67 ht67 gst67 hdt67 => ?_)
                      have hWc7_2 := hWc7_2.other djc7_1_0 gst67
                      have hWc7_3 := hWc7_3.other djc7_2_0 gst67
                      have hF := Fine.own hF gst67 hmc7 hdt67
                      have hWc7 := ht67
                      obtain rfl := Option.some.inj h
                      have homes := fun (b : Nat) (h : b < w.heap.size) => h
                      intro ρ L w' _ he _ _
                      exact ⟨A7_w2, c7_w2, A7_w3, c7_w3, rfl, (hF.ext he).with (fun b h => Or.inl h), (hWc7.later he.fine).bare', (hWc7_2.later he.fine).bare', (hWc7_3.later he.fine).bare', djc7_1_0, djc7_2_0, djc7_2_1, hmc7_2, hmc7_3⟩
                    · have h := bif_f h hc65
                      obtain rfl := Option.some.inj h
                      have homes := fun (b : Nat) (h : b < w.heap.size) => h
                      intro ρ L w' _ he _ _
                      exact ⟨A7_w2, c7_w2, A7_w3, c7_w3, rfl, (hF.ext he).with (fun b h => Or.inl h), (hWc7.later he.fine).bare', (hWc7_2.later he.fine).bare', (hWc7_3.later he.fine).bare', djc7_1_0, djc7_2_0, djc7_2_1, hmc7_2, hmc7_3⟩
            · have h := bif_f h hc9
              refine ok_need hA_a0 ?_
              refine ok_need hA_a0 ?_
              refine ok_ob 5 hW0.sl (Fine.refl _ _) (fun cs hcs => ⟨q0.2.2.2.2.2.1, by rw [hcs]; rfl, ?_⟩)
              try dsimp only
              refine ok_if (fun hc68 => ?_) (fun hc68 => ?_)
              · have h := bif_t h hc68
                refine ok_if (fun hc69 => ?_) (fun hc69 => ?_)
                · have h := bif_t h hc69
                  refine ok_need hA_a0 ?_
                  refine ok_need hA_a0 ?_
                  refine ok_ob 4 hW0.sl (Fine.refl _ _) (fun cs hcs => ⟨q0.2.2.2.2.1, by rw [hcs]; rfl, ?_⟩)
                  try dsimp only
                  refine ok_if (fun hc70 => ?_) (fun hc70 => ?_)
                  · have h := bif_t h hc70
                    obtain rfl := Option.some.inj h
                    have homes := fun (b : Nat) (h : b < w.heap.size) => h
                    intro ρ L w' _ he _ _
                    exact ⟨A0_2, c0_2, A0_3, c0_3, rfl, (hF.ext he).with (fun b h => Or.inl h), (hW0.later he.fine).bare', (hW0_2.later he.fine).bare', (hW0_3.later he.fine).bare', dj0_1_0, dj0_2_0, dj0_2_1, hm0_2, hm0_3⟩
                  · have h := bif_f h hc70
                    refine ok_if (fun hc71 => ?_) (fun hc71 => ?_)
                    · have h := bif_t h hc71
                      obtain ⟨v6_0, hr6, h⟩ := Option.bind_eq_some_iff.1 h
                      refine ok_callm rfl (fun L6 w6 g6 lt6 => ?_)
                      refine (reasm_Stream_last.c k _ (some q0) v6_0 hr6  w6 ((obr45 hW0.sl hW0_2.sl hW0_3.sl).later g6).bare).mono ?_
                      rintro e w6' ⟨rfl, hb6⟩
                      refine ⟨(v6_0, ()), rfl, hb6, fun g6' => ?_⟩
                      try dsimp only
                      have hF := hF.trans g6'
                      have hW0 := hW0.later g6'
                      have hW0_2 := hW0_2.later g6'
                      have hW0_3 := hW0_3.later g6'
                      refine ok_if (fun hc72 => ?_) (fun hc72 => ?_)
                      · have h := bif_t h hc72
                        obtain rfl := Option.some.inj h
                        have homes := fun (b : Nat) (h : b < w.heap.size) => h
                        intro ρ L w' _ he _ _
                        exact ⟨A0_2, c0_2, A0_3, c0_3, rfl, (hF.ext he).with (fun b h => Or.inl h), (hW0.later he.fine).bare', (hW0_2.later he.fine).bare', (hW0_3.later he.fine).bare', dj0_1_0, dj0_2_0, dj0_2_1, hm0_2, hm0_3⟩
                      · have h := bif_f h hc72
                        refine ok_need hA_a0 ?_
                        refine ok_need hA_a0 ?_
                        refine ok_ob 1 hW0.sl (Fine.refl _ _) (fun cs hcs => ⟨q0.2.1, by rw [hcs]; rfl, ?_⟩)
                        try dsimp only
                        obtain ⟨hs73, h⟩ := bif_need h
                        have hs73 := of_decide_eq_true hs73
                        have hcap := (hS2.later hF).2.1
                        refine ok_need (by first | exact part3 hs73 hcap | exact part3 hs73 (Nat.le_refl _)) ?_
                        obtain ⟨q8, hr8, h⟩ := Option.bind_eq_some_iff.1 h
                        have hBv8 : ∀ b, (reasm_Stream_put.S a0 A0_2 A0_3) b → ¬ _ ∧ b < _ := fun b hb => by rcases hb with hb | hb | hb; exact ⟨(hW0.lt b hb).2.1, hW0.lt1 b hb⟩; exact ⟨(hW0_2.lt b hb).2.1, hW0_2.lt1 b hb⟩; exact ⟨(hW0_3.lt b hb).2.1, hW0_3.lt1 b hb⟩
                        have hBm8 : ∀ b, (reasm_Stream_put.S a0 A0_2 A0_3) b → (reasm_Stream_Data.S a0 A0_2 A0_3) b ∨ w.heap.size ≤ b := fun b hb => by rcases hb with hb | hb | hb; exact hm0 b hb; exact hm0_2 b hb; exact hm0_3 b hb
                        refine ok_callo (reasm_Stream_put.S a0 A0_2 A0_3) rfl hBv8 (fun L8 w8 g8 lt8 => ?_)
                        refine (reasm_Stream_put.c k _ q0 _ _ _ _ (IntKind.wrap IntKind.i64 (a1 + if ((l2.length : Nat) : Int) < if IntKind.wrap IntKind.i64 (q0.2.1 - a1) < 0 then 0 else IntKind.wrap IntKind.i64 (q0.2.1 - a1) then ((l2.length : Nat) : Int) else if IntKind.wrap IntKind.i64 (q0.2.1 - a1) < 0 then 0 else IntKind.wrap IntKind.i64 (q0.2.1 - a1))) _ _ _ (((l2.drop (Int.toNat (if ((l2.length : Nat) : Int) < if IntKind.wrap IntKind.i64 (q0.2.1 - a1) < 0 then 0 else IntKind.wrap IntKind.i64 (q0.2.1 - a1) then ((l2.length : Nat) : Int) else if IntKind.wrap IntKind.i64 (q0.2.1 - a1) < 0 then 0 else IntKind.wrap IntKind.i64 (q0.2.1 - a1)))).take (Int.toNat (((l2.length : Nat) : Int)) - Int.toNat (if ((l2.length : Nat) : Int) < if IntKind.wrap IntKind.i64 (q0.2.1 - a1) < 0 then 0 else IntKind.wrap IntKind.i64 (q0.2.1 - a1) then ((l2.length : Nat) : Int) else if IntKind.wrap IntKind.i64 (q0.2.1 - a1) < 0 then 0 else IntKind.wrap IntKind.i64 (q0.2.1 - a1))))) q8 hr8 (sub_len hs73.1 hs73.2.1 hs73.2.2) w8 (hW0.later g8).bare' (hW0_2.later g8).bare' (hW0_3.later g8).bare' dj0_1_0 dj0_2_0 dj0_2_1 ((hS2.later ((hF.trans g8).with hBm8)).sub _ _ hs73.1 hs73.2.1 hs73.2.2)).mono ?_
                        rintro e w8' ⟨A8_w2, c8_w2, A8_w3, c8_w3, rfl, hf8, hWc8, hWc8_2, hWc8_3, djc8_1_0, djc8_2_0, djc8_2_1, hzc8_2, hzc8_3⟩
                        refine ⟨(()), rfl, hf8, fun g8' hid8 hv8 => ?_⟩
                        try dsimp only
                        have hmc8 := hm0
                        have hmc8_2 : ∀ b, blk (A8_w2, 0, 0) b → (reasm_Stream_Data.S a0 A0_2 A0_3) b ∨ w.heap.size ≤ b := fun b hb => (hzc8_2 b hb).elim (hBm8 b) (fun h => Or.inr (Nat.le_trans (hF.trans g8).size h))
                        have hmc8_3 : ∀ b, blk (A8_w3, 0, 0) b → (reasm_Stream_Data.S a0 A0_2 A0_3) b ∨ w.heap.size ≤ b := fun b hb => (hzc8_3 b hb).elim (hBm8 b) (fun h => Or.inr (Nat.le_trans (hF.trans g8).size h))
                        have hWc8 := hWc8.vis (fun b hb => hv8 b (Or.inl (Or.inl hb)))
                        have hWc8_2 := hWc8_2.vis (fun b hb => hv8 b (hzc8_2 b hb))
                        have hWc8_3 := hWc8_3.vis (fun b hb => hv8 b (hzc8_3 b hb))
                        have hF := Fine.own hF g8' hBm8 hid8
                        refine ok_if (fun hc78 => ?_) (fun hc78 => ?_)
                        · have h := bif_t h hc78
                          refine ok_need hA_a0 ?_
                          refine ok_need hA_a0 ?_
                          refine ok_put0 (R := RW45) (x' := (q8.1, q8.2.1, (A8_w2, q8.2.2.1.length, c8_w2), (A8_w3, q8.2.2.2.1.length, c8_w3), (IntKind.wrap IntKind.i64 (a1 + ((l2.length : Nat) : Int))), q8.2.2.2.2.2.1, q8.2.2.2.2.2.2)) (vs := [Value.int IntKind.i64 (IntKind.wrap IntKind.i64 (a1 + ((l2.length : Nat) : Int)))]) 4 hWc8 (Nat.le_of_ble_eq_true rfl) rfl (fun _ => rfl) (fun Lt79 wt79 ht79 gst79 hdt79 => ?_)
                          have hWc8_2 := hWc8_2.other djc8_1_0 gst79
                          have hWc8_3 := hWc8_3.other djc8_2_0 gst79
                          have hF := Fine.own hF gst79 hmc8 hdt79
                          have hWc8 := ht79
                          refine ok_need hA_a0 ?_
                          refine ok_need hA_a0 ?_
                          refine ok_put0 (R := RW45) (x' := (q8.1, q8.2.1, (A8_w2, q8.2.2.1.length, c8_w2), (A8_w3, q8.2.2.2.1.length, c8_w3), (IntKind.wrap IntKind.i64 (a1 + ((l2.length : Nat) : Int))), true, q8.2.2.2.2.2.2)) (vs := [Value.bool true]) 5 hWc8 (Nat.le_of_ble_eq_true rfl) rfl (fun _ => rfl) (fun Lt80 wt80 ht80 gst80 hdt80 => ?_)
                          have hWc8_2 := hWc8_2.other djc8_1_0 gst80
                          have hWc8_3 := hWc8_3.other djc8_2_0 gst80
                          have hF := Fine.own hF gst80 hmc8 hdt80
                          have hWc8 := ht80
                          obtain rfl := Option.some.inj h
                          have homes := fun (b : Nat) (h : b < w.heap.size) => h
                          intro ρ L w' _ he _ _
                          exact ⟨A8_w2, c8_w2, A8_w3, c8_w3, rfl, (hF.ext he).with (fun b h => Or.inl h), (hWc8.later he.fine).bare', (hWc8_2.later he.fine).bare', (hWc8_3.later he.fine).bare', djc8_1_0, djc8_2_0, djc8_2_1, hmc8_2, hmc8_3⟩
                        · have h := bif_f h hc78
                          obtain rfl := Option.some.inj h
                          have homes := fun (b : Nat) (h : b < w.heap.size) => h
                          intro ρ L w' _ he _ _
                          exact ⟨A8_w2, c8_w2, A8_w3, c8_w3, rfl, (hF.ext he).with (fun b h => Or.inl h), (hWc8.later he.fine).bare', (hWc8_2.later he.fine).bare', (hWc8_3.later he.fine).bare', djc8_1_0, djc8_2_0, djc8_2_1, hmc8_2, hmc8_3⟩
                    · have h := bif_f h hc71
                      refine ok_need hA_a0 ?_
                      refine ok_need hA_a0 ?_
                      refine ok_ob 1 hW0.sl (Fine.refl _ _) (fun cs hcs => ⟨q0.2.1, by rw [hcs]; rfl, ?_⟩)
                      try dsimp only
                      obtain ⟨hs81, h⟩ := bif_need h
                      have hs81 := of_decide_eq_true hs81
                      have hcap := (hS2.later hF).2.1
                      refine ok_need (by first | exact part3 hs81 hcap | exact part3 hs81 (Nat.le_refl _)) ?_
                      obtain ⟨q7, hr7, h⟩ := Option.bind_eq_some_iff.1 h
                      have hBv7 : ∀ b, (reasm_Stream_put.S a0 A0_2 A0_3) b → ¬ _ ∧ b < _ := fun b hb => by rcases hb with hb | hb | hb; exact ⟨(hW0.lt b hb).2.1, hW0.lt1 b hb⟩; exact ⟨(hW0_2.lt b hb).2.1, hW0_2.lt1 b hb⟩; exact ⟨(hW0_3.lt b hb).2.1, hW0_3.lt1 b hb⟩
                      have hBm7 : ∀ b, (reasm_Stream_put.S a0 A0_2 A0_3) b → (reasm_Stream_Data.S a0 A0_2 A0_3) b ∨ w.heap.size ≤ b := fun b hb => by rcases hb with hb | hb | hb; exact hm0 b hb; exact hm0_2 b hb; exact hm0_3 b hb
                      refine ok_callo (reasm_Stream_put.S a0 A0_2 A0_3) rfl hBv7 (fun L7 w7 g7 lt7 => ?_)
                      refine (reasm_Stream_put.c k _ q0 _ _ _ _ (IntKind.wrap IntKind.i64 (a1 + if ((l2.length : Nat) : Int) < if IntKind.wrap IntKind.i64 (q0.2.1 - a1) < 0 then 0 else IntKind.wrap IntKind.i64 (q0.2.1 - a1) then ((l2.length : Nat) : Int) else if IntKind.wrap IntKind.i64 (q0.2.1 - a1) < 0 then 0 else IntKind.wrap IntKind.i64 (q0.2.1 - a1))) _ _ _ (((l2.drop (Int.toNat (if ((l2.length : Nat) : Int) < if IntKind.wrap IntKind.i64 (q0.2.1 - a1) < 0 then 0 else IntKind.wrap IntKind.i64 (q0.2.1 - a1) then ((l2.length : Nat) : Int) else if IntKind.wrap IntKind.i64 (q0.2.1 - a1) < 0 then 0 else IntKind.wrap IntKind.i64 (q0.2.1 - a1)))).take (Int.toNat (((l2.length : Nat) : Int)) - Int.toNat (if ((l2.length : Nat) : Int) < if IntKind.wrap IntKind.i64 (q0.2.1 - a1) < 0 then 0 else IntKind.wrap IntKind.i64 (q0.2.1 - a1) then ((l2.length : Nat) : Int) else if IntKind.wrap IntKind.i64 (q0.2.1 - a1) < 0 then 0 else IntKind.wrap IntKind.i64 (q0.2.1 - a1))))) q7 hr7 (sub_len hs81.1 hs81.2.1 hs81.2.2) w7 (hW0.later g7).bare' (hW0_2.later g7).bare' (hW0_3.later g7).bare' dj0_1_0 dj0_2_0 dj0_2_1 ((hS2.later ((hF.trans g7).with hBm7)).sub _ _ hs81.1 hs81.2.1 hs81.2.2)).mono ?_
                      rintro e w7' ⟨A7_w2, c7_w2, A7_w3, c7_w3, rfl, hf7, hWc7, hWc7_2, hWc7_3, djc7_1_0, djc7_2_0, djc7_2_1, hzc7_2, hzc7_3⟩
                      refine ⟨(()), rfl, hf7, fun g7' hid7 hv7 => ?_⟩
                      try dsimp only
                      have hmc7 := hm0
                      have hmc7_2 : ∀ b, blk (A7_w2, 0, 0) b → (reasm_Stream_Data.S a0 A0_2 A0_3) b ∨ w.heap.size ≤ b := fun b hb => (hzc7_2 b hb).elim (hBm7 b) (fun h => Or.inr (Nat.le_trans (hF.trans g7).size h))
                      have hmc7_3 : ∀ b, blk (A7_w3, 0, 0) b → (reasm_Stream_Data.S a0 A0_2 A0_3) b ∨ w.heap.size ≤ b := fun b hb => (hzc7_3 b hb).elim (hBm7 b) (fun h => Or.inr (Nat.le_trans (hF.trans g7).size h))
                      have hWc7 := hWc7.vis (fun b hb => hv7 b (Or.inl (Or.inl hb)))
                      have hWc7_2 := hWc7_2.vis (fun b hb => hv7 b (hzc7_2 b hb))
                      have hWc7_3 := hWc7_3.vis (fun b hb => hv7 b (hzc7_3 b hb))
                      have hF := Fine.own hF g7' hBm7 hid7
                      refine ok_if (fun hc86 => ?_) (fun hc86 => ?_)
                      · have h := bif_t h hc86
                        refine ok_need hA_a0 ?_
                        refine ok_need hA_a0 ?_
                        refine ok_put0 (R := RW45) (x' := (q7.1, q7.2.1, (A7_w2, q7.2.2.1.length, c7_w2), (A7_w3, q7.2.2.2.1.length, c7_w3), (IntKind.wrap IntKind.i64 (a1 + ((l2.length : Nat) : Int))), q7.2.2.2.2.2.1, q7.2.2.2.2.2.2)) (vs := [Value.int IntKind.i64 (IntKind.wrap IntKind.i64 (a1 + ((l2.length : Nat) : Int)))]) 4 hWc7 (Nat.le_of_ble_eq_true rfl) rfl (fun _ => rfl) (fun Lt87 wt87 ht87 gst87 hdt87 => ?_)
                        have hWc7_2 := hWc7_2.other djc7_1_0 gst87
                        have hWc7_3 := hWc7_3.other djc7_2_0 gst87
                        have hF := Fine.own hF gst87 hmc7 hdt87
                        have hWc7 := ht87
                        refine ok_need hA_a0 ?_
                        refine ok_need hA_a0 ?_
                        refine ok_put0 (R := RW45) (x' := (q7.1, q7.2.1, (A7_w2, q7.2.2.1.length, c7_w2), (A7_w3, q7.2.2.2.1.length, c7_w3), (IntKind.wrap IntKind.i64 (a1 + ((l2.length : Nat) : Int))), true, q7.2.2.2.2.2.2)) (vs := [Value.bool true]) 5 hWc7 (Nat.le_of_ble_eq_true rfl) rfl (fun _ => rfl) (fun Lt88 wt88 ht88 gst88 hdt88 => ?_)
                        have hWc7_2 := hWc7_2.other djc7_1_0 gst88
                        have hWc7_3 := hWc7_3.other djc7_2_0 gst88
                        have hF := Fine.own hF gst88 hmc7 hdt88
                        have hWc7 := ht88
                        obtain rfl := Option.some.inj h
                        have homes := fun (b : Nat) (h : b < w.heap.size) => h
                        intro ρ L w' _ he _ _
                        exact ⟨A7_w2, c7_w2, A7_w3, c7_w3, rfl, (hF.ext he).with (fun b h => Or.inl h), (hWc7.later he.fine).bare', (hWc7_2.later he.fine).bare', (hWc7_3.later he.fine).bare', djc7_1_0, djc7_2_0, djc7_2_1, hmc7_2, hmc7_3⟩
                      · have h := bif_f h hc86
                        obtain rfl := Option.some.inj h
                        have homes := fun (b : Nat) (h : b < w.heap.size) => h
                        intro ρ L w' _ he _ _
                        exact ⟨A7_w2, c7_w2, A7_w3, c7_w3, rfl, (hF.ext he).with (fun b h => Or.inl h), (hWc7.later he.fine).bare', (hWc7_2.later he.fine).bare', (hWc7_3.later he.fine).bare', djc7_1_0, djc7_2_0, djc7_2_1, hmc7_2, hmc7_3⟩
                · have h := bif_f h hc69
                  refine ok_if (fun hc89 => ?_) (fun hc89 => ?_)
                  · have h := bif_t h hc89
                    obtain ⟨v5_0, hr5, h⟩ := Option.bind_eq_some_iff.1 h
                    refine ok_callm rfl (fun L5 w5 g5 lt5 => ?_)
                    refine (reasm_Stream_last.c k _ (some q0) v5_0 hr5  w5 ((obr45 hW0.sl hW0_2.sl hW0_3.sl).later g5).bare).mono ?_
                    rintro e w5' ⟨rfl, hb5⟩
                    refine ⟨(v5_0, ()), rfl, hb5, fun g5' => ?_⟩
                    try dsimp only
                    have hF := hF.trans g5'
                    have hW0 := hW0.later g5'
                    have hW0_2 := hW0_2.later g5'
                    have hW0_3 := hW0_3.later g5'
                    refine ok_if (fun hc90 => ?_) (fun hc90 => ?_)
                    · have h := bif_t h hc90
                      obtain rfl := Option.some.inj h
                      have homes := fun (b : Nat) (h : b < w.heap.size) => h
                      intro ρ L w' _ he _ _
                      exact ⟨A0_2, c0_2, A0_3, c0_3, rfl, (hF.ext he).with (fun b h => Or.inl h), (hW0.later he.fine).bare', (hW0_2.later he.fine).bare', (hW0_3.later he.fine).bare', dj0_1_0, dj0_2_0, dj0_2_1, hm0_2, hm0_3⟩
                    · have h := bif_f h hc90
                      refine ok_need hA_a0 ?_
                      refine ok_need hA_a0 ?_
                      refine ok_ob 1 hW0.sl (Fine.refl _ _) (fun cs hcs => ⟨q0.2.1, by rw [hcs]; rfl, ?_⟩)
                      try dsimp only
                      obtain ⟨hs91, h⟩ := bif_need h
                      have hs91 := of_decide_eq_true hs91
                      have hcap := (hS2.later hF).2.1
                      refine ok_need (by first | exact part3 hs91 hcap | exact part3 hs91 (Nat.le_refl _)) ?_
                      obtain ⟨q7, hr7, h⟩ := Option.bind_eq_some_iff.1 h
                      have hBv7 : ∀ b, (reasm_Stream_put.S a0 A0_2 A0_3) b → ¬ _ ∧ b < _ := fun b hb => by rcases hb with hb | hb | hb; exact ⟨(hW0.lt b hb).2.1, hW0.lt1 b hb⟩; exact ⟨(hW0_2.lt b hb).2.1, hW0_2.lt1 b hb⟩; exact ⟨(hW0_3.lt b hb).2.1, hW0_3.lt1 b hb⟩
                      have hBm7 : ∀ b, (reasm_Stream_put.S a0 A0_2 A0_3) b → (reasm_Stream_Data.S a0 A0_2 A0_3) b ∨ w.heap.size ≤ b := fun b hb => by rcases hb with hb | hb | hb; exact hm0 b hb; exact hm0_2 b hb; exact hm0_3 b hb
                      refine ok_callo (reasm_Stream_put.S a0 A0_2 A0_3) rfl hBv7 (fun L7 w7 g7 lt7 => ?_)
                      refine (reasm_Stream_put.c k _ q0 _ _ _ _ (IntKind.wrap IntKind.i64 (a1 + if ((l2.length : Nat) : Int) < if IntKind.wrap IntKind.i64 (q0.2.1 - a1) < 0 then 0 else IntKind.wrap IntKind.i64 (q0.2.1 - a1) then ((l2.length : Nat) : Int) else if IntKind.wrap IntKind.i64 (q0.2.1 - a1) < 0 then 0 else IntKind.wrap IntKind.i64 (q0.2.1 - a1))) _ _ _ (((l2.drop (Int.toNat (if ((l2.length : Nat) : Int) < if IntKind.wrap IntKind.i64 (q0.2.1 - a1) < 0 then 0 else IntKind.wrap IntKind.i64 (q0.2.1 - a1) then ((l2.length : Nat) : Int) else if IntKind.wrap IntKind.i64 (q0.2.1 - a1) < 0 then 0 else IntKind.wrap IntKind.i64 (q0.2.1 - a1)))).take (Int.toNat (((l2.length : Nat) : Int)) - Int.toNat (if ((l2.length : Nat) : Int) < if IntKind.wrap IntKind.i64 (q0.2.1 - a1) < 0 then 0 else IntKind.wrap IntKind.i64 (q0.2.1 - a1) then ((l2.length : Nat) : Int) else if IntKind.wrap IntKind.i64 (q0.2.1 - a1) < 0 then 0 else IntKind.wrap IntKind.i64 (q0.2.1 - a1))))) q7 hr7 (sub_len hs91.1 hs91.2.1 hs91.2.2) w7 (hW0.later g7).bare' (hW0_2.later g7).bare' (hW0_3.later g7).bare' dj0_1_0 dj0_2_0 dj0_2_1 ((hS2.later ((hF.trans g7).with hBm7)).sub _ _ hs91.1 hs91.2.1 hs91.2.2)).mono ?_
                      rintro e w7' ⟨A7_w2, c7_w2, A7_w3, c7_w3, rfl, hf7, hWc7, hWc7_2, hWc7_3, djc7_1_0, djc7_2_0, djc7_2_1, hzc7_2, hzc7_3⟩
                      refine ⟨(()), rfl, hf7, fun g7' hid7 hv7 => ?_⟩
                      try dsimp only
                      have hmc7 := hm0
                      have hmc7_2 : ∀ b, blk (A7_w2, 0, 0) b → (reasm_Stream_Data.S a0 A0_2 A0_3) b ∨ w.heap.size ≤ b := fun b hb => (hzc7_2 b hb).elim (hBm7 b) (fun h => Or.inr (Nat.le_trans (hF.trans g7).size h))
                      have hmc7_3 : ∀ b, blk (A7_w3, 0, 0) b → (reasm_Stream_Data.S a0 A0_2 A0_3) b ∨ w.heap.size ≤ b := fun b hb => (hzc7_3 b hb).elim (hBm7 b) (fun h => Or.inr (Nat.le_trans (hF.trans g7).size h))
                      have hWc7 := hWc7.vis (fun b hb => hv7 b (Or.inl (Or.inl hb)))
                      have hWc7_2 := hWc7_2.vis (fun b hb => hv7 b (hzc7_2 b hb))
                      have hWc7_3 := hWc7_3.vis (fun b hb => hv7 b (hzc7_3 b hb))
                      have hF := Fine.own hF g7' hBm7 hid7
                      refine ok_if (fun hc96 => ?_) (fun hc96 => ?_)
                      · have h := bif_t h hc96
                        refine ok_need hA_a0 ?_
                        refine ok_need hA_a0 ?_
                        refine ok_put0 (R := RW45) (x' := (q7.1, q7.2.1, (A7_w2, q7.2.2.1.length, c7_w2), (A7_w3, q7.2.2.2.1.length, c7_w3), (IntKind.wrap IntKind.i64 (a1 + ((l2.length : Nat) : Int))), q7.2.2.2.2.2.1, q7.2.2.2.2.2.2)) (vs := [Value.int IntKind.i64 (IntKind.wrap IntKind.i64 (a1 + ((l2.length : Nat) : Int)))]) 4 hWc7 (Nat.le_of_ble_eq_true rfl) rfl (fun _ => rfl) (fun Lt97 wt97 ht97 gst97 hdt97 => ?_)
                        have hWc7_2 := hWc7_2.other djc7_1_0 gst97
                        have hWc7_3 := hWc7_3.other djc7_2_0 gst97
                        have hF := Fine.own hF gst97 hmc7 hdt97
                        have hWc7 := ht97
                        refine ok_need hA_a0 ?_
                        refine ok_need hA_a0 ?_
                        refine ok_put0 (R := RW45) (x' := (q7.1, q7.2.1, (A7_w2, q7.2.2.1.length, c7_w2), (A7_w3, q7.2.2.2.1.length, c7_w3), (IntKind.wrap IntKind.i64 (a1 + ((l2.length : Nat) : Int))), true, q7.2.2.2.2.2.2)) (vs := [Value.bool true]) 5 hWc7 (Nat.le_of_ble_eq_true rfl) rfl (fun _ => rfl) (fun Lt98 wt98 ht98 gst98 hdt98 => ?_)
                        have hWc7_2 := hWc7_2.other djc7_1_0 gst98
                        have hWc7_3 := hWc7_3.other djc7_2_0 gst98
                        have hF := Fine.own hF gst98 hmc7 hdt98
                        have hWc7 := ht98
                        obtain rfl := Option.some.inj h
                        have homes := fun (b : Nat) (h : b < w.heap.size) => h
                        intro ρ L w' _ he _ _
                        exact ⟨A7_w2, c7_w2, A7_w3, c7_w3, rfl, (hF.ext he).with (fun b h => Or.inl h), (hWc7.later he.fine).bare', (hWc7_2.later he.fine).bare', (hWc7_3.later he.fine).bare', djc7_1_0, djc7_2_0, djc7_2_1, hmc7_2, hmc7_3⟩
                      · have h := bif_f h hc96
                        obtain rfl := Option.some.inj h
                        have homes := fun (b : Nat) (h : b < w.heap.size) => h
                        intro ρ L w' _ he _ _
                        exact ⟨A7_w2, c7_w2, A7_w3, c7_w3, rfl, (hF.ext he).with (fun b h => Or.inl h), (hWc7.later he.fine).bare', (hWc7_2.later he.fine).bare', (hWc7_3.later he.fine).bare', djc7_1_0, djc7_2_0, djc7_2_1, hmc7_2, hmc7_3⟩
                  · have h := bif_f h hc89
                    refine ok_need hA_a0 ?_
                    refine ok_need hA_a0 ?_
                    refine ok_ob 1 hW0.sl (Fine.refl _ _) (fun cs hcs => ⟨q0.2.1, by rw [hcs]; rfl, ?_⟩)
                    try dsimp only
                    obtain ⟨hs99, h⟩ := bif_need h
                    have hs99 := of_decide_eq_true hs99
                    have hcap := (hS2.later hF).2.1
                    refine ok_need (by first | exact part3 hs99 hcap | exact part3 hs99 (Nat.le_refl _)) ?_
                    obtain ⟨q6, hr6, h⟩ := Option.bind_eq_some_iff.1 h
                    have hBv6 : ∀ b, (reasm_Stream_put.S a0 A0_2 A0_3) b → ¬ _ ∧ b < _ := fun b hb => by rcases hb with hb | hb | hb; exact ⟨(hW0.lt b hb).2.1, hW0.lt1 b hb⟩; exact ⟨(hW0_2.lt b hb).2.1, hW0_2.lt1 b hb⟩; exact ⟨(hW0_3.lt b hb).2.1, hW0_3.lt1 b hb⟩
                    have hBm6 : ∀ b, (reasm_Stream_put.S a0 A0_2 A0_3) b → (reasm_Stream_Data.S a0 A0_2 A0_3) b ∨ w.heap.size ≤ b := fun b hb => by rcases hb with hb | hb | hb; exact hm0 b hb; exact hm0_2 b hb; exact hm0_3 b hb
                    refine ok_callo (reasm_Stream_put.S a0 A0_2 A0_3) rfl hBv6 (fun L6 w6 g6 lt6 => ?_)
                    refine (reasm_Stream_put.c k _ q0 _ _ _ _ (IntKind.wrap IntKind.i64 (a1 + if ((l2.length : Nat) : Int) < if IntKind.wrap IntKind.i64 (q0.2.1 - a1) < 0 then 0 else IntKind.wrap IntKind.i64 (q0.2.1 - a1) then ((l2.length : Nat) : Int) else if IntKind.wrap IntKind.i64 (q0.2.1 - a1) < 0 then 0 else IntKind.wrap IntKind.i64 (q0.2.1 - a1))) _ _ _ (((l2.drop (Int.toNat (if ((l2.length : Nat) : Int) < if IntKind.wrap IntKind.i64 (q0.2.1 - a1) < 0 then 0 else IntKind.wrap IntKind.i64 (q0.2.1 - a1) then ((l2.length : Nat) : Int) else if IntKind.wrap IntKind.i64 (q0.2.1 - a1) < 0 then 0 else IntKind.wrap IntKind.i64 (q0.2.1 - a1)))).take (Int.toNat (((l2.length : Nat) : Int)) - Int.toNat (if ((l2.length : Nat) : Int) < if IntKind.wrap IntKind.i64 (q0.2.1 - a1) < 0 then 0 else IntKind.wrap IntKind.i64 (q0.2.1 - a1) then ((l2.length : Nat) : Int) else if IntKind.wrap IntKind.i64 (q0.2.1 - a1) < 0 then 0 else IntKind.wrap IntKind.i64 (q0.2.1 - a1))))) q6 hr6 (sub_len hs99.1 hs99.2.1 hs99.2.2) w6 (hW0.later g6).bare' (hW0_2.later g6).bare' (hW0_3.later g6).bare' dj0_1_0 dj0_2_0 dj0_2_1 ((hS2.later ((hF.trans g6).with hBm6)).sub _ _ hs99.1 hs99.2.1 hs99.2.2)).mono ?_
                    rintro e w6' ⟨A6_w2, c6_w2, A6_w3, c6_w3, rfl, hf6, hWc6, hWc6_2, hWc6_3, djc6_1_0, djc6_2_0, djc6_2_1, hzc6_2, hzc6_3⟩
                    refine ⟨(()), rfl, hf6, fun g6' hid6 hv6 => ?_⟩
                    try dsimp only
                    have hmc6 := hm0
                    have hmc6_2 : ∀ b, blk (A6_w2, 0, 0) b → (reasm_Stream_Data.S a0 A0_2 A0_3) b ∨ w.heap.size ≤ b := fun b hb => (hzc6_2 b hb).elim (hBm6 b) (fun h => Or.inr (Nat.le_trans (hF.trans g6).size h))
                    have hmc6_3 : ∀ b, blk (A6_w3, 0, 0) b → (reasm_Stream_Data.S a0 A0_2 A0_3) b ∨ w.heap.size ≤ b := fun b hb => (hzc6_3 b hb).elim (hBm6 b) (fun h => Or.inr (Nat.le_trans (hF.trans g6).size h))
                    have hWc6 := hWc6.vis (fun b hb => hv6 b (Or.inl (Or.inl hb)))
                    have hWc6_2 := hWc6_2.vis (fun b hb => hv6 b (hzc6_2 b hb))
                    have hWc6_3 := hWc6_3.vis (fun b hb => hv6 b (hzc6_3 b hb))
                    have hF := Fine.own hF g6' hBm6 hid6
                    refine ok_if (fun hc104 => ?_) (fun hc104 => ?_)
                    · have h := bif_t h hc104
                      refine ok_need hA_a0 ?_
                      refine ok_need hA_a0 ?_
                      refine ok_put0 (R := RW45) (x' := (q6.1, q6.2.1, (A6_w2, q6.2.2.1.length, c6_w2), (A6_w3, q6.2.2.2.1.length, c6_w3), (IntKind.wrap IntKind.i64 (a1 + ((l2.length : Nat) : Int))), q6.2.2.2.2.2.1, q6.2.2.2.2.2.2)) (vs := [Value.int IntKind.i64 (IntKind.wrap IntKind.i64 (a1 + ((l2.length : Nat) : Int)))]) 4 hWc6 (Nat.le_of_ble_eq_true rfl) rfl (fun _ => rfl) (fun Lt105 wt105 ht105 gst105 hdt105 => ?_)
                      have hWc6_2 := hWc6_2.other djc6_1_0 gst105
                      have hWc6_3 := hWc6_3.other djc6_2_0 gst105
                      have hF := Fine.own hF gst105 hmc6 hdt105
                      have hWc6 := ht105
                      refine ok_need hA_a0 ?_
                      refine ok_need hA_a0 ?_
                      refine ok_put0 (R := RW45) (x' := (q6.1, q6.2.1, (A6_w2, q6.2.2.1.length, c6_w2), (A6_w3, q6.2.2.2.1.length, c6_w3), (IntKind.wrap IntKind.i64 (a1 + ((l2.length : Nat) : Int))), true, q6.2.2.2.2.2.2)) (vs := [Value.bool true]) 5 hWc6 (Nat.le_of_ble_eq_true rfl) rfl (fun _ => rfl) (fun Lt106 wt106 ht106 gst106 hdt106 => ?_)
                      have hWc6_2 := hWc6_2.other djc6_1_0 gst106
                      have hWc6_3 := hWc6_3.other djc6_2_0 gst106
                      have hF := Fine.own hF gst106 hmc6 hdt106
                      have hWc6 := ht106
                      obtain rfl := Option.some.inj h
                      have homes := fun (b : Nat) (h : b < w.heap.size) => h
                      intro ρ L w' _ he _ _
                      exact ⟨A6_w2, c6_w2, A6_w3, c6_w3, rfl, (hF.ext he).with (fun b h => Or.inl h), (hWc6.later he.fine).bare', (hWc6_2.later he.fine).bare', (hWc6_3.later he.fine).bare', djc6_1_0, djc6_2_0, djc6_2_1, hmc6_2, hmc6_3⟩
                    · have h := bif_f h hc104
                      obtain rfl := Option.some.inj h
                      have homes := fun (b : Nat) (h : b < w.heap.size) => h
                      intro ρ L w' _ he _ _
                      exact ⟨A6_w2, c6_w2, A6_w3, c6_w3, rfl, (hF.ext he).with (fun b h => Or.inl h), (hWc6.later he.fine).bare', (hWc6_2.later he.fine).bare', (hWc6_3.later he.fine).bare', djc6_1_0, djc6_2_0, djc6_2_1, hmc6_2, hmc6_3⟩
              · have h := bif_f h hc68
                refine ok_if (fun hc107 => ?_) (fun hc107 => ?_)
                · have h := bif_t h hc107
                  obtain ⟨v5_0, hr5, h⟩ := Option.bind_eq_some_iff.1 h
                  refine ok_callm rfl (fun L5 w5 g5 lt5 => ?_)
                  refine (reasm_Stream_last.c k _ (some q0) v5_0 hr5  w5 ((obr45 hW0.sl hW0_2.sl hW0_3.sl).later g5).bare).mono ?_
                  rintro e w5' ⟨rfl, hb5⟩
                  refine ⟨(v5_0, ()), rfl, hb5, fun g5' => ?_⟩
                  try dsimp only
                  have hF := hF.trans g5'
                  have hW0 := hW0.later g5'
                  have hW0_2 := hW0_2.later g5'
                  have hW0_3 := hW0_3.later g5'
                  refine ok_if (fun hc108 => ?_) (fun hc108 => ?_)
                  · have h := bif_t h hc108
                    obtain rfl := Option.some.inj h
                    have homes := fun (b : Nat) (h : b < w.heap.size) => h
                    intro ρ L w' _ he _ _
                    exact ⟨A0_2, c0_2, A0_3, c0_3, rfl, (hF.ext he).with (fun b h => Or.inl h), (hW0.later he.fine).bare', (hW0_2.later he.fine).bare', (hW0_3.later he.fine).bare', dj0_1_0, dj0_2_0, dj0_2_1, hm0_2, hm0_3⟩
                  · have h := bif_f h hc108
                    refine ok_need hA_a0 ?_
                    refine ok_need hA_a0 ?_
                    refine ok_ob 1 hW0.sl (Fine.refl _ _) (fun cs hcs => ⟨q0.2.1, by rw [hcs]; rfl, ?_⟩)
                    try dsimp only
                    obtain ⟨hs109, h⟩ := bif_need h
                    have hs109 := of_decide_eq_true hs109
                    have hcap := (hS2.later hF).2.1
                    refine ok_need (by first | exact part3 hs109 hcap | exact part3 hs109 (Nat.le_refl _)) ?_
                    obtain ⟨q7, hr7, h⟩ := Option.bind_eq_some_iff.1 h
                    have hBv7 : ∀ b, (reasm_Stream_put.S a0 A0_2 A0_3) b → ¬ _ ∧ b < _ := fun b hb => by rcases hb with hb | hb | hb; exact ⟨(hW0.lt b hb).2.1, hW0.lt1 b hb⟩; exact ⟨(hW0_2.lt b hb).2.1, hW0_2.lt1 b hb⟩; exact ⟨(hW0_3.lt b hb).2.1, hW0_3.lt1 b hb⟩
                    have hBm7 : ∀ b, (reasm_Stream_put.S a0 A0_2 A0_3) b → (reasm_Stream_Data.S a0 A0_2 A0_3) b ∨ w.heap.size ≤ b := fun b hb => by rcases hb with hb | hb | hb; exact hm0 b hb; exact hm0_2 b hb; exact hm0_3 b hb
                    refine ok_callo (reasm_Stream_put.S a0 A0_2 A0_3) rfl hBv7 (fun L7 w7 g7 lt7 => ?_)
                    refine (reasm_Stream_put.c k _ q0 _ _ _ _ (IntKind.wrap IntKind.i64 (a1 + if ((l2.length : Nat) : Int) < if IntKind.wrap IntKind.i64 (q0.2.1 - a1) < 0 then 0 else IntKind.wrap IntKind.i64 (q0.2.1 - a1) then ((l2.length : Nat) : Int) else if IntKind.wrap IntKind.i64 (q0.2.1 - a1) < 0 then 0 else IntKind.wrap IntKind.i64 (q0.2.1 - a1))) _ _ _ (((l2.drop (Int.toNat (if ((l2.length : Nat) : Int) < if IntKind.wrap IntKind.i64 (q0.2.1 - a1) < 0 then 0 else IntKind.wrap IntKind.i64 (q0.2.1 - a1) then ((l2.length : Nat) : Int) else if IntKind.wrap IntKind.i64 (q0.2.1 - a1) < 0 then 0 else IntKind.wrap IntKind.i64 (q0.2.1 - a1)))).take (Int.toNat (((l2.length : Nat) : Int)) - Int.toNat (if ((l2.length : Nat) : Int) < if IntKind.wrap IntKind.i64 (q0.2.1 - a1) < 0 then 0 else IntKind.wrap IntKind.i64 (q0.2.1 - a1) then ((l2.length : Nat) : Int) else if IntKind.wrap IntKind.i64 (q0.2.1 - a1) < 0 then 0 else IntKind.wrap IntKind.i64 (q0.2.1 - a1))))) q7 hr7 (sub_len hs109.1 hs109.2.1 hs109.2.2) w7 (hW0.later g7).bare' (hW0_2.later g7).bare' (hW0_3.later g7).bare' dj0_1_0 dj0_2_0 dj0_2_1 ((hS2.later ((hF.trans g7).with hBm7)).sub _ _ hs109.1 hs109.2.1 hs109.2.2)).mono ?_
                    rintro e w7' ⟨A7_w2, c7_w2, A7_w3, c7_w3, rfl, hf7, hWc7, hWc7_2, hWc7_3, djc7_1_0, djc7_2_0, djc7_2_1, hzc7_2, hzc7_3⟩
                    refine ⟨(()), rfl, hf7, fun g7' hid7 hv7 => ?_⟩
                    try dsimp only
                    have hmc7 := hm0
                    have hmc7_2 : ∀ b, blk (A7_w2, 0, 0) b → (reasm_Stream_Data.S a0 A0_2 A0_3) b ∨ w.heap.size ≤ b := fun b hb => (hzc7_2 b hb).elim (hBm7 b) (fun h => Or.inr (Nat.le_trans (hF.trans g7).size h))
                    have hmc7_3 : ∀ b, blk (A7_w3, 0, 0) b → (reasm_Stream_Data.S a0 A0_2 A0_3) b ∨ w.heap.size ≤ b := fun b hb => (hzc7_3 b hb).elim (hBm7 b) (fun h => Or.inr (Nat.le_trans (hF.trans g7).size h))
                    have hWc7 := hWc7.vis (fun b hb => hv7 b (Or.inl (Or.inl hb)))
                    have hWc7_2 := hWc7_2.vis (fun b hb => hv7 b (hzc7_2 b hb))
                    have hWc7_3 := hWc7_3.vis (fun b hb => hv7 b (hzc7_3 b hb))
                    have hF := Fine.own hF g7' hBm7 hid7
                    refine ok_if (fun hc114 => ?_) (fun hc114 => ?_)
                    · have h := bif_t h hc114
                      refine ok_need hA_a0 ?_
                      refine ok_need hA_a0 ?_
                      refine ok_put0 (R := RW45) (x' := (q7.1, q7.2.1, (A7_w2, q7.2.2.1.length, c7_w2), (A7_w3, q7.2.2.2.1.length, c7_w3), (IntKind.wrap IntKind.i64 (a1 + ((l2.length : Nat) : Int))), q7.2.2.2.2.2.1, q7.2.2.2.2.2.2)) (vs := [Value.int IntKind.i64 (IntKind.wrap IntKind.i64 (a1 + ((l2.length : Nat) : Int)))]) 4 hWc7 (Nat.le_of_ble_eq_true rfl) rfl (fun _ => rfl) (fun Lt115 wt115 ht115 gst115 hdt115 => ?_)
                      have hWc7_2 := hWc7_2.other djc7_1_0 gst115
                      have hWc7_3 := hWc7_3.other djc7_2_0 gst115
                      have hF := Fine.own hF gst115 hmc7 hdt115
                      have hWc7 := ht115
                      refine ok_need hA_a0 ?_
                      refine ok_need hA_a0 ?_
                      refine ok_put0 (R := RW45) (x' := (q7.1, q7.2.1, (A7_w2, q7.2.2.1.length, c7_w2), (A7_w3, q7.2.2.2.1.length, c7_w3), (IntKind.wrap IntKind.i64 (a1 + ((l2.length : Nat) : Int))), true, q7.2.2.2.2.2.2)) (vs := [Value.bool true]) 5 hWc7 (Nat.le_of_ble_eq_true rfl) rfl (fun _ => rfl) (fun Lt116 wt116 ht116 gst116 hdt116 => ?_)
                      have hWc7_2 := hWc7_2.other djc7_1_0 gst116
                      have hWc7_3 := hWc7_3.other djc7_2_0 gst116
                      have hF := Fine.own hF gst116 hmc7 hdt116
                      have hWc7 := ht116
                      obtain rfl := Option.some.inj h
                      have homes := fun (b : Nat) (h : b < w.heap.size) => h
                      intro ρ L w' _ he _ _
                      exact ⟨A7_w2, c7_w2, A7_w3, c7_w3, rfl, (hF.ext he).with (fun b h => Or.inl h), (hWc7.later he.fine).bare', (hWc7_2.later he.fine).bare', (hWc7_3.later he.fine).bare', djc7_1_0, djc7_2_0, djc7_2_1, hmc7_2, hmc7_3⟩
                    · have h := bif_f h hc114
                      obtain rfl := Option.some.inj h
                      have homes := fun (b : Nat) (h : b < w.heap.size) => h
                      intro ρ L w' _ he _ _
                      exact ⟨A7_w2, c7_w2, A7_w3, c7_w3, rfl, (hF.ext he).with (fun b h => Or.inl h), (hWc7.later he.fine).bare', (hWc7_2.later he.fine).bare', (hWc7_3.later he.fine).bare', djc7_1_0, djc7_2_0, djc7_2_1, hmc7_2, hmc7_3⟩
                · have h := bif_f h hc107
                  refine ok_need hA_a0 ?_
                  refine ok_need hA_a0 ?_
                  refine ok_ob 1 hW0.sl (Fine.refl _ _) (fun cs hcs => ⟨q0.2.1, by rw [hcs]; rfl, ?_⟩)
                  try dsimp only
                  obtain ⟨hs117, h⟩ := bif_need h
                  have hs117 := of_decide_eq_true hs117
                  have hcap := (hS2.later hF).2.1
                  refine ok_need (by first | exact part3 hs117 hcap | exact part3 hs117 (Nat.le_refl _)) ?_
                  obtain ⟨q6, hr6, h⟩ := Option.bind_eq_some_iff.1 h
                  have hBv6 : ∀ b, (reasm_Stream_put.S a0 A0_2 A0_3) b → ¬ _ ∧ b < _ := fun b hb => by rcases hb with hb | hb | hb; exact ⟨(hW0.lt b hb).2.1, hW0.lt1 b hb⟩; exact ⟨(hW0_2.lt b hb).2.1, hW0_2.lt1 b hb⟩; exact ⟨(hW0_3.lt b hb).2.1, hW0_3.lt1 b hb⟩
                  have hBm6 : ∀ b, (reasm_Stream_put.S a0 A0_2 A0_3) b → (reasm_Stream_Data.S a0 A0_2 A0_3) b ∨ w.heap.size ≤ b := fun b hb => by rcases hb with hb | hb | hb; exact hm0 b hb; exact hm0_2 b hb; exact hm0_3 b hb
                  refine ok_callo (reasm_Stream_put.S a0 A0_2 A0_3) rfl hBv6 (fun L6 w6 g6 lt6 => ?_)
                  refine (reasm_Stream_put.c k _ q0 _ _ _ _ (IntKind.wrap IntKind.i64 (a1 + if ((l2.length : Nat) : Int) < if IntKind.wrap IntKind.i64 (q0.2.1 - a1) < 0 then 0 else IntKind.wrap IntKind.i64 (q0.2.1 - a1) then ((l2.length : Nat) : Int) else if IntKind.wrap IntKind.i64 (q0.2.1 - a1) < 0 then 0 else IntKind.wrap IntKind.i64 (q0.2.1 - a1))) _ _ _ (((l2.drop (Int.toNat (if ((l2.length : Nat) : Int) < if IntKind.wrap IntKind.i64 (q0.2.1 - a1) < 0 then 0 else IntKind.wrap IntKind.i64 (q0.2.1 - a1) then ((l2.length : Nat) : Int) else if IntKind.wrap IntKind.i64 (q0.2.1 - a1) < 0 then 0 else IntKind.wrap IntKind.i64 (q0.2.1 - a1)))).take (Int.toNat (((l2.length : Nat) : Int)) - Int.toNat (if ((l2.length : Nat) : Int) < if IntKind.wrap IntKind.i64 (q0.2.1 - a1) < 0 then 0 else IntKind.wrap IntKind.i64 (q0.2.1 - a1) then ((l2.length : Nat) : Int) else if IntKind.wrap IntKind.i64 (q0.2.1 - a1) < 0 then 0 else IntKind.wrap IntKind.i64 (q0.2.1 - a1))))) q6 hr6 (sub_len hs117.1 hs117.2.1 hs117.2.2) w6 (hW0.later g6).bare' (hW0_2.later g6).bare' (hW0_3.later g6).bare' dj0_1_0 dj0_2_0 dj0_2_1 ((hS2.later ((hF.trans g6).with hBm6)).sub _ _ hs117.1 hs117.2.1 hs117.2.2)).mono ?_
                  rintro e w6' ⟨A6_w2, c6_w2, A6_w3, c6_w3, rfl, hf6, hWc6, hWc6_2, hWc6_3, djc6_1_0, djc6_2_0, djc6_2_1, hzc6_2, hzc6_3⟩
                  refine ⟨(()), rfl, hf6, fun g6' hid6 hv6 => ?_⟩
                  try dsimp only
                  have hmc6 := hm0
                  have hmc6_2 : ∀ b, blk (A6_w2, 0, 0) b → (reasm_Stream_Data.S a0 A0_2 A0_3) b ∨ w.heap.size ≤ b := fun b hb => (hzc6_2 b hb).elim (hBm6 b) (fun h => Or.inr (Nat.le_trans (hF.trans g6).size h))
                  have hmc6_3 : ∀ b, blk (A6_w3, 0, 0) b → (reasm_Stream_Data.S a0 A0_2 A0_3) b ∨ w.heap.size ≤ b := fun b hb => (hzc6_3 b hb).elim (hBm6 b) (fun h => Or.inr (Nat.le_trans (hF.trans g6).size h))
                  have hWc6 := hWc6.vis (fun b hb => hv6 b (Or.inl (Or.inl hb)))
                  have hWc6_2 := hWc6_2.vis (fun b hb => hv6 b (hzc6_2 b hb))
                  have hWc6_3 := hWc6_3.vis (fun b hb => hv6 b (hzc6_3 b hb))
                  have hF := Fine.own hF g6' hBm6 hid6
                  refine ok_if (fun hc122 => ?_) (fun hc122 => ?_)
                  · have h := bif_t h hc122
                    refine ok_need hA_a0 ?_
                    refine ok_need hA_a0 ?_
                    refine ok_put0 (R := RW45) (x' := (q6.1, q6.2.1, (A6_w2, q6.2.2.1.length, c6_w2), (A6_w3, q6.2.2.2.1.length, c6_w3), (IntKind.wrap IntKind.i64 (a1 + ((l2.length : Nat) : Int))), q6.2.2.2.2.2.1, q6.2.2.2.2.2.2)) (vs := [Value.int IntKind.i64 (IntKind.wrap IntKind.i64 (a1 + ((l2.length : Nat) : Int)))]) 4 hWc6 (Nat.le_of_ble_eq_true rfl) rfl (fun _ => rfl) (fun Lt123 wt123 ht123 gst123 hdt123 => ?_)
                    have hWc6_2 := hWc6_2.other djc6_1_0 gst123
                    have hWc6_3 := hWc6_3.other djc6_2_0 gst123
                    have hF := Fine.own hF gst123 hmc6 hdt123
                    have hWc6 := ht123
                    refine ok_need hA_a0 ?_
                    refine ok_need hA_a0 ?_
                    refine ok_put0 (R := RW45) (x' := (q6.1, q6.2.1, (A6_w2, q6.2.2.1.length, c6_w2), (A6_w3, q6.2.2.2.1.length, c6_w3), (IntKind.wrap IntKind.i64 (a1 + ((l2.length : Nat) : Int))), true, q6.2.2.2.2.2.2)) (vs := [Value.bool true]) 5 hWc6 (Nat.le_of_ble_eq_true rfl) rfl (fun _ => rfl) (fun Lt124 wt124 ht124 gst124 hdt124 => ?_)
                    have hWc6_2 := hWc6_2.other djc6_1_0 gst124
                    have hWc6_3 := hWc6_3.other djc6_2_0 gst124
                    have hF := Fine.own hF gst124 hmc6 hdt124
                    have hWc6 := ht124
                    obtain rfl := Option.some.inj h
                    have homes := fun (b : Nat) (h : b < w.heap.size) => h
                    intro ρ L w' _ he _ _
                    exact ⟨A6_w2, c6_w2, A6_w3, c6_w3, rfl, (hF.ext he).with (fun b h => Or.inl h), (hWc6.later he.fine).bare', (hWc6_2.later he.fine).bare', (hWc6_3.later he.fine).bare', djc6_1_0, djc6_2_0, djc6_2_1, hmc6_2, hmc6_3⟩
                  · have h := bif_f h hc122
                    obtain rfl := Option.some.inj h
                    have homes := fun (b : Nat) (h : b < w.heap.size) => h
                    intro ρ L w' _ he _ _
                    exact ⟨A6_w2, c6_w2, A6_w3, c6_w3, rfl, (hF.ext he).with (fun b h => Or.inl h), (hWc6.later he.fine).bare', (hWc6_2.later he.fine).bare', (hWc6_3.later he.fine).bare', djc6_1_0, djc6_2_0, djc6_2_1, hmc6_2, hmc6_3⟩
  · have h := bif_f h hc4
    obtain rfl := Option.some.inj h
    have homes := fun (b : Nat) (h : b < w.heap.size) => h
    intro ρ L w' _ he _ _
    exact ⟨A0_2, c0_2, A0_3, c0_3, rfl, (hF.ext he).with (fun b h => Or.inl h), (hW0.later he.fine).bare', (hW0_2.later he.fine).bare', (hW0_3.later he.fine).bare', dj0_1_0, dj0_2_0, dj0_2_1, hm0_2, hm0_3⟩
set_option maxHeartbeats 4000000 in
theorem reasm_Stream_Reset.c (k : Nat) (a0 : Option Addr) (q0 : Int × Int × (List Int) × (List (Int × Int)) × Int × Bool × Bool) (A0_2 : Option Addr) (c0_2 : Nat) (A0_3 : Option Addr) (c0_3 : Nat) (a1 : Int) (r : Int × (Int × Int × (List Int) × (List (Int × Int)) × Int × Bool × Bool)) (h : reasm_Stream_Reset.F k q0 a1 = some r)  (w : World) (hW0 : OwnO 0 (fun _ => False) w 45 RW45 a0 1 [(q0.1, q0.2.1, (A0_2, q0.2.2.1.length, c0_2), (A0_3, q0.2.2.2.1.length, c0_3), q0.2.2.2.2.1, q0.2.2.2.2.2.1, q0.2.2.2.2.2.2)]) (hW0_2 : OwnO 0 (fun _ => False) w 5 R22 A0_2 c0_2 q0.2.2.1) (hW0_3 : OwnO 0 (fun _ => False) w 51 R43 A0_3 c0_3 q0.2.2.2.1) (dj0_1_0 : Dj A0_2 a0) (dj0_2_0 : Dj A0_3 a0) (dj0_2_1 : Dj A0_3 A0_2) : Calls Try.prog 17 (AV.gs id [AV.v (Value.pointer a0), AV.v (Value.int IntKind.i64 a1)]).toArray w fun e w' => ∃ (P2 : Option Addr) (p2 : Nat) (P3 : Option Addr) (p3 : Nat), e = .returned (((Sh.one : Sh).av (vs [Lf.i IntKind.i64] (r.1, ()))).g id) ∧ Fine (reasm_Stream_Reset.S a0 A0_2 A0_3) w (reasm_Stream_Reset.S a0 A0_2 A0_3) w' ∧ OwnO 0 (fun _ => False) w' 45 RW45 a0 1 [(r.2.1, r.2.2.1, (P2, r.2.2.2.1.length, p2), (P3, r.2.2.2.2.1.length, p3), r.2.2.2.2.2.1, r.2.2.2.2.2.2.1, r.2.2.2.2.2.2.2)] ∧ OwnO 0 (fun _ => False) w' 5 R22 P2 p2 r.2.2.2.1 ∧ OwnO 0 (fun _ => False) w' 51 R43 P3 p3 r.2.2.2.2.1 ∧ Dj P2 a0 ∧ Dj P3 a0 ∧ Dj P3 P2 ∧ (∀ b, blk (P2, 0, 0) b → (reasm_Stream_Reset.S a0 A0_2 A0_3) b ∨ w.heap.size ≤ b) ∧ (∀ b, blk (P3, 0, 0) b → (reasm_Stream_Reset.S a0 A0_2 A0_3) b ∨ w.heap.size ≤ b) := by
  refine enter0 mixed reasm_Stream_Reset.A noC [AV.v (Value.pointer a0), AV.v (Value.int IntKind.i64 a1)] Try.func17 rfl rfl rfl (fun hF => ?_)
  have hA_a0 : Option.isSome a0 = true := hW0.sl.some (by simp)
  have hN_a0 : Option.isNone a0 = false := by cases a0 <;> simp_all
  have hF : Fine (reasm_Stream_Reset.S a0 A0_2 A0_3) w (fun _ => False) w := ⟨rfl, rfl, rfl, Nat.le_refl _, fun _ _ _ => rfl, fun b h => h.elim⟩
  have hm0 : ∀ b, blk (a0, 0, 0) b → (reasm_Stream_Reset.S a0 A0_2 A0_3) b ∨ w.heap.size ≤ b := fun b hb => Or.inl (Or.inl hb)
  have hm0_2 : ∀ b, blk (A0_2, 0, 0) b → (reasm_Stream_Reset.S a0 A0_2 A0_3) b ∨ w.heap.size ≤ b := fun b hb => Or.inl (Or.inr (Or.inl hb))
  have hm0_3 : ∀ b, blk (A0_3, 0, 0) b → (reasm_Stream_Reset.S a0 A0_2 A0_3) b ∨ w.heap.size ≤ b := fun b hb => Or.inl (Or.inr (Or.inr hb))
  rw [reasm_Stream_Reset.t]
  unfold reasm_Stream_Reset.F at h
  try dsimp only at h
  obtain ⟨v0_0, hr0, h⟩ := Option.bind_eq_some_iff.1 h
  refine ok_callm rfl (fun L0 w0 g0 lt0 => ?_)
  refine (reasm_Stream_ok.c k _ (some q0) v0_0 hr0  w0 ((obr45 hW0.sl hW0_2.sl hW0_3.sl).later g0).bare).mono ?_
  rintro e w0' ⟨rfl, hb0⟩
  refine ⟨(v0_0, ()), rfl, hb0, fun g0' => ?_⟩
  try dsimp only
  have hF := hF.trans g0'
  have hW0 := hW0.later g0'
  have hW0_2 := hW0_2.later g0'
  have hW0_3 := hW0_3.later g0'
  refine ok_if (fun hc4 => ?_) (fun hc4 => ?_)
  · have h := bif_t h hc4
    refine ok_if (fun hc5 => ?_) (fun hc5 => ?_)
    · have h := bif_t h hc5
      obtain rfl := Option.some.inj h
      have homes := fun (b : Nat) (h : b < w.heap.size) => h
      intro ρ L w' _ he _ _
      exact ⟨A0_2, c0_2, A0_3, c0_3, rfl, (hF.ext he).with (fun b h => Or.inl h), (hW0.later he.fine).bare', (hW0_2.later he.fine).bare', (hW0_3.later he.fine).bare', dj0_1_0, dj0_2_0, dj0_2_1, hm0_2, hm0_3⟩
    · have h := bif_f h hc5
      refine ok_if (fun hc6 => ?_) (fun hc6 => ?_)
      · have h := bif_t h hc6
        obtain rfl := Option.some.inj h
        have homes := fun (b : Nat) (h : b < w.heap.size) => h
        intro ρ L w' _ he _ _
        exact ⟨A0_2, c0_2, A0_3, c0_3, rfl, (hF.ext he).with (fun b h => Or.inl h), (hW0.later he.fine).bare', (hW0_2.later he.fine).bare', (hW0_3.later he.fine).bare', dj0_1_0, dj0_2_0, dj0_2_1, hm0_2, hm0_3⟩
      · have h := bif_f h hc6
        refine ok_need hA_a0 ?_
        refine ok_need hA_a0 ?_
        refine ok_ob 6 hW0.sl (Fine.refl _ _) (fun cs hcs => ⟨q0.2.2.2.2.2.2, by rw [hcs]; rfl, ?_⟩)
        try dsimp only
        refine ok_if (fun hc7 => ?_) (fun hc7 => ?_)
        · have h := bif_t h hc7
          obtain rfl := Option.some.inj h
          have homes := fun (b : Nat) (h : b < w.heap.size) => h
          intro ρ L w' _ he _ _
          exact ⟨A0_2, c0_2, A0_3, c0_3, rfl, (hF.ext he).with (fun b h => Or.inl h), (hW0.later he.fine).bare', (hW0_2.later he.fine).bare', (hW0_3.later he.fine).bare', dj0_1_0, dj0_2_0, dj0_2_1, hm0_2, hm0_3⟩
        · have h := bif_f h hc7
          refine ok_need hA_a0 ?_
          refine ok_need hA_a0 ?_
          refine ok_ob 5 hW0.sl (Fine.refl _ _) (fun cs hcs => ⟨q0.2.2.2.2.2.1, by rw [hcs]; rfl, ?_⟩)
          try dsimp only
          refine ok_if (fun hc8 => ?_) (fun hc8 => ?_)
          · have h := bif_t h hc8
            refine ok_need hA_a0 ?_
            refine ok_need hA_a0 ?_
            refine ok_ob 1 hW0.sl (Fine.refl _ _) (fun cs hcs => ⟨q0.2.1, by rw [hcs]; rfl, ?_⟩)
            try dsimp only
            refine ok_need hA_a0 ?_
            refine ok_need hA_a0 ?_
            refine ok_ob 4 hW0.sl (Fine.refl _ _) (fun cs hcs => ⟨q0.2.2.2.2.1, by rw [hcs]; rfl, ?_⟩)
            try dsimp only
            obtain ⟨v5_0, hr5, h⟩ := Option.bind_eq_some_iff.1 h
            refine ok_callm rfl (fun L5 w5 g5 lt5 => ?_)
            refine (reasm_Stream_Ready.c k _ (some q0) v5_0 hr5  w5 ((obr45 hW0.sl hW0_2.sl hW0_3.sl).later g5).bare).mono ?_
            rintro e w5' ⟨rfl, hb5⟩
            refine ⟨(v5_0, ()), rfl, hb5, fun g5' => ?_⟩
            try dsimp only
            have hF := hF.trans g5'
            have hW0 := hW0.later g5'
            have hW0_2 := hW0_2.later g5'
            have hW0_3 := hW0_3.later g5'
            refine ok_keep0 (lf := .i IntKind.i64) 4 q0.2.2.2.2.1 hW0.sl (fun cs hcs => by rw [hcs]; rfl) rfl ?_
            refine ok_keep0 (lf := .i IntKind.i64) 1 q0.2.1 hW0.sl (fun cs hcs => by rw [hcs]; rfl) rfl ?_
            refine ok_if (fun hc9 => ?_) (fun hc9 => ?_)
            · have h := bif_t h hc9
              obtain rfl := Option.some.inj h
              have homes := fun (b : Nat) (h : b < w.heap.size) => h
              intro ρ L w' _ he _ _
              exact ⟨A0_2, c0_2, A0_3, c0_3, rfl, (hF.ext he).with (fun b h => Or.inl h), (hW0.later he.fine).bare', (hW0_2.later he.fine).bare', (hW0_3.later he.fine).bare', dj0_1_0, dj0_2_0, dj0_2_1, hm0_2, hm0_3⟩
            · have h := bif_f h hc9
              obtain ⟨v6_0, hr6, h⟩ := Option.bind_eq_some_iff.1 h
              refine ok_callm rfl (fun L6 w6 g6 lt6 => ?_)
              refine (reasm_Stream_Limit.c k _ (some q0) v6_0 hr6  w6 ((obr45 hW0.sl hW0_2.sl hW0_3.sl).later g6).bare).mono ?_
              rintro e w6' ⟨rfl, hb6⟩
              refine ⟨(v6_0, ()), rfl, hb6, fun g6' => ?_⟩
              try dsimp only
              have hF := hF.trans g6'
              have hW0 := hW0.later g6'
              have hW0_2 := hW0_2.later g6'
              have hW0_3 := hW0_3.later g6'
              refine ok_if (fun hc10 => ?_) (fun hc10 => ?_)
              · have h := bif_t h hc10
                obtain rfl := Option.some.inj h
                have homes := fun (b : Nat) (h : b < w.heap.size) => h
                intro ρ L w' _ he _ _
                exact ⟨A0_2, c0_2, A0_3, c0_3, rfl, (hF.ext he).with (fun b h => Or.inl h), (hW0.later he.fine).bare', (hW0_2.later he.fine).bare', (hW0_3.later he.fine).bare', dj0_1_0, dj0_2_0, dj0_2_1, hm0_2, hm0_3⟩
              · have h := bif_f h hc10
                refine ok_need hA_a0 ?_
                refine ok_need hA_a0 ?_
                refine ok_ob 5 hW0.sl (Fine.refl _ _) (fun cs hcs => ⟨q0.2.2.2.2.2.1, by rw [hcs]; rfl, ?_⟩)
                try dsimp only
                refine ok_if (fun hc11 => ?_) (fun hc11 => ?_)
                · have h := bif_t h hc11
                  refine ok_need hA_a0 ?_
                  refine ok_need hA_a0 ?_
                  refine ok_ob 4 hW0.sl (Fine.refl _ _) (fun cs hcs => ⟨q0.2.2.2.2.1, by rw [hcs]; rfl, ?_⟩)
                  try dsimp only
                  refine ok_if (fun hc12 => ?_) (fun hc12 => ?_)
                  · have h := bif_t h hc12
                    obtain rfl := Option.some.inj h
                    have homes := fun (b : Nat) (h : b < w.heap.size) => h
                    intro ρ L w' _ he _ _
                    exact ⟨A0_2, c0_2, A0_3, c0_3, rfl, (hF.ext he).with (fun b h => Or.inl h), (hW0.later he.fine).bare', (hW0_2.later he.fine).bare', (hW0_3.later he.fine).bare', dj0_1_0, dj0_2_0, dj0_2_1, hm0_2, hm0_3⟩
                  · have h := bif_f h hc12
                    obtain ⟨v9_0, hr9, h⟩ := Option.bind_eq_some_iff.1 h
                    refine ok_callm rfl (fun L9 w9 g9 lt9 => ?_)
                    refine (reasm_Stream_last.c k _ (some q0) v9_0 hr9  w9 ((obr45 hW0.sl hW0_2.sl hW0_3.sl).later g9).bare).mono ?_
                    rintro e w9' ⟨rfl, hb9⟩
                    refine ⟨(v9_0, ()), rfl, hb9, fun g9' => ?_⟩
                    try dsimp only
                    have hF := hF.trans g9'
                    have hW0 := hW0.later g9'
                    have hW0_2 := hW0_2.later g9'
                    have hW0_3 := hW0_3.later g9'
                    refine ok_if (fun hc13 => ?_) (fun hc13 => ?_)
                    · have h := bif_t h hc13
                      obtain rfl := Option.some.inj h
                      have homes := fun (b : Nat) (h : b < w.heap.size) => h
                      intro ρ L w' _ he _ _
                      exact ⟨A0_2, c0_2, A0_3, c0_3, rfl, (hF.ext he).with (fun b h => Or.inl h), (hW0.later he.fine).bare', (hW0_2.later he.fine).bare', (hW0_3.later he.fine).bare', dj0_1_0, dj0_2_0, dj0_2_1, hm0_2, hm0_3⟩
                    · have h := bif_f h hc13
                      refine ok_need hA_a0 ?_
                      refine ok_need hA_a0 ?_
                      refine ok_put0 (R := RW45) (x' := (q0.1, q0.2.1, (A0_2, q0.2.2.1.length, c0_2), (A0_3, q0.2.2.2.1.length, c0_3), q0.2.2.2.2.1, q0.2.2.2.2.2.1, true)) (vs := [Value.bool true]) 6 hW0 (Nat.le_of_ble_eq_true rfl) rfl (fun _ => rfl) (fun Lt14 wt14 ht14 gst14 hdt14 => ?_)
                      have hW0_2 := hW0_2.other dj0_1_0 gst14
                      have hW0_3 := hW0_3.other dj0_2_0 gst14
                      have hF := Fine.own hF gst14 hm0 hdt14
                      have hW0 := ht14
                      refine ok_need hA_a0 ?_
                      refine ok_need hA_a0 ?_
                      refine ok_put0 (R := RW45) (x' := (q0.1, q0.2.1, (A0_2, q0.2.2.1.length, c0_2), (A0_3, q0.2.2.2.1.length, c0_3), q0.2.2.2.2.1, true, true)) (vs := [Value.bool true]) 5 hW0 (Nat.le_of_ble_eq_true rfl) rfl (fun _ => rfl) (fun Lt15 wt15 ht15 gst15 hdt15 => ?_)
                      have hW0_2 := hW0_2.other dj0_1_0 gst15
                      have hW0_3 := hW0_3.other dj0_2_0 gst15
                      have hF := Fine.own hF gst15 hm0 hdt15
                      have hW0 := ht15
                      refine ok_need hA_a0 ?_
                      refine ok_need hA_a0 ?_
                      refine ok_put0 (R := RW45) (x' := (q0.1, q0.2.1, (A0_2, q0.2.2.1.length, c0_2), (A0_3, q0.2.2.2.1.length, c0_3), a1, true, true)) (vs := [Value.int IntKind.i64 a1]) 4 hW0 (Nat.le_of_ble_eq_true rfl) rfl (fun _ => rfl) (fun Lt16 wt16 ht16 gst16 hdt16 => ?_)
                      have hW0_2 := hW0_2.other dj0_1_0 gst16
                      have hW0_3 := hW0_3.other dj0_2_0 gst16
                      have hF := Fine.own hF gst16 hm0 hdt16
                      have hW0 := ht16
                      refine ok_need hA_a0 ?_
                      refine ok_need hA_a0 ?_
                      refine ok_put0 (R := RW45) (x' := (q0.1, q0.2.1, (A0_2, q0.2.2.1.length, c0_2), (none, (([] : List (Int × Int))).length, 0), a1, true, true)) (vs := [Value.slice none ((([] : List (Int × Int))).length) 0]) 3 hW0 (Nat.le_of_ble_eq_true rfl) rfl (fun _ => rfl) (fun Lt17 wt17 ht17 gst17 hdt17 => ?_)
                      have hW0_2 := hW0_2.other dj0_1_0 gst17
                      have hF := Fine.own hF gst17 hm0 hdt17
                      have hW0 := ht17
                      have hWt17_3 : OwnO 0 Lt17 wt17 51 R43 none 0 ([] : List (Int × Int)) := OwnO.nil
                      have hmt17_3 : ∀ b, blk ((none : Option Addr), 0, 0) b → (reasm_Stream_Reset.S a0 A0_2 A0_3) b ∨ w.heap.size ≤ b := fun b hb => by obtain ⟨_, hb, _⟩ := hb; cases hb
                      obtain rfl := Option.some.inj h
                      have homes := fun (b : Nat) (h : b < w.heap.size) => h
                      intro ρ L w' _ he _ _
                      exact ⟨A0_2, c0_2, none, 0, rfl, (hF.ext he).with (fun b h => Or.inl h), (hW0.later he.fine).bare', (hW0_2.later he.fine).bare', (hWt17_3.later he.fine).bare', dj0_1_0, Dj.nil2, Dj.nil2, hm0_2, hmt17_3⟩
                · have h := bif_f h hc11
                  obtain ⟨v8_0, hr8, h⟩ := Option.bind_eq_some_iff.1 h
                  refine ok_callm rfl (fun L8 w8 g8 lt8 => ?_)
                  refine (reasm_Stream_last.c k _ (some q0) v8_0 hr8  w8 ((obr45 hW0.sl hW0_2.sl hW0_3.sl).later g8).bare).mono ?_
                  rintro e w8' ⟨rfl, hb8⟩
                  refine ⟨(v8_0, ()), rfl, hb8, fun g8' => ?_⟩
                  try dsimp only
                  have hF := hF.trans g8'
                  have hW0 := hW0.later g8'
                  have hW0_2 := hW0_2.later g8'
                  have hW0_3 := hW0_3.later g8'
                  refine ok_if (fun hc19 => ?_) (fun hc19 => ?_)
                  · have h := bif_t h hc19
                    obtain rfl := Option.some.inj h
                    have homes := fun (b : Nat) (h : b < w.heap.size) => h
                    intro ρ L w' _ he _ _
                    exact ⟨A0_2, c0_2, A0_3, c0_3, rfl, (hF.ext he).with (fun b h => Or.inl h), (hW0.later he.fine).bare', (hW0_2.later he.fine).bare', (hW0_3.later he.fine).bare', dj0_1_0, dj0_2_0, dj0_2_1, hm0_2, hm0_3⟩
                  · have h := bif_f h hc19
                    refine ok_need hA_a0 ?_
                    refine ok_need hA_a0 ?_
                    refine ok_put0 (R := RW45) (x' := (q0.1, q0.2.1, (A0_2, q0.2.2.1.length, c0_2), (A0_3, q0.2.2.2.1.length, c0_3), q0.2.2.2.2.1, q0.2.2.2.2.2.1, true)) (vs := [Value.bool true]) 6 hW0 (Nat.le_of_ble_eq_true rfl) rfl (fun _ => rfl) (fun Lt20 wt20 ht20 gst20 hdt20 => ?_)
                    have hW0_2 := hW0_2.other dj0_1_0 gst20
                    have hW0_3 := hW0_3.other dj0_2_0 gst20
                    have hF := Fine.own hF gst20 hm0 hdt20
                    have hW0 := ht20
                    refine ok_need hA_a0 ?_
                    refine ok_need hA_a0 ?_
                    refine ok_put0 (R := RW45) (x' := (q0.1, q0.2.1, (A0_2, q0.2.2.1.length, c0_2), (A0_3, q0.2.2.2.1.length, c0_3), q0.2.2.2.2.1, true, true)) (vs := [Value.bool true]) 5 hW0 (Nat.le_of_ble_eq_true rfl) rfl (fun _ => rfl) (fun Lt21 wt21 ht21 gst21 hdt21 => ?_)
                    have hW0_2 := hW0_2.other dj0_1_0 gst21
                    have hW0_3 := hW0_3.other dj0_2_0 gst21
                    have hF := Fine.own hF gst21 hm0 hdt21
                    have hW0 := ht21
                    refine ok_need hA_a0 ?_
                    refine ok_need hA_a0 ?_
                    refine ok_put0 (R := RW45) (x' := (q0.1, q0.2.1, (A0_2, q0.2.2.1.length, c0_2), (A0_3, q0.2.2.2.1.length, c0_3), a1, true, true)) (vs := [Value.int IntKind.i64 a1]) 4 hW0 (Nat.le_of_ble_eq_true rfl) rfl (fun _ => rfl) (fun Lt22 wt22 ht22 gst22 hdt22 => ?_)
                    have hW0_2 := hW0_2.other dj0_1_0 gst22
                    have hW0_3 := hW0_3.other dj0_2_0 gst22
                    have hF := Fine.own hF gst22 hm0 hdt22
                    have hW0 := ht22
                    refine ok_need hA_a0 ?_
                    refine ok_need hA_a0 ?_
                    refine ok_put0 (R := RW45) (x' := (q0.1, q0.2.1, (A0_2, q0.2.2.1.length, c0_2), (none, (([] : List (Int × Int))).length, 0), a1, true, true)) (vs := [Value.slice none ((([] : List (Int × Int))).length) 0]) 3 hW0 (Nat.le_of_ble_eq_true rfl) rfl (fun _ => rfl) (fun Lt23 wt23 ht23 gst23 hdt23 => ?_)
                    have hW0_2 := hW0_2.other dj0_1_0 gst23
                    have hF := Fine.own hF gst23 hm0 hdt23
                    have hW0 := ht23
                    have hWt23_3 : OwnO 0 Lt23 wt23 51 R43 none 0 ([] : List (Int × Int)) := OwnO.nil
                    have hmt23_3 : ∀ b, blk ((none : Option Addr), 0, 0) b → (reasm_Stream_Reset.S a0 A0_2 A0_3) b ∨ w.heap.size ≤ b := fun b hb => by obtain ⟨_, hb, _⟩ := hb; cases hb
                    obtain rfl := Option.some.inj h
                    have homes := fun (b : Nat) (h : b < w.heap.size) => h
                    intro ρ L w' _ he _ _
                    exact ⟨A0_2, c0_2, none, 0, rfl, (hF.ext he).with (fun b h => Or.inl h), (hW0.later he.fine).bare', (hW0_2.later he.fine).bare', (hWt23_3.later he.fine).bare', dj0_1_0, Dj.nil2, Dj.nil2, hm0_2, hmt23_3⟩
          · have h := bif_f h hc8
            obtain ⟨v3_0, hr3, h⟩ := Option.bind_eq_some_iff.1 h
            refine ok_callm rfl (fun L3 w3 g3 lt3 => ?_)
            refine (reasm_Stream_Limit.c k _ (some q0) v3_0 hr3  w3 ((obr45 hW0.sl hW0_2.sl hW0_3.sl).later g3).bare).mono ?_
            rintro e w3' ⟨rfl, hb3⟩
            refine ⟨(v3_0, ()), rfl, hb3, fun g3' => ?_⟩
            try dsimp only
            have hF := hF.trans g3'
            have hW0 := hW0.later g3'
            have hW0_2 := hW0_2.later g3'
            have hW0_3 := hW0_3.later g3'
            refine ok_if (fun hc25 => ?_) (fun hc25 => ?_)
            · have h := bif_t h hc25
              obtain rfl := Option.some.inj h
              have homes := fun (b : Nat) (h : b < w.heap.size) => h
              intro ρ L w' _ he _ _
              exact ⟨A0_2, c0_2, A0_3, c0_3, rfl, (hF.ext he).with (fun b h => Or.inl h), (hW0.later he.fine).bare', (hW0_2.later he.fine).bare', (hW0_3.later he.fine).bare', dj0_1_0, dj0_2_0, dj0_2_1, hm0_2, hm0_3⟩
            · have h := bif_f h hc25
              refine ok_need hA_a0 ?_
              refine ok_need hA_a0 ?_
              refine ok_ob 5 hW0.sl (Fine.refl _ _) (fun cs hcs => ⟨q0.2.2.2.2.2.1, by rw [hcs]; rfl, ?_⟩)
              try dsimp only
              refine ok_if (fun hc26 => ?_) (fun hc26 => ?_)
              · have h := bif_t h hc26
                refine ok_need hA_a0 ?_
                refine ok_need hA_a0 ?_
                refine ok_ob 4 hW0.sl (Fine.refl _ _) (fun cs hcs => ⟨q0.2.2.2.2.1, by rw [hcs]; rfl, ?_⟩)
                try dsimp only
                refine ok_if (fun hc27 => ?_) (fun hc27 => ?_)
                · have h := bif_t h hc27
                  obtain rfl := Option.some.inj h
                  have homes := fun (b : Nat) (h : b < w.heap.size) => h
                  intro ρ L w' _ he _ _
                  exact ⟨A0_2, c0_2, A0_3, c0_3, rfl, (hF.ext he).with (fun b h => Or.inl h), (hW0.later he.fine).bare', (hW0_2.later he.fine).bare', (hW0_3.later he.fine).bare', dj0_1_0, dj0_2_0, dj0_2_1, hm0_2, hm0_3⟩
                · have h := bif_f h hc27
                  obtain ⟨v6_0, hr6, h⟩ := Option.bind_eq_some_iff.1 h
                  refine ok_callm rfl (fun L6 w6 g6 lt6 => ?_)
                  refine (reasm_Stream_last.c k _ (some q0) v6_0 hr6  w6 ((obr45 hW0.sl hW0_2.sl hW0_3.sl).later g6).bare).mono ?_
                  rintro e w6' ⟨rfl, hb6⟩
                  refine ⟨(v6_0, ()), rfl, hb6, fun g6' => ?_⟩
                  try dsimp only
                  have hF := hF.trans g6'
                  have hW0 := hW0.later g6'
                  have hW0_2 := hW0_2.later g6'
                  have hW0_3 := hW0_3.later g6'
                  refine ok_if (fun hc28 => ?_) (fun hc28 => ?_)
                  · have h := bif_t h hc28
                    obtain rfl := Option.some.inj h
                    have homes := fun (b : Nat) (h : b < w.heap.size) => h
                    intro ρ L w' _ he _ _
                    exact ⟨A0_2, c0_2, A0_3, c0_3, rfl, (hF.ext he).with (fun b h => Or.inl h), (hW0.later he.fine).bare', (hW0_2.later he.fine).bare', (hW0_3.later he.fine).bare', dj0_1_0, dj0_2_0, dj0_2_1, hm0_2, hm0_3⟩
                  · have h := bif_f h hc28
                    refine ok_need hA_a0 ?_
                    refine ok_need hA_a0 ?_
                    refine ok_put0 (R := RW45) (x' := (q0.1, q0.2.1, (A0_2, q0.2.2.1.length, c0_2), (A0_3, q0.2.2.2.1.length, c0_3), q0.2.2.2.2.1, q0.2.2.2.2.2.1, true)) (vs := [Value.bool true]) 6 hW0 (Nat.le_of_ble_eq_true rfl) rfl (fun _ => rfl) (fun Lt29 wt29 ht29 gst29 hdt29 => ?_)
                    have hW0_2 := hW0_2.other dj0_1_0 gst29
                    have hW0_3 := hW0_3.other dj0_2_0 gst29
                    have hF := Fine.own hF gst29 hm0 hdt29
                    have hW0 := ht29
                    refine ok_need hA_a0 ?_
                    refine ok_need hA_a0 ?_
                    refine ok_put0 (R := RW45) (x' := (q0.1, q0.2.1, (A0_2, q0.2.2.1.length, c0_2), (A0_3, q0.2.2.2.1.length, c0_3), q0.2.2.2.2.1, true, true)) (vs := [Value.bool true]) 5 hW0 (Nat.le_of_ble_eq_true rfl) rfl (fun _ => rfl) (fun Lt30 wt30 ht30 gst30 hdt30 => ?_)
                    have hW0_2 := hW0_2.other dj0_1_0 gst30
                    have hW0_3 := hW0_3.other dj0_2_0 gst30
                    have hF := Fine.own hF gst30 hm0 hdt30
                    have hW0 := ht30
                    refine ok_need hA_a0 ?_
                    refine ok_need hA_a0 ?_
                    refine ok_put0 (R := RW45) (x' := (q0.1, q0.2.1, (A0_2, q0.2.2.1.length, c0_2), (A0_3, q0.2.2.2.1.length, c0_3), a1, true, true)) (vs := [Value.int IntKind.i64 a1]) 4 hW0 (Nat.le_of_ble_eq_true rfl) rfl (fun _ => rfl) (fun Lt31 wt31 ht31 gst31 hdt31 => ?_)
                    have hW0_2 := hW0_2.other dj0_1_0 gst31
                    have hW0_3 := hW0_3.other dj0_2_0 gst31
                    have hF := Fine.own hF gst31 hm0 hdt31
                    have hW0 := ht31
                    refine ok_need hA_a0 ?_
                    refine ok_need hA_a0 ?_
                    refine ok_put0 (R := RW45) (x' := (q0.1, q0.2.1, (A0_2, q0.2.2.1.length, c0_2), (none, (([] : List (Int × Int))).length, 0), a1, true, true)) (vs := [Value.slice none ((([] : List (Int × Int))).length) 0]) 3 hW0 (Nat.le_of_ble_eq_true rfl) rfl (fun _ => rfl) (fun Lt32 wt32 ht32 gst32 hdt32 => ?_)
                    have hW0_2 := hW0_2.other dj0_1_0 gst32
                    have hF := Fine.own hF gst32 hm0 hdt32
                    have hW0 := ht32
                    have hWt32_3 : OwnO 0 Lt32 wt32 51 R43 none 0 ([] : List (Int × Int)) := OwnO.nil
                    have hmt32_3 : ∀ b, blk ((none : Option Addr), 0, 0) b → (reasm_Stream_Reset.S a0 A0_2 A0_3) b ∨ w.heap.size ≤ b := fun b hb => by obtain ⟨_, hb, _⟩ := hb; cases hb
                    obtain rfl := Option.some.inj h
                    have homes := fun (b : Nat) (h : b < w.heap.size) => h
                    intro ρ L w' _ he _ _
                    exact ⟨A0_2, c0_2, none, 0, rfl, (hF.ext he).with (fun b h => Or.inl h), (hW0.later he.fine).bare', (hW0_2.later he.fine).bare', (hWt32_3.later he.fine).bare', dj0_1_0, Dj.nil2, Dj.nil2, hm0_2, hmt32_3⟩
              · have h := bif_f h hc26
                obtain ⟨v5_0, hr5, h⟩ := Option.bind_eq_some_iff.1 h
                refine ok_callm rfl (fun L5 w5 g5 lt5 => ?_)
                refine (reasm_Stream_last.c k _ (some q0) v5_0 hr5  w5 ((obr45 hW0.sl hW0_2.sl hW0_3.sl).later g5).bare).mono ?_
                rintro e w5' ⟨rfl, hb5⟩
                refine ⟨(v5_0, ()), rfl, hb5, fun g5' => ?_⟩
                try dsimp only
                have hF := hF.trans g5'
                have hW0 := hW0.later g5'
                have hW0_2 := hW0_2.later g5'
                have hW0_3 := hW0_3.later g5'
                refine ok_if (fun hc34 => ?_) (fun hc34 => ?_)
                · have h := bif_t h hc34
                  obtain rfl := Option.some.inj h
                  have homes := fun (b : Nat) (h : b < w.heap.size) => h
                  intro ρ L w' _ he _ _
                  exact ⟨A0_2, c0_2, A0_3, c0_3, rfl, (hF.ext he).with (fun b h => Or.inl h), (hW0.later he.fine).bare', (hW0_2.later he.fine).bare', (hW0_3.later he.fine).bare', dj0_1_0, dj0_2_0, dj0_2_1, hm0_2, hm0_3⟩
                · have h := bif_f h hc34
                  refine ok_need hA_a0 ?_
                  refine ok_need hA_a0 ?_
                  refine ok_put0 (R := RW45) (x' := (q0.1, q0.2.1, (A0_2, q0.2.2.1.length, c0_2), (A0_3, q0.2.2.2.1.length, c0_3), q0.2.2.2.2.1, q0.2.2.2.2.2.1, true)) (vs := [Value.bool true]) 6 hW0 (Nat.le_of_ble_eq_true rfl) rfl (fun _ => rfl) (fun Lt35 wt35 ht35 gst35 hdt35 => ?_)
                  have hW0_2 := hW0_2.other dj0_1_0 gst35
                  have hW0_3 := hW0_3.other dj0_2_0 gst35
                  have hF := Fine.own hF gst35 hm0 hdt35
                  have hW0 := ht35
                  refine ok_need hA_a0 ?_
                  refine ok_need hA_a0 ?_
                  refine ok_put0 (R := RW45) (x' := (q0.1, q0.2.1, (A0_2, q0.2.2.1.length, c0_2), (A0_3, q0.2.2.2.1.length, c0_3), q0.2.2.2.2.1, true, true)) (vs := [Value.bool true]) 5 hW0 (Nat.le_of_ble_eq_true rfl) rfl (fun _ => rfl) (fun Lt36 wt36 ht36 gst36 hdt36 => ?_)
                  have hW0_2 := hW0_2.other dj0_1_0 gst36
                  have hW0_3 := hW0_3.other dj0_2_0 gst36
                  have hF := Fine.own hF gst36 hm0 hdt36
                  have hW0 := ht36
                  refine ok_need hA_a0 ?_
                  refine ok_need hA_a0 ?_
                  refine ok_put0 (R := RW45) (x' := (q0.1, q0.2.1, (A0_2, q0.2.2.1.length, c0_2), (A0_3, q0.2.2.2.1.length, c0_3), a1, true, true)) (vs := [Value.int IntKind.i64 a1]) 4 hW0 (Nat.le_of_ble_eq_true rfl) rfl (fun _ => rfl) (fun Lt37 wt37 ht37 gst37 hdt37 => ?_)
                  have hW0_2 := hW0_2.other dj0_1_0 gst37
                  have hW0_3 := hW0_3.other dj0_2_0 gst37
                  have hF := Fine.own hF gst37 hm0 hdt37
                  have hW0 := ht37
                  refine ok_need hA_a0 ?_
                  refine ok_need hA_a0 ?_
                  refine ok_put0 (R := RW45) (x' := (q0.1, q0.2.1, (A0_2, q0.2.2.1.length, c0_2), (none, (([] : List (Int × Int))).length, 0), a1, true, true)) (vs := [Value.slice none ((([] : List (Int × Int))).length) 0]) 3 hW0 (Nat.le_of_ble_eq_true rfl) rfl (fun _ => rfl) (fun Lt38 wt38 ht38 gst38 hdt38 => ?_)
                  have hW0_2 := hW0_2.other dj0_1_0 gst38
                  have hF := Fine.own hF gst38 hm0 hdt38
                  have hW0 := ht38
                  have hWt38_3 : OwnO 0 Lt38 wt38 51 R43 none 0 ([] : List (Int × Int)) := OwnO.nil
                  have hmt38_3 : ∀ b, blk ((none : Option Addr), 0, 0) b → (reasm_Stream_Reset.S a0 A0_2 A0_3) b ∨ w.heap.size ≤ b := fun b hb => by obtain ⟨_, hb, _⟩ := hb; cases hb
                  obtain rfl := Option.some.inj h
                  have homes := fun (b : Nat) (h : b < w.heap.size) => h
                  intro ρ L w' _ he _ _
                  exact ⟨A0_2, c0_2, none, 0, rfl, (hF.ext he).with (fun b h => Or.inl h), (hW0.later he.fine).bare', (hW0_2.later he.fine).bare', (hWt38_3.later he.fine).bare', dj0_1_0, Dj.nil2, Dj.nil2, hm0_2, hmt38_3⟩
  · have h := bif_f h hc4
    obtain rfl := Option.some.inj h
    have homes := fun (b : Nat) (h : b < w.heap.size) => h
    intro ρ L w' _ he _ _
    exact ⟨A0_2, c0_2, A0_3, c0_3, rfl, (hF.ext he).with (fun b h => Or.inl h), (hW0.later he.fine).bare', (hW0_2.later he.fine).bare', (hW0_3.later he.fine).bare', dj0_1_0, dj0_2_0, dj0_2_1, hm0_2, hm0_3⟩
set_option maxHeartbeats 4000000 in
theorem reasm_Stream_Read.c (k : Nat) (a0 : Option Addr) (q0 : Int × Int × (List Int) × (List (Int × Int)) × Int × Bool × Bool) (A0_2 : Option Addr) (c0_2 : Nat) (A0_3 : Option Addr) (c0_3 : Nat) (a1 : Int) (r : (List Int) × (Int × Int × (List Int) × (List (Int × Int)) × Int × Bool × Bool)) (h : reasm_Stream_Read.F k q0 a1 = some r)  (w : World) (hW0 : OwnO 0 (fun _ => False) w 45 RW45 a0 1 [(q0.1, q0.2.1, (A0_2, q0.2.2.1.length, c0_2), (A0_3, q0.2.2.2.1.length, c0_3), q0.2.2.2.2.1, q0.2.2.2.2.2.1, q0.2.2.2.2.2.2)]) (hW0_2 : OwnO 0 (fun _ => False) w 5 R22 A0_2 c0_2 q0.2.2.1) (hW0_3 : OwnO 0 (fun _ => False) w 51 R43 A0_3 c0_3 q0.2.2.2.1) (dj0_1_0 : Dj A0_2 a0) (dj0_2_0 : Dj A0_3 a0) (dj0_2_1 : Dj A0_3 A0_2) : Calls Try.prog 11 (AV.gs id [AV.v (Value.pointer a0), AV.v (Value.int IntKind.i64 a1)]).toArray w fun e w' => ∃ (P2 : Option Addr) (p2 : Nat) (P3 : Option Addr) (p3 : Nat) (B0 : Option Addr) (d0 : Nat), e = .returned (((Sh.one : Sh).av (vs [Lf.sl] ((B0, (r.1).length, d0), ()))).g id) ∧ Fine (reasm_Stream_Read.S a0 A0_2 A0_3) w (reasm_Stream_Read.S a0 A0_2 A0_3) w' ∧ OwnO 0 (fun _ => False) w' 45 RW45 a0 1 [(r.2.1, r.2.2.1, (P2, r.2.2.2.1.length, p2), (P3, r.2.2.2.2.1.length, p3), r.2.2.2.2.2.1, r.2.2.2.2.2.2.1, r.2.2.2.2.2.2.2)] ∧ OwnO 0 (fun _ => False) w' 5 R22 P2 p2 r.2.2.2.1 ∧ OwnO 0 (fun _ => False) w' 51 R43 P3 p3 r.2.2.2.2.1 ∧ Dj P2 a0 ∧ Dj P3 a0 ∧ Dj P3 P2 ∧ (∀ b, blk (P2, 0, 0) b → (reasm_Stream_Read.S a0 A0_2 A0_3) b ∨ w.heap.size ≤ b) ∧ (∀ b, blk (P3, 0, 0) b → (reasm_Stream_Read.S a0 A0_2 A0_3) b ∨ w.heap.size ≤ b) ∧ OwnF w.heap.size (fun b => b < w.heap.size) w' 5 R22 B0 d0 r.1 ∧ Dj B0 P2 ∧ Dj B0 P3 := by
  refine enter0 mixed reasm_Stream_Read.A noC [AV.v (Value.pointer a0), AV.v (Value.int IntKind.i64 a1)] Try.func11 rfl rfl rfl (fun hF => ?_)
  have hA_a0 : Option.isSome a0 = true := hW0.sl.some (by simp)
  have hN_a0 : Option.isNone a0 = false := by cases a0 <;> simp_all
  have hF : Fine (reasm_Stream_Read.S a0 A0_2 A0_3) w (fun _ => False) w := ⟨rfl, rfl, rfl, Nat.le_refl _, fun _ _ _ => rfl, fun b h => h.elim⟩
  have hm0 : ∀ b, blk (a0, 0, 0) b → (reasm_Stream_Read.S a0 A0_2 A0_3) b ∨ w.heap.size ≤ b := fun b hb => Or.inl (Or.inl hb)
  have hm0_2 : ∀ b, blk (A0_2, 0, 0) b → (reasm_Stream_Read.S a0 A0_2 A0_3) b ∨ w.heap.size ≤ b := fun b hb => Or.inl (Or.inr (Or.inl hb))
  have hm0_3 : ∀ b, blk (A0_3, 0, 0) b → (reasm_Stream_Read.S a0 A0_2 A0_3) b ∨ w.heap.size ≤ b := fun b hb => Or.inl (Or.inr (Or.inr hb))
  rw [reasm_Stream_Read.t]
  unfold reasm_Stream_Read.F at h
  try dsimp only at h
  obtain ⟨v0_0, hr0, h⟩ := Option.bind_eq_some_iff.1 h
  refine ok_callm rfl (fun L0 w0 g0 lt0 => ?_)
  refine (reasm_Stream_Ready.c k _ (some q0) v0_0 hr0  w0 ((obr45 hW0.sl hW0_2.sl hW0_3.sl).later g0).bare).mono ?_
  rintro e w0' ⟨rfl, hb0⟩
  refine ⟨(v0_0, ()), rfl, hb0, fun g0' => ?_⟩
  try dsimp only
  have hF := hF.trans g0'
  have hW0 := hW0.later g0'
  have hW0_2 := hW0_2.later g0'
  have hW0_3 := hW0_3.later g0'
  refine ok_if (fun hc4 => ?_) (fun hc4 => ?_)
  · have h := bif_t h hc4
    obtain rfl := Option.some.inj h
    have homes := fun (b : Nat) (h : b < w.heap.size) => h
    intro ρ L w' _ he _ _
    exact ⟨A0_2, c0_2, A0_3, c0_3, none, 0, rfl, (hF.ext he).with (fun b h => Or.inl h), (hW0.later he.fine).bare', (hW0_2.later he.fine).bare', (hW0_3.later he.fine).bare', dj0_1_0, dj0_2_0, dj0_2_1, hm0_2, hm0_3, OwnF.ret (OwnF.nil _ (fun _ => False) _ _ _), Dj.nil2, Dj.nil2⟩
  · have h := bif_f h hc4
    refine ok_need hA_a0 ?_
    refine ok_need hA_a0 ?_
    refine ok_ob 2 hW0.sl (Fine.refl _ _) (fun cs hcs => ⟨(A0_2, q0.2.2.1.length, c0_2), by rw [hcs]; rfl, ?_⟩)
    try dsimp only
    obtain ⟨hs5, h⟩ := bif_need h
    have hs5 := of_decide_eq_true hs5
    have hcap := hW0_2.sl.2.1
    refine ok_need (by first | exact part3 hs5 hcap | exact part3 hs5 (Nat.le_refl _)) ?_
    obtain ⟨s2_0, hr2, h⟩ := Option.bind_eq_some_iff.1 h
    refine ok_callm rfl (fun L2 w2 g2 lt2 => ?_)
    refine (slices_Clone_byte_byte.c k _ _ _ (((q0.2.2.1.drop (Int.toNat 0)).take (Int.toNat (if v0_0 < a1 then v0_0 else a1) - Int.toNat 0))) s2_0 hr2 (sub_len hs5.1 hs5.2.1 hs5.2.2) w2 ((hW0_2.later g2).sl.sub _ _ hs5.1 hs5.2.1 hs5.2.2).bare).mono ?_
    rintro e w2' ⟨A2_0, c2_0, rfl, hb2, hO2_0⟩
    refine ⟨((A2_0, s2_0.length, c2_0), ()), rfl, hb2, fun g2' => ?_⟩
    try dsimp only
    have dj_o7_w1 : Dj A2_0 a0 := Dj.new hO2_0.fresh (hW0.later g2).lt1
    have dj_o7_w2 : Dj A2_0 A0_2 := Dj.new hO2_0.fresh (hW0_2.later g2).lt1
    have dj_o7_w3 : Dj A2_0 A0_3 := Dj.new hO2_0.fresh (hW0_3.later g2).lt1
    have hO2_0 := hO2_0.call (hF.trans g2).size lt2
    have hF := hF.trans g2'
    have hW0 := hW0.later g2'
    have hW0_2 := hW0_2.later g2'
    have hW0_3 := hW0_3.later g2'
    refine ok_need hA_a0 ?_
    refine ok_need hA_a0 ?_
    refine ok_ob 2 hW0.sl (Fine.refl _ _) (fun cs hcs => ⟨(A0_2, q0.2.2.1.length, c0_2), by rw [hcs]; rfl, ?_⟩)
    try dsimp only
    refine ok_need hA_a0 ?_
    refine ok_need hA_a0 ?_
    refine ok_ob 2 hW0.sl (Fine.refl _ _) (fun cs hcs => ⟨(A0_2, q0.2.2.1.length, c0_2), by rw [hcs]; rfl, ?_⟩)
    try dsimp only
    obtain ⟨hs8, h⟩ := bif_need h
    have hs8 := of_decide_eq_true hs8
    have hcap := hW0_2.sl.2.1
    refine ok_need (by first | exact part3 hs8 hcap | exact part3 hs8 (Nat.le_refl _)) ?_
    refine ok_copyG0 (R := R22) (xs := q0.2.2.1) (ys := (((q0.2.2.1.drop (Int.toNat (if v0_0 < a1 then v0_0 else a1))).take (Int.toNat ((((q0.2.2.1).length : Nat) : Int)) - Int.toNat (if v0_0 < a1 then v0_0 else a1))))) E22 hW0_2 (hW0_2.sl.sub _ _ hs8.1 hs8.2.1 hs8.2.2) (sub_len hs8.1 hs8.2.1 hs8.2.2) rfl (fun L5 w5 h5 g5 hid5 => ?_)
    try dsimp only
    have hW0 := hW0.other (Dj.symm dj0_1_0) g5
    have hW0_3 := hW0_3.other dj0_2_1 g5
    have hO2_0 := hO2_0.other dj_o7_w2 g5
    have hF := Fine.own hF g5 hm0_2 hid5
    have hW0_2 := h5
    have hW0 : OwnO 0 L5 w5 45 RW45 a0 1 [(q0.1, q0.2.1, (A0_2, ((cop 0 q0.2.2.1 (((q0.2.2.1.drop (Int.toNat (if v0_0 < a1 then v0_0 else a1))).take (Int.toNat ((((q0.2.2.1).length : Nat) : Int)) - Int.toNat (if v0_0 < a1 then v0_0 else a1)))))).length, c0_2), (A0_3, q0.2.2.2.1.length, c0_3), q0.2.2.2.2.1, q0.2.2.2.2.2.1, q0.2.2.2.2.2.2)] := by rw [cop_len (Nat.zero_le _)]; exact hW0
    refine ok_need hA_a0 ?_
    refine ok_need hA_a0 ?_
    refine ok_ob 1 hW0.sl (Fine.refl _ _) (fun cs hcs => ⟨q0.2.1, by rw [hcs]; rfl, ?_⟩)
    try dsimp only
    refine ok_need hA_a0 ?_
    refine ok_need hA_a0 ?_
    refine ok_put0 (R := RW45) (x' := (q0.1, (IntKind.wrap IntKind.i64 (q0.2.1 + if v0_0 < a1 then v0_0 else a1)), (A0_2, ((cop 0 q0.2.2.1 (((q0.2.2.1.drop (Int.toNat (if v0_0 < a1 then v0_0 else a1))).take (Int.toNat ((((q0.2.2.1).length : Nat) : Int)) - Int.toNat (if v0_0 < a1 then v0_0 else a1)))))).length, c0_2), (A0_3, q0.2.2.2.1.length, c0_3), q0.2.2.2.2.1, q0.2.2.2.2.2.1, q0.2.2.2.2.2.2)) (vs := [Value.int IntKind.i64 (IntKind.wrap IntKind.i64 (q0.2.1 + if v0_0 < a1 then v0_0 else a1))]) 1 hW0 (Nat.le_of_ble_eq_true rfl) rfl (fun _ => rfl) (fun Lt11 wt11 ht11 gst11 hdt11 => ?_)
    have hW0_2 := hW0_2.other dj0_1_0 gst11
    have hW0_3 := hW0_3.other dj0_2_0 gst11
    have hO2_0 := hO2_0.other dj_o7_w1 gst11
    have hF := Fine.own hF gst11 hm0 hdt11
    have hW0 := ht11
    refine ok_need hA_a0 ?_
    refine ok_need hA_a0 ?_
    refine ok_ob 3 hW0.sl (Fine.refl _ _) (fun cs hcs => ⟨(A0_3, q0.2.2.2.1.length, c0_3), by rw [hcs]; rfl, ?_⟩)
    try dsimp only
    refine ok_need hA_a0 ?_
    refine ok_need hA_a0 ?_
    refine ok_ob 1 hW0.sl (Fine.refl _ _) (fun cs hcs => ⟨(IntKind.wrap IntKind.i64 (q0.2.1 + if v0_0 < a1 then v0_0 else a1)), by rw [hcs]; rfl, ?_⟩)
    try dsimp only
    obtain ⟨r12, hr13, h⟩ := Option.bind_eq_some_iff.1 h
    refine ok_need (getI_need hW0_3.sl hr13) ?_
    refine ok_need (getI_need2 hW0_3.sl hr13) ?_
    refine ok_put (R := R43) (x := r12) (x' := (((IntKind.wrap IntKind.i64 (q0.2.1 + if v0_0 < a1 then v0_0 else a1))), r12.2)) (vs := [Value.int IntKind.i64 ((IntKind.wrap IntKind.i64 (q0.2.1 + if v0_0 < a1 then v0_0 else a1)))]) (Int.toNat 0) 0 hW0_3 (getI_iff.1 hr13).2 (Nat.le_of_ble_eq_true rfl) rfl (fun _ => rfl) (fun Lt14 wt14 ht14 gst14 hdt14 => ?_)
    have hW0 := hW0.other (Dj.symm dj0_2_0) gst14
    have hW0_2 := hW0_2.other (Dj.symm dj0_2_1) gst14
    have hO2_0 := hO2_0.other dj_o7_w3 gst14
    have hF := Fine.own hF gst14 hm0_3 hdt14
    have hW0_3 := ht14
    have hW0 : OwnO 0 Lt14 wt14 45 RW45 a0 1 [(q0.1, (IntKind.wrap IntKind.i64 (q0.2.1 + if v0_0 < a1 then v0_0 else a1)), (A0_2, ((cop 0 q0.2.2.1 (((q0.2.2.1.drop (Int.toNat (if v0_0 < a1 then v0_0 else a1))).take (Int.toNat ((((q0.2.2.1).length : Nat) : Int)) - Int.toNat (if v0_0 < a1 then v0_0 else a1)))))).length, c0_2), (A0_3, ((q0.2.2.2.1.set (Int.toNat 0) ((((IntKind.wrap IntKind.i64 (q0.2.1 + if v0_0 < a1 then v0_0 else a1))), r12.2)))).length, c0_3), q0.2.2.2.2.1, q0.2.2.2.2.2.1, q0.2.2.2.2.2.2)] := by rw [List.length_set]; exact hW0
    refine ok_need hA_a0 ?_
    refine ok_need hA_a0 ?_
    refine ok_ob 3 hW0.sl (Fine.refl _ _) (fun cs hcs => ⟨(A0_3, ((q0.2.2.2.1.set (Int.toNat 0) ((((IntKind.wrap IntKind.i64 (q0.2.1 + if v0_0 < a1 then v0_0 else a1))), r12.2)))).length, c0_3), by rw [hcs]; rfl, ?_⟩)
    try dsimp only
    obtain ⟨r16, hr17, h⟩ := Option.bind_eq_some_iff.1 h
    refine ok_need (getI_need hW0_3.sl hr17) ?_
    refine ok_need (getI_need2 hW0_3.sl hr17) ?_
    refine ok_getf 0 hW0_3.sl (Fine.refl _ _) hr17 (fun cs hcs => ⟨r16.1, by rw [hcs]; rfl, ?_⟩)
    try dsimp only
    refine ok_need hA_a0 ?_
    refine ok_need hA_a0 ?_
    refine ok_ob 3 hW0.sl (Fine.refl _ _) (fun cs hcs => ⟨(A0_3, ((q0.2.2.2.1.set (Int.toNat 0) ((((IntKind.wrap IntKind.i64 (q0.2.1 + if v0_0 < a1 then v0_0 else a1))), r12.2)))).length, c0_3), by rw [hcs]; rfl, ?_⟩)
    try dsimp only
    obtain ⟨r18, hr19, h⟩ := Option.bind_eq_some_iff.1 h
    refine ok_need (getI_need hW0_3.sl hr19) ?_
    refine ok_need (getI_need2 hW0_3.sl hr19) ?_
    refine ok_getf 1 hW0_3.sl (Fine.refl _ _) hr19 (fun cs hcs => ⟨r18.2, by rw [hcs]; rfl, ?_⟩)
    try dsimp only
    refine ok_if (fun hc20 => ?_) (fun hc20 => ?_)
    · have h := bif_t h hc20
      refine ok_need hA_a0 ?_
      refine ok_need hA_a0 ?_
      refine ok_ob 3 hW0.sl (Fine.refl _ _) (fun cs hcs => ⟨(A0_3, ((q0.2.2.2.1.set (Int.toNat 0) ((((IntKind.wrap IntKind.i64 (q0.2.1 + if v0_0 < a1 then v0_0 else a1))), r12.2)))).length, c0_3), by rw [hcs]; rfl, ?_⟩)
      try dsimp only
      obtain ⟨hs21, h⟩ := bif_need h
      have hs21 := of_decide_eq_true hs21
      have hcap := hW0_3.sl.2.1
      refine ok_need (by first | exact part3 hs21 hcap | exact part3 hs21 (Nat.le_refl _)) ?_
      refine ok_need hA_a0 ?_
      refine ok_need hA_a0 ?_
      have hcutt23 := hW0_3.cutI 1 (((((q0.2.2.2.1.set (Int.toNat 0) ((((IntKind.wrap IntKind.i64 (q0.2.1 + if v0_0 < a1 then v0_0 else a1))), r12.2)))).length : Nat) : Int)) hs21.1 hs21.2.1 hs21.2.2
      obtain ⟨Pt23, hPt23⟩ : ∃ z, z = (if ((c0_3 : Nat) : Int) = 1 then A0_3 else A0_3.map (fun x => x.add (Int.toNat 1 * R43.n))) := ⟨_, rfl⟩
      rw [← hPt23] at hcutt23
      have hblkt23 : ∀ b, blk (Pt23, 0, 0) b → blk (A0_3, 0, 0) b := by rw [hPt23]; exact blk_cut
      refine ok_put0 (R := RW45) (x' := (q0.1, (IntKind.wrap IntKind.i64 (q0.2.1 + if v0_0 < a1 then v0_0 else a1)), (A0_2, ((cop 0 q0.2.2.1 (((q0.2.2.1.drop (Int.toNat (if v0_0 < a1 then v0_0 else a1))).take (Int.toNat ((((q0.2.2.1).length : Nat) : Int)) - Int.toNat (if v0_0 < a1 then v0_0 else a1)))))).length, c0_2), (Pt23, ((((q0.2.2.2.1.set (Int.toNat 0) ((((IntKind.wrap IntKind.i64 (q0.2.1 + if v0_0 < a1 then v0_0 else a1))), r12.2))).drop (Int.toNat 1)).take (Int.toNat (((((q0.2.2.2.1.set (Int.toNat 0) ((((IntKind.wrap IntKind.i64 (q0.2.1 + if v0_0 < a1 then v0_0 else a1))), r12.2)))).length : Nat) : Int)) - Int.toNat 1))).length, (c0_3 - Int.toNat 1)), q0.2.2.2.2.1, q0.2.2.2.2.2.1, q0.2.2.2.2.2.2)) (vs := [Value.slice Pt23 (((((q0.2.2.2.1.set (Int.toNat 0) ((((IntKind.wrap IntKind.i64 (q0.2.1 + if v0_0 < a1 then v0_0 else a1))), r12.2))).drop (Int.toNat 1)).take (Int.toNat (((((q0.2.2.2.1.set (Int.toNat 0) ((((IntKind.wrap IntKind.i64 (q0.2.1 + if v0_0 < a1 then v0_0 else a1))), r12.2)))).length : Nat) : Int)) - Int.toNat 1))).length) (c0_3 - Int.toNat 1)]) 3 hW0 (Nat.le_of_ble_eq_true rfl) rfl (fun _ => by rw [hPt23, ← sub_len hs21.1 hs21.2.1 hs21.2.2]; rfl) (fun Lt23 wt23 ht23 gst23 hdt23 => ?_)
      have hW0_2 := hW0_2.other dj0_1_0 gst23
      have hcutt23 := hcutt23.other (fun b h1 h2 => dj0_2_0 b (hblkt23 b h1) h2) gst23
      have hO2_0 := hO2_0.other dj_o7_w1 gst23
      have hF := Fine.own hF gst23 hm0 hdt23
      have hW0 := ht23
      obtain rfl := Option.some.inj h
      have homes := fun (b : Nat) (h : b < w.heap.size) => h
      intro ρ L w' _ he _ _
      exact ⟨A0_2, c0_2, Pt23, (c0_3 - Int.toNat 1), A2_0, c2_0, rfl, (hF.ext he).with (fun b h => Or.inl h), (hW0.later he.fine).bare', (hW0_2.later he.fine).bare', (hcutt23.later he.fine).bare', dj0_1_0, (fun b h1 h2 => dj0_2_0 b (hblkt23 b h1) h2), (fun b h1 h2 => dj0_2_1 b (hblkt23 b h1) h2), hm0_2, (fun b hb => hm0_3 b (hblkt23 b hb)), (hO2_0.later he.fine).ret, dj_o7_w2, (Dj.symm (fun b h1 h2 => (Dj.symm dj_o7_w3) b (hblkt23 b h1) h2))⟩
    · have h := bif_f h hc20
      obtain rfl := Option.some.inj h
      have homes := fun (b : Nat) (h : b < w.heap.size) => h
      intro ρ L w' _ he _ _
      exact ⟨A0_2, c0_2, A0_3, c0_3, A2_0, c2_0, rfl, (hF.ext he).with (fun b h => Or.inl h), (hW0.later he.fine).bare', (hW0_2.later he.fine).bare', (hW0_3.later he.fine).bare', dj0_1_0, dj0_2_0, dj0_2_1, hm0_2, hm0_3, (hO2_0.later he.fine).ret, dj_o7_w2, dj_o7_w3⟩
end Go.Proofs.Ytdjeadgebcndeaa.X
