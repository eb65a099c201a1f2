import Derived.Test.YtkchgcefmnbebaazSl4
namespace Go.Proofs.Ytkchgcefmnbebaa.X
open Go Go.RowKit Go.Proofs.YtkchgcefmnbebaaW.Rx
set_option linter.unusedVariables false
set_option linter.unusedSimpArgs false
set_option maxRecDepth 20000
theorem ack_lost {q : Led} (h : LedT q) (l : List (Int × Int)) (now wait : Int) (r v : Bool) (f : Pk → Bool) : ∀ p ∈ (ackF q l now wait r v f).2.1, p.1 < (ackF q l now wait r v f).2.2.2.2.1 := by
 unfold ackF
 cases r
 ·intro p hp; cases hp
 cases ((l.length : Nat) : Int) == 0
 case true => intro p hp; cases hp
 cases v
 ·intro p hp; cases hp
 cases decide (q.2.2.1 < (l.getLastD (0, 0)).2)
 case true => intro p hp; cases hp
 intro p hp
 obtain ⟨h1, h2⟩ := List.mem_filter.1 hp
 unfold h37 at h2
 rw [Bool.and_eq_true] at h2
 exact of_decide_eq_true h2.1
theorem ack_stay {q : Led} (h : LedT q) (l : List (Int × Int)) (now wait : Int) (r : Bool) (f : Pk → Bool) (h0 : (ackF q l now wait r (waitB now wait) f).2.2.1 = 0) : ((0 ≤ now ∧ now ≤ 1099511627776) ∧ 0 < wait ∧ wait ≤ 1099511627776) ∧ ∀ p ∈ (ackF q l now wait r (waitB now wait) f).2.2.2.1, ¬ (p.1 < (ackF q l now wait r (waitB now wait) f).2.2.2.2.1 ∧ (p.1 + 3 ≤ (ackF q l now wait r (waitB now wait) f).2.2.2.2.1 ∨ p.2.1 + wait ≤ now)) := by
 have ht := ackF_t h l now wait r (waitB now wait) f
 unfold ackF at h0 ht ⊢
 cases r
 ·cases h0
 cases hl : ((l.length : Nat) : Int) == 0
 case true => rw [hl] at h0; cases h0
 rw [hl] at h0 ht
 cases hv : waitB now wait
 ·rw [hv] at h0; cases h0
 rw [hv] at h0 ht
 have hw := waitB_iff.1 hv
 refine ⟨hw, ?_⟩
 cases hd : decide (q.2.2.1 < (l.getLastD (0, 0)).2)
 case true => rw [hd] at h0; cases h0
 rw [hd] at ht
 intro p hp hb
 have hr := ht.good.rng' p hp
 have h2 := ht.trng p hp
 have h3 := ht.time
 obtain ⟨h4, h5⟩ := List.mem_filter.1 hp
 rw [h37_t hr ⟨h2.1, by have := h2.2; have := h3.2; exact Int.le_trans h2.2 h3.2⟩ (by omega), decide_eq_true (show p.1 < (if q.2.1 < (l.getLastD (0, 0)).2 then (l.getLastD (0, 0)).2 else q.2.1) from hb.1), Bool.true_and] at h5
 rcases hb.2 with h6 | h6
 ·rw [decide_eq_true (show p.1 + 3 ≤ (if q.2.1 < (l.getLastD (0, 0)).2 then (l.getLastD (0, 0)).2 else q.2.1) from h6)] at h5
  cases h5
 ·rw [decide_eq_true h6, Bool.or_true] at h5
  cases h5
abbrev A5 : Nat → LA := fun r => if r = 5 then ⟨[(22, false, [Lf.i .i64])], []⟩ else if r = 11 then ⟨[(47, false, [Lf.i .i64])], []⟩ else if r = 18 then ⟨[(62, false, [Lf.i .i64])], []⟩ else noA r
set_option maxHeartbeats 4000000 in
theorem f5_t (A : Option Addr) (m c : Nat) : tree Try.prog A5 noC Try.f5 [AV.v (.slice A m c)] [] =
  .call 8 ([]) ([]) (Sh.one) ([Lf.p]) ([]) (fun x0 =>
   bif Option.isNone x0.1 then (
    .done (AV.v (Value.bool false)) ([]))
   else (
    .call 10 ([]) ([]) (Sh.one) ([Lf.b]) ([]) (fun x1 =>
     bif x1.1 then (
      .loop ([Lf.i .i64]) ((0, PUnit.unit)) 0 (fun x2 =>
       bif decide (x2.1 < ((m : Nat) : Int)) then (
        .need (decide (0 ≤ x2.1) && decide (x2.1 < ((m : Nat) : Int)) && Option.isSome A) (
        .ld (Option.map (fun x => Addr.add x (Int.toNat x2.1 * 6)) A) ([Lf.i IntKind.u8, Lf.i .i64, Lf.i .i64, Lf.i .i64, Lf.i .i64, Lf.sl]) (fun x3 =>
         .need (true) (
         bif Int.tmod x3.1 5 != 1 then (
          .call 25 ([AV.v (Value.pointer x0.1), AV.agg [AV.v (Value.int IntKind.u8 x3.1), AV.v (.int .i64 x3.2.1), AV.v (.int .i64 x3.2.2.1), AV.v (.int .i64 x3.2.2.2.1), AV.v (.int .i64 x3.2.2.2.2.1), AV.v (Value.slice x3.2.2.2.2.2.1.1 x3.2.2.2.2.2.1.2.1 x3.2.2.2.2.2.1.2.2)]]) ([]) (Sh.tup [(false, 1), (false, 1)]) ([Lf.sl, Lf.b]) ([]) (fun x4 =>
           .again 0 ([Lf.i .i64]) ((IntKind.i64.wrap (x2.1 + 1), PUnit.unit))))
         else (
          .call 13 ([AV.v (Value.pointer x0.1), AV.v (Value.slice x3.2.2.2.2.2.1.1 x3.2.2.2.2.2.1.2.1 x3.2.2.2.2.2.1.2.2), AV.v (.int .i64 x3.2.2.1), AV.v (.int .i64 x3.2.2.2.2.1)]) ([]) (Sh.tup [(false, 1), (false, 1), (false, 1)]) ([Lf.sl, Lf.sl, Lf.i .i64]) ([]) (fun x4 =>
           .loop ([Lf.i .i64]) ((0, PUnit.unit)) 1 (fun x5 =>
            bif decide (x5.1 < ((x4.2.1.2.1 : Nat) : Int)) then (
             .need (decide (0 ≤ x5.1) && decide (x5.1 < ((x4.2.1.2.1 : Nat) : Int)) && Option.isSome x4.2.1.1) (
             .ld (Option.map (fun x => Addr.add x (Int.toNat x5.1 * 3)) x4.2.1.1) ([Lf.i .i64, Lf.i .i64, Lf.i .i64]) (fun x6 =>
              .call 23 ([AV.v (Value.pointer x0.1)]) ([]) (Sh.one) ([Lf.i .i64]) ([]) (fun x7 =>
               bif decide (x7.1 ≤ x6.1) then (
                .done (AV.v (Value.bool false)) ([]))
               else (
                .again 1 ([Lf.i .i64]) ((IntKind.i64.wrap (x5.1 + 1), PUnit.unit)))))))
            else (
             bif x4.2.2.1 != 0 then (
              .again 0 ([Lf.i .i64]) ((IntKind.i64.wrap (x2.1 + 1), PUnit.unit)))
             else (
              .call 24 ([AV.v (Value.pointer x0.1)]) ([]) (Sh.one) ([Lf.sl]) ([]) (fun x6 =>
               .loop ([Lf.i .i64]) ((0, PUnit.unit)) 1 (fun x7 =>
                bif decide (x7.1 < ((x6.1.2.1 : Nat) : Int)) then (
                 .need (decide (0 ≤ x7.1) && decide (x7.1 < ((x6.1.2.1 : Nat) : Int)) && Option.isSome x6.1.1) (
                 .ld (Option.map (fun x => Addr.add x (Int.toNat x7.1 * 3)) x6.1.1) ([Lf.i .i64, Lf.i .i64, Lf.i .i64]) (fun x8 =>
                  .call 23 ([AV.v (Value.pointer x0.1)]) ([]) (Sh.one) ([Lf.i .i64]) ([]) (fun x9 =>
                   bif decide (3 ≤ IntKind.i64.wrap (x9.1 - x8.1)) then (
                    .done (AV.v (Value.bool false)) ([]))
                   else (
                    .call 23 ([AV.v (Value.pointer x0.1)]) ([]) (Sh.one) ([Lf.i .i64]) ([]) (fun x10 =>
                     bif decide (x8.1 < x10.1) then (
                      bif decide (x3.2.2.2.2.1 ≤ IntKind.i64.wrap (x3.2.2.1 - x8.2.1)) then (
                       .done (AV.v (Value.bool false)) ([]))
                      else (
                       .again 1 ([Lf.i .i64]) ((IntKind.i64.wrap (x7.1 + 1), PUnit.unit))))
                     else (
                      .again 1 ([Lf.i .i64]) ((IntKind.i64.wrap (x7.1 + 1), PUnit.unit)))))))))
                else (
                 .again 0 ([Lf.i .i64]) ((IntKind.i64.wrap (x2.1 + 1), PUnit.unit))))))))))))))
       else (
        .done (AV.v (Value.bool true)) ([]))))
     else (
      .done (AV.v (Value.bool false)) ([]))))) := by kernel_rfl
set_option maxHeartbeats 8000000 in
theorem law_below (A : Option Addr) (c : Nat) (script : List ActT) (w : World) (hS : SlR R22 (fun _ => False) w A c script) : Calls Try.prog 5 #[.slice A script.length c] w fun e w' => e = .returned (.bool true) ∧ Below w.heap.size w w' := by
 refine enter0 (P := Try.prog) mixed A5 noC [AV.v (.slice A script.length c)] Try.func5 (c := _) rfl rfl rfl (fun hF0 => ?_)
 rw [f5_t]
 refine ok_newc (fun g L1 w1 hg hl1 g1 => ?_)
 try dsimp only
 have hF1 := hF0.trans g1
 refine ok_if (fun h => by simp at h) (fun _ => ?_)
 refine ok_alive (fun L2 w2 g2 => ?_)
 try dsimp only
 have hF2 := hF1.trans g2
 have hl2 := hl1.later g2
 refine ok_if (fun _ => ?_) (fun h => by simp at h)
 have hlen : script.length ≤ 9223372036854775807 := hS.2.2
 have hgw : w.heap.size ≤ g := hg
 obtain ⟨I, hI⟩ : ∃ I : Nat → Tup [Lf.i .i64] → (Nat → Prop) → World → Prop, I = (fun m y L w' => ∃ (j : Nat) (q : Led), y = ((j : Int), ()) ∧ j + m = script.length ∧ Fine (fun _ => False) w L w' ∧ LedO L w' g q ∧ LedT q) := ⟨_, rfl⟩
 refine ok_loop I script.length (by rw [hI]; exact ⟨0, q0, rfl, by omega, hF2, hl2, q0_t⟩) ?_
 intro m i L w3 hi
 rw [hI] at hi
 obtain ⟨j, q, rfl, hj, hF3, hl3, hT⟩ := hi
 try dsimp only
 refine ok_if (fun hc => ?_) (fun hc => ?_)
 ·have hc : (j : Int) < (script.length : Int) := of_decide_eq_true hc
  obtain ⟨m', rfl⟩ : ∃ m', m = m' + 1 := ⟨m - 1, by omega⟩
  obtain ⟨x, hx⟩ : ∃ x, script[j]? = some x := ⟨_, List.getElem?_eq_getElem (by omega)⟩
  have hA : A.isSome = true := hS.some (by have := (List.getElem?_eq_some_iff.1 hx).1; omega)
  refine ok_need (need3 (by omega) hc hA) ?_
  refine ok_get (R := R22) hS hF3 (getI_of hx) (by simp) (fun cs hcs => ?_)
  obtain ⟨A5, n5, c5, rfl, rfl, h5⟩ := hcs
  refine ⟨(x.1, x.2.1, x.2.2.1, x.2.2.2.1, x.2.2.2.2.1, (A5, x.2.2.2.2.2.length, c5), ()), rfl, ?_⟩
  try dsimp only
  have h5' : SlR R30.row (fun b => L b ∨ lb g b) w3 A5 c5 x.2.2.2.2.2 := h5.later (hF3.with (B := fun b => L b ∨ lb g b) (fun b hb => hb.elim (hF3.hid b) (fun h => Or.inr (by rcases h with h | h <;> omega))))
  have again0 : ∀ (q' : Led) (L4 : Nat → Prop) (w4 : World), LedT q' → LedO L4 w4 g q' → Fine (fun _ => False) w L4 w4 → (XT.again 0 [Lf.i .i64] (IntKind.i64.wrap ((j : Int) + 1), PUnit.unit)).ok Try.prog [] (fun e w' => e = .returned (.bool true) ∧ Below w.heap.size w w') (noJ.set 0 fun ls' z L' w' => ∃ h : ls' = [Lf.i .i64], ∃ m, m < m' + 1 ∧ I m (h ▸ z) L' w') L4 w4 := by
   intro q' L4 w4 hT4 hl4 hF4
   refine ok_again (I := I) m' (Nat.lt_succ_self _) (fun L8 w8 he => ?_)
   rw [hI]
   exact ⟨j + 1, q', by rw [wrap_in ((j : Int) + 1) (by omega) (by omega)]; rfl, by omega, hF4.trans he.fine, hl4.later he.fine, hT4⟩
  refine ok_need rfl ?_
  refine ok_if (fun hk => ?_) (fun hk => ?_)
  ·refine ok_does hl3 hT.good h5' (fun B d L4 w4 hl4 g4 hid4 hO4 => ?_)
   exact again0 _ _ _ (doesF_t hT _) hl4 (fine_lg (S := L) hF3 g4 hgw hid4)
  ·obtain ⟨y, hy⟩ : ∃ y, y = ackF q x.2.2.2.2.2 x.2.2.1 x.2.2.2.2.1 (decide (RightB x.2.2.2.2.2)) (waitB x.2.2.1 x.2.2.2.2.1) (fun p => hasB x.2.2.2.2.2 p.1) := ⟨_, rfl⟩
   have hlost := ack_lost hT x.2.2.2.2.2 x.2.2.1 x.2.2.2.2.1 (decide (RightB x.2.2.2.2.2)) (waitB x.2.2.1 x.2.2.2.2.1) (fun p => hasB x.2.2.2.2.2 p.1)
   have hstay := ack_stay hT x.2.2.2.2.2 x.2.2.1 x.2.2.2.2.1 (decide (RightB x.2.2.2.2.2)) (fun p => hasB x.2.2.2.2.2 p.1)
   have hTy := ackF_t hT x.2.2.2.2.2 x.2.2.1 x.2.2.2.2.1 (decide (RightB x.2.2.2.2.2)) (waitB x.2.2.1 x.2.2.2.2.1) (fun p => hasB x.2.2.2.2.2 p.1)
   have hly := (ackF_good hT.good x.2.2.2.2.2 x.2.2.1 x.2.2.2.2.1 (decide (RightB x.2.2.2.2.2)) (waitB x.2.2.1 x.2.2.2.2.1) (fun p => hasB x.2.2.2.2.2 p.1)).2.2
   rw [← hy] at hlost hstay hTy hly
   refine ok_ackc y hy hl3 hT.good h5' (fun B d B2 d2 L4 w4 hl4 g4 hid4 hO4 hP4 => ?_)
   try dsimp only
   have hF4 := fine_lg (S := L) hF3 g4 hgw hid4
   obtain ⟨I1, hI1⟩ : ∃ I : Nat → Tup [Lf.i .i64] → (Nat → Prop) → World → Prop, I = (fun m z L w' => ∃ (i : Nat), z = ((i : Int), ()) ∧ i + m = y.2.1.length ∧ Fine (fun _ => False) w L w' ∧ LedO L w' g y.2.2.2 ∧ SlR R36.row L w' B2 d2 y.2.1) := ⟨_, rfl⟩
   refine ok_loop I1 y.2.1.length (by rw [hI1]; exact ⟨0, rfl, by omega, hF4, hl4, hP4.sl⟩) ?_
   clear hP4 hl4 hF4 hO4 g4 hid4
   intro m1 i1 L5 w5 hi1
   rw [hI1] at hi1
   obtain ⟨i, rfl, hi, hF5, hl5, hP5⟩ := hi1
   try dsimp only
   refine ok_if (fun hc1 => ?_) (fun hc1 => ?_)
   ·have hc1 : (i : Int) < (y.2.1.length : Int) := of_decide_eq_true hc1
    obtain ⟨m1', rfl⟩ : ∃ m', m1 = m' + 1 := ⟨m1 - 1, by omega⟩
    obtain ⟨p, hp⟩ : ∃ p, y.2.1[i]? = some p := ⟨_, List.getElem?_eq_getElem (by omega)⟩
    have hB2 : B2.isSome = true := hP5.some (by omega)
    refine ok_need (need3 (by omega) hc1 hB2) ?_
    refine ok_get (R := R36.row) hP5 (Fine.refl _ _) (getI_of hp) (by simp) (fun cs hcs => ⟨(p.1, p.2.1, p.2.2, ()), by rw [hcs]; rfl, ?_⟩)
    try dsimp only
    refine ok_large hl5 (fun L6 w6 g6 => ?_)
    try dsimp only
    have hlt : p.1 < y.2.2.2.2.1 := hlost p (List.mem_of_getElem? hp)
    refine ok_if (fun h => ?_) (fun _ => ?_)
    ·have h : y.2.2.2.2.1 ≤ p.1 := of_decide_eq_true h
     omega
    refine ok_again (I := I1) m1' (Nat.lt_succ_self _) (fun L8 w8 he => ?_)
    rw [hI1]
    have gg := g6.trans he.fine
    exact ⟨i + 1, by rw [wrap_in ((i : Int) + 1) (by omega) (by omega)]; rfl, by omega, hF5.trans gg, hl5.later gg, hP5.later gg⟩
   ·refine ok_if (fun hc2 => ?_) (fun hc2 => ?_)
    ·exact ok_up (again0 _ _ _ hTy hl5 hF5) (by decide)
    ·have hc2 : y.2.2.1 = 0 := by simpa using hc2
     obtain ⟨hw, hst⟩ := hstay hc2
     refine ok_outc hl5 hTy.good (fun B9 d9 L6 w6 g6 hO6 => ?_)
     try dsimp only
     have hF6 := hF5.trans g6
     have hl6 := hl5.later g6
     have hqlen := hTy.good.len
     obtain ⟨I2, hI2⟩ : ∃ I : Nat → Tup [Lf.i .i64] → (Nat → Prop) → World → Prop, I = (fun m z L w' => ∃ (i : Nat), z = ((i : Int), ()) ∧ i + m = y.2.2.2.1.length ∧ Fine (fun _ => False) w L w' ∧ LedO L w' g y.2.2.2 ∧ SlR R36.row L w' B9 d9 y.2.2.2.1) := ⟨_, rfl⟩
     refine ok_loop I2 y.2.2.2.1.length (by rw [hI2]; exact ⟨0, rfl, by omega, hF6, hl6, hO6.sl⟩) ?_
     clear hO6 hl6 hF6 g6
     intro m2 i2 L7 w7 hi2
     rw [hI2] at hi2
     obtain ⟨i2, rfl, hi2, hF7, hl7, hP7⟩ := hi2
     try dsimp only
     refine ok_if (fun hc3 => ?_) (fun hc3 => ?_)
     ·have hc3 : (i2 : Int) < (y.2.2.2.1.length : Int) := of_decide_eq_true hc3
      obtain ⟨m2', rfl⟩ : ∃ m', m2 = m' + 1 := ⟨m2 - 1, by omega⟩
      obtain ⟨p, hp⟩ : ∃ p, y.2.2.2.1[i2]? = some p := ⟨_, List.getElem?_eq_getElem (by omega)⟩
      have hpm := List.mem_of_getElem? hp
      have hno := hst p hpm
      have hr := hTy.good.rng' p hpm
      have ht := hTy.trng p hpm
      have ht2 := hTy.time
      have hbg := hTy.big
      have hB9 : B9.isSome = true := hP7.some (by omega)
      have again1 : ∀ (L8 : Nat → Prop) (w8 : World), Fine L7 w7 L8 w8 → (XT.again 1 [Lf.i .i64] (IntKind.i64.wrap ((i2 : Int) + 1), PUnit.unit)).ok Try.prog [] (fun e w' => e = .returned (.bool true) ∧ Below w.heap.size w w') (((noJ.set 0 fun ls' z L' w' => ∃ h : ls' = [Lf.i .i64], ∃ m, m < m' + 1 ∧ I m (h ▸ z) L' w').set 1 fun ls' z L' w' => ∃ h : ls' = [Lf.i .i64], ∃ m, m < m1 ∧ I1 m (h ▸ z) L' w').set 1 fun ls' z L' w' => ∃ h : ls' = [Lf.i .i64], ∃ m, m < m2' + 1 ∧ I2 m (h ▸ z) L' w') L8 w8 := by
       intro L8 w8 g8
       refine ok_again (I := I2) m2' (Nat.lt_succ_self _) (fun L9 w9 he => ?_)
       rw [hI2]
       have gg := g8.trans he.fine
       exact ⟨i2 + 1, by rw [wrap_in ((i2 : Int) + 1) (by omega) (by omega)]; rfl, by omega, hF7.trans gg, hl7.later gg, hP7.later gg⟩
      refine ok_need (need3 (by omega) hc3 hB9) ?_
      refine ok_get (R := R36.row) hP7 (Fine.refl _ _) (getI_of hp) (by simp) (fun cs hcs => ⟨(p.1, p.2.1, p.2.2, ()), by rw [hcs]; rfl, ?_⟩)
      try dsimp only
      refine ok_large hl7 (fun L8 w8 g8 => ?_)
      try dsimp only
      rw [wrap_in (y.2.2.2.2.1 - p.1) (by omega) (by omega)]
      refine ok_if (fun h => absurd (of_decide_eq_true h) (by omega)) (fun _ => ?_)
      refine ok_large (hl7.later g8) (fun L9 w9 g9 => ?_)
      try dsimp only
      have g89 := g8.trans g9
      refine ok_if (fun h1 => ?_) (fun _ => again1 _ _ g89)
      have h1 : p.1 < y.2.2.2.2.1 := of_decide_eq_true h1
      rw [wrap_in (x.2.2.1 - p.2.1) (by omega) (by omega)]
      exact ok_if (fun h => by
       have h : x.2.2.2.2.1 ≤ x.2.2.1 - p.2.1 := of_decide_eq_true h
       omega) (fun _ => again1 _ _ g89)
     ·exact ok_up (ok_up (again0 _ _ _ hTy hl7 hF7) (by decide)) (by decide)
 ·exact ok_done hF3 rfl rfl
end Go.Proofs.Ytkchgcefmnbebaa.X
