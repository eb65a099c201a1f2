import Derived.Test.YtkchgcefmnbebaazSx2
namespace Go.Proofs.Ytkchgcefmnbebaa.X
open Go Go.RowKit Go.Proofs.YtkchgcefmnbebaaW.Rx
set_option linter.unusedVariables false
set_option linter.unusedSimpArgs false
set_option maxRecDepth 20000
theorem loseF_l512 {q : Led} (h : q.1.length ≤ 512) (now wait : Int) (v : Bool) : (loseF q now wait v).1.length ≤ 512 := by
 cases v
 ·exact Nat.zero_le _
 ·exact Nat.le_trans (List.length_filter_le _ _) h
theorem ackF_len {q : Led} (h : q.1.length ≤ 512) (l : List (Int × Int)) (now wait : Int) (r v : Bool) (f : Pk → Bool) : (ackF q l now wait r v f).1.length ≤ 512 ∧ (ackF q l now wait r v f).2.1.length ≤ 512 := by
 unfold ackF
 cases r
 ·exact ⟨Nat.zero_le _, Nat.zero_le _⟩
 cases ((l.length : Nat) : Int) == 0
 case true => exact ⟨Nat.zero_le _, Nat.zero_le _⟩
 cases v
 ·exact ⟨Nat.zero_le _, Nat.zero_le _⟩
 cases decide (q.2.2.1 < (l.getLastD (0, 0)).2)
 case true => exact ⟨Nat.zero_le _, Nat.zero_le _⟩
 exact ⟨Nat.le_trans (List.length_filter_le _ _) h, loseF_l512 (q := (q.1.filter (fun p => !f p), (if q.2.1 < (l.getLastD (0, 0)).2 then (l.getLastD (0, 0)).2 else q.2.1), q.2.2)) (Nat.le_trans (List.length_filter_le _ _) h) now wait true⟩
theorem drop_t {q : Led} (h : LedT q) : LedT ([], q.2) := by
 have := h.filter (fun _ => false)
 rwa [show q.1.filter (fun _ => false) = [] by simp] at this
noncomputable def p0 : Code := match Try.f3.body with
 | some (.seq x _) => x
 | _ => .skip
noncomputable def p1 : Code := match Try.f3.body with
 | some (.seq _ (.seq x _)) => x
 | _ => .skip
noncomputable def p2 : Code := match Try.f3.body with
 | some (.seq _ (.seq _ (.seq x _))) => x
 | _ => .skip
noncomputable def c3 : Code := match Try.f3.body with
 | some (.seq _ (.seq _ (.seq _ y))) => y
 | _ => .skip
theorem f3_body : Try.f3.body = some (.seq p0 (.seq p1 (.seq p2 c3))) := by kernel_rfl
noncomputable def args3 (A : Option Addr) (m c : Nat) (l Ar : Option Addr) : List AV := [AV.v (.slice A m c), AV.v undef, AV.v (.bool false), AV.v (.pointer l), AV.v (.pointer Ar), AV.v undef, AV.v undef, AV.v undef, AV.v undef, AV.v undef, AV.v undef, AV.v undef, AV.v undef, AV.v undef, AV.v (.pointer l), AV.agg [AV.v (.slice none 0 0), AV.v (.int .i64 (-1)), AV.v (.int .i64 (-1)), AV.v (.int .i64 0)]]
abbrev A3 : Nat → LA := fun r => if r = 6 then ⟨[(24, false, [Lf.i .i64])], []⟩ else noA r
set_option maxHeartbeats 4000000 in
theorem c3_t (A : Option Addr) (m c : Nat) (l Ar : Option Addr) : treeMid Try.prog A3 noC Try.f3 c3 (args3 A m c l Ar) [] =
  bif Option.isNone l then (
   .done (AV.v (Value.bool false)) ([]))
  else (
   .call 10 ([]) ([]) (Sh.one) ([Lf.b]) ([]) (fun x0 =>
    bif x0.1 then (
     .loop ([Lf.i .i64]) ((0, PUnit.unit)) 0 (fun x1 =>
      bif decide (x1.1 < ((m : Nat) : Int)) then (
       .need (decide (0 ≤ x1.1) && decide (x1.1 < ((m : Nat) : Int)) && Option.isSome A) (
       .ld (Option.map (fun x => Addr.add x (Int.toNat x1.1 * 6)) A) ([Lf.i IntKind.u8, Lf.i .i64, Lf.i .i64, Lf.i .i64, Lf.i .i64, Lf.sl]) (fun x2 =>
        .need (true) (
        bif Int.tmod x2.1 5 == 0 then (
         .call 11 ([AV.v (Value.pointer l), AV.v (.int .i64 x2.2.1), AV.v (.int .i64 x2.2.2.1), AV.v (.int .i64 x2.2.2.2.1)]) ([]) (Sh.one) ([Lf.i .i64]) ([]) (fun x3 =>
          .call 12 ([AV.v (Value.pointer Ar), AV.v (.int .i64 x2.2.1), AV.v (.int .i64 x2.2.2.1), AV.v (.int .i64 x2.2.2.2.1)]) ([]) (Sh.one) ([Lf.i .i64]) ([]) (fun x4 =>
           bif x3.1 == x4.1 then (
            (tailP l Ar x1.1))
           else (
            .done (AV.v (Value.bool false)) ([])))))
        else (
         bif Int.tmod x2.1 5 == 1 then (
          .call 13 ([AV.v (Value.pointer l), AV.v (Value.slice x2.2.2.2.2.2.1.1 x2.2.2.2.2.2.1.2.1 x2.2.2.2.2.2.1.2.2), AV.v (.int .i64 x2.2.2.1), AV.v (.int .i64 x2.2.2.2.2.1)]) ([]) (Sh.tup [(false, 1), (false, 1), (false, 1)]) ([Lf.sl, Lf.sl, Lf.i .i64]) ([]) (fun x3 =>
           .call 14 ([AV.v (Value.pointer Ar), AV.v (Value.slice x2.2.2.2.2.2.1.1 x2.2.2.2.2.2.1.2.1 x2.2.2.2.2.2.1.2.2), AV.v (.int .i64 x2.2.2.1), AV.v (.int .i64 x2.2.2.2.2.1)]) ([]) (Sh.tup [(false, 1), (false, 1), (false, 1)]) ([Lf.sl, Lf.sl, Lf.i .i64]) ([]) (fun x4 =>
            .call 16 ([AV.v (Value.slice x3.1.1 x3.1.2.1 x3.1.2.2)]) ([]) (Sh.one) ([Lf.sl]) ([]) (fun x5 =>
             .call 15 ([AV.v (Value.slice x5.1.1 x5.1.2.1 x5.1.2.2), AV.v (Value.slice x4.1.1 x4.1.2.1 x4.1.2.2)]) ([]) (Sh.one) ([Lf.b]) ([]) (fun x6 =>
              bif x6.1 then (
               .call 16 ([AV.v (Value.slice x3.2.1.1 x3.2.1.2.1 x3.2.1.2.2)]) ([]) (Sh.one) ([Lf.sl]) ([]) (fun x7 =>
                .call 15 ([AV.v (Value.slice x7.1.1 x7.1.2.1 x7.1.2.2), AV.v (Value.slice x4.2.1.1 x4.2.1.2.1 x4.2.1.2.2)]) ([]) (Sh.one) ([Lf.b]) ([]) (fun x8 =>
                 bif x8.1 then (
                  bif x3.2.2.1 == x4.2.2.1 then (
                   (tailP l Ar x1.1))
                  else (
                   .done (AV.v (Value.bool false)) ([])))
                 else (
                  .done (AV.v (Value.bool false)) ([])))))
              else (
               .done (AV.v (Value.bool false)) ([])))))))
         else (
          bif Int.tmod x2.1 5 == 2 then (
           .call 17 ([AV.v (Value.pointer l), AV.v (.int .i64 x2.2.2.1), AV.v (.int .i64 x2.2.2.2.2.1)]) ([]) (Sh.one) ([Lf.sl]) ([]) (fun x3 =>
            .call 16 ([AV.v (Value.slice x3.1.1 x3.1.2.1 x3.1.2.2)]) ([]) (Sh.one) ([Lf.sl]) ([]) (fun x4 =>
             .call 18 ([AV.v (Value.pointer Ar), AV.v (.int .i64 x2.2.2.1), AV.v (.int .i64 x2.2.2.2.2.1)]) ([]) (Sh.one) ([Lf.sl]) ([]) (fun x5 =>
              .call 15 ([AV.v (Value.slice x4.1.1 x4.1.2.1 x4.1.2.2), AV.v (Value.slice x5.1.1 x5.1.2.1 x5.1.2.2)]) ([]) (Sh.one) ([Lf.b]) ([]) (fun x6 =>
               bif x6.1 then (
                (tailP l Ar x1.1))
               else (
                .done (AV.v (Value.bool false)) ([])))))))
          else (
           bif Int.tmod x2.1 5 == 3 then (
            .call 19 ([AV.v (Value.pointer l), AV.v (.int .i64 x2.2.2.2.2.1)]) ([]) (Sh.one) ([Lf.i .i64]) ([]) (fun x3 =>
             .call 20 ([AV.v (Value.pointer Ar), AV.v (.int .i64 x2.2.2.2.2.1)]) ([]) (Sh.one) ([Lf.i .i64]) ([]) (fun x4 =>
              bif x3.1 == x4.1 then (
               (tailP l Ar x1.1))
              else (
               .done (AV.v (Value.bool false)) ([])))))
           else (
            .call 21 ([AV.v (Value.pointer l)]) ([]) (Sh.one) ([Lf.sl]) ([]) (fun x3 =>
             .call 16 ([AV.v (Value.slice x3.1.1 x3.1.2.1 x3.1.2.2)]) ([]) (Sh.one) ([Lf.sl]) ([]) (fun x4 =>
              .call 22 ([AV.v (Value.pointer Ar)]) ([]) (Sh.one) ([Lf.sl]) ([]) (fun x5 =>
               .call 15 ([AV.v (Value.slice x4.1.1 x4.1.2.1 x4.1.2.2), AV.v (Value.slice x5.1.1 x5.1.2.1 x5.1.2.2)]) ([]) (Sh.one) ([Lf.b]) ([]) (fun x6 =>
                bif x6.1 then (
                 (tailP l Ar x1.1))
                else (
                 .done (AV.v (Value.bool false)) ([]))))))))))))))
      else (
       .done (AV.v (Value.bool true)) ([]))))
    else (
     .done (AV.v (Value.bool false)) ([])))) := by kernel_rfl
set_option maxHeartbeats 8000000 in
theorem c3_ok (A : Option Addr) (c : Nat) (script : List ActT) (w w3 : World) (g : Nat) (a : Option Addr) (hS : SlR R22 (fun _ => False) w A c script) (hF3 : Fine (fun _ => False) w (fun _ => False) w3) (hg : w.heap.size ≤ g) (hl3 : LedO (fun _ => False) w3 g q0) (hr3 : RefO w.heap.size (lb g) (fun _ => False) w3 a none 0 q0) :
  (treeMid Try.prog A3 noC Try.f3 c3 (args3 A script.length c (lp g) a) []).ok Try.prog [] (fun e w' => e = .returned (.bool true) ∧ Below w.heap.size w w') noJ (fun _ => False) w3 := by
 rw [c3_t]
 refine ok_if (fun h => by simp at h) (fun _ => ?_)
 refine ok_alive (fun L2 w2 g2 => ?_)
 try dsimp only
 refine ok_if (fun _ => ?_) (fun h => by simp at h)
 have hlen : script.length ≤ 9223372036854775807 := hS.2.2
 have hgw : w.heap.size ≤ g := hg
 obtain ⟨I, hI⟩ : ∃ I : Nat → Tup [Lf.i .i64] → (Nat → Prop) → World → Prop, I = (fun m y L w' => ∃ (j : Nat) (q : Led) (A' : Option Addr) (c' : Nat), y = ((j : Int), ()) ∧ j + m = script.length ∧ Fine (fun _ => False) w L w' ∧ LedO L w' g q ∧ RefO w.heap.size (lb g) L w' a A' c' q ∧ LedT q) := ⟨_, rfl⟩
 refine ok_loop I script.length (by rw [hI]; exact ⟨0, q0, none, 0, rfl, by omega, hF3.trans g2, hl3.later g2, hr3.later g2, q0_t⟩) ?_
 clear hl3 hr3 hF3 g2
 intro m i L w3 hi
 rw [hI] at hi
 obtain ⟨j, q, A', c', rfl, hj, hF3, hl3, hr3, hT⟩ := hi
 try dsimp only
 refine ok_if (fun hc => ?_) (fun hc => ok_done hF3 rfl rfl)
 have hc : (j : Int) < (script.length : Int) := of_decide_eq_true hc
 obtain ⟨m', rfl⟩ : ∃ m', m = m' + 1 := ⟨m - 1, by omega⟩
 obtain ⟨x, hx⟩ : ∃ x, script[j]? = some x := ⟨_, List.getElem?_eq_getElem (by omega)⟩
 have hA : A.isSome = true := hS.some (by have := (List.getElem?_eq_some_iff.1 hx).1; omega)
 refine ok_need (need3 (by omega) hc hA) ?_
 refine ok_get (R := R22) hS hF3 (getI_of hx) (by simp) (fun cs hcs => ?_)
 obtain ⟨A5, n5, c5, rfl, rfl, h5⟩ := hcs
 refine ⟨(x.1, x.2.1, x.2.2.1, x.2.2.2.1, x.2.2.2.2.1, (A5, x.2.2.2.2.2.length, c5), ()), rfl, ?_⟩
 try dsimp only
 have lglt : ∀ {L : Nat → Prop} {w : World} {q : Led}, LedO L w g q → ∀ b, lb g b → b < w.heap.size := fun h b hb => (h.lt b hb).1
 refine ok_need rfl ?_
 refine ok_if (fun _ => ?_) (fun _ => ?_)
 ·refine ok_sentc hl3 hT.good (fun L4 w4 hl4 g4 hid4 => ?_)
  try dsimp only
  have hF4 := fine_lg (S := L) hF3 g4 hgw hid4
  have hr4 := hr3.past g4
  refine ok_rsent hr4 hT (lglt hl4) hF4.size (fun A6 c6 L5 w5 hr5 g5 hid5 => ?_)
  try dsimp only
  have hF5 := Fine.own hF4 g5 (fun b hb => Or.inr (hr4.home b hb).1) hid5
  have hl5 := hl4.past hr4 g5
  refine ok_if (fun _ => ?_) (fun h => by simp at h)
  refine ok_tailP hl5 hr5 (sentF_t hT _ _ _) (fun La wa ga => ?_)
  refine ok_again (I := I) m' (Nat.lt_succ_self _) (fun L8 w8 he => ?_)
  rw [hI]
  exact ⟨j + 1, _, _, _, by rw [wrap_in ((j : Int) + 1) (by omega) (by omega)]; rfl, by omega, (hF5.trans ga).trans he.fine, (hl5.later ga).later he.fine, (hr5.later ga).later he.fine, (sentF_t hT _ _ _)⟩
 refine ok_if (fun _ => ?_) (fun _ => ?_)
 ·obtain ⟨y, hy⟩ : ∃ y, y = ackF q x.2.2.2.2.2 x.2.2.1 x.2.2.2.2.1 (decide (RightB x.2.2.2.2.2)) (waitB x.2.2.1 x.2.2.2.2.1) (fun p => hasB x.2.2.2.2.2 p.1) := ⟨_, rfl⟩
  have hyl := ackF_len hT.good.len x.2.2.2.2.2 x.2.2.1 x.2.2.2.2.1 (decide (RightB x.2.2.2.2.2)) (waitB x.2.2.1 x.2.2.2.2.1) (fun p => hasB x.2.2.2.2.2 p.1)
  have hyt := ackF_t hT x.2.2.2.2.2 x.2.2.1 x.2.2.2.2.1 (decide (RightB x.2.2.2.2.2)) (waitB x.2.2.1 x.2.2.2.2.1) (fun p => hasB x.2.2.2.2.2 p.1)
  rw [← hy] at hyl hyt
  refine ok_ackc y hy hl3 hT.good (h5.later (hF3.with (B := fun b => L b ∨ lb g b) (fun b hb => hb.elim (hF3.hid b) (fun h => Or.inr (by rcases h with h | h <;> omega))))) (fun B d B2 d2 L4 w4 hl4 g4 hid4 hO4 hP4 => ?_)
  try dsimp only
  have hF4 := fine_lg (S := L) hF3 g4 hgw hid4
  have hr4 := hr3.past g4
  refine ok_rack y hy hr4 hT (lglt hl4) hF4.size (h5.later (hF4.with (B := fun b => L4 b ∨ rb a A' b) (fun b hb => hb.elim (hF4.hid b) (fun h => Or.inr (hr4.home b h).1)))) (fun A6 c6 B3 d3 B4 d4 L5 w5 hr5 g5 hid5 hO5 hP5 => ?_)
  try dsimp only
  have hF5 := Fine.own hF4 g5 (fun b hb => Or.inr (hr4.home b hb).1) hid5
  have hl5 := hl4.past hr4 g5
  have hO4 := OwnF.others hO4 (fun b hb h => by have h1 := Own.base hO4 hb; have h2 := (hr3.lt b h).1; omega) g5
  have hP4 := OwnF.others hP4 (fun b hb h => by have h1 := Own.base hP4 hb; have h2 := (hr3.lt b h).1; omega) g5
  refine ok_ours hO4.sl hyl.1 (fun B6 d6 L6 w6 g6 hO6 => ?_)
  try dsimp only
  refine ok_same hO6.sl (hO5.later g6).sl hyl.1 (fun L7 w7 g7 => ?_)
  try dsimp only
  refine ok_if (fun _ => ?_) (fun h => by simp at h)
  have g67 := g6.trans g7
  refine ok_ours (hP4.later g67).sl hyl.2 (fun B8 d8 L8 w8 g8 hO8 => ?_)
  try dsimp only
  refine ok_same hO8.sl (hP5.later (g67.trans g8)).sl hyl.2 (fun L9 w9 g9 => ?_)
  try dsimp only
  have gg := (g67.trans g8).trans g9
  refine ok_if (fun _ => ?_) (fun h => by simp at h)
  refine ok_if (fun _ => ?_) (fun h => by simp at h)
  have hF9 := hF5.trans gg
  have hl9 := hl5.later gg
  have hr9 := hr5.later gg
  refine ok_tailP hl9 hr9 hyt (fun La wa ga => ?_)
  refine ok_again (I := I) m' (Nat.lt_succ_self _) (fun L8 w8 he => ?_)
  rw [hI]
  exact ⟨j + 1, _, _, _, by rw [wrap_in ((j : Int) + 1) (by omega) (by omega)]; rfl, by omega, (hF9.trans ga).trans he.fine, (hl9.later ga).later he.fine, (hr9.later ga).later he.fine, hyt⟩
 refine ok_if (fun _ => ?_) (fun _ => ?_)
 ·have hyl := loseF_l512 hT.good.len x.2.2.1 x.2.2.2.2.1 (waitB x.2.2.1 x.2.2.2.2.1)
  refine ok_lose hl3 hT.good (fun B d L4 w4 hl4 g4 hid4 hO4 => ?_)
  try dsimp only
  have hF4 := fine_lg (S := L) hF3 g4 hgw hid4
  have hr4 := hr3.past g4
  refine ok_ours hO4.sl hyl (fun B5 d5 L5 w5 g5 hO5 => ?_)
  try dsimp only
  have hF5 := hF4.trans g5
  have hr5 := hr4.later g5
  have hl5 := hl4.later g5
  refine ok_rlose hr5 hT (lglt hl5) hF5.size (fun A6 c6 B6 d6 L6 w6 hr6 g6 hid6 hO6 => ?_)
  try dsimp only
  have hF6 := Fine.own hF5 g6 (fun b hb => Or.inr (hr5.home b hb).1) hid6
  have hl6 := hl5.past hr5 g6
  have hO5 := OwnF.others hO5 (fun b hb h => by have h1 := Own.base hO5 hb; have h2 := (hr4.lt b h).1; omega) g6
  refine ok_same hO5.sl hO6.sl hyl (fun L7 w7 g7 => ?_)
  try dsimp only
  refine ok_if (fun _ => ?_) (fun h => by simp at h)
  have hF7 := hF6.trans g7
  have hl7 := hl6.later g7
  have hr7 := hr6.later g7
  refine ok_tailP hl7 hr7 (loseF_t hT _ _ _) (fun La wa ga => ?_)
  refine ok_again (I := I) m' (Nat.lt_succ_self _) (fun L8 w8 he => ?_)
  rw [hI]
  exact ⟨j + 1, _, _, _, by rw [wrap_in ((j : Int) + 1) (by omega) (by omega)]; rfl, by omega, (hF7.trans ga).trans he.fine, (hl7.later ga).later he.fine, (hr7.later ga).later he.fine, (loseF_t hT _ _ _)⟩
 refine ok_if (fun _ => ?_) (fun _ => ?_)
 ·refine ok_duec hl3 hT.good (fun L4 w4 g4 => ?_)
  try dsimp only
  have hF4 := hF3.trans g4
  have hr4 := hr3.later g4
  have hl4 := hl3.later g4
  refine ok_rdue hr4 hT (lglt hl4) hF4.size (fun A6 c6 L5 w5 hr5 g5 hid5 => ?_)
  try dsimp only
  have hF5 := Fine.own hF4 g5 (fun b hb => Or.inr (hr4.home b hb).1) hid5
  have hl5 := hl4.past hr4 g5
  refine ok_if (fun _ => ?_) (fun h => by simp at h)
  refine ok_tailP hl5 hr5 hT (fun La wa ga => ?_)
  refine ok_again (I := I) m' (Nat.lt_succ_self _) (fun L8 w8 he => ?_)
  rw [hI]
  exact ⟨j + 1, _, _, _, by rw [wrap_in ((j : Int) + 1) (by omega) (by omega)]; rfl, by omega, (hF5.trans ga).trans he.fine, (hl5.later ga).later he.fine, (hr5.later ga).later he.fine, hT⟩
 ·refine ok_dropc hl3 hT.good (fun B d L4 w4 hl4 g4 hid4 hO4 => ?_)
  try dsimp only
  have hF4 := fine_lg (S := L) hF3 g4 hgw hid4
  have hr4 := hr3.past g4
  refine ok_ours hO4.sl hT.good.len (fun B5 d5 L5 w5 g5 hO5 => ?_)
  try dsimp only
  have hF5 := hF4.trans g5
  have hr5 := hr4.later g5
  have hl5 := hl4.later g5
  refine ok_rdrop hr5 (fun L6 w6 hr6 g6 hid6 hO6 => ?_)
  try dsimp only
  have hF6 := Fine.own hF5 g6 (fun b hb => Or.inr (hr5.home b hb).1) hid6
  have hl6 := hl5.past hr5 g6
  have hO5 := OwnF.others hO5 (fun b hb h => by have h1 := Own.base hO5 hb; have h2 := (hr4.lt b h).1; omega) g6
  refine ok_same hO5.sl hO6 hT.good.len (fun L7 w7 g7 => ?_)
  try dsimp only
  refine ok_if (fun _ => ?_) (fun h => by simp at h)
  have hF7 := hF6.trans g7
  have hl7 := hl6.later g7
  have hr7 := hr6.later g7
  refine ok_tailP hl7 hr7 (drop_t hT) (fun La wa ga => ?_)
  refine ok_again (I := I) m' (Nat.lt_succ_self _) (fun L8 w8 he => ?_)
  rw [hI]
  exact ⟨j + 1, _, _, _, by rw [wrap_in ((j : Int) + 1) (by omega) (by omega)]; rfl, by omega, (hF7.trans ga).trans he.fine, (hl7.later ga).later he.fine, (hr7.later ga).later he.fine, (drop_t hT)⟩
theorem a3_args (A : Option Addr) (n c g b : Nat) : #[Value.slice A n c, undef, Value.bool false, Value.pointer (lp g), Value.pointer (some ⟨b, 0, none⟩), undef, undef, undef, undef, undef, undef, undef, undef, undef, Value.pointer (lp g), Value.agg #[Value.slice none 0 0, Value.int IntKind.i64 (-1), Value.int IntKind.i64 (-1), Value.int IntKind.i64 0], undef, undef, undef, undef, undef, undef, undef, undef, undef, undef, undef, undef, undef, undef, undef, undef, undef, undef, undef, undef, undef, undef, undef, undef, undef, undef, undef, undef, undef, undef, undef, undef, undef, undef, undef, undef, undef, undef, undef, undef, undef, undef, undef, undef, undef, undef, undef, undef, undef, undef, undef, undef, undef, undef, undef, undef, undef, undef, undef, undef, undef, undef, undef, undef, undef, undef, undef, undef, undef, undef, undef, undef, undef, undef, undef, undef, undef, undef, undef, undef, undef, undef, undef, undef, undef, undef, undef, undef, undef, undef, undef, undef, undef, undef, undef, undef, undef, undef, undef, undef, undef, undef, undef, undef, undef, undef, undef, undef, undef, undef, undef, undef, undef, undef, undef, undef, undef, undef, undef, undef, undef, undef] = (AV.gs id (args3 A n c (lp g) (some ⟨b, 0, none⟩))).toArray ++ Array.replicate (Try.f3.ntmps - (AV.gs id (args3 A n c (lp g) (some ⟨b, 0, none⟩))).toArray.size) undef := by kernel_rfl
set_option maxHeartbeats 4000000 in
theorem law_plays (A : Option Addr) (c : Nat) (script : List ActT) (w : World) (hS : SlR R22 (fun _ => False) w A c script) : Calls Try.prog 3 #[.slice A script.length c] w fun e w' => e = .returned (.bool true) ∧ Below w.heap.size w w' := by
 refine calls_of_wp Try.func3 f3_body ?_
 generalize hQ : bodyPost Try.prog Try.f3 _ = Q
 have en : Try.f3.ntmps = 138 := by kernel_rfl
 rw [en]
 simp only [p0, p1, p2, Try.f3, List.size_toArray, List.length_cons, List.length_nil, Nat.reduceAdd, Nat.reduceSub, Array.replicate_succ, Array.replicate_zero, List.push_toArray, List.append_toArray, List.nil_append, List.cons_append]
 go_wp2_with fail
 refine (new_c _).mono ?_
 rintro e w1 ⟨g, rfl, hg, hb1, hl1⟩
 go_wp2_with fail
 refine (rnew_c _).mono ?_
 rintro e w2 ⟨rfl, hb2⟩
 go_wp2
 rw [a3_args, ← hQ]
 obtain ⟨w3, hw3⟩ : ∃ w3, w3 = w2.alloc (Obj.cells #[Value.slice none 0 0, Value.int IntKind.i64 (-1), Value.int IntKind.i64 (-1), Value.int IntKind.i64 0] 27) := ⟨_, rfl⟩
 rw [← hw3]
 have hb12 : Below w.heap.size w w2 := hb1.trans (hb2.mono hb1.size)
 have hb : Below w.heap.size w w3 := by rw [hw3]; exact hb12.alloc hb12.size _
 have hs3 : w3.heap.size = w2.heap.size + 1 := by rw [hw3]; simp
 have hl3 : LedO (fun _ => False) w3 g q0 := (hl1.bare.later (fine_none hb2)).later (by rw [hw3]; exact fine_none ((Below.refl w2.heap.size w2).alloc (Nat.le_refl _) _))
 have hg2 : ∀ b, lb g b → b < w2.heap.size := fun b hb => ((hl1.bare.later (fine_none hb2)).lt b hb).1
 have hr3 : RefO w.heap.size (lb g) (fun _ => False) w3 (some ⟨w2.heap.size, 0, none⟩) none 0 q0 := by
  refine ⟨Or.inr ⟨w2.heap.size, 0, #[Value.slice none 0 0, Value.int IntKind.i64 (-1), Value.int IntKind.i64 (-1), Value.int IntKind.i64 0], rfl, Nat.zero_le _, ⟨by omega, fun h => h⟩, by
   rw [hw3]
   show (w2.heap.push _)[_]? = _
   rw [Array.getElem?_push, if_pos rfl], Nat.le_refl _, by simp [maxLen], Nat.le_refl _, rfl⟩, OwnO.nil, Dj.nil2, fun b hb => ?_⟩
  rcases hb with ⟨x, hx, h1⟩ | ⟨x, hx, h1⟩
  ·cases hx
   have h1 : w2.heap.size = b := h1
   exact ⟨by have := hb12.size; omega, fun h => by have := hg2 b h; omega⟩
  ·cases hx
 refine wp_mono (wp_mid (P := Try.prog) mixed (fn := Try.f3) (c := c3) (w := w3) (R := fun e w' => e = .returned (.bool true) ∧ Below w.heap.size w w') A3 noC (args3 A script.length c (lp g) (some ⟨w2.heap.size, 0, none⟩)) [] [] id rfl (fun q hq => by cases hq) rfl (fun x hx => by cases hx) (fun x hx => by cases hx) rfl rfl ?_) (fun _ _ _ h => h)
 have he : (fun b => ∃ x ∈ ([] : Out), id x.1 = b) = fun _ => False := by
  funext b
  apply propext
  exact ⟨fun ⟨x, hx, _⟩ => (by cases hx), False.elim⟩
 rw [he]
 exact c3_ok A c script w w3 g _ hS (fine_none hb) hg hl3 hr3
end Go.Proofs.Ytkchgcefmnbebaa.X
