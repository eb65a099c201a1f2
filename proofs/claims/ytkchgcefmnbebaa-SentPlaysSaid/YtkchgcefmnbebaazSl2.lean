import Derived.Test.YtkchgcefmnbebaazSl1
namespace Go.Proofs.Ytkchgcefmnbebaa.X
open Go Go.RowKit Go.Proofs.YtkchgcefmnbebaaW.Rx
set_option linter.unusedVariables false
set_option linter.unusedSimpArgs false
set_option maxRecDepth 20000
abbrev A10 : Nat → LA := fun r => if r = 5 then ⟨[(9, false, [Lf.i .i64])], []⟩ else noA r
set_option maxHeartbeats 4000000 in
theorem f10_t : tree Try.prog A10 noC Try.f10 [] [] =
  .call 8 ([]) ([]) (Sh.one) ([Lf.p]) ([]) (fun x0 =>
   bif Option.isNone x0.1 then (
    .done (AV.v (Value.bool false)) ([]))
   else (
    .loop ([Lf.i .i64]) ((0, PUnit.unit)) 0 (fun x1 =>
     bif decide (x1.1 < 5) then (
      .call 11 ([AV.v (Value.pointer x0.1), AV.v (.int .i64 x1.1), AV.v (.int .i64 0), AV.v (.int .i64 10)]) ([]) (Sh.one) ([Lf.i .i64]) ([]) (fun x2 =>
       bif x2.1 != 0 then (
        .done (AV.v (Value.bool false)) ([]))
       else (
        .again 0 ([Lf.i .i64]) ((IntKind.i64.wrap (x1.1 + 1), PUnit.unit)))))
     else (
      .sem (Instr.buildSlice 30 1 #[(0, Value.agg #[Value.int IntKind.i64 4, Value.int IntKind.i64 4])]) ([Lf.sl]) (Sh.one) (fun x2 =>
       .call 13 ([AV.v (Value.pointer x0.1), AV.v (Value.slice x2.1.1 x2.1.2.1 x2.1.2.2), AV.v (.int .i64 1), AV.v (.int .i64 100)]) ([]) (Sh.tup [(false, 1), (false, 1), (false, 1)]) ([Lf.sl, Lf.sl, Lf.i .i64]) ([]) (fun x3 =>
        bif x3.2.2.1 == 0 then (
         bif ((x3.1.2.1 : Nat) : Int) == 1 then (
          .need (true && decide (0 < ((x3.1.2.1 : Nat) : Int)) && Option.isSome x3.1.1) (
          .need (Option.isSome (Option.map (fun x => Addr.add x 0) x3.1.1)) (
          .ld (Option.map (fun x => Addr.add x 0) (Option.map (fun x => Addr.add x 0) x3.1.1)) ([Lf.i .i64]) (fun x4 =>
           bif x4.1 == 4 then (
            bif ((x3.2.1.2.1 : Nat) : Int) == 2 then (
             .need (true && decide (1 < ((x3.2.1.2.1 : Nat) : Int)) && Option.isSome x3.2.1.1) (
             .need (Option.isSome (Option.map (fun x => Addr.add x 3) x3.2.1.1)) (
             .ld (Option.map (fun x => Addr.add x 0) (Option.map (fun x => Addr.add x 3) x3.2.1.1)) ([Lf.i .i64]) (fun x5 =>
              bif x5.1 == 1 then (
               .call 23 ([AV.v (Value.pointer x0.1)]) ([]) (Sh.one) ([Lf.i .i64]) ([]) (fun x6 =>
                bif x6.1 == 4 then (
                 .call 24 ([AV.v (Value.pointer x0.1)]) ([]) (Sh.one) ([Lf.sl]) ([]) (fun x7 =>
                  bif ((x7.1.2.1 : Nat) : Int) == 2 then (
                   .call 19 ([AV.v (Value.pointer x0.1), AV.v (.int .i64 100)]) ([]) (Sh.one) ([Lf.i .i64]) ([]) (fun x8 =>
                    bif x8.1 == 100 then (
                     .done (AV.v (Value.bool true)) ([]))
                    else (
                     .done (AV.v (Value.bool false)) ([]))))
                  else (
                   .done (AV.v (Value.bool false)) ([]))))
                else (
                 .done (AV.v (Value.bool false)) ([]))))
              else (
               .done (AV.v (Value.bool false)) ([]))))))
            else (
             .done (AV.v (Value.bool false)) ([])))
           else (
            .done (AV.v (Value.bool false)) ([]))))))
         else (
          .done (AV.v (Value.bool false)) ([])))
        else (
         .done (AV.v (Value.bool false)) ([])))))))) := by kernel_rfl
def qA (j : Nat) : Led := ((List.range j).map (fun (i : Nat) => ((i : Int), (0 : Int), (10 : Int))), -1, (j : Int) - 1, 0)
theorem qA_sent (j : Nat) (h : j < 5) : sentF (qA j) (j : Int) 0 10 (timeB 0) = (0, qA (j + 1)) := by
 have : j = 0 ∨ j = 1 ∨ j = 2 ∨ j = 3 ∨ j = 4 := by omega
 rcases this with rfl | rfl | rfl | rfl | rfl <;> decide +kernel
theorem qA_good (j : Nat) (h : j ≤ 5) : LedG (qA j) := by
 induction j with
 | zero => exact q0_good
 | succ j ih =>
  have := sentF_good (ih (by omega)) (j : Int) 0 10 (timeB 0)
  rwa [qA_sent j (by omega)] at this
theorem qA_ack : ackF (qA 5) [(4, 4)] 1 100 (decide (RightB [(4, 4)])) (waitB 1 100) (fun p => hasB [(4, 4)] p.1) = ([(4, 0, 10)], [(0, 0, 10), (1, 0, 10)], 0, ([(2, 0, 10), (3, 0, 10)], 4, 4, 0)) := by kernel_rfl
theorem qA_due : dueF ([(2, 0, 10), (3, 0, 10)], 4, 4, 0) 100 (waitB 0 100) = 100 := by decide +kernel
set_option maxHeartbeats 8000000 in
theorem alive_c (w : World) : Calls Try.prog 10 #[] w fun e w' => e = .returned (.bool true) ∧ Below w.heap.size w w' := by
 refine enter0 (P := Try.prog) mixed A10 noC [] Try.func10 (c := _) rfl rfl rfl (fun hF0 => ?_)
 rw [f10_t]
 refine ok_callm rfl (fun L0 w0 g0 lt0 => ?_)
 refine (new_c w0).mono ?_
 rintro e w1 ⟨g, rfl, hg, hb1, hl1⟩
 refine ⟨(lp g, ()), rfl, hb1, fun g1 => ?_⟩
 try dsimp only
 have hl1 := hl1.seen (L' := L0) (fun b hb hl => by have := lt0 b hl; rcases hb with h | h <;> omega)
 have hgw : w.heap.size ≤ g := Nat.le_trans g0.size hg
 have hlb : ∀ b, lb g b → False ∨ w.heap.size ≤ b := fun b hb => Or.inr (by rcases hb with h | h <;> omega)
 refine ok_if (fun h => by simp at h) (fun _ => ?_)
 obtain ⟨I, hI⟩ : ∃ I : Nat → Tup [Lf.i .i64] → (Nat → Prop) → World → Prop, I = (fun m y L w' => ∃ j : Nat, y = ((j : Int), ()) ∧ j + m = 5 ∧ Fine (fun _ => False) w L w' ∧ LedO L w' g (qA j)) := ⟨_, rfl⟩
 refine ok_loop I 5 (by rw [hI]; exact ⟨0, rfl, rfl, g1, hl1⟩) ?_
 intro m i L w2 hi
 rw [hI] at hi
 obtain ⟨j, rfl, hj, hF2, hl2⟩ := hi
 try dsimp only
 have hB2 : ∀ b, lb g b → ¬ L b ∧ b < w2.heap.size := fun b hb => ⟨(hl2.lt b hb).2, (hl2.lt b hb).1⟩
 refine ok_if (fun hc => ?_) (fun hc => ?_)
 ·have hc : (j : Int) < 5 := of_decide_eq_true hc
  obtain ⟨m', rfl⟩ : ∃ m', m = m' + 1 := ⟨m - 1, by omega⟩
  refine ok_callo (lb g) rfl hB2 (fun L3 w3 g3 lt3 => ?_)
  refine (sent_c 0 g (qA j) j 0 10 (timeB 0) (isTime_F 0 0) w3 (hl2.later g3).bare (qA_good j (by omega))).mono ?_
  rw [qA_sent j (by omega)]
  rintro e w4 ⟨rfl, hf4, hl4⟩
  refine ⟨(0, ()), rfl, hf4, fun g4 hid4 hv4 => ?_⟩
  try dsimp only
  have hF4 : Fine (fun _ => False) w L3 w4 := Fine.own hF2 g4 hlb hid4
  have hl5 := hl4.seen (L' := L3) (fun b hb => hv4 b (Or.inl hb))
  refine ok_if (fun h => by simp at h) (fun _ => ?_)
  refine ok_again (I := I) m' (Nat.lt_succ_self _) (fun L8 w8 he => ?_)
  rw [hI]
  exact ⟨j + 1, by rw [wrap_in ((j : Int) + 1) (by omega) (by omega)]; rfl, by omega, hF4.trans he.fine, hl5.later he.fine⟩
 ·have hc : ¬ (j : Int) < 5 := of_decide_eq_false hc
  have hje : j = 5 := by omega
  subst hje
  refine ok_lit (R := R30) (base := w.heap.size) (xs := [((4 : Int), (4 : Int))]) #[Value.int .i64 4, Value.int .i64 4] E30 rfl (by decide) (by decide) ⟨_, _, rfl, rfl, by kernel_rfl⟩ rfl hF2.size (fun A c L3 w3 hX g3 hbl3 => ?_)
  try dsimp only
  have hF3 := hF2.trans g3
  have hl3 := hl2.later g3
  refine ok_callo (lb g) rfl (fun b hb => ⟨(hl3.lt b hb).2, (hl3.lt b hb).1⟩) (fun L4 w4 g4 lt4 => ?_)
  have hl4 := hl3.later g4
  have hX4 := OwnF.later hX g4
  refine (ack_c 2 g (qA 5) A c [(4, 4)] 1 100 (decide (RightB [(4, 4)])) (waitB 1 100) (fun p => hasB [(4, 4)] p.1) (right_F (by decide) (by decide)) (isWait_F _ 1 100) (fun _ p _ => has_F (by decide) (by decide) p.1) w4 hl4.bare (qA_good 5 (Nat.le_refl _)) ((OwnF.vis (L' := lb g) hX4 (fun b hb h => by have h1 := hbl3 b hb; have h2 := (hl2.lt b h).1; omega)).sl)).mono ?_
  rw [qA_ack]
  rintro e w5 ⟨B, d, B2, d2, rfl, hf5, hl5, hO5, hP5⟩
  refine ⟨((B, 1, d), (B2, 2, d2), 0, ()), rfl, hf5, fun g5 hid5 hv5 => ?_⟩
  try dsimp only
  have hF5 : Fine (fun _ => False) w L4 w5 := Fine.own hF3 g5 hlb hid5
  have hl6 := hl5.seen (L' := L4) (fun b hb => hv5 b (Or.inl hb))
  have hO6 : OwnF w4.heap.size L4 w5 54 R36 B d [(4, 0, 10)] := OwnF.vis hO5 (fun b hb => hv5 b (Or.inr (OwnF.fresh hO5 b hb)))
  have hP6 : OwnF w4.heap.size L4 w5 54 R36 B2 d2 [(0, 0, 10), (1, 0, 10)] := OwnF.vis hP5 (fun b hb => hv5 b (Or.inr (OwnF.fresh hP5 b hb)))
  have hBs : B.isSome = true := hO6.sl.some (by simp)
  have hB2s : B2.isSome = true := hP6.sl.some (by simp)
  refine ok_if (fun _ => ?_) (fun h => by simp at h)
  refine ok_if (fun _ => ?_) (fun h => by simp at h)
  refine ok_need (by rw [hBs]; rfl) (ok_need (by rw [Option.isSome_map]; exact hBs) ?_)
  refine ok_getf (R := R36.row) (i := 0) (x := ((4 : Int), (0 : Int), (10 : Int))) 0 hO6.sl (Fine.refl _ _) rfl (fun cs hcs => ⟨(4 : Int), by rw [hcs]; rfl, ?_⟩)
  try dsimp only
  refine ok_if (fun _ => ?_) (fun h => by simp at h)
  refine ok_if (fun _ => ?_) (fun h => by simp at h)
  refine ok_need (by rw [hB2s]; rfl) (ok_need (by rw [Option.isSome_map]; exact hB2s) ?_)
  refine ok_getf (R := R36.row) (i := 1) (x := ((1 : Int), (0 : Int), (10 : Int))) 0 hP6.sl (Fine.refl _ _) rfl (fun cs hcs => ⟨(1 : Int), by rw [hcs]; rfl, ?_⟩)
  try dsimp only
  refine ok_if (fun _ => ?_) (fun h => by simp at h)
  have hG6 : LedG ([(2, 0, 10), (3, 0, 10)], 4, 4, 0) := by
   have := (ackF_good (qA_good 5 (Nat.le_refl _)) [(4, 4)] 1 100 (decide (RightB [(4, 4)])) (waitB 1 100) (fun p => hasB [(4, 4)] p.1)).1
   rwa [qA_ack] at this
  refine ok_callq ((4 : Int), ()) (Fine.refl L4 w5) rfl (fun L w' gg => largest_c g _ w' (hl6.later gg).bare) (fun L7 w7 hF7 => ?_)
  try dsimp only
  have hF7' := hF5.trans hF7
  have hl7 := hl6.later hF7
  refine ok_if (fun _ => ?_) (fun h => by simp at h)
  refine ok_callm rfl (fun L8 w8 g8 lt8 => ?_)
  refine (out_c g _ w8 (hl7.later g8).bare hG6).mono ?_
  rintro e w9 ⟨B9, d9, rfl, hb9, hO9⟩
  refine ⟨((B9, 2, d9), ()), rfl, hb9, fun g9 => ?_⟩
  try dsimp only
  have hF9 := hF7'.trans g9
  have hl9 := hl7.later g9
  refine ok_if (fun _ => ?_) (fun h => by simp at h)
  refine ok_callq ((100 : Int), ()) (Fine.refl L8 w9) rfl (fun L w' gg => by
   have := due_c 0 g _ 100 (waitB 0 100) (isWait_F 0 0 100) w' (hl9.later gg).bare hG6
   rw [qA_due] at this
   exact this) (fun L10 w10 hF10 => ?_)
  try dsimp only
  refine ok_if (fun _ => ?_) (fun h => by simp at h)
  exact ok_done (hF9.trans hF10) rfl rfl
end Go.Proofs.Ytkchgcefmnbebaa.X
