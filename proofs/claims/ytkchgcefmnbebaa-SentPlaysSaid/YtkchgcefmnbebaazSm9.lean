import Derived.Test.YtkchgcefmnbebaazSm8
namespace Go.Proofs.Ytkchgcefmnbebaa.X
open Go Go.RowKit Go.Proofs.YtkchgcefmnbebaaW.Rx
set_option linter.unusedVariables false
set_option linter.unusedSimpArgs false
set_option maxRecDepth 20000
set_option maxHeartbeats 4000000 in
theorem f19_t (a0 : Option Addr) (a1 : Int) : tree Try.prog noA noC Try.f19 [AV.v (.pointer a0), AV.v (.int .i64 a1)] [] =
  .call 26 ([AV.v (Value.pointer a0)]) ([]) (Sh.one) ([Lf.b]) ([]) (fun x0 =>
   bif x0.1 then (
    .call 30 ([AV.v (.int .i64 0), AV.v (.int .i64 a1)]) ([]) (Sh.one) ([Lf.b]) ([]) (fun x1 =>
     bif x1.1 then (
      .call 39 ([AV.v (Value.pointer a0), AV.fn (Fn.func 40) [] [AV.p 1000 0]]) ([(1000, [AV.v (Value.pointer a0)], 23)]) (Sh.one) ([Lf.sl, Lf.p]) ([1]) (fun x2 =>
       bif ((x2.1.2.1 : Nat) : Int) == 0 then (
        .done (AV.v (.int .i64 (-1))) ([]))
       else (
        .need (true && decide (0 < ((x2.1.2.1 : Nat) : Int)) && Option.isSome x2.1.1) (
        .need (Option.isSome (Option.map (fun x => Addr.add x 0) x2.1.1)) (
        .ld (Option.map (fun x => Addr.add x 1) (Option.map (fun x => Addr.add x 0) x2.1.1)) ([Lf.i .i64]) (fun x3 =>
         .done (AV.v (.int .i64 (IntKind.i64.wrap (x3.1 + a1)))) ([])))))))
     else (
      .done (AV.v (.int .i64 (-1))) ([]))))
   else (
    .done (AV.v (.int .i64 (-1))) ([]))) := by kernel_rfl
set_option maxHeartbeats 4000000 in
theorem f21_t (a0 : Option Addr) : tree Try.prog noA noC Try.f21 [AV.v (.pointer a0)] [] =
  .call 26 ([AV.v (Value.pointer a0)]) ([]) (Sh.one) ([Lf.b]) ([]) (fun x0 =>
   bif x0.1 then (
    .call 31 ([AV.v (Value.pointer a0), AV.fn (Fn.func 41) [] []]) ([]) (Sh.one) ([Lf.sl]) ([]) (fun x1 =>
     .done (AV.v (Value.slice x1.1.1 x1.1.2.1 x1.1.2.2)) ([])))
   else (
    .done (AV.v (Value.slice none 0 0)) ([]))) := by kernel_rfl
set_option maxHeartbeats 4000000 in
theorem f23_t (a0 : Option Addr) : tree Try.prog noA noC Try.f23 [AV.v (.pointer a0)] [] =
  .call 26 ([AV.v (Value.pointer a0)]) ([]) (Sh.one) ([Lf.b]) ([]) (fun x0 =>
   bif x0.1 then (
    .need (Option.isSome a0) (
    .need (Option.isSome a0) (
    .ld (Option.map (fun x => Addr.add x 1) a0) ([Lf.i .i64]) (fun x1 =>
     .done (AV.v (.int .i64 x1.1)) ([])))))
   else (
    .done (AV.v (.int .i64 (-1))) ([]))) := by kernel_rfl
set_option maxHeartbeats 4000000 in
theorem f24_t (a0 : Option Addr) : tree Try.prog noA noC Try.f24 [AV.v (.pointer a0)] [] =
  .call 26 ([AV.v (Value.pointer a0)]) ([]) (Sh.one) ([Lf.b]) ([]) (fun x0 =>
   bif x0.1 then (
    .call 39 ([AV.v (Value.pointer a0), AV.fn (Fn.func 42) [] []]) ([]) (Sh.one) ([Lf.sl]) ([]) (fun x1 =>
     .done (AV.v (Value.slice x1.1.1 x1.1.2.1 x1.1.2.2)) ([])))
   else (
    .done (AV.v (Value.slice none 0 0)) ([]))) := by kernel_rfl
set_option maxHeartbeats 4000000 in
theorem f11_t (a0 : Option Addr) (a1 a2 a3 : Int) : tree Try.prog noA noC Try.f11 [AV.v (.pointer a0), AV.v (.int .i64 a1), AV.v (.int .i64 a2), AV.v (.int .i64 a3)] [] =
  .call 26 ([AV.v (Value.pointer a0)]) ([]) (Sh.one) ([Lf.b]) ([]) (fun x0 =>
   bif x0.1 then (
    bif decide (a1 < 0) then (
     .done (AV.v (.int .i64 1)) ([]))
    else (
     bif decide (4611686018427387903 < a1) then (
      .done (AV.v (.int .i64 1)) ([]))
     else (
      .call 27 ([AV.v (.int .i64 a2)]) ([]) (Sh.one) ([Lf.b]) ([]) (fun x1 =>
       bif x1.1 then (
        bif decide (a3 < 1) then (
         .done (AV.v (.int .i64 1)) ([]))
        else (
         bif decide (1200 < a3) then (
          .done (AV.v (.int .i64 1)) ([]))
         else (
          .need (Option.isSome a0) (
          .need (Option.isSome a0) (
          .ld (Option.map (fun x => Addr.add x 2) a0) ([Lf.i .i64]) (fun x2 =>
           bif decide (a1 ≤ x2.1) then (
            .done (AV.v (.int .i64 14)) ([]))
           else (
            .need (Option.isSome a0) (
            .need (Option.isSome a0) (
            .ld (Option.map (fun x => Addr.add x 3) a0) ([Lf.i .i64]) (fun x3 =>
             bif decide (a2 < x3.1) then (
              .done (AV.v (.int .i64 14)) ([]))
             else (
              .need (Option.isSome a0) (
              .need (Option.isSome a0) (
              .ld (Option.map (fun x => Addr.add x 0) a0) ([Lf.m]) (fun x4 =>
               .sem (Builtin.len_ #[56] 3 #[Value.map x4.1]) ([Lf.i .i64]) (Sh.one) (fun x5 =>
                bif decide (512 ≤ x5.1) then (
                 .done (AV.v (.int .i64 6)) ([]))
                else (
                 .need (Option.isSome a0) (
                 .need (Option.isSome a0) (
                 .ld (Option.map (fun x => Addr.add x 0) a0) ([Lf.m]) (fun x6 =>
                  .sem (updSem 56 (Value.map x6.1) (Value.int IntKind.i64 a1) (Value.agg #[Value.int IntKind.i64 a1, Value.int IntKind.i64 a2, Value.int IntKind.i64 a3])) ([]) (Sh.tup []) (fun x7 =>
                   .need (Option.isSome a0) (
                   .need (Option.isSome a0) (
                   .sto (Option.map (fun x => Addr.add x 2) a0) ([AV.v (.int .i64 a1)]) ([]) (
                   .need (Option.isSome a0) (
                   .need (Option.isSome a0) (
                   .sto (Option.map (fun x => Addr.add x 3) a0) ([AV.v (.int .i64 a2)]) ([]) (
                   .done (AV.v (.int .i64 0)) ([])))))))))))))))))))))))))))
       else (
        .done (AV.v (.int .i64 1)) ([]))))))
   else (
    .done (AV.v (.int .i64 2)) ([]))) := by kernel_rfl
set_option maxHeartbeats 4000000 in
theorem f13_t (a0 : Option Addr) (a1 : Option Addr × Nat × Nat) (a2 a3 : Int) : tree Try.prog noA noC Try.f13 [AV.v (.pointer a0), AV.v (.slice a1.1 a1.2.1 a1.2.2), AV.v (.int .i64 a2), AV.v (.int .i64 a3)] [] =
  .call 26 ([AV.v (Value.pointer a0)]) ([]) (Sh.one) ([Lf.b]) ([]) (fun x0 =>
   bif x0.1 then (
    .call 29 ([AV.v (Value.slice a1.1 a1.2.1 a1.2.2)]) ([]) (Sh.one) ([Lf.b]) ([]) (fun x1 =>
     bif x1.1 then (
      bif ((a1.2.1 : Nat) : Int) == 0 then (
       .done (AV.tup [AV.v (Value.slice none 0 0), AV.v (Value.slice none 0 0), AV.v (.int .i64 1)]) ([]))
      else (
       .call 30 ([AV.v (.int .i64 a2), AV.v (.int .i64 a3)]) ([]) (Sh.one) ([Lf.b]) ([]) (fun x2 =>
        bif x2.1 then (
         .need (decide (0 ≤ IntKind.i64.wrap (((a1.2.1 : Nat) : Int) - 1)) && decide (IntKind.i64.wrap (((a1.2.1 : Nat) : Int) - 1) < ((a1.2.1 : Nat) : Int)) && Option.isSome a1.1) (
         .need (Option.isSome (Option.map (fun x => Addr.add x (Int.toNat (IntKind.i64.wrap (((a1.2.1 : Nat) : Int) - 1)) * 2)) a1.1)) (
         .ld (Option.map (fun x => Addr.add x 1) (Option.map (fun x => Addr.add x (Int.toNat (IntKind.i64.wrap (((a1.2.1 : Nat) : Int) - 1)) * 2)) a1.1)) ([Lf.i .i64]) (fun x3 =>
          .need (Option.isSome a0) (
          .need (Option.isSome a0) (
          .ld (Option.map (fun x => Addr.add x 2) a0) ([Lf.i .i64]) (fun x4 =>
           bif decide (x4.1 < x3.1) then (
            .done (AV.tup [AV.v (Value.slice none 0 0), AV.v (Value.slice none 0 0), AV.v (.int .i64 14)]) ([]))
           else (
            .call 31 ([AV.v (Value.pointer a0), AV.fn (Fn.func 32) [] [AV.p 1000 0]]) ([(1000, [AV.v (Value.slice a1.1 a1.2.1 a1.2.2)], 30)]) (Sh.one) ([Lf.sl, Lf.sl]) ([1]) (fun x5 =>
             .need (Option.isSome a0) (
             .need (Option.isSome a0) (
             .ld (Option.map (fun x => Addr.add x 1) a0) ([Lf.i .i64]) (fun x6 =>
              .need (decide (0 ≤ IntKind.i64.wrap (((x5.2.1.2.1 : Nat) : Int) - 1)) && decide (IntKind.i64.wrap (((x5.2.1.2.1 : Nat) : Int) - 1) < ((x5.2.1.2.1 : Nat) : Int)) && Option.isSome x5.2.1.1) (
              .need (Option.isSome (Option.map (fun x => Addr.add x (Int.toNat (IntKind.i64.wrap (((x5.2.1.2.1 : Nat) : Int) - 1)) * 2)) x5.2.1.1)) (
              .ld (Option.map (fun x => Addr.add x 1) (Option.map (fun x => Addr.add x (Int.toNat (IntKind.i64.wrap (((x5.2.1.2.1 : Nat) : Int) - 1)) * 2)) x5.2.1.1)) ([Lf.i .i64]) (fun x7 =>
               .need (Option.isSome a0) (
               .need (Option.isSome a0) (
               .sto (Option.map (fun x => Addr.add x 1) a0) ([AV.v (.int .i64 (if x6.1 < x7.1 then x7.1 else x6.1))]) ([]) (
               .call 17 ([AV.v (Value.pointer a0), AV.v (.int .i64 a2), AV.v (.int .i64 a3)]) ([]) (Sh.one) ([Lf.sl]) ([]) (fun x8 =>
                .done (AV.tup [AV.v (Value.slice x5.1.1 x5.1.2.1 x5.1.2.2), AV.v (Value.slice x8.1.1 x8.1.2.1 x8.1.2.2), AV.v (.int .i64 0)]) ([]))))))))))))))))))))
        else (
         .done (AV.tup [AV.v (Value.slice none 0 0), AV.v (Value.slice none 0 0), AV.v (.int .i64 1)]) ([])))))
     else (
      .done (AV.tup [AV.v (Value.slice none 0 0), AV.v (Value.slice none 0 0), AV.v (.int .i64 1)]) ([]))))
   else (
    .done (AV.tup [AV.v (Value.slice none 0 0), AV.v (Value.slice none 0 0), AV.v (.int .i64 2)]) ([]))) := by kernel_rfl
section
variable {P : Program} {Q : Ending → World → Prop} {pin : List (Nat × Nat)} {J : Jt} {L L' Lu : Nat → Prop} {wu w w' : World} {g : Nat} {q : Led}
theorem ok_upd {k e : TypeId} {t : TypeId} {kk : Tup [] → XT} (h : LedO Lu wu g q) (ht : P.underlying t = some (.map k e)) (hk : P.underlying k = some (.int .i64)) (x : Pk) (hn : ∀ p ∈ q.1, p.1 ≠ x.1)
  (hc : ∀ L w, LedO L w g (q.1 ++ [x], q.2) → Fine (fun b => Lu b ∨ b = g) wu L w → (∀ q, L q → Lu q ∨ wu.heap.size ≤ q) → (kk ()).ok P pin Q J L w) : (XT.sem (updSem t (.map (some g)) (.int .i64 x.1) (pkV x)) [] (Sh.tup []) kk).ok P pin Q J Lu wu := by
 refine ok_semm (fun L w hF hlt => ?_)
 have h := h.later hF
 obtain ⟨es, clock, hm⟩ := h.map
 obtain ⟨es', hr, hm'⟩ := hm.put ht hk x hn
 have hne : ∀ b, b ≠ g → (setB w g (.map es' (clock + 1))).heap[b]? = w.heap[b]? := fun b hb => setB_other hb
 have hF1 : Fine (fun b => L b ∨ b = g) w L (setB w g (.map es' (clock + 1))) := ⟨rfl, rfl, rfl, by rw [setB_size]; exact Nat.le_refl _, fun b _ hn => hne b (fun e => hn (Or.inr e)), fun b hb => Or.inl (Or.inl hb)⟩
 refine ⟨(), _, hr, ⟨by rw [setB_size]; exact Nat.le_refl _, ⟨rfl, rfl, rfl⟩, fun b hb _ => hne b (fun e => h.vis (e ▸ hb))⟩, hc L _ ⟨h.obj.others (fun b hb e => by have := lp_blk.1 hb; omega) hF1, h.vis, es', clock + 1, hm'⟩ ?_ hF.hid⟩
 refine ⟨hF.os, hF.tape, hF.output, by rw [setB_size]; exact hF.size, fun b hb hn => ?_, fun b hb => (hF.hid b hb).imp Or.inl id⟩
 rw [hne b (fun e => hn (Or.inr e))]
 exact hF.keep b hb (fun hl => hn (Or.inl hl))
theorem ok_size {k e ty : TypeId} {t : TypeId} {kk : Tup [Lf.i .i64] → XT} (h : LedO Lu wu g q) (ht : P.underlying t = some (.map k e)) (hc : ∀ L w, Fine Lu wu L w → (kk ((q.1.length : Nat), ())).ok P pin Q J L w) : (XT.sem (Builtin.len_ #[t] ty #[.map (some g)]) [Lf.i .i64] Sh.one kk).ok P pin Q J Lu wu := by
 refine ok_semm (fun L w hF hlt => ?_)
 obtain ⟨es, clock, hm⟩ := (h.later hF).map
 exact ⟨((q.1.length : Nat), ()), w, hm.size ht, keeps_below hlt (Below.refl _ _), hc L w hF⟩
theorem LedO.store {z : Int × Int × Int} (h : LedO L w g q) (ho : OwnO 0 L' w' 58 RW58 (lp g) 1 [(some g, z)]) (f : Fine (fun b => L b ∨ blk (lp g, 0, 0) b) w L' w') (hid : ∀ q, L' q → L q ∨ w.heap.size ≤ q) : LedO L' w' g (q.1, z) := by
 refine ⟨ho, fun hl => ?_, ?_⟩
 ·rcases hid g hl with h1 | h1
  ·exact h.vis h1
  ·have := (h.lt g (Or.inl rfl)).1; omega
 ·obtain ⟨es, clock, hm⟩ := h.map
  exact ⟨es, clock, hm.later (f.keep g hm.lt (fun hb => hb.elim h.vis (fun hb => by have := lp_blk.1 hb; omega)))⟩
theorem fine_none {w w2 : World} (h : Below w.heap.size w w2) : Fine (fun _ => False) w (fun _ => False) w2 := ⟨h.os, h.tape, h.output, h.size, fun b hb _ => h.block b hb, fun _ h => h.elim⟩
theorem fine_lb {w w2 : World} {L : Nat → Prop} (g : Nat) (h : Fine (fun _ => False) w L w2) : Fine (lb g) w L w2 := ⟨h.os, h.tape, h.output, h.size, fun b hb _ => h.keep b hb (fun h => h), fun b hb => (h.hid b hb).elim False.elim Or.inr⟩
end
set_option maxHeartbeats 4000000 in
theorem drop_c (g : Nat) (q : Led) (w : World) (hL : LedO (fun _ => False) w g q) (hG : LedG q) : Calls Try.prog 21 #[.pointer (lp g)] w (SetE w g q.1 ([], q.2)) := by
 refine enter0 (P := Try.prog) mixed noA noC [AV.v (.pointer (lp g))] Try.func21 (c := _) rfl rfl rfl (fun hF0 => ?_)
 rw [f21_t]
 refine ok_callq (true, ()) hF0 rfl (fun L w1 g1 => led_ok g q w1 (hL.later g1).bare) (fun L1 w1 hF1 => ?_)
 try dsimp only
 refine ok_if (fun _ => ?_) (fun h => by simp at h)
 have hl2 := hL.later hF1
 refine ok_callo (lb g) rfl (fun b hb => ⟨(hl2.lt b hb).2, (hl2.lt b hb).1⟩) (fun L w3 g3 lt3 => ?_)
 have hl3 := hl2.later g3
 refine (settle_c 41 #[] (fun _ => true) (eg_of Try.func41 rfl rfl) g q w3 hl3.bare hG (ch41 w3 q.1)).mono ?_
 rintro e w4 ⟨B, d, rfl, hf4, hl4, hO4⟩
 have e1 : q.1.filter (fun _ => true) = q.1 := List.filter_eq_self.2 (fun _ _ => rfl)
 have e2 : q.1.filter (fun _ => !true) = [] := by simp
 rw [e2] at hl4
 rw [e1] at hO4 ⊢
 refine ⟨((B, q.1.length, d), ()), rfl, hf4, fun g4 hid4 hv4 => ?_⟩
 try dsimp only
 have hw3 := hF1.trans g3
 have hF4 : Fine (lb g) w L w4 := Fine.own (fine_lb g hF1) g4 (fun b hb => Or.inl hb) hid4
 have hO5 : OwnF w.heap.size L w4 54 R36 B d q.1 := (OwnF.vis hO4 (fun b hb => hv4 b (Or.inr (OwnF.fresh hO4 b hb)))).down hw3.size
 have hl5 := hl4.seen (L' := L) (fun b hb => hv4 b (Or.inl hb))
 intro ρ L' w' _ he _ _
 exact ⟨B, d, rfl, (hF4.ext he).with (fun b hb => Or.inl hb), (hl5.later he.fine).bare, (hO5.later he.fine).ret⟩
set_option maxHeartbeats 4000000 in
theorem out_c (g : Nat) (q : Led) (w : World) (hL : LedO (fun _ => False) w g q) (hG : LedG q) : Calls Try.prog 24 #[.pointer (lp g)] w (ListE w q.1) := by
 refine enter0 (P := Try.prog) mixed noA noC [AV.v (.pointer (lp g))] Try.func24 (c := _) rfl rfl rfl (fun hF0 => ?_)
 rw [f24_t]
 refine ok_callq (true, ()) hF0 rfl (fun L w1 g1 => led_ok g q w1 (hL.later g1).bare) (fun L1 w1 hF1 => ?_)
 try dsimp only
 refine ok_if (fun _ => ?_) (fun h => by simp at h)
 have hl2 := hL.later hF1
 refine ok_callm rfl (fun L w3 g3 lt3 => ?_)
 have hl3 := hl2.later g3
 obtain ⟨es, clock, hm⟩ := hl3.map
 refine (list_c 42 #[] (fun _ => true) (eg_of Try.func42 rfl rfl) (g + 1) g q.1 es clock w3 hl3.cell hm hG.sorted hG.rng' hG.len (ch42 w3 q.1)).mono ?_
 rintro e w4 ⟨B, d, rfl, hb4, hO4⟩
 have e1 : q.1.filter (fun _ => true) = q.1 := List.filter_eq_self.2 (fun _ _ => rfl)
 rw [e1] at hO4 ⊢
 refine ⟨((B, q.1.length, d), ()), rfl, hb4, fun g4 => ?_⟩
 try dsimp only
 have hw3 := hF1.trans g3
 have hF4 := hF1.trans g4
 have hO5 : OwnF w.heap.size L w4 54 R36 B d q.1 := (OwnF.vis hO4 (fun b hb hl => by have := OwnF.fresh hO4 b hb; have := lt3 b hl; omega)).down hw3.size
 intro ρ L' w' _ he _ _
 exact ⟨B, d, rfl, (hF4.ext he).below, (hO5.later he.fine).ret⟩
theorem largest_c (g : Nat) (q : Led) (w : World) (hL : LedO (fun _ => False) w g q) : Calls Try.prog 23 #[.pointer (lp g)] w fun e w' => e = .returned (.int .i64 q.2.1) ∧ Below w.heap.size w w' := by
 refine enter0 (P := Try.prog) mixed noA noC [AV.v (.pointer (lp g))] Try.func23 (c := _) rfl rfl rfl (fun hF0 => ?_)
 rw [f23_t]
 refine ok_callq (true, ()) hF0 rfl (fun L w1 g1 => led_ok g q w1 (hL.later g1).bare) (fun L1 w1 hF1 => ?_)
 try dsimp only
 refine ok_if (fun _ => ?_) (fun h => by simp at h)
 have hl2 := hL.later hF1
 refine ok_need rfl (ok_need rfl ?_)
 refine ok_ob (R := RW58.row) 1 hl2.obj.sl (Fine.refl _ _) (fun cs hcs => ⟨q.2.1, by rw [hcs]; rfl, ?_⟩)
 exact ok_done hF1 rfl rfl
def dueF (q : Led) (wait : Int) (v : Bool) : Int := bif v then (match q.1.filter (h40 q.2.1) with
 | [] => -1
 | p :: _ => IntKind.i64.wrap (p.2.1 + wait)) else -1
set_option maxHeartbeats 4000000 in
theorem due_c (k : Nat) (g : Nat) (q : Led) (wait : Int) (v : Bool) (hv : sent_isWait.F k 0 wait = some v) (w : World) (hL : LedO (fun _ => False) w g q) (hG : LedG q) : Calls Try.prog 19 #[.pointer (lp g), .int .i64 wait] w fun e w' => e = .returned (.int .i64 (dueF q wait v)) ∧ Below w.heap.size w w' := by
 refine enter0 (P := Try.prog) mixed noA noC [AV.v (.pointer (lp g)), AV.v (.int .i64 wait)] Try.func19 (c := _) rfl rfl rfl (fun hF0 => ?_)
 rw [f19_t]
 unfold dueF
 refine ok_callq (true, ()) hF0 rfl (fun L w1 g1 => led_ok g q w1 (hL.later g1).bare) (fun L1 w1 hF1 => ?_)
 try dsimp only
 refine ok_if (fun _ => ?_) (fun h => by simp at h)
 refine ok_callq (v, ()) hF1 rfl (fun L w1 g1 => sent_isWait.c k 0 wait v hv w1) (fun L2 w2 hF2 => ?_)
 try dsimp only
 have hl2 := hL.later hF2
 refine ok_if (fun hc => ?_) (fun hc => ?_)
 ·have hc : v = true := hc
  subst hc
  refine ok_callh (fun _ => False) (fun b hb => hb.elim) (fun ρ L w3 g3 lt3 hout hap => ?_)
  have hl3 := hl2.later g3
  obtain ⟨σ, hσ⟩ : ∃ σ : Nat → Nat, σ = fun k => match k with | 0 => ρ 1000 | k => k := ⟨_, rfl⟩
  have hS : Stand σ w3 (ex40 (lp g)) := by rw [hσ]; exact ⟨hout.1.2, trivial⟩
  have hA : Apart σ (ex40 (lp g)) := apart_map (by rw [hσ]; rfl) hap
  have hown : ∀ b, own σ (ex40 (lp g)) b → L b := by
   rintro b ⟨x, hx, rfl⟩
   rw [hσ]
   simp only [List.mem_cons, List.not_mem_nil, or_false] at hx
   subst hx
   exact hout.1.1
  have hch := ch40 σ g q w3 q.1 hA hS (hl3.seen (fun b hb ho => (hl3.lt b hb).2 (hown b ho)))
  rw [hσ] at hch
  obtain ⟨es, clock, hm⟩ := hl3.map
  refine (list_c 40 _ (h40 q.2.1) (eg_of Try.func40 rfl rfl) (g + 1) g q.1 es clock w3 hl3.cell hm hG.sorted hG.rng' hG.len hch).mono ?_
  rintro e w4 ⟨B, d, rfl, hb4, hO4⟩
  refine ⟨((B, (q.1.filter (h40 q.2.1)).length, d), lp g, ()), rfl, rfl, fine_none hb4, fun g4 hid4 hv4 => ?_⟩
  try dsimp only
  have hF4 : Fine (fun _ => False) w L w4 := by simpa using Fine.own (B := fun _ => False) hF2 g4 (fun b hb => hb.elim) hid4
  have hO5 : OwnF w3.heap.size L w4 54 R36 B d (q.1.filter (h40 q.2.1)) := OwnF.vis hO4 (fun b hb => hv4 b (Or.inr (OwnF.fresh hO4 b hb)))
  cases hfil : q.1.filter (h40 q.2.1) with
  | nil =>
   refine ok_if (fun _ => ?_) (fun h => by simp at h)
   exact ok_done hF4 rfl rfl
  | cons p r =>
   rw [hfil] at hO5
   have hB : B.isSome = true := hO5.sl.some (by simp)
   refine ok_if (fun h => by simp at h; omega) (fun _ => ?_)
   refine ok_need (by rw [hB]; simp) (ok_need (by cases B <;> simp_all) ?_)
   refine ok_getf (R := R36.row) (i := 0) 1 hO5.sl (Fine.refl _ _) rfl (fun cs hcs => ⟨p.2.1, by rw [hcs]; rfl, ?_⟩)
   exact ok_done hF4 rfl rfl
 ·have hc : v = false := hc
  subst hc
  exact ok_done hF2 rfl rfl
def sentF (q : Led) (n t s : Int) (vt : Bool) : Int × Led :=
 bif decide (n < 0) then (1, q) else bif decide (4611686018427387903 < n) then (1, q) else bif vt then (bif decide (s < 1) then (1, q) else bif decide (1200 < s) then (1, q) else
  bif decide (n ≤ q.2.2.1) then (14, q) else bif decide (t < q.2.2.2) then (14, q) else bif decide ((512 : Int) ≤ ((q.1.length : Nat) : Int)) then (6, q) else (0, (q.1 ++ [(n, t, s)], q.2.1, n, t))) else (1, q)
def SentE (w : World) (g : Nat) (r : Int × Led) (e : Ending) (w' : World) : Prop := e = .returned (.int .i64 r.1) ∧ Fine (lb g) w (lb g) w' ∧ LedO (fun _ => False) w' g r.2
set_option maxHeartbeats 4000000 in
theorem sent_c (k : Nat) (g : Nat) (q : Led) (n t s : Int) (vt : Bool) (hv : sent_isTime.F k t = some vt) (w : World) (hL : LedO (fun _ => False) w g q) (hG : LedG q) : Calls Try.prog 11 #[.pointer (lp g), .int .i64 n, .int .i64 t, .int .i64 s] w (SentE w g (sentF q n t s vt)) := by
 refine enter0 (P := Try.prog) mixed noA noC [AV.v (.pointer (lp g)), AV.v (.int .i64 n), AV.v (.int .i64 t), AV.v (.int .i64 s)] Try.func11 (c := _) rfl rfl rfl (fun hF0 => ?_)
 rw [f11_t]
 obtain ⟨r, hr⟩ : ∃ r, r = sentF q n t s vt := ⟨_, rfl⟩
 rw [← hr]
 unfold sentF at hr
 refine ok_callq (true, ()) hF0 rfl (fun L w1 g1 => led_ok g q w1 (hL.later g1).bare) (fun L1 w1 hF1 => ?_)
 try dsimp only
 refine ok_if (fun _ => ?_) (fun h => by simp at h)
 have fin : ∀ (c : Int) (L : Nat → Prop) (w2 : World), r = (c, q) → Fine (fun _ => False) w L w2 → (XT.done (AV.v (.int .i64 c)) []).ok Try.prog [] (SentE w g r) noJ L w2 := by
  intro c L w2 hrc hF
  subst hrc
  intro ρ L' w' _ he _ _
  exact ⟨rfl, (fine_lb g (hF.ext he)).with (fun b hb => Or.inl hb), (hL.later (hF.ext he)).bare⟩
 refine ok_if (fun hc => ?_) (fun hc => ?_)
 ·rw [hc] at hr; exact fin 1 _ _ hr hF1
 rw [hc] at hr
 have hn0 : ¬ n < 0 := of_decide_eq_false hc
 refine ok_if (fun hc => ?_) (fun hc => ?_)
 ·rw [hc] at hr; exact fin 1 _ _ hr hF1
 rw [hc] at hr
 refine ok_callq (vt, ()) hF1 rfl (fun L w1 g1 => sent_isTime.c k t vt hv w1) (fun L2 w2 hF2 => ?_)
 try dsimp only
 refine ok_if (fun hc => ?_) (fun hc => ?_)
 ·have hc : vt = true := hc
  subst hc
  have hl2 := hL.later hF2
  refine ok_if (fun hc => ?_) (fun hc => ?_)
  ·rw [hc] at hr; exact fin 1 _ _ hr hF2
  rw [hc] at hr
  refine ok_if (fun hc => ?_) (fun hc => ?_)
  ·rw [hc] at hr; exact fin 1 _ _ hr hF2
  rw [hc] at hr
  refine ok_need rfl (ok_need rfl ?_)
  refine ok_ob (R := RW58.row) 2 hl2.obj.sl (Fine.refl _ _) (fun cs hcs => ⟨q.2.2.1, by rw [hcs]; rfl, ?_⟩)
  try dsimp only
  refine ok_if (fun hc => ?_) (fun hc => ?_)
  ·rw [hc] at hr; exact fin 14 _ _ hr hF2
  rw [hc] at hr
  have hnl : ¬ n ≤ q.2.2.1 := of_decide_eq_false hc
  refine ok_need rfl (ok_need rfl ?_)
  refine ok_ob (R := RW58.row) 3 hl2.obj.sl (Fine.refl _ _) (fun cs hcs => ⟨q.2.2.2, by rw [hcs]; rfl, ?_⟩)
  try dsimp only
  refine ok_if (fun hc => ?_) (fun hc => ?_)
  ·rw [hc] at hr; exact fin 14 _ _ hr hF2
  rw [hc] at hr
  refine ok_need rfl (ok_need rfl ?_)
  refine ok_ob (R := RW58.row) 0 hl2.obj.sl (Fine.refl _ _) (fun cs hcs => ⟨some g, by rw [hcs]; rfl, ?_⟩)
  try dsimp only
  refine ok_size hl2 rfl (fun L3 w3 g3 => ?_)
  try dsimp only
  have hF3 := hF2.trans g3
  have hl3 := hl2.later g3
  refine ok_if (fun hc => ?_) (fun hc => ?_)
  ·rw [hc] at hr; exact fin 6 _ _ hr hF3
  rw [hc] at hr
  refine ok_need rfl (ok_need rfl ?_)
  refine ok_ob (R := RW58.row) 0 hl3.obj.sl (Fine.refl _ _) (fun cs hcs => ⟨some g, by rw [hcs]; rfl, ?_⟩)
  try dsimp only
  refine ok_upd hl3 rfl rfl (n, t, s) (fun p hp e => by have := hG.rng p hp; simp only at e; omega) (fun L4 w4 hl4 hF4 hid4 => ?_)
  have hF5 : Fine (lb g) w L4 w4 := Fine.own (fine_lb g hF3) hF4 (fun b hb => Or.inl (Or.inl hb)) hid4
  refine ok_need rfl (ok_need rfl ?_)
  refine ok_put0 (R := RW58) (x' := (some g, q.2.1, n, q.2.2.2)) (vs := [.int .i64 n]) 2 hl4.obj (show 2 + 1 ≤ 4 by decide) rfl (fun _ => rfl) (fun L6 w6 hO6 hF6 hid6 => ?_)
  have hl6 := hl4.store (z := (q.2.1, n, q.2.2.2)) hO6 hF6 hid6
  have hF7 : Fine (lb g) w L6 w6 := Fine.own hF5 hF6 (fun b hb => Or.inl (Or.inr (lp_blk.1 hb))) hid6
  refine ok_need rfl (ok_need rfl ?_)
  refine ok_put0 (R := RW58) (x' := (some g, q.2.1, n, t)) (vs := [.int .i64 t]) 3 hl6.obj (show 3 + 1 ≤ 4 by decide) rfl (fun _ => rfl) (fun L8 w8 hO8 hF8 hid8 => ?_)
  have hl8 := hl6.store (z := (q.2.1, n, t)) hO8 hF8 hid8
  have hF9 : Fine (lb g) w L8 w8 := Fine.own hF7 hF8 (fun b hb => Or.inl (Or.inr (lp_blk.1 hb))) hid8
  have hr : r = (0, (q.1 ++ [(n, t, s)], q.2.1, n, t)) := hr
  subst hr
  intro ρ L' w' _ he _ _
  exact ⟨rfl, (hF9.ext he).with (fun b hb => Or.inl hb), (hl8.later he.fine).bare⟩
 ·have hc : vt = false := hc
  subst hc
  exact fin 1 _ _ hr hF2
theorem sentF_good {q : Led} (h : LedG q) (n t s : Int) (vt : Bool) : LedG (sentF q n t s vt).2 := by
 unfold sentF
 by_cases h1 : n < 0
 ·rw [decide_eq_true h1]; exact h
 by_cases h2 : 4611686018427387903 < n
 ·rw [decide_eq_false h1, decide_eq_true h2]; exact h
 rw [decide_eq_false h1, decide_eq_false h2]
 cases vt
 ·exact h
 by_cases h3 : s < 1
 ·rw [decide_eq_true h3]; exact h
 by_cases h4 : 1200 < s
 ·rw [decide_eq_false h3, decide_eq_true h4]; exact h
 by_cases h5 : n ≤ q.2.2.1
 ·rw [decide_eq_false h3, decide_eq_false h4, decide_eq_true h5]; exact h
 by_cases h6 : t < q.2.2.2
 ·rw [decide_eq_false h3, decide_eq_false h4, decide_eq_false h5, decide_eq_true h6]; exact h
 by_cases h7 : (512 : Int) ≤ ((q.1.length : Nat) : Int)
 ·rw [decide_eq_false h3, decide_eq_false h4, decide_eq_false h5, decide_eq_false h6, decide_eq_true h7]; exact h
 rw [decide_eq_false h3, decide_eq_false h4, decide_eq_false h5, decide_eq_false h6, decide_eq_false h7]
 refine ⟨List.pairwise_append.2 ⟨h.sorted, List.pairwise_singleton _ _, fun x hx y hy => ?_⟩, fun p hp => ?_, by show n ≤ _; omega, by show (q.1 ++ [(n, t, s)]).length ≤ 512; rw [List.length_append, List.length_singleton]; omega⟩
 ·rw [List.mem_singleton.1 hy]
  have := h.rng x hx
  show x.1 < n
  omega
 ·show 0 ≤ p.1 ∧ p.1 ≤ n
  rcases List.mem_append.1 hp with hp | hp
  ·have := h.rng p hp; omega
  ·rw [List.mem_singleton.1 hp]
   constructor
   ·show 0 ≤ n; omega
   ·exact Int.le_refl _
def ackF (q : Led) (l : List (Int × Int)) (now wait : Int) (r v : Bool) (f : Pk → Bool) : List Pk × List Pk × Int × Led :=
 bif r then (bif ((l.length : Nat) : Int) == 0 then ([], [], 1, q) else bif v then (bif decide (q.2.2.1 < (l.getLastD (0, 0)).2) then ([], [], 14, q) else
  let z := loseF (q.1.filter (fun p => !f p), (if q.2.1 < (l.getLastD (0, 0)).2 then (l.getLastD (0, 0)).2 else q.2.1), q.2.2) now wait true
  (q.1.filter f, z.1, 0, z.2)) else ([], [], 1, q)) else ([], [], 1, q)
def AckE (w : World) (g : Nat) (r : List Pk × List Pk × Int × Led) (e : Ending) (w' : World) : Prop := ∃ (B : Option Addr) (d : Nat) (B2 : Option Addr) (d2 : Nat), e = .returned (.tuple #[.slice B r.1.length d, .slice B2 r.2.1.length d2, .int .i64 r.2.2.1]) ∧ Fine (lb g) w (lb g) w' ∧ LedO (fun _ => False) w' g r.2.2.2 ∧ OwnF w.heap.size (fun b => b < w.heap.size) w' 54 R36 B d r.1 ∧ OwnF w.heap.size (fun b => b < w.heap.size) w' 54 R36 B2 d2 r.2.1
theorem last_get {l : List (Int × Int)} (h : l.length ≠ 0) : getI l (((l.length : Nat) : Int) - 1) = some (l.getLastD (0, 0)) := by
 rw [getI_iff]
 refine ⟨by omega, ?_⟩
 rw [show ((((l.length : Nat) : Int) - 1).toNat) = l.length - 1 by omega, List.getLastD_eq_getLast?, List.getLast?_eq_getElem?]
 cases hl : l[l.length - 1]? with
 | none => rw [List.getElem?_eq_none_iff] at hl; omega
 | some z => rfl
end Go.Proofs.Ytkchgcefmnbebaa.X
