import Derived.Test.YtkchgcefmnbebaazRxU
import Derived.Test.YtkchgcefmnbebaazRxSeat
import Derived.Test.YtkchgcefmnbebaaProg
import Derived.Test.YtkchgcefmnbebaazSg1
namespace Go.Proofs.Ytkchgcefmnbebaa.X
open Go Go.RowKit Go.Proofs.YtkchgcefmnbebaaW.Rx
set_option linter.unusedVariables false
set_option linter.unusedSimpArgs false
set_option maxRecDepth 10000
abbrev ref08_Ledger_Sent.S (a0 A0_0 : Option Addr) : Nat → Prop := fun b => blk (a0, 0, 0) b ∨ blk (A0_0, 0, 0) b
def ref08_Ledger_Sent.F (k : Nat) (q0 : (List (Int × Int × Int)) × Int × Int × Int) (a1 : Int) (a2 : Int) (a3 : Int) : Option (Int × ((List (Int × Int × Int)) × Int × Int × Int)) := bif decide (a1 < 0) then (some ((1, q0))) else (bif decide (4611686018427387903 < a1) then (some ((1, q0))) else ((ref08_time.F k a2).bind fun v0_0 => bif v0_0 then (bif decide (a3 < 1) then (some ((1, q0))) else (bif decide (1200 < a3) then (some ((1, q0))) else (bif decide (a1 ≤ q0.2.2.1) then (some ((14, q0))) else (bif decide (a2 < q0.2.2.2) then (some ((14, q0))) else (bif decide (512 ≤ (((q0.1).length : Nat) : Int)) then (some ((6, q0))) else (bif decide (((([] : List (Int × Int × Int))).length + q0.1.length) * 24 ≤ 140737488355328) then (bif decide ((((([] : List (Int × Int × Int)) ++ q0.1)).length + (([(a1, a2, a3)] : List (Int × Int × Int))).length) * 24 ≤ 140737488355328) then (some ((0, (((([] : List (Int × Int × Int)) ++ q0.1) ++ ([(a1, a2, a3)] : List (Int × Int × Int))), q0.2.1, a1, a2)))) else none) else none)))))) else (some ((1, q0)))))
abbrev ref08_Ledger_Sent.A : Nat → LA := noA
set_option maxHeartbeats 4000000 in
theorem ref08_Ledger_Sent.t (a0 : Option Addr) (a1 : Int) (a2 : Int) (a3 : Int) : tree Try.prog ref08_Ledger_Sent.A noC Try.f12 [AV.v (Value.pointer a0), AV.v (.int .i64 a1), AV.v (.int .i64 a2), AV.v (.int .i64 a3)] [] =
  bif decide (a1 < 0) then (
   .done (AV.v (.int .i64 1)) ([]))
  else (
   bif decide (4611686018427387903 < a1) then (
    .done (AV.v (.int .i64 1)) ([]))
   else (
    .call 28 ([AV.v (.int .i64 a2)]) ([]) (Sh.one) ([Lf.b]) ([]) (fun x0 =>
     bif x0.1 then (
      bif decide (a3 < 1) then (
       .done (AV.v (.int .i64 1)) ([]))
      else (
       bif decide (1200 < a3) then (
        .done (AV.v (.int .i64 1)) ([]))
       else (
        .need (Option.isSome a0) (
        .need (Option.isSome a0) (
        .ld (Option.map (fun x => Addr.add x 2) a0) ([Lf.i .i64]) (fun x1 =>
         bif decide (a1 ≤ x1.1) then (
          .done (AV.v (.int .i64 14)) ([]))
         else (
          .need (Option.isSome a0) (
          .need (Option.isSome a0) (
          .ld (Option.map (fun x => Addr.add x 3) a0) ([Lf.i .i64]) (fun x2 =>
           bif decide (a2 < x2.1) then (
            .done (AV.v (.int .i64 14)) ([]))
           else (
            .need (Option.isSome a0) (
            .need (Option.isSome a0) (
            .ld (Option.map (fun x => Addr.add x 0) a0) ([Lf.sl]) (fun x3 =>
             bif decide (512 ≤ ((x3.1.2.1 : Nat) : Int)) then (
              .done (AV.v (.int .i64 6)) ([]))
             else (
              .need (Option.isSome a0) (
              .need (Option.isSome a0) (
              .ld (Option.map (fun x => Addr.add x 0) a0) ([Lf.sl]) (fun x4 =>
               .sem (Builtin.append_ { toList := [25, 25] } 25 { toList := [Value.slice none 0 0, Value.slice x4.1.1 x4.1.2.1 x4.1.2.2] }) ([Lf.sl]) (Sh.one) (fun x5 =>
                .sem (Instr.buildSlice 25 1 { toList := [(0, Value.agg { toList := [Value.int IntKind.i64 a1, Value.int IntKind.i64 a2, Value.int IntKind.i64 a3] })] }) ([Lf.sl]) (Sh.one) (fun x6 =>
                 .sem (Builtin.append_ { toList := [25, 25] } 25 { toList := [Value.slice x5.1.1 x5.1.2.1 x5.1.2.2, Value.slice x6.1.1 x6.1.2.1 x6.1.2.2] }) ([Lf.sl]) (Sh.one) (fun x7 =>
                  .need (Option.isSome a0) (
                  .need (Option.isSome a0) (
                  .sto (Option.map (fun x => Addr.add x 0) a0) ([AV.v (Value.slice x7.1.1 x7.1.2.1 x7.1.2.2)]) ([]) (
                  .need (Option.isSome a0) (
                  .need (Option.isSome a0) (
                  .sto (Option.map (fun x => Addr.add x 2) a0) ([AV.v (.int .i64 a1)]) ([]) (
                  .need (Option.isSome a0) (
                  .need (Option.isSome a0) (
                  .sto (Option.map (fun x => Addr.add x 3) a0) ([AV.v (.int .i64 a2)]) ([]) (
                  .done (AV.v (.int .i64 0)) ([])))))))))))))))))))))))))))))))
     else (
      .done (AV.v (.int .i64 1)) ([]))))) := by kernel_rfl
set_option maxHeartbeats 4000000 in
theorem ref08_Ledger_Sent.c (k : Nat) (a0 : Option Addr) (q0 : (List (Int × Int × Int)) × Int × Int × Int) (A0_0 : Option Addr) (c0_0 : Nat) (a1 : Int) (a2 : Int) (a3 : Int) (r : Int × ((List (Int × Int × Int)) × Int × Int × Int)) (h : ref08_Ledger_Sent.F k q0 a1 a2 a3 = some r)  (w : World) (hW0 : OwnO 0 (fun _ => False) w 27 RW27 a0 1 [((A0_0, q0.1.length, c0_0), q0.2.1, q0.2.2.1, q0.2.2.2)]) (hW0_0 : OwnO 0 (fun _ => False) w 66 R25 A0_0 c0_0 q0.1) (dj0_1_0 : Dj A0_0 a0) : Calls Try.prog 12 (AV.gs id [AV.v (Value.pointer a0), AV.v (.int .i64 a1), AV.v (.int .i64 a2), AV.v (.int .i64 a3)]).toArray w fun e w' => ∃ (P0 : Option Addr) (p0 : Nat), e = .returned (((Sh.one : Sh).av (vs [Lf.i .i64] (r.1, ()))).g id) ∧ Fine (ref08_Ledger_Sent.S a0 A0_0) w (ref08_Ledger_Sent.S a0 A0_0) w' ∧ OwnO 0 (fun _ => False) w' 27 RW27 a0 1 [((P0, r.2.1.length, p0), r.2.2.1, r.2.2.2.1, r.2.2.2.2)] ∧ OwnO 0 (fun _ => False) w' 66 R25 P0 p0 r.2.1 ∧ Dj P0 a0 ∧ (∀ b, blk (P0, 0, 0) b → (ref08_Ledger_Sent.S a0 A0_0) b ∨ w.heap.size ≤ b) := by
 refine enter0 mixed ref08_Ledger_Sent.A noC [AV.v (Value.pointer a0), AV.v (.int .i64 a1), AV.v (.int .i64 a2), AV.v (.int .i64 a3)] Try.func12 rfl rfl rfl (fun hF => ?_)
 have hA_a0 : Option.isSome a0 = true := hW0.sl.some (by simp)
 have hN_a0 : Option.isNone a0 = false := by cases a0 <;> simp_all
 have hF : Fine (ref08_Ledger_Sent.S a0 A0_0) w (fun _ => False) w := ⟨rfl, rfl, rfl, Nat.le_refl _, fun _ _ _ => rfl, fun b h => h.elim⟩
 have hm0 : ∀ b, blk (a0, 0, 0) b → (ref08_Ledger_Sent.S a0 A0_0) b ∨ w.heap.size ≤ b := fun b hb => Or.inl (Or.inl hb)
 have hm0_0 : ∀ b, blk (A0_0, 0, 0) b → (ref08_Ledger_Sent.S a0 A0_0) b ∨ w.heap.size ≤ b := fun b hb => Or.inl (Or.inr hb)
 rw [ref08_Ledger_Sent.t]
 unfold ref08_Ledger_Sent.F at h
 try dsimp only at h
 refine ok_if (fun hc3 => ?_) (fun hc3 => ?_)
 ·have h := bif_t h hc3
  obtain rfl := Option.some.inj h
  have homes := fun (b : Nat) (h : b < w.heap.size) => h
  intro ρ L w' _ he _ _
  exact ⟨A0_0, c0_0, rfl, (hF.ext he).with (fun b h => Or.inl h), (hW0.later he.fine).bare', (hW0_0.later he.fine).bare', dj0_1_0, hm0_0⟩
 ·have h := bif_f h hc3
  refine ok_if (fun hc4 => ?_) (fun hc4 => ?_)
  ·have h := bif_t h hc4
   obtain rfl := Option.some.inj h
   have homes := fun (b : Nat) (h : b < w.heap.size) => h
   intro ρ L w' _ he _ _
   exact ⟨A0_0, c0_0, rfl, (hF.ext he).with (fun b h => Or.inl h), (hW0.later he.fine).bare', (hW0_0.later he.fine).bare', dj0_1_0, hm0_0⟩
  ·have h := bif_f h hc4
   obtain ⟨v0_0, hr0, h⟩ := bse h
   refine ok_callm rfl (fun L0 w0 g0 lt0 => ?_)
   refine (ref08_time.c k a2 v0_0 hr0  w0 ).mono ?_
   rintro e w0' ⟨rfl, hb0⟩
   refine ⟨(v0_0, ()), rfl, hb0, fun g0' => ?_⟩
   try dsimp only
   have hF := hF.trans g0'
   have hW0 := hW0.later g0'
   have hW0_0 := hW0_0.later g0'
   refine ok_if (fun hc5 => ?_) (fun hc5 => ?_)
   ·have h := bif_t h hc5
    refine ok_if (fun hc6 => ?_) (fun hc6 => ?_)
    ·have h := bif_t h hc6
     obtain rfl := Option.some.inj h
     have homes := fun (b : Nat) (h : b < w.heap.size) => h
     intro ρ L w' _ he _ _
     exact ⟨A0_0, c0_0, rfl, (hF.ext he).with (fun b h => Or.inl h), (hW0.later he.fine).bare', (hW0_0.later he.fine).bare', dj0_1_0, hm0_0⟩
    ·have h := bif_f h hc6
     refine ok_if (fun hc7 => ?_) (fun hc7 => ?_)
     ·have h := bif_t h hc7
      obtain rfl := Option.some.inj h
      have homes := fun (b : Nat) (h : b < w.heap.size) => h
      intro ρ L w' _ he _ _
      exact ⟨A0_0, c0_0, rfl, (hF.ext he).with (fun b h => Or.inl h), (hW0.later he.fine).bare', (hW0_0.later he.fine).bare', dj0_1_0, hm0_0⟩
     ·have h := bif_f h hc7
      refine ok_need hA_a0 ?_
      refine ok_need hA_a0 ?_
      refine ok_ob 2 hW0.sl (Fine.refl _ _) (fun cs hcs => ⟨q0.2.2.1, by rw [hcs]; rfl, ?_⟩)
      try dsimp only
      refine ok_if (fun hc8 => ?_) (fun hc8 => ?_)
      ·have h := bif_t h hc8
       obtain rfl := Option.some.inj h
       have homes := fun (b : Nat) (h : b < w.heap.size) => h
       intro ρ L w' _ he _ _
       exact ⟨A0_0, c0_0, rfl, (hF.ext he).with (fun b h => Or.inl h), (hW0.later he.fine).bare', (hW0_0.later he.fine).bare', dj0_1_0, hm0_0⟩
      ·have h := bif_f h hc8
       refine ok_need hA_a0 ?_
       refine ok_need hA_a0 ?_
       refine ok_ob 3 hW0.sl (Fine.refl _ _) (fun cs hcs => ⟨q0.2.2.2, by rw [hcs]; rfl, ?_⟩)
       try dsimp only
       refine ok_if (fun hc9 => ?_) (fun hc9 => ?_)
       ·have h := bif_t h hc9
        obtain rfl := Option.some.inj h
        have homes := fun (b : Nat) (h : b < w.heap.size) => h
        intro ρ L w' _ he _ _
        exact ⟨A0_0, c0_0, rfl, (hF.ext he).with (fun b h => Or.inl h), (hW0.later he.fine).bare', (hW0_0.later he.fine).bare', dj0_1_0, hm0_0⟩
       ·have h := bif_f h hc9
        refine ok_need hA_a0 ?_
        refine ok_need hA_a0 ?_
        refine ok_ob 0 hW0.sl (Fine.refl _ _) (fun cs hcs => ⟨(A0_0, q0.1.length, c0_0), by rw [hcs]; rfl, ?_⟩)
        try dsimp only
        refine ok_if (fun hc10 => ?_) (fun hc10 => ?_)
        ·have h := bif_t h hc10
         obtain rfl := Option.some.inj h
         have homes := fun (b : Nat) (h : b < w.heap.size) => h
         intro ρ L w' _ he _ _
         exact ⟨A0_0, c0_0, rfl, (hF.ext he).with (fun b h => Or.inl h), (hW0.later he.fine).bare', (hW0_0.later he.fine).bare', dj0_1_0, hm0_0⟩
        ·have h := bif_f h hc10
         refine ok_need hA_a0 ?_
         refine ok_need hA_a0 ?_
         refine ok_ob 0 hW0.sl (Fine.refl _ _) (fun cs hcs => ⟨(A0_0, q0.1.length, c0_0), by rw [hcs]; rfl, ?_⟩)
         try dsimp only
         obtain ⟨hq11, h⟩ := bif_need h
         have hq11 := of_decide_eq_true hq11
         refine ok_app (R := R25) (base := w.heap.size) (xs := ([] : List (Int × Int × Int))) (ys := q0.1) rfl rfl E25 (OwnF.nil _ _ _ _ _) hW0_0.sl (by decide) hq11 hF.size (fun Ax5 cx5 L5 w5 hO5 g5 hid5 hbl5 => ?_)
         try dsimp only
         have dj_o12_w1 : Dj Ax5 a0 := Dj.grow Dj.nil2 hbl5 hW0.lt1
         have dj_o12_w2 : Dj Ax5 A0_0 := Dj.grow Dj.nil2 hbl5 hW0_0.lt1
         have hW0 := hW0.other Dj.nil g5
         have hW0_0 := hW0_0.other Dj.nil g5
         have hF := Fine.own hF g5 (fun b hb => by obtain ⟨_, hb, _⟩ := hb; cases hb) hid5
         refine ok_lit (R := R25) (base := w.heap.size) (xs := ([(a1, a2, a3)] : List (Int × Int × Int))) #[Value.int IntKind.i64 a1, Value.int IntKind.i64 a2, Value.int IntKind.i64 a3] E25 rfl (by decide) (by decide) ⟨_, _, rfl, rfl, by kernel_rfl⟩ rfl hF.size (fun Ax6 cx6 L6 w6 hO6 g6 hbl6 => ?_)
         try dsimp only
         have dj_o13_w1 : Dj Ax6 a0 := Dj.new hbl6 hW0.lt1
         have dj_o13_w2 : Dj Ax6 A0_0 := Dj.new hbl6 hW0_0.lt1
         have dj_o13_o12 : Dj Ax6 Ax5 := Dj.new hbl6 hO5.lt
         have hF := hF.trans g6
         have hW0 := hW0.later g6
         have hW0_0 := hW0_0.later g6
         have hO5 := hO5.later g6
         obtain ⟨hq14, h⟩ := bif_need h
         have hq14 := of_decide_eq_true hq14
         refine ok_app (R := R25) (base := w.heap.size) (xs := (([] : List (Int × Int × Int)) ++ q0.1)) (ys := ([(a1, a2, a3)] : List (Int × Int × Int))) rfl rfl E25 hO5 hO6.sl (by decide) hq14 hF.size (fun Ax7 cx7 L7 w7 hO7 g7 hid7 hbl7 => ?_)
         try dsimp only
         have dj_o15_w1 : Dj Ax7 a0 := Dj.grow dj_o12_w1 hbl7 hW0.lt1
         have dj_o15_w2 : Dj Ax7 A0_0 := Dj.grow dj_o12_w2 hbl7 hW0_0.lt1
         have dj_o15_o13 : Dj Ax7 Ax6 := Dj.grow (Dj.symm dj_o13_o12) hbl7 hO6.lt
         have hW0 := hW0.other (Dj.symm dj_o12_w1) g7
         have hW0_0 := hW0_0.other (Dj.symm dj_o12_w2) g7
         have hO6 := hO6.other dj_o13_o12 g7
         have hF := Fine.own hF g7 (fun b hb => Or.inr (Own.base hO5 hb)) hid7
         refine ok_need hA_a0 ?_
         refine ok_need hA_a0 ?_
         have hm_hO7 : ∀ b, blk (Ax7, 0, 0) b → (ref08_Ledger_Sent.S a0 A0_0) b ∨ w.heap.size ≤ b := (fun b hb => Or.inr (Own.base hO7 hb))
         have hO7 := (hO7.off).mono0
         refine ok_put0 (R := RW27) (x' := ((Ax7, (((([] : List (Int × Int × Int)) ++ q0.1) ++ ([(a1, a2, a3)] : List (Int × Int × Int)))).length, cx7), q0.2.1, q0.2.2.1, q0.2.2.2)) (vs := [Value.slice Ax7 ((((([] : List (Int × Int × Int)) ++ q0.1) ++ ([(a1, a2, a3)] : List (Int × Int × Int)))).length) cx7]) 0 hW0 (Nat.le_of_ble_eq_true rfl) rfl (fun _ => rfl) (fun Lt16 wt16 ht16 gst16 hdt16 => ?_)
         have hO6 := hO6.other dj_o13_w1 gst16
         have hO7 := hO7.other dj_o15_w1 gst16
         have hF := Fine.own hF gst16 hm0 hdt16
         have hW0 := ht16
         refine ok_need hA_a0 ?_
         refine ok_need hA_a0 ?_
         refine ok_put0 (R := RW27) (x' := ((Ax7, (((([] : List (Int × Int × Int)) ++ q0.1) ++ ([(a1, a2, a3)] : List (Int × Int × Int)))).length, cx7), q0.2.1, a1, q0.2.2.2)) (vs := [Value.int IntKind.i64 a1]) 2 hW0 (Nat.le_of_ble_eq_true rfl) rfl (fun _ => rfl) (fun Lt17 wt17 ht17 gst17 hdt17 => ?_)
         have hO6 := hO6.other dj_o13_w1 gst17
         have hO7 := hO7.other dj_o15_w1 gst17
         have hF := Fine.own hF gst17 hm0 hdt17
         have hW0 := ht17
         refine ok_need hA_a0 ?_
         refine ok_need hA_a0 ?_
         refine ok_put0 (R := RW27) (x' := ((Ax7, (((([] : List (Int × Int × Int)) ++ q0.1) ++ ([(a1, a2, a3)] : List (Int × Int × Int)))).length, cx7), q0.2.1, a1, a2)) (vs := [Value.int IntKind.i64 a2]) 3 hW0 (Nat.le_of_ble_eq_true rfl) rfl (fun _ => rfl) (fun Lt18 wt18 ht18 gst18 hdt18 => ?_)
         have hO6 := hO6.other dj_o13_w1 gst18
         have hO7 := hO7.other dj_o15_w1 gst18
         have hF := Fine.own hF gst18 hm0 hdt18
         have hW0 := ht18
         obtain rfl := Option.some.inj h
         have homes := fun (b : Nat) (h : b < w.heap.size) => h
         intro ρ L w' _ he _ _
         exact ⟨Ax7, cx7, rfl, (hF.ext he).with (fun b h => Or.inl h), (hW0.later he.fine).bare', (hO7.later he.fine).bare', dj_o15_w1, hm_hO7⟩
   ·have h := bif_f h hc5
    obtain rfl := Option.some.inj h
    have homes := fun (b : Nat) (h : b < w.heap.size) => h
    intro ρ L w' _ he _ _
    exact ⟨A0_0, c0_0, rfl, (hF.ext he).with (fun b h => Or.inl h), (hW0.later he.fine).bare', (hW0_0.later he.fine).bare', dj0_1_0, hm0_0⟩
abbrev ref08_Ledger_lost.S (a0 A0_0 : Option Addr) : Nat → Prop := fun b => blk (a0, 0, 0) b ∨ blk (A0_0, 0, 0) b
def ref08_Ledger_lost.F (k : Nat) (q0 : (List (Int × Int × Int)) × Int × Int × Int) (a1_0 : Int) (a1_1 : Int) (a1_2 : Int) (a2 : Int) (a3 : Int) : Option (Bool × ((List (Int × Int × Int)) × Int × Int × Int)) := bif decide (a1_0 < q0.2.1) then (bif decide (3 ≤ IntKind.i64.wrap (q0.2.1 - a1_0)) then (some ((true, q0))) else (bif decide (a3 ≤ IntKind.i64.wrap (a2 - a1_1)) then (some ((true, q0))) else (some ((false, q0))))) else (some ((false, q0)))
abbrev ref08_Ledger_lost.A : Nat → LA := noA
set_option maxHeartbeats 4000000 in
theorem ref08_Ledger_lost.t (a0 : Option Addr) (a1_0 : Int) (a1_1 : Int) (a1_2 : Int) (a2 : Int) (a3 : Int) : tree Try.prog ref08_Ledger_lost.A noC Try.f38 [AV.v (Value.pointer a0), AV.agg [AV.v (.int .i64 a1_0), AV.v (.int .i64 a1_1), AV.v (.int .i64 a1_2)], AV.v (.int .i64 a2), AV.v (.int .i64 a3)] [] =
  .need (Option.isSome a0) (
  .need (Option.isSome a0) (
  .ld (Option.map (fun x => Addr.add x 1) a0) ([Lf.i .i64]) (fun x0 =>
   bif decide (a1_0 < x0.1) then (
    .need (Option.isSome a0) (
    .need (Option.isSome a0) (
    .ld (Option.map (fun x => Addr.add x 1) a0) ([Lf.i .i64]) (fun x1 =>
     bif decide (3 ≤ IntKind.i64.wrap (x1.1 - a1_0)) then (
      .done (AV.v (Value.bool true)) ([]))
     else (
      bif decide (a3 ≤ IntKind.i64.wrap (a2 - a1_1)) then (
       .done (AV.v (Value.bool true)) ([]))
      else (
       .done (AV.v (Value.bool false)) ([])))))))
   else (
    .done (AV.v (Value.bool false)) ([]))))) := by kernel_rfl
set_option maxHeartbeats 4000000 in
theorem ref08_Ledger_lost.c (k : Nat) (a0 : Option Addr) (q0 : (List (Int × Int × Int)) × Int × Int × Int) (A0_0 : Option Addr) (c0_0 : Nat) (a1_0 : Int) (a1_1 : Int) (a1_2 : Int) (a2 : Int) (a3 : Int) (r : Bool × ((List (Int × Int × Int)) × Int × Int × Int)) (h : ref08_Ledger_lost.F k q0 a1_0 a1_1 a1_2 a2 a3 = some r)  (w : World) (hW0 : OwnO 0 (fun _ => False) w 27 RW27 a0 1 [((A0_0, q0.1.length, c0_0), q0.2.1, q0.2.2.1, q0.2.2.2)]) (hW0_0 : OwnO 0 (fun _ => False) w 66 R25 A0_0 c0_0 q0.1) (dj0_1_0 : Dj A0_0 a0) : Calls Try.prog 38 (AV.gs id [AV.v (Value.pointer a0), AV.agg [AV.v (.int .i64 a1_0), AV.v (.int .i64 a1_1), AV.v (.int .i64 a1_2)], AV.v (.int .i64 a2), AV.v (.int .i64 a3)]).toArray w fun e w' => ∃ (P0 : Option Addr) (p0 : Nat), e = .returned (((Sh.one : Sh).av (vs [Lf.b] (r.1, ()))).g id) ∧ Fine (ref08_Ledger_lost.S a0 A0_0) w (ref08_Ledger_lost.S a0 A0_0) w' ∧ OwnO 0 (fun _ => False) w' 27 RW27 a0 1 [((P0, r.2.1.length, p0), r.2.2.1, r.2.2.2.1, r.2.2.2.2)] ∧ OwnO 0 (fun _ => False) w' 66 R25 P0 p0 r.2.1 ∧ Dj P0 a0 ∧ (∀ b, blk (P0, 0, 0) b → (ref08_Ledger_lost.S a0 A0_0) b ∨ w.heap.size ≤ b) := by
 refine enter0 mixed ref08_Ledger_lost.A noC [AV.v (Value.pointer a0), AV.agg [AV.v (.int .i64 a1_0), AV.v (.int .i64 a1_1), AV.v (.int .i64 a1_2)], AV.v (.int .i64 a2), AV.v (.int .i64 a3)] Try.func38 rfl rfl rfl (fun hF => ?_)
 have hA_a0 : Option.isSome a0 = true := hW0.sl.some (by simp)
 have hN_a0 : Option.isNone a0 = false := by cases a0 <;> simp_all
 have hF : Fine (ref08_Ledger_lost.S a0 A0_0) w (fun _ => False) w := ⟨rfl, rfl, rfl, Nat.le_refl _, fun _ _ _ => rfl, fun b h => h.elim⟩
 have hm0 : ∀ b, blk (a0, 0, 0) b → (ref08_Ledger_lost.S a0 A0_0) b ∨ w.heap.size ≤ b := fun b hb => Or.inl (Or.inl hb)
 have hm0_0 : ∀ b, blk (A0_0, 0, 0) b → (ref08_Ledger_lost.S a0 A0_0) b ∨ w.heap.size ≤ b := fun b hb => Or.inl (Or.inr hb)
 rw [ref08_Ledger_lost.t]
 unfold ref08_Ledger_lost.F at h
 try dsimp only at h
 refine ok_need hA_a0 ?_
 refine ok_need hA_a0 ?_
 refine ok_ob 1 hW0.sl (Fine.refl _ _) (fun cs hcs => ⟨q0.2.1, by rw [hcs]; rfl, ?_⟩)
 try dsimp only
 refine ok_if (fun hc3 => ?_) (fun hc3 => ?_)
 ·have h := bif_t h hc3
  refine ok_need hA_a0 ?_
  refine ok_need hA_a0 ?_
  refine ok_ob 1 hW0.sl (Fine.refl _ _) (fun cs hcs => ⟨q0.2.1, by rw [hcs]; rfl, ?_⟩)
  try dsimp only
  refine ok_if (fun hc4 => ?_) (fun hc4 => ?_)
  ·have h := bif_t h hc4
   obtain rfl := Option.some.inj h
   have homes := fun (b : Nat) (h : b < w.heap.size) => h
   intro ρ L w' _ he _ _
   exact ⟨A0_0, c0_0, rfl, (hF.ext he).with (fun b h => Or.inl h), (hW0.later he.fine).bare', (hW0_0.later he.fine).bare', dj0_1_0, hm0_0⟩
  ·have h := bif_f h hc4
   refine ok_if (fun hc5 => ?_) (fun hc5 => ?_)
   ·have h := bif_t h hc5
    obtain rfl := Option.some.inj h
    have homes := fun (b : Nat) (h : b < w.heap.size) => h
    intro ρ L w' _ he _ _
    exact ⟨A0_0, c0_0, rfl, (hF.ext he).with (fun b h => Or.inl h), (hW0.later he.fine).bare', (hW0_0.later he.fine).bare', dj0_1_0, hm0_0⟩
   ·have h := bif_f h hc5
    obtain rfl := Option.some.inj h
    have homes := fun (b : Nat) (h : b < w.heap.size) => h
    intro ρ L w' _ he _ _
    exact ⟨A0_0, c0_0, rfl, (hF.ext he).with (fun b h => Or.inl h), (hW0.later he.fine).bare', (hW0_0.later he.fine).bare', dj0_1_0, hm0_0⟩
 ·have h := bif_f h hc3
  obtain rfl := Option.some.inj h
  have homes := fun (b : Nat) (h : b < w.heap.size) => h
  intro ρ L w' _ he _ _
  exact ⟨A0_0, c0_0, rfl, (hF.ext he).with (fun b h => Or.inl h), (hW0.later he.fine).bare', (hW0_0.later he.fine).bare', dj0_1_0, hm0_0⟩
abbrev ref08_Ledger_Lose.S (a0 A0_0 : Option Addr) : Nat → Prop := fun b => blk (a0, 0, 0) b ∨ blk (A0_0, 0, 0) b
def ref08_Ledger_Lose.s1 (k : Nat) (a1 : Int) (a2 : Int) : ((List (Int × Int × Int)) × (List (Int × Int × Int)) × Int × ((List (Int × Int × Int)) × Int × Int × Int)) → Option (Sum ((List (Int × Int × Int)) × (List (Int × Int × Int)) × Int × ((List (Int × Int × Int)) × Int × Int × Int)) ((List (Int × Int × Int)) × ((List (Int × Int × Int)) × Int × Int × Int))) := fun (s1_0, s1_1, v1_2, q1_a0) => bif decide (v1_2 < (((q1_a0.1).length : Nat) : Int)) then ((getI q1_a0.1 v1_2).bind fun r8 => (ref08_Ledger_lost.F k q1_a0 r8.1 r8.2.1 r8.2.2 a1 a2).bind fun (v5_0, qc5) => bif v5_0 then ((getI qc5.1 v1_2).bind fun r13 => bif decide ((s1_0.length + (([(r13.1, r13.2.1, r13.2.2)] : List (Int × Int × Int))).length) * 24 ≤ 140737488355328) then (some (.inl (((s1_0 ++ ([(r13.1, r13.2.1, r13.2.2)] : List (Int × Int × Int))), s1_1, IntKind.i64.wrap (v1_2 + 1), qc5)))) else none) else ((getI qc5.1 v1_2).bind fun r18 => bif decide ((s1_1.length + (([(r18.1, r18.2.1, r18.2.2)] : List (Int × Int × Int))).length) * 24 ≤ 140737488355328) then (some (.inl ((s1_0, (s1_1 ++ ([(r18.1, r18.2.1, r18.2.2)] : List (Int × Int × Int))), IntKind.i64.wrap (v1_2 + 1), qc5)))) else none)) else (some (.inr ((s1_0, (s1_1, q1_a0.2.1, q1_a0.2.2.1, q1_a0.2.2.2)))))
def ref08_Ledger_Lose.F (k : Nat) (q0 : (List (Int × Int × Int)) × Int × Int × Int) (a1 : Int) (a2 : Int) : Option ((List (Int × Int × Int)) × ((List (Int × Int × Int)) × Int × Int × Int)) := (ref08_waits.F k a1 a2).bind fun v0_0 => bif v0_0 then (iter (ref08_Ledger_Lose.s1 k a1 a2) k ([], [], 0, q0)) else (some (([], q0)))
abbrev ref08_Ledger_Lose.A : Nat → LA := fun r => if r = 5 then ⟨[(7, false, [Lf.sl]), (8, false, [Lf.sl]), (9, false, [Lf.i .i64])], []⟩ else ⟨[], []⟩
set_option maxHeartbeats 4000000 in
theorem ref08_Ledger_Lose.t (a0 : Option Addr) (a1 : Int) (a2 : Int) : tree Try.prog ref08_Ledger_Lose.A noC Try.f18 [AV.v (Value.pointer a0), AV.v (.int .i64 a1), AV.v (.int .i64 a2)] [] =
  .call 35 ([AV.v (.int .i64 a1), AV.v (.int .i64 a2)]) ([]) (Sh.one) ([Lf.b]) ([]) (fun x0 =>
   bif x0.1 then (
    .loop ([Lf.sl, Lf.sl, Lf.i .i64]) (((none, 0, 0), (none, 0, 0), 0, PUnit.unit)) 0 (fun x1 =>
     .need (Option.isSome a0) (
     .need (Option.isSome a0) (
     .ld (Option.map (fun x => Addr.add x 0) a0) ([Lf.sl]) (fun x2 =>
      bif decide (x1.2.2.1 < ((x2.1.2.1 : Nat) : Int)) then (
       .need (Option.isSome a0) (
       .need (Option.isSome a0) (
       .ld (Option.map (fun x => Addr.add x 0) a0) ([Lf.sl]) (fun x3 =>
        .need (decide (0 ≤ x1.2.2.1) && decide (x1.2.2.1 < ((x3.1.2.1 : Nat) : Int)) && Option.isSome x3.1.1) (
        .ld (Option.map (fun x => Addr.add x (Int.toNat x1.2.2.1 * 3)) x3.1.1) ([Lf.i .i64, Lf.i .i64, Lf.i .i64]) (fun x4 =>
         .call 38 ([AV.v (Value.pointer a0), AV.agg [AV.v (.int .i64 x4.1), AV.v (.int .i64 x4.2.1), AV.v (.int .i64 x4.2.2.1)], AV.v (.int .i64 a1), AV.v (.int .i64 a2)]) ([]) (Sh.one) ([Lf.b]) ([]) (fun x5 =>
          bif x5.1 then (
           .need (Option.isSome a0) (
           .need (Option.isSome a0) (
           .ld (Option.map (fun x => Addr.add x 0) a0) ([Lf.sl]) (fun x6 =>
            .need (decide (0 ≤ x1.2.2.1) && decide (x1.2.2.1 < ((x6.1.2.1 : Nat) : Int)) && Option.isSome x6.1.1) (
            .ld (Option.map (fun x => Addr.add x (Int.toNat x1.2.2.1 * 3)) x6.1.1) ([Lf.i .i64, Lf.i .i64, Lf.i .i64]) (fun x7 =>
             .sem (Instr.buildSlice 25 1 { toList := [(0, Value.agg { toList := [Value.int IntKind.i64 x7.1, Value.int IntKind.i64 x7.2.1, Value.int IntKind.i64 x7.2.2.1] })] }) ([Lf.sl]) (Sh.one) (fun x8 =>
              .sem (Builtin.append_ { toList := [25, 25] } 25 { toList := [Value.slice x1.1.1 x1.1.2.1 x1.1.2.2, Value.slice x8.1.1 x8.1.2.1 x8.1.2.2] }) ([Lf.sl]) (Sh.one) (fun x9 =>
               .again 0 ([Lf.sl, Lf.sl, Lf.i .i64]) (((x9.1.1, x9.1.2.1, x9.1.2.2), (x1.2.1.1, x1.2.1.2.1, x1.2.1.2.2), IntKind.i64.wrap (x1.2.2.1 + 1), PUnit.unit))))))))))
          else (
           .need (Option.isSome a0) (
           .need (Option.isSome a0) (
           .ld (Option.map (fun x => Addr.add x 0) a0) ([Lf.sl]) (fun x6 =>
            .need (decide (0 ≤ x1.2.2.1) && decide (x1.2.2.1 < ((x6.1.2.1 : Nat) : Int)) && Option.isSome x6.1.1) (
            .ld (Option.map (fun x => Addr.add x (Int.toNat x1.2.2.1 * 3)) x6.1.1) ([Lf.i .i64, Lf.i .i64, Lf.i .i64]) (fun x7 =>
             .sem (Instr.buildSlice 25 1 { toList := [(0, Value.agg { toList := [Value.int IntKind.i64 x7.1, Value.int IntKind.i64 x7.2.1, Value.int IntKind.i64 x7.2.2.1] })] }) ([Lf.sl]) (Sh.one) (fun x8 =>
              .sem (Builtin.append_ { toList := [25, 25] } 25 { toList := [Value.slice x1.2.1.1 x1.2.1.2.1 x1.2.1.2.2, Value.slice x8.1.1 x8.1.2.1 x8.1.2.2] }) ([Lf.sl]) (Sh.one) (fun x9 =>
               .again 0 ([Lf.sl, Lf.sl, Lf.i .i64]) (((x1.1.1, x1.1.2.1, x1.1.2.2), (x9.1.1, x9.1.2.1, x9.1.2.2), IntKind.i64.wrap (x1.2.2.1 + 1), PUnit.unit)))))))))))))))))
      else (
       .need (Option.isSome a0) (
       .need (Option.isSome a0) (
       .sto (Option.map (fun x => Addr.add x 0) a0) ([AV.v (Value.slice x1.2.1.1 x1.2.1.2.1 x1.2.1.2.2)]) ([]) (
       .done (AV.v (Value.slice x1.1.1 x1.1.2.1 x1.1.2.2)) ([]))))))))))
   else (
    .done (AV.v (Value.slice none 0 0)) ([]))) := by kernel_rfl
set_option maxHeartbeats 4000000 in
theorem ref08_Ledger_Lose.c (k : Nat) (a0 : Option Addr) (q0 : (List (Int × Int × Int)) × Int × Int × Int) (A0_0 : Option Addr) (c0_0 : Nat) (a1 : Int) (a2 : Int) (r : (List (Int × Int × Int)) × ((List (Int × Int × Int)) × Int × Int × Int)) (h : ref08_Ledger_Lose.F k q0 a1 a2 = some r)  (w : World) (hW0 : OwnO 0 (fun _ => False) w 27 RW27 a0 1 [((A0_0, q0.1.length, c0_0), q0.2.1, q0.2.2.1, q0.2.2.2)]) (hW0_0 : OwnO 0 (fun _ => False) w 66 R25 A0_0 c0_0 q0.1) (dj0_1_0 : Dj A0_0 a0) : Calls Try.prog 18 (AV.gs id [AV.v (Value.pointer a0), AV.v (.int .i64 a1), AV.v (.int .i64 a2)]).toArray w fun e w' => ∃ (P0 : Option Addr) (p0 : Nat) (B0 : Option Addr) (d0 : Nat), e = .returned (((Sh.one : Sh).av (vs [Lf.sl] ((B0, (r.1).length, d0), ()))).g id) ∧ Fine (ref08_Ledger_Lose.S a0 A0_0) w (ref08_Ledger_Lose.S a0 A0_0) w' ∧ OwnO 0 (fun _ => False) w' 27 RW27 a0 1 [((P0, r.2.1.length, p0), r.2.2.1, r.2.2.2.1, r.2.2.2.2)] ∧ OwnO 0 (fun _ => False) w' 66 R25 P0 p0 r.2.1 ∧ Dj P0 a0 ∧ (∀ b, blk (P0, 0, 0) b → (ref08_Ledger_Lose.S a0 A0_0) b ∨ w.heap.size ≤ b) ∧ OwnF w.heap.size (fun b => b < w.heap.size) w' 66 R25 B0 d0 r.1 ∧ Dj B0 P0 := by
 refine enter0 mixed ref08_Ledger_Lose.A noC [AV.v (Value.pointer a0), AV.v (.int .i64 a1), AV.v (.int .i64 a2)] Try.func18 rfl rfl rfl (fun hF => ?_)
 have hA_a0 : Option.isSome a0 = true := hW0.sl.some (by simp)
 have hN_a0 : Option.isNone a0 = false := by cases a0 <;> simp_all
 have hF : Fine (ref08_Ledger_Lose.S a0 A0_0) w (fun _ => False) w := ⟨rfl, rfl, rfl, Nat.le_refl _, fun _ _ _ => rfl, fun b h => h.elim⟩
 have hm0 : ∀ b, blk (a0, 0, 0) b → (ref08_Ledger_Lose.S a0 A0_0) b ∨ w.heap.size ≤ b := fun b hb => Or.inl (Or.inl hb)
 have hm0_0 : ∀ b, blk (A0_0, 0, 0) b → (ref08_Ledger_Lose.S a0 A0_0) b ∨ w.heap.size ≤ b := fun b hb => Or.inl (Or.inr hb)
 rw [ref08_Ledger_Lose.t]
 unfold ref08_Ledger_Lose.F at h
 try dsimp only at h
 obtain ⟨v0_0, hr0, h⟩ := bse h
 refine ok_callm rfl (fun L0 w0 g0 lt0 => ?_)
 refine (ref08_waits.c k a1 a2 v0_0 hr0  w0 ).mono ?_
 rintro e w0' ⟨rfl, hb0⟩
 refine ⟨(v0_0, ()), rfl, hb0, fun g0' => ?_⟩
 try dsimp only
 have hF := hF.trans g0'
 have hW0 := hW0.later g0'
 have hW0_0 := hW0_0.later g0'
 refine ok_if (fun hc3 => ?_) (fun hc3 => ?_)
 ·have h := bif_t h hc3
  obtain ⟨I1, hI1⟩ : ∃ I : Nat → Tup [Lf.sl, Lf.sl, Lf.i .i64] → (Nat → Prop) → World → Prop, I = (fun m_ y L w' => ∃ (A1_0 : Option Addr) (c1_0 : Nat) (s1_0 : List (Int × Int × Int)) (A1_1 : Option Addr) (c1_1 : Nat) (s1_1 : List (Int × Int × Int)) (v1_2 : Int) (q1_a0 : (List (Int × Int × Int)) × Int × Int × Int) (A1_a0_0 : Option Addr) (c1_a0_0 : Nat), y = ((A1_0, s1_0.length, c1_0), (A1_1, s1_1.length, c1_1), v1_2, ()) ∧ iter (ref08_Ledger_Lose.s1 k a1 a2) m_ (s1_0, s1_1, v1_2, q1_a0) = some r ∧ Fine (ref08_Ledger_Lose.S a0 A0_0) w L w' ∧ OwnF w.heap.size L w' 66 R25 A1_0 c1_0 s1_0 ∧ OwnF w.heap.size L w' 66 R25 A1_1 c1_1 s1_1 ∧ OwnO 0 L w' 27 RW27 a0 1 [((A1_a0_0, q1_a0.1.length, c1_a0_0), q1_a0.2.1, q1_a0.2.2.1, q1_a0.2.2.2)] ∧ OwnO 0 L w' 66 R25 A1_a0_0 c1_a0_0 q1_a0.1 ∧ Dj A1_1 A1_0 ∧ Dj a0 A1_0 ∧ Dj a0 A1_1 ∧ Dj A1_a0_0 A1_0 ∧ Dj A1_a0_0 A1_1 ∧ Dj A1_a0_0 a0 ∧ (∀ b, blk (A1_a0_0, 0, 0) b → (ref08_Ledger_Lose.S a0 A0_0) b ∨ w.heap.size ≤ b)) := ⟨_, rfl⟩
  refine ok_loop I1 k (by rw [hI1]; exact ⟨none, 0, [], none, 0, [], _, q0, A0_0, c0_0, rfl, h, hF, OwnF.nil _ _ _ _ _, OwnF.nil _ _ _ _ _, hW0, hW0_0, Dj.nil2, Dj.nil, Dj.nil, Dj.nil, Dj.nil, dj0_1_0, hm0_0⟩) ?_
  clear h
  intro m_ y L1 w1 hy
  rw [hI1] at hy
  obtain ⟨A1_0, c1_0, s1_0, A1_1, c1_1, s1_1, v1_2, q1_a0, A1_a0_0, c1_a0_0, rfl, h, hF, hO_s1_0, hO_s1_1, hW1_a0, hW1_a0_0, dj_s1_1_s1_0, dj_w5_s1_0, dj_w5_s1_1, dj_w6_s1_0, dj_w6_s1_1, dj_w6_w5, hm1_a0_0⟩ := hy
  obtain ⟨m1, o1, rfl, h, hl1, hr_1⟩ := iter_some h
  unfold ref08_Ledger_Lose.s1 at h
  try dsimp only at h
  try dsimp only
  refine ok_need hA_a0 ?_
  refine ok_need hA_a0 ?_
  refine ok_ob 0 hW1_a0.sl (Fine.refl _ _) (fun cs hcs => ⟨(A1_a0_0, q1_a0.1.length, c1_a0_0), by rw [hcs]; rfl, ?_⟩)
  try dsimp only
  refine ok_if (fun hc7 => ?_) (fun hc7 => ?_)
  ·have h := bif_t h hc7
   refine ok_need hA_a0 ?_
   refine ok_need hA_a0 ?_
   refine ok_ob 0 hW1_a0.sl (Fine.refl _ _) (fun cs hcs => ⟨(A1_a0_0, q1_a0.1.length, c1_a0_0), by rw [hcs]; rfl, ?_⟩)
   try dsimp only
   obtain ⟨r8, hr9, h⟩ := bse h
   refine ok_need (getI_need hW1_a0_0.sl hr9) ?_
   refine ok_get hW1_a0_0.sl (Fine.refl _ _) hr9 (by simp) (fun cs hcs => ⟨(r8.1, r8.2.1, r8.2.2, ()), hcs.symm, ?_⟩)
   try dsimp only
   obtain ⟨r5, hr5, h⟩ := bse h
   obtain ⟨v5_0, qc5⟩ := r5
   try dsimp only at h
   have hBv5 : ∀ b, (ref08_Ledger_lost.S a0 A1_a0_0) b → ¬ _ ∧ b < _ := fun b hb => by rcases hb with hb | hb; exact ⟨(hW1_a0.lt b hb).2.1, hW1_a0.lt1 b hb⟩; exact ⟨(hW1_a0_0.lt b hb).2.1, hW1_a0_0.lt1 b hb⟩
   have hBm5 : ∀ b, (ref08_Ledger_lost.S a0 A1_a0_0) b → (ref08_Ledger_Lose.S a0 A0_0) b ∨ w.heap.size ≤ b := fun b hb => by rcases hb with hb | hb; exact hm0 b hb; exact hm1_a0_0 b hb
   have hjB5_s1_0 : ∀ b, blk (A1_0, 0, 0) b → ¬ (ref08_Ledger_lost.S a0 A1_a0_0) b := fun b h0 hb => by rcases hb with hb | hb; exact (Dj.symm dj_w5_s1_0) b h0 hb; exact (Dj.symm dj_w6_s1_0) b h0 hb
   have hjB5_s1_1 : ∀ b, blk (A1_1, 0, 0) b → ¬ (ref08_Ledger_lost.S a0 A1_a0_0) b := fun b h0 hb => by rcases hb with hb | hb; exact (Dj.symm dj_w5_s1_1) b h0 hb; exact (Dj.symm dj_w6_s1_1) b h0 hb
   refine ok_callo (ref08_Ledger_lost.S a0 A1_a0_0) rfl hBv5 (fun L5 w5 g5 lt5 => ?_)
   refine (ref08_Ledger_lost.c k _ q1_a0 _ _ r8.1 r8.2.1 r8.2.2 a1 a2 (v5_0, qc5) hr5  w5 (hW1_a0.later g5).bare' (hW1_a0_0.later g5).bare' dj_w6_w5).mono ?_
   rintro e w5' ⟨A5_w0, c5_w0, rfl, hf5, hWc5, hWc5_0, djc5_1_0, hzc5_0⟩
   refine ⟨(v5_0, ()), rfl, hf5, fun g5' hid5 hv5 => ?_⟩
   try dsimp only
   have dn5_0_s1_0 : Dj A5_w0 A1_0 := Dj.byB hzc5_0 hjB5_s1_0 (hO_s1_0.later g5).lt
   have dn5_0_s1_1 : Dj A5_w0 A1_1 := Dj.byB hzc5_0 hjB5_s1_1 (hO_s1_1.later g5).lt
   have hmc5 := hm0
   have hmc5_0 : ∀ b, blk (A5_w0, 0, 0) b → (ref08_Ledger_Lose.S a0 A0_0) b ∨ w.heap.size ≤ b := fun b hb => (hzc5_0 b hb).elim (hBm5 b) (fun h => Or.inr (Nat.le_trans (hF.trans g5).size h))
   have hWc5 := hWc5.vis (fun b hb => hv5 b (Or.inl (Or.inl hb)))
   have hWc5_0 := hWc5_0.vis (fun b hb => hv5 b (hzc5_0 b hb))
   have hO_s1_0 := OwnF.others hO_s1_0 hjB5_s1_0 g5'
   have hO_s1_1 := OwnF.others hO_s1_1 hjB5_s1_1 g5'
   have hF := Fine.own hF g5' hBm5 hid5
   refine ok_if (fun hc12 => ?_) (fun hc12 => ?_)
   ·have h := bif_t h hc12
    refine ok_need hA_a0 ?_
    refine ok_need hA_a0 ?_
    refine ok_ob 0 hWc5.sl (Fine.refl _ _) (fun cs hcs => ⟨(A5_w0, qc5.1.length, c5_w0), by rw [hcs]; rfl, ?_⟩)
    try dsimp only
    obtain ⟨r13, hr14, h⟩ := bse h
    refine ok_need (getI_need hWc5_0.sl hr14) ?_
    refine ok_get hWc5_0.sl (Fine.refl _ _) hr14 (by simp) (fun cs hcs => ⟨(r13.1, r13.2.1, r13.2.2, ()), hcs.symm, ?_⟩)
    try dsimp only
    refine ok_lit (R := R25) (base := w.heap.size) (xs := ([(r13.1, r13.2.1, r13.2.2)] : List (Int × Int × Int))) #[Value.int IntKind.i64 r13.1, Value.int IntKind.i64 r13.2.1, Value.int IntKind.i64 r13.2.2] E25 rfl (by decide) (by decide) ⟨_, _, rfl, rfl, by kernel_rfl⟩ rfl hF.size (fun Ax8 cx8 L8 w8 hO8 g8 hbl8 => ?_)
    try dsimp only
    have dj_o15_s1_0 : Dj Ax8 A1_0 := Dj.new hbl8 hO_s1_0.lt
    have dj_o15_s1_1 : Dj Ax8 A1_1 := Dj.new hbl8 hO_s1_1.lt
    have dj_o15_w10 : Dj Ax8 a0 := Dj.new hbl8 hWc5.lt1
    have dj_o15_w11 : Dj Ax8 A5_w0 := Dj.new hbl8 hWc5_0.lt1
    have hF := hF.trans g8
    have hO_s1_0 := hO_s1_0.later g8
    have hO_s1_1 := hO_s1_1.later g8
    have hWc5 := hWc5.later g8
    have hWc5_0 := hWc5_0.later g8
    obtain ⟨hq16, h⟩ := bif_need h
    have hq16 := of_decide_eq_true hq16
    refine ok_app (R := R25) (base := w.heap.size) (xs := s1_0) (ys := ([(r13.1, r13.2.1, r13.2.2)] : List (Int × Int × Int))) rfl rfl E25 hO_s1_0 hO8.sl (by decide) hq16 hF.size (fun Ax9 cx9 L9 w9 hO9 g9 hid9 hbl9 => ?_)
    try dsimp only
    have dj_o17_s1_1 : Dj Ax9 A1_1 := Dj.grow (Dj.symm dj_s1_1_s1_0) hbl9 hO_s1_1.lt
    have dj_o17_w10 : Dj Ax9 a0 := Dj.grow (Dj.symm dj_w5_s1_0) hbl9 hWc5.lt1
    have dj_o17_w11 : Dj Ax9 A5_w0 := Dj.grow (Dj.symm dn5_0_s1_0) hbl9 hWc5_0.lt1
    have dj_o17_o15 : Dj Ax9 Ax8 := Dj.grow (Dj.symm dj_o15_s1_0) hbl9 hO8.lt
    have hO_s1_1 := hO_s1_1.other dj_s1_1_s1_0 g9
    have hWc5 := hWc5.other dj_w5_s1_0 g9
    have hWc5_0 := hWc5_0.other dn5_0_s1_0 g9
    have hO8 := hO8.other dj_o15_s1_0 g9
    have hF := Fine.own hF g9 (fun b hb => Or.inr (Own.base hO_s1_0 hb)) hid9
    obtain rfl := Option.some.inj h
    have h := hl1 _ rfl
    exact ok_again (I := I1) m1 (Nat.lt_succ_self _) (fun L w' he => by rw [hI1]; exact ⟨Ax9, cx9, (s1_0 ++ ([(r13.1, r13.2.1, r13.2.2)] : List (Int × Int × Int))), A1_1, c1_1, s1_1, _, qc5, A5_w0, c5_w0, rfl, h, hF.trans he.fine, hO9.later he.fine, hO_s1_1.later he.fine, hWc5.later he.fine, hWc5_0.later he.fine, (Dj.symm dj_o17_s1_1), (Dj.symm dj_o17_w10), dj_w5_s1_1, (Dj.symm dj_o17_w11), dn5_0_s1_1, djc5_1_0, hmc5_0⟩)
   ·have h := bif_f h hc12
    refine ok_need hA_a0 ?_
    refine ok_need hA_a0 ?_
    refine ok_ob 0 hWc5.sl (Fine.refl _ _) (fun cs hcs => ⟨(A5_w0, qc5.1.length, c5_w0), by rw [hcs]; rfl, ?_⟩)
    try dsimp only
    obtain ⟨r18, hr19, h⟩ := bse h
    refine ok_need (getI_need hWc5_0.sl hr19) ?_
    refine ok_get hWc5_0.sl (Fine.refl _ _) hr19 (by simp) (fun cs hcs => ⟨(r18.1, r18.2.1, r18.2.2, ()), hcs.symm, ?_⟩)
    try dsimp only
    refine ok_lit (R := R25) (base := w.heap.size) (xs := ([(r18.1, r18.2.1, r18.2.2)] : List (Int × Int × Int))) #[Value.int IntKind.i64 r18.1, Value.int IntKind.i64 r18.2.1, Value.int IntKind.i64 r18.2.2] E25 rfl (by decide) (by decide) ⟨_, _, rfl, rfl, by kernel_rfl⟩ rfl hF.size (fun Ax8 cx8 L8 w8 hO8 g8 hbl8 => ?_)
    try dsimp only
    have dj_o20_s1_0 : Dj Ax8 A1_0 := Dj.new hbl8 hO_s1_0.lt
    have dj_o20_s1_1 : Dj Ax8 A1_1 := Dj.new hbl8 hO_s1_1.lt
    have dj_o20_w10 : Dj Ax8 a0 := Dj.new hbl8 hWc5.lt1
    have dj_o20_w11 : Dj Ax8 A5_w0 := Dj.new hbl8 hWc5_0.lt1
    have hF := hF.trans g8
    have hO_s1_0 := hO_s1_0.later g8
    have hO_s1_1 := hO_s1_1.later g8
    have hWc5 := hWc5.later g8
    have hWc5_0 := hWc5_0.later g8
    obtain ⟨hq21, h⟩ := bif_need h
    have hq21 := of_decide_eq_true hq21
    refine ok_app (R := R25) (base := w.heap.size) (xs := s1_1) (ys := ([(r18.1, r18.2.1, r18.2.2)] : List (Int × Int × Int))) rfl rfl E25 hO_s1_1 hO8.sl (by decide) hq21 hF.size (fun Ax9 cx9 L9 w9 hO9 g9 hid9 hbl9 => ?_)
    try dsimp only
    have dj_o22_s1_0 : Dj Ax9 A1_0 := Dj.grow dj_s1_1_s1_0 hbl9 hO_s1_0.lt
    have dj_o22_w10 : Dj Ax9 a0 := Dj.grow (Dj.symm dj_w5_s1_1) hbl9 hWc5.lt1
    have dj_o22_w11 : Dj Ax9 A5_w0 := Dj.grow (Dj.symm dn5_0_s1_1) hbl9 hWc5_0.lt1
    have dj_o22_o20 : Dj Ax9 Ax8 := Dj.grow (Dj.symm dj_o20_s1_1) hbl9 hO8.lt
    have hO_s1_0 := hO_s1_0.other (Dj.symm dj_s1_1_s1_0) g9
    have hWc5 := hWc5.other dj_w5_s1_1 g9
    have hWc5_0 := hWc5_0.other dn5_0_s1_1 g9
    have hO8 := hO8.other dj_o20_s1_1 g9
    have hF := Fine.own hF g9 (fun b hb => Or.inr (Own.base hO_s1_1 hb)) hid9
    obtain rfl := Option.some.inj h
    have h := hl1 _ rfl
    exact ok_again (I := I1) m1 (Nat.lt_succ_self _) (fun L w' he => by rw [hI1]; exact ⟨A1_0, c1_0, s1_0, Ax9, cx9, (s1_1 ++ ([(r18.1, r18.2.1, r18.2.2)] : List (Int × Int × Int))), _, qc5, A5_w0, c5_w0, rfl, h, hF.trans he.fine, hO_s1_0.later he.fine, hO9.later he.fine, hWc5.later he.fine, hWc5_0.later he.fine, dj_o22_s1_0, dj_w5_s1_0, (Dj.symm dj_o22_w10), dn5_0_s1_0, (Dj.symm dj_o22_w11), djc5_1_0, hmc5_0⟩)
  ·have h := bif_f h hc7
   refine ok_need hA_a0 ?_
   refine ok_need hA_a0 ?_
   have hm_hO_s1_1 : ∀ b, blk (A1_1, 0, 0) b → (ref08_Ledger_Lose.S a0 A0_0) b ∨ w.heap.size ≤ b := (fun b hb => Or.inr (Own.base hO_s1_1 hb))
   have hO_s1_1 := (hO_s1_1.off).mono0
   refine ok_put0 (R := RW27) (x' := ((A1_1, s1_1.length, c1_1), q1_a0.2.1, q1_a0.2.2.1, q1_a0.2.2.2)) (vs := [Value.slice A1_1 s1_1.length c1_1]) 0 hW1_a0 (Nat.le_of_ble_eq_true rfl) rfl (fun _ => rfl) (fun Lt23 wt23 ht23 gst23 hdt23 => ?_)
   have hO_s1_0 := hO_s1_0.other (Dj.symm dj_w5_s1_0) gst23
   have hO_s1_1 := hO_s1_1.other (Dj.symm dj_w5_s1_1) gst23
   have hF := Fine.own hF gst23 hm0 hdt23
   have hW1_a0 := ht23
   obtain rfl := Option.some.inj h
   obtain rfl := hr_1 _ rfl
   have homes := fun (b : Nat) (h : b < w.heap.size) => h
   intro ρ L w' _ he _ _
   exact ⟨A1_1, c1_1, A1_0, c1_0, rfl, (hF.ext he).with (fun b h => Or.inl h), (hW1_a0.later he.fine).bare', (hO_s1_1.later he.fine).bare', (Dj.symm dj_w5_s1_1), hm_hO_s1_1, (hO_s1_0.later he.fine).ret, (Dj.symm dj_s1_1_s1_0)⟩
 ·have h := bif_f h hc3
  obtain rfl := Option.some.inj h
  have homes := fun (b : Nat) (h : b < w.heap.size) => h
  intro ρ L w' _ he _ _
  exact ⟨A0_0, c0_0, none, 0, rfl, (hF.ext he).with (fun b h => Or.inl h), (hW0.later he.fine).bare', (hW0_0.later he.fine).bare', dj0_1_0, hm0_0, OwnF.ret (OwnF.nil _ (fun _ => False) _ _ _), Dj.nil2⟩
abbrev ref08_Ledger_Ack.S (a0 A0_0 : Option Addr) : Nat → Prop := fun b => blk (a0, 0, 0) b ∨ blk (A0_0, 0, 0) b
def ref08_Ledger_Ack.s4 (k : Nat) (a2 : Int) (a3 : Int) (l1 : List (Int × Int)) (r6 : Int × Int) : ((List (Int × Int × Int)) × (List (Int × Int × Int)) × Int × ((List (Int × Int × Int)) × Int × Int × Int)) → Option (Sum ((List (Int × Int × Int)) × (List (Int × Int × Int)) × Int × ((List (Int × Int × Int)) × Int × Int × Int)) ((List (Int × Int × Int)) × (List (Int × Int × Int)) × Int × ((List (Int × Int × Int)) × Int × Int × Int))) := fun (s4_0, s4_1, v4_2, q4_a0) => bif decide (v4_2 < (((q4_a0.1).length : Nat) : Int)) then ((getI q4_a0.1 v4_2).bind fun r13 => (ref05_Has.F k l1 r13.1).bind fun v8_0 => bif v8_0 then ((getI q4_a0.1 v4_2).bind fun r16 => bif decide ((s4_0.length + (([(r16.1, r16.2.1, r16.2.2)] : List (Int × Int × Int))).length) * 24 ≤ 140737488355328) then (some (.inl (((s4_0 ++ ([(r16.1, r16.2.1, r16.2.2)] : List (Int × Int × Int))), s4_1, IntKind.i64.wrap (v4_2 + 1), q4_a0)))) else none) else ((getI q4_a0.1 v4_2).bind fun r21 => bif decide ((s4_1.length + (([(r21.1, r21.2.1, r21.2.2)] : List (Int × Int × Int))).length) * 24 ≤ 140737488355328) then (some (.inl ((s4_0, (s4_1 ++ ([(r21.1, r21.2.1, r21.2.2)] : List (Int × Int × Int))), IntKind.i64.wrap (v4_2 + 1), q4_a0)))) else none)) else ((ref08_Ledger_Lose.F k ((s4_1, (if q4_a0.2.1 < r6.2 then r6.2 else q4_a0.2.1), q4_a0.2.2.1, q4_a0.2.2.2)) a2 a3).bind fun (s7_0, qc7) => some (.inr ((s4_0, s7_0, 0, qc7))))
def ref08_Ledger_Ack.F (k : Nat) (q0 : (List (Int × Int × Int)) × Int × Int × Int) (l1 : List (Int × Int)) (a2 : Int) (a3 : Int) : Option ((List (Int × Int × Int)) × (List (Int × Int × Int)) × Int × ((List (Int × Int × Int)) × Int × Int × Int)) := (ref05_Right.F k l1).bind fun v0_0 => bif v0_0 then (bif ((l1.length : Nat) : Int) == 0 then (some (([], [], 1, q0))) else ((ref08_waits.F k a2 a3).bind fun v1_0 => bif v1_0 then ((getI l1 (IntKind.i64.wrap (((l1.length : Nat) : Int) - 1))).bind fun r6 => bif decide (q0.2.2.1 < r6.2) then (some (([], [], 14, q0))) else (iter (ref08_Ledger_Ack.s4 k a2 a3 l1 r6) k ([], [], 0, q0))) else (some (([], [], 1, q0))))) else (some (([], [], 1, q0)))
abbrev ref08_Ledger_Ack.A : Nat → LA := fun r => if r = 8 then ⟨[(12, false, [Lf.sl]), (13, false, [Lf.sl]), (14, false, [Lf.i .i64])], []⟩ else ⟨[], []⟩
set_option maxHeartbeats 4000000 in
theorem ref08_Ledger_Ack.t (a0 : Option Addr) (A1 : Option Addr) (n1 c1 : Nat) (a2 : Int) (a3 : Int) : tree Try.prog ref08_Ledger_Ack.A noC Try.f14 [AV.v (Value.pointer a0), AV.v (Value.slice A1 n1 c1), AV.v (.int .i64 a2), AV.v (.int .i64 a3)] [] =
  .call 34 ([AV.v (Value.slice A1 n1 c1)]) ([]) (Sh.one) ([Lf.b]) ([]) (fun x0 =>
   bif x0.1 then (
    bif ((n1 : Nat) : Int) == 0 then (
     .done (AV.tup [AV.v (Value.slice none 0 0), AV.v (Value.slice none 0 0), AV.v (.int .i64 1)]) ([]))
    else (
     .call 35 ([AV.v (.int .i64 a2), AV.v (.int .i64 a3)]) ([]) (Sh.one) ([Lf.b]) ([]) (fun x1 =>
      bif x1.1 then (
       .need (decide (0 ≤ IntKind.i64.wrap (((n1 : Nat) : Int) - 1)) && decide (IntKind.i64.wrap (((n1 : Nat) : Int) - 1) < ((n1 : Nat) : Int)) && Option.isSome A1) (
       .need (Option.isSome (Option.map (fun x => Addr.add x (Int.toNat (IntKind.i64.wrap (((n1 : Nat) : Int) - 1)) * 2)) A1)) (
       .ld (Option.map (fun x => Addr.add x 1) (Option.map (fun x => Addr.add x (Int.toNat (IntKind.i64.wrap (((n1 : Nat) : Int) - 1)) * 2)) A1)) ([Lf.i .i64]) (fun x2 =>
        .need (Option.isSome a0) (
        .need (Option.isSome a0) (
        .ld (Option.map (fun x => Addr.add x 2) a0) ([Lf.i .i64]) (fun x3 =>
         bif decide (x3.1 < x2.1) then (
          .done (AV.tup [AV.v (Value.slice none 0 0), AV.v (Value.slice none 0 0), AV.v (.int .i64 14)]) ([]))
         else (
          .loop ([Lf.sl, Lf.sl, Lf.i .i64]) (((none, 0, 0), (none, 0, 0), 0, PUnit.unit)) 0 (fun x4 =>
           .need (Option.isSome a0) (
           .need (Option.isSome a0) (
           .ld (Option.map (fun x => Addr.add x 0) a0) ([Lf.sl]) (fun x5 =>
            bif decide (x4.2.2.1 < ((x5.1.2.1 : Nat) : Int)) then (
             .need (Option.isSome a0) (
             .need (Option.isSome a0) (
             .ld (Option.map (fun x => Addr.add x 0) a0) ([Lf.sl]) (fun x6 =>
              .need (decide (0 ≤ x4.2.2.1) && decide (x4.2.2.1 < ((x6.1.2.1 : Nat) : Int)) && Option.isSome x6.1.1) (
              .need (Option.isSome (Option.map (fun x => Addr.add x (Int.toNat x4.2.2.1 * 3)) x6.1.1)) (
              .ld (Option.map (fun x => Addr.add x 0) (Option.map (fun x => Addr.add x (Int.toNat x4.2.2.1 * 3)) x6.1.1)) ([Lf.i .i64]) (fun x7 =>
               .call 36 ([AV.v (Value.slice A1 n1 c1), AV.v (.int .i64 x7.1)]) ([]) (Sh.one) ([Lf.b]) ([]) (fun x8 =>
                bif x8.1 then (
                 .need (Option.isSome a0) (
                 .need (Option.isSome a0) (
                 .ld (Option.map (fun x => Addr.add x 0) a0) ([Lf.sl]) (fun x9 =>
                  .need (decide (0 ≤ x4.2.2.1) && decide (x4.2.2.1 < ((x9.1.2.1 : Nat) : Int)) && Option.isSome x9.1.1) (
                  .ld (Option.map (fun x => Addr.add x (Int.toNat x4.2.2.1 * 3)) x9.1.1) ([Lf.i .i64, Lf.i .i64, Lf.i .i64]) (fun x10 =>
                   .sem (Instr.buildSlice 25 1 { toList := [(0, Value.agg { toList := [Value.int IntKind.i64 x10.1, Value.int IntKind.i64 x10.2.1, Value.int IntKind.i64 x10.2.2.1] })] }) ([Lf.sl]) (Sh.one) (fun x11 =>
                    .sem (Builtin.append_ { toList := [25, 25] } 25 { toList := [Value.slice x4.1.1 x4.1.2.1 x4.1.2.2, Value.slice x11.1.1 x11.1.2.1 x11.1.2.2] }) ([Lf.sl]) (Sh.one) (fun x12 =>
                     .again 0 ([Lf.sl, Lf.sl, Lf.i .i64]) (((x12.1.1, x12.1.2.1, x12.1.2.2), (x4.2.1.1, x4.2.1.2.1, x4.2.1.2.2), IntKind.i64.wrap (x4.2.2.1 + 1), PUnit.unit))))))))))
                else (
                 .need (Option.isSome a0) (
                 .need (Option.isSome a0) (
                 .ld (Option.map (fun x => Addr.add x 0) a0) ([Lf.sl]) (fun x9 =>
                  .need (decide (0 ≤ x4.2.2.1) && decide (x4.2.2.1 < ((x9.1.2.1 : Nat) : Int)) && Option.isSome x9.1.1) (
                  .ld (Option.map (fun x => Addr.add x (Int.toNat x4.2.2.1 * 3)) x9.1.1) ([Lf.i .i64, Lf.i .i64, Lf.i .i64]) (fun x10 =>
                   .sem (Instr.buildSlice 25 1 { toList := [(0, Value.agg { toList := [Value.int IntKind.i64 x10.1, Value.int IntKind.i64 x10.2.1, Value.int IntKind.i64 x10.2.2.1] })] }) ([Lf.sl]) (Sh.one) (fun x11 =>
                    .sem (Builtin.append_ { toList := [25, 25] } 25 { toList := [Value.slice x4.2.1.1 x4.2.1.2.1 x4.2.1.2.2, Value.slice x11.1.1 x11.1.2.1 x11.1.2.2] }) ([Lf.sl]) (Sh.one) (fun x12 =>
                     .again 0 ([Lf.sl, Lf.sl, Lf.i .i64]) (((x4.1.1, x4.1.2.1, x4.1.2.2), (x12.1.1, x12.1.2.1, x12.1.2.2), IntKind.i64.wrap (x4.2.2.1 + 1), PUnit.unit))))))))))))))))))
            else (
             .need (Option.isSome a0) (
             .need (Option.isSome a0) (
             .sto (Option.map (fun x => Addr.add x 0) a0) ([AV.v (Value.slice x4.2.1.1 x4.2.1.2.1 x4.2.1.2.2)]) ([]) (
             .need (Option.isSome a0) (
             .need (Option.isSome a0) (
             .ld (Option.map (fun x => Addr.add x 1) a0) ([Lf.i .i64]) (fun x6 =>
              .need (Option.isSome a0) (
              .need (Option.isSome a0) (
              .sto (Option.map (fun x => Addr.add x 1) a0) ([AV.v (.int .i64 (if x6.1 < x2.1 then x2.1 else x6.1))]) ([]) (
              .call 18 ([AV.v (Value.pointer a0), AV.v (.int .i64 a2), AV.v (.int .i64 a3)]) ([]) (Sh.one) ([Lf.sl]) ([]) (fun x7 =>
               .done (AV.tup [AV.v (Value.slice x4.1.1 x4.1.2.1 x4.1.2.2), AV.v (Value.slice x7.1.1 x7.1.2.1 x7.1.2.2), AV.v (.int .i64 0)]) ([]))))))))))))))))))))))))
      else (
       .done (AV.tup [AV.v (Value.slice none 0 0), AV.v (Value.slice none 0 0), AV.v (.int .i64 1)]) ([])))))
   else (
    .done (AV.tup [AV.v (Value.slice none 0 0), AV.v (Value.slice none 0 0), AV.v (.int .i64 1)]) ([]))) := by kernel_rfl
set_option maxHeartbeats 4000000 in
theorem ref08_Ledger_Ack.c (k : Nat) (a0 : Option Addr) (q0 : (List (Int × Int × Int)) × Int × Int × Int) (A0_0 : Option Addr) (c0_0 : Nat) (A1 : Option Addr) (n1 c1 : Nat) (l1 : List (Int × Int)) (a2 : Int) (a3 : Int) (r : (List (Int × Int × Int)) × (List (Int × Int × Int)) × Int × ((List (Int × Int × Int)) × Int × Int × Int)) (h : ref08_Ledger_Ack.F k q0 l1 a2 a3 = some r) (hn1 : n1 = l1.length) (w : World) (hW0 : OwnO 0 (fun _ => False) w 27 RW27 a0 1 [((A0_0, q0.1.length, c0_0), q0.2.1, q0.2.2.1, q0.2.2.2)]) (hW0_0 : OwnO 0 (fun _ => False) w 66 R25 A0_0 c0_0 q0.1) (dj0_1_0 : Dj A0_0 a0) (hS1 : SlR R30.row (ref08_Ledger_Ack.S a0 A0_0) w A1 c1 l1) : Calls Try.prog 14 (AV.gs id [AV.v (Value.pointer a0), AV.v (Value.slice A1 n1 c1), AV.v (.int .i64 a2), AV.v (.int .i64 a3)]).toArray w fun e w' => ∃ (P0 : Option Addr) (p0 : Nat) (B0 : Option Addr) (d0 : Nat) (B1 : Option Addr) (d1 : Nat), e = .returned (((Sh.tup [(false, 1), (false, 1), (false, 1)] : Sh).av (vs [Lf.sl, Lf.sl, Lf.i .i64] ((B0, (r.1).length, d0), (B1, (r.2.1).length, d1), r.2.2.1, ()))).g id) ∧ Fine (ref08_Ledger_Ack.S a0 A0_0) w (ref08_Ledger_Ack.S a0 A0_0) w' ∧ OwnO 0 (fun _ => False) w' 27 RW27 a0 1 [((P0, r.2.2.2.1.length, p0), r.2.2.2.2.1, r.2.2.2.2.2.1, r.2.2.2.2.2.2)] ∧ OwnO 0 (fun _ => False) w' 66 R25 P0 p0 r.2.2.2.1 ∧ Dj P0 a0 ∧ (∀ b, blk (P0, 0, 0) b → (ref08_Ledger_Ack.S a0 A0_0) b ∨ w.heap.size ≤ b) ∧ OwnF w.heap.size (fun b => b < w.heap.size) w' 66 R25 B0 d0 r.1 ∧ OwnF w.heap.size (fun b => b < w.heap.size) w' 66 R25 B1 d1 r.2.1 ∧ Dj B0 P0 ∧ Dj B1 P0 ∧ Dj B1 B0 := by
 subst hn1
 refine enter0 mixed ref08_Ledger_Ack.A noC [AV.v (Value.pointer a0), AV.v (Value.slice A1 l1.length c1), AV.v (.int .i64 a2), AV.v (.int .i64 a3)] Try.func14 rfl rfl rfl (fun hF => ?_)
 have hA_a0 : Option.isSome a0 = true := hW0.sl.some (by simp)
 have hN_a0 : Option.isNone a0 = false := by cases a0 <;> simp_all
 have hF : Fine (ref08_Ledger_Ack.S a0 A0_0) w (fun _ => False) w := ⟨rfl, rfl, rfl, Nat.le_refl _, fun _ _ _ => rfl, fun b h => h.elim⟩
 have hm0 : ∀ b, blk (a0, 0, 0) b → (ref08_Ledger_Ack.S a0 A0_0) b ∨ w.heap.size ≤ b := fun b hb => Or.inl (Or.inl hb)
 have hm0_0 : ∀ b, blk (A0_0, 0, 0) b → (ref08_Ledger_Ack.S a0 A0_0) b ∨ w.heap.size ≤ b := fun b hb => Or.inl (Or.inr hb)
 rw [ref08_Ledger_Ack.t]
 unfold ref08_Ledger_Ack.F at h
 try dsimp only at h
 obtain ⟨v0_0, hr0, h⟩ := bse h
 refine ok_callm rfl (fun L0 w0 g0 lt0 => ?_)
 refine (ref05_Right.c k _ _ _ l1 v0_0 hr0 rfl w0 (hS1.later (hF.trans g0)).bare).mono ?_
 rintro e w0' ⟨rfl, hb0⟩
 refine ⟨(v0_0, ()), rfl, hb0, fun g0' => ?_⟩
 try dsimp only
 have hF := hF.trans g0'
 have hW0 := hW0.later g0'
 have hW0_0 := hW0_0.later g0'
 refine ok_if (fun hc3 => ?_) (fun hc3 => ?_)
 ·have h := bif_t h hc3
  refine ok_if (fun hc4 => ?_) (fun hc4 => ?_)
  ·have h := bif_t h hc4
   obtain rfl := Option.some.inj h
   have homes := fun (b : Nat) (h : b < w.heap.size) => h
   intro ρ L w' _ he _ _
   exact ⟨A0_0, c0_0, none, 0, none, 0, rfl, (hF.ext he).with (fun b h => Or.inl h), (hW0.later he.fine).bare', (hW0_0.later he.fine).bare', dj0_1_0, hm0_0, OwnF.ret (OwnF.nil _ (fun _ => False) _ _ _), OwnF.ret (OwnF.nil _ (fun _ => False) _ _ _), Dj.nil2, Dj.nil2, Dj.nil2⟩
  ·have h := bif_f h hc4
   obtain ⟨v1_0, hr1, h⟩ := bse h
   refine ok_callm rfl (fun L1 w1 g1 lt1 => ?_)
   refine (ref08_waits.c k a2 a3 v1_0 hr1  w1 ).mono ?_
   rintro e w1' ⟨rfl, hb1⟩
   refine ⟨(v1_0, ()), rfl, hb1, fun g1' => ?_⟩
   try dsimp only
   have hF := hF.trans g1'
   have hW0 := hW0.later g1'
   have hW0_0 := hW0_0.later g1'
   refine ok_if (fun hc5 => ?_) (fun hc5 => ?_)
   ·have h := bif_t h hc5
    obtain ⟨r6, hr7, h⟩ := bse h
    refine ok_need (getI_need (hS1.later hF) hr7) ?_
    refine ok_need (getI_need2 (hS1.later hF) hr7) ?_
    refine ok_getf 1 hS1 hF hr7 (fun cs hcs => ⟨r6.2, by rw [hcs]; rfl, ?_⟩)
    try dsimp only
    refine ok_need hA_a0 ?_
    refine ok_need hA_a0 ?_
    refine ok_ob 2 hW0.sl (Fine.refl _ _) (fun cs hcs => ⟨q0.2.2.1, by rw [hcs]; rfl, ?_⟩)
    try dsimp only
    refine ok_if (fun hc8 => ?_) (fun hc8 => ?_)
    ·have h := bif_t h hc8
     obtain rfl := Option.some.inj h
     have homes := fun (b : Nat) (h : b < w.heap.size) => h
     intro ρ L w' _ he _ _
     exact ⟨A0_0, c0_0, none, 0, none, 0, rfl, (hF.ext he).with (fun b h => Or.inl h), (hW0.later he.fine).bare', (hW0_0.later he.fine).bare', dj0_1_0, hm0_0, OwnF.ret (OwnF.nil _ (fun _ => False) _ _ _), OwnF.ret (OwnF.nil _ (fun _ => False) _ _ _), Dj.nil2, Dj.nil2, Dj.nil2⟩
    ·have h := bif_f h hc8
     obtain ⟨I4, hI4⟩ : ∃ I : Nat → Tup [Lf.sl, Lf.sl, Lf.i .i64] → (Nat → Prop) → World → Prop, I = (fun m_ y L w' => ∃ (A4_0 : Option Addr) (c4_0 : Nat) (s4_0 : List (Int × Int × Int)) (A4_1 : Option Addr) (c4_1 : Nat) (s4_1 : List (Int × Int × Int)) (v4_2 : Int) (q4_a0 : (List (Int × Int × Int)) × Int × Int × Int) (A4_a0_0 : Option Addr) (c4_a0_0 : Nat), y = ((A4_0, s4_0.length, c4_0), (A4_1, s4_1.length, c4_1), v4_2, ()) ∧ iter (ref08_Ledger_Ack.s4 k a2 a3 l1 r6) m_ (s4_0, s4_1, v4_2, q4_a0) = some r ∧ Fine (ref08_Ledger_Ack.S a0 A0_0) w L w' ∧ OwnF w.heap.size L w' 66 R25 A4_0 c4_0 s4_0 ∧ OwnF w.heap.size L w' 66 R25 A4_1 c4_1 s4_1 ∧ OwnO 0 L w' 27 RW27 a0 1 [((A4_a0_0, q4_a0.1.length, c4_a0_0), q4_a0.2.1, q4_a0.2.2.1, q4_a0.2.2.2)] ∧ OwnO 0 L w' 66 R25 A4_a0_0 c4_a0_0 q4_a0.1 ∧ Dj A4_1 A4_0 ∧ Dj a0 A4_0 ∧ Dj a0 A4_1 ∧ Dj A4_a0_0 A4_0 ∧ Dj A4_a0_0 A4_1 ∧ Dj A4_a0_0 a0 ∧ (∀ b, blk (A4_a0_0, 0, 0) b → (ref08_Ledger_Ack.S a0 A0_0) b ∨ w.heap.size ≤ b)) := ⟨_, rfl⟩
     refine ok_loop I4 k (by rw [hI4]; exact ⟨none, 0, [], none, 0, [], _, q0, A0_0, c0_0, rfl, h, hF, OwnF.nil _ _ _ _ _, OwnF.nil _ _ _ _ _, hW0, hW0_0, Dj.nil2, Dj.nil, Dj.nil, Dj.nil, Dj.nil, dj0_1_0, hm0_0⟩) ?_
     clear h
     intro m_ y L4 w4 hy
     rw [hI4] at hy
     obtain ⟨A4_0, c4_0, s4_0, A4_1, c4_1, s4_1, v4_2, q4_a0, A4_a0_0, c4_a0_0, rfl, h, hF, hO_s4_0, hO_s4_1, hW4_a0, hW4_a0_0, dj_s4_1_s4_0, dj_w10_s4_0, dj_w10_s4_1, dj_w11_s4_0, dj_w11_s4_1, dj_w11_w10, hm4_a0_0⟩ := hy
     obtain ⟨m4, o4, rfl, h, hl4, hr_4⟩ := iter_some h
     unfold ref08_Ledger_Ack.s4 at h
     try dsimp only at h
     try dsimp only
     refine ok_need hA_a0 ?_
     refine ok_need hA_a0 ?_
     refine ok_ob 0 hW4_a0.sl (Fine.refl _ _) (fun cs hcs => ⟨(A4_a0_0, q4_a0.1.length, c4_a0_0), by rw [hcs]; rfl, ?_⟩)
     try dsimp only
     refine ok_if (fun hc12 => ?_) (fun hc12 => ?_)
     ·have h := bif_t h hc12
      refine ok_need hA_a0 ?_
      refine ok_need hA_a0 ?_
      refine ok_ob 0 hW4_a0.sl (Fine.refl _ _) (fun cs hcs => ⟨(A4_a0_0, q4_a0.1.length, c4_a0_0), by rw [hcs]; rfl, ?_⟩)
      try dsimp only
      obtain ⟨r13, hr14, h⟩ := bse h
      refine ok_need (getI_need hW4_a0_0.sl hr14) ?_
      refine ok_need (getI_need2 hW4_a0_0.sl hr14) ?_
      refine ok_getf 0 hW4_a0_0.sl (Fine.refl _ _) hr14 (fun cs hcs => ⟨r13.1, by rw [hcs]; rfl, ?_⟩)
      try dsimp only
      obtain ⟨v8_0, hr8, h⟩ := bse h
      refine ok_callm rfl (fun L8 w8 g8 lt8 => ?_)
      refine (ref05_Has.c k _ _ _ l1 r13.1 v8_0 hr8 rfl w8 (hS1.later (hF.trans g8)).bare).mono ?_
      rintro e w8' ⟨rfl, hb8⟩
      refine ⟨(v8_0, ()), rfl, hb8, fun g8' => ?_⟩
      try dsimp only
      have hF := hF.trans g8'
      have hO_s4_0 := hO_s4_0.later g8'
      have hO_s4_1 := hO_s4_1.later g8'
      have hW4_a0 := hW4_a0.later g8'
      have hW4_a0_0 := hW4_a0_0.later g8'
      refine ok_if (fun hc15 => ?_) (fun hc15 => ?_)
      ·have h := bif_t h hc15
       refine ok_need hA_a0 ?_
       refine ok_need hA_a0 ?_
       refine ok_ob 0 hW4_a0.sl (Fine.refl _ _) (fun cs hcs => ⟨(A4_a0_0, q4_a0.1.length, c4_a0_0), by rw [hcs]; rfl, ?_⟩)
       try dsimp only
       obtain ⟨r16, hr17, h⟩ := bse h
       refine ok_need (getI_need hW4_a0_0.sl hr17) ?_
       refine ok_get hW4_a0_0.sl (Fine.refl _ _) hr17 (by simp) (fun cs hcs => ⟨(r16.1, r16.2.1, r16.2.2, ()), hcs.symm, ?_⟩)
       try dsimp only
       refine ok_lit (R := R25) (base := w.heap.size) (xs := ([(r16.1, r16.2.1, r16.2.2)] : List (Int × Int × Int))) #[Value.int IntKind.i64 r16.1, Value.int IntKind.i64 r16.2.1, Value.int IntKind.i64 r16.2.2] E25 rfl (by decide) (by decide) ⟨_, _, rfl, rfl, by kernel_rfl⟩ rfl hF.size (fun Ax11 cx11 L11 w11 hO11 g11 hbl11 => ?_)
       try dsimp only
       have dj_o18_s4_0 : Dj Ax11 A4_0 := Dj.new hbl11 hO_s4_0.lt
       have dj_o18_s4_1 : Dj Ax11 A4_1 := Dj.new hbl11 hO_s4_1.lt
       have dj_o18_w10 : Dj Ax11 a0 := Dj.new hbl11 hW4_a0.lt1
       have dj_o18_w11 : Dj Ax11 A4_a0_0 := Dj.new hbl11 hW4_a0_0.lt1
       have hF := hF.trans g11
       have hO_s4_0 := hO_s4_0.later g11
       have hO_s4_1 := hO_s4_1.later g11
       have hW4_a0 := hW4_a0.later g11
       have hW4_a0_0 := hW4_a0_0.later g11
       obtain ⟨hq19, h⟩ := bif_need h
       have hq19 := of_decide_eq_true hq19
       refine ok_app (R := R25) (base := w.heap.size) (xs := s4_0) (ys := ([(r16.1, r16.2.1, r16.2.2)] : List (Int × Int × Int))) rfl rfl E25 hO_s4_0 hO11.sl (by decide) hq19 hF.size (fun Ax12 cx12 L12 w12 hO12 g12 hid12 hbl12 => ?_)
       try dsimp only
       have dj_o20_s4_1 : Dj Ax12 A4_1 := Dj.grow (Dj.symm dj_s4_1_s4_0) hbl12 hO_s4_1.lt
       have dj_o20_w10 : Dj Ax12 a0 := Dj.grow (Dj.symm dj_w10_s4_0) hbl12 hW4_a0.lt1
       have dj_o20_w11 : Dj Ax12 A4_a0_0 := Dj.grow (Dj.symm dj_w11_s4_0) hbl12 hW4_a0_0.lt1
       have dj_o20_o18 : Dj Ax12 Ax11 := Dj.grow (Dj.symm dj_o18_s4_0) hbl12 hO11.lt
       have hO_s4_1 := hO_s4_1.other dj_s4_1_s4_0 g12
       have hW4_a0 := hW4_a0.other dj_w10_s4_0 g12
       have hW4_a0_0 := hW4_a0_0.other dj_w11_s4_0 g12
       have hO11 := hO11.other dj_o18_s4_0 g12
       have hF := Fine.own hF g12 (fun b hb => Or.inr (Own.base hO_s4_0 hb)) hid12
       obtain rfl := Option.some.inj h
       have h := hl4 _ rfl
       exact ok_again (I := I4) m4 (Nat.lt_succ_self _) (fun L w' he => by rw [hI4]; exact ⟨Ax12, cx12, (s4_0 ++ ([(r16.1, r16.2.1, r16.2.2)] : List (Int × Int × Int))), A4_1, c4_1, s4_1, _, q4_a0, A4_a0_0, c4_a0_0, rfl, h, hF.trans he.fine, hO12.later he.fine, hO_s4_1.later he.fine, hW4_a0.later he.fine, hW4_a0_0.later he.fine, (Dj.symm dj_o20_s4_1), (Dj.symm dj_o20_w10), dj_w10_s4_1, (Dj.symm dj_o20_w11), dj_w11_s4_1, dj_w11_w10, hm4_a0_0⟩)
      ·have h := bif_f h hc15
       refine ok_need hA_a0 ?_
       refine ok_need hA_a0 ?_
       refine ok_ob 0 hW4_a0.sl (Fine.refl _ _) (fun cs hcs => ⟨(A4_a0_0, q4_a0.1.length, c4_a0_0), by rw [hcs]; rfl, ?_⟩)
       try dsimp only
       obtain ⟨r21, hr22, h⟩ := bse h
       refine ok_need (getI_need hW4_a0_0.sl hr22) ?_
       refine ok_get hW4_a0_0.sl (Fine.refl _ _) hr22 (by simp) (fun cs hcs => ⟨(r21.1, r21.2.1, r21.2.2, ()), hcs.symm, ?_⟩)
       try dsimp only
       refine ok_lit (R := R25) (base := w.heap.size) (xs := ([(r21.1, r21.2.1, r21.2.2)] : List (Int × Int × Int))) #[Value.int IntKind.i64 r21.1, Value.int IntKind.i64 r21.2.1, Value.int IntKind.i64 r21.2.2] E25 rfl (by decide) (by decide) ⟨_, _, rfl, rfl, by kernel_rfl⟩ rfl hF.size (fun Ax11 cx11 L11 w11 hO11 g11 hbl11 => ?_)
       try dsimp only
       have dj_o23_s4_0 : Dj Ax11 A4_0 := Dj.new hbl11 hO_s4_0.lt
       have dj_o23_s4_1 : Dj Ax11 A4_1 := Dj.new hbl11 hO_s4_1.lt
       have dj_o23_w10 : Dj Ax11 a0 := Dj.new hbl11 hW4_a0.lt1
       have dj_o23_w11 : Dj Ax11 A4_a0_0 := Dj.new hbl11 hW4_a0_0.lt1
       have hF := hF.trans g11
       have hO_s4_0 := hO_s4_0.later g11
       have hO_s4_1 := hO_s4_1.later g11
       have hW4_a0 := hW4_a0.later g11
       have hW4_a0_0 := hW4_a0_0.later g11
       obtain ⟨hq24, h⟩ := bif_need h
       have hq24 := of_decide_eq_true hq24
       refine ok_app (R := R25) (base := w.heap.size) (xs := s4_1) (ys := ([(r21.1, r21.2.1, r21.2.2)] : List (Int × Int × Int))) rfl rfl E25 hO_s4_1 hO11.sl (by decide) hq24 hF.size (fun Ax12 cx12 L12 w12 hO12 g12 hid12 hbl12 => ?_)
       try dsimp only
       have dj_o25_s4_0 : Dj Ax12 A4_0 := Dj.grow dj_s4_1_s4_0 hbl12 hO_s4_0.lt
       have dj_o25_w10 : Dj Ax12 a0 := Dj.grow (Dj.symm dj_w10_s4_1) hbl12 hW4_a0.lt1
       have dj_o25_w11 : Dj Ax12 A4_a0_0 := Dj.grow (Dj.symm dj_w11_s4_1) hbl12 hW4_a0_0.lt1
       have dj_o25_o23 : Dj Ax12 Ax11 := Dj.grow (Dj.symm dj_o23_s4_1) hbl12 hO11.lt
       have hO_s4_0 := hO_s4_0.other (Dj.symm dj_s4_1_s4_0) g12
       have hW4_a0 := hW4_a0.other dj_w10_s4_1 g12
       have hW4_a0_0 := hW4_a0_0.other dj_w11_s4_1 g12
       have hO11 := hO11.other dj_o23_s4_1 g12
       have hF := Fine.own hF g12 (fun b hb => Or.inr (Own.base hO_s4_1 hb)) hid12
       obtain rfl := Option.some.inj h
       have h := hl4 _ rfl
       exact ok_again (I := I4) m4 (Nat.lt_succ_self _) (fun L w' he => by rw [hI4]; exact ⟨A4_0, c4_0, s4_0, Ax12, cx12, (s4_1 ++ ([(r21.1, r21.2.1, r21.2.2)] : List (Int × Int × Int))), _, q4_a0, A4_a0_0, c4_a0_0, rfl, h, hF.trans he.fine, hO_s4_0.later he.fine, hO12.later he.fine, hW4_a0.later he.fine, hW4_a0_0.later he.fine, dj_o25_s4_0, dj_w10_s4_0, (Dj.symm dj_o25_w10), dj_w11_s4_0, (Dj.symm dj_o25_w11), dj_w11_w10, hm4_a0_0⟩)
     ·have h := bif_f h hc12
      refine ok_need hA_a0 ?_
      refine ok_need hA_a0 ?_
      have hm_hO_s4_1 : ∀ b, blk (A4_1, 0, 0) b → (ref08_Ledger_Ack.S a0 A0_0) b ∨ w.heap.size ≤ b := (fun b hb => Or.inr (Own.base hO_s4_1 hb))
      have hO_s4_1 := (hO_s4_1.off).mono0
      refine ok_put0 (R := RW27) (x' := ((A4_1, s4_1.length, c4_1), q4_a0.2.1, q4_a0.2.2.1, q4_a0.2.2.2)) (vs := [Value.slice A4_1 s4_1.length c4_1]) 0 hW4_a0 (Nat.le_of_ble_eq_true rfl) rfl (fun _ => rfl) (fun Lt26 wt26 ht26 gst26 hdt26 => ?_)
      have hO_s4_0 := hO_s4_0.other (Dj.symm dj_w10_s4_0) gst26
      have hO_s4_1 := hO_s4_1.other (Dj.symm dj_w10_s4_1) gst26
      have hF := Fine.own hF gst26 hm0 hdt26
      have hW4_a0 := ht26
      refine ok_need hA_a0 ?_
      refine ok_need hA_a0 ?_
      refine ok_ob 1 hW4_a0.sl (Fine.refl _ _) (fun cs hcs => ⟨q4_a0.2.1, by rw [hcs]; rfl, ?_⟩)
      try dsimp only
      refine ok_need hA_a0 ?_
      refine ok_need hA_a0 ?_
      refine ok_put0 (R := RW27) (x' := ((A4_1, s4_1.length, c4_1), (if q4_a0.2.1 < r6.2 then r6.2 else q4_a0.2.1), q4_a0.2.2.1, q4_a0.2.2.2)) (vs := [Value.int IntKind.i64 (if q4_a0.2.1 < r6.2 then r6.2 else q4_a0.2.1)]) 1 hW4_a0 (Nat.le_of_ble_eq_true rfl) rfl (fun _ => rfl) (fun Lt27 wt27 ht27 gst27 hdt27 => ?_)
      have hO_s4_0 := hO_s4_0.other (Dj.symm dj_w10_s4_0) gst27
      have hO_s4_1 := hO_s4_1.other (Dj.symm dj_w10_s4_1) gst27
      have hF := Fine.own hF gst27 hm0 hdt27
      have hW4_a0 := ht27
      obtain ⟨r7, hr7, h⟩ := bse h
      obtain ⟨s7_0, qc7⟩ := r7
      try dsimp only at h
      have hBv7 : ∀ b, (ref08_Ledger_Lose.S a0 A4_1) b → ¬ _ ∧ b < _ := fun b hb => by rcases hb with hb | hb; exact ⟨(hW4_a0.lt b hb).2.1, hW4_a0.lt1 b hb⟩; exact ⟨(hO_s4_1.lt b hb).2.1, hO_s4_1.lt1 b hb⟩
      have hBm7 : ∀ b, (ref08_Ledger_Lose.S a0 A4_1) b → (ref08_Ledger_Ack.S a0 A0_0) b ∨ w.heap.size ≤ b := fun b hb => by rcases hb with hb | hb; exact hm0 b hb; exact hm_hO_s4_1 b hb
      have hjB7_s4_0 : ∀ b, blk (A4_0, 0, 0) b → ¬ (ref08_Ledger_Lose.S a0 A4_1) b := fun b h0 hb => by rcases hb with hb | hb; exact (Dj.symm dj_w10_s4_0) b h0 hb; exact (Dj.symm dj_s4_1_s4_0) b h0 hb
      refine ok_callo (ref08_Ledger_Lose.S a0 A4_1) rfl hBv7 (fun L7 w7 g7 lt7 => ?_)
      refine (ref08_Ledger_Lose.c k _ ((s4_1, (if q4_a0.2.1 < r6.2 then r6.2 else q4_a0.2.1), q4_a0.2.2.1, q4_a0.2.2.2)) _ _ a2 a3 (s7_0, qc7) hr7  w7 (hW4_a0.later g7).bare' (hO_s4_1.later g7).bare' (Dj.symm dj_w10_s4_1)).mono ?_
      rintro e w7' ⟨A7_w0, c7_w0, A7_0, c7_0, rfl, hf7, hWc7, hWc7_0, djc7_1_0, hzc7_0, hO7_0, dr7_o28_0⟩
      refine ⟨((A7_0, s7_0.length, c7_0), ()), rfl, hf7, fun g7' hid7 hv7 => ?_⟩
      try dsimp only
      have dn7_0_s4_0 : Dj A7_w0 A4_0 := Dj.byB hzc7_0 hjB7_s4_0 (hO_s4_0.later g7).lt
      have dj_o28_s4_0 : Dj A7_0 A4_0 := Dj.new hO7_0.fresh (hO_s4_0.later g7).lt
      have dk7_o28 : Dj A7_0 a0 := Dj.new hO7_0.fresh (fun b hb => Nat.lt_of_lt_of_le (hBv7 b (Or.inl hb)).2 g7.size)
      have hmc7 := hm0
      have hmc7_0 : ∀ b, blk (A7_w0, 0, 0) b → (ref08_Ledger_Ack.S a0 A0_0) b ∨ w.heap.size ≤ b := fun b hb => (hzc7_0 b hb).elim (hBm7 b) (fun h => Or.inr (Nat.le_trans (hF.trans g7).size h))
      have hWc7 := hWc7.vis (fun b hb => hv7 b (Or.inl (Or.inl hb)))
      have hWc7_0 := hWc7_0.vis (fun b hb => hv7 b (hzc7_0 b hb))
      have hO7_0 := hO7_0.call (hF.trans g7).size lt7
      have hO_s4_0 := OwnF.others hO_s4_0 hjB7_s4_0 g7'
      have hF := Fine.own hF g7' hBm7 hid7
      obtain rfl := Option.some.inj h
      obtain rfl := hr_4 _ rfl
      have homes := fun (b : Nat) (h : b < w.heap.size) => h
      intro ρ L w' _ he _ _
      exact ⟨A7_w0, c7_w0, A4_0, c4_0, A7_0, c7_0, rfl, (hF.ext he).with (fun b h => Or.inl h), (hWc7.later he.fine).bare', (hWc7_0.later he.fine).bare', djc7_1_0, hmc7_0, (hO_s4_0.later he.fine).ret, (hO7_0.later he.fine).ret, (Dj.symm dn7_0_s4_0), dr7_o28_0, dj_o28_s4_0⟩
   ·have h := bif_f h hc5
    obtain rfl := Option.some.inj h
    have homes := fun (b : Nat) (h : b < w.heap.size) => h
    intro ρ L w' _ he _ _
    exact ⟨A0_0, c0_0, none, 0, none, 0, rfl, (hF.ext he).with (fun b h => Or.inl h), (hW0.later he.fine).bare', (hW0_0.later he.fine).bare', dj0_1_0, hm0_0, OwnF.ret (OwnF.nil _ (fun _ => False) _ _ _), OwnF.ret (OwnF.nil _ (fun _ => False) _ _ _), Dj.nil2, Dj.nil2, Dj.nil2⟩
 ·have h := bif_f h hc3
  obtain rfl := Option.some.inj h
  have homes := fun (b : Nat) (h : b < w.heap.size) => h
  intro ρ L w' _ he _ _
  exact ⟨A0_0, c0_0, none, 0, none, 0, rfl, (hF.ext he).with (fun b h => Or.inl h), (hW0.later he.fine).bare', (hW0_0.later he.fine).bare', dj0_1_0, hm0_0, OwnF.ret (OwnF.nil _ (fun _ => False) _ _ _), OwnF.ret (OwnF.nil _ (fun _ => False) _ _ _), Dj.nil2, Dj.nil2, Dj.nil2⟩
abbrev ref08_Ledger_Due.S (a0 A0_0 : Option Addr) : Nat → Prop := fun b => blk (a0, 0, 0) b ∨ blk (A0_0, 0, 0) b
def ref08_Ledger_Due.s0 (k : Nat) (a1 : Int) (q0 : (List (Int × Int × Int)) × Int × Int × Int) : (Int × Int) → Option (Sum (Int × Int) (Int × ((List (Int × Int × Int)) × Int × Int × Int))) := fun (v0_0, v0_1) => bif decide (v0_1 < (((q0.1).length : Nat) : Int)) then ((ref08_waits.F k 0 a1).bind fun v2_0 => bif v2_0 then ((getI q0.1 v0_1).bind fun r6 => bif decide (r6.1 < q0.2.1) then (bif decide (v0_0 < 0) then (some (.inl ((IntKind.i64.wrap (r6.2.1 + a1), IntKind.i64.wrap (v0_1 + 1))))) else (bif decide (IntKind.i64.wrap (r6.2.1 + a1) < v0_0) then (some (.inl ((IntKind.i64.wrap (r6.2.1 + a1), IntKind.i64.wrap (v0_1 + 1))))) else (some (.inl ((v0_0, IntKind.i64.wrap (v0_1 + 1))))))) else (some (.inl ((v0_0, IntKind.i64.wrap (v0_1 + 1)))))) else (some (.inr ((v0_0, q0))))) else (some (.inr ((v0_0, q0))))
def ref08_Ledger_Due.F (k : Nat) (q0 : (List (Int × Int × Int)) × Int × Int × Int) (a1 : Int) : Option (Int × ((List (Int × Int × Int)) × Int × Int × Int)) := iter (ref08_Ledger_Due.s0 k a1 q0) k (-1, 0)
abbrev ref08_Ledger_Due.A : Nat → LA := fun r => if r = 3 then ⟨[(5, false, [Lf.i .i64]), (6, false, [Lf.i .i64])], []⟩ else ⟨[], []⟩
set_option maxHeartbeats 4000000 in
theorem ref08_Ledger_Due.t (a0 : Option Addr) (a1 : Int) : tree Try.prog ref08_Ledger_Due.A noC Try.f20 [AV.v (Value.pointer a0), AV.v (.int .i64 a1)] [] =
  .loop ([Lf.i .i64, Lf.i .i64]) ((-1, 0, PUnit.unit)) 0 (fun x0 =>
   .need (Option.isSome a0) (
   .need (Option.isSome a0) (
   .ld (Option.map (fun x => Addr.add x 0) a0) ([Lf.sl]) (fun x1 =>
    bif decide (x0.2.1 < ((x1.1.2.1 : Nat) : Int)) then (
     .call 35 ([AV.v (.int .i64 0), AV.v (.int .i64 a1)]) ([]) (Sh.one) ([Lf.b]) ([]) (fun x2 =>
      bif x2.1 then (
       .need (Option.isSome a0) (
       .need (Option.isSome a0) (
       .ld (Option.map (fun x => Addr.add x 0) a0) ([Lf.sl]) (fun x3 =>
        .need (decide (0 ≤ x0.2.1) && decide (x0.2.1 < ((x3.1.2.1 : Nat) : Int)) && Option.isSome x3.1.1) (
        .ld (Option.map (fun x => Addr.add x (Int.toNat x0.2.1 * 3)) x3.1.1) ([Lf.i .i64, Lf.i .i64, Lf.i .i64]) (fun x4 =>
         .need (Option.isSome a0) (
         .need (Option.isSome a0) (
         .ld (Option.map (fun x => Addr.add x 1) a0) ([Lf.i .i64]) (fun x5 =>
          bif decide (x4.1 < x5.1) then (
           bif decide (x0.1 < 0) then (
            .again 0 ([Lf.i .i64, Lf.i .i64]) ((IntKind.i64.wrap (x4.2.1 + a1), IntKind.i64.wrap (x0.2.1 + 1), PUnit.unit)))
           else (
            bif decide (IntKind.i64.wrap (x4.2.1 + a1) < x0.1) then (
             .again 0 ([Lf.i .i64, Lf.i .i64]) ((IntKind.i64.wrap (x4.2.1 + a1), IntKind.i64.wrap (x0.2.1 + 1), PUnit.unit)))
            else (
             .again 0 ([Lf.i .i64, Lf.i .i64]) ((x0.1, IntKind.i64.wrap (x0.2.1 + 1), PUnit.unit)))))
          else (
           .again 0 ([Lf.i .i64, Lf.i .i64]) ((x0.1, IntKind.i64.wrap (x0.2.1 + 1), PUnit.unit))))))))))))
      else (
       .done (AV.v (.int .i64 x0.1)) ([]))))
    else (
     .done (AV.v (.int .i64 x0.1)) ([])))))) := by kernel_rfl
set_option maxHeartbeats 4000000 in
theorem ref08_Ledger_Due.c (k : Nat) (a0 : Option Addr) (q0 : (List (Int × Int × Int)) × Int × Int × Int) (A0_0 : Option Addr) (c0_0 : Nat) (a1 : Int) (r : Int × ((List (Int × Int × Int)) × Int × Int × Int)) (h : ref08_Ledger_Due.F k q0 a1 = some r)  (w : World) (hW0 : OwnO 0 (fun _ => False) w 27 RW27 a0 1 [((A0_0, q0.1.length, c0_0), q0.2.1, q0.2.2.1, q0.2.2.2)]) (hW0_0 : OwnO 0 (fun _ => False) w 66 R25 A0_0 c0_0 q0.1) (dj0_1_0 : Dj A0_0 a0) : Calls Try.prog 20 (AV.gs id [AV.v (Value.pointer a0), AV.v (.int .i64 a1)]).toArray w fun e w' => ∃ (P0 : Option Addr) (p0 : Nat), e = .returned (((Sh.one : Sh).av (vs [Lf.i .i64] (r.1, ()))).g id) ∧ Fine (ref08_Ledger_Due.S a0 A0_0) w (ref08_Ledger_Due.S a0 A0_0) w' ∧ OwnO 0 (fun _ => False) w' 27 RW27 a0 1 [((P0, r.2.1.length, p0), r.2.2.1, r.2.2.2.1, r.2.2.2.2)] ∧ OwnO 0 (fun _ => False) w' 66 R25 P0 p0 r.2.1 ∧ Dj P0 a0 ∧ (∀ b, blk (P0, 0, 0) b → (ref08_Ledger_Due.S a0 A0_0) b ∨ w.heap.size ≤ b) := by
 refine enter0 mixed ref08_Ledger_Due.A noC [AV.v (Value.pointer a0), AV.v (.int .i64 a1)] Try.func20 rfl rfl rfl (fun hF => ?_)
 have hA_a0 : Option.isSome a0 = true := hW0.sl.some (by simp)
 have hN_a0 : Option.isNone a0 = false := by cases a0 <;> simp_all
 have hF : Fine (ref08_Ledger_Due.S a0 A0_0) w (fun _ => False) w := ⟨rfl, rfl, rfl, Nat.le_refl _, fun _ _ _ => rfl, fun b h => h.elim⟩
 have hm0 : ∀ b, blk (a0, 0, 0) b → (ref08_Ledger_Due.S a0 A0_0) b ∨ w.heap.size ≤ b := fun b hb => Or.inl (Or.inl hb)
 have hm0_0 : ∀ b, blk (A0_0, 0, 0) b → (ref08_Ledger_Due.S a0 A0_0) b ∨ w.heap.size ≤ b := fun b hb => Or.inl (Or.inr hb)
 rw [ref08_Ledger_Due.t]
 unfold ref08_Ledger_Due.F at h
 try dsimp only at h
 obtain ⟨I0, hI0⟩ : ∃ I : Nat → Tup [Lf.i .i64, Lf.i .i64] → (Nat → Prop) → World → Prop, I = (fun m_ y L w' => ∃ (v0_0 : Int) (v0_1 : Int), y = (v0_0, v0_1, ()) ∧ iter (ref08_Ledger_Due.s0 k a1 q0) m_ (v0_0, v0_1) = some r ∧ Fine (ref08_Ledger_Due.S a0 A0_0) w L w' ∧ OwnO 0 L w' 27 RW27 a0 1 [((A0_0, q0.1.length, c0_0), q0.2.1, q0.2.2.1, q0.2.2.2)] ∧ OwnO 0 L w' 66 R25 A0_0 c0_0 q0.1) := ⟨_, rfl⟩
 refine ok_loop I0 k (by rw [hI0]; exact ⟨_, _, rfl, h, hF, hW0, hW0_0⟩) ?_
 clear h
 intro m_ y L0 w0 hy
 rw [hI0] at hy
 obtain ⟨v0_0, v0_1, rfl, h, hF, hW0, hW0_0⟩ := hy
 obtain ⟨m0, o0, rfl, h, hl0, hr_0⟩ := iter_some h
 unfold ref08_Ledger_Due.s0 at h
 try dsimp only at h
 try dsimp only
 refine ok_need hA_a0 ?_
 refine ok_need hA_a0 ?_
 refine ok_ob 0 hW0.sl (Fine.refl _ _) (fun cs hcs => ⟨(A0_0, q0.1.length, c0_0), by rw [hcs]; rfl, ?_⟩)
 try dsimp only
 refine ok_if (fun hc4 => ?_) (fun hc4 => ?_)
 ·have h := bif_t h hc4
  obtain ⟨v2_0, hr2, h⟩ := bse h
  refine ok_callm rfl (fun L2 w2 g2 lt2 => ?_)
  refine (ref08_waits.c k 0 a1 v2_0 hr2  w2 ).mono ?_
  rintro e w2' ⟨rfl, hb2⟩
  refine ⟨(v2_0, ()), rfl, hb2, fun g2' => ?_⟩
  try dsimp only
  have hF := hF.trans g2'
  have hW0 := hW0.later g2'
  have hW0_0 := hW0_0.later g2'
  refine ok_if (fun hc5 => ?_) (fun hc5 => ?_)
  ·have h := bif_t h hc5
   refine ok_need hA_a0 ?_
   refine ok_need hA_a0 ?_
   refine ok_ob 0 hW0.sl (Fine.refl _ _) (fun cs hcs => ⟨(A0_0, q0.1.length, c0_0), by rw [hcs]; rfl, ?_⟩)
   try dsimp only
   obtain ⟨r6, hr7, h⟩ := bse h
   refine ok_need (getI_need hW0_0.sl hr7) ?_
   refine ok_get hW0_0.sl (Fine.refl _ _) hr7 (by simp) (fun cs hcs => ⟨(r6.1, r6.2.1, r6.2.2, ()), hcs.symm, ?_⟩)
   try dsimp only
   refine ok_need hA_a0 ?_
   refine ok_need hA_a0 ?_
   refine ok_ob 1 hW0.sl (Fine.refl _ _) (fun cs hcs => ⟨q0.2.1, by rw [hcs]; rfl, ?_⟩)
   try dsimp only
   refine ok_if (fun hc8 => ?_) (fun hc8 => ?_)
   ·have h := bif_t h hc8
    refine ok_if (fun hc9 => ?_) (fun hc9 => ?_)
    ·have h := bif_t h hc9
     obtain rfl := Option.some.inj h
     have h := hl0 _ rfl
     exact ok_again (I := I0) m0 (Nat.lt_succ_self _) (fun L w' he => by rw [hI0]; exact ⟨_, _, rfl, h, hF.trans he.fine, hW0.later he.fine, hW0_0.later he.fine⟩)
    ·have h := bif_f h hc9
     refine ok_if (fun hc10 => ?_) (fun hc10 => ?_)
     ·have h := bif_t h hc10
      obtain rfl := Option.some.inj h
      have h := hl0 _ rfl
      exact ok_again (I := I0) m0 (Nat.lt_succ_self _) (fun L w' he => by rw [hI0]; exact ⟨_, _, rfl, h, hF.trans he.fine, hW0.later he.fine, hW0_0.later he.fine⟩)
     ·have h := bif_f h hc10
      obtain rfl := Option.some.inj h
      have h := hl0 _ rfl
      exact ok_again (I := I0) m0 (Nat.lt_succ_self _) (fun L w' he => by rw [hI0]; exact ⟨_, _, rfl, h, hF.trans he.fine, hW0.later he.fine, hW0_0.later he.fine⟩)
   ·have h := bif_f h hc8
    obtain rfl := Option.some.inj h
    have h := hl0 _ rfl
    exact ok_again (I := I0) m0 (Nat.lt_succ_self _) (fun L w' he => by rw [hI0]; exact ⟨_, _, rfl, h, hF.trans he.fine, hW0.later he.fine, hW0_0.later he.fine⟩)
  ·have h := bif_f h hc5
   obtain rfl := Option.some.inj h
   obtain rfl := hr_0 _ rfl
   have homes := fun (b : Nat) (h : b < w.heap.size) => h
   intro ρ L w' _ he _ _
   exact ⟨A0_0, c0_0, rfl, (hF.ext he).with (fun b h => Or.inl h), (hW0.later he.fine).bare', (hW0_0.later he.fine).bare', dj0_1_0, hm0_0⟩
 ·have h := bif_f h hc4
  obtain rfl := Option.some.inj h
  obtain rfl := hr_0 _ rfl
  have homes := fun (b : Nat) (h : b < w.heap.size) => h
  intro ρ L w' _ he _ _
  exact ⟨A0_0, c0_0, rfl, (hF.ext he).with (fun b h => Or.inl h), (hW0.later he.fine).bare', (hW0_0.later he.fine).bare', dj0_1_0, hm0_0⟩
end Go.Proofs.Ytkchgcefmnbebaa.X
