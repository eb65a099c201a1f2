import Derived.Test.YtpdchohbmmfemaazRxU
import Derived.Test.YtpdchohbmmfemaazRxSeat
import Derived.Test.YtpdchohbmmfemaaProg
import Derived.Test.YtpdchohbmmfemaazOn4
import Derived.Test.YtpdchohbmmfemaazFg
namespace Go.Proofs.Ytpdchohbmmfemaa.X
open Go Go.RowKit Go.Proofs.YtpdchohbmmfemaaW.Rx
set_option linter.unusedVariables false
set_option linter.unusedSimpArgs false
set_option maxRecDepth 10000
def law04_FramesBoth.F (k : Nat) (l0 : List (Int × Int × Int × Int × Int × Bool × (List Int) × (List (Int × Int)))) (l1 : List (Int × Int × Int × Int × Int × Bool × (List Int) × (List (Int × Int)))) : Option Bool := (frames_Encode.F k l0).bind fun (s0_0, v0_1) => (frames_Encode.F k l1).bind fun (s1_0, v1_1) => bif v0_1 != 0 then ((law04_alive.F k ).bind fun v2_0 => bif v2_0 then (some true) else (some false)) else (bif v1_1 != 0 then ((law04_alive.F k ).bind fun v2_0 => bif v2_0 then (some true) else (some false)) else (bif decide (64 < IntKind.wrap IntKind.i64 (((l0.length : Nat) : Int) + ((l1.length : Nat) : Int))) then ((law04_alive.F k ).bind fun v2_0 => bif v2_0 then (some true) else (some false)) else (bif decide (1200 < IntKind.wrap IntKind.i64 (((s0_0.length : Nat) : Int) + ((s1_0.length : Nat) : Int))) then ((law04_alive.F k ).bind fun v2_0 => bif v2_0 then (some true) else (some false)) else (bif decide (((([] : List Int)).length + s0_0.length) * 1 ≤ 140737488355328) then (bif decide ((((([] : List Int) ++ s0_0)).length + s1_0.length) * 1 ≤ 140737488355328) then ((frames_Decode.F k (((([] : List Int) ++ s0_0) ++ s1_0))).bind fun (s4_0, v4_1, v4_2) => bif v4_1 == 0 && (v4_2 == 0 && true) then (bif decide (((([] : List (Int × Int × Int × Int × Int × Bool × (List Int) × (List (Int × Int))))).length + l0.length) * 96 ≤ 140737488355328) then (bif decide ((((([] : List (Int × Int × Int × Int × Int × Bool × (List Int) × (List (Int × Int)))) ++ l0)).length + l1.length) * 96 ≤ 140737488355328) then ((ref04_Same.F k s4_0 (((([] : List (Int × Int × Int × Int × Int × Bool × (List Int) × (List (Int × Int)))) ++ l0) ++ l1))).bind fun v7_0 => bif v7_0 then ((law04_alive.F k ).bind fun v8_0 => bif v8_0 then (some true) else (some false)) else (some false)) else none) else none) else (some false)) else none) else none))))
abbrev law04_FramesBoth.A : Nat → LA := noA
set_option maxHeartbeats 4000000 in
theorem law04_FramesBoth.t (A0 : Option Addr) (n0 c0 : Nat) (A1 : Option Addr) (n1 c1 : Nat) : tree Try.prog law04_FramesBoth.A noC Try.f5 [AV.v (Value.slice A0 n0 c0), AV.v (Value.slice A1 n1 c1)] [] =
  .call 9 ([AV.v (Value.slice A0 n0 c0)]) ([]) (Sh.tup [(false, 1), (false, 1)]) ([Lf.sl, Lf.i IntKind.i64]) ([]) (fun x0 =>
   .call 9 ([AV.v (Value.slice A1 n1 c1)]) ([]) (Sh.tup [(false, 1), (false, 1)]) ([Lf.sl, Lf.i IntKind.i64]) ([]) (fun x1 =>
    bif x0.2.1 != 0 then (
     .call 10 ([]) ([]) (Sh.one) ([Lf.b]) ([]) (fun x2 =>
      bif x2.1 then (
       .done (AV.v (Value.bool true)) ([]))
      else (
       .done (AV.v (Value.bool false)) ([]))))
    else (
     bif x1.2.1 != 0 then (
      .call 10 ([]) ([]) (Sh.one) ([Lf.b]) ([]) (fun x2 =>
       bif x2.1 then (
        .done (AV.v (Value.bool true)) ([]))
       else (
        .done (AV.v (Value.bool false)) ([]))))
     else (
      bif decide (64 < IntKind.wrap IntKind.i64 (((n0 : Nat) : Int) + ((n1 : Nat) : Int))) then (
       .call 10 ([]) ([]) (Sh.one) ([Lf.b]) ([]) (fun x2 =>
        bif x2.1 then (
         .done (AV.v (Value.bool true)) ([]))
        else (
         .done (AV.v (Value.bool false)) ([]))))
      else (
       bif decide (1200 < IntKind.wrap IntKind.i64 (((x0.1.2.1 : Nat) : Int) + ((x1.1.2.1 : Nat) : Int))) then (
        .call 10 ([]) ([]) (Sh.one) ([Lf.b]) ([]) (fun x2 =>
         bif x2.1 then (
          .done (AV.v (Value.bool true)) ([]))
         else (
          .done (AV.v (Value.bool false)) ([]))))
       else (
        .sem (Builtin.append_ { toList := [23, 23] } 23 { toList := [Value.slice none 0 0, Value.slice x0.1.1 x0.1.2.1 x0.1.2.2] }) ([Lf.sl]) (Sh.one) (fun x2 =>
         .sem (Builtin.append_ { toList := [23, 23] } 23 { toList := [Value.slice x2.1.1 x2.1.2.1 x2.1.2.2, Value.slice x1.1.1 x1.1.2.1 x1.1.2.2] }) ([Lf.sl]) (Sh.one) (fun x3 =>
          .call 11 ([AV.v (Value.slice x3.1.1 x3.1.2.1 x3.1.2.2)]) ([]) (Sh.tup [(false, 1), (true, 2)]) ([Lf.sl, Lf.i IntKind.i64, Lf.i IntKind.i64]) ([]) (fun x4 =>
           bif x4.2.1 == 0 && (x4.2.2.1 == 0 && true) then (
            .sem (Builtin.append_ { toList := [22, 22] } 22 { toList := [Value.slice none 0 0, Value.slice A0 n0 c0] }) ([Lf.sl]) (Sh.one) (fun x5 =>
             .sem (Builtin.append_ { toList := [22, 22] } 22 { toList := [Value.slice x5.1.1 x5.1.2.1 x5.1.2.2, Value.slice A1 n1 c1] }) ([Lf.sl]) (Sh.one) (fun x6 =>
              .call 12 ([AV.v (Value.slice x4.1.1 x4.1.2.1 x4.1.2.2), AV.v (Value.slice x6.1.1 x6.1.2.1 x6.1.2.2)]) ([]) (Sh.one) ([Lf.b]) ([]) (fun x7 =>
               bif x7.1 then (
                .call 10 ([]) ([]) (Sh.one) ([Lf.b]) ([]) (fun x8 =>
                 bif x8.1 then (
                  .done (AV.v (Value.bool true)) ([]))
                 else (
                  .done (AV.v (Value.bool false)) ([]))))
               else (
                .done (AV.v (Value.bool false)) ([]))))))
           else (
            .done (AV.v (Value.bool false)) ([]))))))))))) := by kernel_rfl
set_option maxHeartbeats 4000000 in
theorem law04_FramesBoth.c (k : Nat) (A0 : Option Addr) (n0 c0 : Nat) (l0 : List (Int × Int × Int × Int × Int × Bool × (List Int) × (List (Int × Int)))) (A1 : Option Addr) (n1 c1 : Nat) (l1 : List (Int × Int × Int × Int × Int × Bool × (List Int) × (List (Int × Int)))) (r : Bool) (h : law04_FramesBoth.F k l0 l1 = some r) (hn0 : n0 = l0.length) (hn1 : n1 = l1.length) (w : World) (hS0 : SlR R22 (fun _ => False) w A0 c0 l0) (hS1 : SlR R22 (fun _ => False) w A1 c1 l1) : Calls Try.prog 5 (AV.gs id [AV.v (Value.slice A0 n0 c0), AV.v (Value.slice A1 n1 c1)]).toArray w fun e w' => e = .returned (((Sh.one : Sh).av (vs [Lf.b] (r, ()))).g id) ∧ Below w.heap.size w w' := by
 subst hn0
 subst hn1
 refine enter0 mixed law04_FramesBoth.A noC [AV.v (Value.slice A0 l0.length c0), AV.v (Value.slice A1 l1.length c1)] Try.func5 rfl rfl rfl (fun hF => ?_)
 rw [law04_FramesBoth.t]
 unfold law04_FramesBoth.F at h
 try dsimp only at h
 obtain ⟨r0, hr0, h⟩ := Option.bind_eq_some_iff.1 h
 obtain ⟨s0_0, v0_1⟩ := r0
 try dsimp only at h
 refine ok_callm rfl (fun L0 w0 g0 lt0 => ?_)
 refine (frames_Encode.c k _ _ _ l0 (s0_0, v0_1) hr0 rfl w0 (hS0.later (hF.trans g0)).bare).mono ?_
 rintro e w0' ⟨A0_0, c0_0, rfl, hb0, hO0_0⟩
 refine ⟨((A0_0, s0_0.length, c0_0), v0_1, ()), rfl, hb0, fun g0' => ?_⟩
 try dsimp only
 have hO0_0 := hO0_0.call (hF.trans g0).size lt0
 have hF := hF.trans g0'
 obtain ⟨r1, hr1, h⟩ := Option.bind_eq_some_iff.1 h
 obtain ⟨s1_0, v1_1⟩ := r1
 try dsimp only at h
 refine ok_callm rfl (fun L1 w1 g1 lt1 => ?_)
 refine (frames_Encode.c k _ _ _ l1 (s1_0, v1_1) hr1 rfl w1 (hS1.later (hF.trans g1)).bare).mono ?_
 rintro e w1' ⟨A1_0, c1_0, rfl, hb1, hO1_0⟩
 refine ⟨((A1_0, s1_0.length, c1_0), v1_1, ()), rfl, hb1, fun g1' => ?_⟩
 try dsimp only
 have dj_o2_o1 : Dj A1_0 A0_0 := Dj.new hO1_0.fresh (hO0_0.later g1).lt
 have hO1_0 := hO1_0.call (hF.trans g1).size lt1
 have hF := hF.trans g1'
 have hO0_0 := hO0_0.later g1'
 refine ok_if (fun hc3 => ?_) (fun hc3 => ?_)
 ·have h := bif_t h hc3
  obtain ⟨v2_0, hr2, h⟩ := Option.bind_eq_some_iff.1 h
  refine ok_callm rfl (fun L2 w2 g2 lt2 => ?_)
  refine (law04_alive.c k  v2_0 hr2  w2 ).mono ?_
  rintro e w2' ⟨rfl, hb2⟩
  refine ⟨(v2_0, ()), rfl, hb2, fun g2' => ?_⟩
  try dsimp only
  have hF := hF.trans g2'
  have hO0_0 := hO0_0.later g2'
  have hO1_0 := hO1_0.later g2'
  refine ok_if (fun hc4 => ?_) (fun hc4 => ?_)
  ·have h := bif_t h hc4
   obtain rfl := Option.some.inj h
   intro ρ L w' _ he _ _
   exact ⟨rfl, (hF.ext he).below⟩
  ·have h := bif_f h hc4
   obtain rfl := Option.some.inj h
   intro ρ L w' _ he _ _
   exact ⟨rfl, (hF.ext he).below⟩
 ·have h := bif_f h hc3
  refine ok_if (fun hc5 => ?_) (fun hc5 => ?_)
  ·have h := bif_t h hc5
   obtain ⟨v2_0, hr2, h⟩ := Option.bind_eq_some_iff.1 h
   refine ok_callm rfl (fun L2 w2 g2 lt2 => ?_)
   refine (law04_alive.c k  v2_0 hr2  w2 ).mono ?_
   rintro e w2' ⟨rfl, hb2⟩
   refine ⟨(v2_0, ()), rfl, hb2, fun g2' => ?_⟩
   try dsimp only
   have hF := hF.trans g2'
   have hO0_0 := hO0_0.later g2'
   have hO1_0 := hO1_0.later g2'
   refine ok_if (fun hc6 => ?_) (fun hc6 => ?_)
   ·have h := bif_t h hc6
    obtain rfl := Option.some.inj h
    intro ρ L w' _ he _ _
    exact ⟨rfl, (hF.ext he).below⟩
   ·have h := bif_f h hc6
    obtain rfl := Option.some.inj h
    intro ρ L w' _ he _ _
    exact ⟨rfl, (hF.ext he).below⟩
  ·have h := bif_f h hc5
   refine ok_if (fun hc7 => ?_) (fun hc7 => ?_)
   ·have h := bif_t h hc7
    obtain ⟨v2_0, hr2, h⟩ := Option.bind_eq_some_iff.1 h
    refine ok_callm rfl (fun L2 w2 g2 lt2 => ?_)
    refine (law04_alive.c k  v2_0 hr2  w2 ).mono ?_
    rintro e w2' ⟨rfl, hb2⟩
    refine ⟨(v2_0, ()), rfl, hb2, fun g2' => ?_⟩
    try dsimp only
    have hF := hF.trans g2'
    have hO0_0 := hO0_0.later g2'
    have hO1_0 := hO1_0.later g2'
    refine ok_if (fun hc8 => ?_) (fun hc8 => ?_)
    ·have h := bif_t h hc8
     obtain rfl := Option.some.inj h
     intro ρ L w' _ he _ _
     exact ⟨rfl, (hF.ext he).below⟩
    ·have h := bif_f h hc8
     obtain rfl := Option.some.inj h
     intro ρ L w' _ he _ _
     exact ⟨rfl, (hF.ext he).below⟩
   ·have h := bif_f h hc7
    refine ok_if (fun hc9 => ?_) (fun hc9 => ?_)
    ·have h := bif_t h hc9
     obtain ⟨v2_0, hr2, h⟩ := Option.bind_eq_some_iff.1 h
     refine ok_callm rfl (fun L2 w2 g2 lt2 => ?_)
     refine (law04_alive.c k  v2_0 hr2  w2 ).mono ?_
     rintro e w2' ⟨rfl, hb2⟩
     refine ⟨(v2_0, ()), rfl, hb2, fun g2' => ?_⟩
     try dsimp only
     have hF := hF.trans g2'
     have hO0_0 := hO0_0.later g2'
     have hO1_0 := hO1_0.later g2'
     refine ok_if (fun hc10 => ?_) (fun hc10 => ?_)
     ·have h := bif_t h hc10
      obtain rfl := Option.some.inj h
      intro ρ L w' _ he _ _
      exact ⟨rfl, (hF.ext he).below⟩
     ·have h := bif_f h hc10
      obtain rfl := Option.some.inj h
      intro ρ L w' _ he _ _
      exact ⟨rfl, (hF.ext he).below⟩
    ·have h := bif_f h hc9
     obtain ⟨hq11, h⟩ := bif_need h
     have hq11 := of_decide_eq_true hq11
     refine ok_app (R := R23) (base := w.heap.size) (xs := ([] : List Int)) (ys := s0_0) rfl rfl E23 (OwnF.nil _ _ _ _ _) hO0_0.sl (by decide) hq11 hF.size (fun Ax2 cx2 L2 w2 hO2 g2 hid2 hbl2 => ?_)
     try dsimp only
     have dj_o12_o1 : Dj Ax2 A0_0 := Dj.grow Dj.nil2 hbl2 hO0_0.lt
     have dj_o12_o2 : Dj Ax2 A1_0 := Dj.grow Dj.nil2 hbl2 hO1_0.lt
     have hO0_0 := hO0_0.other Dj.nil g2
     have hO1_0 := hO1_0.other Dj.nil g2
     have hF := Fine.own hF g2 (fun b hb => by obtain ⟨_, hb, _⟩ := hb; cases hb) hid2
     obtain ⟨hq13, h⟩ := bif_need h
     have hq13 := of_decide_eq_true hq13
     refine ok_app (R := R23) (base := w.heap.size) (xs := (([] : List Int) ++ s0_0)) (ys := s1_0) rfl rfl E23 hO2 hO1_0.sl (by decide) hq13 hF.size (fun Ax3 cx3 L3 w3 hO3 g3 hid3 hbl3 => ?_)
     try dsimp only
     have dj_o14_o1 : Dj Ax3 A0_0 := Dj.grow dj_o12_o1 hbl3 hO0_0.lt
     have dj_o14_o2 : Dj Ax3 A1_0 := Dj.grow dj_o12_o2 hbl3 hO1_0.lt
     have hO0_0 := hO0_0.other (Dj.symm dj_o12_o1) g3
     have hO1_0 := hO1_0.other (Dj.symm dj_o12_o2) g3
     have hF := Fine.own hF g3 (fun b hb => Or.inr (Own.base hO2 hb)) hid3
     obtain ⟨r4, hr4, h⟩ := Option.bind_eq_some_iff.1 h
     obtain ⟨s4_0, v4_1, v4_2⟩ := r4
     try dsimp only at h
     refine ok_callm rfl (fun L4 w4 g4 lt4 => ?_)
     refine (frames_Decode.c k _ _ _ (((([] : List Int) ++ s0_0) ++ s1_0)) (s4_0, v4_1, v4_2) hr4 rfl w4 (hO3.later g4).sl.bare).mono ?_
     rintro e w4' ⟨A4_0, c4_0, rfl, hb4, hO4_0⟩
     refine ⟨((A4_0, s4_0.length, c4_0), v4_1, v4_2, ()), rfl, hb4, fun g4' => ?_⟩
     try dsimp only
     have hF := hF.trans g4'
     have hO0_0 := hO0_0.later g4'
     have hO1_0 := hO1_0.later g4'
     have hO3 := hO3.later g4'
     have hO4_0 := hO4_0.mono lt4
     refine ok_if (fun hc16 => ?_) (fun hc16 => ?_)
     ·have h := bif_t h hc16
      obtain ⟨ys5, hy5, hp5, hn5⟩ := raw22 hS0
      obtain ⟨hq17, h⟩ := bif_need h
      have hq17 := of_decide_eq_true hq17
      refine ok_app (R := RF) (base := w.heap.size) (xs := ([] : List _)) (ys := ys5) rfl hn5.symm E22 (OwnF.nil _ _ _ _ _) (hy5.later hF) (by decide) (by rw [hn5]; exact hq17) hF.size (fun Ax5 cx5 L5 w5 hO5 g5 hid5 hbl5 => ?_)
      try dsimp only
      have dj_o18_o1 : Dj Ax5 A0_0 := Dj.grow Dj.nil2 hbl5 hO0_0.lt
      have dj_o18_o2 : Dj Ax5 A1_0 := Dj.grow Dj.nil2 hbl5 hO1_0.lt
      have dj_o18_o14 : Dj Ax5 Ax3 := Dj.grow Dj.nil2 hbl5 hO3.lt
      have hO0_0 := hO0_0.other Dj.nil g5
      have hO1_0 := hO1_0.other Dj.nil g5
      have hO3 := hO3.other Dj.nil g5
      have hF := Fine.own hF g5 (fun b hb => by obtain ⟨_, hb, _⟩ := hb; cases hb) hid5
      have hK5_o15 := SlR.newb hO4_0 g5 hid5 hbl5
      have hO4_0 := hK5_o15.mono (fun b h => Or.inl h)
      have hz5 : (([] : List _) ++ ys5).length = (([] : List (Int × Int × Int × Int × Int × Bool × (List Int) × (List (Int × Int)))) ++ l0).length := by simp only [List.length_append, List.length_nil, Nat.zero_add, hn5]
      obtain ⟨ys6, hy6, hp6, hn6⟩ := raw22 hS1
      obtain ⟨hq19, h⟩ := bif_need h
      have hq19 := of_decide_eq_true hq19
      refine ok_app (R := RF) (base := w.heap.size) (xs := (([] : List _) ++ ys5)) (ys := ys6) rfl hn6.symm E22 hO5 (hy6.later hF) (by decide) (by rw [hn6, hz5]; exact hq19) hF.size (fun Ax6 cx6 L6 w6 hO6 g6 hid6 hbl6 => ?_)
      try dsimp only
      have dj_o20_o1 : Dj Ax6 A0_0 := Dj.grow dj_o18_o1 hbl6 hO0_0.lt
      have dj_o20_o2 : Dj Ax6 A1_0 := Dj.grow dj_o18_o2 hbl6 hO1_0.lt
      have dj_o20_o14 : Dj Ax6 Ax3 := Dj.grow dj_o18_o14 hbl6 hO3.lt
      have hO0_0 := hO0_0.other (Dj.symm dj_o18_o1) g6
      have hO1_0 := hO1_0.other (Dj.symm dj_o18_o2) g6
      have hO3 := hO3.other (Dj.symm dj_o18_o14) g6
      have hF := Fine.own hF g6 (fun b hb => Or.inr (Own.base hO5 hb)) hid6
      have hO4_0 := hK5_o15.later g6
      have hz6 : ((([] : List _) ++ ys5) ++ ys6).length = ((([] : List (Int × Int × Int × Int × Int × Bool × (List Int) × (List (Int × Int)))) ++ l0) ++ l1).length := by simp only [List.length_append, List.length_nil, Nat.zero_add, hn6, hz5]
      obtain ⟨v7_0, hr7, h⟩ := Option.bind_eq_some_iff.1 h
      refine ok_callm rfl (fun L7 w7 g7 lt7 => ?_)
      refine (ref04_Same.c k _ _ _ s4_0 _ _ _ (((([] : List (Int × Int × Int × Int × Int × Bool × (List Int) × (List (Int × Int)))) ++ l0) ++ l1)) v7_0 hr7 rfl hz6 w7 (hO4_0.later g7).bare (sl_raw (hO6.later g7) ((reps_app ((reps_app (l := []) (ys := []) rfl hp5)) hp6).later (hF.trans g7)) hz6).bare).mono ?_
      rintro e w7' ⟨rfl, hb7⟩
      refine ⟨(v7_0, ()), rfl, hb7, fun g7' => ?_⟩
      try dsimp only
      have hF := hF.trans g7'
      have hO0_0 := hO0_0.later g7'
      have hO1_0 := hO1_0.later g7'
      have hO3 := hO3.later g7'
      have hO6 := hO6.later g7'
      have hO4_0 := hO4_0.later g7'
      refine ok_if (fun hc21 => ?_) (fun hc21 => ?_)
      ·have h := bif_t h hc21
       obtain ⟨v8_0, hr8, h⟩ := Option.bind_eq_some_iff.1 h
       refine ok_callm rfl (fun L8 w8 g8 lt8 => ?_)
       refine (law04_alive.c k  v8_0 hr8  w8 ).mono ?_
       rintro e w8' ⟨rfl, hb8⟩
       refine ⟨(v8_0, ()), rfl, hb8, fun g8' => ?_⟩
       try dsimp only
       have hF := hF.trans g8'
       have hO0_0 := hO0_0.later g8'
       have hO1_0 := hO1_0.later g8'
       have hO3 := hO3.later g8'
       have hO6 := hO6.later g8'
       have hO4_0 := hO4_0.later g8'
       refine ok_if (fun hc22 => ?_) (fun hc22 => ?_)
       ·have h := bif_t h hc22
        obtain rfl := Option.some.inj h
        intro ρ L w' _ he _ _
        exact ⟨rfl, (hF.ext he).below⟩
       ·have h := bif_f h hc22
        obtain rfl := Option.some.inj h
        intro ρ L w' _ he _ _
        exact ⟨rfl, (hF.ext he).below⟩
      ·have h := bif_f h hc21
       obtain rfl := Option.some.inj h
       intro ρ L w' _ he _ _
       exact ⟨rfl, (hF.ext he).below⟩
     ·have h := bif_f h hc16
      obtain rfl := Option.some.inj h
      intro ρ L w' _ he _ _
      exact ⟨rfl, (hF.ext he).below⟩
end Go.Proofs.Ytpdchohbmmfemaa.X
