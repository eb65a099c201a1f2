import Derived.Test.YtpdchohbmmfemaazRxU
import Derived.Test.YtpdchohbmmfemaazRxSeat
import Derived.Test.YtpdchohbmmfemaaProg
import Derived.Test.YtpdchohbmmfemaazOn3
import Derived.Test.YtpdchohbmmfemaazDc5
namespace Go.Proofs.Ytpdchohbmmfemaa.X
open Go Go.RowKit Go.Proofs.YtpdchohbmmfemaaW.Rx
set_option linter.unusedVariables false
set_option linter.unusedSimpArgs false
set_option maxRecDepth 10000
def frames_Encode.s1 (k : Nat) (l0 : List (Int × Int × Int × Int × Int × Bool × (List Int) × (List (Int × Int)))) : ((List Int) × Int) → Option (Sum ((List Int) × Int) ((List Int) × Int)) := fun (s1_0, v1_1) => bif decide (v1_1 < ((l0.length : Nat) : Int)) then ((getI l0 v1_1).bind fun r5 => (frames_oneA.F k r5.1 r5.2.1 r5.2.2.1 r5.2.2.2.1 r5.2.2.2.2.1 r5.2.2.2.2.2.1 r5.2.2.2.2.2.2.1 r5.2.2.2.2.2.2.2).bind fun s3_0 => bif decide ((s1_0.length + s3_0.length) * 1 ≤ 140737488355328) then (some (.inl (((s1_0 ++ s3_0), IntKind.i64.wrap (v1_1 + 1))))) else none) else (bif decide (1200 < ((s1_0.length : Nat) : Int)) then (some (.inr (([], 6)))) else (some (.inr ((s1_0, 0)))))
def frames_Encode.F (k : Nat) (l0 : List (Int × Int × Int × Int × Int × Bool × (List Int) × (List (Int × Int)))) : Option ((List Int) × Int) := bif decide (64 < ((l0.length : Nat) : Int)) then (some (([], 6))) else ((contains21.F k l0).bind fun v0_0 => bif v0_0 then (some (([], 1))) else (iter (frames_Encode.s1 k l0) k ([], 0)))
abbrev frames_Encode.A : Nat → LA := fun r => if r = 7 then ⟨[(4, false, [Lf.sl]), (14, false, [Lf.i .i64])], []⟩ else ⟨[], []⟩
set_option maxHeartbeats 4000000 in
theorem frames_Encode.t (A0 : Option Addr) (n0 c0 : Nat) : tree Try.prog frames_Encode.A noC Try.f9 [AV.v (Value.slice A0 n0 c0)] [] =
  bif decide (64 < ((n0 : Nat) : Int)) then (
   .done (AV.tup [AV.v (Value.slice none 0 0), AV.v (.int .i64 6)]) ([]))
  else (
   .call 21 ([AV.v (Value.slice A0 n0 c0), AV.fn (Fn.func 22) [] []]) ([]) (Sh.one) ([Lf.b]) ([]) (fun x0 =>
    bif x0.1 then (
     .done (AV.tup [AV.v (Value.slice none 0 0), AV.v (.int .i64 1)]) ([]))
    else (
     .loop ([Lf.sl, Lf.i .i64]) (((none, 0, 0), 0, PUnit.unit)) 0 (fun x1 =>
      bif decide (x1.2.1 < ((n0 : Nat) : Int)) then (
       .need (decide (0 ≤ x1.2.1) && decide (x1.2.1 < ((n0 : Nat) : Int)) && Option.isSome A0) (
       .ld (Option.map (fun x => Addr.add x (Int.toNat x1.2.1 * 8)) A0) ([Lf.i .i64, Lf.i .i64, Lf.i .i64, Lf.i .i64, Lf.i .i64, Lf.b, Lf.sl, Lf.sl]) (fun x2 =>
        .call 23 ([AV.agg [AV.v (.int .i64 x2.1), AV.v (.int .i64 x2.2.1), AV.v (.int .i64 x2.2.2.1), AV.v (.int .i64 x2.2.2.2.1), AV.v (.int .i64 x2.2.2.2.2.1), AV.v (Value.bool x2.2.2.2.2.2.1), AV.v (Value.slice x2.2.2.2.2.2.2.1.1 x2.2.2.2.2.2.2.1.2.1 x2.2.2.2.2.2.2.1.2.2), AV.v (Value.slice x2.2.2.2.2.2.2.2.1.1 x2.2.2.2.2.2.2.2.1.2.1 x2.2.2.2.2.2.2.2.1.2.2)]]) ([]) (Sh.one) ([Lf.sl]) ([]) (fun x3 =>
         .sem (Builtin.append_ { toList := [23, 23] } 23 { toList := [Value.slice x1.1.1 x1.1.2.1 x1.1.2.2, Value.slice x3.1.1 x3.1.2.1 x3.1.2.2] }) ([Lf.sl]) (Sh.one) (fun x4 =>
          .again 0 ([Lf.sl, Lf.i .i64]) (((x4.1.1, x4.1.2.1, x4.1.2.2), IntKind.i64.wrap (x1.2.1 + 1), PUnit.unit)))))))
      else (
       bif decide (1200 < ((x1.1.2.1 : Nat) : Int)) then (
        .done (AV.tup [AV.v (Value.slice none 0 0), AV.v (.int .i64 6)]) ([]))
       else (
        .done (AV.tup [AV.v (Value.slice x1.1.1 x1.1.2.1 x1.1.2.2), AV.v (.int .i64 0)]) ([]))))))) := by kernel_rfl
set_option maxHeartbeats 4000000 in
theorem frames_Encode.c (k : Nat) (A0 : Option Addr) (n0 c0 : Nat) (l0 : List (Int × Int × Int × Int × Int × Bool × (List Int) × (List (Int × Int)))) (r : (List Int) × Int) (h : frames_Encode.F k l0 = some r) (hn0 : n0 = l0.length) (w : World) (hS0 : SlR R22 (fun _ => False) w A0 c0 l0) : Calls Try.prog 9 (AV.gs id [AV.v (Value.slice A0 n0 c0)]).toArray w fun e w' => ∃ (B0 : Option Addr) (d0 : Nat), e = .returned (((Sh.tup [(false, 1), (false, 1)] : Sh).av (vs [Lf.sl, Lf.i .i64] ((B0, (r.1).length, d0), r.2, ()))).g id) ∧ Below w.heap.size w w' ∧ OwnF w.heap.size (fun b => b < w.heap.size) w' 5 R23 B0 d0 r.1 := by
 subst hn0
 refine enter0 mixed frames_Encode.A noC [AV.v (Value.slice A0 l0.length c0)] Try.func9 rfl rfl rfl (fun hF => ?_)
 rw [frames_Encode.t]
 unfold frames_Encode.F at h
 try dsimp only at h
 refine ok_if (fun hc1 => ?_) (fun hc1 => ?_)
 ·have h := bif_t h hc1
  obtain rfl := Option.some.inj h
  intro ρ L w' _ he _ _
  exact ⟨none, 0, rfl, (hF.ext he).below, OwnF.ret (OwnF.nil _ (fun _ => False) _ _ _)⟩
 ·have h := bif_f h hc1
  obtain ⟨v0_0, hr0, h⟩ := bse h
  refine ok_callm rfl (fun L0 w0 g0 lt0 => ?_)
  refine (contains21.c k _ _ _ l0 v0_0 hr0 rfl w0 (hS0.later (hF.trans g0)).bare).mono ?_
  rintro e w0' ⟨rfl, hb0⟩
  refine ⟨(v0_0, ()), rfl, hb0, fun g0' => ?_⟩
  try dsimp only
  have hF := hF.trans g0'
  refine ok_if (fun hc2 => ?_) (fun hc2 => ?_)
  ·have h := bif_t h hc2
   obtain rfl := Option.some.inj h
   intro ρ L w' _ he _ _
   exact ⟨none, 0, rfl, (hF.ext he).below, OwnF.ret (OwnF.nil _ (fun _ => False) _ _ _)⟩
  ·have h := bif_f h hc2
   obtain ⟨I1, hI1⟩ : ∃ I : Nat → Tup [Lf.sl, Lf.i .i64] → (Nat → Prop) → World → Prop, I = (fun m_ y L w' => ∃ (A1_0 : Option Addr) (c1_0 : Nat) (s1_0 : List Int) (v1_1 : Int), y = ((A1_0, s1_0.length, c1_0), v1_1, ()) ∧ iter (frames_Encode.s1 k l0) m_ (s1_0, v1_1) = some r ∧ Fine (fun _ => False) w L w' ∧ OwnF w.heap.size L w' 5 R23 A1_0 c1_0 s1_0) := ⟨_, rfl⟩
   refine ok_loop I1 k (by rw [hI1]; exact ⟨none, 0, [], _, rfl, h, hF, OwnF.nil _ _ _ _ _⟩) ?_
   clear h
   intro m_ y L1 w1 hy
   rw [hI1] at hy
   obtain ⟨A1_0, c1_0, s1_0, v1_1, rfl, h, hF, hO_s1_0⟩ := hy
   obtain ⟨m1, o1, rfl, h, hl1, hr_1⟩ := iter_some h
   unfold frames_Encode.s1 at h
   try dsimp only at h
   try dsimp only
   refine ok_if (fun hc4 => ?_) (fun hc4 => ?_)
   ·have h := bif_t h hc4
    obtain ⟨r5, hr6, h⟩ := bse h
    refine ok_need (getI_need (hS0.later hF) hr6) ?_
    refine ok_get hS0 hF hr6 (by simp) (fun cs hcs => ?_)
    obtain ⟨A2_6, q2_6, c2_6, A2_7, q2_7, c2_7, rfl, hm2_6, hE2_6, hm2_7, hE2_7⟩ := hcs
    subst hm2_6
    subst hm2_7
    refine ⟨(r5.1, r5.2.1, r5.2.2.1, r5.2.2.2.1, r5.2.2.2.2.1, r5.2.2.2.2.2.1, (A2_6, (r5.2.2.2.2.2.2.1).length, c2_6), (A2_7, (r5.2.2.2.2.2.2.2).length, c2_7), ()), rfl, ?_⟩
    try dsimp only
    obtain ⟨s3_0, hr3, h⟩ := bse h
    refine ok_callm rfl (fun L3 w3 g3 lt3 => ?_)
    refine (frames_oneA.c k r5.1 r5.2.1 r5.2.2.1 r5.2.2.2.1 r5.2.2.2.2.1 r5.2.2.2.2.2.1 _ _ _ r5.2.2.2.2.2.2.1 _ _ _ r5.2.2.2.2.2.2.2 s3_0 hr3 rfl rfl w3 (hE2_6.later (hF.trans g3)).bare (hE2_7.later (hF.trans g3)).bare).mono ?_
    rintro e w3' ⟨A3_0, c3_0, rfl, hb3, hO3_0⟩
    refine ⟨((A3_0, s3_0.length, c3_0), ()), rfl, hb3, fun g3' => ?_⟩
    try dsimp only
    have dj_o9_s1_0 : Dj A3_0 A1_0 := Dj.new hO3_0.fresh (hO_s1_0.later g3).lt
    have hO3_0 := hO3_0.call (hF.trans g3).size lt3
    have hF := hF.trans g3'
    have hO_s1_0 := hO_s1_0.later g3'
    obtain ⟨hq10, h⟩ := bif_need h
    have hq10 := of_decide_eq_true hq10
    refine ok_app (R := R23) (base := w.heap.size) (xs := s1_0) (ys := s3_0) rfl rfl E23 hO_s1_0 hO3_0.sl (by decide) hq10 hF.size (fun Ax4 cx4 L4 w4 hO4 g4 hid4 hbl4 => ?_)
    try dsimp only
    have dj_o11_o9 : Dj Ax4 A3_0 := Dj.grow (Dj.symm dj_o9_s1_0) hbl4 hO3_0.lt
    have hO3_0 := hO3_0.other dj_o9_s1_0 g4
    have hF := Fine.own hF g4 (fun b hb => Or.inr (Own.base hO_s1_0 hb)) hid4
    obtain rfl := Option.some.inj h
    have h := hl1 _ rfl
    exact ok_again (I := I1) m1 (Nat.lt_succ_self _) (fun L w' he => by rw [hI1]; exact ⟨Ax4, cx4, (s1_0 ++ s3_0), _, rfl, h, hF.trans he.fine, hO4.later he.fine⟩)
   ·have h := bif_f h hc4
    refine ok_if (fun hc12 => ?_) (fun hc12 => ?_)
    ·have h := bif_t h hc12
     obtain rfl := Option.some.inj h
     obtain rfl := hr_1 _ rfl
     intro ρ L w' _ he _ _
     exact ⟨none, 0, rfl, (hF.ext he).below, OwnF.ret (OwnF.nil _ (fun _ => False) _ _ _)⟩
    ·have h := bif_f h hc12
     obtain rfl := Option.some.inj h
     obtain rfl := hr_1 _ rfl
     intro ρ L w' _ he _ _
     exact ⟨A1_0, c1_0, rfl, (hF.ext he).below, (hO_s1_0.later he.fine).ret⟩
def law04_alive.F (k : Nat)  : Option Bool := (frames_Encode.F k (([(2, 0, 0, 0, 0, false, [], ([(2, 3), (7, 9)] : List (Int × Int)))] : List (Int × Int × Int × Int × Int × Bool × (List Int) × (List (Int × Int)))))).bind fun (s2_0, v2_1) => (frames_Decode.F k s2_0).bind fun (s3_0, v3_1, v3_2) => bif v2_1 == 0 then ((ref01_Same.F k s2_0 (([(2), (9), (0), (1), (2), (2), (1)] : List Int))).bind fun v5_0 => bif v5_0 then (bif v3_1 == 0 && (v3_2 == 0 && true) then (bif ((s3_0.length : Nat) : Int) == 1 then ((ref04_Same.F k s3_0 (([(2, 0, 0, 0, 0, false, [], ([(2, 3), (7, 9)] : List (Int × Int)))] : List (Int × Int × Int × Int × Int × Bool × (List Int) × (List (Int × Int)))))).bind fun v7_0 => bif v7_0 then ((frames_May.F k 2 0 0 0 0 false ([]) (([(2, 3), (7, 9)] : List (Int × Int)))).bind fun v8_0 => bif v8_0 then ((frames_Asks.F k 2 0 0 0 0 false ([]) (([(2, 3), (7, 9)] : List (Int × Int)))).bind fun v9_0 => bif v9_0 then (some false) else (some true)) else (some false)) else (some false)) else (some false)) else (some false)) else (some false)) else (some false)
abbrev law04_alive.A : Nat → LA := noA
set_option maxHeartbeats 4000000 in
theorem law04_alive.t  : tree Try.prog law04_alive.A noC Try.f10 [] [] =
  .sem (Instr.buildSlice 34 2 { toList := [(0, Value.agg { toList := [Value.int IntKind.i64 2, Value.int IntKind.i64 3] }), (1, Value.agg { toList := [Value.int IntKind.i64 7, Value.int IntKind.i64 9] })] }) ([Lf.sl]) (Sh.one) (fun x0 =>
   .sem (Instr.buildSlice 22 1 { toList := [(0, Value.agg { toList := [Value.int IntKind.i64 2, Value.int IntKind.i64 0, Value.int IntKind.i64 0, Value.int IntKind.i64 0, Value.int IntKind.i64 0, Value.bool false, Value.slice none 0 0, Value.slice x0.1.1 x0.1.2.1 x0.1.2.2] })] }) ([Lf.sl]) (Sh.one) (fun x1 =>
    .call 9 ([AV.v (Value.slice x1.1.1 x1.1.2.1 x1.1.2.2)]) ([]) (Sh.tup [(false, 1), (false, 1)]) ([Lf.sl, Lf.i .i64]) ([]) (fun x2 =>
     .call 11 ([AV.v (Value.slice x2.1.1 x2.1.2.1 x2.1.2.2)]) ([]) (Sh.tup [(false, 1), (true, 2)]) ([Lf.sl, Lf.i .i64, Lf.i .i64]) ([]) (fun x3 =>
      bif x2.2.1 == 0 then (
       .sem (Instr.buildSlice 23 7 { toList := [(0, Value.int IntKind.u8 2), (1, Value.int IntKind.u8 9), (2, Value.int IntKind.u8 0), (3, Value.int IntKind.u8 1), (4, Value.int IntKind.u8 2), (5, Value.int IntKind.u8 2), (6, Value.int IntKind.u8 1)] }) ([Lf.sl]) (Sh.one) (fun x4 =>
        .call 16 ([AV.v (Value.slice x2.1.1 x2.1.2.1 x2.1.2.2), AV.v (Value.slice x4.1.1 x4.1.2.1 x4.1.2.2)]) ([]) (Sh.one) ([Lf.b]) ([]) (fun x5 =>
         bif x5.1 then (
          bif x3.2.1 == 0 && (x3.2.2.1 == 0 && true) then (
           bif ((x3.1.2.1 : Nat) : Int) == 1 then (
            .sem (Instr.buildSlice 22 1 { toList := [(0, Value.agg { toList := [Value.int IntKind.i64 2, Value.int IntKind.i64 0, Value.int IntKind.i64 0, Value.int IntKind.i64 0, Value.int IntKind.i64 0, Value.bool false, Value.slice none 0 0, Value.slice x0.1.1 x0.1.2.1 x0.1.2.2] })] }) ([Lf.sl]) (Sh.one) (fun x6 =>
             .call 12 ([AV.v (Value.slice x3.1.1 x3.1.2.1 x3.1.2.2), AV.v (Value.slice x6.1.1 x6.1.2.1 x6.1.2.2)]) ([]) (Sh.one) ([Lf.b]) ([]) (fun x7 =>
              bif x7.1 then (
               .call 18 ([AV.agg [AV.v (.int .i64 2), AV.v (.int .i64 0), AV.v (.int .i64 0), AV.v (.int .i64 0), AV.v (.int .i64 0), AV.v (Value.bool false), AV.v (Value.slice none 0 0), AV.v (Value.slice x0.1.1 x0.1.2.1 x0.1.2.2)]]) ([]) (Sh.one) ([Lf.b]) ([]) (fun x8 =>
                bif x8.1 then (
                 .call 19 ([AV.agg [AV.v (.int .i64 2), AV.v (.int .i64 0), AV.v (.int .i64 0), AV.v (.int .i64 0), AV.v (.int .i64 0), AV.v (Value.bool false), AV.v (Value.slice none 0 0), AV.v (Value.slice x0.1.1 x0.1.2.1 x0.1.2.2)]]) ([]) (Sh.one) ([Lf.b]) ([]) (fun x9 =>
                  bif x9.1 then (
                   .done (AV.v (Value.bool false)) ([]))
                  else (
                   .done (AV.v (Value.bool true)) ([]))))
                else (
                 .done (AV.v (Value.bool false)) ([]))))
              else (
               .done (AV.v (Value.bool false)) ([])))))
           else (
            .done (AV.v (Value.bool false)) ([])))
          else (
           .done (AV.v (Value.bool false)) ([])))
         else (
          .done (AV.v (Value.bool false)) ([])))))
      else (
       .done (AV.v (Value.bool false)) ([])))))) := by kernel_rfl
set_option maxHeartbeats 4000000 in
theorem law04_alive.c (k : Nat)  (r : Bool) (h : law04_alive.F k  = some r)  (w : World)  : Calls Try.prog 10 (AV.gs id []).toArray w fun e w' => e = .returned (((Sh.one : Sh).av (vs [Lf.b] (r, ()))).g id) ∧ Below w.heap.size w w' := by
 refine enter0 mixed law04_alive.A noC [] Try.func10 rfl rfl rfl (fun hF => ?_)
 rw [law04_alive.t]
 unfold law04_alive.F at h
 try dsimp only at h
 refine ok_lit (R := R34) (base := w.heap.size) (xs := ([(2, 3), (7, 9)] : List (Int × Int))) #[Value.int IntKind.i64 2, Value.int IntKind.i64 3, Value.int IntKind.i64 7, Value.int IntKind.i64 9] E34 rfl (by decide) (by decide) ⟨_, _, rfl, rfl, by kernel_rfl⟩ rfl hF.size (fun Ax0 cx0 L0 w0 hO0 g0 hbl0 => ?_)
 try dsimp only
 have hF := hF.trans g0
 refine ok_litN (R := R22) (xs := ([(2, 0, 0, 0, 0, false, [], ([(2, 3), (7, 9)] : List (Int × Int)))] : List (Int × Int × Int × Int × Int × Bool × (List Int) × (List (Int × Int))))) #[Value.int IntKind.i64 2, Value.int IntKind.i64 0, Value.int IntKind.i64 0, Value.int IntKind.i64 0, Value.int IntKind.i64 0, Value.bool false, Value.slice none 0 0, Value.slice Ax0 (([(2, 3), (7, 9)] : List (Int × Int))).length cx0] E22 rfl (by decide) (by decide) ⟨_, _, rfl, rfl, by kernel_rfl⟩ (fun L w' g => ⟨[_, _, _, _, _, _, _, _], _, rfl, ⟨_, _, _, _, _, _, rfl, rfl, SlR.nil, rfl, (hO0.later g).sl⟩, rfl⟩) (fun Ax1 cx1 L1 w1 hC1 g1 hbl1 => ?_)
 try dsimp only
 have hF := hF.trans g1
 have hO0 := hO0.later g1
 obtain ⟨r2, hr2, h⟩ := bse h
 obtain ⟨s2_0, v2_1⟩ := r2
 try dsimp only at h
 refine ok_callm rfl (fun L2 w2 g2 lt2 => ?_)
 refine (frames_Encode.c k _ _ _ (([(2, 0, 0, 0, 0, false, [], ([(2, 3), (7, 9)] : List (Int × Int)))] : List (Int × Int × Int × Int × Int × Bool × (List Int) × (List (Int × Int))))) (s2_0, v2_1) hr2 rfl w2 (hC1.later g2).bare).mono ?_
 rintro e w2' ⟨A2_0, c2_0, rfl, hb2, hO2_0⟩
 refine ⟨((A2_0, s2_0.length, c2_0), v2_1, ()), rfl, hb2, fun g2' => ?_⟩
 try dsimp only
 have dj_o3_o1 : Dj A2_0 Ax0 := Dj.new hO2_0.fresh (hO0.later g2).lt
 have hO2_0 := hO2_0.call (hF.trans g2).size lt2
 have hF := hF.trans g2'
 have hO0 := hO0.later g2'
 have hC1 := hC1.later g2'
 obtain ⟨r3, hr3, h⟩ := bse h
 obtain ⟨s3_0, v3_1, v3_2⟩ := r3
 try dsimp only at h
 refine ok_callm rfl (fun L3 w3 g3 lt3 => ?_)
 refine (frames_Decode.c k _ _ _ s2_0 (s3_0, v3_1, v3_2) hr3 rfl w3 (hO2_0.later g3).sl.bare).mono ?_
 rintro e w3' ⟨A3_0, c3_0, rfl, hb3, hO3_0⟩
 refine ⟨((A3_0, s3_0.length, c3_0), v3_1, v3_2, ()), rfl, hb3, fun g3' => ?_⟩
 try dsimp only
 have hF := hF.trans g3'
 have hO0 := hO0.later g3'
 have hO2_0 := hO2_0.later g3'
 have hC1 := hC1.later g3'
 have hO3_0 := hO3_0.mono lt3
 refine ok_if (fun hc5 => ?_) (fun hc5 => ?_)
 ·have h := bif_t h hc5
  refine ok_lit (R := R23) (base := w.heap.size) (xs := ([(2), (9), (0), (1), (2), (2), (1)] : List Int)) #[Value.int IntKind.u8 2, Value.int IntKind.u8 9, Value.int IntKind.u8 0, Value.int IntKind.u8 1, Value.int IntKind.u8 2, Value.int IntKind.u8 2, Value.int IntKind.u8 1] E23 rfl (by decide) (by decide) ⟨_, _, rfl, rfl, by kernel_rfl⟩ rfl hF.size (fun Ax4 cx4 L4 w4 hO4 g4 hbl4 => ?_)
  try dsimp only
  have dj_o6_o1 : Dj Ax4 Ax0 := Dj.new hbl4 hO0.lt
  have dj_o6_o3 : Dj Ax4 A2_0 := Dj.new hbl4 hO2_0.lt
  have hF := hF.trans g4
  have hO0 := hO0.later g4
  have hO2_0 := hO2_0.later g4
  have hC1 := hC1.later g4
  have hO3_0 := hO3_0.later g4
  obtain ⟨v5_0, hr5, h⟩ := bse h
  refine ok_callm rfl (fun L5 w5 g5 lt5 => ?_)
  refine (ref01_Same.c k _ _ _ s2_0 _ _ _ (([(2), (9), (0), (1), (2), (2), (1)] : List Int)) v5_0 hr5 rfl rfl w5 (hO2_0.later g5).sl.bare (hO4.later g5).sl.bare).mono ?_
  rintro e w5' ⟨rfl, hb5⟩
  refine ⟨(v5_0, ()), rfl, hb5, fun g5' => ?_⟩
  try dsimp only
  have hF := hF.trans g5'
  have hO0 := hO0.later g5'
  have hO2_0 := hO2_0.later g5'
  have hO4 := hO4.later g5'
  have hC1 := hC1.later g5'
  have hO3_0 := hO3_0.later g5'
  refine ok_if (fun hc7 => ?_) (fun hc7 => ?_)
  ·have h := bif_t h hc7
   refine ok_if (fun hc8 => ?_) (fun hc8 => ?_)
   ·have h := bif_t h hc8
    refine ok_if (fun hc9 => ?_) (fun hc9 => ?_)
    ·have h := bif_t h hc9
     refine ok_litN (R := R22) (xs := ([(2, 0, 0, 0, 0, false, [], ([(2, 3), (7, 9)] : List (Int × Int)))] : List (Int × Int × Int × Int × Int × Bool × (List Int) × (List (Int × Int))))) #[Value.int IntKind.i64 2, Value.int IntKind.i64 0, Value.int IntKind.i64 0, Value.int IntKind.i64 0, Value.int IntKind.i64 0, Value.bool false, Value.slice none 0 0, Value.slice Ax0 (([(2, 3), (7, 9)] : List (Int × Int))).length cx0] E22 rfl (by decide) (by decide) ⟨_, _, rfl, rfl, by kernel_rfl⟩ (fun L w' g => ⟨[_, _, _, _, _, _, _, _], _, rfl, ⟨_, _, _, _, _, _, rfl, rfl, SlR.nil, rfl, (hO0.later g).sl⟩, rfl⟩) (fun Ax6 cx6 L6 w6 hC6 g6 hbl6 => ?_)
     try dsimp only
     have hF := hF.trans g6
     have hO0 := hO0.later g6
     have hO2_0 := hO2_0.later g6
     have hO4 := hO4.later g6
     have hC1 := hC1.later g6
     have hO3_0 := hO3_0.later g6
     obtain ⟨v7_0, hr7, h⟩ := bse h
     refine ok_callm rfl (fun L7 w7 g7 lt7 => ?_)
     refine (ref04_Same.c k _ _ _ s3_0 _ _ _ (([(2, 0, 0, 0, 0, false, [], ([(2, 3), (7, 9)] : List (Int × Int)))] : List (Int × Int × Int × Int × Int × Bool × (List Int) × (List (Int × Int))))) v7_0 hr7 rfl rfl w7 (hO3_0.later g7).bare (hC6.later g7).bare).mono ?_
     rintro e w7' ⟨rfl, hb7⟩
     refine ⟨(v7_0, ()), rfl, hb7, fun g7' => ?_⟩
     try dsimp only
     have hF := hF.trans g7'
     have hO0 := hO0.later g7'
     have hO2_0 := hO2_0.later g7'
     have hO4 := hO4.later g7'
     have hC1 := hC1.later g7'
     have hO3_0 := hO3_0.later g7'
     have hC6 := hC6.later g7'
     refine ok_if (fun hc11 => ?_) (fun hc11 => ?_)
     ·have h := bif_t h hc11
      obtain ⟨v8_0, hr8, h⟩ := bse h
      refine ok_callm rfl (fun L8 w8 g8 lt8 => ?_)
      refine (frames_May.c k 2 0 0 0 0 false _ _ _ ([]) _ _ _ (([(2, 3), (7, 9)] : List (Int × Int))) v8_0 hr8 rfl rfl w8 SlR.nil (hO0.later g8).sl.bare).mono ?_
      rintro e w8' ⟨rfl, hb8⟩
      refine ⟨(v8_0, ()), rfl, hb8, fun g8' => ?_⟩
      try dsimp only
      have hF := hF.trans g8'
      have hO0 := hO0.later g8'
      have hO2_0 := hO2_0.later g8'
      have hO4 := hO4.later g8'
      have hC1 := hC1.later g8'
      have hO3_0 := hO3_0.later g8'
      have hC6 := hC6.later g8'
      refine ok_if (fun hc12 => ?_) (fun hc12 => ?_)
      ·have h := bif_t h hc12
       obtain ⟨v9_0, hr9, h⟩ := bse h
       refine ok_callm rfl (fun L9 w9 g9 lt9 => ?_)
       refine (frames_Asks.c k 2 0 0 0 0 false _ _ _ ([]) _ _ _ (([(2, 3), (7, 9)] : List (Int × Int))) v9_0 hr9 rfl rfl w9 SlR.nil (hO0.later g9).sl.bare).mono ?_
       rintro e w9' ⟨rfl, hb9⟩
       refine ⟨(v9_0, ()), rfl, hb9, fun g9' => ?_⟩
       try dsimp only
       have hF := hF.trans g9'
       have hO0 := hO0.later g9'
       have hO2_0 := hO2_0.later g9'
       have hO4 := hO4.later g9'
       have hC1 := hC1.later g9'
       have hO3_0 := hO3_0.later g9'
       have hC6 := hC6.later g9'
       refine ok_if (fun hc13 => ?_) (fun hc13 => ?_)
       ·have h := bif_t h hc13
        obtain rfl := Option.some.inj h
        intro ρ L w' _ he _ _
        exact ⟨rfl, (hF.ext he).below⟩
       ·have h := bif_f h hc13
        obtain rfl := Option.some.inj h
        intro ρ L w' _ he _ _
        exact ⟨rfl, (hF.ext he).below⟩
      ·have h := bif_f h hc12
       obtain rfl := Option.some.inj h
       intro ρ L w' _ he _ _
       exact ⟨rfl, (hF.ext he).below⟩
     ·have h := bif_f h hc11
      obtain rfl := Option.some.inj h
      intro ρ L w' _ he _ _
      exact ⟨rfl, (hF.ext he).below⟩
    ·have h := bif_f h hc9
     obtain rfl := Option.some.inj h
     intro ρ L w' _ he _ _
     exact ⟨rfl, (hF.ext he).below⟩
   ·have h := bif_f h hc8
    obtain rfl := Option.some.inj h
    intro ρ L w' _ he _ _
    exact ⟨rfl, (hF.ext he).below⟩
  ·have h := bif_f h hc7
   obtain rfl := Option.some.inj h
   intro ρ L w' _ he _ _
   exact ⟨rfl, (hF.ext he).below⟩
 ·have h := bif_f h hc5
  obtain rfl := Option.some.inj h
  intro ρ L w' _ he _ _
  exact ⟨rfl, (hF.ext he).below⟩
end Go.Proofs.Ytpdchohbmmfemaa.X
