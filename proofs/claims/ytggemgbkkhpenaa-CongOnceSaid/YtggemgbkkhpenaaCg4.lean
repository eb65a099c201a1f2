/- Functions that reckon and call: their trees, the Lean functions that answer as they do, and that they do. -/
import Derived.Test.YtggemgbkkhpenaaRx15
import Derived.Test.YtggemgbkkhpenaaProg
import Derived.Test.YtggemgbkkhpenaaRxSeat
import Derived.Test.YtggemgbkkhpenaaCg3
namespace Go.Proofs.Ytggemgbkkhpenaa.X
open Go Go.RowKit Go.Proofs.YtggemgbkkhpenaaW.Rx
set_option linter.unusedVariables false
set_option linter.unusedSimpArgs false
/-! ### turnbuckle/turnbucklelaw07.alive: function 17 -/
def law07_alive.F  : Tup [Lf.b] :=
  let x0 := cong_New.F 
  let x1 := cong_Sent.F x0.1 x0.2.1 x0.2.2.1 x0.2.2.2.1 x0.2.2.2.2.1 1200
  let x2 := cong_Acked.F x1.1 x1.2.1 x1.2.2.1 x1.2.2.2.1 x1.2.2.2.2.1 1200 0
  let x3 := cong_Lost.F x1.1 x1.2.1 x1.2.2.1 x1.2.2.2.1 x1.2.2.2.2.1 1200 0 5
  bif x1.2.2.2.2.2.1 == 0 then
    bif x2.2.2.2.2.2.1 == 0 then
      bif x3.2.2.2.2.2.1 == 0 then
        bif x2.1 == 13200 then
          bif x3.1 == 6000 then
            bif x3.2.1 == 6000 then
              bif x3.2.2.2.1 == 6 then
                let x4 := cong_Room.F x1.1 x1.2.1 x1.2.2.1 x1.2.2.2.1 x1.2.2.2.2.1
                bif x4.1 == 10800 then
                  (true, ())
                else
                  (false, ())
              else
                (false, ())
            else
              (false, ())
          else
            (false, ())
        else
          (false, ())
      else
        (false, ())
    else
      (false, ())
  else
    (false, ())
theorem law07_alive.t  : tree Try.prog noA noC Try.f17 [] [] =
  .call 15 ([]) ([]) (Sh.agg 5) ([Lf.i IntKind.i64, Lf.i IntKind.i64, Lf.i IntKind.i64, Lf.i IntKind.i64, Lf.i IntKind.i64]) ([]) (fun x0 =>
   .call 22 ([AV.agg [AV.v (Value.int IntKind.i64 x0.1), AV.v (Value.int IntKind.i64 x0.2.1), AV.v (Value.int IntKind.i64 x0.2.2.1), AV.v (Value.int IntKind.i64 x0.2.2.2.1), AV.v (Value.int IntKind.i64 x0.2.2.2.2.1)], AV.v (Value.int IntKind.i64 1200)]) ([]) (Sh.tup [(true, 5), (false, 1)]) ([Lf.i IntKind.i64, Lf.i IntKind.i64, Lf.i IntKind.i64, Lf.i IntKind.i64, Lf.i IntKind.i64, Lf.i IntKind.i64]) ([]) (fun x1 =>
    .call 18 ([AV.agg [AV.v (Value.int IntKind.i64 x1.1), AV.v (Value.int IntKind.i64 x1.2.1), AV.v (Value.int IntKind.i64 x1.2.2.1), AV.v (Value.int IntKind.i64 x1.2.2.2.1), AV.v (Value.int IntKind.i64 x1.2.2.2.2.1)], AV.v (Value.int IntKind.i64 1200), AV.v (Value.int IntKind.i64 0)]) ([]) (Sh.tup [(true, 5), (false, 1)]) ([Lf.i IntKind.i64, Lf.i IntKind.i64, Lf.i IntKind.i64, Lf.i IntKind.i64, Lf.i IntKind.i64, Lf.i IntKind.i64]) ([]) (fun x2 =>
     .call 20 ([AV.agg [AV.v (Value.int IntKind.i64 x1.1), AV.v (Value.int IntKind.i64 x1.2.1), AV.v (Value.int IntKind.i64 x1.2.2.1), AV.v (Value.int IntKind.i64 x1.2.2.2.1), AV.v (Value.int IntKind.i64 x1.2.2.2.2.1)], AV.v (Value.int IntKind.i64 1200), AV.v (Value.int IntKind.i64 0), AV.v (Value.int IntKind.i64 5)]) ([]) (Sh.tup [(true, 5), (false, 1)]) ([Lf.i IntKind.i64, Lf.i IntKind.i64, Lf.i IntKind.i64, Lf.i IntKind.i64, Lf.i IntKind.i64, Lf.i IntKind.i64]) ([]) (fun x3 =>
      bif x1.2.2.2.2.2.1 == 0 then (
       bif x2.2.2.2.2.2.1 == 0 then (
        bif x3.2.2.2.2.2.1 == 0 then (
         bif x2.1 == 13200 then (
          bif x3.1 == 6000 then (
           bif x3.2.1 == 6000 then (
            bif x3.2.2.2.1 == 6 then (
             .call 12 ([AV.agg [AV.v (Value.int IntKind.i64 x1.1), AV.v (Value.int IntKind.i64 x1.2.1), AV.v (Value.int IntKind.i64 x1.2.2.1), AV.v (Value.int IntKind.i64 x1.2.2.2.1), AV.v (Value.int IntKind.i64 x1.2.2.2.2.1)]]) ([]) (Sh.one) ([Lf.i IntKind.i64]) ([]) (fun x4 =>
              bif x4.1 == 10800 then (
               .done (AV.v (Value.bool true)) ([]))
              else (
               .done (AV.v (Value.bool false)) ([]))))
            else (
             .done (AV.v (Value.bool false)) ([])))
           else (
            .done (AV.v (Value.bool false)) ([])))
          else (
           .done (AV.v (Value.bool false)) ([])))
         else (
          .done (AV.v (Value.bool false)) ([])))
        else (
         .done (AV.v (Value.bool false)) ([])))
       else (
        .done (AV.v (Value.bool false)) ([])))
      else (
       .done (AV.v (Value.bool false)) ([])))))) := by kernel_rfl
theorem law07_alive.c  (w : World) : Quiet Try.prog 17 (AV.gs id []).toArray w ((Sh.one : Sh).av (vs [Lf.b] (law07_alive.F )) |>.g id) := by
  refine enter0 mixed noA noC [] Try.func17 rfl rfl rfl (fun hF => ?_)
  rw [law07_alive.t]
  refine ok_callq (x := cong_New.F ) hF rfl (fun L w _ => cong_New.c  w) (fun L w hF => ?_)
  refine ok_callq (x := cong_Sent.F (cong_New.F ).1 (cong_New.F ).2.1 (cong_New.F ).2.2.1 (cong_New.F ).2.2.2.1 (cong_New.F ).2.2.2.2.1 1200) hF rfl (fun L w _ => cong_Sent.c (cong_New.F ).1 (cong_New.F ).2.1 (cong_New.F ).2.2.1 (cong_New.F ).2.2.2.1 (cong_New.F ).2.2.2.2.1 1200 w) (fun L w hF => ?_)
  refine ok_callq (x := cong_Acked.F (cong_Sent.F (cong_New.F ).1 (cong_New.F ).2.1 (cong_New.F ).2.2.1 (cong_New.F ).2.2.2.1 (cong_New.F ).2.2.2.2.1 1200).1 (cong_Sent.F (cong_New.F ).1 (cong_New.F ).2.1 (cong_New.F ).2.2.1 (cong_New.F ).2.2.2.1 (cong_New.F ).2.2.2.2.1 1200).2.1 (cong_Sent.F (cong_New.F ).1 (cong_New.F ).2.1 (cong_New.F ).2.2.1 (cong_New.F ).2.2.2.1 (cong_New.F ).2.2.2.2.1 1200).2.2.1 (cong_Sent.F (cong_New.F ).1 (cong_New.F ).2.1 (cong_New.F ).2.2.1 (cong_New.F ).2.2.2.1 (cong_New.F ).2.2.2.2.1 1200).2.2.2.1 (cong_Sent.F (cong_New.F ).1 (cong_New.F ).2.1 (cong_New.F ).2.2.1 (cong_New.F ).2.2.2.1 (cong_New.F ).2.2.2.2.1 1200).2.2.2.2.1 1200 0) hF rfl (fun L w _ => cong_Acked.c (cong_Sent.F (cong_New.F ).1 (cong_New.F ).2.1 (cong_New.F ).2.2.1 (cong_New.F ).2.2.2.1 (cong_New.F ).2.2.2.2.1 1200).1 (cong_Sent.F (cong_New.F ).1 (cong_New.F ).2.1 (cong_New.F ).2.2.1 (cong_New.F ).2.2.2.1 (cong_New.F ).2.2.2.2.1 1200).2.1 (cong_Sent.F (cong_New.F ).1 (cong_New.F ).2.1 (cong_New.F ).2.2.1 (cong_New.F ).2.2.2.1 (cong_New.F ).2.2.2.2.1 1200).2.2.1 (cong_Sent.F (cong_New.F ).1 (cong_New.F ).2.1 (cong_New.F ).2.2.1 (cong_New.F ).2.2.2.1 (cong_New.F ).2.2.2.2.1 1200).2.2.2.1 (cong_Sent.F (cong_New.F ).1 (cong_New.F ).2.1 (cong_New.F ).2.2.1 (cong_New.F ).2.2.2.1 (cong_New.F ).2.2.2.2.1 1200).2.2.2.2.1 1200 0 w) (fun L w hF => ?_)
  refine ok_callq (x := cong_Lost.F (cong_Sent.F (cong_New.F ).1 (cong_New.F ).2.1 (cong_New.F ).2.2.1 (cong_New.F ).2.2.2.1 (cong_New.F ).2.2.2.2.1 1200).1 (cong_Sent.F (cong_New.F ).1 (cong_New.F ).2.1 (cong_New.F ).2.2.1 (cong_New.F ).2.2.2.1 (cong_New.F ).2.2.2.2.1 1200).2.1 (cong_Sent.F (cong_New.F ).1 (cong_New.F ).2.1 (cong_New.F ).2.2.1 (cong_New.F ).2.2.2.1 (cong_New.F ).2.2.2.2.1 1200).2.2.1 (cong_Sent.F (cong_New.F ).1 (cong_New.F ).2.1 (cong_New.F ).2.2.1 (cong_New.F ).2.2.2.1 (cong_New.F ).2.2.2.2.1 1200).2.2.2.1 (cong_Sent.F (cong_New.F ).1 (cong_New.F ).2.1 (cong_New.F ).2.2.1 (cong_New.F ).2.2.2.1 (cong_New.F ).2.2.2.2.1 1200).2.2.2.2.1 1200 0 5) hF rfl (fun L w _ => cong_Lost.c (cong_Sent.F (cong_New.F ).1 (cong_New.F ).2.1 (cong_New.F ).2.2.1 (cong_New.F ).2.2.2.1 (cong_New.F ).2.2.2.2.1 1200).1 (cong_Sent.F (cong_New.F ).1 (cong_New.F ).2.1 (cong_New.F ).2.2.1 (cong_New.F ).2.2.2.1 (cong_New.F ).2.2.2.2.1 1200).2.1 (cong_Sent.F (cong_New.F ).1 (cong_New.F ).2.1 (cong_New.F ).2.2.1 (cong_New.F ).2.2.2.1 (cong_New.F ).2.2.2.2.1 1200).2.2.1 (cong_Sent.F (cong_New.F ).1 (cong_New.F ).2.1 (cong_New.F ).2.2.1 (cong_New.F ).2.2.2.1 (cong_New.F ).2.2.2.2.1 1200).2.2.2.1 (cong_Sent.F (cong_New.F ).1 (cong_New.F ).2.1 (cong_New.F ).2.2.1 (cong_New.F ).2.2.2.1 (cong_New.F ).2.2.2.2.1 1200).2.2.2.2.1 1200 0 5 w) (fun L w hF => ?_)
  refine ok_if (fun h0 => ?_) (fun h0 => ?_)
  · refine ok_if (fun h1 => ?_) (fun h1 => ?_)
    · refine ok_if (fun h2 => ?_) (fun h2 => ?_)
      · refine ok_if (fun h3 => ?_) (fun h3 => ?_)
        · refine ok_if (fun h4 => ?_) (fun h4 => ?_)
          · refine ok_if (fun h5 => ?_) (fun h5 => ?_)
            · refine ok_if (fun h6 => ?_) (fun h6 => ?_)
              · refine ok_callq (x := cong_Room.F (cong_Sent.F (cong_New.F ).1 (cong_New.F ).2.1 (cong_New.F ).2.2.1 (cong_New.F ).2.2.2.1 (cong_New.F ).2.2.2.2.1 1200).1 (cong_Sent.F (cong_New.F ).1 (cong_New.F ).2.1 (cong_New.F ).2.2.1 (cong_New.F ).2.2.2.1 (cong_New.F ).2.2.2.2.1 1200).2.1 (cong_Sent.F (cong_New.F ).1 (cong_New.F ).2.1 (cong_New.F ).2.2.1 (cong_New.F ).2.2.2.1 (cong_New.F ).2.2.2.2.1 1200).2.2.1 (cong_Sent.F (cong_New.F ).1 (cong_New.F ).2.1 (cong_New.F ).2.2.1 (cong_New.F ).2.2.2.1 (cong_New.F ).2.2.2.2.1 1200).2.2.2.1 (cong_Sent.F (cong_New.F ).1 (cong_New.F ).2.1 (cong_New.F ).2.2.1 (cong_New.F ).2.2.2.1 (cong_New.F ).2.2.2.2.1 1200).2.2.2.2.1) hF rfl (fun L w _ => cong_Room.c (cong_Sent.F (cong_New.F ).1 (cong_New.F ).2.1 (cong_New.F ).2.2.1 (cong_New.F ).2.2.2.1 (cong_New.F ).2.2.2.2.1 1200).1 (cong_Sent.F (cong_New.F ).1 (cong_New.F ).2.1 (cong_New.F ).2.2.1 (cong_New.F ).2.2.2.1 (cong_New.F ).2.2.2.2.1 1200).2.1 (cong_Sent.F (cong_New.F ).1 (cong_New.F ).2.1 (cong_New.F ).2.2.1 (cong_New.F ).2.2.2.1 (cong_New.F ).2.2.2.2.1 1200).2.2.1 (cong_Sent.F (cong_New.F ).1 (cong_New.F ).2.1 (cong_New.F ).2.2.1 (cong_New.F ).2.2.2.1 (cong_New.F ).2.2.2.2.1 1200).2.2.2.1 (cong_Sent.F (cong_New.F ).1 (cong_New.F ).2.1 (cong_New.F ).2.2.1 (cong_New.F ).2.2.2.1 (cong_New.F ).2.2.2.2.1 1200).2.2.2.2.1 w) (fun L w hF => ?_)
                refine ok_if (fun h7 => ?_) (fun h7 => ?_)
                · exact ok_done hF rfl (by rw [show law07_alive.F  = (true, ()) from by unfold law07_alive.F; simp only [h0, h1, h2, h3, h4, h5, h6, h7, cond_true, cond_false]]; rfl)
                · exact ok_done hF rfl (by rw [show law07_alive.F  = (false, ()) from by unfold law07_alive.F; simp only [h0, h1, h2, h3, h4, h5, h6, h7, cond_true, cond_false]]; rfl)
              · exact ok_done hF rfl (by rw [show law07_alive.F  = (false, ()) from by unfold law07_alive.F; simp only [h0, h1, h2, h3, h4, h5, h6, cond_true, cond_false]]; rfl)
            · exact ok_done hF rfl (by rw [show law07_alive.F  = (false, ()) from by unfold law07_alive.F; simp only [h0, h1, h2, h3, h4, h5, cond_true, cond_false]]; rfl)
          · exact ok_done hF rfl (by rw [show law07_alive.F  = (false, ()) from by unfold law07_alive.F; simp only [h0, h1, h2, h3, h4, cond_true, cond_false]]; rfl)
        · exact ok_done hF rfl (by rw [show law07_alive.F  = (false, ()) from by unfold law07_alive.F; simp only [h0, h1, h2, h3, cond_true, cond_false]]; rfl)
      · exact ok_done hF rfl (by rw [show law07_alive.F  = (false, ()) from by unfold law07_alive.F; simp only [h0, h1, h2, cond_true, cond_false]]; rfl)
    · exact ok_done hF rfl (by rw [show law07_alive.F  = (false, ()) from by unfold law07_alive.F; simp only [h0, h1, cond_true, cond_false]]; rfl)
  · exact ok_done hF rfl (by rw [show law07_alive.F  = (false, ()) from by unfold law07_alive.F; simp only [h0, cond_true, cond_false]]; rfl)
/-! ### turnbuckle/turnbucklelaw07.CongTells: function 3 -/
def law07_CongTells.F (a0_0 : Int) (a0_1 : Int) (a0_2 : Int) (a0_3 : Int) (a0_4 : Int) : Tup [Lf.b] :=
  let x0 := law07_theirs.F a0_0 a0_1 a0_2 a0_3 a0_4
  let x1 := cong_Right.F x0.1 x0.2.1 x0.2.2.1 x0.2.2.2.1 x0.2.2.2.2.1
  bif x1.1 then
    let x2 := ref07_Right.F a0_0 a0_1 a0_2 a0_3 a0_4
    bif x2.1 then
      let x3 := law07_theirs.F a0_0 a0_1 a0_2 a0_3 a0_4
      let x4 := cong_Room.F x3.1 x3.2.1 x3.2.2.1 x3.2.2.2.1 x3.2.2.2.2.1
      let x5 := ref07_Room.F a0_0 a0_1 a0_2 a0_3 a0_4
      bif x4.1 == x5.1 then
        let x6 := cong_New.F 
        let x7 := law07_ours.F x6.1 x6.2.1 x6.2.2.1 x6.2.2.2.1 x6.2.2.2.2.1
        let x8 := ref07_New.F 
        bif x7.1 == x8.1 && (x7.2.1 == x8.2.1 && (x7.2.2.1 == x8.2.2.1 && (x7.2.2.2.1 == x8.2.2.2.1 && (x7.2.2.2.2.1 == x8.2.2.2.2.1 && true)))) then
          let x9 := law07_alive.F 
          bif x9.1 then
            (true, ())
          else
            (false, ())
        else
          (false, ())
      else
        (false, ())
    else
      (false, ())
  else
    let x2 := ref07_Right.F a0_0 a0_1 a0_2 a0_3 a0_4
    bif x2.1 then
      (false, ())
    else
      let x3 := law07_theirs.F a0_0 a0_1 a0_2 a0_3 a0_4
      let x4 := cong_Room.F x3.1 x3.2.1 x3.2.2.1 x3.2.2.2.1 x3.2.2.2.2.1
      let x5 := ref07_Room.F a0_0 a0_1 a0_2 a0_3 a0_4
      bif x4.1 == x5.1 then
        let x6 := cong_New.F 
        let x7 := law07_ours.F x6.1 x6.2.1 x6.2.2.1 x6.2.2.2.1 x6.2.2.2.2.1
        let x8 := ref07_New.F 
        bif x7.1 == x8.1 && (x7.2.1 == x8.2.1 && (x7.2.2.1 == x8.2.2.1 && (x7.2.2.2.1 == x8.2.2.2.1 && (x7.2.2.2.2.1 == x8.2.2.2.2.1 && true)))) then
          let x9 := law07_alive.F 
          bif x9.1 then
            (true, ())
          else
            (false, ())
        else
          (false, ())
      else
        (false, ())
theorem law07_CongTells.t (a0_0 : Int) (a0_1 : Int) (a0_2 : Int) (a0_3 : Int) (a0_4 : Int) : tree Try.prog noA noC Try.f3 [AV.agg [AV.v (Value.int IntKind.i64 a0_0), AV.v (Value.int IntKind.i64 a0_1), AV.v (Value.int IntKind.i64 a0_2), AV.v (Value.int IntKind.i64 a0_3), AV.v (Value.int IntKind.i64 a0_4)]] [] =
  .call 10 ([AV.agg [AV.v (Value.int IntKind.i64 a0_0), AV.v (Value.int IntKind.i64 a0_1), AV.v (Value.int IntKind.i64 a0_2), AV.v (Value.int IntKind.i64 a0_3), AV.v (Value.int IntKind.i64 a0_4)]]) ([]) (Sh.agg 5) ([Lf.i IntKind.i64, Lf.i IntKind.i64, Lf.i IntKind.i64, Lf.i IntKind.i64, Lf.i IntKind.i64]) ([]) (fun x0 =>
   .call 9 ([AV.agg [AV.v (Value.int IntKind.i64 x0.1), AV.v (Value.int IntKind.i64 x0.2.1), AV.v (Value.int IntKind.i64 x0.2.2.1), AV.v (Value.int IntKind.i64 x0.2.2.2.1), AV.v (Value.int IntKind.i64 x0.2.2.2.2.1)]]) ([]) (Sh.one) ([Lf.b]) ([]) (fun x1 =>
    bif x1.1 then (
     .call 11 ([AV.agg [AV.v (Value.int IntKind.i64 a0_0), AV.v (Value.int IntKind.i64 a0_1), AV.v (Value.int IntKind.i64 a0_2), AV.v (Value.int IntKind.i64 a0_3), AV.v (Value.int IntKind.i64 a0_4)]]) ([]) (Sh.one) ([Lf.b]) ([]) (fun x2 =>
      bif x2.1 then (
       .call 10 ([AV.agg [AV.v (Value.int IntKind.i64 a0_0), AV.v (Value.int IntKind.i64 a0_1), AV.v (Value.int IntKind.i64 a0_2), AV.v (Value.int IntKind.i64 a0_3), AV.v (Value.int IntKind.i64 a0_4)]]) ([]) (Sh.agg 5) ([Lf.i IntKind.i64, Lf.i IntKind.i64, Lf.i IntKind.i64, Lf.i IntKind.i64, Lf.i IntKind.i64]) ([]) (fun x3 =>
        .call 12 ([AV.agg [AV.v (Value.int IntKind.i64 x3.1), AV.v (Value.int IntKind.i64 x3.2.1), AV.v (Value.int IntKind.i64 x3.2.2.1), AV.v (Value.int IntKind.i64 x3.2.2.2.1), AV.v (Value.int IntKind.i64 x3.2.2.2.2.1)]]) ([]) (Sh.one) ([Lf.i IntKind.i64]) ([]) (fun x4 =>
         .call 13 ([AV.agg [AV.v (Value.int IntKind.i64 a0_0), AV.v (Value.int IntKind.i64 a0_1), AV.v (Value.int IntKind.i64 a0_2), AV.v (Value.int IntKind.i64 a0_3), AV.v (Value.int IntKind.i64 a0_4)]]) ([]) (Sh.one) ([Lf.i IntKind.i64]) ([]) (fun x5 =>
          bif x4.1 == x5.1 then (
           .call 15 ([]) ([]) (Sh.agg 5) ([Lf.i IntKind.i64, Lf.i IntKind.i64, Lf.i IntKind.i64, Lf.i IntKind.i64, Lf.i IntKind.i64]) ([]) (fun x6 =>
            .call 14 ([AV.agg [AV.v (Value.int IntKind.i64 x6.1), AV.v (Value.int IntKind.i64 x6.2.1), AV.v (Value.int IntKind.i64 x6.2.2.1), AV.v (Value.int IntKind.i64 x6.2.2.2.1), AV.v (Value.int IntKind.i64 x6.2.2.2.2.1)]]) ([]) (Sh.agg 5) ([Lf.i IntKind.i64, Lf.i IntKind.i64, Lf.i IntKind.i64, Lf.i IntKind.i64, Lf.i IntKind.i64]) ([]) (fun x7 =>
             .call 16 ([]) ([]) (Sh.agg 5) ([Lf.i IntKind.i64, Lf.i IntKind.i64, Lf.i IntKind.i64, Lf.i IntKind.i64, Lf.i IntKind.i64]) ([]) (fun x8 =>
              bif x7.1 == x8.1 && (x7.2.1 == x8.2.1 && (x7.2.2.1 == x8.2.2.1 && (x7.2.2.2.1 == x8.2.2.2.1 && (x7.2.2.2.2.1 == x8.2.2.2.2.1 && true)))) then (
               .call 17 ([]) ([]) (Sh.one) ([Lf.b]) ([]) (fun x9 =>
                bif x9.1 then (
                 .done (AV.v (Value.bool true)) ([]))
                else (
                 .done (AV.v (Value.bool false)) ([]))))
              else (
               .done (AV.v (Value.bool false)) ([]))))))
          else (
           .done (AV.v (Value.bool false)) ([]))))))
      else (
       .done (AV.v (Value.bool false)) ([]))))
    else (
     .call 11 ([AV.agg [AV.v (Value.int IntKind.i64 a0_0), AV.v (Value.int IntKind.i64 a0_1), AV.v (Value.int IntKind.i64 a0_2), AV.v (Value.int IntKind.i64 a0_3), AV.v (Value.int IntKind.i64 a0_4)]]) ([]) (Sh.one) ([Lf.b]) ([]) (fun x2 =>
      bif x2.1 then (
       .done (AV.v (Value.bool false)) ([]))
      else (
       .call 10 ([AV.agg [AV.v (Value.int IntKind.i64 a0_0), AV.v (Value.int IntKind.i64 a0_1), AV.v (Value.int IntKind.i64 a0_2), AV.v (Value.int IntKind.i64 a0_3), AV.v (Value.int IntKind.i64 a0_4)]]) ([]) (Sh.agg 5) ([Lf.i IntKind.i64, Lf.i IntKind.i64, Lf.i IntKind.i64, Lf.i IntKind.i64, Lf.i IntKind.i64]) ([]) (fun x3 =>
        .call 12 ([AV.agg [AV.v (Value.int IntKind.i64 x3.1), AV.v (Value.int IntKind.i64 x3.2.1), AV.v (Value.int IntKind.i64 x3.2.2.1), AV.v (Value.int IntKind.i64 x3.2.2.2.1), AV.v (Value.int IntKind.i64 x3.2.2.2.2.1)]]) ([]) (Sh.one) ([Lf.i IntKind.i64]) ([]) (fun x4 =>
         .call 13 ([AV.agg [AV.v (Value.int IntKind.i64 a0_0), AV.v (Value.int IntKind.i64 a0_1), AV.v (Value.int IntKind.i64 a0_2), AV.v (Value.int IntKind.i64 a0_3), AV.v (Value.int IntKind.i64 a0_4)]]) ([]) (Sh.one) ([Lf.i IntKind.i64]) ([]) (fun x5 =>
          bif x4.1 == x5.1 then (
           .call 15 ([]) ([]) (Sh.agg 5) ([Lf.i IntKind.i64, Lf.i IntKind.i64, Lf.i IntKind.i64, Lf.i IntKind.i64, Lf.i IntKind.i64]) ([]) (fun x6 =>
            .call 14 ([AV.agg [AV.v (Value.int IntKind.i64 x6.1), AV.v (Value.int IntKind.i64 x6.2.1), AV.v (Value.int IntKind.i64 x6.2.2.1), AV.v (Value.int IntKind.i64 x6.2.2.2.1), AV.v (Value.int IntKind.i64 x6.2.2.2.2.1)]]) ([]) (Sh.agg 5) ([Lf.i IntKind.i64, Lf.i IntKind.i64, Lf.i IntKind.i64, Lf.i IntKind.i64, Lf.i IntKind.i64]) ([]) (fun x7 =>
             .call 16 ([]) ([]) (Sh.agg 5) ([Lf.i IntKind.i64, Lf.i IntKind.i64, Lf.i IntKind.i64, Lf.i IntKind.i64, Lf.i IntKind.i64]) ([]) (fun x8 =>
              bif x7.1 == x8.1 && (x7.2.1 == x8.2.1 && (x7.2.2.1 == x8.2.2.1 && (x7.2.2.2.1 == x8.2.2.2.1 && (x7.2.2.2.2.1 == x8.2.2.2.2.1 && true)))) then (
               .call 17 ([]) ([]) (Sh.one) ([Lf.b]) ([]) (fun x9 =>
                bif x9.1 then (
                 .done (AV.v (Value.bool true)) ([]))
                else (
                 .done (AV.v (Value.bool false)) ([]))))
              else (
               .done (AV.v (Value.bool false)) ([]))))))
          else (
           .done (AV.v (Value.bool false)) ([])))))))))) := by kernel_rfl
theorem law07_CongTells.c (a0_0 : Int) (a0_1 : Int) (a0_2 : Int) (a0_3 : Int) (a0_4 : Int) (w : World) : Quiet Try.prog 3 (AV.gs id [AV.agg [AV.v (Value.int IntKind.i64 a0_0), AV.v (Value.int IntKind.i64 a0_1), AV.v (Value.int IntKind.i64 a0_2), AV.v (Value.int IntKind.i64 a0_3), AV.v (Value.int IntKind.i64 a0_4)]]).toArray w ((Sh.one : Sh).av (vs [Lf.b] (law07_CongTells.F a0_0 a0_1 a0_2 a0_3 a0_4)) |>.g id) := by
  refine enter0 mixed noA noC [AV.agg [AV.v (Value.int IntKind.i64 a0_0), AV.v (Value.int IntKind.i64 a0_1), AV.v (Value.int IntKind.i64 a0_2), AV.v (Value.int IntKind.i64 a0_3), AV.v (Value.int IntKind.i64 a0_4)]] Try.func3 rfl rfl rfl (fun hF => ?_)
  rw [law07_CongTells.t]
  refine ok_callq (x := law07_theirs.F a0_0 a0_1 a0_2 a0_3 a0_4) hF rfl (fun L w _ => law07_theirs.c a0_0 a0_1 a0_2 a0_3 a0_4 w) (fun L w hF => ?_)
  refine ok_callq (x := cong_Right.F (law07_theirs.F a0_0 a0_1 a0_2 a0_3 a0_4).1 (law07_theirs.F a0_0 a0_1 a0_2 a0_3 a0_4).2.1 (law07_theirs.F a0_0 a0_1 a0_2 a0_3 a0_4).2.2.1 (law07_theirs.F a0_0 a0_1 a0_2 a0_3 a0_4).2.2.2.1 (law07_theirs.F a0_0 a0_1 a0_2 a0_3 a0_4).2.2.2.2.1) hF rfl (fun L w _ => cong_Right.c (law07_theirs.F a0_0 a0_1 a0_2 a0_3 a0_4).1 (law07_theirs.F a0_0 a0_1 a0_2 a0_3 a0_4).2.1 (law07_theirs.F a0_0 a0_1 a0_2 a0_3 a0_4).2.2.1 (law07_theirs.F a0_0 a0_1 a0_2 a0_3 a0_4).2.2.2.1 (law07_theirs.F a0_0 a0_1 a0_2 a0_3 a0_4).2.2.2.2.1 w) (fun L w hF => ?_)
  refine ok_if (fun h0 => ?_) (fun h0 => ?_)
  · refine ok_callq (x := ref07_Right.F a0_0 a0_1 a0_2 a0_3 a0_4) hF rfl (fun L w _ => ref07_Right.c a0_0 a0_1 a0_2 a0_3 a0_4 w) (fun L w hF => ?_)
    refine ok_if (fun h1 => ?_) (fun h1 => ?_)
    · refine ok_callq (x := law07_theirs.F a0_0 a0_1 a0_2 a0_3 a0_4) hF rfl (fun L w _ => law07_theirs.c a0_0 a0_1 a0_2 a0_3 a0_4 w) (fun L w hF => ?_)
      refine ok_callq (x := cong_Room.F (law07_theirs.F a0_0 a0_1 a0_2 a0_3 a0_4).1 (law07_theirs.F a0_0 a0_1 a0_2 a0_3 a0_4).2.1 (law07_theirs.F a0_0 a0_1 a0_2 a0_3 a0_4).2.2.1 (law07_theirs.F a0_0 a0_1 a0_2 a0_3 a0_4).2.2.2.1 (law07_theirs.F a0_0 a0_1 a0_2 a0_3 a0_4).2.2.2.2.1) hF rfl (fun L w _ => cong_Room.c (law07_theirs.F a0_0 a0_1 a0_2 a0_3 a0_4).1 (law07_theirs.F a0_0 a0_1 a0_2 a0_3 a0_4).2.1 (law07_theirs.F a0_0 a0_1 a0_2 a0_3 a0_4).2.2.1 (law07_theirs.F a0_0 a0_1 a0_2 a0_3 a0_4).2.2.2.1 (law07_theirs.F a0_0 a0_1 a0_2 a0_3 a0_4).2.2.2.2.1 w) (fun L w hF => ?_)
      refine ok_callq (x := ref07_Room.F a0_0 a0_1 a0_2 a0_3 a0_4) hF rfl (fun L w _ => ref07_Room.c a0_0 a0_1 a0_2 a0_3 a0_4 w) (fun L w hF => ?_)
      refine ok_if (fun h2 => ?_) (fun h2 => ?_)
      · refine ok_callq (x := cong_New.F ) hF rfl (fun L w _ => cong_New.c  w) (fun L w hF => ?_)
        refine ok_callq (x := law07_ours.F (cong_New.F ).1 (cong_New.F ).2.1 (cong_New.F ).2.2.1 (cong_New.F ).2.2.2.1 (cong_New.F ).2.2.2.2.1) hF rfl (fun L w _ => law07_ours.c (cong_New.F ).1 (cong_New.F ).2.1 (cong_New.F ).2.2.1 (cong_New.F ).2.2.2.1 (cong_New.F ).2.2.2.2.1 w) (fun L w hF => ?_)
        refine ok_callq (x := ref07_New.F ) hF rfl (fun L w _ => ref07_New.c  w) (fun L w hF => ?_)
        refine ok_if (fun h3 => ?_) (fun h3 => ?_)
        · refine ok_callq (x := law07_alive.F ) hF rfl (fun L w _ => law07_alive.c  w) (fun L w hF => ?_)
          refine ok_if (fun h4 => ?_) (fun h4 => ?_)
          · exact ok_done hF rfl (by rw [show law07_CongTells.F a0_0 a0_1 a0_2 a0_3 a0_4 = (true, ()) from by unfold law07_CongTells.F; simp only [h0, h1, h2, h3, h4, cond_true, cond_false]]; rfl)
          · exact ok_done hF rfl (by rw [show law07_CongTells.F a0_0 a0_1 a0_2 a0_3 a0_4 = (false, ()) from by unfold law07_CongTells.F; simp only [h0, h1, h2, h3, h4, cond_true, cond_false]]; rfl)
        · exact ok_done hF rfl (by rw [show law07_CongTells.F a0_0 a0_1 a0_2 a0_3 a0_4 = (false, ()) from by unfold law07_CongTells.F; simp only [h0, h1, h2, h3, cond_true, cond_false]]; rfl)
      · exact ok_done hF rfl (by rw [show law07_CongTells.F a0_0 a0_1 a0_2 a0_3 a0_4 = (false, ()) from by unfold law07_CongTells.F; simp only [h0, h1, h2, cond_true, cond_false]]; rfl)
    · exact ok_done hF rfl (by rw [show law07_CongTells.F a0_0 a0_1 a0_2 a0_3 a0_4 = (false, ()) from by unfold law07_CongTells.F; simp only [h0, h1, cond_true, cond_false]]; rfl)
  · refine ok_callq (x := ref07_Right.F a0_0 a0_1 a0_2 a0_3 a0_4) hF rfl (fun L w _ => ref07_Right.c a0_0 a0_1 a0_2 a0_3 a0_4 w) (fun L w hF => ?_)
    refine ok_if (fun h1 => ?_) (fun h1 => ?_)
    · exact ok_done hF rfl (by rw [show law07_CongTells.F a0_0 a0_1 a0_2 a0_3 a0_4 = (false, ()) from by unfold law07_CongTells.F; simp only [h0, h1, cond_true, cond_false]]; rfl)
    · refine ok_callq (x := law07_theirs.F a0_0 a0_1 a0_2 a0_3 a0_4) hF rfl (fun L w _ => law07_theirs.c a0_0 a0_1 a0_2 a0_3 a0_4 w) (fun L w hF => ?_)
      refine ok_callq (x := cong_Room.F (law07_theirs.F a0_0 a0_1 a0_2 a0_3 a0_4).1 (law07_theirs.F a0_0 a0_1 a0_2 a0_3 a0_4).2.1 (law07_theirs.F a0_0 a0_1 a0_2 a0_3 a0_4).2.2.1 (law07_theirs.F a0_0 a0_1 a0_2 a0_3 a0_4).2.2.2.1 (law07_theirs.F a0_0 a0_1 a0_2 a0_3 a0_4).2.2.2.2.1) hF rfl (fun L w _ => cong_Room.c (law07_theirs.F a0_0 a0_1 a0_2 a0_3 a0_4).1 (law07_theirs.F a0_0 a0_1 a0_2 a0_3 a0_4).2.1 (law07_theirs.F a0_0 a0_1 a0_2 a0_3 a0_4).2.2.1 (law07_theirs.F a0_0 a0_1 a0_2 a0_3 a0_4).2.2.2.1 (law07_theirs.F a0_0 a0_1 a0_2 a0_3 a0_4).2.2.2.2.1 w) (fun L w hF => ?_)
      refine ok_callq (x := ref07_Room.F a0_0 a0_1 a0_2 a0_3 a0_4) hF rfl (fun L w _ => ref07_Room.c a0_0 a0_1 a0_2 a0_3 a0_4 w) (fun L w hF => ?_)
      refine ok_if (fun h2 => ?_) (fun h2 => ?_)
      · refine ok_callq (x := cong_New.F ) hF rfl (fun L w _ => cong_New.c  w) (fun L w hF => ?_)
        refine ok_callq (x := law07_ours.F (cong_New.F ).1 (cong_New.F ).2.1 (cong_New.F ).2.2.1 (cong_New.F ).2.2.2.1 (cong_New.F ).2.2.2.2.1) hF rfl (fun L w _ => law07_ours.c (cong_New.F ).1 (cong_New.F ).2.1 (cong_New.F ).2.2.1 (cong_New.F ).2.2.2.1 (cong_New.F ).2.2.2.2.1 w) (fun L w hF => ?_)
        refine ok_callq (x := ref07_New.F ) hF rfl (fun L w _ => ref07_New.c  w) (fun L w hF => ?_)
        refine ok_if (fun h3 => ?_) (fun h3 => ?_)
        · refine ok_callq (x := law07_alive.F ) hF rfl (fun L w _ => law07_alive.c  w) (fun L w hF => ?_)
          refine ok_if (fun h4 => ?_) (fun h4 => ?_)
          · exact ok_done hF rfl (by rw [show law07_CongTells.F a0_0 a0_1 a0_2 a0_3 a0_4 = (true, ()) from by unfold law07_CongTells.F; simp only [h0, h1, h2, h3, h4, cond_true, cond_false]]; rfl)
          · exact ok_done hF rfl (by rw [show law07_CongTells.F a0_0 a0_1 a0_2 a0_3 a0_4 = (false, ()) from by unfold law07_CongTells.F; simp only [h0, h1, h2, h3, h4, cond_true, cond_false]]; rfl)
        · exact ok_done hF rfl (by rw [show law07_CongTells.F a0_0 a0_1 a0_2 a0_3 a0_4 = (false, ()) from by unfold law07_CongTells.F; simp only [h0, h1, h2, h3, cond_true, cond_false]]; rfl)
      · exact ok_done hF rfl (by rw [show law07_CongTells.F a0_0 a0_1 a0_2 a0_3 a0_4 = (false, ()) from by unfold law07_CongTells.F; simp only [h0, h1, h2, cond_true, cond_false]]; rfl)
/-! ### turnbuckle/turnbucklelaw07.CongSends: function 5 -/
def law07_CongSends.F (a0_0 : Int) (a0_1 : Int) (a0_2 : Int) (a0_3 : Int) (a0_4 : Int) (a1 : Int) : Tup [Lf.b] :=
  let x0 := law07_theirs.F a0_0 a0_1 a0_2 a0_3 a0_4
  let x1 := cong_Sent.F x0.1 x0.2.1 x0.2.2.1 x0.2.2.2.1 x0.2.2.2.2.1 a1
  let x2 := ref07_Sent.F a0_0 a0_1 a0_2 a0_3 a0_4 a1
  let x3 := law07_theirs.F a0_0 a0_1 a0_2 a0_3 a0_4
  let x4 := cong_Gone.F x3.1 x3.2.1 x3.2.2.1 x3.2.2.2.1 x3.2.2.2.2.1 a1
  let x5 := ref07_Gone.F a0_0 a0_1 a0_2 a0_3 a0_4 a1
  let x6 := law07_ours.F x1.1 x1.2.1 x1.2.2.1 x1.2.2.2.1 x1.2.2.2.2.1
  bif x6.1 == x2.1 && (x6.2.1 == x2.2.1 && (x6.2.2.1 == x2.2.2.1 && (x6.2.2.2.1 == x2.2.2.2.1 && (x6.2.2.2.2.1 == x2.2.2.2.2.1 && true)))) then
    bif x1.2.2.2.2.2.1 == x2.2.2.2.2.2.1 then
      let x7 := law07_ours.F x4.1 x4.2.1 x4.2.2.1 x4.2.2.2.1 x4.2.2.2.2.1
      bif x7.1 == x5.1 && (x7.2.1 == x5.2.1 && (x7.2.2.1 == x5.2.2.1 && (x7.2.2.2.1 == x5.2.2.2.1 && (x7.2.2.2.2.1 == x5.2.2.2.2.1 && true)))) then
        bif x4.2.2.2.2.2.1 == x5.2.2.2.2.2.1 then
          let x8 := law07_alive.F 
          bif x8.1 then
            (true, ())
          else
            (false, ())
        else
          (false, ())
      else
        (false, ())
    else
      (false, ())
  else
    (false, ())
theorem law07_CongSends.t (a0_0 : Int) (a0_1 : Int) (a0_2 : Int) (a0_3 : Int) (a0_4 : Int) (a1 : Int) : tree Try.prog noA noC Try.f5 [AV.agg [AV.v (Value.int IntKind.i64 a0_0), AV.v (Value.int IntKind.i64 a0_1), AV.v (Value.int IntKind.i64 a0_2), AV.v (Value.int IntKind.i64 a0_3), AV.v (Value.int IntKind.i64 a0_4)], AV.v (Value.int IntKind.i64 a1)] [] =
  .call 10 ([AV.agg [AV.v (Value.int IntKind.i64 a0_0), AV.v (Value.int IntKind.i64 a0_1), AV.v (Value.int IntKind.i64 a0_2), AV.v (Value.int IntKind.i64 a0_3), AV.v (Value.int IntKind.i64 a0_4)]]) ([]) (Sh.agg 5) ([Lf.i IntKind.i64, Lf.i IntKind.i64, Lf.i IntKind.i64, Lf.i IntKind.i64, Lf.i IntKind.i64]) ([]) (fun x0 =>
   .call 22 ([AV.agg [AV.v (Value.int IntKind.i64 x0.1), AV.v (Value.int IntKind.i64 x0.2.1), AV.v (Value.int IntKind.i64 x0.2.2.1), AV.v (Value.int IntKind.i64 x0.2.2.2.1), AV.v (Value.int IntKind.i64 x0.2.2.2.2.1)], AV.v (Value.int IntKind.i64 a1)]) ([]) (Sh.tup [(true, 5), (false, 1)]) ([Lf.i IntKind.i64, Lf.i IntKind.i64, Lf.i IntKind.i64, Lf.i IntKind.i64, Lf.i IntKind.i64, Lf.i IntKind.i64]) ([]) (fun x1 =>
    .call 23 ([AV.agg [AV.v (Value.int IntKind.i64 a0_0), AV.v (Value.int IntKind.i64 a0_1), AV.v (Value.int IntKind.i64 a0_2), AV.v (Value.int IntKind.i64 a0_3), AV.v (Value.int IntKind.i64 a0_4)], AV.v (Value.int IntKind.i64 a1)]) ([]) (Sh.tup [(true, 5), (false, 1)]) ([Lf.i IntKind.i64, Lf.i IntKind.i64, Lf.i IntKind.i64, Lf.i IntKind.i64, Lf.i IntKind.i64, Lf.i IntKind.i64]) ([]) (fun x2 =>
     .call 10 ([AV.agg [AV.v (Value.int IntKind.i64 a0_0), AV.v (Value.int IntKind.i64 a0_1), AV.v (Value.int IntKind.i64 a0_2), AV.v (Value.int IntKind.i64 a0_3), AV.v (Value.int IntKind.i64 a0_4)]]) ([]) (Sh.agg 5) ([Lf.i IntKind.i64, Lf.i IntKind.i64, Lf.i IntKind.i64, Lf.i IntKind.i64, Lf.i IntKind.i64]) ([]) (fun x3 =>
      .call 24 ([AV.agg [AV.v (Value.int IntKind.i64 x3.1), AV.v (Value.int IntKind.i64 x3.2.1), AV.v (Value.int IntKind.i64 x3.2.2.1), AV.v (Value.int IntKind.i64 x3.2.2.2.1), AV.v (Value.int IntKind.i64 x3.2.2.2.2.1)], AV.v (Value.int IntKind.i64 a1)]) ([]) (Sh.tup [(true, 5), (false, 1)]) ([Lf.i IntKind.i64, Lf.i IntKind.i64, Lf.i IntKind.i64, Lf.i IntKind.i64, Lf.i IntKind.i64, Lf.i IntKind.i64]) ([]) (fun x4 =>
       .call 25 ([AV.agg [AV.v (Value.int IntKind.i64 a0_0), AV.v (Value.int IntKind.i64 a0_1), AV.v (Value.int IntKind.i64 a0_2), AV.v (Value.int IntKind.i64 a0_3), AV.v (Value.int IntKind.i64 a0_4)], AV.v (Value.int IntKind.i64 a1)]) ([]) (Sh.tup [(true, 5), (false, 1)]) ([Lf.i IntKind.i64, Lf.i IntKind.i64, Lf.i IntKind.i64, Lf.i IntKind.i64, Lf.i IntKind.i64, Lf.i IntKind.i64]) ([]) (fun x5 =>
        .call 14 ([AV.agg [AV.v (Value.int IntKind.i64 x1.1), AV.v (Value.int IntKind.i64 x1.2.1), AV.v (Value.int IntKind.i64 x1.2.2.1), AV.v (Value.int IntKind.i64 x1.2.2.2.1), AV.v (Value.int IntKind.i64 x1.2.2.2.2.1)]]) ([]) (Sh.agg 5) ([Lf.i IntKind.i64, Lf.i IntKind.i64, Lf.i IntKind.i64, Lf.i IntKind.i64, Lf.i IntKind.i64]) ([]) (fun x6 =>
         bif x6.1 == x2.1 && (x6.2.1 == x2.2.1 && (x6.2.2.1 == x2.2.2.1 && (x6.2.2.2.1 == x2.2.2.2.1 && (x6.2.2.2.2.1 == x2.2.2.2.2.1 && true)))) then (
          bif x1.2.2.2.2.2.1 == x2.2.2.2.2.2.1 then (
           .call 14 ([AV.agg [AV.v (Value.int IntKind.i64 x4.1), AV.v (Value.int IntKind.i64 x4.2.1), AV.v (Value.int IntKind.i64 x4.2.2.1), AV.v (Value.int IntKind.i64 x4.2.2.2.1), AV.v (Value.int IntKind.i64 x4.2.2.2.2.1)]]) ([]) (Sh.agg 5) ([Lf.i IntKind.i64, Lf.i IntKind.i64, Lf.i IntKind.i64, Lf.i IntKind.i64, Lf.i IntKind.i64]) ([]) (fun x7 =>
            bif x7.1 == x5.1 && (x7.2.1 == x5.2.1 && (x7.2.2.1 == x5.2.2.1 && (x7.2.2.2.1 == x5.2.2.2.1 && (x7.2.2.2.2.1 == x5.2.2.2.2.1 && true)))) then (
             bif x4.2.2.2.2.2.1 == x5.2.2.2.2.2.1 then (
              .call 17 ([]) ([]) (Sh.one) ([Lf.b]) ([]) (fun x8 =>
               bif x8.1 then (
                .done (AV.v (Value.bool true)) ([]))
               else (
                .done (AV.v (Value.bool false)) ([]))))
             else (
              .done (AV.v (Value.bool false)) ([])))
            else (
             .done (AV.v (Value.bool false)) ([]))))
          else (
           .done (AV.v (Value.bool false)) ([])))
         else (
          .done (AV.v (Value.bool false)) ([]))))))))) := by kernel_rfl
theorem law07_CongSends.c (a0_0 : Int) (a0_1 : Int) (a0_2 : Int) (a0_3 : Int) (a0_4 : Int) (a1 : Int) (w : World) : Quiet Try.prog 5 (AV.gs id [AV.agg [AV.v (Value.int IntKind.i64 a0_0), AV.v (Value.int IntKind.i64 a0_1), AV.v (Value.int IntKind.i64 a0_2), AV.v (Value.int IntKind.i64 a0_3), AV.v (Value.int IntKind.i64 a0_4)], AV.v (Value.int IntKind.i64 a1)]).toArray w ((Sh.one : Sh).av (vs [Lf.b] (law07_CongSends.F a0_0 a0_1 a0_2 a0_3 a0_4 a1)) |>.g id) := by
  refine enter0 mixed noA noC [AV.agg [AV.v (Value.int IntKind.i64 a0_0), AV.v (Value.int IntKind.i64 a0_1), AV.v (Value.int IntKind.i64 a0_2), AV.v (Value.int IntKind.i64 a0_3), AV.v (Value.int IntKind.i64 a0_4)], AV.v (Value.int IntKind.i64 a1)] Try.func5 rfl rfl rfl (fun hF => ?_)
  rw [law07_CongSends.t]
  refine ok_callq (x := law07_theirs.F a0_0 a0_1 a0_2 a0_3 a0_4) hF rfl (fun L w _ => law07_theirs.c a0_0 a0_1 a0_2 a0_3 a0_4 w) (fun L w hF => ?_)
  refine ok_callq (x := cong_Sent.F (law07_theirs.F a0_0 a0_1 a0_2 a0_3 a0_4).1 (law07_theirs.F a0_0 a0_1 a0_2 a0_3 a0_4).2.1 (law07_theirs.F a0_0 a0_1 a0_2 a0_3 a0_4).2.2.1 (law07_theirs.F a0_0 a0_1 a0_2 a0_3 a0_4).2.2.2.1 (law07_theirs.F a0_0 a0_1 a0_2 a0_3 a0_4).2.2.2.2.1 a1) hF rfl (fun L w _ => cong_Sent.c (law07_theirs.F a0_0 a0_1 a0_2 a0_3 a0_4).1 (law07_theirs.F a0_0 a0_1 a0_2 a0_3 a0_4).2.1 (law07_theirs.F a0_0 a0_1 a0_2 a0_3 a0_4).2.2.1 (law07_theirs.F a0_0 a0_1 a0_2 a0_3 a0_4).2.2.2.1 (law07_theirs.F a0_0 a0_1 a0_2 a0_3 a0_4).2.2.2.2.1 a1 w) (fun L w hF => ?_)
  refine ok_callq (x := ref07_Sent.F a0_0 a0_1 a0_2 a0_3 a0_4 a1) hF rfl (fun L w _ => ref07_Sent.c a0_0 a0_1 a0_2 a0_3 a0_4 a1 w) (fun L w hF => ?_)
  refine ok_callq (x := law07_theirs.F a0_0 a0_1 a0_2 a0_3 a0_4) hF rfl (fun L w _ => law07_theirs.c a0_0 a0_1 a0_2 a0_3 a0_4 w) (fun L w hF => ?_)
  refine ok_callq (x := cong_Gone.F (law07_theirs.F a0_0 a0_1 a0_2 a0_3 a0_4).1 (law07_theirs.F a0_0 a0_1 a0_2 a0_3 a0_4).2.1 (law07_theirs.F a0_0 a0_1 a0_2 a0_3 a0_4).2.2.1 (law07_theirs.F a0_0 a0_1 a0_2 a0_3 a0_4).2.2.2.1 (law07_theirs.F a0_0 a0_1 a0_2 a0_3 a0_4).2.2.2.2.1 a1) hF rfl (fun L w _ => cong_Gone.c (law07_theirs.F a0_0 a0_1 a0_2 a0_3 a0_4).1 (law07_theirs.F a0_0 a0_1 a0_2 a0_3 a0_4).2.1 (law07_theirs.F a0_0 a0_1 a0_2 a0_3 a0_4).2.2.1 (law07_theirs.F a0_0 a0_1 a0_2 a0_3 a0_4).2.2.2.1 (law07_theirs.F a0_0 a0_1 a0_2 a0_3 a0_4).2.2.2.2.1 a1 w) (fun L w hF => ?_)
  refine ok_callq (x := ref07_Gone.F a0_0 a0_1 a0_2 a0_3 a0_4 a1) hF rfl (fun L w _ => ref07_Gone.c a0_0 a0_1 a0_2 a0_3 a0_4 a1 w) (fun L w hF => ?_)
  refine ok_callq (x := law07_ours.F (cong_Sent.F (law07_theirs.F a0_0 a0_1 a0_2 a0_3 a0_4).1 (law07_theirs.F a0_0 a0_1 a0_2 a0_3 a0_4).2.1 (law07_theirs.F a0_0 a0_1 a0_2 a0_3 a0_4).2.2.1 (law07_theirs.F a0_0 a0_1 a0_2 a0_3 a0_4).2.2.2.1 (law07_theirs.F a0_0 a0_1 a0_2 a0_3 a0_4).2.2.2.2.1 a1).1 (cong_Sent.F (law07_theirs.F a0_0 a0_1 a0_2 a0_3 a0_4).1 (law07_theirs.F a0_0 a0_1 a0_2 a0_3 a0_4).2.1 (law07_theirs.F a0_0 a0_1 a0_2 a0_3 a0_4).2.2.1 (law07_theirs.F a0_0 a0_1 a0_2 a0_3 a0_4).2.2.2.1 (law07_theirs.F a0_0 a0_1 a0_2 a0_3 a0_4).2.2.2.2.1 a1).2.1 (cong_Sent.F (law07_theirs.F a0_0 a0_1 a0_2 a0_3 a0_4).1 (law07_theirs.F a0_0 a0_1 a0_2 a0_3 a0_4).2.1 (law07_theirs.F a0_0 a0_1 a0_2 a0_3 a0_4).2.2.1 (law07_theirs.F a0_0 a0_1 a0_2 a0_3 a0_4).2.2.2.1 (law07_theirs.F a0_0 a0_1 a0_2 a0_3 a0_4).2.2.2.2.1 a1).2.2.1 (cong_Sent.F (law07_theirs.F a0_0 a0_1 a0_2 a0_3 a0_4).1 (law07_theirs.F a0_0 a0_1 a0_2 a0_3 a0_4).2.1 (law07_theirs.F a0_0 a0_1 a0_2 a0_3 a0_4).2.2.1 (law07_theirs.F a0_0 a0_1 a0_2 a0_3 a0_4).2.2.2.1 (law07_theirs.F a0_0 a0_1 a0_2 a0_3 a0_4).2.2.2.2.1 a1).2.2.2.1 (cong_Sent.F (law07_theirs.F a0_0 a0_1 a0_2 a0_3 a0_4).1 (law07_theirs.F a0_0 a0_1 a0_2 a0_3 a0_4).2.1 (law07_theirs.F a0_0 a0_1 a0_2 a0_3 a0_4).2.2.1 (law07_theirs.F a0_0 a0_1 a0_2 a0_3 a0_4).2.2.2.1 (law07_theirs.F a0_0 a0_1 a0_2 a0_3 a0_4).2.2.2.2.1 a1).2.2.2.2.1) hF rfl (fun L w _ => law07_ours.c (cong_Sent.F (law07_theirs.F a0_0 a0_1 a0_2 a0_3 a0_4).1 (law07_theirs.F a0_0 a0_1 a0_2 a0_3 a0_4).2.1 (law07_theirs.F a0_0 a0_1 a0_2 a0_3 a0_4).2.2.1 (law07_theirs.F a0_0 a0_1 a0_2 a0_3 a0_4).2.2.2.1 (law07_theirs.F a0_0 a0_1 a0_2 a0_3 a0_4).2.2.2.2.1 a1).1 (cong_Sent.F (law07_theirs.F a0_0 a0_1 a0_2 a0_3 a0_4).1 (law07_theirs.F a0_0 a0_1 a0_2 a0_3 a0_4).2.1 (law07_theirs.F a0_0 a0_1 a0_2 a0_3 a0_4).2.2.1 (law07_theirs.F a0_0 a0_1 a0_2 a0_3 a0_4).2.2.2.1 (law07_theirs.F a0_0 a0_1 a0_2 a0_3 a0_4).2.2.2.2.1 a1).2.1 (cong_Sent.F (law07_theirs.F a0_0 a0_1 a0_2 a0_3 a0_4).1 (law07_theirs.F a0_0 a0_1 a0_2 a0_3 a0_4).2.1 (law07_theirs.F a0_0 a0_1 a0_2 a0_3 a0_4).2.2.1 (law07_theirs.F a0_0 a0_1 a0_2 a0_3 a0_4).2.2.2.1 (law07_theirs.F a0_0 a0_1 a0_2 a0_3 a0_4).2.2.2.2.1 a1).2.2.1 (cong_Sent.F (law07_theirs.F a0_0 a0_1 a0_2 a0_3 a0_4).1 (law07_theirs.F a0_0 a0_1 a0_2 a0_3 a0_4).2.1 (law07_theirs.F a0_0 a0_1 a0_2 a0_3 a0_4).2.2.1 (law07_theirs.F a0_0 a0_1 a0_2 a0_3 a0_4).2.2.2.1 (law07_theirs.F a0_0 a0_1 a0_2 a0_3 a0_4).2.2.2.2.1 a1).2.2.2.1 (cong_Sent.F (law07_theirs.F a0_0 a0_1 a0_2 a0_3 a0_4).1 (law07_theirs.F a0_0 a0_1 a0_2 a0_3 a0_4).2.1 (law07_theirs.F a0_0 a0_1 a0_2 a0_3 a0_4).2.2.1 (law07_theirs.F a0_0 a0_1 a0_2 a0_3 a0_4).2.2.2.1 (law07_theirs.F a0_0 a0_1 a0_2 a0_3 a0_4).2.2.2.2.1 a1).2.2.2.2.1 w) (fun L w hF => ?_)
  refine ok_if (fun h0 => ?_) (fun h0 => ?_)
  · refine ok_if (fun h1 => ?_) (fun h1 => ?_)
    · refine ok_callq (x := law07_ours.F (cong_Gone.F (law07_theirs.F a0_0 a0_1 a0_2 a0_3 a0_4).1 (law07_theirs.F a0_0 a0_1 a0_2 a0_3 a0_4).2.1 (law07_theirs.F a0_0 a0_1 a0_2 a0_3 a0_4).2.2.1 (law07_theirs.F a0_0 a0_1 a0_2 a0_3 a0_4).2.2.2.1 (law07_theirs.F a0_0 a0_1 a0_2 a0_3 a0_4).2.2.2.2.1 a1).1 (cong_Gone.F (law07_theirs.F a0_0 a0_1 a0_2 a0_3 a0_4).1 (law07_theirs.F a0_0 a0_1 a0_2 a0_3 a0_4).2.1 (law07_theirs.F a0_0 a0_1 a0_2 a0_3 a0_4).2.2.1 (law07_theirs.F a0_0 a0_1 a0_2 a0_3 a0_4).2.2.2.1 (law07_theirs.F a0_0 a0_1 a0_2 a0_3 a0_4).2.2.2.2.1 a1).2.1 (cong_Gone.F (law07_theirs.F a0_0 a0_1 a0_2 a0_3 a0_4).1 (law07_theirs.F a0_0 a0_1 a0_2 a0_3 a0_4).2.1 (law07_theirs.F a0_0 a0_1 a0_2 a0_3 a0_4).2.2.1 (law07_theirs.F a0_0 a0_1 a0_2 a0_3 a0_4).2.2.2.1 (law07_theirs.F a0_0 a0_1 a0_2 a0_3 a0_4).2.2.2.2.1 a1).2.2.1 (cong_Gone.F (law07_theirs.F a0_0 a0_1 a0_2 a0_3 a0_4).1 (law07_theirs.F a0_0 a0_1 a0_2 a0_3 a0_4).2.1 (law07_theirs.F a0_0 a0_1 a0_2 a0_3 a0_4).2.2.1 (law07_theirs.F a0_0 a0_1 a0_2 a0_3 a0_4).2.2.2.1 (law07_theirs.F a0_0 a0_1 a0_2 a0_3 a0_4).2.2.2.2.1 a1).2.2.2.1 (cong_Gone.F (law07_theirs.F a0_0 a0_1 a0_2 a0_3 a0_4).1 (law07_theirs.F a0_0 a0_1 a0_2 a0_3 a0_4).2.1 (law07_theirs.F a0_0 a0_1 a0_2 a0_3 a0_4).2.2.1 (law07_theirs.F a0_0 a0_1 a0_2 a0_3 a0_4).2.2.2.1 (law07_theirs.F a0_0 a0_1 a0_2 a0_3 a0_4).2.2.2.2.1 a1).2.2.2.2.1) hF rfl (fun L w _ => law07_ours.c (cong_Gone.F (law07_theirs.F a0_0 a0_1 a0_2 a0_3 a0_4).1 (law07_theirs.F a0_0 a0_1 a0_2 a0_3 a0_4).2.1 (law07_theirs.F a0_0 a0_1 a0_2 a0_3 a0_4).2.2.1 (law07_theirs.F a0_0 a0_1 a0_2 a0_3 a0_4).2.2.2.1 (law07_theirs.F a0_0 a0_1 a0_2 a0_3 a0_4).2.2.2.2.1 a1).1 (cong_Gone.F (law07_theirs.F a0_0 a0_1 a0_2 a0_3 a0_4).1 (law07_theirs.F a0_0 a0_1 a0_2 a0_3 a0_4).2.1 (law07_theirs.F a0_0 a0_1 a0_2 a0_3 a0_4).2.2.1 (law07_theirs.F a0_0 a0_1 a0_2 a0_3 a0_4).2.2.2.1 (law07_theirs.F a0_0 a0_1 a0_2 a0_3 a0_4).2.2.2.2.1 a1).2.1 (cong_Gone.F (law07_theirs.F a0_0 a0_1 a0_2 a0_3 a0_4).1 (law07_theirs.F a0_0 a0_1 a0_2 a0_3 a0_4).2.1 (law07_theirs.F a0_0 a0_1 a0_2 a0_3 a0_4).2.2.1 (law07_theirs.F a0_0 a0_1 a0_2 a0_3 a0_4).2.2.2.1 (law07_theirs.F a0_0 a0_1 a0_2 a0_3 a0_4).2.2.2.2.1 a1).2.2.1 (cong_Gone.F (law07_theirs.F a0_0 a0_1 a0_2 a0_3 a0_4).1 (law07_theirs.F a0_0 a0_1 a0_2 a0_3 a0_4).2.1 (law07_theirs.F a0_0 a0_1 a0_2 a0_3 a0_4).2.2.1 (law07_theirs.F a0_0 a0_1 a0_2 a0_3 a0_4).2.2.2.1 (law07_theirs.F a0_0 a0_1 a0_2 a0_3 a0_4).2.2.2.2.1 a1).2.2.2.1 (cong_Gone.F (law07_theirs.F a0_0 a0_1 a0_2 a0_3 a0_4).1 (law07_theirs.F a0_0 a0_1 a0_2 a0_3 a0_4).2.1 (law07_theirs.F a0_0 a0_1 a0_2 a0_3 a0_4).2.2.1 (law07_theirs.F a0_0 a0_1 a0_2 a0_3 a0_4).2.2.2.1 (law07_theirs.F a0_0 a0_1 a0_2 a0_3 a0_4).2.2.2.2.1 a1).2.2.2.2.1 w) (fun L w hF => ?_)
      refine ok_if (fun h2 => ?_) (fun h2 => ?_)
      · refine ok_if (fun h3 => ?_) (fun h3 => ?_)
        · refine ok_callq (x := law07_alive.F ) hF rfl (fun L w _ => law07_alive.c  w) (fun L w hF => ?_)
          refine ok_if (fun h4 => ?_) (fun h4 => ?_)
          · exact ok_done hF rfl (by rw [show law07_CongSends.F a0_0 a0_1 a0_2 a0_3 a0_4 a1 = (true, ()) from by unfold law07_CongSends.F; simp only [h0, h1, h2, h3, h4, cond_true, cond_false]]; rfl)
          · exact ok_done hF rfl (by rw [show law07_CongSends.F a0_0 a0_1 a0_2 a0_3 a0_4 a1 = (false, ()) from by unfold law07_CongSends.F; simp only [h0, h1, h2, h3, h4, cond_true, cond_false]]; rfl)
        · exact ok_done hF rfl (by rw [show law07_CongSends.F a0_0 a0_1 a0_2 a0_3 a0_4 a1 = (false, ()) from by unfold law07_CongSends.F; simp only [h0, h1, h2, h3, cond_true, cond_false]]; rfl)
      · exact ok_done hF rfl (by rw [show law07_CongSends.F a0_0 a0_1 a0_2 a0_3 a0_4 a1 = (false, ()) from by unfold law07_CongSends.F; simp only [h0, h1, h2, cond_true, cond_false]]; rfl)
    · exact ok_done hF rfl (by rw [show law07_CongSends.F a0_0 a0_1 a0_2 a0_3 a0_4 a1 = (false, ()) from by unfold law07_CongSends.F; simp only [h0, h1, cond_true, cond_false]]; rfl)
  · exact ok_done hF rfl (by rw [show law07_CongSends.F a0_0 a0_1 a0_2 a0_3 a0_4 a1 = (false, ()) from by unfold law07_CongSends.F; simp only [h0, cond_true, cond_false]]; rfl)
/-! ### turnbuckle/turnbucklelaw07.CongHears: function 4 -/
def law07_CongHears.F (a0_0 : Int) (a0_1 : Int) (a0_2 : Int) (a0_3 : Int) (a0_4 : Int) (a1 : Int) (a2_0 : Int) (a2_1 : Int) : Tup [Lf.b] :=
  let x0 := law07_theirs.F a0_0 a0_1 a0_2 a0_3 a0_4
  let x1 := cong_Acked.F x0.1 x0.2.1 x0.2.2.1 x0.2.2.2.1 x0.2.2.2.2.1 a1 a2_0
  let x2 := ref07_Acked.F a0_0 a0_1 a0_2 a0_3 a0_4 a1 a2_0
  let x3 := law07_theirs.F a0_0 a0_1 a0_2 a0_3 a0_4
  let x4 := cong_Lost.F x3.1 x3.2.1 x3.2.2.1 x3.2.2.2.1 x3.2.2.2.2.1 a1 a2_0 a2_1
  let x5 := ref07_Lost.F a0_0 a0_1 a0_2 a0_3 a0_4 a1 a2_0 a2_1
  let x6 := law07_ours.F x1.1 x1.2.1 x1.2.2.1 x1.2.2.2.1 x1.2.2.2.2.1
  bif x6.1 == x2.1 && (x6.2.1 == x2.2.1 && (x6.2.2.1 == x2.2.2.1 && (x6.2.2.2.1 == x2.2.2.2.1 && (x6.2.2.2.2.1 == x2.2.2.2.2.1 && true)))) then
    bif x1.2.2.2.2.2.1 == x2.2.2.2.2.2.1 then
      let x7 := law07_ours.F x4.1 x4.2.1 x4.2.2.1 x4.2.2.2.1 x4.2.2.2.2.1
      bif x7.1 == x5.1 && (x7.2.1 == x5.2.1 && (x7.2.2.1 == x5.2.2.1 && (x7.2.2.2.1 == x5.2.2.2.1 && (x7.2.2.2.2.1 == x5.2.2.2.2.1 && true)))) then
        bif x4.2.2.2.2.2.1 == x5.2.2.2.2.2.1 then
          let x8 := law07_alive.F 
          bif x8.1 then
            (true, ())
          else
            (false, ())
        else
          (false, ())
      else
        (false, ())
    else
      (false, ())
  else
    (false, ())
theorem law07_CongHears.t (a0_0 : Int) (a0_1 : Int) (a0_2 : Int) (a0_3 : Int) (a0_4 : Int) (a1 : Int) (a2_0 : Int) (a2_1 : Int) : tree Try.prog noA noC Try.f4 [AV.agg [AV.v (Value.int IntKind.i64 a0_0), AV.v (Value.int IntKind.i64 a0_1), AV.v (Value.int IntKind.i64 a0_2), AV.v (Value.int IntKind.i64 a0_3), AV.v (Value.int IntKind.i64 a0_4)], AV.v (Value.int IntKind.i64 a1), AV.agg [AV.v (Value.int IntKind.i64 a2_0), AV.v (Value.int IntKind.i64 a2_1)]] [] =
  .need (true) (
  .call 10 ([AV.agg [AV.v (Value.int IntKind.i64 a0_0), AV.v (Value.int IntKind.i64 a0_1), AV.v (Value.int IntKind.i64 a0_2), AV.v (Value.int IntKind.i64 a0_3), AV.v (Value.int IntKind.i64 a0_4)]]) ([]) (Sh.agg 5) ([Lf.i IntKind.i64, Lf.i IntKind.i64, Lf.i IntKind.i64, Lf.i IntKind.i64, Lf.i IntKind.i64]) ([]) (fun x0 =>
   .call 18 ([AV.agg [AV.v (Value.int IntKind.i64 x0.1), AV.v (Value.int IntKind.i64 x0.2.1), AV.v (Value.int IntKind.i64 x0.2.2.1), AV.v (Value.int IntKind.i64 x0.2.2.2.1), AV.v (Value.int IntKind.i64 x0.2.2.2.2.1)], AV.v (Value.int IntKind.i64 a1), AV.v (Value.int IntKind.i64 a2_0)]) ([]) (Sh.tup [(true, 5), (false, 1)]) ([Lf.i IntKind.i64, Lf.i IntKind.i64, Lf.i IntKind.i64, Lf.i IntKind.i64, Lf.i IntKind.i64, Lf.i IntKind.i64]) ([]) (fun x1 =>
    .need (true) (
    .call 19 ([AV.agg [AV.v (Value.int IntKind.i64 a0_0), AV.v (Value.int IntKind.i64 a0_1), AV.v (Value.int IntKind.i64 a0_2), AV.v (Value.int IntKind.i64 a0_3), AV.v (Value.int IntKind.i64 a0_4)], AV.v (Value.int IntKind.i64 a1), AV.v (Value.int IntKind.i64 a2_0)]) ([]) (Sh.tup [(true, 5), (false, 1)]) ([Lf.i IntKind.i64, Lf.i IntKind.i64, Lf.i IntKind.i64, Lf.i IntKind.i64, Lf.i IntKind.i64, Lf.i IntKind.i64]) ([]) (fun x2 =>
     .need (true) (
     .need (true) (
     .call 10 ([AV.agg [AV.v (Value.int IntKind.i64 a0_0), AV.v (Value.int IntKind.i64 a0_1), AV.v (Value.int IntKind.i64 a0_2), AV.v (Value.int IntKind.i64 a0_3), AV.v (Value.int IntKind.i64 a0_4)]]) ([]) (Sh.agg 5) ([Lf.i IntKind.i64, Lf.i IntKind.i64, Lf.i IntKind.i64, Lf.i IntKind.i64, Lf.i IntKind.i64]) ([]) (fun x3 =>
      .call 20 ([AV.agg [AV.v (Value.int IntKind.i64 x3.1), AV.v (Value.int IntKind.i64 x3.2.1), AV.v (Value.int IntKind.i64 x3.2.2.1), AV.v (Value.int IntKind.i64 x3.2.2.2.1), AV.v (Value.int IntKind.i64 x3.2.2.2.2.1)], AV.v (Value.int IntKind.i64 a1), AV.v (Value.int IntKind.i64 a2_0), AV.v (Value.int IntKind.i64 a2_1)]) ([]) (Sh.tup [(true, 5), (false, 1)]) ([Lf.i IntKind.i64, Lf.i IntKind.i64, Lf.i IntKind.i64, Lf.i IntKind.i64, Lf.i IntKind.i64, Lf.i IntKind.i64]) ([]) (fun x4 =>
       .need (true) (
       .need (true) (
       .call 21 ([AV.agg [AV.v (Value.int IntKind.i64 a0_0), AV.v (Value.int IntKind.i64 a0_1), AV.v (Value.int IntKind.i64 a0_2), AV.v (Value.int IntKind.i64 a0_3), AV.v (Value.int IntKind.i64 a0_4)], AV.v (Value.int IntKind.i64 a1), AV.v (Value.int IntKind.i64 a2_0), AV.v (Value.int IntKind.i64 a2_1)]) ([]) (Sh.tup [(true, 5), (false, 1)]) ([Lf.i IntKind.i64, Lf.i IntKind.i64, Lf.i IntKind.i64, Lf.i IntKind.i64, Lf.i IntKind.i64, Lf.i IntKind.i64]) ([]) (fun x5 =>
        .call 14 ([AV.agg [AV.v (Value.int IntKind.i64 x1.1), AV.v (Value.int IntKind.i64 x1.2.1), AV.v (Value.int IntKind.i64 x1.2.2.1), AV.v (Value.int IntKind.i64 x1.2.2.2.1), AV.v (Value.int IntKind.i64 x1.2.2.2.2.1)]]) ([]) (Sh.agg 5) ([Lf.i IntKind.i64, Lf.i IntKind.i64, Lf.i IntKind.i64, Lf.i IntKind.i64, Lf.i IntKind.i64]) ([]) (fun x6 =>
         bif x6.1 == x2.1 && (x6.2.1 == x2.2.1 && (x6.2.2.1 == x2.2.2.1 && (x6.2.2.2.1 == x2.2.2.2.1 && (x6.2.2.2.2.1 == x2.2.2.2.2.1 && true)))) then (
          bif x1.2.2.2.2.2.1 == x2.2.2.2.2.2.1 then (
           .call 14 ([AV.agg [AV.v (Value.int IntKind.i64 x4.1), AV.v (Value.int IntKind.i64 x4.2.1), AV.v (Value.int IntKind.i64 x4.2.2.1), AV.v (Value.int IntKind.i64 x4.2.2.2.1), AV.v (Value.int IntKind.i64 x4.2.2.2.2.1)]]) ([]) (Sh.agg 5) ([Lf.i IntKind.i64, Lf.i IntKind.i64, Lf.i IntKind.i64, Lf.i IntKind.i64, Lf.i IntKind.i64]) ([]) (fun x7 =>
            bif x7.1 == x5.1 && (x7.2.1 == x5.2.1 && (x7.2.2.1 == x5.2.2.1 && (x7.2.2.2.1 == x5.2.2.2.1 && (x7.2.2.2.2.1 == x5.2.2.2.2.1 && true)))) then (
             bif x4.2.2.2.2.2.1 == x5.2.2.2.2.2.1 then (
              .call 17 ([]) ([]) (Sh.one) ([Lf.b]) ([]) (fun x8 =>
               bif x8.1 then (
                .done (AV.v (Value.bool true)) ([]))
               else (
                .done (AV.v (Value.bool false)) ([]))))
             else (
              .done (AV.v (Value.bool false)) ([])))
            else (
             .done (AV.v (Value.bool false)) ([]))))
          else (
           .done (AV.v (Value.bool false)) ([])))
         else (
          .done (AV.v (Value.bool false)) ([]))))))))))))))) := by kernel_rfl
theorem law07_CongHears.c (a0_0 : Int) (a0_1 : Int) (a0_2 : Int) (a0_3 : Int) (a0_4 : Int) (a1 : Int) (a2_0 : Int) (a2_1 : Int) (w : World) : Quiet Try.prog 4 (AV.gs id [AV.agg [AV.v (Value.int IntKind.i64 a0_0), AV.v (Value.int IntKind.i64 a0_1), AV.v (Value.int IntKind.i64 a0_2), AV.v (Value.int IntKind.i64 a0_3), AV.v (Value.int IntKind.i64 a0_4)], AV.v (Value.int IntKind.i64 a1), AV.agg [AV.v (Value.int IntKind.i64 a2_0), AV.v (Value.int IntKind.i64 a2_1)]]).toArray w ((Sh.one : Sh).av (vs [Lf.b] (law07_CongHears.F a0_0 a0_1 a0_2 a0_3 a0_4 a1 a2_0 a2_1)) |>.g id) := by
  refine enter0 mixed noA noC [AV.agg [AV.v (Value.int IntKind.i64 a0_0), AV.v (Value.int IntKind.i64 a0_1), AV.v (Value.int IntKind.i64 a0_2), AV.v (Value.int IntKind.i64 a0_3), AV.v (Value.int IntKind.i64 a0_4)], AV.v (Value.int IntKind.i64 a1), AV.agg [AV.v (Value.int IntKind.i64 a2_0), AV.v (Value.int IntKind.i64 a2_1)]] Try.func4 rfl rfl rfl (fun hF => ?_)
  rw [law07_CongHears.t]
  refine ok_need rfl ?_
  refine ok_callq (x := law07_theirs.F a0_0 a0_1 a0_2 a0_3 a0_4) hF rfl (fun L w _ => law07_theirs.c a0_0 a0_1 a0_2 a0_3 a0_4 w) (fun L w hF => ?_)
  refine ok_callq (x := cong_Acked.F (law07_theirs.F a0_0 a0_1 a0_2 a0_3 a0_4).1 (law07_theirs.F a0_0 a0_1 a0_2 a0_3 a0_4).2.1 (law07_theirs.F a0_0 a0_1 a0_2 a0_3 a0_4).2.2.1 (law07_theirs.F a0_0 a0_1 a0_2 a0_3 a0_4).2.2.2.1 (law07_theirs.F a0_0 a0_1 a0_2 a0_3 a0_4).2.2.2.2.1 a1 a2_0) hF rfl (fun L w _ => cong_Acked.c (law07_theirs.F a0_0 a0_1 a0_2 a0_3 a0_4).1 (law07_theirs.F a0_0 a0_1 a0_2 a0_3 a0_4).2.1 (law07_theirs.F a0_0 a0_1 a0_2 a0_3 a0_4).2.2.1 (law07_theirs.F a0_0 a0_1 a0_2 a0_3 a0_4).2.2.2.1 (law07_theirs.F a0_0 a0_1 a0_2 a0_3 a0_4).2.2.2.2.1 a1 a2_0 w) (fun L w hF => ?_)
  refine ok_need rfl ?_
  refine ok_callq (x := ref07_Acked.F a0_0 a0_1 a0_2 a0_3 a0_4 a1 a2_0) hF rfl (fun L w _ => ref07_Acked.c a0_0 a0_1 a0_2 a0_3 a0_4 a1 a2_0 w) (fun L w hF => ?_)
  refine ok_need rfl ?_
  refine ok_need rfl ?_
  refine ok_callq (x := law07_theirs.F a0_0 a0_1 a0_2 a0_3 a0_4) hF rfl (fun L w _ => law07_theirs.c a0_0 a0_1 a0_2 a0_3 a0_4 w) (fun L w hF => ?_)
  refine ok_callq (x := cong_Lost.F (law07_theirs.F a0_0 a0_1 a0_2 a0_3 a0_4).1 (law07_theirs.F a0_0 a0_1 a0_2 a0_3 a0_4).2.1 (law07_theirs.F a0_0 a0_1 a0_2 a0_3 a0_4).2.2.1 (law07_theirs.F a0_0 a0_1 a0_2 a0_3 a0_4).2.2.2.1 (law07_theirs.F a0_0 a0_1 a0_2 a0_3 a0_4).2.2.2.2.1 a1 a2_0 a2_1) hF rfl (fun L w _ => cong_Lost.c (law07_theirs.F a0_0 a0_1 a0_2 a0_3 a0_4).1 (law07_theirs.F a0_0 a0_1 a0_2 a0_3 a0_4).2.1 (law07_theirs.F a0_0 a0_1 a0_2 a0_3 a0_4).2.2.1 (law07_theirs.F a0_0 a0_1 a0_2 a0_3 a0_4).2.2.2.1 (law07_theirs.F a0_0 a0_1 a0_2 a0_3 a0_4).2.2.2.2.1 a1 a2_0 a2_1 w) (fun L w hF => ?_)
  refine ok_need rfl ?_
  refine ok_need rfl ?_
  refine ok_callq (x := ref07_Lost.F a0_0 a0_1 a0_2 a0_3 a0_4 a1 a2_0 a2_1) hF rfl (fun L w _ => ref07_Lost.c a0_0 a0_1 a0_2 a0_3 a0_4 a1 a2_0 a2_1 w) (fun L w hF => ?_)
  refine ok_callq (x := law07_ours.F (cong_Acked.F (law07_theirs.F a0_0 a0_1 a0_2 a0_3 a0_4).1 (law07_theirs.F a0_0 a0_1 a0_2 a0_3 a0_4).2.1 (law07_theirs.F a0_0 a0_1 a0_2 a0_3 a0_4).2.2.1 (law07_theirs.F a0_0 a0_1 a0_2 a0_3 a0_4).2.2.2.1 (law07_theirs.F a0_0 a0_1 a0_2 a0_3 a0_4).2.2.2.2.1 a1 a2_0).1 (cong_Acked.F (law07_theirs.F a0_0 a0_1 a0_2 a0_3 a0_4).1 (law07_theirs.F a0_0 a0_1 a0_2 a0_3 a0_4).2.1 (law07_theirs.F a0_0 a0_1 a0_2 a0_3 a0_4).2.2.1 (law07_theirs.F a0_0 a0_1 a0_2 a0_3 a0_4).2.2.2.1 (law07_theirs.F a0_0 a0_1 a0_2 a0_3 a0_4).2.2.2.2.1 a1 a2_0).2.1 (cong_Acked.F (law07_theirs.F a0_0 a0_1 a0_2 a0_3 a0_4).1 (law07_theirs.F a0_0 a0_1 a0_2 a0_3 a0_4).2.1 (law07_theirs.F a0_0 a0_1 a0_2 a0_3 a0_4).2.2.1 (law07_theirs.F a0_0 a0_1 a0_2 a0_3 a0_4).2.2.2.1 (law07_theirs.F a0_0 a0_1 a0_2 a0_3 a0_4).2.2.2.2.1 a1 a2_0).2.2.1 (cong_Acked.F (law07_theirs.F a0_0 a0_1 a0_2 a0_3 a0_4).1 (law07_theirs.F a0_0 a0_1 a0_2 a0_3 a0_4).2.1 (law07_theirs.F a0_0 a0_1 a0_2 a0_3 a0_4).2.2.1 (law07_theirs.F a0_0 a0_1 a0_2 a0_3 a0_4).2.2.2.1 (law07_theirs.F a0_0 a0_1 a0_2 a0_3 a0_4).2.2.2.2.1 a1 a2_0).2.2.2.1 (cong_Acked.F (law07_theirs.F a0_0 a0_1 a0_2 a0_3 a0_4).1 (law07_theirs.F a0_0 a0_1 a0_2 a0_3 a0_4).2.1 (law07_theirs.F a0_0 a0_1 a0_2 a0_3 a0_4).2.2.1 (law07_theirs.F a0_0 a0_1 a0_2 a0_3 a0_4).2.2.2.1 (law07_theirs.F a0_0 a0_1 a0_2 a0_3 a0_4).2.2.2.2.1 a1 a2_0).2.2.2.2.1) hF rfl (fun L w _ => law07_ours.c (cong_Acked.F (law07_theirs.F a0_0 a0_1 a0_2 a0_3 a0_4).1 (law07_theirs.F a0_0 a0_1 a0_2 a0_3 a0_4).2.1 (law07_theirs.F a0_0 a0_1 a0_2 a0_3 a0_4).2.2.1 (law07_theirs.F a0_0 a0_1 a0_2 a0_3 a0_4).2.2.2.1 (law07_theirs.F a0_0 a0_1 a0_2 a0_3 a0_4).2.2.2.2.1 a1 a2_0).1 (cong_Acked.F (law07_theirs.F a0_0 a0_1 a0_2 a0_3 a0_4).1 (law07_theirs.F a0_0 a0_1 a0_2 a0_3 a0_4).2.1 (law07_theirs.F a0_0 a0_1 a0_2 a0_3 a0_4).2.2.1 (law07_theirs.F a0_0 a0_1 a0_2 a0_3 a0_4).2.2.2.1 (law07_theirs.F a0_0 a0_1 a0_2 a0_3 a0_4).2.2.2.2.1 a1 a2_0).2.1 (cong_Acked.F (law07_theirs.F a0_0 a0_1 a0_2 a0_3 a0_4).1 (law07_theirs.F a0_0 a0_1 a0_2 a0_3 a0_4).2.1 (law07_theirs.F a0_0 a0_1 a0_2 a0_3 a0_4).2.2.1 (law07_theirs.F a0_0 a0_1 a0_2 a0_3 a0_4).2.2.2.1 (law07_theirs.F a0_0 a0_1 a0_2 a0_3 a0_4).2.2.2.2.1 a1 a2_0).2.2.1 (cong_Acked.F (law07_theirs.F a0_0 a0_1 a0_2 a0_3 a0_4).1 (law07_theirs.F a0_0 a0_1 a0_2 a0_3 a0_4).2.1 (law07_theirs.F a0_0 a0_1 a0_2 a0_3 a0_4).2.2.1 (law07_theirs.F a0_0 a0_1 a0_2 a0_3 a0_4).2.2.2.1 (law07_theirs.F a0_0 a0_1 a0_2 a0_3 a0_4).2.2.2.2.1 a1 a2_0).2.2.2.1 (cong_Acked.F (law07_theirs.F a0_0 a0_1 a0_2 a0_3 a0_4).1 (law07_theirs.F a0_0 a0_1 a0_2 a0_3 a0_4).2.1 (law07_theirs.F a0_0 a0_1 a0_2 a0_3 a0_4).2.2.1 (law07_theirs.F a0_0 a0_1 a0_2 a0_3 a0_4).2.2.2.1 (law07_theirs.F a0_0 a0_1 a0_2 a0_3 a0_4).2.2.2.2.1 a1 a2_0).2.2.2.2.1 w) (fun L w hF => ?_)
  refine ok_if (fun h0 => ?_) (fun h0 => ?_)
  · refine ok_if (fun h1 => ?_) (fun h1 => ?_)
    · refine ok_callq (x := law07_ours.F (cong_Lost.F (law07_theirs.F a0_0 a0_1 a0_2 a0_3 a0_4).1 (law07_theirs.F a0_0 a0_1 a0_2 a0_3 a0_4).2.1 (law07_theirs.F a0_0 a0_1 a0_2 a0_3 a0_4).2.2.1 (law07_theirs.F a0_0 a0_1 a0_2 a0_3 a0_4).2.2.2.1 (law07_theirs.F a0_0 a0_1 a0_2 a0_3 a0_4).2.2.2.2.1 a1 a2_0 a2_1).1 (cong_Lost.F (law07_theirs.F a0_0 a0_1 a0_2 a0_3 a0_4).1 (law07_theirs.F a0_0 a0_1 a0_2 a0_3 a0_4).2.1 (law07_theirs.F a0_0 a0_1 a0_2 a0_3 a0_4).2.2.1 (law07_theirs.F a0_0 a0_1 a0_2 a0_3 a0_4).2.2.2.1 (law07_theirs.F a0_0 a0_1 a0_2 a0_3 a0_4).2.2.2.2.1 a1 a2_0 a2_1).2.1 (cong_Lost.F (law07_theirs.F a0_0 a0_1 a0_2 a0_3 a0_4).1 (law07_theirs.F a0_0 a0_1 a0_2 a0_3 a0_4).2.1 (law07_theirs.F a0_0 a0_1 a0_2 a0_3 a0_4).2.2.1 (law07_theirs.F a0_0 a0_1 a0_2 a0_3 a0_4).2.2.2.1 (law07_theirs.F a0_0 a0_1 a0_2 a0_3 a0_4).2.2.2.2.1 a1 a2_0 a2_1).2.2.1 (cong_Lost.F (law07_theirs.F a0_0 a0_1 a0_2 a0_3 a0_4).1 (law07_theirs.F a0_0 a0_1 a0_2 a0_3 a0_4).2.1 (law07_theirs.F a0_0 a0_1 a0_2 a0_3 a0_4).2.2.1 (law07_theirs.F a0_0 a0_1 a0_2 a0_3 a0_4).2.2.2.1 (law07_theirs.F a0_0 a0_1 a0_2 a0_3 a0_4).2.2.2.2.1 a1 a2_0 a2_1).2.2.2.1 (cong_Lost.F (law07_theirs.F a0_0 a0_1 a0_2 a0_3 a0_4).1 (law07_theirs.F a0_0 a0_1 a0_2 a0_3 a0_4).2.1 (law07_theirs.F a0_0 a0_1 a0_2 a0_3 a0_4).2.2.1 (law07_theirs.F a0_0 a0_1 a0_2 a0_3 a0_4).2.2.2.1 (law07_theirs.F a0_0 a0_1 a0_2 a0_3 a0_4).2.2.2.2.1 a1 a2_0 a2_1).2.2.2.2.1) hF rfl (fun L w _ => law07_ours.c (cong_Lost.F (law07_theirs.F a0_0 a0_1 a0_2 a0_3 a0_4).1 (law07_theirs.F a0_0 a0_1 a0_2 a0_3 a0_4).2.1 (law07_theirs.F a0_0 a0_1 a0_2 a0_3 a0_4).2.2.1 (law07_theirs.F a0_0 a0_1 a0_2 a0_3 a0_4).2.2.2.1 (law07_theirs.F a0_0 a0_1 a0_2 a0_3 a0_4).2.2.2.2.1 a1 a2_0 a2_1).1 (cong_Lost.F (law07_theirs.F a0_0 a0_1 a0_2 a0_3 a0_4).1 (law07_theirs.F a0_0 a0_1 a0_2 a0_3 a0_4).2.1 (law07_theirs.F a0_0 a0_1 a0_2 a0_3 a0_4).2.2.1 (law07_theirs.F a0_0 a0_1 a0_2 a0_3 a0_4).2.2.2.1 (law07_theirs.F a0_0 a0_1 a0_2 a0_3 a0_4).2.2.2.2.1 a1 a2_0 a2_1).2.1 (cong_Lost.F (law07_theirs.F a0_0 a0_1 a0_2 a0_3 a0_4).1 (law07_theirs.F a0_0 a0_1 a0_2 a0_3 a0_4).2.1 (law07_theirs.F a0_0 a0_1 a0_2 a0_3 a0_4).2.2.1 (law07_theirs.F a0_0 a0_1 a0_2 a0_3 a0_4).2.2.2.1 (law07_theirs.F a0_0 a0_1 a0_2 a0_3 a0_4).2.2.2.2.1 a1 a2_0 a2_1).2.2.1 (cong_Lost.F (law07_theirs.F a0_0 a0_1 a0_2 a0_3 a0_4).1 (law07_theirs.F a0_0 a0_1 a0_2 a0_3 a0_4).2.1 (law07_theirs.F a0_0 a0_1 a0_2 a0_3 a0_4).2.2.1 (law07_theirs.F a0_0 a0_1 a0_2 a0_3 a0_4).2.2.2.1 (law07_theirs.F a0_0 a0_1 a0_2 a0_3 a0_4).2.2.2.2.1 a1 a2_0 a2_1).2.2.2.1 (cong_Lost.F (law07_theirs.F a0_0 a0_1 a0_2 a0_3 a0_4).1 (law07_theirs.F a0_0 a0_1 a0_2 a0_3 a0_4).2.1 (law07_theirs.F a0_0 a0_1 a0_2 a0_3 a0_4).2.2.1 (law07_theirs.F a0_0 a0_1 a0_2 a0_3 a0_4).2.2.2.1 (law07_theirs.F a0_0 a0_1 a0_2 a0_3 a0_4).2.2.2.2.1 a1 a2_0 a2_1).2.2.2.2.1 w) (fun L w hF => ?_)
      refine ok_if (fun h2 => ?_) (fun h2 => ?_)
      · refine ok_if (fun h3 => ?_) (fun h3 => ?_)
        · refine ok_callq (x := law07_alive.F ) hF rfl (fun L w _ => law07_alive.c  w) (fun L w hF => ?_)
          refine ok_if (fun h4 => ?_) (fun h4 => ?_)
          · exact ok_done hF rfl (by rw [show law07_CongHears.F a0_0 a0_1 a0_2 a0_3 a0_4 a1 a2_0 a2_1 = (true, ()) from by unfold law07_CongHears.F; simp only [h0, h1, h2, h3, h4, cond_true, cond_false]]; rfl)
          · exact ok_done hF rfl (by rw [show law07_CongHears.F a0_0 a0_1 a0_2 a0_3 a0_4 a1 a2_0 a2_1 = (false, ()) from by unfold law07_CongHears.F; simp only [h0, h1, h2, h3, h4, cond_true, cond_false]]; rfl)
        · exact ok_done hF rfl (by rw [show law07_CongHears.F a0_0 a0_1 a0_2 a0_3 a0_4 a1 a2_0 a2_1 = (false, ()) from by unfold law07_CongHears.F; simp only [h0, h1, h2, h3, cond_true, cond_false]]; rfl)
      · exact ok_done hF rfl (by rw [show law07_CongHears.F a0_0 a0_1 a0_2 a0_3 a0_4 a1 a2_0 a2_1 = (false, ()) from by unfold law07_CongHears.F; simp only [h0, h1, h2, cond_true, cond_false]]; rfl)
    · exact ok_done hF rfl (by rw [show law07_CongHears.F a0_0 a0_1 a0_2 a0_3 a0_4 a1 a2_0 a2_1 = (false, ()) from by unfold law07_CongHears.F; simp only [h0, h1, cond_true, cond_false]]; rfl)
  · exact ok_done hF rfl (by rw [show law07_CongHears.F a0_0 a0_1 a0_2 a0_3 a0_4 a1 a2_0 a2_1 = (false, ()) from by unfold law07_CongHears.F; simp only [h0, cond_true, cond_false]]; rfl)
/-! ### turnbuckle/turnbucklelaw07.does: function 26 -/
def law07_does.F (a0_0 : Int) (a0_1 : Int) (a0_2 : Int) (a0_3 : Int) (a0_4 : Int) (a1_0 : Int) (a1_1 : Int) (a1_2 : Int) (a1_3 : Int) : Tup [Lf.i IntKind.i64, Lf.i IntKind.i64, Lf.i IntKind.i64, Lf.i IntKind.i64, Lf.i IntKind.i64, Lf.i IntKind.i64] :=
  bif Int.tmod a1_0 4 == 0 then
    let x0 := cong_Sent.F a0_0 a0_1 a0_2 a0_3 a0_4 a1_1
    bif x0.2.2.2.2.2.1 != 0 then
      (a0_0, a0_1, a0_2, a0_3, a0_4, x0.2.2.2.2.2.1, ())
    else
      (x0.1, x0.2.1, x0.2.2.1, x0.2.2.2.1, x0.2.2.2.2.1, x0.2.2.2.2.2.1, ())
  else
    bif Int.tmod a1_0 4 == 1 then
      let x0 := cong_Acked.F a0_0 a0_1 a0_2 a0_3 a0_4 a1_1 a1_2
      bif x0.2.2.2.2.2.1 != 0 then
        (a0_0, a0_1, a0_2, a0_3, a0_4, x0.2.2.2.2.2.1, ())
      else
        (x0.1, x0.2.1, x0.2.2.1, x0.2.2.2.1, x0.2.2.2.2.1, x0.2.2.2.2.2.1, ())
    else
      bif Int.tmod a1_0 4 == 2 then
        let x0 := cong_Lost.F a0_0 a0_1 a0_2 a0_3 a0_4 a1_1 a1_2 a1_3
        bif x0.2.2.2.2.2.1 != 0 then
          (a0_0, a0_1, a0_2, a0_3, a0_4, x0.2.2.2.2.2.1, ())
        else
          (x0.1, x0.2.1, x0.2.2.1, x0.2.2.2.1, x0.2.2.2.2.1, x0.2.2.2.2.2.1, ())
      else
        let x0 := cong_Gone.F a0_0 a0_1 a0_2 a0_3 a0_4 a1_1
        bif x0.2.2.2.2.2.1 != 0 then
          (a0_0, a0_1, a0_2, a0_3, a0_4, x0.2.2.2.2.2.1, ())
        else
          (x0.1, x0.2.1, x0.2.2.1, x0.2.2.2.1, x0.2.2.2.2.1, x0.2.2.2.2.2.1, ())
theorem law07_does.t (a0_0 : Int) (a0_1 : Int) (a0_2 : Int) (a0_3 : Int) (a0_4 : Int) (a1_0 : Int) (a1_1 : Int) (a1_2 : Int) (a1_3 : Int) : tree Try.prog noA noC Try.f26 [AV.agg [AV.v (Value.int IntKind.i64 a0_0), AV.v (Value.int IntKind.i64 a0_1), AV.v (Value.int IntKind.i64 a0_2), AV.v (Value.int IntKind.i64 a0_3), AV.v (Value.int IntKind.i64 a0_4)], AV.agg [AV.v (Value.int IntKind.u8 a1_0), AV.v (Value.int IntKind.i64 a1_1), AV.v (Value.int IntKind.i64 a1_2), AV.v (Value.int IntKind.i64 a1_3)]] [] =
  .need (true) (
  bif Int.tmod a1_0 4 == 0 then (
   .call 22 ([AV.agg [AV.v (Value.int IntKind.i64 a0_0), AV.v (Value.int IntKind.i64 a0_1), AV.v (Value.int IntKind.i64 a0_2), AV.v (Value.int IntKind.i64 a0_3), AV.v (Value.int IntKind.i64 a0_4)], AV.v (Value.int IntKind.i64 a1_1)]) ([]) (Sh.tup [(true, 5), (false, 1)]) ([Lf.i IntKind.i64, Lf.i IntKind.i64, Lf.i IntKind.i64, Lf.i IntKind.i64, Lf.i IntKind.i64, Lf.i IntKind.i64]) ([]) (fun x0 =>
    bif x0.2.2.2.2.2.1 != 0 then (
     .done (AV.tup [AV.agg [AV.v (Value.int IntKind.i64 a0_0), AV.v (Value.int IntKind.i64 a0_1), AV.v (Value.int IntKind.i64 a0_2), AV.v (Value.int IntKind.i64 a0_3), AV.v (Value.int IntKind.i64 a0_4)], AV.v (Value.int IntKind.i64 x0.2.2.2.2.2.1)]) ([]))
    else (
     .done (AV.tup [AV.agg [AV.v (Value.int IntKind.i64 x0.1), AV.v (Value.int IntKind.i64 x0.2.1), AV.v (Value.int IntKind.i64 x0.2.2.1), AV.v (Value.int IntKind.i64 x0.2.2.2.1), AV.v (Value.int IntKind.i64 x0.2.2.2.2.1)], AV.v (Value.int IntKind.i64 x0.2.2.2.2.2.1)]) ([]))))
  else (
   bif Int.tmod a1_0 4 == 1 then (
    .call 18 ([AV.agg [AV.v (Value.int IntKind.i64 a0_0), AV.v (Value.int IntKind.i64 a0_1), AV.v (Value.int IntKind.i64 a0_2), AV.v (Value.int IntKind.i64 a0_3), AV.v (Value.int IntKind.i64 a0_4)], AV.v (Value.int IntKind.i64 a1_1), AV.v (Value.int IntKind.i64 a1_2)]) ([]) (Sh.tup [(true, 5), (false, 1)]) ([Lf.i IntKind.i64, Lf.i IntKind.i64, Lf.i IntKind.i64, Lf.i IntKind.i64, Lf.i IntKind.i64, Lf.i IntKind.i64]) ([]) (fun x0 =>
     bif x0.2.2.2.2.2.1 != 0 then (
      .done (AV.tup [AV.agg [AV.v (Value.int IntKind.i64 a0_0), AV.v (Value.int IntKind.i64 a0_1), AV.v (Value.int IntKind.i64 a0_2), AV.v (Value.int IntKind.i64 a0_3), AV.v (Value.int IntKind.i64 a0_4)], AV.v (Value.int IntKind.i64 x0.2.2.2.2.2.1)]) ([]))
     else (
      .done (AV.tup [AV.agg [AV.v (Value.int IntKind.i64 x0.1), AV.v (Value.int IntKind.i64 x0.2.1), AV.v (Value.int IntKind.i64 x0.2.2.1), AV.v (Value.int IntKind.i64 x0.2.2.2.1), AV.v (Value.int IntKind.i64 x0.2.2.2.2.1)], AV.v (Value.int IntKind.i64 x0.2.2.2.2.2.1)]) ([]))))
   else (
    bif Int.tmod a1_0 4 == 2 then (
     .call 20 ([AV.agg [AV.v (Value.int IntKind.i64 a0_0), AV.v (Value.int IntKind.i64 a0_1), AV.v (Value.int IntKind.i64 a0_2), AV.v (Value.int IntKind.i64 a0_3), AV.v (Value.int IntKind.i64 a0_4)], AV.v (Value.int IntKind.i64 a1_1), AV.v (Value.int IntKind.i64 a1_2), AV.v (Value.int IntKind.i64 a1_3)]) ([]) (Sh.tup [(true, 5), (false, 1)]) ([Lf.i IntKind.i64, Lf.i IntKind.i64, Lf.i IntKind.i64, Lf.i IntKind.i64, Lf.i IntKind.i64, Lf.i IntKind.i64]) ([]) (fun x0 =>
      bif x0.2.2.2.2.2.1 != 0 then (
       .done (AV.tup [AV.agg [AV.v (Value.int IntKind.i64 a0_0), AV.v (Value.int IntKind.i64 a0_1), AV.v (Value.int IntKind.i64 a0_2), AV.v (Value.int IntKind.i64 a0_3), AV.v (Value.int IntKind.i64 a0_4)], AV.v (Value.int IntKind.i64 x0.2.2.2.2.2.1)]) ([]))
      else (
       .done (AV.tup [AV.agg [AV.v (Value.int IntKind.i64 x0.1), AV.v (Value.int IntKind.i64 x0.2.1), AV.v (Value.int IntKind.i64 x0.2.2.1), AV.v (Value.int IntKind.i64 x0.2.2.2.1), AV.v (Value.int IntKind.i64 x0.2.2.2.2.1)], AV.v (Value.int IntKind.i64 x0.2.2.2.2.2.1)]) ([]))))
    else (
     .call 24 ([AV.agg [AV.v (Value.int IntKind.i64 a0_0), AV.v (Value.int IntKind.i64 a0_1), AV.v (Value.int IntKind.i64 a0_2), AV.v (Value.int IntKind.i64 a0_3), AV.v (Value.int IntKind.i64 a0_4)], AV.v (Value.int IntKind.i64 a1_1)]) ([]) (Sh.tup [(true, 5), (false, 1)]) ([Lf.i IntKind.i64, Lf.i IntKind.i64, Lf.i IntKind.i64, Lf.i IntKind.i64, Lf.i IntKind.i64, Lf.i IntKind.i64]) ([]) (fun x0 =>
      bif x0.2.2.2.2.2.1 != 0 then (
       .done (AV.tup [AV.agg [AV.v (Value.int IntKind.i64 a0_0), AV.v (Value.int IntKind.i64 a0_1), AV.v (Value.int IntKind.i64 a0_2), AV.v (Value.int IntKind.i64 a0_3), AV.v (Value.int IntKind.i64 a0_4)], AV.v (Value.int IntKind.i64 x0.2.2.2.2.2.1)]) ([]))
      else (
       .done (AV.tup [AV.agg [AV.v (Value.int IntKind.i64 x0.1), AV.v (Value.int IntKind.i64 x0.2.1), AV.v (Value.int IntKind.i64 x0.2.2.1), AV.v (Value.int IntKind.i64 x0.2.2.2.1), AV.v (Value.int IntKind.i64 x0.2.2.2.2.1)], AV.v (Value.int IntKind.i64 x0.2.2.2.2.2.1)]) ([]))))))) := by kernel_rfl
theorem law07_does.c (a0_0 : Int) (a0_1 : Int) (a0_2 : Int) (a0_3 : Int) (a0_4 : Int) (a1_0 : Int) (a1_1 : Int) (a1_2 : Int) (a1_3 : Int) (w : World) : Quiet Try.prog 26 (AV.gs id [AV.agg [AV.v (Value.int IntKind.i64 a0_0), AV.v (Value.int IntKind.i64 a0_1), AV.v (Value.int IntKind.i64 a0_2), AV.v (Value.int IntKind.i64 a0_3), AV.v (Value.int IntKind.i64 a0_4)], AV.agg [AV.v (Value.int IntKind.u8 a1_0), AV.v (Value.int IntKind.i64 a1_1), AV.v (Value.int IntKind.i64 a1_2), AV.v (Value.int IntKind.i64 a1_3)]]).toArray w ((Sh.tup [(true, 5), (false, 1)] : Sh).av (vs [Lf.i IntKind.i64, Lf.i IntKind.i64, Lf.i IntKind.i64, Lf.i IntKind.i64, Lf.i IntKind.i64, Lf.i IntKind.i64] (law07_does.F a0_0 a0_1 a0_2 a0_3 a0_4 a1_0 a1_1 a1_2 a1_3)) |>.g id) := by
  refine enter0 mixed noA noC [AV.agg [AV.v (Value.int IntKind.i64 a0_0), AV.v (Value.int IntKind.i64 a0_1), AV.v (Value.int IntKind.i64 a0_2), AV.v (Value.int IntKind.i64 a0_3), AV.v (Value.int IntKind.i64 a0_4)], AV.agg [AV.v (Value.int IntKind.u8 a1_0), AV.v (Value.int IntKind.i64 a1_1), AV.v (Value.int IntKind.i64 a1_2), AV.v (Value.int IntKind.i64 a1_3)]] Try.func26 rfl rfl rfl (fun hF => ?_)
  rw [law07_does.t]
  refine ok_need rfl ?_
  refine ok_if (fun h0 => ?_) (fun h0 => ?_)
  · refine ok_callq (x := cong_Sent.F a0_0 a0_1 a0_2 a0_3 a0_4 a1_1) hF rfl (fun L w _ => cong_Sent.c a0_0 a0_1 a0_2 a0_3 a0_4 a1_1 w) (fun L w hF => ?_)
    refine ok_if (fun h1 => ?_) (fun h1 => ?_)
    · exact ok_done hF rfl (by rw [show law07_does.F a0_0 a0_1 a0_2 a0_3 a0_4 a1_0 a1_1 a1_2 a1_3 = (a0_0, a0_1, a0_2, a0_3, a0_4, (cong_Sent.F a0_0 a0_1 a0_2 a0_3 a0_4 a1_1).2.2.2.2.2.1, ()) from by unfold law07_does.F; simp only [h0, h1, cond_true, cond_false]]; rfl)
    · exact ok_done hF rfl (by rw [show law07_does.F a0_0 a0_1 a0_2 a0_3 a0_4 a1_0 a1_1 a1_2 a1_3 = ((cong_Sent.F a0_0 a0_1 a0_2 a0_3 a0_4 a1_1).1, (cong_Sent.F a0_0 a0_1 a0_2 a0_3 a0_4 a1_1).2.1, (cong_Sent.F a0_0 a0_1 a0_2 a0_3 a0_4 a1_1).2.2.1, (cong_Sent.F a0_0 a0_1 a0_2 a0_3 a0_4 a1_1).2.2.2.1, (cong_Sent.F a0_0 a0_1 a0_2 a0_3 a0_4 a1_1).2.2.2.2.1, (cong_Sent.F a0_0 a0_1 a0_2 a0_3 a0_4 a1_1).2.2.2.2.2.1, ()) from by unfold law07_does.F; simp only [h0, h1, cond_true, cond_false]]; rfl)
  · refine ok_if (fun h1 => ?_) (fun h1 => ?_)
    · refine ok_callq (x := cong_Acked.F a0_0 a0_1 a0_2 a0_3 a0_4 a1_1 a1_2) hF rfl (fun L w _ => cong_Acked.c a0_0 a0_1 a0_2 a0_3 a0_4 a1_1 a1_2 w) (fun L w hF => ?_)
      refine ok_if (fun h2 => ?_) (fun h2 => ?_)
      · exact ok_done hF rfl (by rw [show law07_does.F a0_0 a0_1 a0_2 a0_3 a0_4 a1_0 a1_1 a1_2 a1_3 = (a0_0, a0_1, a0_2, a0_3, a0_4, (cong_Acked.F a0_0 a0_1 a0_2 a0_3 a0_4 a1_1 a1_2).2.2.2.2.2.1, ()) from by unfold law07_does.F; simp only [h0, h1, h2, cond_true, cond_false]]; rfl)
      · exact ok_done hF rfl (by rw [show law07_does.F a0_0 a0_1 a0_2 a0_3 a0_4 a1_0 a1_1 a1_2 a1_3 = ((cong_Acked.F a0_0 a0_1 a0_2 a0_3 a0_4 a1_1 a1_2).1, (cong_Acked.F a0_0 a0_1 a0_2 a0_3 a0_4 a1_1 a1_2).2.1, (cong_Acked.F a0_0 a0_1 a0_2 a0_3 a0_4 a1_1 a1_2).2.2.1, (cong_Acked.F a0_0 a0_1 a0_2 a0_3 a0_4 a1_1 a1_2).2.2.2.1, (cong_Acked.F a0_0 a0_1 a0_2 a0_3 a0_4 a1_1 a1_2).2.2.2.2.1, (cong_Acked.F a0_0 a0_1 a0_2 a0_3 a0_4 a1_1 a1_2).2.2.2.2.2.1, ()) from by unfold law07_does.F; simp only [h0, h1, h2, cond_true, cond_false]]; rfl)
    · refine ok_if (fun h2 => ?_) (fun h2 => ?_)
      · refine ok_callq (x := cong_Lost.F a0_0 a0_1 a0_2 a0_3 a0_4 a1_1 a1_2 a1_3) hF rfl (fun L w _ => cong_Lost.c a0_0 a0_1 a0_2 a0_3 a0_4 a1_1 a1_2 a1_3 w) (fun L w hF => ?_)
        refine ok_if (fun h3 => ?_) (fun h3 => ?_)
        · exact ok_done hF rfl (by rw [show law07_does.F a0_0 a0_1 a0_2 a0_3 a0_4 a1_0 a1_1 a1_2 a1_3 = (a0_0, a0_1, a0_2, a0_3, a0_4, (cong_Lost.F a0_0 a0_1 a0_2 a0_3 a0_4 a1_1 a1_2 a1_3).2.2.2.2.2.1, ()) from by unfold law07_does.F; simp only [h0, h1, h2, h3, cond_true, cond_false]]; rfl)
        · exact ok_done hF rfl (by rw [show law07_does.F a0_0 a0_1 a0_2 a0_3 a0_4 a1_0 a1_1 a1_2 a1_3 = ((cong_Lost.F a0_0 a0_1 a0_2 a0_3 a0_4 a1_1 a1_2 a1_3).1, (cong_Lost.F a0_0 a0_1 a0_2 a0_3 a0_4 a1_1 a1_2 a1_3).2.1, (cong_Lost.F a0_0 a0_1 a0_2 a0_3 a0_4 a1_1 a1_2 a1_3).2.2.1, (cong_Lost.F a0_0 a0_1 a0_2 a0_3 a0_4 a1_1 a1_2 a1_3).2.2.2.1, (cong_Lost.F a0_0 a0_1 a0_2 a0_3 a0_4 a1_1 a1_2 a1_3).2.2.2.2.1, (cong_Lost.F a0_0 a0_1 a0_2 a0_3 a0_4 a1_1 a1_2 a1_3).2.2.2.2.2.1, ()) from by unfold law07_does.F; simp only [h0, h1, h2, h3, cond_true, cond_false]]; rfl)
      · refine ok_callq (x := cong_Gone.F a0_0 a0_1 a0_2 a0_3 a0_4 a1_1) hF rfl (fun L w _ => cong_Gone.c a0_0 a0_1 a0_2 a0_3 a0_4 a1_1 w) (fun L w hF => ?_)
        refine ok_if (fun h3 => ?_) (fun h3 => ?_)
        · exact ok_done hF rfl (by rw [show law07_does.F a0_0 a0_1 a0_2 a0_3 a0_4 a1_0 a1_1 a1_2 a1_3 = (a0_0, a0_1, a0_2, a0_3, a0_4, (cong_Gone.F a0_0 a0_1 a0_2 a0_3 a0_4 a1_1).2.2.2.2.2.1, ()) from by unfold law07_does.F; simp only [h0, h1, h2, h3, cond_true, cond_false]]; rfl)
        · exact ok_done hF rfl (by rw [show law07_does.F a0_0 a0_1 a0_2 a0_3 a0_4 a1_0 a1_1 a1_2 a1_3 = ((cong_Gone.F a0_0 a0_1 a0_2 a0_3 a0_4 a1_1).1, (cong_Gone.F a0_0 a0_1 a0_2 a0_3 a0_4 a1_1).2.1, (cong_Gone.F a0_0 a0_1 a0_2 a0_3 a0_4 a1_1).2.2.1, (cong_Gone.F a0_0 a0_1 a0_2 a0_3 a0_4 a1_1).2.2.2.1, (cong_Gone.F a0_0 a0_1 a0_2 a0_3 a0_4 a1_1).2.2.2.2.1, (cong_Gone.F a0_0 a0_1 a0_2 a0_3 a0_4 a1_1).2.2.2.2.2.1, ()) from by unfold law07_does.F; simp only [h0, h1, h2, h3, cond_true, cond_false]]; rfl)
end Go.Proofs.Ytggemgbkkhpenaa.X
