/- Functions that reckon and call: their trees, the Lean functions that answer as they do, and that they do. -/
import Derived.Test.YtggemgbkkhpenaaRx15
import Derived.Test.YtggemgbkkhpenaaProg
import Derived.Test.YtggemgbkkhpenaaRxSeat
namespace Go.Proofs.Ytggemgbkkhpenaa.X
open Go Go.RowKit Go.Proofs.YtggemgbkkhpenaaW.Rx
set_option linter.unusedVariables false
set_option linter.unusedSimpArgs false
/-! ### turnbuckle/cong.within: function 27 -/
def cong_within.F (a0 : Int) (a1 : Int) (a2 : Int) : Tup [Lf.b] :=
  bif decide (a1 ≤ a0) then
    bif decide (a0 ≤ a2) then
      (true, ())
    else
      (false, ())
  else
    (false, ())
theorem cong_within.t (a0 : Int) (a1 : Int) (a2 : Int) : tree Try.prog noA noC Try.f27 [AV.v (Value.int IntKind.i64 a0), AV.v (Value.int IntKind.i64 a1), AV.v (Value.int IntKind.i64 a2)] [] =
  bif decide (a1 ≤ a0) then (
   bif decide (a0 ≤ a2) then (
    .done (AV.v (Value.bool true)) ([]))
   else (
    .done (AV.v (Value.bool false)) ([])))
  else (
   .done (AV.v (Value.bool false)) ([])) := by kernel_rfl
theorem cong_within.c (a0 : Int) (a1 : Int) (a2 : Int) (w : World) : Quiet Try.prog 27 (AV.gs id [AV.v (Value.int IntKind.i64 a0), AV.v (Value.int IntKind.i64 a1), AV.v (Value.int IntKind.i64 a2)]).toArray w ((Sh.one : Sh).av (vs [Lf.b] (cong_within.F a0 a1 a2)) |>.g id) := by
  refine enter0 mixed noA noC [AV.v (Value.int IntKind.i64 a0), AV.v (Value.int IntKind.i64 a1), AV.v (Value.int IntKind.i64 a2)] Try.func27 rfl rfl rfl (fun hF => ?_)
  rw [cong_within.t]
  refine ok_if (fun h0 => ?_) (fun h0 => ?_)
  · refine ok_if (fun h1 => ?_) (fun h1 => ?_)
    · exact ok_done hF rfl (by rw [show cong_within.F a0 a1 a2 = (true, ()) from by unfold cong_within.F; simp only [h0, h1, cond_true, cond_false]]; rfl)
    · exact ok_done hF rfl (by rw [show cong_within.F a0 a1 a2 = (false, ()) from by unfold cong_within.F; simp only [h0, h1, cond_true, cond_false]]; rfl)
  · exact ok_done hF rfl (by rw [show cong_within.F a0 a1 a2 = (false, ()) from by unfold cong_within.F; simp only [h0, cond_true, cond_false]]; rfl)
/-! ### turnbuckle/cong.Right: function 9 -/
def cong_Right.F (a0_0 : Int) (a0_1 : Int) (a0_2 : Int) (a0_3 : Int) (a0_4 : Int) : Tup [Lf.b] :=
  let x0 := cong_within.F a0_0 2400 1073741824
  bif x0.1 then
    bif a0_1 == 0 then
      let x1 := cong_within.F a0_2 0 1099511627776
      bif x1.1 then
        let x2 := cong_within.F a0_3 (-1) 1099511627776
        bif x2.1 then
          let x3 := cong_within.F a0_4 0 (IntKind.wrap IntKind.i64 (a0_0 - 1))
          bif x3.1 then
            (true, ())
          else
            (false, ())
        else
          (false, ())
      else
        (false, ())
    else
      let x1 := cong_within.F a0_1 2400 1073741824
      bif x1.1 then
        let x2 := cong_within.F a0_2 0 1099511627776
        bif x2.1 then
          let x3 := cong_within.F a0_3 (-1) 1099511627776
          bif x3.1 then
            let x4 := cong_within.F a0_4 0 (IntKind.wrap IntKind.i64 (a0_0 - 1))
            bif x4.1 then
              (true, ())
            else
              (false, ())
          else
            (false, ())
        else
          (false, ())
      else
        (false, ())
  else
    (false, ())
theorem cong_Right.t (a0_0 : Int) (a0_1 : Int) (a0_2 : Int) (a0_3 : Int) (a0_4 : Int) : tree Try.prog noA noC Try.f9 [AV.agg [AV.v (Value.int IntKind.i64 a0_0), AV.v (Value.int IntKind.i64 a0_1), AV.v (Value.int IntKind.i64 a0_2), AV.v (Value.int IntKind.i64 a0_3), AV.v (Value.int IntKind.i64 a0_4)]] [] =
  .call 27 ([AV.v (Value.int IntKind.i64 a0_0), AV.v (Value.int IntKind.i64 2400), AV.v (Value.int IntKind.i64 1073741824)]) ([]) (Sh.one) ([Lf.b]) ([]) (fun x0 =>
   bif x0.1 then (
    bif a0_1 == 0 then (
     .call 27 ([AV.v (Value.int IntKind.i64 a0_2), AV.v (Value.int IntKind.i64 0), AV.v (Value.int IntKind.i64 1099511627776)]) ([]) (Sh.one) ([Lf.b]) ([]) (fun x1 =>
      bif x1.1 then (
       .call 27 ([AV.v (Value.int IntKind.i64 a0_3), AV.v (Value.int IntKind.i64 (-1)), AV.v (Value.int IntKind.i64 1099511627776)]) ([]) (Sh.one) ([Lf.b]) ([]) (fun x2 =>
        bif x2.1 then (
         .call 27 ([AV.v (Value.int IntKind.i64 a0_4), AV.v (Value.int IntKind.i64 0), AV.v (Value.int IntKind.i64 (IntKind.wrap IntKind.i64 (a0_0 - 1)))]) ([]) (Sh.one) ([Lf.b]) ([]) (fun x3 =>
          bif x3.1 then (
           .done (AV.v (Value.bool true)) ([]))
          else (
           .done (AV.v (Value.bool false)) ([]))))
        else (
         .done (AV.v (Value.bool false)) ([]))))
      else (
       .done (AV.v (Value.bool false)) ([]))))
    else (
     .call 27 ([AV.v (Value.int IntKind.i64 a0_1), AV.v (Value.int IntKind.i64 2400), AV.v (Value.int IntKind.i64 1073741824)]) ([]) (Sh.one) ([Lf.b]) ([]) (fun x1 =>
      bif x1.1 then (
       .call 27 ([AV.v (Value.int IntKind.i64 a0_2), AV.v (Value.int IntKind.i64 0), AV.v (Value.int IntKind.i64 1099511627776)]) ([]) (Sh.one) ([Lf.b]) ([]) (fun x2 =>
        bif x2.1 then (
         .call 27 ([AV.v (Value.int IntKind.i64 a0_3), AV.v (Value.int IntKind.i64 (-1)), AV.v (Value.int IntKind.i64 1099511627776)]) ([]) (Sh.one) ([Lf.b]) ([]) (fun x3 =>
          bif x3.1 then (
           .call 27 ([AV.v (Value.int IntKind.i64 a0_4), AV.v (Value.int IntKind.i64 0), AV.v (Value.int IntKind.i64 (IntKind.wrap IntKind.i64 (a0_0 - 1)))]) ([]) (Sh.one) ([Lf.b]) ([]) (fun x4 =>
            bif x4.1 then (
             .done (AV.v (Value.bool true)) ([]))
            else (
             .done (AV.v (Value.bool false)) ([]))))
          else (
           .done (AV.v (Value.bool false)) ([]))))
        else (
         .done (AV.v (Value.bool false)) ([]))))
      else (
       .done (AV.v (Value.bool false)) ([])))))
   else (
    .done (AV.v (Value.bool false)) ([]))) := by kernel_rfl
theorem cong_Right.c (a0_0 : Int) (a0_1 : Int) (a0_2 : Int) (a0_3 : Int) (a0_4 : Int) (w : World) : Quiet Try.prog 9 (AV.gs id [AV.agg [AV.v (Value.int IntKind.i64 a0_0), AV.v (Value.int IntKind.i64 a0_1), AV.v (Value.int IntKind.i64 a0_2), AV.v (Value.int IntKind.i64 a0_3), AV.v (Value.int IntKind.i64 a0_4)]]).toArray w ((Sh.one : Sh).av (vs [Lf.b] (cong_Right.F a0_0 a0_1 a0_2 a0_3 a0_4)) |>.g id) := by
  refine enter0 mixed noA noC [AV.agg [AV.v (Value.int IntKind.i64 a0_0), AV.v (Value.int IntKind.i64 a0_1), AV.v (Value.int IntKind.i64 a0_2), AV.v (Value.int IntKind.i64 a0_3), AV.v (Value.int IntKind.i64 a0_4)]] Try.func9 rfl rfl rfl (fun hF => ?_)
  rw [cong_Right.t]
  refine ok_callq (x := cong_within.F a0_0 2400 1073741824) hF rfl (fun L w _ => cong_within.c a0_0 2400 1073741824 w) (fun L w hF => ?_)
  refine ok_if (fun h0 => ?_) (fun h0 => ?_)
  · refine ok_if (fun h1 => ?_) (fun h1 => ?_)
    · refine ok_callq (x := cong_within.F a0_2 0 1099511627776) hF rfl (fun L w _ => cong_within.c a0_2 0 1099511627776 w) (fun L w hF => ?_)
      refine ok_if (fun h2 => ?_) (fun h2 => ?_)
      · refine ok_callq (x := cong_within.F a0_3 (-1) 1099511627776) hF rfl (fun L w _ => cong_within.c a0_3 (-1) 1099511627776 w) (fun L w hF => ?_)
        refine ok_if (fun h3 => ?_) (fun h3 => ?_)
        · refine ok_callq (x := cong_within.F a0_4 0 (IntKind.wrap IntKind.i64 (a0_0 - 1))) hF rfl (fun L w _ => cong_within.c a0_4 0 (IntKind.wrap IntKind.i64 (a0_0 - 1)) w) (fun L w hF => ?_)
          refine ok_if (fun h4 => ?_) (fun h4 => ?_)
          · exact ok_done hF rfl (by rw [show cong_Right.F a0_0 a0_1 a0_2 a0_3 a0_4 = (true, ()) from by unfold cong_Right.F; simp only [h0, h1, h2, h3, h4, cond_true, cond_false]]; rfl)
          · exact ok_done hF rfl (by rw [show cong_Right.F a0_0 a0_1 a0_2 a0_3 a0_4 = (false, ()) from by unfold cong_Right.F; simp only [h0, h1, h2, h3, h4, cond_true, cond_false]]; rfl)
        · exact ok_done hF rfl (by rw [show cong_Right.F a0_0 a0_1 a0_2 a0_3 a0_4 = (false, ()) from by unfold cong_Right.F; simp only [h0, h1, h2, h3, cond_true, cond_false]]; rfl)
      · exact ok_done hF rfl (by rw [show cong_Right.F a0_0 a0_1 a0_2 a0_3 a0_4 = (false, ()) from by unfold cong_Right.F; simp only [h0, h1, h2, cond_true, cond_false]]; rfl)
    · refine ok_callq (x := cong_within.F a0_1 2400 1073741824) hF rfl (fun L w _ => cong_within.c a0_1 2400 1073741824 w) (fun L w hF => ?_)
      refine ok_if (fun h2 => ?_) (fun h2 => ?_)
      · refine ok_callq (x := cong_within.F a0_2 0 1099511627776) hF rfl (fun L w _ => cong_within.c a0_2 0 1099511627776 w) (fun L w hF => ?_)
        refine ok_if (fun h3 => ?_) (fun h3 => ?_)
        · refine ok_callq (x := cong_within.F a0_3 (-1) 1099511627776) hF rfl (fun L w _ => cong_within.c a0_3 (-1) 1099511627776 w) (fun L w hF => ?_)
          refine ok_if (fun h4 => ?_) (fun h4 => ?_)
          · refine ok_callq (x := cong_within.F a0_4 0 (IntKind.wrap IntKind.i64 (a0_0 - 1))) hF rfl (fun L w _ => cong_within.c a0_4 0 (IntKind.wrap IntKind.i64 (a0_0 - 1)) w) (fun L w hF => ?_)
            refine ok_if (fun h5 => ?_) (fun h5 => ?_)
            · exact ok_done hF rfl (by rw [show cong_Right.F a0_0 a0_1 a0_2 a0_3 a0_4 = (true, ()) from by unfold cong_Right.F; simp only [h0, h1, h2, h3, h4, h5, cond_true, cond_false]]; rfl)
            · exact ok_done hF rfl (by rw [show cong_Right.F a0_0 a0_1 a0_2 a0_3 a0_4 = (false, ()) from by unfold cong_Right.F; simp only [h0, h1, h2, h3, h4, h5, cond_true, cond_false]]; rfl)
          · exact ok_done hF rfl (by rw [show cong_Right.F a0_0 a0_1 a0_2 a0_3 a0_4 = (false, ()) from by unfold cong_Right.F; simp only [h0, h1, h2, h3, h4, cond_true, cond_false]]; rfl)
        · exact ok_done hF rfl (by rw [show cong_Right.F a0_0 a0_1 a0_2 a0_3 a0_4 = (false, ()) from by unfold cong_Right.F; simp only [h0, h1, h2, h3, cond_true, cond_false]]; rfl)
      · exact ok_done hF rfl (by rw [show cong_Right.F a0_0 a0_1 a0_2 a0_3 a0_4 = (false, ()) from by unfold cong_Right.F; simp only [h0, h1, h2, cond_true, cond_false]]; rfl)
  · exact ok_done hF rfl (by rw [show cong_Right.F a0_0 a0_1 a0_2 a0_3 a0_4 = (false, ()) from by unfold cong_Right.F; simp only [h0, cond_true, cond_false]]; rfl)
/-! ### turnbuckle/cong.Room: function 12 -/
def cong_Room.F (a0_0 : Int) (a0_1 : Int) (a0_2 : Int) (a0_3 : Int) (a0_4 : Int) : Tup [Lf.i IntKind.i64] :=
  let x0 := cong_Right.F a0_0 a0_1 a0_2 a0_3 a0_4
  bif x0.1 then
    ((if IntKind.wrap IntKind.i64 (a0_0 - a0_2) < 0 then 0 else IntKind.wrap IntKind.i64 (a0_0 - a0_2)), ())
  else
    (0, ())
theorem cong_Room.t (a0_0 : Int) (a0_1 : Int) (a0_2 : Int) (a0_3 : Int) (a0_4 : Int) : tree Try.prog noA noC Try.f12 [AV.agg [AV.v (Value.int IntKind.i64 a0_0), AV.v (Value.int IntKind.i64 a0_1), AV.v (Value.int IntKind.i64 a0_2), AV.v (Value.int IntKind.i64 a0_3), AV.v (Value.int IntKind.i64 a0_4)]] [] =
  .call 9 ([AV.agg [AV.v (Value.int IntKind.i64 a0_0), AV.v (Value.int IntKind.i64 a0_1), AV.v (Value.int IntKind.i64 a0_2), AV.v (Value.int IntKind.i64 a0_3), AV.v (Value.int IntKind.i64 a0_4)]]) ([]) (Sh.one) ([Lf.b]) ([]) (fun x0 =>
   bif x0.1 then (
    .done (AV.v (Value.int IntKind.i64 (if IntKind.wrap IntKind.i64 (a0_0 - a0_2) < 0 then 0 else IntKind.wrap IntKind.i64 (a0_0 - a0_2)))) ([]))
   else (
    .done (AV.v (Value.int IntKind.i64 0)) ([]))) := by kernel_rfl
theorem cong_Room.c (a0_0 : Int) (a0_1 : Int) (a0_2 : Int) (a0_3 : Int) (a0_4 : Int) (w : World) : Quiet Try.prog 12 (AV.gs id [AV.agg [AV.v (Value.int IntKind.i64 a0_0), AV.v (Value.int IntKind.i64 a0_1), AV.v (Value.int IntKind.i64 a0_2), AV.v (Value.int IntKind.i64 a0_3), AV.v (Value.int IntKind.i64 a0_4)]]).toArray w ((Sh.one : Sh).av (vs [Lf.i IntKind.i64] (cong_Room.F a0_0 a0_1 a0_2 a0_3 a0_4)) |>.g id) := by
  refine enter0 mixed noA noC [AV.agg [AV.v (Value.int IntKind.i64 a0_0), AV.v (Value.int IntKind.i64 a0_1), AV.v (Value.int IntKind.i64 a0_2), AV.v (Value.int IntKind.i64 a0_3), AV.v (Value.int IntKind.i64 a0_4)]] Try.func12 rfl rfl rfl (fun hF => ?_)
  rw [cong_Room.t]
  refine ok_callq (x := cong_Right.F a0_0 a0_1 a0_2 a0_3 a0_4) hF rfl (fun L w _ => cong_Right.c a0_0 a0_1 a0_2 a0_3 a0_4 w) (fun L w hF => ?_)
  refine ok_if (fun h0 => ?_) (fun h0 => ?_)
  · exact ok_done hF rfl (by rw [show cong_Room.F a0_0 a0_1 a0_2 a0_3 a0_4 = ((if IntKind.wrap IntKind.i64 (a0_0 - a0_2) < 0 then 0 else IntKind.wrap IntKind.i64 (a0_0 - a0_2)), ()) from by unfold cong_Room.F; simp only [h0, cond_true, cond_false]]; rfl)
  · exact ok_done hF rfl (by rw [show cong_Room.F a0_0 a0_1 a0_2 a0_3 a0_4 = (0, ()) from by unfold cong_Room.F; simp only [h0, cond_true, cond_false]]; rfl)
/-! ### turnbuckle/cong.New: function 15 -/
def cong_New.F  : Tup [Lf.i IntKind.i64, Lf.i IntKind.i64, Lf.i IntKind.i64, Lf.i IntKind.i64, Lf.i IntKind.i64] :=
  (12000, 0, 0, (-1), 0, ())
theorem cong_New.t  : tree Try.prog noA noC Try.f15 [] [] =
  .done (AV.agg [AV.v (Value.int IntKind.i64 12000), AV.v (Value.int IntKind.i64 0), AV.v (Value.int IntKind.i64 0), AV.v (Value.int IntKind.i64 (-1)), AV.v (Value.int IntKind.i64 0)]) ([]) := by kernel_rfl
theorem cong_New.c  (w : World) : Quiet Try.prog 15 (AV.gs id []).toArray w ((Sh.agg 5 : Sh).av (vs [Lf.i IntKind.i64, Lf.i IntKind.i64, Lf.i IntKind.i64, Lf.i IntKind.i64, Lf.i IntKind.i64] (cong_New.F )) |>.g id) := by
  refine enter0 mixed noA noC [] Try.func15 rfl rfl rfl (fun hF => ?_)
  rw [cong_New.t]
  exact ok_done hF rfl rfl
/-! ### turnbuckle/turnbucklelaw07.theirs: function 10 -/
def law07_theirs.F (a0_0 : Int) (a0_1 : Int) (a0_2 : Int) (a0_3 : Int) (a0_4 : Int) : Tup [Lf.i IntKind.i64, Lf.i IntKind.i64, Lf.i IntKind.i64, Lf.i IntKind.i64, Lf.i IntKind.i64] :=
  (a0_0, a0_1, a0_2, a0_3, a0_4, ())
theorem law07_theirs.t (a0_0 : Int) (a0_1 : Int) (a0_2 : Int) (a0_3 : Int) (a0_4 : Int) : tree Try.prog noA noC Try.f10 [AV.agg [AV.v (Value.int IntKind.i64 a0_0), AV.v (Value.int IntKind.i64 a0_1), AV.v (Value.int IntKind.i64 a0_2), AV.v (Value.int IntKind.i64 a0_3), AV.v (Value.int IntKind.i64 a0_4)]] [] =
  .done (AV.agg [AV.v (Value.int IntKind.i64 a0_0), AV.v (Value.int IntKind.i64 a0_1), AV.v (Value.int IntKind.i64 a0_2), AV.v (Value.int IntKind.i64 a0_3), AV.v (Value.int IntKind.i64 a0_4)]) ([]) := by kernel_rfl
theorem law07_theirs.c (a0_0 : Int) (a0_1 : Int) (a0_2 : Int) (a0_3 : Int) (a0_4 : Int) (w : World) : Quiet Try.prog 10 (AV.gs id [AV.agg [AV.v (Value.int IntKind.i64 a0_0), AV.v (Value.int IntKind.i64 a0_1), AV.v (Value.int IntKind.i64 a0_2), AV.v (Value.int IntKind.i64 a0_3), AV.v (Value.int IntKind.i64 a0_4)]]).toArray w ((Sh.agg 5 : Sh).av (vs [Lf.i IntKind.i64, Lf.i IntKind.i64, Lf.i IntKind.i64, Lf.i IntKind.i64, Lf.i IntKind.i64] (law07_theirs.F a0_0 a0_1 a0_2 a0_3 a0_4)) |>.g id) := by
  refine enter0 mixed noA noC [AV.agg [AV.v (Value.int IntKind.i64 a0_0), AV.v (Value.int IntKind.i64 a0_1), AV.v (Value.int IntKind.i64 a0_2), AV.v (Value.int IntKind.i64 a0_3), AV.v (Value.int IntKind.i64 a0_4)]] Try.func10 rfl rfl rfl (fun hF => ?_)
  rw [law07_theirs.t]
  exact ok_done hF rfl rfl
/-! ### turnbuckle/turnbucklelaw07.ours: function 14 -/
def law07_ours.F (a0_0 : Int) (a0_1 : Int) (a0_2 : Int) (a0_3 : Int) (a0_4 : Int) : Tup [Lf.i IntKind.i64, Lf.i IntKind.i64, Lf.i IntKind.i64, Lf.i IntKind.i64, Lf.i IntKind.i64] :=
  (a0_0, a0_1, a0_2, a0_3, a0_4, ())
theorem law07_ours.t (a0_0 : Int) (a0_1 : Int) (a0_2 : Int) (a0_3 : Int) (a0_4 : Int) : tree Try.prog noA noC Try.f14 [AV.agg [AV.v (Value.int IntKind.i64 a0_0), AV.v (Value.int IntKind.i64 a0_1), AV.v (Value.int IntKind.i64 a0_2), AV.v (Value.int IntKind.i64 a0_3), AV.v (Value.int IntKind.i64 a0_4)]] [] =
  .done (AV.agg [AV.v (Value.int IntKind.i64 a0_0), AV.v (Value.int IntKind.i64 a0_1), AV.v (Value.int IntKind.i64 a0_2), AV.v (Value.int IntKind.i64 a0_3), AV.v (Value.int IntKind.i64 a0_4)]) ([]) := by kernel_rfl
theorem law07_ours.c (a0_0 : Int) (a0_1 : Int) (a0_2 : Int) (a0_3 : Int) (a0_4 : Int) (w : World) : Quiet Try.prog 14 (AV.gs id [AV.agg [AV.v (Value.int IntKind.i64 a0_0), AV.v (Value.int IntKind.i64 a0_1), AV.v (Value.int IntKind.i64 a0_2), AV.v (Value.int IntKind.i64 a0_3), AV.v (Value.int IntKind.i64 a0_4)]]).toArray w ((Sh.agg 5 : Sh).av (vs [Lf.i IntKind.i64, Lf.i IntKind.i64, Lf.i IntKind.i64, Lf.i IntKind.i64, Lf.i IntKind.i64] (law07_ours.F a0_0 a0_1 a0_2 a0_3 a0_4)) |>.g id) := by
  refine enter0 mixed noA noC [AV.agg [AV.v (Value.int IntKind.i64 a0_0), AV.v (Value.int IntKind.i64 a0_1), AV.v (Value.int IntKind.i64 a0_2), AV.v (Value.int IntKind.i64 a0_3), AV.v (Value.int IntKind.i64 a0_4)]] Try.func14 rfl rfl rfl (fun hF => ?_)
  rw [law07_ours.t]
  exact ok_done hF rfl rfl
/-! ### turnbuckle/turnbuckleref07.Right: function 11 -/
def ref07_Right.F (a0_0 : Int) (a0_1 : Int) (a0_2 : Int) (a0_3 : Int) (a0_4 : Int) : Tup [Lf.b] :=
  bif decide (a0_0 < 2400) then
    (false, ())
  else
    bif decide (1073741824 < a0_0) then
      (false, ())
    else
      bif a0_1 != 0 then
        bif decide (a0_1 < 2400) then
          (false, ())
        else
          bif decide (1073741824 < a0_1) then
            (false, ())
          else
            bif decide (0 ≤ a0_2) then
              bif decide (a0_2 ≤ 1099511627776) then
                bif decide (-1 ≤ a0_3) then
                  bif decide (a0_3 ≤ 1099511627776) then
                    bif decide (0 ≤ a0_4) then
                      bif decide (a0_4 < a0_0) then
                        (true, ())
                      else
                        (false, ())
                    else
                      (false, ())
                  else
                    (false, ())
                else
                  (false, ())
              else
                (false, ())
            else
              (false, ())
      else
        bif decide (0 ≤ a0_2) then
          bif decide (a0_2 ≤ 1099511627776) then
            bif decide (-1 ≤ a0_3) then
              bif decide (a0_3 ≤ 1099511627776) then
                bif decide (0 ≤ a0_4) then
                  bif decide (a0_4 < a0_0) then
                    (true, ())
                  else
                    (false, ())
                else
                  (false, ())
              else
                (false, ())
            else
              (false, ())
          else
            (false, ())
        else
          (false, ())
theorem ref07_Right.t (a0_0 : Int) (a0_1 : Int) (a0_2 : Int) (a0_3 : Int) (a0_4 : Int) : tree Try.prog noA noC Try.f11 [AV.agg [AV.v (Value.int IntKind.i64 a0_0), AV.v (Value.int IntKind.i64 a0_1), AV.v (Value.int IntKind.i64 a0_2), AV.v (Value.int IntKind.i64 a0_3), AV.v (Value.int IntKind.i64 a0_4)]] [] =
  bif decide (a0_0 < 2400) then (
   .done (AV.v (Value.bool false)) ([]))
  else (
   bif decide (1073741824 < a0_0) then (
    .done (AV.v (Value.bool false)) ([]))
   else (
    bif a0_1 != 0 then (
     bif decide (a0_1 < 2400) then (
      .done (AV.v (Value.bool false)) ([]))
     else (
      bif decide (1073741824 < a0_1) then (
       .done (AV.v (Value.bool false)) ([]))
      else (
       bif decide (0 ≤ a0_2) then (
        bif decide (a0_2 ≤ 1099511627776) then (
         bif decide (-1 ≤ a0_3) then (
          bif decide (a0_3 ≤ 1099511627776) then (
           bif decide (0 ≤ a0_4) then (
            bif decide (a0_4 < a0_0) then (
             .done (AV.v (Value.bool true)) ([]))
            else (
             .done (AV.v (Value.bool false)) ([])))
           else (
            .done (AV.v (Value.bool false)) ([])))
          else (
           .done (AV.v (Value.bool false)) ([])))
         else (
          .done (AV.v (Value.bool false)) ([])))
        else (
         .done (AV.v (Value.bool false)) ([])))
       else (
        .done (AV.v (Value.bool false)) ([])))))
    else (
     bif decide (0 ≤ a0_2) then (
      bif decide (a0_2 ≤ 1099511627776) then (
       bif decide (-1 ≤ a0_3) then (
        bif decide (a0_3 ≤ 1099511627776) then (
         bif decide (0 ≤ a0_4) then (
          bif decide (a0_4 < a0_0) then (
           .done (AV.v (Value.bool true)) ([]))
          else (
           .done (AV.v (Value.bool false)) ([])))
         else (
          .done (AV.v (Value.bool false)) ([])))
        else (
         .done (AV.v (Value.bool false)) ([])))
       else (
        .done (AV.v (Value.bool false)) ([])))
      else (
       .done (AV.v (Value.bool false)) ([])))
     else (
      .done (AV.v (Value.bool false)) ([]))))) := by kernel_rfl
theorem ref07_Right.c (a0_0 : Int) (a0_1 : Int) (a0_2 : Int) (a0_3 : Int) (a0_4 : Int) (w : World) : Quiet Try.prog 11 (AV.gs id [AV.agg [AV.v (Value.int IntKind.i64 a0_0), AV.v (Value.int IntKind.i64 a0_1), AV.v (Value.int IntKind.i64 a0_2), AV.v (Value.int IntKind.i64 a0_3), AV.v (Value.int IntKind.i64 a0_4)]]).toArray w ((Sh.one : Sh).av (vs [Lf.b] (ref07_Right.F a0_0 a0_1 a0_2 a0_3 a0_4)) |>.g id) := by
  refine enter0 mixed noA noC [AV.agg [AV.v (Value.int IntKind.i64 a0_0), AV.v (Value.int IntKind.i64 a0_1), AV.v (Value.int IntKind.i64 a0_2), AV.v (Value.int IntKind.i64 a0_3), AV.v (Value.int IntKind.i64 a0_4)]] Try.func11 rfl rfl rfl (fun hF => ?_)
  rw [ref07_Right.t]
  refine ok_if (fun h0 => ?_) (fun h0 => ?_)
  · exact ok_done hF rfl (by rw [show ref07_Right.F a0_0 a0_1 a0_2 a0_3 a0_4 = (false, ()) from by unfold ref07_Right.F; simp only [h0, cond_true, cond_false]]; rfl)
  · refine ok_if (fun h1 => ?_) (fun h1 => ?_)
    · exact ok_done hF rfl (by rw [show ref07_Right.F a0_0 a0_1 a0_2 a0_3 a0_4 = (false, ()) from by unfold ref07_Right.F; simp only [h0, h1, cond_true, cond_false]]; rfl)
    · refine ok_if (fun h2 => ?_) (fun h2 => ?_)
      · refine ok_if (fun h3 => ?_) (fun h3 => ?_)
        · exact ok_done hF rfl (by rw [show ref07_Right.F a0_0 a0_1 a0_2 a0_3 a0_4 = (false, ()) from by unfold ref07_Right.F; simp only [h0, h1, h2, h3, cond_true, cond_false]]; rfl)
        · refine ok_if (fun h4 => ?_) (fun h4 => ?_)
          · exact ok_done hF rfl (by rw [show ref07_Right.F a0_0 a0_1 a0_2 a0_3 a0_4 = (false, ()) from by unfold ref07_Right.F; simp only [h0, h1, h2, h3, h4, cond_true, cond_false]]; rfl)
          · refine ok_if (fun h5 => ?_) (fun h5 => ?_)
            · refine ok_if (fun h6 => ?_) (fun h6 => ?_)
              · refine ok_if (fun h7 => ?_) (fun h7 => ?_)
                · refine ok_if (fun h8 => ?_) (fun h8 => ?_)
                  · refine ok_if (fun h9 => ?_) (fun h9 => ?_)
                    · refine ok_if (fun h10 => ?_) (fun h10 => ?_)
                      · exact ok_done hF rfl (by rw [show ref07_Right.F a0_0 a0_1 a0_2 a0_3 a0_4 = (true, ()) from by unfold ref07_Right.F; simp only [h0, h1, h2, h3, h4, h5, h6, h7, h8, h9, h10, cond_true, cond_false]]; rfl)
                      · exact ok_done hF rfl (by rw [show ref07_Right.F a0_0 a0_1 a0_2 a0_3 a0_4 = (false, ()) from by unfold ref07_Right.F; simp only [h0, h1, h2, h3, h4, h5, h6, h7, h8, h9, h10, cond_true, cond_false]]; rfl)
                    · exact ok_done hF rfl (by rw [show ref07_Right.F a0_0 a0_1 a0_2 a0_3 a0_4 = (false, ()) from by unfold ref07_Right.F; simp only [h0, h1, h2, h3, h4, h5, h6, h7, h8, h9, cond_true, cond_false]]; rfl)
                  · exact ok_done hF rfl (by rw [show ref07_Right.F a0_0 a0_1 a0_2 a0_3 a0_4 = (false, ()) from by unfold ref07_Right.F; simp only [h0, h1, h2, h3, h4, h5, h6, h7, h8, cond_true, cond_false]]; rfl)
                · exact ok_done hF rfl (by rw [show ref07_Right.F a0_0 a0_1 a0_2 a0_3 a0_4 = (false, ()) from by unfold ref07_Right.F; simp only [h0, h1, h2, h3, h4, h5, h6, h7, cond_true, cond_false]]; rfl)
              · exact ok_done hF rfl (by rw [show ref07_Right.F a0_0 a0_1 a0_2 a0_3 a0_4 = (false, ()) from by unfold ref07_Right.F; simp only [h0, h1, h2, h3, h4, h5, h6, cond_true, cond_false]]; rfl)
            · exact ok_done hF rfl (by rw [show ref07_Right.F a0_0 a0_1 a0_2 a0_3 a0_4 = (false, ()) from by unfold ref07_Right.F; simp only [h0, h1, h2, h3, h4, h5, cond_true, cond_false]]; rfl)
      · refine ok_if (fun h3 => ?_) (fun h3 => ?_)
        · refine ok_if (fun h4 => ?_) (fun h4 => ?_)
          · refine ok_if (fun h5 => ?_) (fun h5 => ?_)
            · refine ok_if (fun h6 => ?_) (fun h6 => ?_)
              · refine ok_if (fun h7 => ?_) (fun h7 => ?_)
                · refine ok_if (fun h8 => ?_) (fun h8 => ?_)
                  · exact ok_done hF rfl (by rw [show ref07_Right.F a0_0 a0_1 a0_2 a0_3 a0_4 = (true, ()) from by unfold ref07_Right.F; simp only [h0, h1, h2, h3, h4, h5, h6, h7, h8, cond_true, cond_false]]; rfl)
                  · exact ok_done hF rfl (by rw [show ref07_Right.F a0_0 a0_1 a0_2 a0_3 a0_4 = (false, ()) from by unfold ref07_Right.F; simp only [h0, h1, h2, h3, h4, h5, h6, h7, h8, cond_true, cond_false]]; rfl)
                · exact ok_done hF rfl (by rw [show ref07_Right.F a0_0 a0_1 a0_2 a0_3 a0_4 = (false, ()) from by unfold ref07_Right.F; simp only [h0, h1, h2, h3, h4, h5, h6, h7, cond_true, cond_false]]; rfl)
              · exact ok_done hF rfl (by rw [show ref07_Right.F a0_0 a0_1 a0_2 a0_3 a0_4 = (false, ()) from by unfold ref07_Right.F; simp only [h0, h1, h2, h3, h4, h5, h6, cond_true, cond_false]]; rfl)
            · exact ok_done hF rfl (by rw [show ref07_Right.F a0_0 a0_1 a0_2 a0_3 a0_4 = (false, ()) from by unfold ref07_Right.F; simp only [h0, h1, h2, h3, h4, h5, cond_true, cond_false]]; rfl)
          · exact ok_done hF rfl (by rw [show ref07_Right.F a0_0 a0_1 a0_2 a0_3 a0_4 = (false, ()) from by unfold ref07_Right.F; simp only [h0, h1, h2, h3, h4, cond_true, cond_false]]; rfl)
        · exact ok_done hF rfl (by rw [show ref07_Right.F a0_0 a0_1 a0_2 a0_3 a0_4 = (false, ()) from by unfold ref07_Right.F; simp only [h0, h1, h2, h3, cond_true, cond_false]]; rfl)
/-! ### turnbuckle/turnbuckleref07.bytes: function 34 -/
def ref07_bytes.F (a0 : Int) : Tup [Lf.b] :=
  bif decide (1 ≤ a0) then
    bif decide (a0 ≤ 1200) then
      (true, ())
    else
      (false, ())
  else
    (false, ())
theorem ref07_bytes.t (a0 : Int) : tree Try.prog noA noC Try.f34 [AV.v (Value.int IntKind.i64 a0)] [] =
  bif decide (1 ≤ a0) then (
   bif decide (a0 ≤ 1200) then (
    .done (AV.v (Value.bool true)) ([]))
   else (
    .done (AV.v (Value.bool false)) ([])))
  else (
   .done (AV.v (Value.bool false)) ([])) := by kernel_rfl
theorem ref07_bytes.c (a0 : Int) (w : World) : Quiet Try.prog 34 (AV.gs id [AV.v (Value.int IntKind.i64 a0)]).toArray w ((Sh.one : Sh).av (vs [Lf.b] (ref07_bytes.F a0)) |>.g id) := by
  refine enter0 mixed noA noC [AV.v (Value.int IntKind.i64 a0)] Try.func34 rfl rfl rfl (fun hF => ?_)
  rw [ref07_bytes.t]
  refine ok_if (fun h0 => ?_) (fun h0 => ?_)
  · refine ok_if (fun h1 => ?_) (fun h1 => ?_)
    · exact ok_done hF rfl (by rw [show ref07_bytes.F a0 = (true, ()) from by unfold ref07_bytes.F; simp only [h0, h1, cond_true, cond_false]]; rfl)
    · exact ok_done hF rfl (by rw [show ref07_bytes.F a0 = (false, ()) from by unfold ref07_bytes.F; simp only [h0, h1, cond_true, cond_false]]; rfl)
  · exact ok_done hF rfl (by rw [show ref07_bytes.F a0 = (false, ()) from by unfold ref07_bytes.F; simp only [h0, cond_true, cond_false]]; rfl)
/-! ### turnbuckle/turnbuckleref07.time: function 31 -/
def ref07_time.F (a0 : Int) : Tup [Lf.b] :=
  bif decide (0 ≤ a0) then
    bif decide (a0 ≤ 1099511627776) then
      (true, ())
    else
      (false, ())
  else
    (false, ())
theorem ref07_time.t (a0 : Int) : tree Try.prog noA noC Try.f31 [AV.v (Value.int IntKind.i64 a0)] [] =
  bif decide (0 ≤ a0) then (
   bif decide (a0 ≤ 1099511627776) then (
    .done (AV.v (Value.bool true)) ([]))
   else (
    .done (AV.v (Value.bool false)) ([])))
  else (
   .done (AV.v (Value.bool false)) ([])) := by kernel_rfl
theorem ref07_time.c (a0 : Int) (w : World) : Quiet Try.prog 31 (AV.gs id [AV.v (Value.int IntKind.i64 a0)]).toArray w ((Sh.one : Sh).av (vs [Lf.b] (ref07_time.F a0)) |>.g id) := by
  refine enter0 mixed noA noC [AV.v (Value.int IntKind.i64 a0)] Try.func31 rfl rfl rfl (fun hF => ?_)
  rw [ref07_time.t]
  refine ok_if (fun h0 => ?_) (fun h0 => ?_)
  · refine ok_if (fun h1 => ?_) (fun h1 => ?_)
    · exact ok_done hF rfl (by rw [show ref07_time.F a0 = (true, ()) from by unfold ref07_time.F; simp only [h0, h1, cond_true, cond_false]]; rfl)
    · exact ok_done hF rfl (by rw [show ref07_time.F a0 = (false, ()) from by unfold ref07_time.F; simp only [h0, h1, cond_true, cond_false]]; rfl)
  · exact ok_done hF rfl (by rw [show ref07_time.F a0 = (false, ()) from by unfold ref07_time.F; simp only [h0, cond_true, cond_false]]; rfl)
/-! ### turnbuckle/turnbuckleref07.New: function 16 -/
def ref07_New.F  : Tup [Lf.i IntKind.i64, Lf.i IntKind.i64, Lf.i IntKind.i64, Lf.i IntKind.i64, Lf.i IntKind.i64] :=
  (12000, 0, 0, (-1), 0, ())
theorem ref07_New.t  : tree Try.prog noA noC Try.f16 [] [] =
  .done (AV.agg [AV.v (Value.int IntKind.i64 12000), AV.v (Value.int IntKind.i64 0), AV.v (Value.int IntKind.i64 0), AV.v (Value.int IntKind.i64 (-1)), AV.v (Value.int IntKind.i64 0)]) ([]) := by kernel_rfl
theorem ref07_New.c  (w : World) : Quiet Try.prog 16 (AV.gs id []).toArray w ((Sh.agg 5 : Sh).av (vs [Lf.i IntKind.i64, Lf.i IntKind.i64, Lf.i IntKind.i64, Lf.i IntKind.i64, Lf.i IntKind.i64] (ref07_New.F )) |>.g id) := by
  refine enter0 mixed noA noC [] Try.func16 rfl rfl rfl (fun hF => ?_)
  rw [ref07_New.t]
  exact ok_done hF rfl rfl
/-! ### turnbuckle/turnbuckleref07.Room: function 13 -/
def ref07_Room.F (a0_0 : Int) (a0_1 : Int) (a0_2 : Int) (a0_3 : Int) (a0_4 : Int) : Tup [Lf.i IntKind.i64] :=
  let x0 := ref07_Right.F a0_0 a0_1 a0_2 a0_3 a0_4
  bif x0.1 then
    ((if IntKind.wrap IntKind.i64 (a0_0 - a0_2) < 0 then 0 else IntKind.wrap IntKind.i64 (a0_0 - a0_2)), ())
  else
    (0, ())
theorem ref07_Room.t (a0_0 : Int) (a0_1 : Int) (a0_2 : Int) (a0_3 : Int) (a0_4 : Int) : tree Try.prog noA noC Try.f13 [AV.agg [AV.v (Value.int IntKind.i64 a0_0), AV.v (Value.int IntKind.i64 a0_1), AV.v (Value.int IntKind.i64 a0_2), AV.v (Value.int IntKind.i64 a0_3), AV.v (Value.int IntKind.i64 a0_4)]] [] =
  .call 11 ([AV.agg [AV.v (Value.int IntKind.i64 a0_0), AV.v (Value.int IntKind.i64 a0_1), AV.v (Value.int IntKind.i64 a0_2), AV.v (Value.int IntKind.i64 a0_3), AV.v (Value.int IntKind.i64 a0_4)]]) ([]) (Sh.one) ([Lf.b]) ([]) (fun x0 =>
   bif x0.1 then (
    .done (AV.v (Value.int IntKind.i64 (if IntKind.wrap IntKind.i64 (a0_0 - a0_2) < 0 then 0 else IntKind.wrap IntKind.i64 (a0_0 - a0_2)))) ([]))
   else (
    .done (AV.v (Value.int IntKind.i64 0)) ([]))) := by kernel_rfl
theorem ref07_Room.c (a0_0 : Int) (a0_1 : Int) (a0_2 : Int) (a0_3 : Int) (a0_4 : Int) (w : World) : Quiet Try.prog 13 (AV.gs id [AV.agg [AV.v (Value.int IntKind.i64 a0_0), AV.v (Value.int IntKind.i64 a0_1), AV.v (Value.int IntKind.i64 a0_2), AV.v (Value.int IntKind.i64 a0_3), AV.v (Value.int IntKind.i64 a0_4)]]).toArray w ((Sh.one : Sh).av (vs [Lf.i IntKind.i64] (ref07_Room.F a0_0 a0_1 a0_2 a0_3 a0_4)) |>.g id) := by
  refine enter0 mixed noA noC [AV.agg [AV.v (Value.int IntKind.i64 a0_0), AV.v (Value.int IntKind.i64 a0_1), AV.v (Value.int IntKind.i64 a0_2), AV.v (Value.int IntKind.i64 a0_3), AV.v (Value.int IntKind.i64 a0_4)]] Try.func13 rfl rfl rfl (fun hF => ?_)
  rw [ref07_Room.t]
  refine ok_callq (x := ref07_Right.F a0_0 a0_1 a0_2 a0_3 a0_4) hF rfl (fun L w _ => ref07_Right.c a0_0 a0_1 a0_2 a0_3 a0_4 w) (fun L w hF => ?_)
  refine ok_if (fun h0 => ?_) (fun h0 => ?_)
  · exact ok_done hF rfl (by rw [show ref07_Room.F a0_0 a0_1 a0_2 a0_3 a0_4 = ((if IntKind.wrap IntKind.i64 (a0_0 - a0_2) < 0 then 0 else IntKind.wrap IntKind.i64 (a0_0 - a0_2)), ()) from by unfold ref07_Room.F; simp only [h0, cond_true, cond_false]]; rfl)
  · exact ok_done hF rfl (by rw [show ref07_Room.F a0_0 a0_1 a0_2 a0_3 a0_4 = (0, ()) from by unfold ref07_Room.F; simp only [h0, cond_true, cond_false]]; rfl)
/-! ### turnbuckle/turnbuckleref07.Gone: function 25 -/
def ref07_Gone.F (a0_0 : Int) (a0_1 : Int) (a0_2 : Int) (a0_3 : Int) (a0_4 : Int) (a1 : Int) : Tup [Lf.i IntKind.i64, Lf.i IntKind.i64, Lf.i IntKind.i64, Lf.i IntKind.i64, Lf.i IntKind.i64, Lf.i IntKind.i64] :=
  let x0 := ref07_Right.F a0_0 a0_1 a0_2 a0_3 a0_4
  bif x0.1 then
    let x1 := ref07_bytes.F a1
    bif x1.1 then
      bif decide (a0_2 < a1) then
        (0, 0, 0, 0, 0, 7, ())
      else
        (a0_0, a0_1, (IntKind.wrap IntKind.i64 (a0_2 - a1)), a0_3, a0_4, 0, ())
    else
      (0, 0, 0, 0, 0, 1, ())
  else
    (0, 0, 0, 0, 0, 1, ())
theorem ref07_Gone.t (a0_0 : Int) (a0_1 : Int) (a0_2 : Int) (a0_3 : Int) (a0_4 : Int) (a1 : Int) : tree Try.prog noA noC Try.f25 [AV.agg [AV.v (Value.int IntKind.i64 a0_0), AV.v (Value.int IntKind.i64 a0_1), AV.v (Value.int IntKind.i64 a0_2), AV.v (Value.int IntKind.i64 a0_3), AV.v (Value.int IntKind.i64 a0_4)], AV.v (Value.int IntKind.i64 a1)] [] =
  .call 11 ([AV.agg [AV.v (Value.int IntKind.i64 a0_0), AV.v (Value.int IntKind.i64 a0_1), AV.v (Value.int IntKind.i64 a0_2), AV.v (Value.int IntKind.i64 a0_3), AV.v (Value.int IntKind.i64 a0_4)]]) ([]) (Sh.one) ([Lf.b]) ([]) (fun x0 =>
   bif x0.1 then (
    .call 34 ([AV.v (Value.int IntKind.i64 a1)]) ([]) (Sh.one) ([Lf.b]) ([]) (fun x1 =>
     bif x1.1 then (
      bif decide (a0_2 < a1) then (
       .done (AV.tup [AV.agg [AV.v (Value.int IntKind.i64 0), AV.v (Value.int IntKind.i64 0), AV.v (Value.int IntKind.i64 0), AV.v (Value.int IntKind.i64 0), AV.v (Value.int IntKind.i64 0)], AV.v (Value.int IntKind.i64 7)]) ([]))
      else (
       .done (AV.tup [AV.agg [AV.v (Value.int IntKind.i64 a0_0), AV.v (Value.int IntKind.i64 a0_1), AV.v (Value.int IntKind.i64 (IntKind.wrap IntKind.i64 (a0_2 - a1))), AV.v (Value.int IntKind.i64 a0_3), AV.v (Value.int IntKind.i64 a0_4)], AV.v (Value.int IntKind.i64 0)]) ([])))
     else (
      .done (AV.tup [AV.agg [AV.v (Value.int IntKind.i64 0), AV.v (Value.int IntKind.i64 0), AV.v (Value.int IntKind.i64 0), AV.v (Value.int IntKind.i64 0), AV.v (Value.int IntKind.i64 0)], AV.v (Value.int IntKind.i64 1)]) ([]))))
   else (
    .done (AV.tup [AV.agg [AV.v (Value.int IntKind.i64 0), AV.v (Value.int IntKind.i64 0), AV.v (Value.int IntKind.i64 0), AV.v (Value.int IntKind.i64 0), AV.v (Value.int IntKind.i64 0)], AV.v (Value.int IntKind.i64 1)]) ([]))) := by kernel_rfl
theorem ref07_Gone.c (a0_0 : Int) (a0_1 : Int) (a0_2 : Int) (a0_3 : Int) (a0_4 : Int) (a1 : Int) (w : World) : Quiet Try.prog 25 (AV.gs id [AV.agg [AV.v (Value.int IntKind.i64 a0_0), AV.v (Value.int IntKind.i64 a0_1), AV.v (Value.int IntKind.i64 a0_2), AV.v (Value.int IntKind.i64 a0_3), AV.v (Value.int IntKind.i64 a0_4)], AV.v (Value.int IntKind.i64 a1)]).toArray w ((Sh.tup [(true, 5), (false, 1)] : Sh).av (vs [Lf.i IntKind.i64, Lf.i IntKind.i64, Lf.i IntKind.i64, Lf.i IntKind.i64, Lf.i IntKind.i64, Lf.i IntKind.i64] (ref07_Gone.F a0_0 a0_1 a0_2 a0_3 a0_4 a1)) |>.g id) := by
  refine enter0 mixed noA noC [AV.agg [AV.v (Value.int IntKind.i64 a0_0), AV.v (Value.int IntKind.i64 a0_1), AV.v (Value.int IntKind.i64 a0_2), AV.v (Value.int IntKind.i64 a0_3), AV.v (Value.int IntKind.i64 a0_4)], AV.v (Value.int IntKind.i64 a1)] Try.func25 rfl rfl rfl (fun hF => ?_)
  rw [ref07_Gone.t]
  refine ok_callq (x := ref07_Right.F a0_0 a0_1 a0_2 a0_3 a0_4) hF rfl (fun L w _ => ref07_Right.c a0_0 a0_1 a0_2 a0_3 a0_4 w) (fun L w hF => ?_)
  refine ok_if (fun h0 => ?_) (fun h0 => ?_)
  · refine ok_callq (x := ref07_bytes.F a1) hF rfl (fun L w _ => ref07_bytes.c a1 w) (fun L w hF => ?_)
    refine ok_if (fun h1 => ?_) (fun h1 => ?_)
    · refine ok_if (fun h2 => ?_) (fun h2 => ?_)
      · exact ok_done hF rfl (by rw [show ref07_Gone.F a0_0 a0_1 a0_2 a0_3 a0_4 a1 = (0, 0, 0, 0, 0, 7, ()) from by unfold ref07_Gone.F; simp only [h0, h1, h2, cond_true, cond_false]]; rfl)
      · exact ok_done hF rfl (by rw [show ref07_Gone.F a0_0 a0_1 a0_2 a0_3 a0_4 a1 = (a0_0, a0_1, (IntKind.wrap IntKind.i64 (a0_2 - a1)), a0_3, a0_4, 0, ()) from by unfold ref07_Gone.F; simp only [h0, h1, h2, cond_true, cond_false]]; rfl)
    · exact ok_done hF rfl (by rw [show ref07_Gone.F a0_0 a0_1 a0_2 a0_3 a0_4 a1 = (0, 0, 0, 0, 0, 1, ()) from by unfold ref07_Gone.F; simp only [h0, h1, cond_true, cond_false]]; rfl)
  · exact ok_done hF rfl (by rw [show ref07_Gone.F a0_0 a0_1 a0_2 a0_3 a0_4 a1 = (0, 0, 0, 0, 0, 1, ()) from by unfold ref07_Gone.F; simp only [h0, cond_true, cond_false]]; rfl)
/-! ### turnbuckle/turnbuckleref07.Sent: function 23 -/
def ref07_Sent.F (a0_0 : Int) (a0_1 : Int) (a0_2 : Int) (a0_3 : Int) (a0_4 : Int) (a1 : Int) : Tup [Lf.i IntKind.i64, Lf.i IntKind.i64, Lf.i IntKind.i64, Lf.i IntKind.i64, Lf.i IntKind.i64, Lf.i IntKind.i64] :=
  let x0 := ref07_Right.F a0_0 a0_1 a0_2 a0_3 a0_4
  bif x0.1 then
    let x1 := ref07_bytes.F a1
    bif x1.1 then
      let x2 := ref07_Room.F a0_0 a0_1 a0_2 a0_3 a0_4
      bif decide (x2.1 < a1) then
        (0, 0, 0, 0, 0, 7, ())
      else
        (a0_0, a0_1, (IntKind.wrap IntKind.i64 (a0_2 + a1)), a0_3, a0_4, 0, ())
    else
      (0, 0, 0, 0, 0, 1, ())
  else
    (0, 0, 0, 0, 0, 1, ())
theorem ref07_Sent.t (a0_0 : Int) (a0_1 : Int) (a0_2 : Int) (a0_3 : Int) (a0_4 : Int) (a1 : Int) : tree Try.prog noA noC Try.f23 [AV.agg [AV.v (Value.int IntKind.i64 a0_0), AV.v (Value.int IntKind.i64 a0_1), AV.v (Value.int IntKind.i64 a0_2), AV.v (Value.int IntKind.i64 a0_3), AV.v (Value.int IntKind.i64 a0_4)], AV.v (Value.int IntKind.i64 a1)] [] =
  .call 11 ([AV.agg [AV.v (Value.int IntKind.i64 a0_0), AV.v (Value.int IntKind.i64 a0_1), AV.v (Value.int IntKind.i64 a0_2), AV.v (Value.int IntKind.i64 a0_3), AV.v (Value.int IntKind.i64 a0_4)]]) ([]) (Sh.one) ([Lf.b]) ([]) (fun x0 =>
   bif x0.1 then (
    .call 34 ([AV.v (Value.int IntKind.i64 a1)]) ([]) (Sh.one) ([Lf.b]) ([]) (fun x1 =>
     bif x1.1 then (
      .call 13 ([AV.agg [AV.v (Value.int IntKind.i64 a0_0), AV.v (Value.int IntKind.i64 a0_1), AV.v (Value.int IntKind.i64 a0_2), AV.v (Value.int IntKind.i64 a0_3), AV.v (Value.int IntKind.i64 a0_4)]]) ([]) (Sh.one) ([Lf.i IntKind.i64]) ([]) (fun x2 =>
       bif decide (x2.1 < a1) then (
        .done (AV.tup [AV.agg [AV.v (Value.int IntKind.i64 0), AV.v (Value.int IntKind.i64 0), AV.v (Value.int IntKind.i64 0), AV.v (Value.int IntKind.i64 0), AV.v (Value.int IntKind.i64 0)], AV.v (Value.int IntKind.i64 7)]) ([]))
       else (
        .done (AV.tup [AV.agg [AV.v (Value.int IntKind.i64 a0_0), AV.v (Value.int IntKind.i64 a0_1), AV.v (Value.int IntKind.i64 (IntKind.wrap IntKind.i64 (a0_2 + a1))), AV.v (Value.int IntKind.i64 a0_3), AV.v (Value.int IntKind.i64 a0_4)], AV.v (Value.int IntKind.i64 0)]) ([]))))
     else (
      .done (AV.tup [AV.agg [AV.v (Value.int IntKind.i64 0), AV.v (Value.int IntKind.i64 0), AV.v (Value.int IntKind.i64 0), AV.v (Value.int IntKind.i64 0), AV.v (Value.int IntKind.i64 0)], AV.v (Value.int IntKind.i64 1)]) ([]))))
   else (
    .done (AV.tup [AV.agg [AV.v (Value.int IntKind.i64 0), AV.v (Value.int IntKind.i64 0), AV.v (Value.int IntKind.i64 0), AV.v (Value.int IntKind.i64 0), AV.v (Value.int IntKind.i64 0)], AV.v (Value.int IntKind.i64 1)]) ([]))) := by kernel_rfl
theorem ref07_Sent.c (a0_0 : Int) (a0_1 : Int) (a0_2 : Int) (a0_3 : Int) (a0_4 : Int) (a1 : Int) (w : World) : Quiet Try.prog 23 (AV.gs id [AV.agg [AV.v (Value.int IntKind.i64 a0_0), AV.v (Value.int IntKind.i64 a0_1), AV.v (Value.int IntKind.i64 a0_2), AV.v (Value.int IntKind.i64 a0_3), AV.v (Value.int IntKind.i64 a0_4)], AV.v (Value.int IntKind.i64 a1)]).toArray w ((Sh.tup [(true, 5), (false, 1)] : Sh).av (vs [Lf.i IntKind.i64, Lf.i IntKind.i64, Lf.i IntKind.i64, Lf.i IntKind.i64, Lf.i IntKind.i64, Lf.i IntKind.i64] (ref07_Sent.F a0_0 a0_1 a0_2 a0_3 a0_4 a1)) |>.g id) := by
  refine enter0 mixed noA noC [AV.agg [AV.v (Value.int IntKind.i64 a0_0), AV.v (Value.int IntKind.i64 a0_1), AV.v (Value.int IntKind.i64 a0_2), AV.v (Value.int IntKind.i64 a0_3), AV.v (Value.int IntKind.i64 a0_4)], AV.v (Value.int IntKind.i64 a1)] Try.func23 rfl rfl rfl (fun hF => ?_)
  rw [ref07_Sent.t]
  refine ok_callq (x := ref07_Right.F a0_0 a0_1 a0_2 a0_3 a0_4) hF rfl (fun L w _ => ref07_Right.c a0_0 a0_1 a0_2 a0_3 a0_4 w) (fun L w hF => ?_)
  refine ok_if (fun h0 => ?_) (fun h0 => ?_)
  · refine ok_callq (x := ref07_bytes.F a1) hF rfl (fun L w _ => ref07_bytes.c a1 w) (fun L w hF => ?_)
    refine ok_if (fun h1 => ?_) (fun h1 => ?_)
    · refine ok_callq (x := ref07_Room.F a0_0 a0_1 a0_2 a0_3 a0_4) hF rfl (fun L w _ => ref07_Room.c a0_0 a0_1 a0_2 a0_3 a0_4 w) (fun L w hF => ?_)
      refine ok_if (fun h2 => ?_) (fun h2 => ?_)
      · exact ok_done hF rfl (by rw [show ref07_Sent.F a0_0 a0_1 a0_2 a0_3 a0_4 a1 = (0, 0, 0, 0, 0, 7, ()) from by unfold ref07_Sent.F; simp only [h0, h1, h2, cond_true, cond_false]]; rfl)
      · exact ok_done hF rfl (by rw [show ref07_Sent.F a0_0 a0_1 a0_2 a0_3 a0_4 a1 = (a0_0, a0_1, (IntKind.wrap IntKind.i64 (a0_2 + a1)), a0_3, a0_4, 0, ()) from by unfold ref07_Sent.F; simp only [h0, h1, h2, cond_true, cond_false]]; rfl)
    · exact ok_done hF rfl (by rw [show ref07_Sent.F a0_0 a0_1 a0_2 a0_3 a0_4 a1 = (0, 0, 0, 0, 0, 1, ()) from by unfold ref07_Sent.F; simp only [h0, h1, cond_true, cond_false]]; rfl)
  · exact ok_done hF rfl (by rw [show ref07_Sent.F a0_0 a0_1 a0_2 a0_3 a0_4 a1 = (0, 0, 0, 0, 0, 1, ()) from by unfold ref07_Sent.F; simp only [h0, cond_true, cond_false]]; rfl)
/-! ### turnbuckle/turnbuckleref07.Acked: function 19 -/
def ref07_Acked.F (a0_0 : Int) (a0_1 : Int) (a0_2 : Int) (a0_3 : Int) (a0_4 : Int) (a1 : Int) (a2 : Int) : Tup [Lf.i IntKind.i64, Lf.i IntKind.i64, Lf.i IntKind.i64, Lf.i IntKind.i64, Lf.i IntKind.i64, Lf.i IntKind.i64] :=
  let x0 := ref07_time.F a2
  bif x0.1 then
    let x1 := ref07_Gone.F a0_0 a0_1 a0_2 a0_3 a0_4 a1
    bif x1.2.2.2.2.2.1 != 0 then
      (x1.1, x1.2.1, x1.2.2.1, x1.2.2.2.1, x1.2.2.2.2.1, x1.2.2.2.2.2.1, ())
    else
      bif decide (0 ≤ x1.2.2.2.1) then
        bif decide (a2 < x1.2.2.2.1) then
          (x1.1, x1.2.1, x1.2.2.1, x1.2.2.2.1, x1.2.2.2.2.1, x1.2.2.2.2.2.1, ())
        else
          bif x1.2.1 == 0 then
            ((if 1073741824 < IntKind.wrap IntKind.i64 (x1.1 + a1) then 1073741824 else IntKind.wrap IntKind.i64 (x1.1 + a1)), x1.2.1, x1.2.2.1, x1.2.2.2.1, 0, 0, ())
          else
            bif decide (x1.1 < x1.2.1) then
              ((if 1073741824 < IntKind.wrap IntKind.i64 (x1.1 + a1) then 1073741824 else IntKind.wrap IntKind.i64 (x1.1 + a1)), x1.2.1, x1.2.2.1, x1.2.2.2.1, 0, 0, ())
            else
              bif decide (x1.1 ≤ IntKind.wrap IntKind.i64 (x1.2.2.2.2.1 + a1)) then
                ((if 1073741824 < IntKind.wrap IntKind.i64 (x1.1 + 1200) then 1073741824 else IntKind.wrap IntKind.i64 (x1.1 + 1200)), x1.2.1, x1.2.2.1, x1.2.2.2.1, (if IntKind.wrap IntKind.i64 ((if 1073741824 < IntKind.wrap IntKind.i64 (x1.1 + 1200) then 1073741824 else IntKind.wrap IntKind.i64 (x1.1 + 1200)) - 1) < IntKind.wrap IntKind.i64 (IntKind.wrap IntKind.i64 (x1.2.2.2.2.1 + a1) - x1.1) then IntKind.wrap IntKind.i64 ((if 1073741824 < IntKind.wrap IntKind.i64 (x1.1 + 1200) then 1073741824 else IntKind.wrap IntKind.i64 (x1.1 + 1200)) - 1) else IntKind.wrap IntKind.i64 (IntKind.wrap IntKind.i64 (x1.2.2.2.2.1 + a1) - x1.1)), 0, ())
              else
                (x1.1, x1.2.1, x1.2.2.1, x1.2.2.2.1, (if IntKind.wrap IntKind.i64 (x1.1 - 1) < IntKind.wrap IntKind.i64 (x1.2.2.2.2.1 + a1) then IntKind.wrap IntKind.i64 (x1.1 - 1) else IntKind.wrap IntKind.i64 (x1.2.2.2.2.1 + a1)), 0, ())
      else
        bif x1.2.1 == 0 then
          ((if 1073741824 < IntKind.wrap IntKind.i64 (x1.1 + a1) then 1073741824 else IntKind.wrap IntKind.i64 (x1.1 + a1)), x1.2.1, x1.2.2.1, x1.2.2.2.1, 0, 0, ())
        else
          bif decide (x1.1 < x1.2.1) then
            ((if 1073741824 < IntKind.wrap IntKind.i64 (x1.1 + a1) then 1073741824 else IntKind.wrap IntKind.i64 (x1.1 + a1)), x1.2.1, x1.2.2.1, x1.2.2.2.1, 0, 0, ())
          else
            bif decide (x1.1 ≤ IntKind.wrap IntKind.i64 (x1.2.2.2.2.1 + a1)) then
              ((if 1073741824 < IntKind.wrap IntKind.i64 (x1.1 + 1200) then 1073741824 else IntKind.wrap IntKind.i64 (x1.1 + 1200)), x1.2.1, x1.2.2.1, x1.2.2.2.1, (if IntKind.wrap IntKind.i64 ((if 1073741824 < IntKind.wrap IntKind.i64 (x1.1 + 1200) then 1073741824 else IntKind.wrap IntKind.i64 (x1.1 + 1200)) - 1) < IntKind.wrap IntKind.i64 (IntKind.wrap IntKind.i64 (x1.2.2.2.2.1 + a1) - x1.1) then IntKind.wrap IntKind.i64 ((if 1073741824 < IntKind.wrap IntKind.i64 (x1.1 + 1200) then 1073741824 else IntKind.wrap IntKind.i64 (x1.1 + 1200)) - 1) else IntKind.wrap IntKind.i64 (IntKind.wrap IntKind.i64 (x1.2.2.2.2.1 + a1) - x1.1)), 0, ())
            else
              (x1.1, x1.2.1, x1.2.2.1, x1.2.2.2.1, (if IntKind.wrap IntKind.i64 (x1.1 - 1) < IntKind.wrap IntKind.i64 (x1.2.2.2.2.1 + a1) then IntKind.wrap IntKind.i64 (x1.1 - 1) else IntKind.wrap IntKind.i64 (x1.2.2.2.2.1 + a1)), 0, ())
  else
    (0, 0, 0, 0, 0, 1, ())
theorem ref07_Acked.t (a0_0 : Int) (a0_1 : Int) (a0_2 : Int) (a0_3 : Int) (a0_4 : Int) (a1 : Int) (a2 : Int) : tree Try.prog noA noC Try.f19 [AV.agg [AV.v (Value.int IntKind.i64 a0_0), AV.v (Value.int IntKind.i64 a0_1), AV.v (Value.int IntKind.i64 a0_2), AV.v (Value.int IntKind.i64 a0_3), AV.v (Value.int IntKind.i64 a0_4)], AV.v (Value.int IntKind.i64 a1), AV.v (Value.int IntKind.i64 a2)] [] =
  .call 31 ([AV.v (Value.int IntKind.i64 a2)]) ([]) (Sh.one) ([Lf.b]) ([]) (fun x0 =>
   bif x0.1 then (
    .call 25 ([AV.agg [AV.v (Value.int IntKind.i64 a0_0), AV.v (Value.int IntKind.i64 a0_1), AV.v (Value.int IntKind.i64 a0_2), AV.v (Value.int IntKind.i64 a0_3), AV.v (Value.int IntKind.i64 a0_4)], AV.v (Value.int IntKind.i64 a1)]) ([]) (Sh.tup [(true, 5), (false, 1)]) ([Lf.i IntKind.i64, Lf.i IntKind.i64, Lf.i IntKind.i64, Lf.i IntKind.i64, Lf.i IntKind.i64, Lf.i IntKind.i64]) ([]) (fun x1 =>
     bif x1.2.2.2.2.2.1 != 0 then (
      .done (AV.tup [AV.agg [AV.v (Value.int IntKind.i64 x1.1), AV.v (Value.int IntKind.i64 x1.2.1), AV.v (Value.int IntKind.i64 x1.2.2.1), AV.v (Value.int IntKind.i64 x1.2.2.2.1), AV.v (Value.int IntKind.i64 x1.2.2.2.2.1)], AV.v (Value.int IntKind.i64 x1.2.2.2.2.2.1)]) ([]))
     else (
      bif decide (0 ≤ x1.2.2.2.1) then (
       bif decide (a2 < x1.2.2.2.1) then (
        .done (AV.tup [AV.agg [AV.v (Value.int IntKind.i64 x1.1), AV.v (Value.int IntKind.i64 x1.2.1), AV.v (Value.int IntKind.i64 x1.2.2.1), AV.v (Value.int IntKind.i64 x1.2.2.2.1), AV.v (Value.int IntKind.i64 x1.2.2.2.2.1)], AV.v (Value.int IntKind.i64 x1.2.2.2.2.2.1)]) ([]))
       else (
        bif x1.2.1 == 0 then (
         .done (AV.tup [AV.agg [AV.v (Value.int IntKind.i64 (if 1073741824 < IntKind.wrap IntKind.i64 (x1.1 + a1) then 1073741824 else IntKind.wrap IntKind.i64 (x1.1 + a1))), AV.v (Value.int IntKind.i64 x1.2.1), AV.v (Value.int IntKind.i64 x1.2.2.1), AV.v (Value.int IntKind.i64 x1.2.2.2.1), AV.v (Value.int IntKind.i64 0)], AV.v (Value.int IntKind.i64 0)]) ([]))
        else (
         bif decide (x1.1 < x1.2.1) then (
          .done (AV.tup [AV.agg [AV.v (Value.int IntKind.i64 (if 1073741824 < IntKind.wrap IntKind.i64 (x1.1 + a1) then 1073741824 else IntKind.wrap IntKind.i64 (x1.1 + a1))), AV.v (Value.int IntKind.i64 x1.2.1), AV.v (Value.int IntKind.i64 x1.2.2.1), AV.v (Value.int IntKind.i64 x1.2.2.2.1), AV.v (Value.int IntKind.i64 0)], AV.v (Value.int IntKind.i64 0)]) ([]))
         else (
          bif decide (x1.1 ≤ IntKind.wrap IntKind.i64 (x1.2.2.2.2.1 + a1)) then (
           .done (AV.tup [AV.agg [AV.v (Value.int IntKind.i64 (if 1073741824 < IntKind.wrap IntKind.i64 (x1.1 + 1200) then 1073741824 else IntKind.wrap IntKind.i64 (x1.1 + 1200))), AV.v (Value.int IntKind.i64 x1.2.1), AV.v (Value.int IntKind.i64 x1.2.2.1), AV.v (Value.int IntKind.i64 x1.2.2.2.1), AV.v (Value.int IntKind.i64 (if IntKind.wrap IntKind.i64 ((if 1073741824 < IntKind.wrap IntKind.i64 (x1.1 + 1200) then 1073741824 else IntKind.wrap IntKind.i64 (x1.1 + 1200)) - 1) < IntKind.wrap IntKind.i64 (IntKind.wrap IntKind.i64 (x1.2.2.2.2.1 + a1) - x1.1) then IntKind.wrap IntKind.i64 ((if 1073741824 < IntKind.wrap IntKind.i64 (x1.1 + 1200) then 1073741824 else IntKind.wrap IntKind.i64 (x1.1 + 1200)) - 1) else IntKind.wrap IntKind.i64 (IntKind.wrap IntKind.i64 (x1.2.2.2.2.1 + a1) - x1.1)))], AV.v (Value.int IntKind.i64 0)]) ([]))
          else (
           .done (AV.tup [AV.agg [AV.v (Value.int IntKind.i64 x1.1), AV.v (Value.int IntKind.i64 x1.2.1), AV.v (Value.int IntKind.i64 x1.2.2.1), AV.v (Value.int IntKind.i64 x1.2.2.2.1), AV.v (Value.int IntKind.i64 (if IntKind.wrap IntKind.i64 (x1.1 - 1) < IntKind.wrap IntKind.i64 (x1.2.2.2.2.1 + a1) then IntKind.wrap IntKind.i64 (x1.1 - 1) else IntKind.wrap IntKind.i64 (x1.2.2.2.2.1 + a1)))], AV.v (Value.int IntKind.i64 0)]) ([]))))))
      else (
       bif x1.2.1 == 0 then (
        .done (AV.tup [AV.agg [AV.v (Value.int IntKind.i64 (if 1073741824 < IntKind.wrap IntKind.i64 (x1.1 + a1) then 1073741824 else IntKind.wrap IntKind.i64 (x1.1 + a1))), AV.v (Value.int IntKind.i64 x1.2.1), AV.v (Value.int IntKind.i64 x1.2.2.1), AV.v (Value.int IntKind.i64 x1.2.2.2.1), AV.v (Value.int IntKind.i64 0)], AV.v (Value.int IntKind.i64 0)]) ([]))
       else (
        bif decide (x1.1 < x1.2.1) then (
         .done (AV.tup [AV.agg [AV.v (Value.int IntKind.i64 (if 1073741824 < IntKind.wrap IntKind.i64 (x1.1 + a1) then 1073741824 else IntKind.wrap IntKind.i64 (x1.1 + a1))), AV.v (Value.int IntKind.i64 x1.2.1), AV.v (Value.int IntKind.i64 x1.2.2.1), AV.v (Value.int IntKind.i64 x1.2.2.2.1), AV.v (Value.int IntKind.i64 0)], AV.v (Value.int IntKind.i64 0)]) ([]))
        else (
         bif decide (x1.1 ≤ IntKind.wrap IntKind.i64 (x1.2.2.2.2.1 + a1)) then (
          .done (AV.tup [AV.agg [AV.v (Value.int IntKind.i64 (if 1073741824 < IntKind.wrap IntKind.i64 (x1.1 + 1200) then 1073741824 else IntKind.wrap IntKind.i64 (x1.1 + 1200))), AV.v (Value.int IntKind.i64 x1.2.1), AV.v (Value.int IntKind.i64 x1.2.2.1), AV.v (Value.int IntKind.i64 x1.2.2.2.1), AV.v (Value.int IntKind.i64 (if IntKind.wrap IntKind.i64 ((if 1073741824 < IntKind.wrap IntKind.i64 (x1.1 + 1200) then 1073741824 else IntKind.wrap IntKind.i64 (x1.1 + 1200)) - 1) < IntKind.wrap IntKind.i64 (IntKind.wrap IntKind.i64 (x1.2.2.2.2.1 + a1) - x1.1) then IntKind.wrap IntKind.i64 ((if 1073741824 < IntKind.wrap IntKind.i64 (x1.1 + 1200) then 1073741824 else IntKind.wrap IntKind.i64 (x1.1 + 1200)) - 1) else IntKind.wrap IntKind.i64 (IntKind.wrap IntKind.i64 (x1.2.2.2.2.1 + a1) - x1.1)))], AV.v (Value.int IntKind.i64 0)]) ([]))
         else (
          .done (AV.tup [AV.agg [AV.v (Value.int IntKind.i64 x1.1), AV.v (Value.int IntKind.i64 x1.2.1), AV.v (Value.int IntKind.i64 x1.2.2.1), AV.v (Value.int IntKind.i64 x1.2.2.2.1), AV.v (Value.int IntKind.i64 (if IntKind.wrap IntKind.i64 (x1.1 - 1) < IntKind.wrap IntKind.i64 (x1.2.2.2.2.1 + a1) then IntKind.wrap IntKind.i64 (x1.1 - 1) else IntKind.wrap IntKind.i64 (x1.2.2.2.2.1 + a1)))], AV.v (Value.int IntKind.i64 0)]) ([]))))))))
   else (
    .done (AV.tup [AV.agg [AV.v (Value.int IntKind.i64 0), AV.v (Value.int IntKind.i64 0), AV.v (Value.int IntKind.i64 0), AV.v (Value.int IntKind.i64 0), AV.v (Value.int IntKind.i64 0)], AV.v (Value.int IntKind.i64 1)]) ([]))) := by kernel_rfl
theorem ref07_Acked.c (a0_0 : Int) (a0_1 : Int) (a0_2 : Int) (a0_3 : Int) (a0_4 : Int) (a1 : Int) (a2 : Int) (w : World) : Quiet Try.prog 19 (AV.gs id [AV.agg [AV.v (Value.int IntKind.i64 a0_0), AV.v (Value.int IntKind.i64 a0_1), AV.v (Value.int IntKind.i64 a0_2), AV.v (Value.int IntKind.i64 a0_3), AV.v (Value.int IntKind.i64 a0_4)], AV.v (Value.int IntKind.i64 a1), AV.v (Value.int IntKind.i64 a2)]).toArray w ((Sh.tup [(true, 5), (false, 1)] : Sh).av (vs [Lf.i IntKind.i64, Lf.i IntKind.i64, Lf.i IntKind.i64, Lf.i IntKind.i64, Lf.i IntKind.i64, Lf.i IntKind.i64] (ref07_Acked.F a0_0 a0_1 a0_2 a0_3 a0_4 a1 a2)) |>.g id) := by
  refine enter0 mixed noA noC [AV.agg [AV.v (Value.int IntKind.i64 a0_0), AV.v (Value.int IntKind.i64 a0_1), AV.v (Value.int IntKind.i64 a0_2), AV.v (Value.int IntKind.i64 a0_3), AV.v (Value.int IntKind.i64 a0_4)], AV.v (Value.int IntKind.i64 a1), AV.v (Value.int IntKind.i64 a2)] Try.func19 rfl rfl rfl (fun hF => ?_)
  rw [ref07_Acked.t]
  refine ok_callq (x := ref07_time.F a2) hF rfl (fun L w _ => ref07_time.c a2 w) (fun L w hF => ?_)
  refine ok_if (fun h0 => ?_) (fun h0 => ?_)
  · refine ok_callq (x := ref07_Gone.F a0_0 a0_1 a0_2 a0_3 a0_4 a1) hF rfl (fun L w _ => ref07_Gone.c a0_0 a0_1 a0_2 a0_3 a0_4 a1 w) (fun L w hF => ?_)
    refine ok_if (fun h1 => ?_) (fun h1 => ?_)
    · exact ok_done hF rfl (by rw [show ref07_Acked.F a0_0 a0_1 a0_2 a0_3 a0_4 a1 a2 = ((ref07_Gone.F a0_0 a0_1 a0_2 a0_3 a0_4 a1).1, (ref07_Gone.F a0_0 a0_1 a0_2 a0_3 a0_4 a1).2.1, (ref07_Gone.F a0_0 a0_1 a0_2 a0_3 a0_4 a1).2.2.1, (ref07_Gone.F a0_0 a0_1 a0_2 a0_3 a0_4 a1).2.2.2.1, (ref07_Gone.F a0_0 a0_1 a0_2 a0_3 a0_4 a1).2.2.2.2.1, (ref07_Gone.F a0_0 a0_1 a0_2 a0_3 a0_4 a1).2.2.2.2.2.1, ()) from by unfold ref07_Acked.F; simp only [h0, h1, cond_true, cond_false]]; rfl)
    · refine ok_if (fun h2 => ?_) (fun h2 => ?_)
      · refine ok_if (fun h3 => ?_) (fun h3 => ?_)
        · exact ok_done hF rfl (by rw [show ref07_Acked.F a0_0 a0_1 a0_2 a0_3 a0_4 a1 a2 = ((ref07_Gone.F a0_0 a0_1 a0_2 a0_3 a0_4 a1).1, (ref07_Gone.F a0_0 a0_1 a0_2 a0_3 a0_4 a1).2.1, (ref07_Gone.F a0_0 a0_1 a0_2 a0_3 a0_4 a1).2.2.1, (ref07_Gone.F a0_0 a0_1 a0_2 a0_3 a0_4 a1).2.2.2.1, (ref07_Gone.F a0_0 a0_1 a0_2 a0_3 a0_4 a1).2.2.2.2.1, (ref07_Gone.F a0_0 a0_1 a0_2 a0_3 a0_4 a1).2.2.2.2.2.1, ()) from by unfold ref07_Acked.F; simp only [h0, h1, h2, h3, cond_true, cond_false]]; rfl)
        · refine ok_if (fun h4 => ?_) (fun h4 => ?_)
          · exact ok_done hF rfl (by rw [show ref07_Acked.F a0_0 a0_1 a0_2 a0_3 a0_4 a1 a2 = ((if 1073741824 < IntKind.wrap IntKind.i64 ((ref07_Gone.F a0_0 a0_1 a0_2 a0_3 a0_4 a1).1 + a1) then 1073741824 else IntKind.wrap IntKind.i64 ((ref07_Gone.F a0_0 a0_1 a0_2 a0_3 a0_4 a1).1 + a1)), (ref07_Gone.F a0_0 a0_1 a0_2 a0_3 a0_4 a1).2.1, (ref07_Gone.F a0_0 a0_1 a0_2 a0_3 a0_4 a1).2.2.1, (ref07_Gone.F a0_0 a0_1 a0_2 a0_3 a0_4 a1).2.2.2.1, 0, 0, ()) from by unfold ref07_Acked.F; simp only [h0, h1, h2, h3, h4, cond_true, cond_false]]; rfl)
          · refine ok_if (fun h5 => ?_) (fun h5 => ?_)
            · exact ok_done hF rfl (by rw [show ref07_Acked.F a0_0 a0_1 a0_2 a0_3 a0_4 a1 a2 = ((if 1073741824 < IntKind.wrap IntKind.i64 ((ref07_Gone.F a0_0 a0_1 a0_2 a0_3 a0_4 a1).1 + a1) then 1073741824 else IntKind.wrap IntKind.i64 ((ref07_Gone.F a0_0 a0_1 a0_2 a0_3 a0_4 a1).1 + a1)), (ref07_Gone.F a0_0 a0_1 a0_2 a0_3 a0_4 a1).2.1, (ref07_Gone.F a0_0 a0_1 a0_2 a0_3 a0_4 a1).2.2.1, (ref07_Gone.F a0_0 a0_1 a0_2 a0_3 a0_4 a1).2.2.2.1, 0, 0, ()) from by unfold ref07_Acked.F; simp only [h0, h1, h2, h3, h4, h5, cond_true, cond_false]]; rfl)
            · refine ok_if (fun h6 => ?_) (fun h6 => ?_)
              · exact ok_done hF rfl (by rw [show ref07_Acked.F a0_0 a0_1 a0_2 a0_3 a0_4 a1 a2 = ((if 1073741824 < IntKind.wrap IntKind.i64 ((ref07_Gone.F a0_0 a0_1 a0_2 a0_3 a0_4 a1).1 + 1200) then 1073741824 else IntKind.wrap IntKind.i64 ((ref07_Gone.F a0_0 a0_1 a0_2 a0_3 a0_4 a1).1 + 1200)), (ref07_Gone.F a0_0 a0_1 a0_2 a0_3 a0_4 a1).2.1, (ref07_Gone.F a0_0 a0_1 a0_2 a0_3 a0_4 a1).2.2.1, (ref07_Gone.F a0_0 a0_1 a0_2 a0_3 a0_4 a1).2.2.2.1, (if IntKind.wrap IntKind.i64 ((if 1073741824 < IntKind.wrap IntKind.i64 ((ref07_Gone.F a0_0 a0_1 a0_2 a0_3 a0_4 a1).1 + 1200) then 1073741824 else IntKind.wrap IntKind.i64 ((ref07_Gone.F a0_0 a0_1 a0_2 a0_3 a0_4 a1).1 + 1200)) - 1) < IntKind.wrap IntKind.i64 (IntKind.wrap IntKind.i64 ((ref07_Gone.F a0_0 a0_1 a0_2 a0_3 a0_4 a1).2.2.2.2.1 + a1) - (ref07_Gone.F a0_0 a0_1 a0_2 a0_3 a0_4 a1).1) then IntKind.wrap IntKind.i64 ((if 1073741824 < IntKind.wrap IntKind.i64 ((ref07_Gone.F a0_0 a0_1 a0_2 a0_3 a0_4 a1).1 + 1200) then 1073741824 else IntKind.wrap IntKind.i64 ((ref07_Gone.F a0_0 a0_1 a0_2 a0_3 a0_4 a1).1 + 1200)) - 1) else IntKind.wrap IntKind.i64 (IntKind.wrap IntKind.i64 ((ref07_Gone.F a0_0 a0_1 a0_2 a0_3 a0_4 a1).2.2.2.2.1 + a1) - (ref07_Gone.F a0_0 a0_1 a0_2 a0_3 a0_4 a1).1)), 0, ()) from by unfold ref07_Acked.F; simp only [h0, h1, h2, h3, h4, h5, h6, cond_true, cond_false]]; rfl)
              · exact ok_done hF rfl (by rw [show ref07_Acked.F a0_0 a0_1 a0_2 a0_3 a0_4 a1 a2 = ((ref07_Gone.F a0_0 a0_1 a0_2 a0_3 a0_4 a1).1, (ref07_Gone.F a0_0 a0_1 a0_2 a0_3 a0_4 a1).2.1, (ref07_Gone.F a0_0 a0_1 a0_2 a0_3 a0_4 a1).2.2.1, (ref07_Gone.F a0_0 a0_1 a0_2 a0_3 a0_4 a1).2.2.2.1, (if IntKind.wrap IntKind.i64 ((ref07_Gone.F a0_0 a0_1 a0_2 a0_3 a0_4 a1).1 - 1) < IntKind.wrap IntKind.i64 ((ref07_Gone.F a0_0 a0_1 a0_2 a0_3 a0_4 a1).2.2.2.2.1 + a1) then IntKind.wrap IntKind.i64 ((ref07_Gone.F a0_0 a0_1 a0_2 a0_3 a0_4 a1).1 - 1) else IntKind.wrap IntKind.i64 ((ref07_Gone.F a0_0 a0_1 a0_2 a0_3 a0_4 a1).2.2.2.2.1 + a1)), 0, ()) from by unfold ref07_Acked.F; simp only [h0, h1, h2, h3, h4, h5, h6, cond_true, cond_false]]; rfl)
      · refine ok_if (fun h3 => ?_) (fun h3 => ?_)
        · exact ok_done hF rfl (by rw [show ref07_Acked.F a0_0 a0_1 a0_2 a0_3 a0_4 a1 a2 = ((if 1073741824 < IntKind.wrap IntKind.i64 ((ref07_Gone.F a0_0 a0_1 a0_2 a0_3 a0_4 a1).1 + a1) then 1073741824 else IntKind.wrap IntKind.i64 ((ref07_Gone.F a0_0 a0_1 a0_2 a0_3 a0_4 a1).1 + a1)), (ref07_Gone.F a0_0 a0_1 a0_2 a0_3 a0_4 a1).2.1, (ref07_Gone.F a0_0 a0_1 a0_2 a0_3 a0_4 a1).2.2.1, (ref07_Gone.F a0_0 a0_1 a0_2 a0_3 a0_4 a1).2.2.2.1, 0, 0, ()) from by unfold ref07_Acked.F; simp only [h0, h1, h2, h3, cond_true, cond_false]]; rfl)
        · refine ok_if (fun h4 => ?_) (fun h4 => ?_)
          · exact ok_done hF rfl (by rw [show ref07_Acked.F a0_0 a0_1 a0_2 a0_3 a0_4 a1 a2 = ((if 1073741824 < IntKind.wrap IntKind.i64 ((ref07_Gone.F a0_0 a0_1 a0_2 a0_3 a0_4 a1).1 + a1) then 1073741824 else IntKind.wrap IntKind.i64 ((ref07_Gone.F a0_0 a0_1 a0_2 a0_3 a0_4 a1).1 + a1)), (ref07_Gone.F a0_0 a0_1 a0_2 a0_3 a0_4 a1).2.1, (ref07_Gone.F a0_0 a0_1 a0_2 a0_3 a0_4 a1).2.2.1, (ref07_Gone.F a0_0 a0_1 a0_2 a0_3 a0_4 a1).2.2.2.1, 0, 0, ()) from by unfold ref07_Acked.F; simp only [h0, h1, h2, h3, h4, cond_true, cond_false]]; rfl)
          · refine ok_if (fun h5 => ?_) (fun h5 => ?_)
            · exact ok_done hF rfl (by rw [show ref07_Acked.F a0_0 a0_1 a0_2 a0_3 a0_4 a1 a2 = ((if 1073741824 < IntKind.wrap IntKind.i64 ((ref07_Gone.F a0_0 a0_1 a0_2 a0_3 a0_4 a1).1 + 1200) then 1073741824 else IntKind.wrap IntKind.i64 ((ref07_Gone.F a0_0 a0_1 a0_2 a0_3 a0_4 a1).1 + 1200)), (ref07_Gone.F a0_0 a0_1 a0_2 a0_3 a0_4 a1).2.1, (ref07_Gone.F a0_0 a0_1 a0_2 a0_3 a0_4 a1).2.2.1, (ref07_Gone.F a0_0 a0_1 a0_2 a0_3 a0_4 a1).2.2.2.1, (if IntKind.wrap IntKind.i64 ((if 1073741824 < IntKind.wrap IntKind.i64 ((ref07_Gone.F a0_0 a0_1 a0_2 a0_3 a0_4 a1).1 + 1200) then 1073741824 else IntKind.wrap IntKind.i64 ((ref07_Gone.F a0_0 a0_1 a0_2 a0_3 a0_4 a1).1 + 1200)) - 1) < IntKind.wrap IntKind.i64 (IntKind.wrap IntKind.i64 ((ref07_Gone.F a0_0 a0_1 a0_2 a0_3 a0_4 a1).2.2.2.2.1 + a1) - (ref07_Gone.F a0_0 a0_1 a0_2 a0_3 a0_4 a1).1) then IntKind.wrap IntKind.i64 ((if 1073741824 < IntKind.wrap IntKind.i64 ((ref07_Gone.F a0_0 a0_1 a0_2 a0_3 a0_4 a1).1 + 1200) then 1073741824 else IntKind.wrap IntKind.i64 ((ref07_Gone.F a0_0 a0_1 a0_2 a0_3 a0_4 a1).1 + 1200)) - 1) else IntKind.wrap IntKind.i64 (IntKind.wrap IntKind.i64 ((ref07_Gone.F a0_0 a0_1 a0_2 a0_3 a0_4 a1).2.2.2.2.1 + a1) - (ref07_Gone.F a0_0 a0_1 a0_2 a0_3 a0_4 a1).1)), 0, ()) from by unfold ref07_Acked.F; simp only [h0, h1, h2, h3, h4, h5, cond_true, cond_false]]; rfl)
            · exact ok_done hF rfl (by rw [show ref07_Acked.F a0_0 a0_1 a0_2 a0_3 a0_4 a1 a2 = ((ref07_Gone.F a0_0 a0_1 a0_2 a0_3 a0_4 a1).1, (ref07_Gone.F a0_0 a0_1 a0_2 a0_3 a0_4 a1).2.1, (ref07_Gone.F a0_0 a0_1 a0_2 a0_3 a0_4 a1).2.2.1, (ref07_Gone.F a0_0 a0_1 a0_2 a0_3 a0_4 a1).2.2.2.1, (if IntKind.wrap IntKind.i64 ((ref07_Gone.F a0_0 a0_1 a0_2 a0_3 a0_4 a1).1 - 1) < IntKind.wrap IntKind.i64 ((ref07_Gone.F a0_0 a0_1 a0_2 a0_3 a0_4 a1).2.2.2.2.1 + a1) then IntKind.wrap IntKind.i64 ((ref07_Gone.F a0_0 a0_1 a0_2 a0_3 a0_4 a1).1 - 1) else IntKind.wrap IntKind.i64 ((ref07_Gone.F a0_0 a0_1 a0_2 a0_3 a0_4 a1).2.2.2.2.1 + a1)), 0, ()) from by unfold ref07_Acked.F; simp only [h0, h1, h2, h3, h4, h5, cond_true, cond_false]]; rfl)
  · exact ok_done hF rfl (by rw [show ref07_Acked.F a0_0 a0_1 a0_2 a0_3 a0_4 a1 a2 = (0, 0, 0, 0, 0, 1, ()) from by unfold ref07_Acked.F; simp only [h0, cond_true, cond_false]]; rfl)
/-! ### turnbuckle/turnbuckleref07.Lost: function 21 -/
def ref07_Lost.F (a0_0 : Int) (a0_1 : Int) (a0_2 : Int) (a0_3 : Int) (a0_4 : Int) (a1 : Int) (a2 : Int) (a3 : Int) : Tup [Lf.i IntKind.i64, Lf.i IntKind.i64, Lf.i IntKind.i64, Lf.i IntKind.i64, Lf.i IntKind.i64, Lf.i IntKind.i64] :=
  let x0 := ref07_time.F a2
  bif x0.1 then
    let x1 := ref07_time.F a3
    bif x1.1 then
      let x2 := ref07_Gone.F a0_0 a0_1 a0_2 a0_3 a0_4 a1
      bif x2.2.2.2.2.2.1 != 0 then
        (x2.1, x2.2.1, x2.2.2.1, x2.2.2.2.1, x2.2.2.2.2.1, x2.2.2.2.2.2.1, ())
      else
        bif decide (0 ≤ x2.2.2.2.1) then
          bif decide (a2 < x2.2.2.2.1) then
            (x2.1, x2.2.1, x2.2.2.1, x2.2.2.2.1, x2.2.2.2.2.1, x2.2.2.2.2.2.1, ())
          else
            ((if IntKind.wrap IntKind.i64 (Int.tdiv x2.1 2) < 2400 then 2400 else IntKind.wrap IntKind.i64 (Int.tdiv x2.1 2)), (if IntKind.wrap IntKind.i64 (Int.tdiv x2.1 2) < 2400 then 2400 else IntKind.wrap IntKind.i64 (Int.tdiv x2.1 2)), x2.2.2.1, (if 1099511627776 < IntKind.wrap IntKind.i64 (a3 + 1) then 1099511627776 else IntKind.wrap IntKind.i64 (a3 + 1)), 0, 0, ())
        else
          ((if IntKind.wrap IntKind.i64 (Int.tdiv x2.1 2) < 2400 then 2400 else IntKind.wrap IntKind.i64 (Int.tdiv x2.1 2)), (if IntKind.wrap IntKind.i64 (Int.tdiv x2.1 2) < 2400 then 2400 else IntKind.wrap IntKind.i64 (Int.tdiv x2.1 2)), x2.2.2.1, (if 1099511627776 < IntKind.wrap IntKind.i64 (a3 + 1) then 1099511627776 else IntKind.wrap IntKind.i64 (a3 + 1)), 0, 0, ())
    else
      (0, 0, 0, 0, 0, 1, ())
  else
    (0, 0, 0, 0, 0, 1, ())
theorem ref07_Lost.t (a0_0 : Int) (a0_1 : Int) (a0_2 : Int) (a0_3 : Int) (a0_4 : Int) (a1 : Int) (a2 : Int) (a3 : Int) : tree Try.prog noA noC Try.f21 [AV.agg [AV.v (Value.int IntKind.i64 a0_0), AV.v (Value.int IntKind.i64 a0_1), AV.v (Value.int IntKind.i64 a0_2), AV.v (Value.int IntKind.i64 a0_3), AV.v (Value.int IntKind.i64 a0_4)], AV.v (Value.int IntKind.i64 a1), AV.v (Value.int IntKind.i64 a2), AV.v (Value.int IntKind.i64 a3)] [] =
  .call 31 ([AV.v (Value.int IntKind.i64 a2)]) ([]) (Sh.one) ([Lf.b]) ([]) (fun x0 =>
   bif x0.1 then (
    .call 31 ([AV.v (Value.int IntKind.i64 a3)]) ([]) (Sh.one) ([Lf.b]) ([]) (fun x1 =>
     bif x1.1 then (
      .call 25 ([AV.agg [AV.v (Value.int IntKind.i64 a0_0), AV.v (Value.int IntKind.i64 a0_1), AV.v (Value.int IntKind.i64 a0_2), AV.v (Value.int IntKind.i64 a0_3), AV.v (Value.int IntKind.i64 a0_4)], AV.v (Value.int IntKind.i64 a1)]) ([]) (Sh.tup [(true, 5), (false, 1)]) ([Lf.i IntKind.i64, Lf.i IntKind.i64, Lf.i IntKind.i64, Lf.i IntKind.i64, Lf.i IntKind.i64, Lf.i IntKind.i64]) ([]) (fun x2 =>
       bif x2.2.2.2.2.2.1 != 0 then (
        .done (AV.tup [AV.agg [AV.v (Value.int IntKind.i64 x2.1), AV.v (Value.int IntKind.i64 x2.2.1), AV.v (Value.int IntKind.i64 x2.2.2.1), AV.v (Value.int IntKind.i64 x2.2.2.2.1), AV.v (Value.int IntKind.i64 x2.2.2.2.2.1)], AV.v (Value.int IntKind.i64 x2.2.2.2.2.2.1)]) ([]))
       else (
        bif decide (0 ≤ x2.2.2.2.1) then (
         bif decide (a2 < x2.2.2.2.1) then (
          .done (AV.tup [AV.agg [AV.v (Value.int IntKind.i64 x2.1), AV.v (Value.int IntKind.i64 x2.2.1), AV.v (Value.int IntKind.i64 x2.2.2.1), AV.v (Value.int IntKind.i64 x2.2.2.2.1), AV.v (Value.int IntKind.i64 x2.2.2.2.2.1)], AV.v (Value.int IntKind.i64 x2.2.2.2.2.2.1)]) ([]))
         else (
          .need (true) (
          .done (AV.tup [AV.agg [AV.v (Value.int IntKind.i64 (if IntKind.wrap IntKind.i64 (Int.tdiv x2.1 2) < 2400 then 2400 else IntKind.wrap IntKind.i64 (Int.tdiv x2.1 2))), AV.v (Value.int IntKind.i64 (if IntKind.wrap IntKind.i64 (Int.tdiv x2.1 2) < 2400 then 2400 else IntKind.wrap IntKind.i64 (Int.tdiv x2.1 2))), AV.v (Value.int IntKind.i64 x2.2.2.1), AV.v (Value.int IntKind.i64 (if 1099511627776 < IntKind.wrap IntKind.i64 (a3 + 1) then 1099511627776 else IntKind.wrap IntKind.i64 (a3 + 1))), AV.v (Value.int IntKind.i64 0)], AV.v (Value.int IntKind.i64 0)]) ([]))))
        else (
         .need (true) (
         .done (AV.tup [AV.agg [AV.v (Value.int IntKind.i64 (if IntKind.wrap IntKind.i64 (Int.tdiv x2.1 2) < 2400 then 2400 else IntKind.wrap IntKind.i64 (Int.tdiv x2.1 2))), AV.v (Value.int IntKind.i64 (if IntKind.wrap IntKind.i64 (Int.tdiv x2.1 2) < 2400 then 2400 else IntKind.wrap IntKind.i64 (Int.tdiv x2.1 2))), AV.v (Value.int IntKind.i64 x2.2.2.1), AV.v (Value.int IntKind.i64 (if 1099511627776 < IntKind.wrap IntKind.i64 (a3 + 1) then 1099511627776 else IntKind.wrap IntKind.i64 (a3 + 1))), AV.v (Value.int IntKind.i64 0)], AV.v (Value.int IntKind.i64 0)]) ([]))))))
     else (
      .done (AV.tup [AV.agg [AV.v (Value.int IntKind.i64 0), AV.v (Value.int IntKind.i64 0), AV.v (Value.int IntKind.i64 0), AV.v (Value.int IntKind.i64 0), AV.v (Value.int IntKind.i64 0)], AV.v (Value.int IntKind.i64 1)]) ([]))))
   else (
    .done (AV.tup [AV.agg [AV.v (Value.int IntKind.i64 0), AV.v (Value.int IntKind.i64 0), AV.v (Value.int IntKind.i64 0), AV.v (Value.int IntKind.i64 0), AV.v (Value.int IntKind.i64 0)], AV.v (Value.int IntKind.i64 1)]) ([]))) := by kernel_rfl
theorem ref07_Lost.c (a0_0 : Int) (a0_1 : Int) (a0_2 : Int) (a0_3 : Int) (a0_4 : Int) (a1 : Int) (a2 : Int) (a3 : Int) (w : World) : Quiet Try.prog 21 (AV.gs id [AV.agg [AV.v (Value.int IntKind.i64 a0_0), AV.v (Value.int IntKind.i64 a0_1), AV.v (Value.int IntKind.i64 a0_2), AV.v (Value.int IntKind.i64 a0_3), AV.v (Value.int IntKind.i64 a0_4)], AV.v (Value.int IntKind.i64 a1), AV.v (Value.int IntKind.i64 a2), AV.v (Value.int IntKind.i64 a3)]).toArray w ((Sh.tup [(true, 5), (false, 1)] : Sh).av (vs [Lf.i IntKind.i64, Lf.i IntKind.i64, Lf.i IntKind.i64, Lf.i IntKind.i64, Lf.i IntKind.i64, Lf.i IntKind.i64] (ref07_Lost.F a0_0 a0_1 a0_2 a0_3 a0_4 a1 a2 a3)) |>.g id) := by
  refine enter0 mixed noA noC [AV.agg [AV.v (Value.int IntKind.i64 a0_0), AV.v (Value.int IntKind.i64 a0_1), AV.v (Value.int IntKind.i64 a0_2), AV.v (Value.int IntKind.i64 a0_3), AV.v (Value.int IntKind.i64 a0_4)], AV.v (Value.int IntKind.i64 a1), AV.v (Value.int IntKind.i64 a2), AV.v (Value.int IntKind.i64 a3)] Try.func21 rfl rfl rfl (fun hF => ?_)
  rw [ref07_Lost.t]
  refine ok_callq (x := ref07_time.F a2) hF rfl (fun L w _ => ref07_time.c a2 w) (fun L w hF => ?_)
  refine ok_if (fun h0 => ?_) (fun h0 => ?_)
  · refine ok_callq (x := ref07_time.F a3) hF rfl (fun L w _ => ref07_time.c a3 w) (fun L w hF => ?_)
    refine ok_if (fun h1 => ?_) (fun h1 => ?_)
    · refine ok_callq (x := ref07_Gone.F a0_0 a0_1 a0_2 a0_3 a0_4 a1) hF rfl (fun L w _ => ref07_Gone.c a0_0 a0_1 a0_2 a0_3 a0_4 a1 w) (fun L w hF => ?_)
      refine ok_if (fun h2 => ?_) (fun h2 => ?_)
      · exact ok_done hF rfl (by rw [show ref07_Lost.F a0_0 a0_1 a0_2 a0_3 a0_4 a1 a2 a3 = ((ref07_Gone.F a0_0 a0_1 a0_2 a0_3 a0_4 a1).1, (ref07_Gone.F a0_0 a0_1 a0_2 a0_3 a0_4 a1).2.1, (ref07_Gone.F a0_0 a0_1 a0_2 a0_3 a0_4 a1).2.2.1, (ref07_Gone.F a0_0 a0_1 a0_2 a0_3 a0_4 a1).2.2.2.1, (ref07_Gone.F a0_0 a0_1 a0_2 a0_3 a0_4 a1).2.2.2.2.1, (ref07_Gone.F a0_0 a0_1 a0_2 a0_3 a0_4 a1).2.2.2.2.2.1, ()) from by unfold ref07_Lost.F; simp only [h0, h1, h2, cond_true, cond_false]]; rfl)
      · refine ok_if (fun h3 => ?_) (fun h3 => ?_)
        · refine ok_if (fun h4 => ?_) (fun h4 => ?_)
          · exact ok_done hF rfl (by rw [show ref07_Lost.F a0_0 a0_1 a0_2 a0_3 a0_4 a1 a2 a3 = ((ref07_Gone.F a0_0 a0_1 a0_2 a0_3 a0_4 a1).1, (ref07_Gone.F a0_0 a0_1 a0_2 a0_3 a0_4 a1).2.1, (ref07_Gone.F a0_0 a0_1 a0_2 a0_3 a0_4 a1).2.2.1, (ref07_Gone.F a0_0 a0_1 a0_2 a0_3 a0_4 a1).2.2.2.1, (ref07_Gone.F a0_0 a0_1 a0_2 a0_3 a0_4 a1).2.2.2.2.1, (ref07_Gone.F a0_0 a0_1 a0_2 a0_3 a0_4 a1).2.2.2.2.2.1, ()) from by unfold ref07_Lost.F; simp only [h0, h1, h2, h3, h4, cond_true, cond_false]]; rfl)
          · refine ok_need rfl ?_
            exact ok_done hF rfl (by rw [show ref07_Lost.F a0_0 a0_1 a0_2 a0_3 a0_4 a1 a2 a3 = ((if IntKind.wrap IntKind.i64 (Int.tdiv (ref07_Gone.F a0_0 a0_1 a0_2 a0_3 a0_4 a1).1 2) < 2400 then 2400 else IntKind.wrap IntKind.i64 (Int.tdiv (ref07_Gone.F a0_0 a0_1 a0_2 a0_3 a0_4 a1).1 2)), (if IntKind.wrap IntKind.i64 (Int.tdiv (ref07_Gone.F a0_0 a0_1 a0_2 a0_3 a0_4 a1).1 2) < 2400 then 2400 else IntKind.wrap IntKind.i64 (Int.tdiv (ref07_Gone.F a0_0 a0_1 a0_2 a0_3 a0_4 a1).1 2)), (ref07_Gone.F a0_0 a0_1 a0_2 a0_3 a0_4 a1).2.2.1, (if 1099511627776 < IntKind.wrap IntKind.i64 (a3 + 1) then 1099511627776 else IntKind.wrap IntKind.i64 (a3 + 1)), 0, 0, ()) from by unfold ref07_Lost.F; simp only [h0, h1, h2, h3, h4, cond_true, cond_false]]; rfl)
        · refine ok_need rfl ?_
          exact ok_done hF rfl (by rw [show ref07_Lost.F a0_0 a0_1 a0_2 a0_3 a0_4 a1 a2 a3 = ((if IntKind.wrap IntKind.i64 (Int.tdiv (ref07_Gone.F a0_0 a0_1 a0_2 a0_3 a0_4 a1).1 2) < 2400 then 2400 else IntKind.wrap IntKind.i64 (Int.tdiv (ref07_Gone.F a0_0 a0_1 a0_2 a0_3 a0_4 a1).1 2)), (if IntKind.wrap IntKind.i64 (Int.tdiv (ref07_Gone.F a0_0 a0_1 a0_2 a0_3 a0_4 a1).1 2) < 2400 then 2400 else IntKind.wrap IntKind.i64 (Int.tdiv (ref07_Gone.F a0_0 a0_1 a0_2 a0_3 a0_4 a1).1 2)), (ref07_Gone.F a0_0 a0_1 a0_2 a0_3 a0_4 a1).2.2.1, (if 1099511627776 < IntKind.wrap IntKind.i64 (a3 + 1) then 1099511627776 else IntKind.wrap IntKind.i64 (a3 + 1)), 0, 0, ()) from by unfold ref07_Lost.F; simp only [h0, h1, h2, h3, cond_true, cond_false]]; rfl)
    · exact ok_done hF rfl (by rw [show ref07_Lost.F a0_0 a0_1 a0_2 a0_3 a0_4 a1 a2 a3 = (0, 0, 0, 0, 0, 1, ()) from by unfold ref07_Lost.F; simp only [h0, h1, cond_true, cond_false]]; rfl)
  · exact ok_done hF rfl (by rw [show ref07_Lost.F a0_0 a0_1 a0_2 a0_3 a0_4 a1 a2 a3 = (0, 0, 0, 0, 0, 1, ()) from by unfold ref07_Lost.F; simp only [h0, cond_true, cond_false]]; rfl)
end Go.Proofs.Ytggemgbkkhpenaa.X
