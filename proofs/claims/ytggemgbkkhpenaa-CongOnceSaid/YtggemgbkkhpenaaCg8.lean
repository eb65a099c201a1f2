/- cong over a script: CongOnce. -/
import Derived.Test.YtggemgbkkhpenaaCg7
namespace Go.Proofs.Ytggemgbkkhpenaa.X
open Go Go.RowKit Go.Proofs.YtggemgbkkhpenaaW.Rx
set_option linter.unusedVariables false
set_option linter.unusedSimpArgs false
abbrev oA : Nat → LA := fun r => if r = 3 then ⟨[(21,false,[.i .i64])],[(2001, i5)]⟩ else if r = 11 then ⟨[(43,false,[.i .i64]),(10,false,[.i .i64])],[(2001, i5)]⟩ else ⟨[(77,false,[.i .i64])],[(23001, i5)]⟩
theorem good_of {s0 s1 s2 s3 s4 n : Int} (h : RP s0 s1 s2 s3 s4) (h1 : 1 ≤ n) (h2 : n ≤ 1200) : good s0 s1 s2 s3 s4 n = true := by
  unfold good
  rw [right_c, within_iff, Bool.and_eq_true, decide_eq_true_eq, decide_eq_true_eq]
  exact ⟨h, h1, h2⟩
theorem lost_eq2 {s0 s1 s2 s3 s4 t u : Int} (h : RP s0 s1 s2 s3 s4) (h2 : 100 ≤ s2) (ht : 0 ≤ t ∧ t ≤ 1099511627776) (hu : 0 ≤ u ∧ u ≤ 1099511627776) : cong_Lost.F s0 s1 s2 s3 s4 100 t u = ch true false (cl32.F s0 s1 s2 s3 s4 100 t u) := by
  unfold cong_Lost.F
  have e1 : times [t, u] = true := by simp [times, within_iff, ht, hu]
  rw [good_of h (by omega) (by omega), e1, decide_eq_false (by omega : ¬ s2 < 100)]
  rfl
theorem lost_go {s0 s1 s2 s3 s4 t u : Int} (h : RP s0 s1 s2 s3 s4) (h2 : 100 ≤ s2) (ht : 0 ≤ t ∧ t ≤ 1099511627776) (hu : 0 ≤ u ∧ u ≤ 1099511627776) : (cong_Lost.F s0 s1 s2 s3 s4 100 t u).2.2.2.2.2.1 = 0 := by
  rw [lost_eq2 h h2 ht hu]; rfl
theorem lost_stay {s0 s1 s2 s3 s4 t u : Int} (h : RP s0 s1 s2 s3 s4) (h2 : 100 ≤ s2) (ht : 0 ≤ t ∧ t ≤ 1099511627776) (hu : 0 ≤ u ∧ u ≤ 1099511627776) (hlt : t < s3) : (cong_Lost.F s0 s1 s2 s3 s4 100 t u).1 = s0 ∧ (cong_Lost.F s0 s1 s2 s3 s4 100 t u).2.1 = s1 ∧ (cong_Lost.F s0 s1 s2 s3 s4 100 t u).2.2.2.1 = s3 := by
  rw [lost_eq2 h h2 ht hu]
  unfold cl32.F
  rw [decide_eq_false (by omega : ¬ s3 ≤ t)]
  exact ⟨rfl, rfl, rfl⟩
theorem once.t (A : Option Addr) (len cap : Nat) (m now : Int) : tree Try.prog oA noC Try.f7 [.v (.slice A len cap), .v (.int .u8 m), .v (.int .i64 now)] [] =
  .call 15 ([]) ([]) (Sh.agg 5) ([Lf.i IntKind.i64, Lf.i IntKind.i64, Lf.i IntKind.i64, Lf.i IntKind.i64, Lf.i IntKind.i64]) ([]) (fun x0 =>
   .loop ([Lf.i IntKind.i64, Lf.i IntKind.i64, Lf.i IntKind.i64, Lf.i IntKind.i64, Lf.i IntKind.i64, Lf.i IntKind.i64]) ((0, x0.1, x0.2.1, x0.2.2.1, x0.2.2.2.1, x0.2.2.2.2.1, PUnit.unit)) 0 (fun x1 =>
    bif decide (x1.1 < ↑len) then (
     .need (decide (0 ≤ x1.1) && decide (x1.1 < ↑len) && Option.isSome A) (
     .ld (Option.map (fun x => Addr.add x (Int.toNat x1.1 * 4)) A) ([Lf.i IntKind.u8, Lf.i IntKind.i64, Lf.i IntKind.i64, Lf.i IntKind.i64]) (fun x2 =>
      .call 26 ([AV.agg [AV.v (Value.int IntKind.i64 x1.2.1), AV.v (Value.int IntKind.i64 x1.2.2.1), AV.v (Value.int IntKind.i64 x1.2.2.2.1), AV.v (Value.int IntKind.i64 x1.2.2.2.2.1), AV.v (Value.int IntKind.i64 x1.2.2.2.2.2.1)], AV.agg [AV.v (Value.int IntKind.u8 x2.1), AV.v (Value.int IntKind.i64 x2.2.1), AV.v (Value.int IntKind.i64 x2.2.2.1), AV.v (Value.int IntKind.i64 x2.2.2.2.1)]]) ([]) (Sh.tup [(true, 5), (false, 1)]) ([Lf.i IntKind.i64, Lf.i IntKind.i64, Lf.i IntKind.i64, Lf.i IntKind.i64, Lf.i IntKind.i64, Lf.i IntKind.i64]) ([]) (fun x3 =>
       .again 0 ([Lf.i IntKind.i64, Lf.i IntKind.i64, Lf.i IntKind.i64, Lf.i IntKind.i64, Lf.i IntKind.i64, Lf.i IntKind.i64]) ((IntKind.wrap IntKind.i64 (x1.1 + 1), x3.1, x3.2.1, x3.2.2.1, x3.2.2.2.1, x3.2.2.2.2.1, PUnit.unit))))))
    else (
     bif decide (now < 0) then (
      .call 17 ([]) ([]) (Sh.one) ([Lf.b]) ([]) (fun x2 =>
       bif x2.1 then (
        .done (AV.v (Value.bool true)) ([]))
       else (
        .done (AV.v (Value.bool false)) ([]))))
     else (
      bif decide (1099511627776 ≤ now) then (
       .call 17 ([]) ([]) (Sh.one) ([Lf.b]) ([]) (fun x2 =>
        bif x2.1 then (
         .done (AV.v (Value.bool true)) ([]))
        else (
         .done (AV.v (Value.bool false)) ([]))))
      else (
       .need (true) (
       .loop ([Lf.i IntKind.i64, Lf.i IntKind.i64, Lf.i IntKind.i64, Lf.i IntKind.i64, Lf.i IntKind.i64, Lf.i IntKind.i64, Lf.i IntKind.i64]) ((0, 0, x1.2.1, x1.2.2.1, x1.2.2.2.1, x1.2.2.2.2.1, x1.2.2.2.2.2.1, PUnit.unit)) 0 (fun x2 =>
        bif decide (x2.1 < IntKind.wrap IntKind.i64 (IntKind.wrap IntKind.i64 (Int.tmod m 8) + 2)) then (
         .call 22 ([AV.agg [AV.v (Value.int IntKind.i64 x2.2.2.1), AV.v (Value.int IntKind.i64 x2.2.2.2.1), AV.v (Value.int IntKind.i64 x2.2.2.2.2.1), AV.v (Value.int IntKind.i64 x2.2.2.2.2.2.1), AV.v (Value.int IntKind.i64 x2.2.2.2.2.2.2.1)], AV.v (Value.int IntKind.i64 100)]) ([]) (Sh.tup [(true, 5), (false, 1)]) ([Lf.i IntKind.i64, Lf.i IntKind.i64, Lf.i IntKind.i64, Lf.i IntKind.i64, Lf.i IntKind.i64, Lf.i IntKind.i64]) ([]) (fun x3 =>
          bif x3.2.2.2.2.2.1 == 0 then (
           .again 0 ([Lf.i IntKind.i64, Lf.i IntKind.i64, Lf.i IntKind.i64, Lf.i IntKind.i64, Lf.i IntKind.i64, Lf.i IntKind.i64, Lf.i IntKind.i64]) ((IntKind.wrap IntKind.i64 (x2.1 + 1), IntKind.wrap IntKind.i64 (x2.2.1 + 1), x3.1, x3.2.1, x3.2.2.1, x3.2.2.2.1, x3.2.2.2.2.1, PUnit.unit)))
          else (
           .again 0 ([Lf.i IntKind.i64, Lf.i IntKind.i64, Lf.i IntKind.i64, Lf.i IntKind.i64, Lf.i IntKind.i64, Lf.i IntKind.i64, Lf.i IntKind.i64]) ((IntKind.wrap IntKind.i64 (x2.1 + 1), x2.2.1, x2.2.2.1, x2.2.2.2.1, x2.2.2.2.2.1, x2.2.2.2.2.2.1, x2.2.2.2.2.2.2.1, PUnit.unit)))))
        else (
         bif decide (x2.2.1 < 2) then (
          .call 17 ([]) ([]) (Sh.one) ([Lf.b]) ([]) (fun x3 =>
           bif x3.1 then (
            .done (AV.v (Value.bool true)) ([]))
           else (
            .done (AV.v (Value.bool false)) ([]))))
         else (
          .call 20 ([AV.agg [AV.v (Value.int IntKind.i64 x2.2.2.1), AV.v (Value.int IntKind.i64 x2.2.2.2.1), AV.v (Value.int IntKind.i64 x2.2.2.2.2.1), AV.v (Value.int IntKind.i64 x2.2.2.2.2.2.1), AV.v (Value.int IntKind.i64 x2.2.2.2.2.2.2.1)], AV.v (Value.int IntKind.i64 100), AV.v (Value.int IntKind.i64 (if x2.2.2.2.2.2.1 < now then now else x2.2.2.2.2.2.1)), AV.v (Value.int IntKind.i64 (if x2.2.2.2.2.2.1 < now then now else x2.2.2.2.2.2.1))]) ([]) (Sh.tup [(true, 5), (false, 1)]) ([Lf.i IntKind.i64, Lf.i IntKind.i64, Lf.i IntKind.i64, Lf.i IntKind.i64, Lf.i IntKind.i64, Lf.i IntKind.i64]) ([]) (fun x3 =>
           bif x3.2.2.2.2.2.1 != 0 then (
            .done (AV.v (Value.bool false)) ([]))
           else (
            .loop ([Lf.i IntKind.i64, Lf.i IntKind.i64, Lf.i IntKind.i64, Lf.i IntKind.i64, Lf.i IntKind.i64, Lf.i IntKind.i64]) ((0, x3.1, x3.2.1, x3.2.2.1, x3.2.2.2.1, x3.2.2.2.2.1, PUnit.unit)) 0 (fun x4 =>
             bif decide (x4.1 < IntKind.wrap IntKind.i64 (x2.2.1 - 1)) then (
              .call 20 ([AV.agg [AV.v (Value.int IntKind.i64 x4.2.1), AV.v (Value.int IntKind.i64 x4.2.2.1), AV.v (Value.int IntKind.i64 x4.2.2.2.1), AV.v (Value.int IntKind.i64 x4.2.2.2.2.1), AV.v (Value.int IntKind.i64 x4.2.2.2.2.2.1)], AV.v (Value.int IntKind.i64 100), AV.v (Value.int IntKind.i64 (if x2.2.2.2.2.2.1 < now then now else x2.2.2.2.2.2.1)), AV.v (Value.int IntKind.i64 1099511627776)]) ([]) (Sh.tup [(true, 5), (false, 1)]) ([Lf.i IntKind.i64, Lf.i IntKind.i64, Lf.i IntKind.i64, Lf.i IntKind.i64, Lf.i IntKind.i64, Lf.i IntKind.i64]) ([]) (fun x5 =>
               bif x5.2.2.2.2.2.1 != 0 then (
                .done (AV.v (Value.bool false)) ([]))
               else (
                bif decide ((if x2.2.2.2.2.2.1 < now then now else x2.2.2.2.2.2.1) < x3.2.2.2.1) then (
                 bif x5.1 != x3.1 then (
                  .done (AV.v (Value.bool false)) ([]))
                 else (
                  bif x5.2.1 != x3.2.1 then (
                   .done (AV.v (Value.bool false)) ([]))
                  else (
                   bif x5.2.2.1 != IntKind.wrap IntKind.i64 (x4.2.2.2.1 - 100) then (
                    .done (AV.v (Value.bool false)) ([]))
                   else (
                    .again 0 ([Lf.i IntKind.i64, Lf.i IntKind.i64, Lf.i IntKind.i64, Lf.i IntKind.i64, Lf.i IntKind.i64, Lf.i IntKind.i64]) ((IntKind.wrap IntKind.i64 (x4.1 + 1), x5.1, x5.2.1, x5.2.2.1, x5.2.2.2.1, x5.2.2.2.2.1, PUnit.unit))))))
                else (
                 .again 0 ([Lf.i IntKind.i64, Lf.i IntKind.i64, Lf.i IntKind.i64, Lf.i IntKind.i64, Lf.i IntKind.i64, Lf.i IntKind.i64]) ((IntKind.wrap IntKind.i64 (x4.1 + 1), x5.1, x5.2.1, x5.2.2.1, x5.2.2.2.1, x5.2.2.2.2.1, PUnit.unit))))))
             else (
              .call 17 ([]) ([]) (Sh.one) ([Lf.b]) ([]) (fun x5 =>
               bif x5.1 then (
                .done (AV.v (Value.bool true)) ([]))
               else (
                .done (AV.v (Value.bool false)) ([])))))))))))))))) := by kernel_rfl
set_option maxHeartbeats 4000000 in
theorem once.c (A : Option Addr) (len cap : Nat) (m now : Int) (hlen : len < 2 ^ 60) (rd : Nat → Int × Int × Int × Int) (w : World) (hA : Script A len rd w) : Quiet Try.prog 7 #[.slice A len cap, .int .u8 m, .int .i64 now] w (.bool true) := by
  refine enter0 mixed oA noC [.v (.slice A len cap), .v (.int .u8 m), .v (.int .i64 now)] Try.func7 rfl rfl rfl (fun hF => ?_)
  rw [once.t]
  refine ok_callq (x := cong_New.F) hF rfl (fun L w2 _ => cong_New.c w2) (fun L w1 hF => ?_)
  refine ok_loop (fun m_ (y : Tup [Lf.i .i64, Lf.i .i64, Lf.i .i64, Lf.i .i64, Lf.i .i64, Lf.i .i64]) L w' => ∃ (j : Nat) (s0 s1 s2 s3 s4 : Int), j ≤ len ∧ m_ = len - j ∧ RP s0 s1 s2 s3 s4 ∧ y = ((j : Int), s0, s1, s2, s3, s4, ()) ∧ Fine (fun _ => False) w L w') len ⟨0, 12000, 0, 0, -1, 0, Nat.zero_le _, rfl, by decide, rfl, hF⟩ ?_
  rintro m_ y L w1 ⟨j, s0, s1, s2, s3, s4, hj, rfl, hR, rfl, hF⟩
  dsimp only
  refine ok_if (fun h1 => ?_) (fun h1 => ?_)
  · have hlt : j < len := by simpa using h1
    have hw : IntKind.i64.wrap ((j : Int) + 1) = ((j + 1 : Nat) : Int) := by
      rw [wrap_small ((j : Int) + 1) (by omega) (by omega)]; omega
    have hAj := hA j hlt
    rcases hrd : rd j with ⟨k, n, t, u⟩
    rw [hrd] at hAj
    obtain ⟨ad, rfl, hc⟩ := hAj
    obtain ⟨hsp, hbl⟩ := cell_spot (hc 0 _ rfl)
    refine ok_need (by simp; omega) ?_
    refine ok_lds (ad := ad.add (j * 4)) (k, n, t, u, ()) hF (by simp) (fun h => h) (by simpa using hsp) (by simpa using hbl) (fun i v hv => by rw [add_add ad (by simpa using hsp)]; exact hc i v hv) ?_
    refine ok_callq (x := law07_does.F s0 s1 s2 s3 s4 k n t u) hF rfl (fun L w2 _ => law07_does.c s0 s1 s2 s3 s4 k n t u w2) (fun L w2 hF => ?_)
    obtain ⟨d1, d2, d3⟩ := does_ok s0 s1 s2 s3 s4 k n t u hR
    generalize law07_does.F s0 s1 s2 s3 s4 k n t u = x at d1 d2 d3 ⊢
    exact ok_again (I := (fun m_ (y : Tup [Lf.i .i64, Lf.i .i64, Lf.i .i64, Lf.i .i64, Lf.i .i64, Lf.i .i64]) L w' => ∃ (j : Nat) (s0 s1 s2 s3 s4 : Int), j ≤ len ∧ m_ = len - j ∧ RP s0 s1 s2 s3 s4 ∧ y = ((j : Int), s0, s1, s2, s3, s4, ()) ∧ Fine (fun _ => False) w L w')) (len - (j + 1)) (by omega) (fun L w2 he => ⟨j + 1, x.1, x.2.1, x.2.2.1, x.2.2.2.1, x.2.2.2.2.1, hlt, rfl, d1, by rw [hw], hF.ext he⟩)
  clear h1 hj
  refine ok_if (fun h2 => ?_) (fun h2 => ?_)
  ·
    refine ok_callq (x := law07_alive.F) hF rfl (fun L w2 _ => law07_alive.c w2) (fun L w2 hF => ?_)
    rw [alive_true]
    exact ok_done hF rfl rfl
  refine ok_if (fun h3 => ?_) (fun h3 => ?_)
  ·
    refine ok_callq (x := law07_alive.F) hF rfl (fun L w2 _ => law07_alive.c w2) (fun L w2 hF => ?_)
    rw [alive_true]
    exact ok_done hF rfl rfl
  have hn0 : 0 ≤ now := by have := of_decide_eq_false h2; omega
  have hn1 : now < 1099511627776 := by have := of_decide_eq_false h3; omega
  refine ok_need rfl ?_
  have hR' := hR
  unfold RP at hR'
  refine ok_loop (fun m_ (y : Tup [Lf.i .i64, Lf.i .i64, Lf.i .i64, Lf.i .i64, Lf.i .i64, Lf.i .i64, Lf.i .i64]) L w' => ∃ (j c s0 s1 s2 s3 s4 : Int), 0 ≤ j ∧ j ≤ 9 ∧ 0 ≤ c ∧ c ≤ j ∧ 100 * c ≤ s2 ∧ m_ = (9 - j).toNat ∧ RP s0 s1 s2 s3 s4 ∧ y = (j, c, s0, s1, s2, s3, s4, ()) ∧ Fine (fun _ => False) w L w') 9 ⟨0, 0, s0, s1, s2, s3, s4, by omega, by omega, by omega, by omega, by omega, rfl, hR, rfl, hF⟩ ?_
  clear hF hR hR'
  rintro m_ y L w1 ⟨j, c, s0, s1, s2, s3, s4, hj0, hj9, hc0, hcj, hfl, rfl, hR, rfl, hF⟩
  dsimp only
  have hR' := hR
  unfold RP at hR'
  have hmod : -8 < Int.tmod m 8 ∧ Int.tmod m 8 < 8 := ⟨Int.lt_tmod_of_pos m (by omega), Int.tmod_lt_of_pos m (by omega)⟩
  rw [wrap_in (Int.tmod m 8) (by omega) (by omega), wrap_in (Int.tmod m 8 + 2) (by omega) (by omega)]
  refine ok_if (fun h4 => ?_) (fun h4 => ?_)
  · have h4 : j < Int.tmod m 8 + 2 := of_decide_eq_true h4
    refine ok_callq (x := cong_Sent.F s0 s1 s2 s3 s4 100) hF rfl (fun L w2 _ => cong_Sent.c s0 s1 s2 s3 s4 100 w2) (fun L w2 hF => ?_)
    have hwj : IntKind.i64.wrap (j + 1) = j + 1 := wrap_in _ (by omega) (by omega)
    have hwc : IntKind.i64.wrap (c + 1) = c + 1 := wrap_in _ (by omega) (by omega)
    refine ok_if (fun e1 => ?_) (fun e1 => ?_)
    · obtain ⟨g1, g2, g3, g4, g5, g6⟩ := sent_ok (by simpa using e1 : (cong_Sent.F s0 s1 s2 s3 s4 100).2.2.2.2.2.1 = 0)
      rw [g1]
      exact ok_again (I := (fun m_ (y : Tup [Lf.i .i64, Lf.i .i64, Lf.i .i64, Lf.i .i64, Lf.i .i64, Lf.i .i64, Lf.i .i64]) L w' => ∃ (j c s0 s1 s2 s3 s4 : Int), 0 ≤ j ∧ j ≤ 9 ∧ 0 ≤ c ∧ c ≤ j ∧ 100 * c ≤ s2 ∧ m_ = (9 - j).toNat ∧ RP s0 s1 s2 s3 s4 ∧ y = (j, c, s0, s1, s2, s3, s4, ()) ∧ Fine (fun _ => False) w L w')) (9 - (j + 1)).toNat (by omega) (fun L w2 he => ⟨j + 1, c + 1, s0, s1, s2 + 100, s3, s4, by omega, by omega, by omega, by omega, by omega, rfl, g3, by rw [hwj, hwc], hF.ext he⟩)
    · exact ok_again (I := (fun m_ (y : Tup [Lf.i .i64, Lf.i .i64, Lf.i .i64, Lf.i .i64, Lf.i .i64, Lf.i .i64, Lf.i .i64]) L w' => ∃ (j c s0 s1 s2 s3 s4 : Int), 0 ≤ j ∧ j ≤ 9 ∧ 0 ≤ c ∧ c ≤ j ∧ 100 * c ≤ s2 ∧ m_ = (9 - j).toNat ∧ RP s0 s1 s2 s3 s4 ∧ y = (j, c, s0, s1, s2, s3, s4, ()) ∧ Fine (fun _ => False) w L w')) (9 - (j + 1)).toNat (by omega) (fun L w2 he => ⟨j + 1, c, s0, s1, s2, s3, s4, by omega, by omega, by omega, by omega, by omega, rfl, hR, by rw [hwj], hF.ext he⟩)
  refine ok_if (fun h5 => ?_) (fun h5 => ?_)
  ·
    refine ok_callq (x := law07_alive.F) hF rfl (fun L w2 _ => law07_alive.c w2) (fun L w2 hF => ?_)
    rw [alive_true]
    exact ok_done hF rfl rfl
  have h5 : ¬ c < 2 := of_decide_eq_false h5
  have hM : 0 ≤ (if s3 < now then now else s3) ∧ (if s3 < now then now else s3) ≤ 1099511627776 := by split <;> omega
  generalize (if s3 < now then now else s3) = M at hM ⊢
  refine ok_callq (x := cong_Lost.F s0 s1 s2 s3 s4 100 M M) hF rfl (fun L w2 _ => cong_Lost.c s0 s1 s2 s3 s4 100 M M w2) (fun L w2 hF => ?_)
  have g0 := lost_go hR (by omega) hM hM
  obtain ⟨g1, g2, g3, g4, g5⟩ := lost_ok g0
  generalize cong_Lost.F s0 s1 s2 s3 s4 100 M M = x3 at g0 g1 g3 ⊢
  unfold RPt at g3
  refine ok_if (fun e1 => ?_) (fun e1 => ?_)
  · exact absurd e1 (by rw [g0]; decide)
  refine ok_loop (fun m_ (y : Tup [Lf.i .i64, Lf.i .i64, Lf.i .i64, Lf.i .i64, Lf.i .i64, Lf.i .i64]) L w' => ∃ (i b0 b1 b2 b3 b4 : Int), 0 ≤ i ∧ i ≤ c - 1 ∧ 100 * (c - 1 - i) ≤ b2 ∧ m_ = (9 - i).toNat ∧ RP b0 b1 b2 b3 b4 ∧ (M < x3.2.2.2.1 → b0 = x3.1 ∧ b1 = x3.2.1 ∧ b3 = x3.2.2.2.1) ∧ y = (i, b0, b1, b2, b3, b4, ()) ∧ Fine (fun _ => False) w L w') 9 ⟨0, x3.1, x3.2.1, x3.2.2.1, x3.2.2.2.1, x3.2.2.2.2.1, by omega, by omega, by rw [g1]; omega, rfl, g3, fun _ => ⟨rfl, rfl, rfl⟩, rfl, hF⟩ ?_
  clear hF
  rintro m_ y L w1 ⟨i, b0, b1, b2, b3, b4, hi0, hi1, hb, rfl, hRb, hsame, rfl, hF⟩
  dsimp only
  have hRb' := hRb
  unfold RP at hRb'
  rw [wrap_in (c - 1) (by omega) (by omega)]
  refine ok_if (fun h6 => ?_) (fun h6 => ?_)
  · have h6 : i < c - 1 := of_decide_eq_true h6
    have hwi : IntKind.i64.wrap (i + 1) = i + 1 := wrap_in _ (by omega) (by omega)
    have hwb : IntKind.i64.wrap (b2 - 100) = b2 - 100 := wrap_in _ (by omega) (by omega)
    refine ok_callq (x := cong_Lost.F b0 b1 b2 b3 b4 100 M 1099511627776) hF rfl (fun L w2 _ => cong_Lost.c b0 b1 b2 b3 b4 100 M 1099511627776 w2) (fun L w2 hF => ?_)
    have k0 := lost_go (u := 1099511627776) hRb (by omega) hM (by omega)
    obtain ⟨k1, k2, k3, k4, k5⟩ := lost_ok k0
    have kst := fun hlt => lost_stay (u := 1099511627776) hRb (by omega) hM (by omega) (t := M) hlt
    generalize cong_Lost.F b0 b1 b2 b3 b4 100 M 1099511627776 = x5 at k0 k1 k3 kst ⊢
    unfold RPt at k3
    refine ok_if (fun e1 => ?_) (fun e1 => ?_)
    · exact absurd e1 (by rw [k0]; decide)
    refine ok_if (fun e2 => ?_) (fun e2 => ?_)
    · have e2 : M < x3.2.2.2.1 := of_decide_eq_true e2
      obtain ⟨q1, q2, q3⟩ := hsame e2
      obtain ⟨p1, p2, p3⟩ := kst (by rw [q3]; exact e2)
      rw [q1] at p1
      rw [q2] at p2
      rw [q3] at p3
      refine ok_if (fun e3 => ?_) (fun e3 => ?_)
      · exact absurd e3 (by rw [p1]; simp)
      refine ok_if (fun e4 => ?_) (fun e4 => ?_)
      · exact absurd e4 (by rw [p2]; simp)
      refine ok_if (fun e5 => ?_) (fun e5 => ?_)
      · exact absurd e5 (by rw [k1, hwb]; simp)
      exact ok_again (I := (fun m_ (y : Tup [Lf.i .i64, Lf.i .i64, Lf.i .i64, Lf.i .i64, Lf.i .i64, Lf.i .i64]) L w' => ∃ (i b0 b1 b2 b3 b4 : Int), 0 ≤ i ∧ i ≤ c - 1 ∧ 100 * (c - 1 - i) ≤ b2 ∧ m_ = (9 - i).toNat ∧ RP b0 b1 b2 b3 b4 ∧ (M < x3.2.2.2.1 → b0 = x3.1 ∧ b1 = x3.2.1 ∧ b3 = x3.2.2.2.1) ∧ y = (i, b0, b1, b2, b3, b4, ()) ∧ Fine (fun _ => False) w L w')) (9 - (i + 1)).toNat (by omega) (fun L w2 he => ⟨i + 1, x5.1, x5.2.1, x5.2.2.1, x5.2.2.2.1, x5.2.2.2.2.1, by omega, by omega, by rw [k1]; omega, rfl, k3, fun _ => ⟨p1, p2, p3⟩, by rw [hwi], hF.ext he⟩)
    · have e2 : ¬ M < x3.2.2.2.1 := of_decide_eq_false e2
      exact ok_again (I := (fun m_ (y : Tup [Lf.i .i64, Lf.i .i64, Lf.i .i64, Lf.i .i64, Lf.i .i64, Lf.i .i64]) L w' => ∃ (i b0 b1 b2 b3 b4 : Int), 0 ≤ i ∧ i ≤ c - 1 ∧ 100 * (c - 1 - i) ≤ b2 ∧ m_ = (9 - i).toNat ∧ RP b0 b1 b2 b3 b4 ∧ (M < x3.2.2.2.1 → b0 = x3.1 ∧ b1 = x3.2.1 ∧ b3 = x3.2.2.2.1) ∧ y = (i, b0, b1, b2, b3, b4, ()) ∧ Fine (fun _ => False) w L w')) (9 - (i + 1)).toNat (by omega) (fun L w2 he => ⟨i + 1, x5.1, x5.2.1, x5.2.2.1, x5.2.2.2.1, x5.2.2.2.2.1, by omega, by omega, by rw [k1]; omega, rfl, k3, fun h => absurd h e2, by rw [hwi], hF.ext he⟩)
  refine ok_callq (x := law07_alive.F) hF rfl (fun L w2 _ => law07_alive.c w2) (fun L w2 hF => ?_)
  rw [alive_true]
  exact ok_done hF rfl rfl
end Go.Proofs.Ytggemgbkkhpenaa.X
