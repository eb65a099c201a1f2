/- cong over a script: CongBounds, CongFlight. -/
import Derived.Test.YtggemgbkkhpenaaCg6
namespace Go.Proofs.Ytggemgbkkhpenaa.X
open Go Go.RowKit Go.Proofs.YtggemgbkkhpenaaW.Rx
set_option linter.unusedVariables false
set_option linter.unusedSimpArgs false
abbrev i5 : List Lf := [.i .i64, .i .i64, .i .i64, .i .i64, .i .i64]
abbrev bA : Nat → LA := fun _ => ⟨[(11,false,[.i .i64])],[(2001, i5)]⟩
abbrev fA : Nat → LA := fun _ => ⟨[(12,false,[.i .i64]),(4,false,[.i .i64])],[(2001, i5)]⟩
theorem add_add (ad : Addr) {m : Nat} (h : (ad.add m).spot = none) (i : Nat) : (ad.add m).add i = ad.add (m + i) := by
  cases ad with
  | mk b o s =>
    unfold Addr.add at h ⊢
    by_cases hm : m = 0
    · subst hm; simp
    · by_cases hi : i = 0
      · subst hi; simp [hm]
      · simp only [hm, hi, if_false]
        rw [if_neg (by omega)]
        simp <;> omega
theorem add_block (ad : Addr) (i : Nat) : (ad.add i).block = ad.block := by
  unfold Addr.add; split <;> rfl
/-- What the script's cells hold. -/
def Script (A : Option Addr) (len : Nat) (rd : Nat → Int × Int × Int × Int) (w : World) : Prop := ∀ j, j < len → ∃ ad, A = some ad ∧ ∀ (i : Nat) (u : Value), ([.int .u8 (rd j).1, .int .i64 (rd j).2.1, .int .i64 (rd j).2.2.1, .int .i64 (rd j).2.2.2] : List Value)[i]? = some u → w.cell? (ad.add (j * 4 + i)) = some u
theorem ok_lds {P : Program} {R : Ending → World → Prop} {pin : List (Nat × Nat)} {J : Jt} {S Lu : Nat → Prop} {w0 wu : World} {a : Option Addr} {ad : Addr} {ls : List Lf} {k : Tup ls → XT} (x : Tup ls) (h : Fine S w0 Lu wu) (ha : a = some ad) (hS : ¬ S ad.block) (hs : ad.spot = none) (hb : ad.block < w0.heap.size) (hc : ∀ (i : Nat) (v : Value), (Tup.V ls x)[i]? = some v → w0.cell? (ad.add i) = some v) (hk : (k x).ok P pin R J Lu wu) : (XT.ld a ls k).ok P pin R J Lu wu := by
  refine ⟨ad, x, ha, hs, Nat.lt_of_lt_of_le hb h.size, ?_, ?_, hk⟩
  · intro hl
    rcases h.hid _ hl with h3 | h3
    · exact hS h3
    · omega
  · intro j v hv
    exact cell_fine h (by rw [add_block]; exact hS) (hc j v hv)
theorem bounds.t (A : Option Addr) (len cap : Nat) : tree Try.prog bA noC Try.f6 [.v (.slice A len cap)] [] =
  .call 15 ([]) ([]) (Sh.agg 5) ([Lf.i IntKind.i64, Lf.i IntKind.i64, Lf.i IntKind.i64, Lf.i IntKind.i64, Lf.i IntKind.i64]) ([]) (fun x0 =>
   .loop ([Lf.i IntKind.i64, Lf.i IntKind.i64, Lf.i IntKind.i64, Lf.i IntKind.i64, Lf.i IntKind.i64, Lf.i IntKind.i64]) ((0, x0.1, x0.2.1, x0.2.2.1, x0.2.2.2.1, x0.2.2.2.2.1, PUnit.unit)) 0 (fun x1 =>
    bif decide (x1.1 < ↑len) then (
     .need (decide (0 ≤ x1.1) && decide (x1.1 < ↑len) && Option.isSome A) (
     .ld (Option.map (fun x => Addr.add x (Int.toNat x1.1 * 4)) A) ([Lf.i IntKind.u8, Lf.i IntKind.i64, Lf.i IntKind.i64, Lf.i IntKind.i64]) (fun x2 =>
      .call 26 ([AV.agg [AV.v (Value.int IntKind.i64 x1.2.1), AV.v (Value.int IntKind.i64 x1.2.2.1), AV.v (Value.int IntKind.i64 x1.2.2.2.1), AV.v (Value.int IntKind.i64 x1.2.2.2.2.1), AV.v (Value.int IntKind.i64 x1.2.2.2.2.2.1)], AV.agg [AV.v (Value.int IntKind.u8 x2.1), AV.v (Value.int IntKind.i64 x2.2.1), AV.v (Value.int IntKind.i64 x2.2.2.1), AV.v (Value.int IntKind.i64 x2.2.2.2.1)]]) ([]) (Sh.tup [(true, 5), (false, 1)]) ([Lf.i IntKind.i64, Lf.i IntKind.i64, Lf.i IntKind.i64, Lf.i IntKind.i64, Lf.i IntKind.i64, Lf.i IntKind.i64]) ([]) (fun x3 =>
       bif x3.2.2.2.2.2.1 == 0 then (
        .need (true) (
        bif Int.tmod x2.1 4 == 0 then (
         bif decide (x3.1 < x3.2.2.1) then (
          .done (AV.v (Value.bool false)) ([]))
         else (
          .call 14 ([AV.agg [AV.v (Value.int IntKind.i64 x3.1), AV.v (Value.int IntKind.i64 x3.2.1), AV.v (Value.int IntKind.i64 x3.2.2.1), AV.v (Value.int IntKind.i64 x3.2.2.2.1), AV.v (Value.int IntKind.i64 x3.2.2.2.2.1)]]) ([]) (Sh.agg 5) ([Lf.i IntKind.i64, Lf.i IntKind.i64, Lf.i IntKind.i64, Lf.i IntKind.i64, Lf.i IntKind.i64]) ([]) (fun x4 =>
           .call 11 ([AV.agg [AV.v (Value.int IntKind.i64 x4.1), AV.v (Value.int IntKind.i64 x4.2.1), AV.v (Value.int IntKind.i64 x4.2.2.1), AV.v (Value.int IntKind.i64 x4.2.2.2.1), AV.v (Value.int IntKind.i64 x4.2.2.2.2.1)]]) ([]) (Sh.one) ([Lf.b]) ([]) (fun x5 =>
            bif x5.1 then (
             bif decide (x3.1 < 2400) then (
              .done (AV.v (Value.bool false)) ([]))
             else (
              .again 0 ([Lf.i IntKind.i64, Lf.i IntKind.i64, Lf.i IntKind.i64, Lf.i IntKind.i64, Lf.i IntKind.i64, Lf.i IntKind.i64]) ((IntKind.wrap IntKind.i64 (x1.1 + 1), x3.1, x3.2.1, x3.2.2.1, x3.2.2.2.1, x3.2.2.2.2.1, PUnit.unit))))
            else (
             .done (AV.v (Value.bool false)) ([]))))))
        else (
         .call 14 ([AV.agg [AV.v (Value.int IntKind.i64 x3.1), AV.v (Value.int IntKind.i64 x3.2.1), AV.v (Value.int IntKind.i64 x3.2.2.1), AV.v (Value.int IntKind.i64 x3.2.2.2.1), AV.v (Value.int IntKind.i64 x3.2.2.2.2.1)]]) ([]) (Sh.agg 5) ([Lf.i IntKind.i64, Lf.i IntKind.i64, Lf.i IntKind.i64, Lf.i IntKind.i64, Lf.i IntKind.i64]) ([]) (fun x4 =>
          .call 11 ([AV.agg [AV.v (Value.int IntKind.i64 x4.1), AV.v (Value.int IntKind.i64 x4.2.1), AV.v (Value.int IntKind.i64 x4.2.2.1), AV.v (Value.int IntKind.i64 x4.2.2.2.1), AV.v (Value.int IntKind.i64 x4.2.2.2.2.1)]]) ([]) (Sh.one) ([Lf.b]) ([]) (fun x5 =>
           bif x5.1 then (
            bif decide (x3.1 < 2400) then (
             .done (AV.v (Value.bool false)) ([]))
            else (
             .again 0 ([Lf.i IntKind.i64, Lf.i IntKind.i64, Lf.i IntKind.i64, Lf.i IntKind.i64, Lf.i IntKind.i64, Lf.i IntKind.i64]) ((IntKind.wrap IntKind.i64 (x1.1 + 1), x3.1, x3.2.1, x3.2.2.1, x3.2.2.2.1, x3.2.2.2.2.1, PUnit.unit))))
           else (
            .done (AV.v (Value.bool false)) ([])))))))
       else (
        .call 14 ([AV.agg [AV.v (Value.int IntKind.i64 x3.1), AV.v (Value.int IntKind.i64 x3.2.1), AV.v (Value.int IntKind.i64 x3.2.2.1), AV.v (Value.int IntKind.i64 x3.2.2.2.1), AV.v (Value.int IntKind.i64 x3.2.2.2.2.1)]]) ([]) (Sh.agg 5) ([Lf.i IntKind.i64, Lf.i IntKind.i64, Lf.i IntKind.i64, Lf.i IntKind.i64, Lf.i IntKind.i64]) ([]) (fun x4 =>
         .call 11 ([AV.agg [AV.v (Value.int IntKind.i64 x4.1), AV.v (Value.int IntKind.i64 x4.2.1), AV.v (Value.int IntKind.i64 x4.2.2.1), AV.v (Value.int IntKind.i64 x4.2.2.2.1), AV.v (Value.int IntKind.i64 x4.2.2.2.2.1)]]) ([]) (Sh.one) ([Lf.b]) ([]) (fun x5 =>
          bif x5.1 then (
           bif decide (x3.1 < 2400) then (
            .done (AV.v (Value.bool false)) ([]))
           else (
            .again 0 ([Lf.i IntKind.i64, Lf.i IntKind.i64, Lf.i IntKind.i64, Lf.i IntKind.i64, Lf.i IntKind.i64, Lf.i IntKind.i64]) ((IntKind.wrap IntKind.i64 (x1.1 + 1), x3.1, x3.2.1, x3.2.2.1, x3.2.2.2.1, x3.2.2.2.2.1, PUnit.unit))))
          else (
           .done (AV.v (Value.bool false)) ([])))))))))
    else (
     .call 17 ([]) ([]) (Sh.one) ([Lf.b]) ([]) (fun x2 =>
      bif x2.1 then (
       .done (AV.v (Value.bool true)) ([]))
      else (
       .done (AV.v (Value.bool false)) ([])))))) := by kernel_rfl
set_option maxHeartbeats 2000000 in
theorem bounds.c (A : Option Addr) (len cap : Nat) (hlen : len < 2 ^ 60) (rd : Nat → Int × Int × Int × Int) (w : World) (hA : Script A len rd w) : Quiet Try.prog 6 #[.slice A len cap] w (.bool true) := by
  refine enter0 mixed bA noC [.v (.slice A len cap)] Try.func6 rfl rfl rfl (fun hF => ?_)
  rw [bounds.t]
  refine ok_callq (x := cong_New.F) hF rfl (fun L w2 _ => cong_New.c w2) (fun L w1 hF => ?_)
  refine ok_loop (fun m (y : Tup [Lf.i .i64, Lf.i .i64, Lf.i .i64, Lf.i .i64, Lf.i .i64, Lf.i .i64]) L w' => ∃ (j : Nat) (s0 s1 s2 s3 s4 : Int), j ≤ len ∧ m = len - j ∧ RP s0 s1 s2 s3 s4 ∧ y = ((j : Int), s0, s1, s2, s3, s4, ()) ∧ Fine (fun _ => False) w L w') len ⟨0, 12000, 0, 0, -1, 0, Nat.zero_le _, rfl, by decide, rfl, hF⟩ ?_
  rintro m y L w1 ⟨j, s0, s1, s2, s3, s4, hj, rfl, hR, rfl, hF⟩
  dsimp only
  refine ok_if (fun h1 => ?_) (fun h1 => ?_)
  · have hlt : j < len := by simpa using h1
    have hw : IntKind.i64.wrap ((j : Int) + 1) = ((j + 1 : Nat) : Int) := by
      rw [wrap_small ((j : Int) + 1) (by omega) (by omega)]; omega
    have hAj := hA j hlt
    rcases hrd : rd j with ⟨k, n, t, u⟩
    rw [hrd] at hAj
    obtain ⟨ad, rfl, hc⟩ := hAj
    obtain ⟨hsp, hbl⟩ := cell_spot (hc 0 _ rfl)
    refine ok_need (by simp; omega) ?_
    refine ok_lds (ad := ad.add (j * 4)) (k, n, t, u, ()) hF (by simp) (fun h => h) (by simpa using hsp) (by simpa using hbl) (fun i v hv => by rw [add_add ad (by simpa using hsp)]; exact hc i v hv) ?_
    refine ok_callq (x := law07_does.F s0 s1 s2 s3 s4 k n t u) hF rfl (fun L w2 _ => law07_does.c s0 s1 s2 s3 s4 k n t u w2) (fun L w2 hF => ?_)
    obtain ⟨d1, d2, d3⟩ := does_ok s0 s1 s2 s3 s4 k n t u hR
    generalize law07_does.F s0 s1 s2 s3 s4 k n t u = x at d1 d2 d3 ⊢
    unfold RPt at d1
    refine ok_if (fun e1 => ?_) (fun e1 => ?_)
    · have e1 : x.2.2.2.2.2.1 = 0 := by simpa using e1
      refine ok_need rfl ?_
      refine ok_if (fun e2 => ?_) (fun e2 => ?_)
      · have e2 : Int.tmod k 4 = 0 := by simpa using e2
        refine ok_if (fun e3 => ?_) (fun e3 => ?_)
        · exact absurd (of_decide_eq_true e3) (Int.not_lt.2 ((d2 e1).1 e2).2)
        ·
          refine ok_callq (x := law07_ours.F x.1 x.2.1 x.2.2.1 x.2.2.2.1 x.2.2.2.2.1) hF rfl (fun L w2 _ => law07_ours.c x.1 x.2.1 x.2.2.1 x.2.2.2.1 x.2.2.2.2.1 w2) (fun L w2 hF => ?_)
          refine ok_callq (x := ref07_Right.F x.1 x.2.1 x.2.2.1 x.2.2.2.1 x.2.2.2.2.1) hF rfl (fun L w2 _ => ref07_Right.c x.1 x.2.1 x.2.2.1 x.2.2.2.1 x.2.2.2.2.1 w2) (fun L w2 hF => ?_)
          rw [right_r, decide_eq_true d1]
          refine ok_if (fun _ => ?_) (fun r1 => by cases r1)
          refine ok_if (fun r2 => ?_) (fun r2 => ?_)
          · exact absurd (of_decide_eq_true r2) (Int.not_lt.2 d1.1)
          · exact ok_again (I := (fun m (y : Tup [Lf.i .i64, Lf.i .i64, Lf.i .i64, Lf.i .i64, Lf.i .i64, Lf.i .i64]) L w' => ∃ (j : Nat) (s0 s1 s2 s3 s4 : Int), j ≤ len ∧ m = len - j ∧ RP s0 s1 s2 s3 s4 ∧ y = ((j : Int), s0, s1, s2, s3, s4, ()) ∧ Fine (fun _ => False) w L w')) (len - (j + 1)) (by omega) (fun L w2 he => ⟨j + 1, x.1, x.2.1, x.2.2.1, x.2.2.2.1, x.2.2.2.2.1, hlt, rfl, d1, by rw [hw], hF.ext he⟩)
      ·
        refine ok_callq (x := law07_ours.F x.1 x.2.1 x.2.2.1 x.2.2.2.1 x.2.2.2.2.1) hF rfl (fun L w2 _ => law07_ours.c x.1 x.2.1 x.2.2.1 x.2.2.2.1 x.2.2.2.2.1 w2) (fun L w2 hF => ?_)
        refine ok_callq (x := ref07_Right.F x.1 x.2.1 x.2.2.1 x.2.2.2.1 x.2.2.2.2.1) hF rfl (fun L w2 _ => ref07_Right.c x.1 x.2.1 x.2.2.1 x.2.2.2.1 x.2.2.2.2.1 w2) (fun L w2 hF => ?_)
        rw [right_r, decide_eq_true d1]
        refine ok_if (fun _ => ?_) (fun r1 => by cases r1)
        refine ok_if (fun r2 => ?_) (fun r2 => ?_)
        · exact absurd (of_decide_eq_true r2) (Int.not_lt.2 d1.1)
        · exact ok_again (I := (fun m (y : Tup [Lf.i .i64, Lf.i .i64, Lf.i .i64, Lf.i .i64, Lf.i .i64, Lf.i .i64]) L w' => ∃ (j : Nat) (s0 s1 s2 s3 s4 : Int), j ≤ len ∧ m = len - j ∧ RP s0 s1 s2 s3 s4 ∧ y = ((j : Int), s0, s1, s2, s3, s4, ()) ∧ Fine (fun _ => False) w L w')) (len - (j + 1)) (by omega) (fun L w2 he => ⟨j + 1, x.1, x.2.1, x.2.2.1, x.2.2.2.1, x.2.2.2.2.1, hlt, rfl, d1, by rw [hw], hF.ext he⟩)
    ·
      refine ok_callq (x := law07_ours.F x.1 x.2.1 x.2.2.1 x.2.2.2.1 x.2.2.2.2.1) hF rfl (fun L w2 _ => law07_ours.c x.1 x.2.1 x.2.2.1 x.2.2.2.1 x.2.2.2.2.1 w2) (fun L w2 hF => ?_)
      refine ok_callq (x := ref07_Right.F x.1 x.2.1 x.2.2.1 x.2.2.2.1 x.2.2.2.2.1) hF rfl (fun L w2 _ => ref07_Right.c x.1 x.2.1 x.2.2.1 x.2.2.2.1 x.2.2.2.2.1 w2) (fun L w2 hF => ?_)
      rw [right_r, decide_eq_true d1]
      refine ok_if (fun _ => ?_) (fun r1 => by cases r1)
      refine ok_if (fun r2 => ?_) (fun r2 => ?_)
      · exact absurd (of_decide_eq_true r2) (Int.not_lt.2 d1.1)
      · exact ok_again (I := (fun m (y : Tup [Lf.i .i64, Lf.i .i64, Lf.i .i64, Lf.i .i64, Lf.i .i64, Lf.i .i64]) L w' => ∃ (j : Nat) (s0 s1 s2 s3 s4 : Int), j ≤ len ∧ m = len - j ∧ RP s0 s1 s2 s3 s4 ∧ y = ((j : Int), s0, s1, s2, s3, s4, ()) ∧ Fine (fun _ => False) w L w')) (len - (j + 1)) (by omega) (fun L w2 he => ⟨j + 1, x.1, x.2.1, x.2.2.1, x.2.2.2.1, x.2.2.2.2.1, hlt, rfl, d1, by rw [hw], hF.ext he⟩)
  · have hje : j = len := by simp at h1; omega
    refine ok_callq (x := law07_alive.F) hF rfl (fun L w2 _ => law07_alive.c w2) (fun L w2 hF => ?_)
    rw [alive_true]
    exact ok_done hF rfl rfl
theorem flight.t (A : Option Addr) (len cap : Nat) : tree Try.prog fA noC Try.f8 [.v (.slice A len cap)] [] =
  .call 15 ([]) ([]) (Sh.agg 5) ([Lf.i IntKind.i64, Lf.i IntKind.i64, Lf.i IntKind.i64, Lf.i IntKind.i64, Lf.i IntKind.i64]) ([]) (fun x0 =>
   .loop ([Lf.i IntKind.i64, Lf.i IntKind.i64, Lf.i IntKind.i64, Lf.i IntKind.i64, Lf.i IntKind.i64, Lf.i IntKind.i64, Lf.i IntKind.i64]) ((0, 0, x0.1, x0.2.1, x0.2.2.1, x0.2.2.2.1, x0.2.2.2.2.1, PUnit.unit)) 0 (fun x1 =>
    bif decide (x1.1 < ↑len) then (
     .need (decide (0 ≤ x1.1) && decide (x1.1 < ↑len) && Option.isSome A) (
     .ld (Option.map (fun x => Addr.add x (Int.toNat x1.1 * 4)) A) ([Lf.i IntKind.u8, Lf.i IntKind.i64, Lf.i IntKind.i64, Lf.i IntKind.i64]) (fun x2 =>
      .call 26 ([AV.agg [AV.v (Value.int IntKind.i64 x1.2.2.1), AV.v (Value.int IntKind.i64 x1.2.2.2.1), AV.v (Value.int IntKind.i64 x1.2.2.2.2.1), AV.v (Value.int IntKind.i64 x1.2.2.2.2.2.1), AV.v (Value.int IntKind.i64 x1.2.2.2.2.2.2.1)], AV.agg [AV.v (Value.int IntKind.u8 x2.1), AV.v (Value.int IntKind.i64 x2.2.1), AV.v (Value.int IntKind.i64 x2.2.2.1), AV.v (Value.int IntKind.i64 x2.2.2.2.1)]]) ([]) (Sh.tup [(true, 5), (false, 1)]) ([Lf.i IntKind.i64, Lf.i IntKind.i64, Lf.i IntKind.i64, Lf.i IntKind.i64, Lf.i IntKind.i64, Lf.i IntKind.i64]) ([]) (fun x3 =>
       bif x3.2.2.2.2.2.1 == 0 then (
        .need (true) (
        bif Int.tmod x2.1 4 == 0 then (
         bif x3.2.2.1 != IntKind.wrap IntKind.i64 (x1.2.1 + x2.2.1) then (
          .done (AV.v (Value.bool false)) ([]))
         else (
          bif decide (IntKind.wrap IntKind.i64 (x1.2.1 + x2.2.1) < 0) then (
           .done (AV.v (Value.bool false)) ([]))
          else (
           .again 0 ([Lf.i IntKind.i64, Lf.i IntKind.i64, Lf.i IntKind.i64, Lf.i IntKind.i64, Lf.i IntKind.i64, Lf.i IntKind.i64, Lf.i IntKind.i64]) ((IntKind.wrap IntKind.i64 (x1.1 + 1), IntKind.wrap IntKind.i64 (x1.2.1 + x2.2.1), x3.1, x3.2.1, x3.2.2.1, x3.2.2.2.1, x3.2.2.2.2.1, PUnit.unit)))))
        else (
         bif x3.2.2.1 != IntKind.wrap IntKind.i64 (x1.2.1 - x2.2.1) then (
          .done (AV.v (Value.bool false)) ([]))
         else (
          bif decide (IntKind.wrap IntKind.i64 (x1.2.1 - x2.2.1) < 0) then (
           .done (AV.v (Value.bool false)) ([]))
          else (
           .again 0 ([Lf.i IntKind.i64, Lf.i IntKind.i64, Lf.i IntKind.i64, Lf.i IntKind.i64, Lf.i IntKind.i64, Lf.i IntKind.i64, Lf.i IntKind.i64]) ((IntKind.wrap IntKind.i64 (x1.1 + 1), IntKind.wrap IntKind.i64 (x1.2.1 - x2.2.1), x3.1, x3.2.1, x3.2.2.1, x3.2.2.2.1, x3.2.2.2.2.1, PUnit.unit)))))))
       else (
        bif x3.2.2.1 != x1.2.1 then (
         .done (AV.v (Value.bool false)) ([]))
        else (
         bif decide (x1.2.1 < 0) then (
          .done (AV.v (Value.bool false)) ([]))
         else (
          .again 0 ([Lf.i IntKind.i64, Lf.i IntKind.i64, Lf.i IntKind.i64, Lf.i IntKind.i64, Lf.i IntKind.i64, Lf.i IntKind.i64, Lf.i IntKind.i64]) ((IntKind.wrap IntKind.i64 (x1.1 + 1), x1.2.1, x3.1, x3.2.1, x3.2.2.1, x3.2.2.2.1, x3.2.2.2.2.1, PUnit.unit)))))))))
    else (
     .call 17 ([]) ([]) (Sh.one) ([Lf.b]) ([]) (fun x2 =>
      bif x2.1 then (
       .done (AV.v (Value.bool true)) ([]))
      else (
       .done (AV.v (Value.bool false)) ([])))))) := by kernel_rfl
set_option maxHeartbeats 2000000 in
theorem flight.c (A : Option Addr) (len cap : Nat) (hlen : len < 2 ^ 60) (rd : Nat → Int × Int × Int × Int) (w : World) (hA : Script A len rd w) : Quiet Try.prog 8 #[.slice A len cap] w (.bool true) := by
  refine enter0 mixed fA noC [.v (.slice A len cap)] Try.func8 rfl rfl rfl (fun hF => ?_)
  rw [flight.t]
  refine ok_callq (x := cong_New.F) hF rfl (fun L w2 _ => cong_New.c w2) (fun L w1 hF => ?_)
  refine ok_loop (fun m (y : Tup [Lf.i .i64, Lf.i .i64, Lf.i .i64, Lf.i .i64, Lf.i .i64, Lf.i .i64, Lf.i .i64]) L w' => ∃ (j : Nat) (s0 s1 s2 s3 s4 : Int), j ≤ len ∧ m = len - j ∧ RP s0 s1 s2 s3 s4 ∧ y = ((j : Int), s2, s0, s1, s2, s3, s4, ()) ∧ Fine (fun _ => False) w L w') len ⟨0, 12000, 0, 0, -1, 0, Nat.zero_le _, rfl, by decide, rfl, hF⟩ ?_
  rintro m y L w1 ⟨j, s0, s1, s2, s3, s4, hj, rfl, hR, rfl, hF⟩
  dsimp only
  refine ok_if (fun h1 => ?_) (fun h1 => ?_)
  · have hlt : j < len := by simpa using h1
    have hw : IntKind.i64.wrap ((j : Int) + 1) = ((j + 1 : Nat) : Int) := by
      rw [wrap_small ((j : Int) + 1) (by omega) (by omega)]; omega
    have hAj := hA j hlt
    rcases hrd : rd j with ⟨k, n, t, u⟩
    rw [hrd] at hAj
    obtain ⟨ad, rfl, hc⟩ := hAj
    obtain ⟨hsp, hbl⟩ := cell_spot (hc 0 _ rfl)
    refine ok_need (by simp; omega) ?_
    refine ok_lds (ad := ad.add (j * 4)) (k, n, t, u, ()) hF (by simp) (fun h => h) (by simpa using hsp) (by simpa using hbl) (fun i v hv => by rw [add_add ad (by simpa using hsp)]; exact hc i v hv) ?_
    refine ok_callq (x := law07_does.F s0 s1 s2 s3 s4 k n t u) hF rfl (fun L w2 _ => law07_does.c s0 s1 s2 s3 s4 k n t u w2) (fun L w2 hF => ?_)
    obtain ⟨d1, d2, d3⟩ := does_ok s0 s1 s2 s3 s4 k n t u hR
    generalize law07_does.F s0 s1 s2 s3 s4 k n t u = x at d1 d2 d3 ⊢
    unfold RPt at d1
    have hR' := hR
    unfold RP at hR'
    refine ok_if (fun e1 => ?_) (fun e1 => ?_)
    · have e1 : x.2.2.2.2.2.1 = 0 := by simpa using e1
      obtain ⟨g1, g2, g3, g4⟩ := d2 e1
      refine ok_need rfl ?_
      refine ok_if (fun e2 => ?_) (fun e2 => ?_)
      · have e2 : Int.tmod k 4 = 0 := by simpa using e2
        have hfl : x.2.2.1 = IntKind.i64.wrap (s2 + n) := by rw [(g1 e2).1, wrap_in _ (by omega) (by omega)]
        refine ok_if (fun e3 => ?_) (fun e3 => ?_)
        · exact absurd e3 (by rw [hfl]; simp)
        refine ok_if (fun e4 => ?_) (fun e4 => ?_)
        · exact absurd (of_decide_eq_true e4) (by rw [← hfl]; exact Int.not_lt.2 d1.2.2.2.1)
        exact ok_again (I := (fun m (y : Tup [Lf.i .i64, Lf.i .i64, Lf.i .i64, Lf.i .i64, Lf.i .i64, Lf.i .i64, Lf.i .i64]) L w' => ∃ (j : Nat) (s0 s1 s2 s3 s4 : Int), j ≤ len ∧ m = len - j ∧ RP s0 s1 s2 s3 s4 ∧ y = ((j : Int), s2, s0, s1, s2, s3, s4, ()) ∧ Fine (fun _ => False) w L w')) (len - (j + 1)) (by omega) (fun L w2 he => ⟨j + 1, x.1, x.2.1, x.2.2.1, x.2.2.2.1, x.2.2.2.2.1, hlt, rfl, d1, by rw [hw, ← hfl], hF.ext he⟩)
      · have e2 : Int.tmod k 4 ≠ 0 := by simpa using e2
        have hfl : x.2.2.1 = IntKind.i64.wrap (s2 - n) := by rw [g2 e2, wrap_in _ (by omega) (by omega)]
        refine ok_if (fun e3 => ?_) (fun e3 => ?_)
        · exact absurd e3 (by rw [hfl]; simp)
        refine ok_if (fun e4 => ?_) (fun e4 => ?_)
        · exact absurd (of_decide_eq_true e4) (by rw [← hfl]; exact Int.not_lt.2 d1.2.2.2.1)
        exact ok_again (I := (fun m (y : Tup [Lf.i .i64, Lf.i .i64, Lf.i .i64, Lf.i .i64, Lf.i .i64, Lf.i .i64, Lf.i .i64]) L w' => ∃ (j : Nat) (s0 s1 s2 s3 s4 : Int), j ≤ len ∧ m = len - j ∧ RP s0 s1 s2 s3 s4 ∧ y = ((j : Int), s2, s0, s1, s2, s3, s4, ()) ∧ Fine (fun _ => False) w L w')) (len - (j + 1)) (by omega) (fun L w2 he => ⟨j + 1, x.1, x.2.1, x.2.2.1, x.2.2.2.1, x.2.2.2.2.1, hlt, rfl, d1, by rw [hw, ← hfl], hF.ext he⟩)
    · have e1 : x.2.2.2.2.2.1 ≠ 0 := by simpa using e1
      have hfl : x.2.2.1 = s2 := d3 e1
      refine ok_if (fun e3 => ?_) (fun e3 => ?_)
      · exact absurd e3 (by rw [hfl]; simp)
      refine ok_if (fun e4 => ?_) (fun e4 => ?_)
      · exact absurd (of_decide_eq_true e4) (by rw [← hfl]; exact Int.not_lt.2 d1.2.2.2.1)
      exact ok_again (I := (fun m (y : Tup [Lf.i .i64, Lf.i .i64, Lf.i .i64, Lf.i .i64, Lf.i .i64, Lf.i .i64, Lf.i .i64]) L w' => ∃ (j : Nat) (s0 s1 s2 s3 s4 : Int), j ≤ len ∧ m = len - j ∧ RP s0 s1 s2 s3 s4 ∧ y = ((j : Int), s2, s0, s1, s2, s3, s4, ()) ∧ Fine (fun _ => False) w L w')) (len - (j + 1)) (by omega) (fun L w2 he => ⟨j + 1, x.1, x.2.1, x.2.2.1, x.2.2.2.1, x.2.2.2.2.1, hlt, rfl, d1, by rw [hw, ← hfl], hF.ext he⟩)
  · have hje : j = len := by simp at h1; omega
    refine ok_callq (x := law07_alive.F) hF rfl (fun L w2 _ => law07_alive.c w2) (fun L w2 hF => ?_)
    rw [alive_true]
    exact ok_done hF rfl rfl
end Go.Proofs.Ytggemgbkkhpenaa.X
