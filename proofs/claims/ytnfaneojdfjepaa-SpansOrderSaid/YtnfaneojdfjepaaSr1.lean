/- Spans: what was answered may be written over. -/
import Derived.Test.YtnfaneojdfjepaaSq9
namespace Go.Proofs.Ytnfaneojdfjepaa.X
open Go Go.RowKit Go.Proofs.YtnfaneojdfjepaaW.Rx
set_option linter.unusedVariables false
set_option linter.unusedSimpArgs false
set_option maxRecDepth 10000
/-- One of the answers is written over, and appended to. -/
abbrev innerT (A : Option Addr) (n c : Nat) (i : Int) : XT :=
  .loop [Lf.i .i64] (0, ()) 1 (fun x7 => bif decide (x7.1 < (n : Int)) then
    .need (decide (0 ≤ x7.1) && decide (x7.1 < (n : Int)) && A.isSome) (.sto (A.map (fun x => x.add (x7.1.toNat * 2))) [AV.v (Value.int IntKind.i64 (-1)), AV.v (Value.int IntKind.i64 0)] [] (.again 1 [Lf.i .i64] (IntKind.i64.wrap (x7.1 + 1), ())))
   else .sem (Instr.buildSlice 22 1 #[(0, Value.agg #[Value.int IntKind.i64 (-2), Value.int IntKind.i64 0])]) [Lf.sl] Sh.one (fun x8 =>
    .sem (Builtin.append_ #[22, 22] 22 #[Value.slice A n c, Value.slice x8.1.1 x8.1.2.1 x8.1.2.2]) [Lf.sl] Sh.one (fun x9 =>
     .again 0 [Lf.i .i64] (IntKind.i64.wrap (i + 1), ()))))
abbrev S5 (Q : Ending → World → Prop) : Prop := True
theorem inner_ok {w : World} {Q : Ending → World → Prop} {pin : List (Nat × Nat)} {J : Jt} {Lu : Nat → Prop} {wu : World} {A : Option Addr} {c n : Nat} {i : Int} (Rest : (Nat → Prop) → World → Prop)
    (hR : ∀ L w1 L' w2, Rest L w1 → Fine (fun b => L b ∨ blk (A, 0, 0) b) w1 L' w2 → Rest L' w2)
    (xs : List (Int × Int)) (ho : OwnF w.heap.size Lu wu 30 R22 A c xs) (hn : xs.length = n) (h40 : n < 1099511627776) (hF : Fine (fun _ => False) w Lu wu) (hr : Rest Lu wu)
    (hk : ∀ L w', Rest L w' → Fine (fun _ => False) w L w' → (XT.again 0 [Lf.i .i64] (IntKind.i64.wrap (i + 1), ())).ok Try.prog pin Q J L w') : (innerT A n c i).ok Try.prog pin Q J Lu wu := by
  obtain ⟨I, hI⟩ : ∃ I : Nat → Tup [Lf.i .i64] → (Nat → Prop) → World → Prop, I = (fun m y L w' => ∃ (j : Nat) (xs : List (Int × Int)), y = ((j : Int), ()) ∧ j ≤ n ∧ m = n - j ∧ xs.length = n ∧ OwnF w.heap.size L w' 30 R22 A c xs ∧ Fine (fun _ => False) w L w' ∧ Rest L w') := ⟨_, rfl⟩
  refine ok_loop I n (by rw [hI]; exact ⟨0, xs, rfl, Nat.zero_le _, rfl, hn, ho, hF, hr⟩) ?_
  intro m y L w1 hy
  rw [hI] at hy
  obtain ⟨j, xs, rfl, hj, rfl, hn, ho, hF, hr⟩ := hy
  dsimp only
  refine ok_if (fun hc => ?_) (fun hc => ?_)
  · have hlt : j < n := by have h : (j : Int) < (n : Int) := of_decide_eq_true hc; omega
    have hget : getI xs (j : Int) = some (xs[j]'(by omega)) := by rw [getI_nat]; exact List.getElem?_eq_getElem _
    have hneed := getI_need ho.sl hget
    rw [hn] at hneed
    refine ok_need hneed ?_
    refine ok_set (x := ((-1 : Int), (0 : Int))) ho (by omega) (by omega) (fun _ => rfl) (fun L2 w2 ho2 g2 hid2 => ?_)
    have hw : IntKind.i64.wrap ((j : Int) + 1) = ((j + 1 : Nat) : Int) := by rw [wrap_in _ (by omega) (by omega)]; omega
    have hF2 := Fine.own hF g2 (fun b hb => Or.inr (Own.base ho hb)) hid2
    have hr2 := hR _ _ _ _ hr g2
    exact ok_again (I := I) (n - (j + 1)) (by omega) (fun L3 w3 he => by rw [hI]; exact ⟨j + 1, _, by rw [hw], hlt, rfl, by rw [List.length_set]; exact hn, ho2.later he.fine, hF2.ext he, hR _ _ _ _ hr2 he.fine.weak⟩)
  · have h1 : xs.length = n := hn
    refine ok_lit (R := R22) (base := w.heap.size) (xs := [((-2 : Int), (0 : Int))]) #[Value.int IntKind.i64 (-2), Value.int IntKind.i64 0] E22 rfl (by decide) (by decide) ⟨_, _, rfl, rfl, by kernel_rfl⟩ rfl hF.size (fun A8 c8 L8 w8 hO8 g8 hbl8 => ?_)
    dsimp only
    have hF8 := hF.trans g8
    have ho8 := ho.later g8
    have hr8 := hR _ _ _ _ hr g8.weak
    refine ok_app (R := R22) (base := w.heap.size) (xs := xs) (ys := [((-2 : Int), (0 : Int))]) h1.symm rfl E22 ho8 hO8.sl (by decide) (by simp only [List.length_cons, List.length_nil]; omega) hF8.size (fun A9 c9 L9 w9 hO9 g9 hid9 hbl9 => ?_)
    have hF9 := Fine.own hF8 g9 (fun b hb => Or.inr (Own.base ho8 hb)) hid9
    exact ok_up (hk L9 w9 (hR _ _ _ _ hr8 g9) hF9) (by decide)
abbrev ownA : Nat → LA := fun r => if r = 9 then ⟨[(55, false, [Lf.i IntKind.i64])], []⟩ else if r = 6 then ⟨[(49, false, [Lf.i IntKind.i64])], []⟩ else ⟨[], []⟩
set_option maxHeartbeats 4000000 in
theorem own.t (A0 : Option Addr) (n0 c0 : Nat) (a b : Int) : tree Try.prog ownA noC Try.f8 [AV.v (Value.slice A0 n0 c0), AV.agg [AV.v (Value.int IntKind.i64 a), AV.v (Value.int IntKind.i64 b)]] [] =
  .sem (Builtin.append_ #[22, 22] 22 #[Value.slice none 0 0, Value.slice A0 n0 c0]) [Lf.sl] Sh.one (fun x0 => .need true (.need true (
   .call 17 [AV.v (Value.slice A0 n0 c0), AV.v (Value.int IntKind.i64 a), AV.v (Value.int IntKind.i64 b)] [] (Sh.tup [(false, 1), (false, 1)]) [Lf.sl, Lf.i IntKind.i64] [] (fun x1 => .need true (.need true (
   .call 20 [AV.v (Value.slice A0 n0 c0), AV.v (Value.int IntKind.i64 a), AV.v (Value.int IntKind.i64 b)] [] (Sh.tup [(false, 1), (false, 1)]) [Lf.sl, Lf.i IntKind.i64] [] (fun x2 =>
   .call 26 [AV.v (Value.slice A0 n0 c0), AV.v (Value.int IntKind.i64 2)] [] (Sh.tup [(false, 1), (false, 1)]) [Lf.sl, Lf.i IntKind.i64] [] (fun x3 =>
   .sem (Instr.buildSlice 43 3 #[(0, Value.slice x1.1.1 x1.1.2.1 x1.1.2.2), (1, Value.slice x2.1.1 x2.1.2.1 x2.1.2.2), (2, Value.slice x3.1.1 x3.1.2.1 x3.1.2.2)]) [Lf.sl] Sh.one (fun x4 =>
   .loop [Lf.i .i64] (0, ()) 0 (fun x5 => bif decide (x5.1 < ((x4.1.2.1 : Nat) : Int)) then
     .need (decide (0 ≤ x5.1) && decide (x5.1 < ((x4.1.2.1 : Nat) : Int)) && x4.1.1.isSome) (.ld (x4.1.1.map (fun x => x.add (x5.1.toNat * 1))) [Lf.sl] (fun x6 => innerT x6.1.1 x6.1.2.1 x6.1.2.2 x5.1))
    else .need true (.need true (
     .call 17 [AV.v (Value.slice A0 n0 c0), AV.v (Value.int IntKind.i64 a), AV.v (Value.int IntKind.i64 b)] [] (Sh.tup [(false, 1), (false, 1)]) [Lf.sl, Lf.i IntKind.i64] [] (fun x6 => .need true (.need true (
     .call 19 [AV.v (Value.slice x0.1.1 x0.1.2.1 x0.1.2.2), AV.v (Value.int IntKind.i64 a), AV.v (Value.int IntKind.i64 b)] [] (Sh.tup [(false, 1), (false, 1)]) [Lf.sl, Lf.i IntKind.i64] [] (fun x7 =>
     .call 18 [AV.v (Value.slice A0 n0 c0), AV.v (Value.slice x0.1.1 x0.1.2.1 x0.1.2.2)] [] Sh.one [Lf.b] [] (fun x8 => bif x8.1 then
      .call 18 [AV.v (Value.slice x6.1.1 x6.1.2.1 x6.1.2.2), AV.v (Value.slice x7.1.1 x7.1.2.1 x7.1.2.2)] [] Sh.one [Lf.b] [] (fun x9 => bif x9.1 then
       .call 16 [] [] Sh.one [Lf.b] [] (fun x10 => bif x10.1 then .done (AV.v (Value.bool true)) [] else .done (AV.v (Value.bool false)) [])
       else .done (AV.v (Value.bool false)) [])
      else .done (AV.v (Value.bool false)) []))))))))))))))))) := by kernel_rfl
end Go.Proofs.Ytnfaneojdfjepaa.X
