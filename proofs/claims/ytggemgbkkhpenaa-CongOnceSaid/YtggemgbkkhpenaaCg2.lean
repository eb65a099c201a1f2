/- cong's closures, and what it does with a window. -/
import Derived.Test.YtggemgbkkhpenaaRx16
import Derived.Test.YtggemgbkkhpenaaProg
import Derived.Test.YtggemgbkkhpenaaCg1
import Derived.Great.BuildSlice
namespace Go.Proofs.Ytggemgbkkhpenaa.X
open Go Go.RowKit Go.Proofs.YtggemgbkkhpenaaW.Rx
set_option linter.unusedVariables false
set_option linter.unusedSimpArgs false
abbrev I (n : Int) : AV := .v (.int .i64 n)
abbrev Z (n : Int) : Value := .int .i64 n
abbrev St (s0 s1 s2 s3 s4 : Int) : List AV := [I s0, I s1, I s2, I s3, I s4]
abbrev L5 : List Lf := [Lf.i .i64, Lf.i .i64, Lf.i .i64, Lf.i .i64, Lf.i .i64]
abbrev L6 : List Lf := [Lf.i .i64, Lf.i .i64, Lf.i .i64, Lf.i .i64, Lf.i .i64, Lf.i .i64]
def grow.F (s0 s1 s2 s3 s4 n : Int) : Tup L5 :=
  bif s1 == 0 then ((if 1073741824 < IntKind.i64.wrap (s0 + n) then 1073741824 else IntKind.i64.wrap (s0 + n)), s1, s2, s3, 0, ())
  else bif decide (s0 < s1) then ((if 1073741824 < IntKind.i64.wrap (s0 + n) then 1073741824 else IntKind.i64.wrap (s0 + n)), s1, s2, s3, 0, ())
  else bif decide (s0 ≤ IntKind.i64.wrap (s4 + n)) then ((if 1073741824 < IntKind.wrap IntKind.i64 (s0 + 1200) then 1073741824 else IntKind.wrap IntKind.i64 (s0 + 1200)), s1, s2, s3, (if IntKind.wrap IntKind.i64 ((if 1073741824 < IntKind.wrap IntKind.i64 (s0 + 1200) then 1073741824 else IntKind.wrap IntKind.i64 (s0 + 1200)) - 1) < IntKind.wrap IntKind.i64 (IntKind.wrap IntKind.i64 (s4 + n) - s0) then IntKind.wrap IntKind.i64 ((if 1073741824 < IntKind.wrap IntKind.i64 (s0 + 1200) then 1073741824 else IntKind.wrap IntKind.i64 (s0 + 1200)) - 1) else IntKind.wrap IntKind.i64 (IntKind.wrap IntKind.i64 (s4 + n) - s0)), ())
  else (s0, s1, s2, s3, (if IntKind.wrap IntKind.i64 (s0 - 1) < IntKind.wrap IntKind.i64 (s4 + n) then IntKind.wrap IntKind.i64 (s0 - 1) else IntKind.wrap IntKind.i64 (s4 + n)), ())
/-- The window's cells. -/
abbrev tupA (x : Tup L5) : List AV := [I x.1, I x.2.1, I x.2.2.1, I x.2.2.2.1, I x.2.2.2.2.1]
theorem grow.t (s0 s1 s2 s3 s4 n : Int) : tree Try.prog noA noC Try.f30 [.p 0 0, I n] [(0, St s0 s1 s2 s3 s4, 25)] = bif s1 == 0 then .done (.tup []) [(0, tupA ((if 1073741824 < IntKind.i64.wrap (s0 + n) then 1073741824 else IntKind.i64.wrap (s0 + n)), s1, s2, s3, 0, ()), 25)]
  else bif decide (s0 < s1) then .done (.tup []) [(0, tupA ((if 1073741824 < IntKind.i64.wrap (s0 + n) then 1073741824 else IntKind.i64.wrap (s0 + n)), s1, s2, s3, 0, ()), 25)]
  else bif decide (s0 ≤ IntKind.i64.wrap (s4 + n)) then .done (.tup []) [(0, tupA ((if 1073741824 < IntKind.wrap IntKind.i64 (s0 + 1200) then 1073741824 else IntKind.wrap IntKind.i64 (s0 + 1200)), s1, s2, s3, (if IntKind.wrap IntKind.i64 ((if 1073741824 < IntKind.wrap IntKind.i64 (s0 + 1200) then 1073741824 else IntKind.wrap IntKind.i64 (s0 + 1200)) - 1) < IntKind.wrap IntKind.i64 (IntKind.wrap IntKind.i64 (s4 + n) - s0) then IntKind.wrap IntKind.i64 ((if 1073741824 < IntKind.wrap IntKind.i64 (s0 + 1200) then 1073741824 else IntKind.wrap IntKind.i64 (s0 + 1200)) - 1) else IntKind.wrap IntKind.i64 (IntKind.wrap IntKind.i64 (s4 + n) - s0)), ()), 25)]
  else .done (.tup []) [(0, tupA (s0, s1, s2, s3, (if IntKind.wrap IntKind.i64 (s0 - 1) < IntKind.wrap IntKind.i64 (s4 + n) then IntKind.wrap IntKind.i64 (s0 - 1) else IntKind.wrap IntKind.i64 (s4 + n)), ()), 25)] := by kernel_rfl
theorem grow.c (s0 s1 s2 s3 s4 n : Int) (ρ : Nat → Nat) (w : World) (ht : Stand ρ w [(0, St s0 s1 s2 s3 s4, 25)]) (hap : Apart ρ [(0, St s0 s1 s2 s3 s4, 25)]) :
    Turns Try.prog 30 [.p 0 0, I n] ρ [(0, St s0 s1 s2 s3 s4, 25)] w (.tup []) [Tup.V L5 (grow.F s0 s1 s2 s3 s4 n)] := by
  refine enterT mixed noA noC _ _ ρ Try.func30 rfl rfl ht hap rfl rfl (fun hF => ?_)
  rw [grow.t]
  unfold grow.F
  refine ok_if (fun h1 => ?_) (fun h1 => ?_)
  · rw [h1]; refine ok_doneT hF ?_ ?_ ?_ ?_ ?_ ?_ <;> rfl
  refine ok_if (fun h2 => ?_) (fun h2 => ?_)
  · rw [h1, h2]; refine ok_doneT hF ?_ ?_ ?_ ?_ ?_ ?_ <;> rfl
  refine ok_if (fun h3 => ?_) (fun h3 => ?_)
  · rw [h1, h2, h3]; refine ok_doneT hF ?_ ?_ ?_ ?_ ?_ ?_ <;> rfl
  · rw [h1, h2, h3]; refine ok_doneT hF ?_ ?_ ?_ ?_ ?_ ?_ <;> rfl
def cl33.F (s0 s1 s2 s3 s4 n : Int) : Tup L5 := (s0, s1, IntKind.i64.wrap (s2 + n), s3, s4, ())
theorem cl33.c (s0 s1 s2 s3 s4 n : Int) (ρ : Nat → Nat) (w : World) (ht : Stand ρ w [(0, St s0 s1 s2 s3 s4, 25), (1, [I n], 3)]) (hap : Apart ρ [(0, St s0 s1 s2 s3 s4, 25), (1, [I n], 3)]) :
    Turns Try.prog 33 [.p 0 0, .p 1 0] ρ [(0, St s0 s1 s2 s3 s4, 25), (1, [I n], 3)] w (.tup []) [Tup.V L5 (cl33.F s0 s1 s2 s3 s4 n), [Z n]] := by
  refine enterT mixed noA noC _ _ ρ Try.func33 rfl rfl ht hap rfl rfl (fun hF => ?_)
  rw [show tree Try.prog noA noC Try.f33 [.p 0 0, .p 1 0] [(0, St s0 s1 s2 s3 s4, 25), (1, [I n], 3)] = .done (.tup []) [(0, tupA (s0, s1, IntKind.i64.wrap (s2 + n), s3, s4, ()), 25), (1, [I n], 3)] by kernel_rfl]
  unfold cl33.F
  refine ok_doneT hF ?_ ?_ ?_ ?_ ?_ ?_ <;> rfl
def cl35.F (s0 s1 s2 s3 s4 n : Int) : Tup L5 := (s0, s1, IntKind.i64.wrap (s2 - n), s3, s4, ())
theorem cl35.c (s0 s1 s2 s3 s4 n : Int) (ρ : Nat → Nat) (w : World) (ht : Stand ρ w [(0, St s0 s1 s2 s3 s4, 25), (1, [I n], 3)]) (hap : Apart ρ [(0, St s0 s1 s2 s3 s4, 25), (1, [I n], 3)]) :
    Turns Try.prog 35 [.p 0 0, .p 1 0] ρ [(0, St s0 s1 s2 s3 s4, 25), (1, [I n], 3)] w (.tup []) [Tup.V L5 (cl35.F s0 s1 s2 s3 s4 n), [Z n]] := by
  refine enterT mixed noA noC _ _ ρ Try.func35 rfl rfl ht hap rfl rfl (fun hF => ?_)
  rw [show tree Try.prog noA noC Try.f35 [.p 0 0, .p 1 0] [(0, St s0 s1 s2 s3 s4, 25), (1, [I n], 3)] = .done (.tup []) [(0, tupA (s0, s1, IntKind.i64.wrap (s2 - n), s3, s4, ()), 25), (1, [I n], 3)] by kernel_rfl]
  unfold cl35.F
  refine ok_doneT hF ?_ ?_ ?_ ?_ ?_ ?_ <;> rfl
def cl29.F (s0 s1 s2 s3 s4 n t : Int) : Tup L5 := bif decide (s3 ≤ t) then grow.F s0 s1 (IntKind.i64.wrap (s2 - n)) s3 s4 n else (s0, s1, IntKind.i64.wrap (s2 - n), s3, s4, ())
theorem cl29.c (s0 s1 s2 s3 s4 n t : Int) (ρ : Nat → Nat) (w : World) (ht : Stand ρ w [(0, St s0 s1 s2 s3 s4, 25), (1, [I n], 3), (2, [I t], 3)]) (hap : Apart ρ [(0, St s0 s1 s2 s3 s4, 25), (1, [I n], 3), (2, [I t], 3)]) :
    Turns Try.prog 29 [.p 0 0, .p 1 0, .p 2 0] ρ [(0, St s0 s1 s2 s3 s4, 25), (1, [I n], 3), (2, [I t], 3)] w (.tup []) [Tup.V L5 (cl29.F s0 s1 s2 s3 s4 n t), [Z n], [Z t]] := by
  refine enterT mixed noA noC _ _ ρ Try.func29 rfl rfl ht hap rfl rfl (fun hF => ?_)
  rw [show tree Try.prog noA noC Try.f29 [.p 0 0, .p 1 0, .p 2 0] [(0, St s0 s1 s2 s3 s4, 25), (1, [I n], 3), (2, [I t], 3)] = bif decide (s3 ≤ t) then .call 30 [.p 0 0, I n] [(0, St s0 s1 (IntKind.i64.wrap (s2 - n)) s3 s4, 25)] (Sh.tup []) L5 [5] (fun x0 => .done (.tup []) [(0, tupA x0, 25), (1, [I n], 3), (2, [I t], 3)]) else .done (.tup []) [(0, tupA (s0, s1, IntKind.i64.wrap (s2 - n), s3, s4, ()), 25), (1, [I n], 3), (2, [I t], 3)] by kernel_rfl]
  unfold cl29.F
  refine ok_if (fun h1 => ?_) (fun h1 => ?_)
  · rw [h1]
    refine ok_callT (x := grow.F s0 s1 (IntKind.i64.wrap (s2 - n)) s3 s4 n) hF (fun ρ L w hp hF he ht hap => grow.c s0 s1 (IntKind.i64.wrap (s2 - n)) s3 s4 n ρ w (stand_of ht) hap) (fun L w2 hF => ?_)
    refine ok_doneT hF ?_ ?_ ?_ ?_ ?_ ?_ <;> rfl
  · rw [h1]; refine ok_doneT hF ?_ ?_ ?_ ?_ ?_ ?_ <;> rfl
def cl32.F (s0 s1 s2 s3 s4 n t now : Int) : Tup L5 := bif decide (s3 ≤ t) then ((if IntKind.wrap IntKind.i64 (Int.tdiv s0 2) < 2400 then 2400 else IntKind.wrap IntKind.i64 (Int.tdiv s0 2)), (if IntKind.wrap IntKind.i64 (Int.tdiv s0 2) < 2400 then 2400 else IntKind.wrap IntKind.i64 (Int.tdiv s0 2)), (IntKind.wrap IntKind.i64 (s2 - n)), (if 1099511627776 < IntKind.wrap IntKind.i64 (now + 1) then 1099511627776 else IntKind.wrap IntKind.i64 (now + 1)), 0, ()) else (s0, s1, IntKind.i64.wrap (s2 - n), s3, s4, ())
theorem cl32.c (s0 s1 s2 s3 s4 n t now : Int) (ρ : Nat → Nat) (w : World) (ht : Stand ρ w [(0, St s0 s1 s2 s3 s4, 25), (1, [I n], 3), (2, [I t], 3), (3, [I now], 3)]) (hap : Apart ρ [(0, St s0 s1 s2 s3 s4, 25), (1, [I n], 3), (2, [I t], 3), (3, [I now], 3)]) :
    Turns Try.prog 32 [.p 0 0, .p 1 0, .p 2 0, .p 3 0] ρ [(0, St s0 s1 s2 s3 s4, 25), (1, [I n], 3), (2, [I t], 3), (3, [I now], 3)] w (.tup []) [Tup.V L5 (cl32.F s0 s1 s2 s3 s4 n t now), [Z n], [Z t], [Z now]] := by
  refine enterT mixed noA noC _ _ ρ Try.func32 rfl rfl ht hap rfl rfl (fun hF => ?_)
  rw [show tree Try.prog noA noC Try.f32 [.p 0 0, .p 1 0, .p 2 0, .p 3 0] [(0, St s0 s1 s2 s3 s4, 25), (1, [I n], 3), (2, [I t], 3), (3, [I now], 3)] = bif decide (s3 ≤ t) then .need true (.done (.tup []) [(0, tupA ((if IntKind.wrap IntKind.i64 (Int.tdiv s0 2) < 2400 then 2400 else IntKind.wrap IntKind.i64 (Int.tdiv s0 2)), (if IntKind.wrap IntKind.i64 (Int.tdiv s0 2) < 2400 then 2400 else IntKind.wrap IntKind.i64 (Int.tdiv s0 2)), (IntKind.wrap IntKind.i64 (s2 - n)), (if 1099511627776 < IntKind.wrap IntKind.i64 (now + 1) then 1099511627776 else IntKind.wrap IntKind.i64 (now + 1)), 0, ()), 25), (1, [I n], 3), (2, [I t], 3), (3, [I now], 3)]) else .done (.tup []) [(0, tupA (s0, s1, IntKind.i64.wrap (s2 - n), s3, s4, ()), 25), (1, [I n], 3), (2, [I t], 3), (3, [I now], 3)] by kernel_rfl]
  unfold cl32.F
  refine ok_if (fun h1 => ?_) (fun h1 => ?_)
  · rw [h1]; refine ok_need rfl ?_; refine ok_doneT hF ?_ ?_ ?_ ?_ ?_ ?_ <;> rfl
  · rw [h1]; refine ok_doneT hF ?_ ?_ ?_ ?_ ?_ ?_ <;> rfl
/-! ### change -/
def ch (g over : Bool) (r : Tup L5) : Tup L6 := bif g then (bif over then (0, 0, 0, 0, 0, 7, ()) else (r.1, r.2.1, r.2.2.1, r.2.2.2.1, r.2.2.2.2.1, 0, ())) else (0, 0, 0, 0, 0, 1, ())
abbrev times (l : List Int) : Bool := l.all fun t => (cong_within.F t 0 1099511627776).1
abbrev good (s0 s1 s2 s3 s4 n : Int) : Bool := (cong_Right.F s0 s1 s2 s3 s4).1 && (cong_within.F n 1 1200).1
abbrev chA : Nat → LA := fun _ => ⟨[(12,false,[.b]),(23,false,[.i .i64])],[]⟩
abbrev chC : Nat → Option LA := fun r => if r = 2 then some ⟨[(12,false,[.b])],[]⟩ else none
theorem tup1 (x : Tup [Lf.b]) : (x.1, ()) = x := rfl
theorem ch33.t (s0 s1 s2 s3 s4 n en : Int) (A : Option Addr) (len cap : Nat) : tree Try.prog chA chC Try.f28 [.agg (St s0 s1 s2 s3 s4), I n, I en, .v (.slice A len cap), .fn (.func 33) [] [.p 0 0]] [(0, [I n], 3)] =
  .cut [Lf.b] 0 (.call 9 [.agg (St s0 s1 s2 s3 s4)] [] Sh.one [Lf.b] [] (fun x0 => bif x0.1 then .call 27 [I n, I 1, I 1200] [] Sh.one [Lf.b] [] (fun x1 => bif x1.1 then .again 0 [Lf.b] (true, ()) else .again 0 [Lf.b] (false, ())) else .again 0 [Lf.b] (false, ()))) (fun x0 =>
    .loop [Lf.b, Lf.i .i64] (x0.1, 0, ()) 0 (fun x1 => bif decide (x1.2.1 < ↑len) then .need (decide (0 ≤ x1.2.1) && decide (x1.2.1 < ↑len) && A.isSome) (.ld (A.map (fun x => x.add (x1.2.1.toNat * 1))) [Lf.i .i64] (fun x2 => bif x1.1 then .call 27 [I x2.1, I 0, I 1099511627776] [] Sh.one [Lf.b] [] (fun x3 => bif x3.1 then .again 0 [Lf.b, Lf.i .i64] (true, IntKind.i64.wrap (x1.2.1 + 1), ()) else .again 0 [Lf.b, Lf.i .i64] (false, IntKind.i64.wrap (x1.2.1 + 1), ())) else .again 0 [Lf.b, Lf.i .i64] (false, IntKind.i64.wrap (x1.2.1 + 1), ())))
      else bif x1.1 then bif decide (en < n) then .done (.tup [.agg (St 0 0 0 0 0), I 7]) [(0, [I n], 3)] else .call 33 [.p 1000 0, .p 0 0] [(1000, St s0 s1 s2 s3 s4, 25), (0, [I n], 3)] (Sh.tup []) [Lf.i .i64, Lf.i .i64, Lf.i .i64, Lf.i .i64, Lf.i .i64, Lf.i .i64] [5, 1] (fun x2 => .done (.tup [.agg (St x2.1 x2.2.1 x2.2.2.1 x2.2.2.2.1 x2.2.2.2.2.1), I 0]) [(0, [I x2.2.2.2.2.2.1], 3)]) else .done (.tup [.agg (St 0 0 0 0 0), I 1]) [(0, [I n], 3)])) := by kernel_rfl
theorem ch33.c (s0 s1 s2 s3 s4 n en : Int) (A : Option Addr) (cap : Nat) (ts : List Int) (hts : ts.length < 2 ^ 60) (ρ : Nat → Nat) (w : World) (hA : ∀ j x, ts[j]? = some x → ∃ ad, A = some ad ∧ w.cell? (ad.add j) = some (Z x) ∧ ¬ own ρ [(0, [I n], 3)] (ad.add j).block)
    (ht : Stand ρ w [(0, [I n], 3)]) (hap : Apart ρ [(0, [I n], 3)]) :
    Turns Try.prog 28 [.agg (St s0 s1 s2 s3 s4), I n, I en, .v (.slice A ts.length cap), .fn (.func 33) [] [.p 0 0]] ρ [(0, [I n], 3)] w ((Sh.tup [(true, 5), (false, 1)]).av (vs L6 (ch (good s0 s1 s2 s3 s4 n && times ts) (decide (en < n)) (cl33.F s0 s1 s2 s3 s4 n)))) [[Z n]] := by
  refine enterT mixed chA chC _ _ ρ Try.func28 rfl rfl ht hap rfl rfl (fun hF => ?_)
  rw [ch33.t]
  refine ok_cut (fun y L w' => y = (good s0 s1 s2 s3 s4 n, ()) ∧ Fine (own ρ [(0, [I n], 3)]) w L w') ?_ ?_
  · refine ok_callq (x := cong_Right.F s0 s1 s2 s3 s4) hF rfl (fun L w2 _ => cong_Right.c s0 s1 s2 s3 s4 w2) (fun L w2 hF => ?_)
    refine ok_if (fun h1 => ?_) (fun h1 => ?_)
    · refine ok_callq (x := cong_within.F n 1 1200) hF rfl (fun L w2 _ => cong_within.c n 1 1200 w2) (fun L w2 hF => ?_)
      refine ok_if (fun h2 => ?_) (fun h2 => ?_)
      · exact ok_meet (I := fun (y : Tup [Lf.b]) L w' => y = (good s0 s1 s2 s3 s4 n, ()) ∧ Fine (own ρ [(0, [I n], 3)]) w L w') (fun L w2 he => ⟨by unfold good; rw [h1, h2]; rfl, hF.ext he⟩)
      · exact ok_meet (I := fun (y : Tup [Lf.b]) L w' => y = (good s0 s1 s2 s3 s4 n, ()) ∧ Fine (own ρ [(0, [I n], 3)]) w L w') (fun L w2 he => ⟨by unfold good; rw [h1, h2]; rfl, hF.ext he⟩)
    · exact ok_meet (I := fun (y : Tup [Lf.b]) L w' => y = (good s0 s1 s2 s3 s4 n, ()) ∧ Fine (own ρ [(0, [I n], 3)]) w L w') (fun L w2 he => ⟨by unfold good; rw [h1]; rfl, hF.ext he⟩)
  · rintro y L w1 ⟨rfl, hF⟩
    refine ok_loop (fun m y L w' => ∃ j : Nat, j ≤ ts.length ∧ m = ts.length - j ∧ y = (good s0 s1 s2 s3 s4 n && times (ts.take j), (j : Int), ()) ∧ Fine (own ρ [(0, [I n], 3)]) w L w') ts.length ⟨0, Nat.zero_le _, rfl, by show (good s0 s1 s2 s3 s4 n, (0 : Int), ()) = (good s0 s1 s2 s3 s4 n && true, (0 : Int), ()); rw [Bool.and_true], hF⟩ ?_
    rintro m y L w1 ⟨j, hj, rfl, rfl, hF⟩
    dsimp only
    refine ok_if (fun h1 => ?_) (fun h1 => ?_)
    · have hlt : j < ts.length := by simpa using h1
      obtain ⟨ad, rfl, hc, hn⟩ := hA j ts[j] (List.getElem?_eq_getElem hlt)
      have hstep : (good s0 s1 s2 s3 s4 n && times (ts.take (j + 1))) = (good s0 s1 s2 s3 s4 n && times (ts.take j) && (cong_within.F ts[j] 0 1099511627776).1) := by
        rw [List.take_add_one, List.getElem?_eq_getElem hlt]
        simp only [times, List.all_append, Option.toList_some, List.all_cons, List.all_nil, Bool.and_true, Bool.and_assoc]
      have hw : IntKind.i64.wrap ((j : Int) + 1) = ((j + 1 : Nat) : Int) := by
        rw [wrap_small ((j : Int) + 1) (by omega) (by omega)]; omega
      refine ok_need (by simp; omega) ?_
      refine ok_ld (ad := ad.add j) (ts[j], ()) hF (by simp) hn hc ?_
      refine ok_if (fun h2 => ?_) (fun h2 => ?_)
      · refine ok_callq (x := cong_within.F ts[j] 0 1099511627776) hF rfl (fun L w2 _ => cong_within.c ts[j] 0 1099511627776 w2) (fun L w2 hF => ?_)
        refine ok_if (fun h3 => ?_) (fun h3 => ?_)
        · exact ok_again (I := fun m (y : Tup [Lf.b, Lf.i .i64]) L w' => ∃ j : Nat, j ≤ ts.length ∧ m = ts.length - j ∧ y = (good s0 s1 s2 s3 s4 n && times (ts.take j), (j : Int), ()) ∧ Fine (own ρ [(0, [I n], 3)]) w L w') (ts.length - (j + 1)) (by omega) (fun L w2 he => ⟨j + 1, hlt, rfl, by rw [hstep, h2, h3, hw]; rfl, hF.ext he⟩)
        · exact ok_again (I := fun m (y : Tup [Lf.b, Lf.i .i64]) L w' => ∃ j : Nat, j ≤ ts.length ∧ m = ts.length - j ∧ y = (good s0 s1 s2 s3 s4 n && times (ts.take j), (j : Int), ()) ∧ Fine (own ρ [(0, [I n], 3)]) w L w') (ts.length - (j + 1)) (by omega) (fun L w2 he => ⟨j + 1, hlt, rfl, by rw [hstep, h2, h3, hw]; rfl, hF.ext he⟩)
      · exact ok_again (I := fun m (y : Tup [Lf.b, Lf.i .i64]) L w' => ∃ j : Nat, j ≤ ts.length ∧ m = ts.length - j ∧ y = (good s0 s1 s2 s3 s4 n && times (ts.take j), (j : Int), ()) ∧ Fine (own ρ [(0, [I n], 3)]) w L w') (ts.length - (j + 1)) (by omega) (fun L w2 he => ⟨j + 1, hlt, rfl, by rw [hstep, h2, hw]; rfl, hF.ext he⟩)
    · have hje : j = ts.length := by simp at h1; omega
      subst hje
      rw [List.take_length]
      refine ok_if (fun h2 => ?_) (fun h2 => ?_)
      · rw [h2]
        refine ok_if (fun h3 => ?_) (fun h3 => ?_)
        · rw [h3]; refine ok_doneT hF ?_ ?_ ?_ ?_ ?_ ?_ <;> rfl
        · rw [h3]
          refine ok_callT (x := ((cl33.F s0 s1 s2 s3 s4 n).1, (cl33.F s0 s1 s2 s3 s4 n).2.1, (cl33.F s0 s1 s2 s3 s4 n).2.2.1, (cl33.F s0 s1 s2 s3 s4 n).2.2.2.1, (cl33.F s0 s1 s2 s3 s4 n).2.2.2.2.1, n, ())) hF (fun ρ' L w hp hF he ht hap => cl33.c s0 s1 s2 s3 s4 n (fun k => match k with | 0 => ρ' 1000 | 1 => ρ' 0 | _ => 0) w (stand_of ht) (apart_map rfl hap)) (fun L w2 hF => ?_)
          refine ok_doneT hF ?_ ?_ ?_ ?_ ?_ ?_ <;> rfl
      · rw [h2]; refine ok_doneT hF ?_ ?_ ?_ ?_ ?_ ?_ <;> rfl
theorem ch35.t (s0 s1 s2 s3 s4 n en : Int) (A : Option Addr) (len cap : Nat) : tree Try.prog chA chC Try.f28 [.agg (St s0 s1 s2 s3 s4), I n, I en, .v (.slice A len cap), .fn (.func 35) [] [.p 0 0]] [(0, [I n], 3)] =
  .cut [Lf.b] 0 (.call 9 [.agg (St s0 s1 s2 s3 s4)] [] Sh.one [Lf.b] [] (fun x0 => bif x0.1 then .call 27 [I n, I 1, I 1200] [] Sh.one [Lf.b] [] (fun x1 => bif x1.1 then .again 0 [Lf.b] (true, ()) else .again 0 [Lf.b] (false, ())) else .again 0 [Lf.b] (false, ()))) (fun x0 =>
    .loop [Lf.b, Lf.i .i64] (x0.1, 0, ()) 0 (fun x1 => bif decide (x1.2.1 < ↑len) then .need (decide (0 ≤ x1.2.1) && decide (x1.2.1 < ↑len) && A.isSome) (.ld (A.map (fun x => x.add (x1.2.1.toNat * 1))) [Lf.i .i64] (fun x2 => bif x1.1 then .call 27 [I x2.1, I 0, I 1099511627776] [] Sh.one [Lf.b] [] (fun x3 => bif x3.1 then .again 0 [Lf.b, Lf.i .i64] (true, IntKind.i64.wrap (x1.2.1 + 1), ()) else .again 0 [Lf.b, Lf.i .i64] (false, IntKind.i64.wrap (x1.2.1 + 1), ())) else .again 0 [Lf.b, Lf.i .i64] (false, IntKind.i64.wrap (x1.2.1 + 1), ())))
      else bif x1.1 then bif decide (en < n) then .done (.tup [.agg (St 0 0 0 0 0), I 7]) [(0, [I n], 3)] else .call 35 [.p 1000 0, .p 0 0] [(1000, St s0 s1 s2 s3 s4, 25), (0, [I n], 3)] (Sh.tup []) [Lf.i .i64, Lf.i .i64, Lf.i .i64, Lf.i .i64, Lf.i .i64, Lf.i .i64] [5, 1] (fun x2 => .done (.tup [.agg (St x2.1 x2.2.1 x2.2.2.1 x2.2.2.2.1 x2.2.2.2.2.1), I 0]) [(0, [I x2.2.2.2.2.2.1], 3)]) else .done (.tup [.agg (St 0 0 0 0 0), I 1]) [(0, [I n], 3)])) := by kernel_rfl
theorem ch35.c (s0 s1 s2 s3 s4 n en : Int) (A : Option Addr) (cap : Nat) (ts : List Int) (hts : ts.length < 2 ^ 60) (ρ : Nat → Nat) (w : World) (hA : ∀ j x, ts[j]? = some x → ∃ ad, A = some ad ∧ w.cell? (ad.add j) = some (Z x) ∧ ¬ own ρ [(0, [I n], 3)] (ad.add j).block)
    (ht : Stand ρ w [(0, [I n], 3)]) (hap : Apart ρ [(0, [I n], 3)]) :
    Turns Try.prog 28 [.agg (St s0 s1 s2 s3 s4), I n, I en, .v (.slice A ts.length cap), .fn (.func 35) [] [.p 0 0]] ρ [(0, [I n], 3)] w ((Sh.tup [(true, 5), (false, 1)]).av (vs L6 (ch (good s0 s1 s2 s3 s4 n && times ts) (decide (en < n)) (cl35.F s0 s1 s2 s3 s4 n)))) [[Z n]] := by
  refine enterT mixed chA chC _ _ ρ Try.func28 rfl rfl ht hap rfl rfl (fun hF => ?_)
  rw [ch35.t]
  refine ok_cut (fun y L w' => y = (good s0 s1 s2 s3 s4 n, ()) ∧ Fine (own ρ [(0, [I n], 3)]) w L w') ?_ ?_
  · refine ok_callq (x := cong_Right.F s0 s1 s2 s3 s4) hF rfl (fun L w2 _ => cong_Right.c s0 s1 s2 s3 s4 w2) (fun L w2 hF => ?_)
    refine ok_if (fun h1 => ?_) (fun h1 => ?_)
    · refine ok_callq (x := cong_within.F n 1 1200) hF rfl (fun L w2 _ => cong_within.c n 1 1200 w2) (fun L w2 hF => ?_)
      refine ok_if (fun h2 => ?_) (fun h2 => ?_)
      · exact ok_meet (I := fun (y : Tup [Lf.b]) L w' => y = (good s0 s1 s2 s3 s4 n, ()) ∧ Fine (own ρ [(0, [I n], 3)]) w L w') (fun L w2 he => ⟨by unfold good; rw [h1, h2]; rfl, hF.ext he⟩)
      · exact ok_meet (I := fun (y : Tup [Lf.b]) L w' => y = (good s0 s1 s2 s3 s4 n, ()) ∧ Fine (own ρ [(0, [I n], 3)]) w L w') (fun L w2 he => ⟨by unfold good; rw [h1, h2]; rfl, hF.ext he⟩)
    · exact ok_meet (I := fun (y : Tup [Lf.b]) L w' => y = (good s0 s1 s2 s3 s4 n, ()) ∧ Fine (own ρ [(0, [I n], 3)]) w L w') (fun L w2 he => ⟨by unfold good; rw [h1]; rfl, hF.ext he⟩)
  · rintro y L w1 ⟨rfl, hF⟩
    refine ok_loop (fun m y L w' => ∃ j : Nat, j ≤ ts.length ∧ m = ts.length - j ∧ y = (good s0 s1 s2 s3 s4 n && times (ts.take j), (j : Int), ()) ∧ Fine (own ρ [(0, [I n], 3)]) w L w') ts.length ⟨0, Nat.zero_le _, rfl, by show (good s0 s1 s2 s3 s4 n, (0 : Int), ()) = (good s0 s1 s2 s3 s4 n && true, (0 : Int), ()); rw [Bool.and_true], hF⟩ ?_
    rintro m y L w1 ⟨j, hj, rfl, rfl, hF⟩
    dsimp only
    refine ok_if (fun h1 => ?_) (fun h1 => ?_)
    · have hlt : j < ts.length := by simpa using h1
      obtain ⟨ad, rfl, hc, hn⟩ := hA j ts[j] (List.getElem?_eq_getElem hlt)
      have hstep : (good s0 s1 s2 s3 s4 n && times (ts.take (j + 1))) = (good s0 s1 s2 s3 s4 n && times (ts.take j) && (cong_within.F ts[j] 0 1099511627776).1) := by
        rw [List.take_add_one, List.getElem?_eq_getElem hlt]
        simp only [times, List.all_append, Option.toList_some, List.all_cons, List.all_nil, Bool.and_true, Bool.and_assoc]
      have hw : IntKind.i64.wrap ((j : Int) + 1) = ((j + 1 : Nat) : Int) := by
        rw [wrap_small ((j : Int) + 1) (by omega) (by omega)]; omega
      refine ok_need (by simp; omega) ?_
      refine ok_ld (ad := ad.add j) (ts[j], ()) hF (by simp) hn hc ?_
      refine ok_if (fun h2 => ?_) (fun h2 => ?_)
      · refine ok_callq (x := cong_within.F ts[j] 0 1099511627776) hF rfl (fun L w2 _ => cong_within.c ts[j] 0 1099511627776 w2) (fun L w2 hF => ?_)
        refine ok_if (fun h3 => ?_) (fun h3 => ?_)
        · exact ok_again (I := fun m (y : Tup [Lf.b, Lf.i .i64]) L w' => ∃ j : Nat, j ≤ ts.length ∧ m = ts.length - j ∧ y = (good s0 s1 s2 s3 s4 n && times (ts.take j), (j : Int), ()) ∧ Fine (own ρ [(0, [I n], 3)]) w L w') (ts.length - (j + 1)) (by omega) (fun L w2 he => ⟨j + 1, hlt, rfl, by rw [hstep, h2, h3, hw]; rfl, hF.ext he⟩)
        · exact ok_again (I := fun m (y : Tup [Lf.b, Lf.i .i64]) L w' => ∃ j : Nat, j ≤ ts.length ∧ m = ts.length - j ∧ y = (good s0 s1 s2 s3 s4 n && times (ts.take j), (j : Int), ()) ∧ Fine (own ρ [(0, [I n], 3)]) w L w') (ts.length - (j + 1)) (by omega) (fun L w2 he => ⟨j + 1, hlt, rfl, by rw [hstep, h2, h3, hw]; rfl, hF.ext he⟩)
      · exact ok_again (I := fun m (y : Tup [Lf.b, Lf.i .i64]) L w' => ∃ j : Nat, j ≤ ts.length ∧ m = ts.length - j ∧ y = (good s0 s1 s2 s3 s4 n && times (ts.take j), (j : Int), ()) ∧ Fine (own ρ [(0, [I n], 3)]) w L w') (ts.length - (j + 1)) (by omega) (fun L w2 he => ⟨j + 1, hlt, rfl, by rw [hstep, h2, hw]; rfl, hF.ext he⟩)
    · have hje : j = ts.length := by simp at h1; omega
      subst hje
      rw [List.take_length]
      refine ok_if (fun h2 => ?_) (fun h2 => ?_)
      · rw [h2]
        refine ok_if (fun h3 => ?_) (fun h3 => ?_)
        · rw [h3]; refine ok_doneT hF ?_ ?_ ?_ ?_ ?_ ?_ <;> rfl
        · rw [h3]
          refine ok_callT (x := ((cl35.F s0 s1 s2 s3 s4 n).1, (cl35.F s0 s1 s2 s3 s4 n).2.1, (cl35.F s0 s1 s2 s3 s4 n).2.2.1, (cl35.F s0 s1 s2 s3 s4 n).2.2.2.1, (cl35.F s0 s1 s2 s3 s4 n).2.2.2.2.1, n, ())) hF (fun ρ' L w hp hF he ht hap => cl35.c s0 s1 s2 s3 s4 n (fun k => match k with | 0 => ρ' 1000 | 1 => ρ' 0 | _ => 0) w (stand_of ht) (apart_map rfl hap)) (fun L w2 hF => ?_)
          refine ok_doneT hF ?_ ?_ ?_ ?_ ?_ ?_ <;> rfl
      · rw [h2]; refine ok_doneT hF ?_ ?_ ?_ ?_ ?_ ?_ <;> rfl
theorem ch29.t (s0 s1 s2 s3 s4 n t en : Int) (A : Option Addr) (len cap : Nat) : tree Try.prog chA chC Try.f28 [.agg (St s0 s1 s2 s3 s4), I n, I en, .v (.slice A len cap), .fn (.func 29) [] [.p 0 0, .p 1 0]] [(0, [I n], 3), (1, [I t], 3)] =
  .cut [Lf.b] 0 (.call 9 [.agg (St s0 s1 s2 s3 s4)] [] Sh.one [Lf.b] [] (fun x0 => bif x0.1 then .call 27 [I n, I 1, I 1200] [] Sh.one [Lf.b] [] (fun x1 => bif x1.1 then .again 0 [Lf.b] (true, ()) else .again 0 [Lf.b] (false, ())) else .again 0 [Lf.b] (false, ()))) (fun x0 =>
    .loop [Lf.b, Lf.i .i64] (x0.1, 0, ()) 0 (fun x1 => bif decide (x1.2.1 < ↑len) then .need (decide (0 ≤ x1.2.1) && decide (x1.2.1 < ↑len) && A.isSome) (.ld (A.map (fun x => x.add (x1.2.1.toNat * 1))) [Lf.i .i64] (fun x2 => bif x1.1 then .call 27 [I x2.1, I 0, I 1099511627776] [] Sh.one [Lf.b] [] (fun x3 => bif x3.1 then .again 0 [Lf.b, Lf.i .i64] (true, IntKind.i64.wrap (x1.2.1 + 1), ()) else .again 0 [Lf.b, Lf.i .i64] (false, IntKind.i64.wrap (x1.2.1 + 1), ())) else .again 0 [Lf.b, Lf.i .i64] (false, IntKind.i64.wrap (x1.2.1 + 1), ())))
      else bif x1.1 then bif decide (en < n) then .done (.tup [.agg (St 0 0 0 0 0), I 7]) [(0, [I n], 3), (1, [I t], 3)] else .call 29 [.p 1000 0, .p 0 0, .p 1 0] [(1000, St s0 s1 s2 s3 s4, 25), (0, [I n], 3), (1, [I t], 3)] (Sh.tup []) [Lf.i .i64, Lf.i .i64, Lf.i .i64, Lf.i .i64, Lf.i .i64, Lf.i .i64, Lf.i .i64] [5, 1, 1] (fun x2 => .done (.tup [.agg (St x2.1 x2.2.1 x2.2.2.1 x2.2.2.2.1 x2.2.2.2.2.1), I 0]) [(0, [I x2.2.2.2.2.2.1], 3), (1, [I x2.2.2.2.2.2.2.1], 3)]) else .done (.tup [.agg (St 0 0 0 0 0), I 1]) [(0, [I n], 3), (1, [I t], 3)])) := by kernel_rfl
theorem ch29.c (s0 s1 s2 s3 s4 n t en : Int) (A : Option Addr) (cap : Nat) (ts : List Int) (hts : ts.length < 2 ^ 60) (ρ : Nat → Nat) (w : World) (hA : ∀ j x, ts[j]? = some x → ∃ ad, A = some ad ∧ w.cell? (ad.add j) = some (Z x) ∧ ¬ own ρ [(0, [I n], 3), (1, [I t], 3)] (ad.add j).block)
    (ht : Stand ρ w [(0, [I n], 3), (1, [I t], 3)]) (hap : Apart ρ [(0, [I n], 3), (1, [I t], 3)]) :
    Turns Try.prog 28 [.agg (St s0 s1 s2 s3 s4), I n, I en, .v (.slice A ts.length cap), .fn (.func 29) [] [.p 0 0, .p 1 0]] ρ [(0, [I n], 3), (1, [I t], 3)] w ((Sh.tup [(true, 5), (false, 1)]).av (vs L6 (ch (good s0 s1 s2 s3 s4 n && times ts) (decide (en < n)) (cl29.F s0 s1 s2 s3 s4 n t)))) [[Z n], [Z t]] := by
  refine enterT mixed chA chC _ _ ρ Try.func28 rfl rfl ht hap rfl rfl (fun hF => ?_)
  rw [ch29.t]
  refine ok_cut (fun y L w' => y = (good s0 s1 s2 s3 s4 n, ()) ∧ Fine (own ρ [(0, [I n], 3), (1, [I t], 3)]) w L w') ?_ ?_
  · refine ok_callq (x := cong_Right.F s0 s1 s2 s3 s4) hF rfl (fun L w2 _ => cong_Right.c s0 s1 s2 s3 s4 w2) (fun L w2 hF => ?_)
    refine ok_if (fun h1 => ?_) (fun h1 => ?_)
    · refine ok_callq (x := cong_within.F n 1 1200) hF rfl (fun L w2 _ => cong_within.c n 1 1200 w2) (fun L w2 hF => ?_)
      refine ok_if (fun h2 => ?_) (fun h2 => ?_)
      · exact ok_meet (I := fun (y : Tup [Lf.b]) L w' => y = (good s0 s1 s2 s3 s4 n, ()) ∧ Fine (own ρ [(0, [I n], 3), (1, [I t], 3)]) w L w') (fun L w2 he => ⟨by unfold good; rw [h1, h2]; rfl, hF.ext he⟩)
      · exact ok_meet (I := fun (y : Tup [Lf.b]) L w' => y = (good s0 s1 s2 s3 s4 n, ()) ∧ Fine (own ρ [(0, [I n], 3), (1, [I t], 3)]) w L w') (fun L w2 he => ⟨by unfold good; rw [h1, h2]; rfl, hF.ext he⟩)
    · exact ok_meet (I := fun (y : Tup [Lf.b]) L w' => y = (good s0 s1 s2 s3 s4 n, ()) ∧ Fine (own ρ [(0, [I n], 3), (1, [I t], 3)]) w L w') (fun L w2 he => ⟨by unfold good; rw [h1]; rfl, hF.ext he⟩)
  · rintro y L w1 ⟨rfl, hF⟩
    refine ok_loop (fun m y L w' => ∃ j : Nat, j ≤ ts.length ∧ m = ts.length - j ∧ y = (good s0 s1 s2 s3 s4 n && times (ts.take j), (j : Int), ()) ∧ Fine (own ρ [(0, [I n], 3), (1, [I t], 3)]) w L w') ts.length ⟨0, Nat.zero_le _, rfl, by show (good s0 s1 s2 s3 s4 n, (0 : Int), ()) = (good s0 s1 s2 s3 s4 n && true, (0 : Int), ()); rw [Bool.and_true], hF⟩ ?_
    rintro m y L w1 ⟨j, hj, rfl, rfl, hF⟩
    dsimp only
    refine ok_if (fun h1 => ?_) (fun h1 => ?_)
    · have hlt : j < ts.length := by simpa using h1
      obtain ⟨ad, rfl, hc, hn⟩ := hA j ts[j] (List.getElem?_eq_getElem hlt)
      have hstep : (good s0 s1 s2 s3 s4 n && times (ts.take (j + 1))) = (good s0 s1 s2 s3 s4 n && times (ts.take j) && (cong_within.F ts[j] 0 1099511627776).1) := by
        rw [List.take_add_one, List.getElem?_eq_getElem hlt]
        simp only [times, List.all_append, Option.toList_some, List.all_cons, List.all_nil, Bool.and_true, Bool.and_assoc]
      have hw : IntKind.i64.wrap ((j : Int) + 1) = ((j + 1 : Nat) : Int) := by
        rw [wrap_small ((j : Int) + 1) (by omega) (by omega)]; omega
      refine ok_need (by simp; omega) ?_
      refine ok_ld (ad := ad.add j) (ts[j], ()) hF (by simp) hn hc ?_
      refine ok_if (fun h2 => ?_) (fun h2 => ?_)
      · refine ok_callq (x := cong_within.F ts[j] 0 1099511627776) hF rfl (fun L w2 _ => cong_within.c ts[j] 0 1099511627776 w2) (fun L w2 hF => ?_)
        refine ok_if (fun h3 => ?_) (fun h3 => ?_)
        · exact ok_again (I := fun m (y : Tup [Lf.b, Lf.i .i64]) L w' => ∃ j : Nat, j ≤ ts.length ∧ m = ts.length - j ∧ y = (good s0 s1 s2 s3 s4 n && times (ts.take j), (j : Int), ()) ∧ Fine (own ρ [(0, [I n], 3), (1, [I t], 3)]) w L w') (ts.length - (j + 1)) (by omega) (fun L w2 he => ⟨j + 1, hlt, rfl, by rw [hstep, h2, h3, hw]; rfl, hF.ext he⟩)
        · exact ok_again (I := fun m (y : Tup [Lf.b, Lf.i .i64]) L w' => ∃ j : Nat, j ≤ ts.length ∧ m = ts.length - j ∧ y = (good s0 s1 s2 s3 s4 n && times (ts.take j), (j : Int), ()) ∧ Fine (own ρ [(0, [I n], 3), (1, [I t], 3)]) w L w') (ts.length - (j + 1)) (by omega) (fun L w2 he => ⟨j + 1, hlt, rfl, by rw [hstep, h2, h3, hw]; rfl, hF.ext he⟩)
      · exact ok_again (I := fun m (y : Tup [Lf.b, Lf.i .i64]) L w' => ∃ j : Nat, j ≤ ts.length ∧ m = ts.length - j ∧ y = (good s0 s1 s2 s3 s4 n && times (ts.take j), (j : Int), ()) ∧ Fine (own ρ [(0, [I n], 3), (1, [I t], 3)]) w L w') (ts.length - (j + 1)) (by omega) (fun L w2 he => ⟨j + 1, hlt, rfl, by rw [hstep, h2, hw]; rfl, hF.ext he⟩)
    · have hje : j = ts.length := by simp at h1; omega
      subst hje
      rw [List.take_length]
      refine ok_if (fun h2 => ?_) (fun h2 => ?_)
      · rw [h2]
        refine ok_if (fun h3 => ?_) (fun h3 => ?_)
        · rw [h3]; refine ok_doneT hF ?_ ?_ ?_ ?_ ?_ ?_ <;> rfl
        · rw [h3]
          refine ok_callT (x := ((cl29.F s0 s1 s2 s3 s4 n t).1, (cl29.F s0 s1 s2 s3 s4 n t).2.1, (cl29.F s0 s1 s2 s3 s4 n t).2.2.1, (cl29.F s0 s1 s2 s3 s4 n t).2.2.2.1, (cl29.F s0 s1 s2 s3 s4 n t).2.2.2.2.1, n, t, ())) hF (fun ρ' L w hp hF he ht hap => cl29.c s0 s1 s2 s3 s4 n t (fun k => match k with | 0 => ρ' 1000 | 1 => ρ' 0 | 2 => ρ' 1 | _ => 0) w (stand_of ht) (apart_map rfl hap)) (fun L w2 hF => ?_)
          refine ok_doneT hF ?_ ?_ ?_ ?_ ?_ ?_ <;> rfl
      · rw [h2]; refine ok_doneT hF ?_ ?_ ?_ ?_ ?_ ?_ <;> rfl
theorem ch32.t (s0 s1 s2 s3 s4 n t now en : Int) (A : Option Addr) (len cap : Nat) : tree Try.prog chA chC Try.f28 [.agg (St s0 s1 s2 s3 s4), I n, I en, .v (.slice A len cap), .fn (.func 32) [] [.p 0 0, .p 1 0, .p 2 0]] [(0, [I n], 3), (1, [I t], 3), (2, [I now], 3)] =
  .cut [Lf.b] 0 (.call 9 [.agg (St s0 s1 s2 s3 s4)] [] Sh.one [Lf.b] [] (fun x0 => bif x0.1 then .call 27 [I n, I 1, I 1200] [] Sh.one [Lf.b] [] (fun x1 => bif x1.1 then .again 0 [Lf.b] (true, ()) else .again 0 [Lf.b] (false, ())) else .again 0 [Lf.b] (false, ()))) (fun x0 =>
    .loop [Lf.b, Lf.i .i64] (x0.1, 0, ()) 0 (fun x1 => bif decide (x1.2.1 < ↑len) then .need (decide (0 ≤ x1.2.1) && decide (x1.2.1 < ↑len) && A.isSome) (.ld (A.map (fun x => x.add (x1.2.1.toNat * 1))) [Lf.i .i64] (fun x2 => bif x1.1 then .call 27 [I x2.1, I 0, I 1099511627776] [] Sh.one [Lf.b] [] (fun x3 => bif x3.1 then .again 0 [Lf.b, Lf.i .i64] (true, IntKind.i64.wrap (x1.2.1 + 1), ()) else .again 0 [Lf.b, Lf.i .i64] (false, IntKind.i64.wrap (x1.2.1 + 1), ())) else .again 0 [Lf.b, Lf.i .i64] (false, IntKind.i64.wrap (x1.2.1 + 1), ())))
      else bif x1.1 then bif decide (en < n) then .done (.tup [.agg (St 0 0 0 0 0), I 7]) [(0, [I n], 3), (1, [I t], 3), (2, [I now], 3)] else .call 32 [.p 1000 0, .p 0 0, .p 1 0, .p 2 0] [(1000, St s0 s1 s2 s3 s4, 25), (0, [I n], 3), (1, [I t], 3), (2, [I now], 3)] (Sh.tup []) [Lf.i .i64, Lf.i .i64, Lf.i .i64, Lf.i .i64, Lf.i .i64, Lf.i .i64, Lf.i .i64, Lf.i .i64] [5, 1, 1, 1] (fun x2 => .done (.tup [.agg (St x2.1 x2.2.1 x2.2.2.1 x2.2.2.2.1 x2.2.2.2.2.1), I 0]) [(0, [I x2.2.2.2.2.2.1], 3), (1, [I x2.2.2.2.2.2.2.1], 3), (2, [I x2.2.2.2.2.2.2.2.1], 3)]) else .done (.tup [.agg (St 0 0 0 0 0), I 1]) [(0, [I n], 3), (1, [I t], 3), (2, [I now], 3)])) := by kernel_rfl
theorem ch32.c (s0 s1 s2 s3 s4 n t now en : Int) (A : Option Addr) (cap : Nat) (ts : List Int) (hts : ts.length < 2 ^ 60) (ρ : Nat → Nat) (w : World) (hA : ∀ j x, ts[j]? = some x → ∃ ad, A = some ad ∧ w.cell? (ad.add j) = some (Z x) ∧ ¬ own ρ [(0, [I n], 3), (1, [I t], 3), (2, [I now], 3)] (ad.add j).block)
    (ht : Stand ρ w [(0, [I n], 3), (1, [I t], 3), (2, [I now], 3)]) (hap : Apart ρ [(0, [I n], 3), (1, [I t], 3), (2, [I now], 3)]) :
    Turns Try.prog 28 [.agg (St s0 s1 s2 s3 s4), I n, I en, .v (.slice A ts.length cap), .fn (.func 32) [] [.p 0 0, .p 1 0, .p 2 0]] ρ [(0, [I n], 3), (1, [I t], 3), (2, [I now], 3)] w ((Sh.tup [(true, 5), (false, 1)]).av (vs L6 (ch (good s0 s1 s2 s3 s4 n && times ts) (decide (en < n)) (cl32.F s0 s1 s2 s3 s4 n t now)))) [[Z n], [Z t], [Z now]] := by
  refine enterT mixed chA chC _ _ ρ Try.func28 rfl rfl ht hap rfl rfl (fun hF => ?_)
  rw [ch32.t]
  refine ok_cut (fun y L w' => y = (good s0 s1 s2 s3 s4 n, ()) ∧ Fine (own ρ [(0, [I n], 3), (1, [I t], 3), (2, [I now], 3)]) w L w') ?_ ?_
  · refine ok_callq (x := cong_Right.F s0 s1 s2 s3 s4) hF rfl (fun L w2 _ => cong_Right.c s0 s1 s2 s3 s4 w2) (fun L w2 hF => ?_)
    refine ok_if (fun h1 => ?_) (fun h1 => ?_)
    · refine ok_callq (x := cong_within.F n 1 1200) hF rfl (fun L w2 _ => cong_within.c n 1 1200 w2) (fun L w2 hF => ?_)
      refine ok_if (fun h2 => ?_) (fun h2 => ?_)
      · exact ok_meet (I := fun (y : Tup [Lf.b]) L w' => y = (good s0 s1 s2 s3 s4 n, ()) ∧ Fine (own ρ [(0, [I n], 3), (1, [I t], 3), (2, [I now], 3)]) w L w') (fun L w2 he => ⟨by unfold good; rw [h1, h2]; rfl, hF.ext he⟩)
      · exact ok_meet (I := fun (y : Tup [Lf.b]) L w' => y = (good s0 s1 s2 s3 s4 n, ()) ∧ Fine (own ρ [(0, [I n], 3), (1, [I t], 3), (2, [I now], 3)]) w L w') (fun L w2 he => ⟨by unfold good; rw [h1, h2]; rfl, hF.ext he⟩)
    · exact ok_meet (I := fun (y : Tup [Lf.b]) L w' => y = (good s0 s1 s2 s3 s4 n, ()) ∧ Fine (own ρ [(0, [I n], 3), (1, [I t], 3), (2, [I now], 3)]) w L w') (fun L w2 he => ⟨by unfold good; rw [h1]; rfl, hF.ext he⟩)
  · rintro y L w1 ⟨rfl, hF⟩
    refine ok_loop (fun m y L w' => ∃ j : Nat, j ≤ ts.length ∧ m = ts.length - j ∧ y = (good s0 s1 s2 s3 s4 n && times (ts.take j), (j : Int), ()) ∧ Fine (own ρ [(0, [I n], 3), (1, [I t], 3), (2, [I now], 3)]) w L w') ts.length ⟨0, Nat.zero_le _, rfl, by show (good s0 s1 s2 s3 s4 n, (0 : Int), ()) = (good s0 s1 s2 s3 s4 n && true, (0 : Int), ()); rw [Bool.and_true], hF⟩ ?_
    rintro m y L w1 ⟨j, hj, rfl, rfl, hF⟩
    dsimp only
    refine ok_if (fun h1 => ?_) (fun h1 => ?_)
    · have hlt : j < ts.length := by simpa using h1
      obtain ⟨ad, rfl, hc, hn⟩ := hA j ts[j] (List.getElem?_eq_getElem hlt)
      have hstep : (good s0 s1 s2 s3 s4 n && times (ts.take (j + 1))) = (good s0 s1 s2 s3 s4 n && times (ts.take j) && (cong_within.F ts[j] 0 1099511627776).1) := by
        rw [List.take_add_one, List.getElem?_eq_getElem hlt]
        simp only [times, List.all_append, Option.toList_some, List.all_cons, List.all_nil, Bool.and_true, Bool.and_assoc]
      have hw : IntKind.i64.wrap ((j : Int) + 1) = ((j + 1 : Nat) : Int) := by
        rw [wrap_small ((j : Int) + 1) (by omega) (by omega)]; omega
      refine ok_need (by simp; omega) ?_
      refine ok_ld (ad := ad.add j) (ts[j], ()) hF (by simp) hn hc ?_
      refine ok_if (fun h2 => ?_) (fun h2 => ?_)
      · refine ok_callq (x := cong_within.F ts[j] 0 1099511627776) hF rfl (fun L w2 _ => cong_within.c ts[j] 0 1099511627776 w2) (fun L w2 hF => ?_)
        refine ok_if (fun h3 => ?_) (fun h3 => ?_)
        · exact ok_again (I := fun m (y : Tup [Lf.b, Lf.i .i64]) L w' => ∃ j : Nat, j ≤ ts.length ∧ m = ts.length - j ∧ y = (good s0 s1 s2 s3 s4 n && times (ts.take j), (j : Int), ()) ∧ Fine (own ρ [(0, [I n], 3), (1, [I t], 3), (2, [I now], 3)]) w L w') (ts.length - (j + 1)) (by omega) (fun L w2 he => ⟨j + 1, hlt, rfl, by rw [hstep, h2, h3, hw]; rfl, hF.ext he⟩)
        · exact ok_again (I := fun m (y : Tup [Lf.b, Lf.i .i64]) L w' => ∃ j : Nat, j ≤ ts.length ∧ m = ts.length - j ∧ y = (good s0 s1 s2 s3 s4 n && times (ts.take j), (j : Int), ()) ∧ Fine (own ρ [(0, [I n], 3), (1, [I t], 3), (2, [I now], 3)]) w L w') (ts.length - (j + 1)) (by omega) (fun L w2 he => ⟨j + 1, hlt, rfl, by rw [hstep, h2, h3, hw]; rfl, hF.ext he⟩)
      · exact ok_again (I := fun m (y : Tup [Lf.b, Lf.i .i64]) L w' => ∃ j : Nat, j ≤ ts.length ∧ m = ts.length - j ∧ y = (good s0 s1 s2 s3 s4 n && times (ts.take j), (j : Int), ()) ∧ Fine (own ρ [(0, [I n], 3), (1, [I t], 3), (2, [I now], 3)]) w L w') (ts.length - (j + 1)) (by omega) (fun L w2 he => ⟨j + 1, hlt, rfl, by rw [hstep, h2, hw]; rfl, hF.ext he⟩)
    · have hje : j = ts.length := by simp at h1; omega
      subst hje
      rw [List.take_length]
      refine ok_if (fun h2 => ?_) (fun h2 => ?_)
      · rw [h2]
        refine ok_if (fun h3 => ?_) (fun h3 => ?_)
        · rw [h3]; refine ok_doneT hF ?_ ?_ ?_ ?_ ?_ ?_ <;> rfl
        · rw [h3]
          refine ok_callT (x := ((cl32.F s0 s1 s2 s3 s4 n t now).1, (cl32.F s0 s1 s2 s3 s4 n t now).2.1, (cl32.F s0 s1 s2 s3 s4 n t now).2.2.1, (cl32.F s0 s1 s2 s3 s4 n t now).2.2.2.1, (cl32.F s0 s1 s2 s3 s4 n t now).2.2.2.2.1, n, t, now, ())) hF (fun ρ' L w hp hF he ht hap => cl32.c s0 s1 s2 s3 s4 n t now (fun k => match k with | 0 => ρ' 1000 | 1 => ρ' 0 | 2 => ρ' 1 | 3 => ρ' 2 | _ => 0) w (stand_of ht) (apart_map rfl hap)) (fun L w2 hF => ?_)
          refine ok_doneT hF ?_ ?_ ?_ ?_ ?_ ?_ <;> rfl
      · rw [h2]; refine ok_doneT hF ?_ ?_ ?_ ?_ ?_ ?_ <;> rfl
end Go.Proofs.Ytggemgbkkhpenaa.X
