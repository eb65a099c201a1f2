import Derived.Test.YtpdchohbmmfemaazOn2
namespace Go.Proofs.Ytpdchohbmmfemaa.X
open Go Go.RowKit Go.Proofs.YtpdchohbmmfemaaW.Rx Go.Proofs.Ytpdchohbmmfemaa.Plain
set_option linter.unusedVariables false
set_option linter.unusedSimpArgs false
def frames_oneA.F (k : Nat) (a0_0 : Int) (a0_1 : Int) (a0_2 : Int) (a0_3 : Int) (a0_4 : Int) (a0_5 : Bool) (l0_6 : List Int) (l0_7 : List (Int × Int)) : Option (List Int) := bif a0_0 == 2 then (bif decide (0 < l0_7.length ∧ l0_7.length ≤ 101) then some (ackB a0_3 l0_7) else none) else frames_one.F k a0_0 a0_1 a0_2 a0_3 a0_4 a0_5 l0_6 l0_7
theorem frames_oneA.c (k : Nat) (a0_0 : Int) (a0_1 : Int) (a0_2 : Int) (a0_3 : Int) (a0_4 : Int) (a0_5 : Bool) (A0_6 : Option Addr) (n0_6 c0_6 : Nat) (l0_6 : List Int) (A0_7 : Option Addr) (n0_7 c0_7 : Nat) (l0_7 : List (Int × Int)) (r : List Int) (h : frames_oneA.F k a0_0 a0_1 a0_2 a0_3 a0_4 a0_5 l0_6 l0_7 = some r) (hn0_6 : n0_6 = l0_6.length) (hn0_7 : n0_7 = l0_7.length) (w : World) (hS0_6 : SlR R23.row (fun _ => False) w A0_6 c0_6 l0_6) (hS0_7 : SlR R34.row (fun _ => False) w A0_7 c0_7 l0_7) : Calls Try.prog 23 (AV.gs id [AV.agg [AV.v (.int .i64 a0_0), AV.v (.int .i64 a0_1), AV.v (.int .i64 a0_2), AV.v (.int .i64 a0_3), AV.v (.int .i64 a0_4), AV.v (Value.bool a0_5), AV.v (Value.slice A0_6 n0_6 c0_6), AV.v (Value.slice A0_7 n0_7 c0_7)]]).toArray w fun e w' => ∃ (B0 : Option Addr) (d0 : Nat), e = .returned (((Sh.one : Sh).av (vs [Lf.sl] ((B0, (r).length, d0), ()))).g id) ∧ Below w.heap.size w w' ∧ OwnF w.heap.size (fun b => b < w.heap.size) w' 5 R23 B0 d0 r := by
 unfold frames_oneA.F at h
 cases hk : a0_0 == 2 with
 | false =>
  rw [hk] at h
  exact frames_one.c k a0_0 a0_1 a0_2 a0_3 a0_4 a0_5 A0_6 n0_6 c0_6 l0_6 A0_7 n0_7 c0_7 l0_7 r h hn0_6 hn0_7 w hS0_6 hS0_7
 | true =>
  obtain rfl : a0_0 = 2 := by simpa using hk
  rw [hk] at h
  simp only [cond_true] at h
  obtain ⟨hq, h⟩ := bif_need h
  have hq := of_decide_eq_true hq
  obtain rfl := Option.some.inj h
  have hA := hS0_7.some hq.1
  obtain ⟨ad, rfl⟩ := Option.isSome_iff_exists.1 hA
  have hm : l0_7.length = (l0_7.length - 1) + 1 := by omega
  subst hn0_7
  have := callsIn_wide.1 (one_ack A0_6 n0_6 c0_6 ad c0_7 (l0_7.length - 1) a0_1 a0_2 a0_3 a0_4 a0_5 l0_7 hm (by omega) w hS0_7)
  rw [← hm] at this
  exact this
end Go.Proofs.Ytpdchohbmmfemaa.X
