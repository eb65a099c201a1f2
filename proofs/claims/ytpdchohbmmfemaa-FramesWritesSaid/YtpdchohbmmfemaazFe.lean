import Derived.Test.YtpdchohbmmfemaazRxU
import Derived.Test.YtpdchohbmmfemaazRxSeat
import Derived.Test.YtpdchohbmmfemaaProg
import Derived.Test.YtpdchohbmmfemaazFd
namespace Go.Proofs.Ytpdchohbmmfemaa.X
open Go Go.RowKit Go.Proofs.YtpdchohbmmfemaaW.Rx
set_option linter.unusedVariables false
set_option linter.unusedSimpArgs false
set_option maxRecDepth 10000
def frames_put.F (k : Nat) (l0 : List Int) (l1 : List Int) : Option (List Int) := if l1 = [] then none else l1.foldlM (fun b n => (vint_Put.F k b n).map (·.1)) l0
abbrev frames_put.A : Nat → LA := fun r => if r = 2 then ⟨[(0, false, [Lf.sl]), (9, false, [Lf.i IntKind.i64])], []⟩ else ⟨[], []⟩
set_option maxHeartbeats 4000000 in
theorem frames_put.t (A0 : Option Addr) (n0 c0 : Nat) (A1 : Option Addr) (n1 c1 : Nat) : tree Try.prog frames_put.A noC Try.f41 [AV.v (Value.slice A0 n0 c0), AV.v (Value.slice A1 n1 c1)] [] =
  .loop ([Lf.sl, Lf.i IntKind.i64]) (((A0, n0, c0), 0, PUnit.unit)) 0 (fun x0 =>
   bif decide (x0.2.1 < (n1 : Int)) then (
    .need (decide (0 ≤ x0.2.1) && decide (x0.2.1 < (n1 : Int)) && Option.isSome A1) (
    .ld (Option.map (fun x => Addr.add x (Int.toNat x0.2.1 * 1)) A1) ([Lf.i IntKind.i64]) (fun x1 =>
     .call 58 ([AV.v (Value.slice x0.1.1 x0.1.2.1 x0.1.2.2), AV.v (Value.int IntKind.i64 x1.1)]) ([]) (Sh.tup [(false, 1), (false, 1)]) ([Lf.sl, Lf.i IntKind.i64]) ([]) (fun x2 =>
      .again 0 ([Lf.sl, Lf.i IntKind.i64]) (((x2.1.1, x2.1.2.1, x2.1.2.2), IntKind.wrap IntKind.i64 (x0.2.1 + 1), PUnit.unit))))))
   else (
    .done (AV.v (Value.slice x0.1.1 x0.1.2.1 x0.1.2.2)) ([]))) := by kernel_rfl
set_option maxHeartbeats 4000000 in
theorem frames_put.c (k : Nat) (A0 : Option Addr) (n0 c0 : Nat) (l0 : List Int) (A1 : Option Addr) (n1 c1 : Nat) (l1 : List Int) (r : List Int) (h : frames_put.F k l0 l1 = some r) (hn0 : n0 = l0.length) (hn1 : n1 = l1.length) (w : World) (hS0 : SlR R23.row (fun _ => False) w A0 c0 l0) (hS1 : SlR R76.row (fun _ => False) w A1 c1 l1) : Calls Try.prog 41 (AV.gs id [AV.v (Value.slice A0 n0 c0), AV.v (Value.slice A1 n1 c1)]).toArray w fun e w' => ∃ (B0 : Option Addr) (d0 : Nat), e = .returned (((Sh.one : Sh).av (vs [Lf.sl] ((B0, (r).length, d0), ()))).g id) ∧ Below w.heap.size w w' ∧ OwnF w.heap.size (fun b => b < w.heap.size) w' 5 R23 B0 d0 r := by
 subst hn0
 subst hn1
 have hmx := hS1.2.2
 unfold frames_put.F at h
 split at h
 ·cases h
 rename_i hne
 have hpos : 0 < l1.length := List.length_pos_iff.2 hne
 refine enter0 mixed frames_put.A noC [AV.v (Value.slice A0 l0.length c0), AV.v (Value.slice A1 l1.length c1)] Try.func41 rfl rfl rfl (fun hF => ?_)
 rw [frames_put.t]
 obtain ⟨I, hI⟩ : ∃ I : Nat → Tup [Lf.sl, Lf.i IntKind.i64] → (Nat → Prop) → World → Prop, I = (fun m y L w' => ∃ (j : Nat) (A : Option Addr) (c : Nat) (b : List Int), m + j = l1.length ∧ y = ((A, b.length, c), (j : Int), ()) ∧ (l1.drop j).foldlM (fun b n => (vint_Put.F k b n).map (·.1)) b = some r ∧ Fine (fun _ => False) w L w' ∧ SlR R23.row L w' A c b ∧ (j = 0 ∨ OwnF w.heap.size L w' 5 R23 A c b)) := ⟨_, rfl⟩
 refine ok_loop I l1.length (by rw [hI]; exact ⟨0, A0, c0, l0, rfl, rfl, by rw [List.drop_zero]; exact h, hF, hS0, Or.inl rfl⟩) ?_
 intro m y L1 w1 hy
 rw [hI] at hy
 obtain ⟨j, A, c, b, hm, rfl, hf, hF, hS, ho⟩ := hy
 dsimp only
 refine ok_if (fun hc => ?_) (fun hc => ?_)
 ·have hlt : j < l1.length := by have : (j : Int) < (l1.length : Int) := of_decide_eq_true hc; omega
  obtain ⟨x, hx⟩ : ∃ x, l1[j]? = some x := ⟨_, List.getElem?_eq_getElem hlt⟩
  have gx : getI l1 (j : Int) = some x := by rw [getI_nat]; exact hx
  have hd : l1.drop j = x :: l1.drop (j + 1) := by rw [List.drop_eq_getElem_cons hlt]; congr 1; rw [List.getElem?_eq_getElem hlt] at hx; exact Option.some.inj hx
  rw [hd, List.foldlM_cons] at hf
  obtain ⟨b', hb', hf⟩ := Option.bind_eq_some_iff.1 hf
  obtain ⟨q, hq, rfl⟩ := Option.map_eq_some_iff.1 hb'
  refine ok_need (getI_need (hS1.later hF) gx) ?_
  refine ok_get hS1 hF gx (by simp) (fun cs hcs => ⟨(x, ()), hcs.symm, ?_⟩)
  dsimp only
  refine ok_callm rfl (fun L w2 g lt => ?_)
  refine (vint_Put.c k A b.length c b x q hq rfl w2 (hS.later g).bare).mono ?_
  rintro e w3 ⟨B, d, rfl, hb, hO⟩
  refine ⟨((B, q.1.length, d), q.2, ()), rfl, hb, fun g' => ?_⟩
  dsimp only
  have hO := hO.call (hF.trans g).size lt
  have hF := hF.trans g'
  have f1 : IntKind.i64.wrap ((j : Int) + 1) = ((j + 1 : Nat) : Int) := by rw [wrap_in] <;> omega
  exact ok_again (I := I) (m - 1) (by omega) (fun L w' he => by rw [hI]; exact ⟨j + 1, B, d, q.1, by omega, by rw [f1], hf, hF.trans he.fine, hO.sl.later he.fine, Or.inr (hO.later he.fine)⟩)
 ·have hge : ¬ ((j : Int) < (l1.length : Int)) := of_decide_eq_false hc
  rw [List.drop_of_length_le (by omega)] at hf
  obtain rfl := Option.some.inj hf
  have ho : OwnF w.heap.size L1 w1 5 R23 A c b := ho.resolve_left (by omega)
  intro ρ L w' _ he _ _
  exact ⟨A, c, rfl, (hF.ext he).below, (ho.later he.fine).ret⟩
def ref01_room.F (k : Nat) (a0 : Int) (a1 : Int) : Option Bool := bif decide (0 ≤ a0) then (bif decide (0 ≤ IntKind.wrap IntKind.i64 (IntKind.wrap IntKind.i64 (8 * a1) - 2)) then (bif Int.fdiv a0 (2 ^ min (Int.toNat (IntKind.wrap IntKind.i64 (IntKind.wrap IntKind.i64 (8 * a1) - 2))) 64) == 0 then (some true) else (some false)) else none) else (some false)
abbrev ref01_room.A : Nat → LA := noA
set_option maxHeartbeats 4000000 in
theorem ref01_room.t (a0 : Int) (a1 : Int) : tree Try.prog ref01_room.A noC Try.f75 [AV.v (Value.int IntKind.i64 a0), AV.v (Value.int IntKind.i64 a1)] [] =
  bif decide (0 ≤ a0) then (
   .need (decide (0 ≤ IntKind.wrap IntKind.i64 (IntKind.wrap IntKind.i64 (8 * a1) - 2))) (
   bif Int.fdiv a0 (2 ^ min (Int.toNat (IntKind.wrap IntKind.i64 (IntKind.wrap IntKind.i64 (8 * a1) - 2))) 64) == 0 then (
    .done (AV.v (Value.bool true)) ([]))
   else (
    .done (AV.v (Value.bool false)) ([]))))
  else (
   .done (AV.v (Value.bool false)) ([])) := by kernel_rfl
set_option maxHeartbeats 4000000 in
theorem ref01_room.c (k : Nat) (a0 : Int) (a1 : Int) (r : Bool) (h : ref01_room.F k a0 a1 = some r)  (w : World)  : Calls Try.prog 75 (AV.gs id [AV.v (Value.int IntKind.i64 a0), AV.v (Value.int IntKind.i64 a1)]).toArray w fun e w' => e = .returned (((Sh.one : Sh).av (vs [Lf.b] (r, ()))).g id) ∧ Below w.heap.size w w' := by
 refine enter0 mixed ref01_room.A noC [AV.v (Value.int IntKind.i64 a0), AV.v (Value.int IntKind.i64 a1)] Try.func75 rfl rfl rfl (fun hF => ?_)
 rw [ref01_room.t]
 unfold ref01_room.F at h
 try dsimp only at h
 refine ok_if (fun hc1 => ?_) (fun hc1 => ?_)
 ·have h := bif_t h hc1
  obtain ⟨hn2, h⟩ := bif_need h
  refine ok_need hn2 ?_
  refine ok_if (fun hc3 => ?_) (fun hc3 => ?_)
  ·have h := bif_t h hc3
   obtain rfl := Option.some.inj h
   intro ρ L w' _ he _ _
   exact ⟨rfl, (hF.ext he).below⟩
  ·have h := bif_f h hc3
   obtain rfl := Option.some.inj h
   intro ρ L w' _ he _ _
   exact ⟨rfl, (hF.ext he).below⟩
 ·have h := bif_f h hc1
  obtain rfl := Option.some.inj h
  intro ρ L w' _ he _ _
  exact ⟨rfl, (hF.ext he).below⟩
def ref01_Size.s0 (k : Nat) (a0 : Int) : Int → Option (Sum Int Int) := fun v0_0 => bif decide (v0_0 ≤ 8) then ((ref01_room.F k a0 v0_0).bind fun v1_0 => bif v1_0 then (some (.inr v0_0)) else (some (.inl (IntKind.wrap IntKind.i64 (v0_0 * 2))))) else (some (.inr 0))
def ref01_Size.F (k : Nat) (a0 : Int) : Option Int := iter (ref01_Size.s0 k a0) k 1
abbrev ref01_Size.A : Nat → LA := fun r => if r = 2 then ⟨[(3, false, [Lf.i IntKind.i64])], []⟩ else ⟨[], []⟩
set_option maxHeartbeats 4000000 in
theorem ref01_Size.t (a0 : Int) : tree Try.prog ref01_Size.A noC Try.f70 [AV.v (Value.int IntKind.i64 a0)] [] =
  .loop ([Lf.i IntKind.i64]) ((1, PUnit.unit)) 0 (fun x0 =>
   bif decide (x0.1 ≤ 8) then (
    .call 75 ([AV.v (Value.int IntKind.i64 a0), AV.v (Value.int IntKind.i64 x0.1)]) ([]) (Sh.one) ([Lf.b]) ([]) (fun x1 =>
     bif x1.1 then (
      .done (AV.v (Value.int IntKind.i64 x0.1)) ([]))
     else (
      .again 0 ([Lf.i IntKind.i64]) ((IntKind.wrap IntKind.i64 (x0.1 * 2), PUnit.unit)))))
   else (
    .done (AV.v (Value.int IntKind.i64 0)) ([]))) := by kernel_rfl
set_option maxHeartbeats 4000000 in
theorem ref01_Size.c (k : Nat) (a0 : Int) (r : Int) (h : ref01_Size.F k a0 = some r)  (w : World)  : Calls Try.prog 70 (AV.gs id [AV.v (Value.int IntKind.i64 a0)]).toArray w fun e w' => e = .returned (((Sh.one : Sh).av (vs [Lf.i IntKind.i64] (r, ()))).g id) ∧ Below w.heap.size w w' := by
 refine enter0 mixed ref01_Size.A noC [AV.v (Value.int IntKind.i64 a0)] Try.func70 rfl rfl rfl (fun hF => ?_)
 rw [ref01_Size.t]
 unfold ref01_Size.F at h
 try dsimp only at h
 obtain ⟨I0, hI0⟩ : ∃ I : Nat → Tup [Lf.i IntKind.i64] → (Nat → Prop) → World → Prop, I = (fun m_ y L w' => ∃ (v0_0 : Int), y = (v0_0, ()) ∧ iter (ref01_Size.s0 k a0) m_ v0_0 = some r ∧ Fine (fun _ => False) w L w') := ⟨_, rfl⟩
 refine ok_loop I0 k (by rw [hI0]; exact ⟨_, rfl, h, hF⟩) ?_
 clear h
 intro m_ y L0 w0 hy
 rw [hI0] at hy
 obtain ⟨v0_0, rfl, h, hF⟩ := hy
 obtain ⟨m0, o0, rfl, h, hl0, hr_0⟩ := iter_some h
 unfold ref01_Size.s0 at h
 try dsimp only at h
 try dsimp only
 refine ok_if (fun hc2 => ?_) (fun hc2 => ?_)
 ·have h := bif_t h hc2
  obtain ⟨v1_0, hr1, h⟩ := Option.bind_eq_some_iff.1 h
  refine ok_callm rfl (fun L1 w1 g1 lt1 => ?_)
  refine (ref01_room.c k a0 v0_0 v1_0 hr1  w1 ).mono ?_
  rintro e w1' ⟨rfl, hb1⟩
  refine ⟨(v1_0, ()), rfl, hb1, fun g1' => ?_⟩
  try dsimp only
  have hF := hF.trans g1'
  refine ok_if (fun hc3 => ?_) (fun hc3 => ?_)
  ·have h := bif_t h hc3
   obtain rfl := Option.some.inj h
   obtain rfl := hr_0 _ rfl
   intro ρ L w' _ he _ _
   exact ⟨rfl, (hF.ext he).below⟩
  ·have h := bif_f h hc3
   obtain rfl := Option.some.inj h
   have h := hl0 _ rfl
   exact ok_again (I := I0) m0 (Nat.lt_succ_self _) (fun L w' he => by rw [hI0]; exact ⟨_, rfl, h, hF.trans he.fine⟩)
 ·have h := bif_f h hc2
  obtain rfl := Option.some.inj h
  obtain rfl := hr_0 _ rfl
  intro ρ L w' _ he _ _
  exact ⟨rfl, (hF.ext he).below⟩
def ref01_mark.s0 (k : Nat)  : (Int × Int) → Option (Sum (Int × Int) Int) := fun (v0_0, v0_1) => bif decide (1 < v0_0) then (some (.inl ((IntKind.wrap IntKind.i64 (Int.tdiv v0_0 2), IntKind.wrap IntKind.i64 (v0_1 + 1))))) else (some (.inr v0_1))
def ref01_mark.F (k : Nat) (a0 : Int) : Option Int := iter (ref01_mark.s0 k ) k (a0, 0)
abbrev ref01_mark.A : Nat → LA := fun r => if r = 2 then ⟨[(0, false, [Lf.i IntKind.i64]), (3, false, [Lf.i IntKind.i64])], []⟩ else ⟨[], []⟩
set_option maxHeartbeats 4000000 in
theorem ref01_mark.t (a0 : Int) : tree Try.prog ref01_mark.A noC Try.f76 [AV.v (Value.int IntKind.i64 a0)] [] =
  .loop ([Lf.i IntKind.i64, Lf.i IntKind.i64]) ((a0, 0, PUnit.unit)) 0 (fun x0 =>
   bif decide (1 < x0.1) then (
    .need (true) (
    .again 0 ([Lf.i IntKind.i64, Lf.i IntKind.i64]) ((IntKind.wrap IntKind.i64 (Int.tdiv x0.1 2), IntKind.wrap IntKind.i64 (x0.2.1 + 1), PUnit.unit))))
   else (
    .done (AV.v (Value.int IntKind.i64 x0.2.1)) ([]))) := by kernel_rfl
set_option maxHeartbeats 4000000 in
theorem ref01_mark.c (k : Nat) (a0 : Int) (r : Int) (h : ref01_mark.F k a0 = some r)  (w : World)  : Calls Try.prog 76 (AV.gs id [AV.v (Value.int IntKind.i64 a0)]).toArray w fun e w' => e = .returned (((Sh.one : Sh).av (vs [Lf.i IntKind.i64] (r, ()))).g id) ∧ Below w.heap.size w w' := by
 refine enter0 mixed ref01_mark.A noC [AV.v (Value.int IntKind.i64 a0)] Try.func76 rfl rfl rfl (fun hF => ?_)
 rw [ref01_mark.t]
 unfold ref01_mark.F at h
 try dsimp only at h
 obtain ⟨I0, hI0⟩ : ∃ I : Nat → Tup [Lf.i IntKind.i64, Lf.i IntKind.i64] → (Nat → Prop) → World → Prop, I = (fun m_ y L w' => ∃ (v0_0 : Int) (v0_1 : Int), y = (v0_0, v0_1, ()) ∧ iter (ref01_mark.s0 k ) m_ (v0_0, v0_1) = some r ∧ Fine (fun _ => False) w L w') := ⟨_, rfl⟩
 refine ok_loop I0 k (by rw [hI0]; exact ⟨_, _, rfl, h, hF⟩) ?_
 clear h
 intro m_ y L0 w0 hy
 rw [hI0] at hy
 obtain ⟨v0_0, v0_1, rfl, h, hF⟩ := hy
 obtain ⟨m0, o0, rfl, h, hl0, hr_0⟩ := iter_some h
 unfold ref01_mark.s0 at h
 try dsimp only at h
 try dsimp only
 refine ok_if (fun hc2 => ?_) (fun hc2 => ?_)
 ·have h := bif_t h hc2
  refine ok_need rfl ?_
  obtain rfl := Option.some.inj h
  have h := hl0 _ rfl
  exact ok_again (I := I0) m0 (Nat.lt_succ_self _) (fun L w' he => by rw [hI0]; exact ⟨_, _, rfl, h, hF.trans he.fine⟩)
 ·have h := bif_f h hc2
  obtain rfl := Option.some.inj h
  obtain rfl := hr_0 _ rfl
  intro ρ L w' _ he _ _
  exact ⟨rfl, (hF.ext he).below⟩
def ref01_PutWide.s2 (k : Nat) (a1 : Int) (a2 : Int) : ((List Int) × Int) → Option (Sum ((List Int) × Int) ((List Int) × Int)) := fun (s2_0, v2_1) => bif decide (0 ≤ v2_1) then (bif decide (0 ≤ IntKind.wrap IntKind.i64 (8 * v2_1)) then (bif v2_1 == IntKind.wrap IntKind.i64 (a2 - 1) then ((ref01_mark.F k a2).bind fun v3_0 => bif decide ((s2_0.length + (([(IntKind.wrap IntKind.u8 (((BitVec.toNat (BitVec.ofInt 8 (IntKind.wrap IntKind.u8 (Int.fdiv a1 (2 ^ min (Int.toNat (IntKind.wrap IntKind.i64 (8 * v2_1))) 64))) ||| BitVec.ofInt 8 (IntKind.wrap IntKind.u8 (IntKind.wrap IntKind.i64 (v3_0 * 2 ^ 6))))) : Nat) : Int))] : List Int)).length) * 1 ≤ 140737488355328) then (some (.inl (((s2_0 ++ ([(IntKind.wrap IntKind.u8 (((BitVec.toNat (BitVec.ofInt 8 (IntKind.wrap IntKind.u8 (Int.fdiv a1 (2 ^ min (Int.toNat (IntKind.wrap IntKind.i64 (8 * v2_1))) 64))) ||| BitVec.ofInt 8 (IntKind.wrap IntKind.u8 (IntKind.wrap IntKind.i64 (v3_0 * 2 ^ 6))))) : Nat) : Int))] : List Int)), IntKind.wrap IntKind.i64 (v2_1 - 1))))) else none) else (bif decide ((s2_0.length + (([(IntKind.wrap IntKind.u8 (Int.fdiv a1 (2 ^ min (Int.toNat (IntKind.wrap IntKind.i64 (8 * v2_1))) 64)))] : List Int)).length) * 1 ≤ 140737488355328) then (some (.inl (((s2_0 ++ ([(IntKind.wrap IntKind.u8 (Int.fdiv a1 (2 ^ min (Int.toNat (IntKind.wrap IntKind.i64 (8 * v2_1))) 64)))] : List Int)), IntKind.wrap IntKind.i64 (v2_1 - 1))))) else none)) else none) else (some (.inr ((s2_0, 0))))
def ref01_PutWide.F (k : Nat) (l0 : List Int) (a1 : Int) (a2 : Int) : Option ((List Int) × Int) := bif a2 != 1 then (bif a2 != 2 then (bif a2 != 4 then (bif a2 != 8 then (some (([], 1))) else ((ref01_room.F k a1 a2).bind fun v0_0 => bif v0_0 then (bif decide (((([] : List Int)).length + l0.length) * 1 ≤ 140737488355328) then (iter (ref01_PutWide.s2 k a1 a2) k ((([] : List Int) ++ l0), IntKind.wrap IntKind.i64 (a2 - 1))) else none) else (some (([], 1))))) else ((ref01_room.F k a1 a2).bind fun v0_0 => bif v0_0 then (bif decide (((([] : List Int)).length + l0.length) * 1 ≤ 140737488355328) then (iter (ref01_PutWide.s2 k a1 a2) k ((([] : List Int) ++ l0), IntKind.wrap IntKind.i64 (a2 - 1))) else none) else (some (([], 1))))) else ((ref01_room.F k a1 a2).bind fun v0_0 => bif v0_0 then (bif decide (((([] : List Int)).length + l0.length) * 1 ≤ 140737488355328) then (iter (ref01_PutWide.s2 k a1 a2) k ((([] : List Int) ++ l0), IntKind.wrap IntKind.i64 (a2 - 1))) else none) else (some (([], 1))))) else ((ref01_room.F k a1 a2).bind fun v0_0 => bif v0_0 then (bif decide (((([] : List Int)).length + l0.length) * 1 ≤ 140737488355328) then (iter (ref01_PutWide.s2 k a1 a2) k ((([] : List Int) ++ l0), IntKind.wrap IntKind.i64 (a2 - 1))) else none) else (some (([], 1))))
abbrev ref01_PutWide.A : Nat → LA := fun r => if r = 5 then ⟨[(8, false, [Lf.sl]), (9, false, [Lf.i IntKind.i64])], []⟩ else ⟨[], []⟩
set_option maxHeartbeats 4000000 in
theorem ref01_PutWide.t (A0 : Option Addr) (n0 c0 : Nat) (a1 : Int) (a2 : Int) : tree Try.prog ref01_PutWide.A noC Try.f69 [AV.v (Value.slice A0 n0 c0), AV.v (Value.int IntKind.i64 a1), AV.v (Value.int IntKind.i64 a2)] [] =
  bif a2 != 1 then (
   bif a2 != 2 then (
    bif a2 != 4 then (
     bif a2 != 8 then (
      .done (AV.tup [AV.v (Value.slice none 0 0), AV.v (Value.int IntKind.i64 1)]) ([]))
     else (
      .call 75 ([AV.v (Value.int IntKind.i64 a1), AV.v (Value.int IntKind.i64 a2)]) ([]) (Sh.one) ([Lf.b]) ([]) (fun x0 =>
       bif x0.1 then (
        .sem (Builtin.append_ { toList := [23, 23] } 23 { toList := [Value.slice none 0 0, Value.slice A0 n0 c0] }) ([Lf.sl]) (Sh.one) (fun x1 =>
         .loop ([Lf.sl, Lf.i IntKind.i64]) (((x1.1.1, x1.1.2.1, x1.1.2.2), IntKind.wrap IntKind.i64 (a2 - 1), PUnit.unit)) 0 (fun x2 =>
          bif decide (0 ≤ x2.2.1) then (
           .need (decide (0 ≤ IntKind.wrap IntKind.i64 (8 * x2.2.1))) (
           bif x2.2.1 == IntKind.wrap IntKind.i64 (a2 - 1) then (
            .call 76 ([AV.v (Value.int IntKind.i64 a2)]) ([]) (Sh.one) ([Lf.i IntKind.i64]) ([]) (fun x3 =>
             .need (true) (
             .sem (Instr.buildSlice 23 1 { toList := [(0, Value.int IntKind.u8 (IntKind.wrap IntKind.u8 (((BitVec.toNat (BitVec.ofInt 8 (IntKind.wrap IntKind.u8 (Int.fdiv a1 (2 ^ min (Int.toNat (IntKind.wrap IntKind.i64 (8 * x2.2.1))) 64))) ||| BitVec.ofInt 8 (IntKind.wrap IntKind.u8 (IntKind.wrap IntKind.i64 (x3.1 * 2 ^ 6))))) : Nat) : Int)))] }) ([Lf.sl]) (Sh.one) (fun x4 =>
              .sem (Builtin.append_ { toList := [23, 23] } 23 { toList := [Value.slice x2.1.1 x2.1.2.1 x2.1.2.2, Value.slice x4.1.1 x4.1.2.1 x4.1.2.2] }) ([Lf.sl]) (Sh.one) (fun x5 =>
               .again 0 ([Lf.sl, Lf.i IntKind.i64]) (((x5.1.1, x5.1.2.1, x5.1.2.2), IntKind.wrap IntKind.i64 (x2.2.1 - 1), PUnit.unit)))))))
           else (
            .sem (Instr.buildSlice 23 1 { toList := [(0, Value.int IntKind.u8 (IntKind.wrap IntKind.u8 (Int.fdiv a1 (2 ^ min (Int.toNat (IntKind.wrap IntKind.i64 (8 * x2.2.1))) 64))))] }) ([Lf.sl]) (Sh.one) (fun x3 =>
             .sem (Builtin.append_ { toList := [23, 23] } 23 { toList := [Value.slice x2.1.1 x2.1.2.1 x2.1.2.2, Value.slice x3.1.1 x3.1.2.1 x3.1.2.2] }) ([Lf.sl]) (Sh.one) (fun x4 =>
              .again 0 ([Lf.sl, Lf.i IntKind.i64]) (((x4.1.1, x4.1.2.1, x4.1.2.2), IntKind.wrap IntKind.i64 (x2.2.1 - 1), PUnit.unit)))))))
          else (
           .done (AV.tup [AV.v (Value.slice x2.1.1 x2.1.2.1 x2.1.2.2), AV.v (Value.int IntKind.i64 0)]) ([])))))
       else (
        .done (AV.tup [AV.v (Value.slice none 0 0), AV.v (Value.int IntKind.i64 1)]) ([])))))
    else (
     .call 75 ([AV.v (Value.int IntKind.i64 a1), AV.v (Value.int IntKind.i64 a2)]) ([]) (Sh.one) ([Lf.b]) ([]) (fun x0 =>
      bif x0.1 then (
       .sem (Builtin.append_ { toList := [23, 23] } 23 { toList := [Value.slice none 0 0, Value.slice A0 n0 c0] }) ([Lf.sl]) (Sh.one) (fun x1 =>
        .loop ([Lf.sl, Lf.i IntKind.i64]) (((x1.1.1, x1.1.2.1, x1.1.2.2), IntKind.wrap IntKind.i64 (a2 - 1), PUnit.unit)) 0 (fun x2 =>
         bif decide (0 ≤ x2.2.1) then (
          .need (decide (0 ≤ IntKind.wrap IntKind.i64 (8 * x2.2.1))) (
          bif x2.2.1 == IntKind.wrap IntKind.i64 (a2 - 1) then (
           .call 76 ([AV.v (Value.int IntKind.i64 a2)]) ([]) (Sh.one) ([Lf.i IntKind.i64]) ([]) (fun x3 =>
            .need (true) (
            .sem (Instr.buildSlice 23 1 { toList := [(0, Value.int IntKind.u8 (IntKind.wrap IntKind.u8 (((BitVec.toNat (BitVec.ofInt 8 (IntKind.wrap IntKind.u8 (Int.fdiv a1 (2 ^ min (Int.toNat (IntKind.wrap IntKind.i64 (8 * x2.2.1))) 64))) ||| BitVec.ofInt 8 (IntKind.wrap IntKind.u8 (IntKind.wrap IntKind.i64 (x3.1 * 2 ^ 6))))) : Nat) : Int)))] }) ([Lf.sl]) (Sh.one) (fun x4 =>
             .sem (Builtin.append_ { toList := [23, 23] } 23 { toList := [Value.slice x2.1.1 x2.1.2.1 x2.1.2.2, Value.slice x4.1.1 x4.1.2.1 x4.1.2.2] }) ([Lf.sl]) (Sh.one) (fun x5 =>
              .again 0 ([Lf.sl, Lf.i IntKind.i64]) (((x5.1.1, x5.1.2.1, x5.1.2.2), IntKind.wrap IntKind.i64 (x2.2.1 - 1), PUnit.unit)))))))
          else (
           .sem (Instr.buildSlice 23 1 { toList := [(0, Value.int IntKind.u8 (IntKind.wrap IntKind.u8 (Int.fdiv a1 (2 ^ min (Int.toNat (IntKind.wrap IntKind.i64 (8 * x2.2.1))) 64))))] }) ([Lf.sl]) (Sh.one) (fun x3 =>
            .sem (Builtin.append_ { toList := [23, 23] } 23 { toList := [Value.slice x2.1.1 x2.1.2.1 x2.1.2.2, Value.slice x3.1.1 x3.1.2.1 x3.1.2.2] }) ([Lf.sl]) (Sh.one) (fun x4 =>
             .again 0 ([Lf.sl, Lf.i IntKind.i64]) (((x4.1.1, x4.1.2.1, x4.1.2.2), IntKind.wrap IntKind.i64 (x2.2.1 - 1), PUnit.unit)))))))
         else (
          .done (AV.tup [AV.v (Value.slice x2.1.1 x2.1.2.1 x2.1.2.2), AV.v (Value.int IntKind.i64 0)]) ([])))))
      else (
       .done (AV.tup [AV.v (Value.slice none 0 0), AV.v (Value.int IntKind.i64 1)]) ([])))))
   else (
    .call 75 ([AV.v (Value.int IntKind.i64 a1), AV.v (Value.int IntKind.i64 a2)]) ([]) (Sh.one) ([Lf.b]) ([]) (fun x0 =>
     bif x0.1 then (
      .sem (Builtin.append_ { toList := [23, 23] } 23 { toList := [Value.slice none 0 0, Value.slice A0 n0 c0] }) ([Lf.sl]) (Sh.one) (fun x1 =>
       .loop ([Lf.sl, Lf.i IntKind.i64]) (((x1.1.1, x1.1.2.1, x1.1.2.2), IntKind.wrap IntKind.i64 (a2 - 1), PUnit.unit)) 0 (fun x2 =>
        bif decide (0 ≤ x2.2.1) then (
         .need (decide (0 ≤ IntKind.wrap IntKind.i64 (8 * x2.2.1))) (
         bif x2.2.1 == IntKind.wrap IntKind.i64 (a2 - 1) then (
          .call 76 ([AV.v (Value.int IntKind.i64 a2)]) ([]) (Sh.one) ([Lf.i IntKind.i64]) ([]) (fun x3 =>
           .need (true) (
           .sem (Instr.buildSlice 23 1 { toList := [(0, Value.int IntKind.u8 (IntKind.wrap IntKind.u8 (((BitVec.toNat (BitVec.ofInt 8 (IntKind.wrap IntKind.u8 (Int.fdiv a1 (2 ^ min (Int.toNat (IntKind.wrap IntKind.i64 (8 * x2.2.1))) 64))) ||| BitVec.ofInt 8 (IntKind.wrap IntKind.u8 (IntKind.wrap IntKind.i64 (x3.1 * 2 ^ 6))))) : Nat) : Int)))] }) ([Lf.sl]) (Sh.one) (fun x4 =>
            .sem (Builtin.append_ { toList := [23, 23] } 23 { toList := [Value.slice x2.1.1 x2.1.2.1 x2.1.2.2, Value.slice x4.1.1 x4.1.2.1 x4.1.2.2] }) ([Lf.sl]) (Sh.one) (fun x5 =>
             .again 0 ([Lf.sl, Lf.i IntKind.i64]) (((x5.1.1, x5.1.2.1, x5.1.2.2), IntKind.wrap IntKind.i64 (x2.2.1 - 1), PUnit.unit)))))))
         else (
          .sem (Instr.buildSlice 23 1 { toList := [(0, Value.int IntKind.u8 (IntKind.wrap IntKind.u8 (Int.fdiv a1 (2 ^ min (Int.toNat (IntKind.wrap IntKind.i64 (8 * x2.2.1))) 64))))] }) ([Lf.sl]) (Sh.one) (fun x3 =>
           .sem (Builtin.append_ { toList := [23, 23] } 23 { toList := [Value.slice x2.1.1 x2.1.2.1 x2.1.2.2, Value.slice x3.1.1 x3.1.2.1 x3.1.2.2] }) ([Lf.sl]) (Sh.one) (fun x4 =>
            .again 0 ([Lf.sl, Lf.i IntKind.i64]) (((x4.1.1, x4.1.2.1, x4.1.2.2), IntKind.wrap IntKind.i64 (x2.2.1 - 1), PUnit.unit)))))))
        else (
         .done (AV.tup [AV.v (Value.slice x2.1.1 x2.1.2.1 x2.1.2.2), AV.v (Value.int IntKind.i64 0)]) ([])))))
     else (
      .done (AV.tup [AV.v (Value.slice none 0 0), AV.v (Value.int IntKind.i64 1)]) ([])))))
  else (
   .call 75 ([AV.v (Value.int IntKind.i64 a1), AV.v (Value.int IntKind.i64 a2)]) ([]) (Sh.one) ([Lf.b]) ([]) (fun x0 =>
    bif x0.1 then (
     .sem (Builtin.append_ { toList := [23, 23] } 23 { toList := [Value.slice none 0 0, Value.slice A0 n0 c0] }) ([Lf.sl]) (Sh.one) (fun x1 =>
      .loop ([Lf.sl, Lf.i IntKind.i64]) (((x1.1.1, x1.1.2.1, x1.1.2.2), IntKind.wrap IntKind.i64 (a2 - 1), PUnit.unit)) 0 (fun x2 =>
       bif decide (0 ≤ x2.2.1) then (
        .need (decide (0 ≤ IntKind.wrap IntKind.i64 (8 * x2.2.1))) (
        bif x2.2.1 == IntKind.wrap IntKind.i64 (a2 - 1) then (
         .call 76 ([AV.v (Value.int IntKind.i64 a2)]) ([]) (Sh.one) ([Lf.i IntKind.i64]) ([]) (fun x3 =>
          .need (true) (
          .sem (Instr.buildSlice 23 1 { toList := [(0, Value.int IntKind.u8 (IntKind.wrap IntKind.u8 (((BitVec.toNat (BitVec.ofInt 8 (IntKind.wrap IntKind.u8 (Int.fdiv a1 (2 ^ min (Int.toNat (IntKind.wrap IntKind.i64 (8 * x2.2.1))) 64))) ||| BitVec.ofInt 8 (IntKind.wrap IntKind.u8 (IntKind.wrap IntKind.i64 (x3.1 * 2 ^ 6))))) : Nat) : Int)))] }) ([Lf.sl]) (Sh.one) (fun x4 =>
           .sem (Builtin.append_ { toList := [23, 23] } 23 { toList := [Value.slice x2.1.1 x2.1.2.1 x2.1.2.2, Value.slice x4.1.1 x4.1.2.1 x4.1.2.2] }) ([Lf.sl]) (Sh.one) (fun x5 =>
            .again 0 ([Lf.sl, Lf.i IntKind.i64]) (((x5.1.1, x5.1.2.1, x5.1.2.2), IntKind.wrap IntKind.i64 (x2.2.1 - 1), PUnit.unit)))))))
        else (
         .sem (Instr.buildSlice 23 1 { toList := [(0, Value.int IntKind.u8 (IntKind.wrap IntKind.u8 (Int.fdiv a1 (2 ^ min (Int.toNat (IntKind.wrap IntKind.i64 (8 * x2.2.1))) 64))))] }) ([Lf.sl]) (Sh.one) (fun x3 =>
          .sem (Builtin.append_ { toList := [23, 23] } 23 { toList := [Value.slice x2.1.1 x2.1.2.1 x2.1.2.2, Value.slice x3.1.1 x3.1.2.1 x3.1.2.2] }) ([Lf.sl]) (Sh.one) (fun x4 =>
           .again 0 ([Lf.sl, Lf.i IntKind.i64]) (((x4.1.1, x4.1.2.1, x4.1.2.2), IntKind.wrap IntKind.i64 (x2.2.1 - 1), PUnit.unit)))))))
       else (
        .done (AV.tup [AV.v (Value.slice x2.1.1 x2.1.2.1 x2.1.2.2), AV.v (Value.int IntKind.i64 0)]) ([])))))
    else (
     .done (AV.tup [AV.v (Value.slice none 0 0), AV.v (Value.int IntKind.i64 1)]) ([])))) := by kernel_rfl
set_option maxHeartbeats 4000000 in
theorem ref01_PutWide.c (k : Nat) (A0 : Option Addr) (n0 c0 : Nat) (l0 : List Int) (a1 : Int) (a2 : Int) (r : (List Int) × Int) (h : ref01_PutWide.F k l0 a1 a2 = some r) (hn0 : n0 = l0.length) (w : World) (hS0 : SlR R23.row (fun _ => False) w A0 c0 l0) : Calls Try.prog 69 (AV.gs id [AV.v (Value.slice A0 n0 c0), AV.v (Value.int IntKind.i64 a1), AV.v (Value.int IntKind.i64 a2)]).toArray w fun e w' => ∃ (B0 : Option Addr) (d0 : Nat), e = .returned (((Sh.tup [(false, 1), (false, 1)] : Sh).av (vs [Lf.sl, Lf.i IntKind.i64] ((B0, (r.1).length, d0), r.2, ()))).g id) ∧ Below w.heap.size w w' ∧ OwnF w.heap.size (fun b => b < w.heap.size) w' 5 R23 B0 d0 r.1 := by
 subst hn0
 refine enter0 mixed ref01_PutWide.A noC [AV.v (Value.slice A0 l0.length c0), AV.v (Value.int IntKind.i64 a1), AV.v (Value.int IntKind.i64 a2)] Try.func69 rfl rfl rfl (fun hF => ?_)
 rw [ref01_PutWide.t]
 unfold ref01_PutWide.F at h
 try dsimp only at h
 refine ok_if (fun hc1 => ?_) (fun hc1 => ?_)
 ·have h := bif_t h hc1
  refine ok_if (fun hc2 => ?_) (fun hc2 => ?_)
  ·have h := bif_t h hc2
   refine ok_if (fun hc3 => ?_) (fun hc3 => ?_)
   ·have h := bif_t h hc3
    refine ok_if (fun hc4 => ?_) (fun hc4 => ?_)
    ·have h := bif_t h hc4
     obtain rfl := Option.some.inj h
     intro ρ L w' _ he _ _
     exact ⟨none, 0, rfl, (hF.ext he).below, OwnF.ret (OwnF.nil _ (fun _ => False) _ _ _)⟩
    ·have h := bif_f h hc4
     obtain ⟨v0_0, hr0, h⟩ := Option.bind_eq_some_iff.1 h
     refine ok_callm rfl (fun L0 w0 g0 lt0 => ?_)
     refine (ref01_room.c k a1 a2 v0_0 hr0  w0 ).mono ?_
     rintro e w0' ⟨rfl, hb0⟩
     refine ⟨(v0_0, ()), rfl, hb0, fun g0' => ?_⟩
     try dsimp only
     have hF := hF.trans g0'
     refine ok_if (fun hc5 => ?_) (fun hc5 => ?_)
     ·have h := bif_t h hc5
      obtain ⟨hq6, h⟩ := bif_need h
      have hq6 := of_decide_eq_true hq6
      refine ok_app (R := R23) (base := w.heap.size) (xs := ([] : List Int)) (ys := l0) rfl rfl E23 (OwnF.nil _ _ _ _ _) (hS0.later hF) (by decide) hq6 hF.size (fun Ax1 cx1 L1 w1 hO1 g1 hid1 hbl1 => ?_)
      try dsimp only
      have hF := Fine.own hF g1 (fun b hb => by obtain ⟨_, hb, _⟩ := hb; cases hb) hid1
      obtain ⟨I2, hI2⟩ : ∃ I : Nat → Tup [Lf.sl, Lf.i IntKind.i64] → (Nat → Prop) → World → Prop, I = (fun m_ y L w' => ∃ (A2_0 : Option Addr) (c2_0 : Nat) (s2_0 : List Int) (v2_1 : Int), y = ((A2_0, s2_0.length, c2_0), v2_1, ()) ∧ iter (ref01_PutWide.s2 k a1 a2) m_ (s2_0, v2_1) = some r ∧ Fine (fun _ => False) w L w' ∧ OwnF w.heap.size L w' 5 R23 A2_0 c2_0 s2_0) := ⟨_, rfl⟩
      refine ok_loop I2 k (by rw [hI2]; exact ⟨Ax1, cx1, (([] : List Int) ++ l0), _, rfl, h, hF, hO1⟩) ?_
      clear h
      intro m_ y L2 w2 hy
      rw [hI2] at hy
      obtain ⟨A2_0, c2_0, s2_0, v2_1, rfl, h, hF, hO_s2_0⟩ := hy
      obtain ⟨m2, o2, rfl, h, hl2, hr_2⟩ := iter_some h
      unfold ref01_PutWide.s2 at h
      try dsimp only at h
      try dsimp only
      refine ok_if (fun hc9 => ?_) (fun hc9 => ?_)
      ·have h := bif_t h hc9
       obtain ⟨hn10, h⟩ := bif_need h
       refine ok_need hn10 ?_
       refine ok_if (fun hc11 => ?_) (fun hc11 => ?_)
       ·have h := bif_t h hc11
        obtain ⟨v3_0, hr3, h⟩ := Option.bind_eq_some_iff.1 h
        refine ok_callm rfl (fun L3 w3 g3 lt3 => ?_)
        refine (ref01_mark.c k a2 v3_0 hr3  w3 ).mono ?_
        rintro e w3' ⟨rfl, hb3⟩
        refine ⟨(v3_0, ()), rfl, hb3, fun g3' => ?_⟩
        try dsimp only
        have hF := hF.trans g3'
        have hO_s2_0 := hO_s2_0.later g3'
        refine ok_need rfl ?_
        refine ok_lit (R := R23) (base := w.heap.size) (xs := ([(IntKind.wrap IntKind.u8 (((BitVec.toNat (BitVec.ofInt 8 (IntKind.wrap IntKind.u8 (Int.fdiv a1 (2 ^ min (Int.toNat (IntKind.wrap IntKind.i64 (8 * v2_1))) 64))) ||| BitVec.ofInt 8 (IntKind.wrap IntKind.u8 (IntKind.wrap IntKind.i64 (v3_0 * 2 ^ 6))))) : Nat) : Int))] : List Int)) #[Value.int IntKind.u8 (IntKind.wrap IntKind.u8 (((BitVec.toNat (BitVec.ofInt 8 (IntKind.wrap IntKind.u8 (Int.fdiv a1 (2 ^ min (Int.toNat (IntKind.wrap IntKind.i64 (8 * v2_1))) 64))) ||| BitVec.ofInt 8 (IntKind.wrap IntKind.u8 (IntKind.wrap IntKind.i64 (v3_0 * 2 ^ 6))))) : Nat) : Int))] E23 rfl (by decide) (by decide) ⟨_, _, rfl, rfl, by kernel_rfl⟩ rfl hF.size (fun Ax4 cx4 L4 w4 hO4 g4 hbl4 => ?_)
        try dsimp only
        have dj_o12_s2_0 : Dj Ax4 A2_0 := Dj.new hbl4 hO_s2_0.lt
        have hF := hF.trans g4
        have hO_s2_0 := hO_s2_0.later g4
        obtain ⟨hq13, h⟩ := bif_need h
        have hq13 := of_decide_eq_true hq13
        refine ok_app (R := R23) (base := w.heap.size) (xs := s2_0) (ys := ([(IntKind.wrap IntKind.u8 (((BitVec.toNat (BitVec.ofInt 8 (IntKind.wrap IntKind.u8 (Int.fdiv a1 (2 ^ min (Int.toNat (IntKind.wrap IntKind.i64 (8 * v2_1))) 64))) ||| BitVec.ofInt 8 (IntKind.wrap IntKind.u8 (IntKind.wrap IntKind.i64 (v3_0 * 2 ^ 6))))) : Nat) : Int))] : List Int)) rfl rfl E23 hO_s2_0 hO4.sl (by decide) hq13 hF.size (fun Ax5 cx5 L5 w5 hO5 g5 hid5 hbl5 => ?_)
        try dsimp only
        have dj_o14_o12 : Dj Ax5 Ax4 := Dj.grow (Dj.symm dj_o12_s2_0) hbl5 hO4.lt
        have hO4 := hO4.other dj_o12_s2_0 g5
        have hF := Fine.own hF g5 (fun b hb => Or.inr (Own.base hO_s2_0 hb)) hid5
        obtain rfl := Option.some.inj h
        have h := hl2 _ rfl
        exact ok_again (I := I2) m2 (Nat.lt_succ_self _) (fun L w' he => by rw [hI2]; exact ⟨Ax5, cx5, (s2_0 ++ ([(IntKind.wrap IntKind.u8 (((BitVec.toNat (BitVec.ofInt 8 (IntKind.wrap IntKind.u8 (Int.fdiv a1 (2 ^ min (Int.toNat (IntKind.wrap IntKind.i64 (8 * v2_1))) 64))) ||| BitVec.ofInt 8 (IntKind.wrap IntKind.u8 (IntKind.wrap IntKind.i64 (v3_0 * 2 ^ 6))))) : Nat) : Int))] : List Int)), _, rfl, h, hF.trans he.fine, hO5.later he.fine⟩)
       ·have h := bif_f h hc11
        refine ok_lit (R := R23) (base := w.heap.size) (xs := ([(IntKind.wrap IntKind.u8 (Int.fdiv a1 (2 ^ min (Int.toNat (IntKind.wrap IntKind.i64 (8 * v2_1))) 64)))] : List Int)) #[Value.int IntKind.u8 (IntKind.wrap IntKind.u8 (Int.fdiv a1 (2 ^ min (Int.toNat (IntKind.wrap IntKind.i64 (8 * v2_1))) 64)))] E23 rfl (by decide) (by decide) ⟨_, _, rfl, rfl, by kernel_rfl⟩ rfl hF.size (fun Ax3 cx3 L3 w3 hO3 g3 hbl3 => ?_)
        try dsimp only
        have dj_o15_s2_0 : Dj Ax3 A2_0 := Dj.new hbl3 hO_s2_0.lt
        have hF := hF.trans g3
        have hO_s2_0 := hO_s2_0.later g3
        obtain ⟨hq16, h⟩ := bif_need h
        have hq16 := of_decide_eq_true hq16
        refine ok_app (R := R23) (base := w.heap.size) (xs := s2_0) (ys := ([(IntKind.wrap IntKind.u8 (Int.fdiv a1 (2 ^ min (Int.toNat (IntKind.wrap IntKind.i64 (8 * v2_1))) 64)))] : List Int)) rfl rfl E23 hO_s2_0 hO3.sl (by decide) hq16 hF.size (fun Ax4 cx4 L4 w4 hO4 g4 hid4 hbl4 => ?_)
        try dsimp only
        have dj_o17_o15 : Dj Ax4 Ax3 := Dj.grow (Dj.symm dj_o15_s2_0) hbl4 hO3.lt
        have hO3 := hO3.other dj_o15_s2_0 g4
        have hF := Fine.own hF g4 (fun b hb => Or.inr (Own.base hO_s2_0 hb)) hid4
        obtain rfl := Option.some.inj h
        have h := hl2 _ rfl
        exact ok_again (I := I2) m2 (Nat.lt_succ_self _) (fun L w' he => by rw [hI2]; exact ⟨Ax4, cx4, (s2_0 ++ ([(IntKind.wrap IntKind.u8 (Int.fdiv a1 (2 ^ min (Int.toNat (IntKind.wrap IntKind.i64 (8 * v2_1))) 64)))] : List Int)), _, rfl, h, hF.trans he.fine, hO4.later he.fine⟩)
      ·have h := bif_f h hc9
       obtain rfl := Option.some.inj h
       obtain rfl := hr_2 _ rfl
       intro ρ L w' _ he _ _
       exact ⟨A2_0, c2_0, rfl, (hF.ext he).below, (hO_s2_0.later he.fine).ret⟩
     ·have h := bif_f h hc5
      obtain rfl := Option.some.inj h
      intro ρ L w' _ he _ _
      exact ⟨none, 0, rfl, (hF.ext he).below, OwnF.ret (OwnF.nil _ (fun _ => False) _ _ _)⟩
   ·have h := bif_f h hc3
    obtain ⟨v0_0, hr0, h⟩ := Option.bind_eq_some_iff.1 h
    refine ok_callm rfl (fun L0 w0 g0 lt0 => ?_)
    refine (ref01_room.c k a1 a2 v0_0 hr0  w0 ).mono ?_
    rintro e w0' ⟨rfl, hb0⟩
    refine ⟨(v0_0, ()), rfl, hb0, fun g0' => ?_⟩
    try dsimp only
    have hF := hF.trans g0'
    refine ok_if (fun hc18 => ?_) (fun hc18 => ?_)
    ·have h := bif_t h hc18
     obtain ⟨hq19, h⟩ := bif_need h
     have hq19 := of_decide_eq_true hq19
     refine ok_app (R := R23) (base := w.heap.size) (xs := ([] : List Int)) (ys := l0) rfl rfl E23 (OwnF.nil _ _ _ _ _) (hS0.later hF) (by decide) hq19 hF.size (fun Ax1 cx1 L1 w1 hO1 g1 hid1 hbl1 => ?_)
     try dsimp only
     have hF := Fine.own hF g1 (fun b hb => by obtain ⟨_, hb, _⟩ := hb; cases hb) hid1
     obtain ⟨I2, hI2⟩ : ∃ I : Nat → Tup [Lf.sl, Lf.i IntKind.i64] → (Nat → Prop) → World → Prop, I = (fun m_ y L w' => ∃ (A2_0 : Option Addr) (c2_0 : Nat) (s2_0 : List Int) (v2_1 : Int), y = ((A2_0, s2_0.length, c2_0), v2_1, ()) ∧ iter (ref01_PutWide.s2 k a1 a2) m_ (s2_0, v2_1) = some r ∧ Fine (fun _ => False) w L w' ∧ OwnF w.heap.size L w' 5 R23 A2_0 c2_0 s2_0) := ⟨_, rfl⟩
     refine ok_loop I2 k (by rw [hI2]; exact ⟨Ax1, cx1, (([] : List Int) ++ l0), _, rfl, h, hF, hO1⟩) ?_
     clear h
     intro m_ y L2 w2 hy
     rw [hI2] at hy
     obtain ⟨A2_0, c2_0, s2_0, v2_1, rfl, h, hF, hO_s2_0⟩ := hy
     obtain ⟨m2, o2, rfl, h, hl2, hr_2⟩ := iter_some h
     unfold ref01_PutWide.s2 at h
     try dsimp only at h
     try dsimp only
     refine ok_if (fun hc22 => ?_) (fun hc22 => ?_)
     ·have h := bif_t h hc22
      obtain ⟨hn23, h⟩ := bif_need h
      refine ok_need hn23 ?_
      refine ok_if (fun hc24 => ?_) (fun hc24 => ?_)
      ·have h := bif_t h hc24
       obtain ⟨v3_0, hr3, h⟩ := Option.bind_eq_some_iff.1 h
       refine ok_callm rfl (fun L3 w3 g3 lt3 => ?_)
       refine (ref01_mark.c k a2 v3_0 hr3  w3 ).mono ?_
       rintro e w3' ⟨rfl, hb3⟩
       refine ⟨(v3_0, ()), rfl, hb3, fun g3' => ?_⟩
       try dsimp only
       have hF := hF.trans g3'
       have hO_s2_0 := hO_s2_0.later g3'
       refine ok_need rfl ?_
       refine ok_lit (R := R23) (base := w.heap.size) (xs := ([(IntKind.wrap IntKind.u8 (((BitVec.toNat (BitVec.ofInt 8 (IntKind.wrap IntKind.u8 (Int.fdiv a1 (2 ^ min (Int.toNat (IntKind.wrap IntKind.i64 (8 * v2_1))) 64))) ||| BitVec.ofInt 8 (IntKind.wrap IntKind.u8 (IntKind.wrap IntKind.i64 (v3_0 * 2 ^ 6))))) : Nat) : Int))] : List Int)) #[Value.int IntKind.u8 (IntKind.wrap IntKind.u8 (((BitVec.toNat (BitVec.ofInt 8 (IntKind.wrap IntKind.u8 (Int.fdiv a1 (2 ^ min (Int.toNat (IntKind.wrap IntKind.i64 (8 * v2_1))) 64))) ||| BitVec.ofInt 8 (IntKind.wrap IntKind.u8 (IntKind.wrap IntKind.i64 (v3_0 * 2 ^ 6))))) : Nat) : Int))] E23 rfl (by decide) (by decide) ⟨_, _, rfl, rfl, by kernel_rfl⟩ rfl hF.size (fun Ax4 cx4 L4 w4 hO4 g4 hbl4 => ?_)
       try dsimp only
       have dj_o25_s2_0 : Dj Ax4 A2_0 := Dj.new hbl4 hO_s2_0.lt
       have hF := hF.trans g4
       have hO_s2_0 := hO_s2_0.later g4
       obtain ⟨hq26, h⟩ := bif_need h
       have hq26 := of_decide_eq_true hq26
       refine ok_app (R := R23) (base := w.heap.size) (xs := s2_0) (ys := ([(IntKind.wrap IntKind.u8 (((BitVec.toNat (BitVec.ofInt 8 (IntKind.wrap IntKind.u8 (Int.fdiv a1 (2 ^ min (Int.toNat (IntKind.wrap IntKind.i64 (8 * v2_1))) 64))) ||| BitVec.ofInt 8 (IntKind.wrap IntKind.u8 (IntKind.wrap IntKind.i64 (v3_0 * 2 ^ 6))))) : Nat) : Int))] : List Int)) rfl rfl E23 hO_s2_0 hO4.sl (by decide) hq26 hF.size (fun Ax5 cx5 L5 w5 hO5 g5 hid5 hbl5 => ?_)
       try dsimp only
       have dj_o27_o25 : Dj Ax5 Ax4 := Dj.grow (Dj.symm dj_o25_s2_0) hbl5 hO4.lt
       have hO4 := hO4.other dj_o25_s2_0 g5
       have hF := Fine.own hF g5 (fun b hb => Or.inr (Own.base hO_s2_0 hb)) hid5
       obtain rfl := Option.some.inj h
       have h := hl2 _ rfl
       exact ok_again (I := I2) m2 (Nat.lt_succ_self _) (fun L w' he => by rw [hI2]; exact ⟨Ax5, cx5, (s2_0 ++ ([(IntKind.wrap IntKind.u8 (((BitVec.toNat (BitVec.ofInt 8 (IntKind.wrap IntKind.u8 (Int.fdiv a1 (2 ^ min (Int.toNat (IntKind.wrap IntKind.i64 (8 * v2_1))) 64))) ||| BitVec.ofInt 8 (IntKind.wrap IntKind.u8 (IntKind.wrap IntKind.i64 (v3_0 * 2 ^ 6))))) : Nat) : Int))] : List Int)), _, rfl, h, hF.trans he.fine, hO5.later he.fine⟩)
      ·have h := bif_f h hc24
       refine ok_lit (R := R23) (base := w.heap.size) (xs := ([(IntKind.wrap IntKind.u8 (Int.fdiv a1 (2 ^ min (Int.toNat (IntKind.wrap IntKind.i64 (8 * v2_1))) 64)))] : List Int)) #[Value.int IntKind.u8 (IntKind.wrap IntKind.u8 (Int.fdiv a1 (2 ^ min (Int.toNat (IntKind.wrap IntKind.i64 (8 * v2_1))) 64)))] E23 rfl (by decide) (by decide) ⟨_, _, rfl, rfl, by kernel_rfl⟩ rfl hF.size (fun Ax3 cx3 L3 w3 hO3 g3 hbl3 => ?_)
       try dsimp only
       have dj_o28_s2_0 : Dj Ax3 A2_0 := Dj.new hbl3 hO_s2_0.lt
       have hF := hF.trans g3
       have hO_s2_0 := hO_s2_0.later g3
       obtain ⟨hq29, h⟩ := bif_need h
       have hq29 := of_decide_eq_true hq29
       refine ok_app (R := R23) (base := w.heap.size) (xs := s2_0) (ys := ([(IntKind.wrap IntKind.u8 (Int.fdiv a1 (2 ^ min (Int.toNat (IntKind.wrap IntKind.i64 (8 * v2_1))) 64)))] : List Int)) rfl rfl E23 hO_s2_0 hO3.sl (by decide) hq29 hF.size (fun Ax4 cx4 L4 w4 hO4 g4 hid4 hbl4 => ?_)
       try dsimp only
       have dj_o30_o28 : Dj Ax4 Ax3 := Dj.grow (Dj.symm dj_o28_s2_0) hbl4 hO3.lt
       have hO3 := hO3.other dj_o28_s2_0 g4
       have hF := Fine.own hF g4 (fun b hb => Or.inr (Own.base hO_s2_0 hb)) hid4
       obtain rfl := Option.some.inj h
       have h := hl2 _ rfl
       exact ok_again (I := I2) m2 (Nat.lt_succ_self _) (fun L w' he => by rw [hI2]; exact ⟨Ax4, cx4, (s2_0 ++ ([(IntKind.wrap IntKind.u8 (Int.fdiv a1 (2 ^ min (Int.toNat (IntKind.wrap IntKind.i64 (8 * v2_1))) 64)))] : List Int)), _, rfl, h, hF.trans he.fine, hO4.later he.fine⟩)
     ·have h := bif_f h hc22
      obtain rfl := Option.some.inj h
      obtain rfl := hr_2 _ rfl
      intro ρ L w' _ he _ _
      exact ⟨A2_0, c2_0, rfl, (hF.ext he).below, (hO_s2_0.later he.fine).ret⟩
    ·have h := bif_f h hc18
     obtain rfl := Option.some.inj h
     intro ρ L w' _ he _ _
     exact ⟨none, 0, rfl, (hF.ext he).below, OwnF.ret (OwnF.nil _ (fun _ => False) _ _ _)⟩
  ·have h := bif_f h hc2
   obtain ⟨v0_0, hr0, h⟩ := Option.bind_eq_some_iff.1 h
   refine ok_callm rfl (fun L0 w0 g0 lt0 => ?_)
   refine (ref01_room.c k a1 a2 v0_0 hr0  w0 ).mono ?_
   rintro e w0' ⟨rfl, hb0⟩
   refine ⟨(v0_0, ()), rfl, hb0, fun g0' => ?_⟩
   try dsimp only
   have hF := hF.trans g0'
   refine ok_if (fun hc31 => ?_) (fun hc31 => ?_)
   ·have h := bif_t h hc31
    obtain ⟨hq32, h⟩ := bif_need h
    have hq32 := of_decide_eq_true hq32
    refine ok_app (R := R23) (base := w.heap.size) (xs := ([] : List Int)) (ys := l0) rfl rfl E23 (OwnF.nil _ _ _ _ _) (hS0.later hF) (by decide) hq32 hF.size (fun Ax1 cx1 L1 w1 hO1 g1 hid1 hbl1 => ?_)
    try dsimp only
    have hF := Fine.own hF g1 (fun b hb => by obtain ⟨_, hb, _⟩ := hb; cases hb) hid1
    obtain ⟨I2, hI2⟩ : ∃ I : Nat → Tup [Lf.sl, Lf.i IntKind.i64] → (Nat → Prop) → World → Prop, I = (fun m_ y L w' => ∃ (A2_0 : Option Addr) (c2_0 : Nat) (s2_0 : List Int) (v2_1 : Int), y = ((A2_0, s2_0.length, c2_0), v2_1, ()) ∧ iter (ref01_PutWide.s2 k a1 a2) m_ (s2_0, v2_1) = some r ∧ Fine (fun _ => False) w L w' ∧ OwnF w.heap.size L w' 5 R23 A2_0 c2_0 s2_0) := ⟨_, rfl⟩
    refine ok_loop I2 k (by rw [hI2]; exact ⟨Ax1, cx1, (([] : List Int) ++ l0), _, rfl, h, hF, hO1⟩) ?_
    clear h
    intro m_ y L2 w2 hy
    rw [hI2] at hy
    obtain ⟨A2_0, c2_0, s2_0, v2_1, rfl, h, hF, hO_s2_0⟩ := hy
    obtain ⟨m2, o2, rfl, h, hl2, hr_2⟩ := iter_some h
    unfold ref01_PutWide.s2 at h
    try dsimp only at h
    try dsimp only
    refine ok_if (fun hc35 => ?_) (fun hc35 => ?_)
    ·have h := bif_t h hc35
     obtain ⟨hn36, h⟩ := bif_need h
     refine ok_need hn36 ?_
     refine ok_if (fun hc37 => ?_) (fun hc37 => ?_)
     ·have h := bif_t h hc37
      obtain ⟨v3_0, hr3, h⟩ := Option.bind_eq_some_iff.1 h
      refine ok_callm rfl (fun L3 w3 g3 lt3 => ?_)
      refine (ref01_mark.c k a2 v3_0 hr3  w3 ).mono ?_
      rintro e w3' ⟨rfl, hb3⟩
      refine ⟨(v3_0, ()), rfl, hb3, fun g3' => ?_⟩
      try dsimp only
      have hF := hF.trans g3'
      have hO_s2_0 := hO_s2_0.later g3'
      refine ok_need rfl ?_
      refine ok_lit (R := R23) (base := w.heap.size) (xs := ([(IntKind.wrap IntKind.u8 (((BitVec.toNat (BitVec.ofInt 8 (IntKind.wrap IntKind.u8 (Int.fdiv a1 (2 ^ min (Int.toNat (IntKind.wrap IntKind.i64 (8 * v2_1))) 64))) ||| BitVec.ofInt 8 (IntKind.wrap IntKind.u8 (IntKind.wrap IntKind.i64 (v3_0 * 2 ^ 6))))) : Nat) : Int))] : List Int)) #[Value.int IntKind.u8 (IntKind.wrap IntKind.u8 (((BitVec.toNat (BitVec.ofInt 8 (IntKind.wrap IntKind.u8 (Int.fdiv a1 (2 ^ min (Int.toNat (IntKind.wrap IntKind.i64 (8 * v2_1))) 64))) ||| BitVec.ofInt 8 (IntKind.wrap IntKind.u8 (IntKind.wrap IntKind.i64 (v3_0 * 2 ^ 6))))) : Nat) : Int))] E23 rfl (by decide) (by decide) ⟨_, _, rfl, rfl, by kernel_rfl⟩ rfl hF.size (fun Ax4 cx4 L4 w4 hO4 g4 hbl4 => ?_)
      try dsimp only
      have dj_o38_s2_0 : Dj Ax4 A2_0 := Dj.new hbl4 hO_s2_0.lt
      have hF := hF.trans g4
      have hO_s2_0 := hO_s2_0.later g4
      obtain ⟨hq39, h⟩ := bif_need h
      have hq39 := of_decide_eq_true hq39
      refine ok_app (R := R23) (base := w.heap.size) (xs := s2_0) (ys := ([(IntKind.wrap IntKind.u8 (((BitVec.toNat (BitVec.ofInt 8 (IntKind.wrap IntKind.u8 (Int.fdiv a1 (2 ^ min (Int.toNat (IntKind.wrap IntKind.i64 (8 * v2_1))) 64))) ||| BitVec.ofInt 8 (IntKind.wrap IntKind.u8 (IntKind.wrap IntKind.i64 (v3_0 * 2 ^ 6))))) : Nat) : Int))] : List Int)) rfl rfl E23 hO_s2_0 hO4.sl (by decide) hq39 hF.size (fun Ax5 cx5 L5 w5 hO5 g5 hid5 hbl5 => ?_)
      try dsimp only
      have dj_o40_o38 : Dj Ax5 Ax4 := Dj.grow (Dj.symm dj_o38_s2_0) hbl5 hO4.lt
      have hO4 := hO4.other dj_o38_s2_0 g5
      have hF := Fine.own hF g5 (fun b hb => Or.inr (Own.base hO_s2_0 hb)) hid5
      obtain rfl := Option.some.inj h
      have h := hl2 _ rfl
      exact ok_again (I := I2) m2 (Nat.lt_succ_self _) (fun L w' he => by rw [hI2]; exact ⟨Ax5, cx5, (s2_0 ++ ([(IntKind.wrap IntKind.u8 (((BitVec.toNat (BitVec.ofInt 8 (IntKind.wrap IntKind.u8 (Int.fdiv a1 (2 ^ min (Int.toNat (IntKind.wrap IntKind.i64 (8 * v2_1))) 64))) ||| BitVec.ofInt 8 (IntKind.wrap IntKind.u8 (IntKind.wrap IntKind.i64 (v3_0 * 2 ^ 6))))) : Nat) : Int))] : List Int)), _, rfl, h, hF.trans he.fine, hO5.later he.fine⟩)
     ·have h := bif_f h hc37
      refine ok_lit (R := R23) (base := w.heap.size) (xs := ([(IntKind.wrap IntKind.u8 (Int.fdiv a1 (2 ^ min (Int.toNat (IntKind.wrap IntKind.i64 (8 * v2_1))) 64)))] : List Int)) #[Value.int IntKind.u8 (IntKind.wrap IntKind.u8 (Int.fdiv a1 (2 ^ min (Int.toNat (IntKind.wrap IntKind.i64 (8 * v2_1))) 64)))] E23 rfl (by decide) (by decide) ⟨_, _, rfl, rfl, by kernel_rfl⟩ rfl hF.size (fun Ax3 cx3 L3 w3 hO3 g3 hbl3 => ?_)
      try dsimp only
      have dj_o41_s2_0 : Dj Ax3 A2_0 := Dj.new hbl3 hO_s2_0.lt
      have hF := hF.trans g3
      have hO_s2_0 := hO_s2_0.later g3
      obtain ⟨hq42, h⟩ := bif_need h
      have hq42 := of_decide_eq_true hq42
      refine ok_app (R := R23) (base := w.heap.size) (xs := s2_0) (ys := ([(IntKind.wrap IntKind.u8 (Int.fdiv a1 (2 ^ min (Int.toNat (IntKind.wrap IntKind.i64 (8 * v2_1))) 64)))] : List Int)) rfl rfl E23 hO_s2_0 hO3.sl (by decide) hq42 hF.size (fun Ax4 cx4 L4 w4 hO4 g4 hid4 hbl4 => ?_)
      try dsimp only
      have dj_o43_o41 : Dj Ax4 Ax3 := Dj.grow (Dj.symm dj_o41_s2_0) hbl4 hO3.lt
      have hO3 := hO3.other dj_o41_s2_0 g4
      have hF := Fine.own hF g4 (fun b hb => Or.inr (Own.base hO_s2_0 hb)) hid4
      obtain rfl := Option.some.inj h
      have h := hl2 _ rfl
      exact ok_again (I := I2) m2 (Nat.lt_succ_self _) (fun L w' he => by rw [hI2]; exact ⟨Ax4, cx4, (s2_0 ++ ([(IntKind.wrap IntKind.u8 (Int.fdiv a1 (2 ^ min (Int.toNat (IntKind.wrap IntKind.i64 (8 * v2_1))) 64)))] : List Int)), _, rfl, h, hF.trans he.fine, hO4.later he.fine⟩)
    ·have h := bif_f h hc35
     obtain rfl := Option.some.inj h
     obtain rfl := hr_2 _ rfl
     intro ρ L w' _ he _ _
     exact ⟨A2_0, c2_0, rfl, (hF.ext he).below, (hO_s2_0.later he.fine).ret⟩
   ·have h := bif_f h hc31
    obtain rfl := Option.some.inj h
    intro ρ L w' _ he _ _
    exact ⟨none, 0, rfl, (hF.ext he).below, OwnF.ret (OwnF.nil _ (fun _ => False) _ _ _)⟩
 ·have h := bif_f h hc1
  obtain ⟨v0_0, hr0, h⟩ := Option.bind_eq_some_iff.1 h
  refine ok_callm rfl (fun L0 w0 g0 lt0 => ?_)
  refine (ref01_room.c k a1 a2 v0_0 hr0  w0 ).mono ?_
  rintro e w0' ⟨rfl, hb0⟩
  refine ⟨(v0_0, ()), rfl, hb0, fun g0' => ?_⟩
  try dsimp only
  have hF := hF.trans g0'
  refine ok_if (fun hc44 => ?_) (fun hc44 => ?_)
  ·have h := bif_t h hc44
   obtain ⟨hq45, h⟩ := bif_need h
   have hq45 := of_decide_eq_true hq45
   refine ok_app (R := R23) (base := w.heap.size) (xs := ([] : List Int)) (ys := l0) rfl rfl E23 (OwnF.nil _ _ _ _ _) (hS0.later hF) (by decide) hq45 hF.size (fun Ax1 cx1 L1 w1 hO1 g1 hid1 hbl1 => ?_)
   try dsimp only
   have hF := Fine.own hF g1 (fun b hb => by obtain ⟨_, hb, _⟩ := hb; cases hb) hid1
   obtain ⟨I2, hI2⟩ : ∃ I : Nat → Tup [Lf.sl, Lf.i IntKind.i64] → (Nat → Prop) → World → Prop, I = (fun m_ y L w' => ∃ (A2_0 : Option Addr) (c2_0 : Nat) (s2_0 : List Int) (v2_1 : Int), y = ((A2_0, s2_0.length, c2_0), v2_1, ()) ∧ iter (ref01_PutWide.s2 k a1 a2) m_ (s2_0, v2_1) = some r ∧ Fine (fun _ => False) w L w' ∧ OwnF w.heap.size L w' 5 R23 A2_0 c2_0 s2_0) := ⟨_, rfl⟩
   refine ok_loop I2 k (by rw [hI2]; exact ⟨Ax1, cx1, (([] : List Int) ++ l0), _, rfl, h, hF, hO1⟩) ?_
   clear h
   intro m_ y L2 w2 hy
   rw [hI2] at hy
   obtain ⟨A2_0, c2_0, s2_0, v2_1, rfl, h, hF, hO_s2_0⟩ := hy
   obtain ⟨m2, o2, rfl, h, hl2, hr_2⟩ := iter_some h
   unfold ref01_PutWide.s2 at h
   try dsimp only at h
   try dsimp only
   refine ok_if (fun hc48 => ?_) (fun hc48 => ?_)
   ·have h := bif_t h hc48
    obtain ⟨hn49, h⟩ := bif_need h
    refine ok_need hn49 ?_
    refine ok_if (fun hc50 => ?_) (fun hc50 => ?_)
    ·have h := bif_t h hc50
     obtain ⟨v3_0, hr3, h⟩ := Option.bind_eq_some_iff.1 h
     refine ok_callm rfl (fun L3 w3 g3 lt3 => ?_)
     refine (ref01_mark.c k a2 v3_0 hr3  w3 ).mono ?_
     rintro e w3' ⟨rfl, hb3⟩
     refine ⟨(v3_0, ()), rfl, hb3, fun g3' => ?_⟩
     try dsimp only
     have hF := hF.trans g3'
     have hO_s2_0 := hO_s2_0.later g3'
     refine ok_need rfl ?_
     refine ok_lit (R := R23) (base := w.heap.size) (xs := ([(IntKind.wrap IntKind.u8 (((BitVec.toNat (BitVec.ofInt 8 (IntKind.wrap IntKind.u8 (Int.fdiv a1 (2 ^ min (Int.toNat (IntKind.wrap IntKind.i64 (8 * v2_1))) 64))) ||| BitVec.ofInt 8 (IntKind.wrap IntKind.u8 (IntKind.wrap IntKind.i64 (v3_0 * 2 ^ 6))))) : Nat) : Int))] : List Int)) #[Value.int IntKind.u8 (IntKind.wrap IntKind.u8 (((BitVec.toNat (BitVec.ofInt 8 (IntKind.wrap IntKind.u8 (Int.fdiv a1 (2 ^ min (Int.toNat (IntKind.wrap IntKind.i64 (8 * v2_1))) 64))) ||| BitVec.ofInt 8 (IntKind.wrap IntKind.u8 (IntKind.wrap IntKind.i64 (v3_0 * 2 ^ 6))))) : Nat) : Int))] E23 rfl (by decide) (by decide) ⟨_, _, rfl, rfl, by kernel_rfl⟩ rfl hF.size (fun Ax4 cx4 L4 w4 hO4 g4 hbl4 => ?_)
     try dsimp only
     have dj_o51_s2_0 : Dj Ax4 A2_0 := Dj.new hbl4 hO_s2_0.lt
     have hF := hF.trans g4
     have hO_s2_0 := hO_s2_0.later g4
     obtain ⟨hq52, h⟩ := bif_need h
     have hq52 := of_decide_eq_true hq52
     refine ok_app (R := R23) (base := w.heap.size) (xs := s2_0) (ys := ([(IntKind.wrap IntKind.u8 (((BitVec.toNat (BitVec.ofInt 8 (IntKind.wrap IntKind.u8 (Int.fdiv a1 (2 ^ min (Int.toNat (IntKind.wrap IntKind.i64 (8 * v2_1))) 64))) ||| BitVec.ofInt 8 (IntKind.wrap IntKind.u8 (IntKind.wrap IntKind.i64 (v3_0 * 2 ^ 6))))) : Nat) : Int))] : List Int)) rfl rfl E23 hO_s2_0 hO4.sl (by decide) hq52 hF.size (fun Ax5 cx5 L5 w5 hO5 g5 hid5 hbl5 => ?_)
     try dsimp only
     have dj_o53_o51 : Dj Ax5 Ax4 := Dj.grow (Dj.symm dj_o51_s2_0) hbl5 hO4.lt
     have hO4 := hO4.other dj_o51_s2_0 g5
     have hF := Fine.own hF g5 (fun b hb => Or.inr (Own.base hO_s2_0 hb)) hid5
     obtain rfl := Option.some.inj h
     have h := hl2 _ rfl
     exact ok_again (I := I2) m2 (Nat.lt_succ_self _) (fun L w' he => by rw [hI2]; exact ⟨Ax5, cx5, (s2_0 ++ ([(IntKind.wrap IntKind.u8 (((BitVec.toNat (BitVec.ofInt 8 (IntKind.wrap IntKind.u8 (Int.fdiv a1 (2 ^ min (Int.toNat (IntKind.wrap IntKind.i64 (8 * v2_1))) 64))) ||| BitVec.ofInt 8 (IntKind.wrap IntKind.u8 (IntKind.wrap IntKind.i64 (v3_0 * 2 ^ 6))))) : Nat) : Int))] : List Int)), _, rfl, h, hF.trans he.fine, hO5.later he.fine⟩)
    ·have h := bif_f h hc50
     refine ok_lit (R := R23) (base := w.heap.size) (xs := ([(IntKind.wrap IntKind.u8 (Int.fdiv a1 (2 ^ min (Int.toNat (IntKind.wrap IntKind.i64 (8 * v2_1))) 64)))] : List Int)) #[Value.int IntKind.u8 (IntKind.wrap IntKind.u8 (Int.fdiv a1 (2 ^ min (Int.toNat (IntKind.wrap IntKind.i64 (8 * v2_1))) 64)))] E23 rfl (by decide) (by decide) ⟨_, _, rfl, rfl, by kernel_rfl⟩ rfl hF.size (fun Ax3 cx3 L3 w3 hO3 g3 hbl3 => ?_)
     try dsimp only
     have dj_o54_s2_0 : Dj Ax3 A2_0 := Dj.new hbl3 hO_s2_0.lt
     have hF := hF.trans g3
     have hO_s2_0 := hO_s2_0.later g3
     obtain ⟨hq55, h⟩ := bif_need h
     have hq55 := of_decide_eq_true hq55
     refine ok_app (R := R23) (base := w.heap.size) (xs := s2_0) (ys := ([(IntKind.wrap IntKind.u8 (Int.fdiv a1 (2 ^ min (Int.toNat (IntKind.wrap IntKind.i64 (8 * v2_1))) 64)))] : List Int)) rfl rfl E23 hO_s2_0 hO3.sl (by decide) hq55 hF.size (fun Ax4 cx4 L4 w4 hO4 g4 hid4 hbl4 => ?_)
     try dsimp only
     have dj_o56_o54 : Dj Ax4 Ax3 := Dj.grow (Dj.symm dj_o54_s2_0) hbl4 hO3.lt
     have hO3 := hO3.other dj_o54_s2_0 g4
     have hF := Fine.own hF g4 (fun b hb => Or.inr (Own.base hO_s2_0 hb)) hid4
     obtain rfl := Option.some.inj h
     have h := hl2 _ rfl
     exact ok_again (I := I2) m2 (Nat.lt_succ_self _) (fun L w' he => by rw [hI2]; exact ⟨Ax4, cx4, (s2_0 ++ ([(IntKind.wrap IntKind.u8 (Int.fdiv a1 (2 ^ min (Int.toNat (IntKind.wrap IntKind.i64 (8 * v2_1))) 64)))] : List Int)), _, rfl, h, hF.trans he.fine, hO4.later he.fine⟩)
   ·have h := bif_f h hc48
    obtain rfl := Option.some.inj h
    obtain rfl := hr_2 _ rfl
    intro ρ L w' _ he _ _
    exact ⟨A2_0, c2_0, rfl, (hF.ext he).below, (hO_s2_0.later he.fine).ret⟩
  ·have h := bif_f h hc44
   obtain rfl := Option.some.inj h
   intro ρ L w' _ he _ _
   exact ⟨none, 0, rfl, (hF.ext he).below, OwnF.ret (OwnF.nil _ (fun _ => False) _ _ _)⟩
def ref01_Put.F (k : Nat) (l0 : List Int) (a1 : Int) : Option ((List Int) × Int) := (ref01_Size.F k a1).bind fun v0_0 => (ref01_PutWide.F k l0 a1 v0_0).bind fun (s1_0, v1_1) => some ((s1_0, v1_1))
abbrev ref01_Put.A : Nat → LA := noA
set_option maxHeartbeats 4000000 in
theorem ref01_Put.t (A0 : Option Addr) (n0 c0 : Nat) (a1 : Int) : tree Try.prog ref01_Put.A noC Try.f65 [AV.v (Value.slice A0 n0 c0), AV.v (Value.int IntKind.i64 a1)] [] =
  .call 70 ([AV.v (Value.int IntKind.i64 a1)]) ([]) (Sh.one) ([Lf.i IntKind.i64]) ([]) (fun x0 =>
   .call 69 ([AV.v (Value.slice A0 n0 c0), AV.v (Value.int IntKind.i64 a1), AV.v (Value.int IntKind.i64 x0.1)]) ([]) (Sh.tup [(false, 1), (false, 1)]) ([Lf.sl, Lf.i IntKind.i64]) ([]) (fun x1 =>
    .done (AV.tup [AV.v (Value.slice x1.1.1 x1.1.2.1 x1.1.2.2), AV.v (Value.int IntKind.i64 x1.2.1)]) ([]))) := by kernel_rfl
set_option maxHeartbeats 4000000 in
theorem ref01_Put.c (k : Nat) (A0 : Option Addr) (n0 c0 : Nat) (l0 : List Int) (a1 : Int) (r : (List Int) × Int) (h : ref01_Put.F k l0 a1 = some r) (hn0 : n0 = l0.length) (w : World) (hS0 : SlR R23.row (fun _ => False) w A0 c0 l0) : Calls Try.prog 65 (AV.gs id [AV.v (Value.slice A0 n0 c0), AV.v (Value.int IntKind.i64 a1)]).toArray w fun e w' => ∃ (B0 : Option Addr) (d0 : Nat), e = .returned (((Sh.tup [(false, 1), (false, 1)] : Sh).av (vs [Lf.sl, Lf.i IntKind.i64] ((B0, (r.1).length, d0), r.2, ()))).g id) ∧ Below w.heap.size w w' ∧ OwnF w.heap.size (fun b => b < w.heap.size) w' 5 R23 B0 d0 r.1 := by
 subst hn0
 refine enter0 mixed ref01_Put.A noC [AV.v (Value.slice A0 l0.length c0), AV.v (Value.int IntKind.i64 a1)] Try.func65 rfl rfl rfl (fun hF => ?_)
 rw [ref01_Put.t]
 unfold ref01_Put.F at h
 try dsimp only at h
 obtain ⟨v0_0, hr0, h⟩ := Option.bind_eq_some_iff.1 h
 refine ok_callm rfl (fun L0 w0 g0 lt0 => ?_)
 refine (ref01_Size.c k a1 v0_0 hr0  w0 ).mono ?_
 rintro e w0' ⟨rfl, hb0⟩
 refine ⟨(v0_0, ()), rfl, hb0, fun g0' => ?_⟩
 try dsimp only
 have hF := hF.trans g0'
 obtain ⟨r1, hr1, h⟩ := Option.bind_eq_some_iff.1 h
 obtain ⟨s1_0, v1_1⟩ := r1
 try dsimp only at h
 refine ok_callm rfl (fun L1 w1 g1 lt1 => ?_)
 refine (ref01_PutWide.c k _ _ _ l0 a1 v0_0 (s1_0, v1_1) hr1 rfl w1 (hS0.later (hF.trans g1)).bare).mono ?_
 rintro e w1' ⟨A1_0, c1_0, rfl, hb1, hO1_0⟩
 refine ⟨((A1_0, s1_0.length, c1_0), v1_1, ()), rfl, hb1, fun g1' => ?_⟩
 try dsimp only
 have hO1_0 := hO1_0.call (hF.trans g1).size lt1
 have hF := hF.trans g1'
 obtain rfl := Option.some.inj h
 intro ρ L w' _ he _ _
 exact ⟨A1_0, c1_0, rfl, (hF.ext he).below, (hO1_0.later he.fine).ret⟩
def ref04_put.F (k : Nat) (l0 : List Int) (l1 : List Int) : Option (List Int) := if l1 = [] then none else l1.foldlM (fun b n => (ref01_Put.F k b n).map (·.1)) l0
abbrev ref04_put.A : Nat → LA := fun r => if r = 2 then ⟨[(0, false, [Lf.sl]), (5, false, [Lf.i IntKind.i64])], []⟩ else ⟨[], []⟩
set_option maxHeartbeats 4000000 in
theorem ref04_put.t (A0 : Option Addr) (n0 c0 : Nat) (A1 : Option Addr) (n1 c1 : Nat) : tree Try.prog ref04_put.A noC Try.f52 [AV.v (Value.slice A0 n0 c0), AV.v (Value.slice A1 n1 c1)] [] =
  .loop ([Lf.sl, Lf.i IntKind.i64]) (((A0, n0, c0), 0, PUnit.unit)) 0 (fun x0 =>
   bif decide (x0.2.1 < (n1 : Int)) then (
    .need (decide (0 ≤ x0.2.1) && decide (x0.2.1 < (n1 : Int)) && Option.isSome A1) (
    .ld (Option.map (fun x => Addr.add x (Int.toNat x0.2.1 * 1)) A1) ([Lf.i IntKind.i64]) (fun x1 =>
     .call 65 ([AV.v (Value.slice x0.1.1 x0.1.2.1 x0.1.2.2), AV.v (Value.int IntKind.i64 x1.1)]) ([]) (Sh.tup [(false, 1), (false, 1)]) ([Lf.sl, Lf.i IntKind.i64]) ([]) (fun x2 =>
      .again 0 ([Lf.sl, Lf.i IntKind.i64]) (((x2.1.1, x2.1.2.1, x2.1.2.2), IntKind.wrap IntKind.i64 (x0.2.1 + 1), PUnit.unit))))))
   else (
    .done (AV.v (Value.slice x0.1.1 x0.1.2.1 x0.1.2.2)) ([]))) := by kernel_rfl
set_option maxHeartbeats 4000000 in
theorem ref04_put.c (k : Nat) (A0 : Option Addr) (n0 c0 : Nat) (l0 : List Int) (A1 : Option Addr) (n1 c1 : Nat) (l1 : List Int) (r : List Int) (h : ref04_put.F k l0 l1 = some r) (hn0 : n0 = l0.length) (hn1 : n1 = l1.length) (w : World) (hS0 : SlR R23.row (fun _ => False) w A0 c0 l0) (hS1 : SlR R76.row (fun _ => False) w A1 c1 l1) : Calls Try.prog 52 (AV.gs id [AV.v (Value.slice A0 n0 c0), AV.v (Value.slice A1 n1 c1)]).toArray w fun e w' => ∃ (B0 : Option Addr) (d0 : Nat), e = .returned (((Sh.one : Sh).av (vs [Lf.sl] ((B0, (r).length, d0), ()))).g id) ∧ Below w.heap.size w w' ∧ OwnF w.heap.size (fun b => b < w.heap.size) w' 5 R23 B0 d0 r := by
 subst hn0
 subst hn1
 have hmx := hS1.2.2
 unfold ref04_put.F at h
 split at h
 ·cases h
 rename_i hne
 have hpos : 0 < l1.length := List.length_pos_iff.2 hne
 refine enter0 mixed ref04_put.A noC [AV.v (Value.slice A0 l0.length c0), AV.v (Value.slice A1 l1.length c1)] Try.func52 rfl rfl rfl (fun hF => ?_)
 rw [ref04_put.t]
 obtain ⟨I, hI⟩ : ∃ I : Nat → Tup [Lf.sl, Lf.i IntKind.i64] → (Nat → Prop) → World → Prop, I = (fun m y L w' => ∃ (j : Nat) (A : Option Addr) (c : Nat) (b : List Int), m + j = l1.length ∧ y = ((A, b.length, c), (j : Int), ()) ∧ (l1.drop j).foldlM (fun b n => (ref01_Put.F k b n).map (·.1)) b = some r ∧ Fine (fun _ => False) w L w' ∧ SlR R23.row L w' A c b ∧ (j = 0 ∨ OwnF w.heap.size L w' 5 R23 A c b)) := ⟨_, rfl⟩
 refine ok_loop I l1.length (by rw [hI]; exact ⟨0, A0, c0, l0, rfl, rfl, by rw [List.drop_zero]; exact h, hF, hS0, Or.inl rfl⟩) ?_
 intro m y L1 w1 hy
 rw [hI] at hy
 obtain ⟨j, A, c, b, hm, rfl, hf, hF, hS, ho⟩ := hy
 dsimp only
 refine ok_if (fun hc => ?_) (fun hc => ?_)
 ·have hlt : j < l1.length := by have : (j : Int) < (l1.length : Int) := of_decide_eq_true hc; omega
  obtain ⟨x, hx⟩ : ∃ x, l1[j]? = some x := ⟨_, List.getElem?_eq_getElem hlt⟩
  have gx : getI l1 (j : Int) = some x := by rw [getI_nat]; exact hx
  have hd : l1.drop j = x :: l1.drop (j + 1) := by rw [List.drop_eq_getElem_cons hlt]; congr 1; rw [List.getElem?_eq_getElem hlt] at hx; exact Option.some.inj hx
  rw [hd, List.foldlM_cons] at hf
  obtain ⟨b', hb', hf⟩ := Option.bind_eq_some_iff.1 hf
  obtain ⟨q, hq, rfl⟩ := Option.map_eq_some_iff.1 hb'
  refine ok_need (getI_need (hS1.later hF) gx) ?_
  refine ok_get hS1 hF gx (by simp) (fun cs hcs => ⟨(x, ()), hcs.symm, ?_⟩)
  dsimp only
  refine ok_callm rfl (fun L w2 g lt => ?_)
  refine (ref01_Put.c k A b.length c b x q hq rfl w2 (hS.later g).bare).mono ?_
  rintro e w3 ⟨B, d, rfl, hb, hO⟩
  refine ⟨((B, q.1.length, d), q.2, ()), rfl, hb, fun g' => ?_⟩
  dsimp only
  have hO := hO.call (hF.trans g).size lt
  have hF := hF.trans g'
  have f1 : IntKind.i64.wrap ((j : Int) + 1) = ((j + 1 : Nat) : Int) := by rw [wrap_in] <;> omega
  exact ok_again (I := I) (m - 1) (by omega) (fun L w' he => by rw [hI]; exact ⟨j + 1, B, d, q.1, by omega, by rw [f1], hf, hF.trans he.fine, hO.sl.later he.fine, Or.inr (hO.later he.fine)⟩)
 ·have hge : ¬ ((j : Int) < (l1.length : Int)) := of_decide_eq_false hc
  rw [List.drop_of_length_le (by omega)] at hf
  obtain rfl := Option.some.inj hf
  have ho : OwnF w.heap.size L1 w1 5 R23 A c b := ho.resolve_left (by omega)
  intro ρ L w' _ he _ _
  exact ⟨A, c, rfl, (hF.ext he).below, (ho.later he.fine).ret⟩
def ref04_bytes.s3 (k : Nat) (l0_7 : List (Int × Int)) : ((List Int) × Int) → Option (Sum ((List Int) × Int) ((List Int))) := fun (s3_0, v3_1) => bif decide (0 ≤ v3_1) then ((getI l0_7 (IntKind.wrap IntKind.i64 (v3_1 + 1))).bind fun r8 => (getI l0_7 v3_1).bind fun r10 => (getI l0_7 v3_1).bind fun r12 => (getI l0_7 v3_1).bind fun r14 => (ref04_put.F k s3_0 (([(IntKind.wrap IntKind.i64 (IntKind.wrap IntKind.i64 (r8.1 - r10.2) - 2)), (IntKind.wrap IntKind.i64 (r12.2 - r14.1))] : List Int))).bind fun s9_0 => some (.inl ((s9_0, IntKind.wrap IntKind.i64 (v3_1 - 1))))) else (some (.inr s3_0))
def ref04_bytes.F (k : Nat) (a0_0 : Int) (a0_1 : Int) (a0_2 : Int) (a0_3 : Int) (a0_4 : Int) (a0_5 : Bool) (l0_6 : List Int) (l0_7 : List (Int × Int)) : Option ((List Int)) := bif a0_0 == 2 then ((getI l0_7 (IntKind.wrap IntKind.i64 (((l0_7.length : Nat) : Int) - 1))).bind fun r2 => (ref04_put.F k ([]) (([(2), (r2.2), (a0_3), (IntKind.wrap IntKind.i64 (((l0_7.length : Nat) : Int) - 1)), (IntKind.wrap IntKind.i64 (r2.2 - r2.1))] : List Int))).bind fun s2_0 => iter (ref04_bytes.s3 k l0_7) k (s2_0, IntKind.wrap IntKind.i64 (((l0_7.length : Nat) : Int) - 2))) else (bif a0_0 == 4 then ((ref04_put.F k ([]) (([(4), (a0_1), (a0_4), (a0_2)] : List Int))).bind fun s1_0 => some s1_0) else (bif a0_0 == 5 then ((ref04_put.F k ([]) (([(5), (a0_1), (a0_4)] : List Int))).bind fun s1_0 => some s1_0) else (bif a0_0 == 8 then (bif a0_5 then ((ref04_put.F k ([]) (([(15), (a0_1), (a0_2), (((l0_6.length : Nat) : Int))] : List Int))).bind fun s1_0 => bif decide ((s1_0.length + l0_6.length) * 1 ≤ 140737488355328) then (some (((s1_0 ++ l0_6)))) else none) else ((ref04_put.F k ([]) (([(14), (a0_1), (a0_2), (((l0_6.length : Nat) : Int))] : List Int))).bind fun s1_0 => bif decide ((s1_0.length + l0_6.length) * 1 ≤ 140737488355328) then (some (((s1_0 ++ l0_6)))) else none)) else (bif a0_0 == 16 then ((ref04_put.F k ([]) (([(a0_0), (a0_3)] : List Int))).bind fun s1_0 => some s1_0) else (bif a0_0 == 18 then ((ref04_put.F k ([]) (([(a0_0), (a0_3)] : List Int))).bind fun s1_0 => some s1_0) else (bif a0_0 == 17 then ((ref04_put.F k ([]) (([(17), (a0_1), (a0_3)] : List Int))).bind fun s1_0 => some s1_0) else (bif a0_0 == 28 then ((ref04_put.F k ([]) (([(28), (a0_4), (((l0_6.length : Nat) : Int))] : List Int))).bind fun s1_0 => bif decide ((s1_0.length + l0_6.length) * 1 ≤ 140737488355328) then (some (((s1_0 ++ l0_6)))) else none) else ((ref04_put.F k ([]) (([(a0_0)] : List Int))).bind fun s1_0 => some s1_0))))))))
abbrev ref04_bytes.A : Nat → LA := fun r => if r = 7 then ⟨[(5, false, [Lf.sl]), (6, false, [Lf.i IntKind.i64])], []⟩ else ⟨[], []⟩
set_option maxHeartbeats 4000000 in
theorem ref04_bytes.t (a0_0 : Int) (a0_1 : Int) (a0_2 : Int) (a0_3 : Int) (a0_4 : Int) (a0_5 : Bool) (A0_6 : Option Addr) (n0_6 c0_6 : Nat) (A0_7 : Option Addr) (n0_7 c0_7 : Nat) : tree Try.prog ref04_bytes.A noC Try.f34 [AV.agg [AV.v (Value.int IntKind.i64 a0_0), AV.v (Value.int IntKind.i64 a0_1), AV.v (Value.int IntKind.i64 a0_2), AV.v (Value.int IntKind.i64 a0_3), AV.v (Value.int IntKind.i64 a0_4), AV.v (Value.bool a0_5), AV.v (Value.slice A0_6 n0_6 c0_6), AV.v (Value.slice A0_7 n0_7 c0_7)]] [] =
  bif a0_0 == 2 then (
   .need (decide (0 ≤ IntKind.wrap IntKind.i64 (((n0_7 : Nat) : Int) - 1)) && decide (IntKind.wrap IntKind.i64 (((n0_7 : Nat) : Int) - 1) < ((n0_7 : Nat) : Int)) && Option.isSome A0_7) (
   .ld (Option.map (fun x => Addr.add x (Int.toNat (IntKind.wrap IntKind.i64 (((n0_7 : Nat) : Int) - 1)) * 2)) A0_7) ([Lf.i IntKind.i64, Lf.i IntKind.i64]) (fun x0 =>
    .sem (Instr.buildSlice 76 5 { toList := [(0, Value.int IntKind.i64 2), (1, Value.int IntKind.i64 x0.2.1), (2, Value.int IntKind.i64 a0_3), (3, Value.int IntKind.i64 (IntKind.wrap IntKind.i64 (((n0_7 : Nat) : Int) - 1))), (4, Value.int IntKind.i64 (IntKind.wrap IntKind.i64 (x0.2.1 - x0.1)))] }) ([Lf.sl]) (Sh.one) (fun x1 =>
     .call 52 ([AV.v (Value.slice none 0 0), AV.v (Value.slice x1.1.1 x1.1.2.1 x1.1.2.2)]) ([]) (Sh.one) ([Lf.sl]) ([]) (fun x2 =>
      .loop ([Lf.sl, Lf.i IntKind.i64]) (((x2.1.1, x2.1.2.1, x2.1.2.2), IntKind.wrap IntKind.i64 (((n0_7 : Nat) : Int) - 2), PUnit.unit)) 0 (fun x3 =>
       bif decide (0 ≤ x3.2.1) then (
        .need (decide (0 ≤ IntKind.wrap IntKind.i64 (x3.2.1 + 1)) && decide (IntKind.wrap IntKind.i64 (x3.2.1 + 1) < ((n0_7 : Nat) : Int)) && Option.isSome A0_7) (
        .need (Option.isSome (Option.map (fun x => Addr.add x (Int.toNat (IntKind.wrap IntKind.i64 (x3.2.1 + 1)) * 2)) A0_7)) (
        .ld (Option.map (fun x => Addr.add x 0) (Option.map (fun x => Addr.add x (Int.toNat (IntKind.wrap IntKind.i64 (x3.2.1 + 1)) * 2)) A0_7)) ([Lf.i IntKind.i64]) (fun x4 =>
         .need (decide (0 ≤ x3.2.1) && decide (x3.2.1 < ((n0_7 : Nat) : Int)) && Option.isSome A0_7) (
         .need (Option.isSome (Option.map (fun x => Addr.add x (Int.toNat x3.2.1 * 2)) A0_7)) (
         .ld (Option.map (fun x => Addr.add x 1) (Option.map (fun x => Addr.add x (Int.toNat x3.2.1 * 2)) A0_7)) ([Lf.i IntKind.i64]) (fun x5 =>
          .need (decide (0 ≤ x3.2.1) && decide (x3.2.1 < ((n0_7 : Nat) : Int)) && Option.isSome A0_7) (
          .need (Option.isSome (Option.map (fun x => Addr.add x (Int.toNat x3.2.1 * 2)) A0_7)) (
          .ld (Option.map (fun x => Addr.add x 1) (Option.map (fun x => Addr.add x (Int.toNat x3.2.1 * 2)) A0_7)) ([Lf.i IntKind.i64]) (fun x6 =>
           .need (decide (0 ≤ x3.2.1) && decide (x3.2.1 < ((n0_7 : Nat) : Int)) && Option.isSome A0_7) (
           .need (Option.isSome (Option.map (fun x => Addr.add x (Int.toNat x3.2.1 * 2)) A0_7)) (
           .ld (Option.map (fun x => Addr.add x 0) (Option.map (fun x => Addr.add x (Int.toNat x3.2.1 * 2)) A0_7)) ([Lf.i IntKind.i64]) (fun x7 =>
            .sem (Instr.buildSlice 76 2 { toList := [(0, Value.int IntKind.i64 (IntKind.wrap IntKind.i64 (IntKind.wrap IntKind.i64 (x4.1 - x5.1) - 2))), (1, Value.int IntKind.i64 (IntKind.wrap IntKind.i64 (x6.1 - x7.1)))] }) ([Lf.sl]) (Sh.one) (fun x8 =>
             .call 52 ([AV.v (Value.slice x3.1.1 x3.1.2.1 x3.1.2.2), AV.v (Value.slice x8.1.1 x8.1.2.1 x8.1.2.2)]) ([]) (Sh.one) ([Lf.sl]) ([]) (fun x9 =>
              .again 0 ([Lf.sl, Lf.i IntKind.i64]) (((x9.1.1, x9.1.2.1, x9.1.2.2), IntKind.wrap IntKind.i64 (x3.2.1 - 1), PUnit.unit)))))))))))))))))
       else (
        .done (AV.v (Value.slice x3.1.1 x3.1.2.1 x3.1.2.2)) ([]))))))))
  else (
   bif a0_0 == 4 then (
    .sem (Instr.buildSlice 76 4 { toList := [(0, Value.int IntKind.i64 4), (1, Value.int IntKind.i64 a0_1), (2, Value.int IntKind.i64 a0_4), (3, Value.int IntKind.i64 a0_2)] }) ([Lf.sl]) (Sh.one) (fun x0 =>
     .call 52 ([AV.v (Value.slice none 0 0), AV.v (Value.slice x0.1.1 x0.1.2.1 x0.1.2.2)]) ([]) (Sh.one) ([Lf.sl]) ([]) (fun x1 =>
      .done (AV.v (Value.slice x1.1.1 x1.1.2.1 x1.1.2.2)) ([]))))
   else (
    bif a0_0 == 5 then (
     .sem (Instr.buildSlice 76 3 { toList := [(0, Value.int IntKind.i64 5), (1, Value.int IntKind.i64 a0_1), (2, Value.int IntKind.i64 a0_4)] }) ([Lf.sl]) (Sh.one) (fun x0 =>
      .call 52 ([AV.v (Value.slice none 0 0), AV.v (Value.slice x0.1.1 x0.1.2.1 x0.1.2.2)]) ([]) (Sh.one) ([Lf.sl]) ([]) (fun x1 =>
       .done (AV.v (Value.slice x1.1.1 x1.1.2.1 x1.1.2.2)) ([]))))
    else (
     bif a0_0 == 8 then (
      bif a0_5 then (
       .sem (Instr.buildSlice 76 4 { toList := [(0, Value.int IntKind.i64 15), (1, Value.int IntKind.i64 a0_1), (2, Value.int IntKind.i64 a0_2), (3, Value.int IntKind.i64 ((n0_6 : Nat) : Int))] }) ([Lf.sl]) (Sh.one) (fun x0 =>
        .call 52 ([AV.v (Value.slice none 0 0), AV.v (Value.slice x0.1.1 x0.1.2.1 x0.1.2.2)]) ([]) (Sh.one) ([Lf.sl]) ([]) (fun x1 =>
         .sem (Builtin.append_ { toList := [23, 23] } 23 { toList := [Value.slice x1.1.1 x1.1.2.1 x1.1.2.2, Value.slice A0_6 n0_6 c0_6] }) ([Lf.sl]) (Sh.one) (fun x2 =>
          .done (AV.v (Value.slice x2.1.1 x2.1.2.1 x2.1.2.2)) ([])))))
      else (
       .sem (Instr.buildSlice 76 4 { toList := [(0, Value.int IntKind.i64 14), (1, Value.int IntKind.i64 a0_1), (2, Value.int IntKind.i64 a0_2), (3, Value.int IntKind.i64 ((n0_6 : Nat) : Int))] }) ([Lf.sl]) (Sh.one) (fun x0 =>
        .call 52 ([AV.v (Value.slice none 0 0), AV.v (Value.slice x0.1.1 x0.1.2.1 x0.1.2.2)]) ([]) (Sh.one) ([Lf.sl]) ([]) (fun x1 =>
         .sem (Builtin.append_ { toList := [23, 23] } 23 { toList := [Value.slice x1.1.1 x1.1.2.1 x1.1.2.2, Value.slice A0_6 n0_6 c0_6] }) ([Lf.sl]) (Sh.one) (fun x2 =>
          .done (AV.v (Value.slice x2.1.1 x2.1.2.1 x2.1.2.2)) ([]))))))
     else (
      bif a0_0 == 16 then (
       .sem (Instr.buildSlice 76 2 { toList := [(0, Value.int IntKind.i64 a0_0), (1, Value.int IntKind.i64 a0_3)] }) ([Lf.sl]) (Sh.one) (fun x0 =>
        .call 52 ([AV.v (Value.slice none 0 0), AV.v (Value.slice x0.1.1 x0.1.2.1 x0.1.2.2)]) ([]) (Sh.one) ([Lf.sl]) ([]) (fun x1 =>
         .done (AV.v (Value.slice x1.1.1 x1.1.2.1 x1.1.2.2)) ([]))))
      else (
       bif a0_0 == 18 then (
        .sem (Instr.buildSlice 76 2 { toList := [(0, Value.int IntKind.i64 a0_0), (1, Value.int IntKind.i64 a0_3)] }) ([Lf.sl]) (Sh.one) (fun x0 =>
         .call 52 ([AV.v (Value.slice none 0 0), AV.v (Value.slice x0.1.1 x0.1.2.1 x0.1.2.2)]) ([]) (Sh.one) ([Lf.sl]) ([]) (fun x1 =>
          .done (AV.v (Value.slice x1.1.1 x1.1.2.1 x1.1.2.2)) ([]))))
       else (
        bif a0_0 == 17 then (
         .sem (Instr.buildSlice 76 3 { toList := [(0, Value.int IntKind.i64 17), (1, Value.int IntKind.i64 a0_1), (2, Value.int IntKind.i64 a0_3)] }) ([Lf.sl]) (Sh.one) (fun x0 =>
          .call 52 ([AV.v (Value.slice none 0 0), AV.v (Value.slice x0.1.1 x0.1.2.1 x0.1.2.2)]) ([]) (Sh.one) ([Lf.sl]) ([]) (fun x1 =>
           .done (AV.v (Value.slice x1.1.1 x1.1.2.1 x1.1.2.2)) ([]))))
        else (
         bif a0_0 == 28 then (
          .sem (Instr.buildSlice 76 3 { toList := [(0, Value.int IntKind.i64 28), (1, Value.int IntKind.i64 a0_4), (2, Value.int IntKind.i64 ((n0_6 : Nat) : Int))] }) ([Lf.sl]) (Sh.one) (fun x0 =>
           .call 52 ([AV.v (Value.slice none 0 0), AV.v (Value.slice x0.1.1 x0.1.2.1 x0.1.2.2)]) ([]) (Sh.one) ([Lf.sl]) ([]) (fun x1 =>
            .sem (Builtin.append_ { toList := [23, 23] } 23 { toList := [Value.slice x1.1.1 x1.1.2.1 x1.1.2.2, Value.slice A0_6 n0_6 c0_6] }) ([Lf.sl]) (Sh.one) (fun x2 =>
             .done (AV.v (Value.slice x2.1.1 x2.1.2.1 x2.1.2.2)) ([])))))
         else (
          .sem (Instr.buildSlice 76 1 { toList := [(0, Value.int IntKind.i64 a0_0)] }) ([Lf.sl]) (Sh.one) (fun x0 =>
           .call 52 ([AV.v (Value.slice none 0 0), AV.v (Value.slice x0.1.1 x0.1.2.1 x0.1.2.2)]) ([]) (Sh.one) ([Lf.sl]) ([]) (fun x1 =>
            .done (AV.v (Value.slice x1.1.1 x1.1.2.1 x1.1.2.2)) ([]))))))))))) := by kernel_rfl
set_option maxHeartbeats 4000000 in
theorem ref04_bytes.c (k : Nat) (a0_0 : Int) (a0_1 : Int) (a0_2 : Int) (a0_3 : Int) (a0_4 : Int) (a0_5 : Bool) (A0_6 : Option Addr) (n0_6 c0_6 : Nat) (l0_6 : List Int) (A0_7 : Option Addr) (n0_7 c0_7 : Nat) (l0_7 : List (Int × Int)) (r : (List Int)) (h : ref04_bytes.F k a0_0 a0_1 a0_2 a0_3 a0_4 a0_5 l0_6 l0_7 = some r) (hn0_6 : n0_6 = l0_6.length) (hn0_7 : n0_7 = l0_7.length) (w : World) (hS0_6 : SlR R23.row (fun _ => False) w A0_6 c0_6 l0_6) (hS0_7 : SlR R34.row (fun _ => False) w A0_7 c0_7 l0_7) : Calls Try.prog 34 (AV.gs id [AV.agg [AV.v (Value.int IntKind.i64 a0_0), AV.v (Value.int IntKind.i64 a0_1), AV.v (Value.int IntKind.i64 a0_2), AV.v (Value.int IntKind.i64 a0_3), AV.v (Value.int IntKind.i64 a0_4), AV.v (Value.bool a0_5), AV.v (Value.slice A0_6 n0_6 c0_6), AV.v (Value.slice A0_7 n0_7 c0_7)]]).toArray w fun e w' => ∃ (B0 : Option Addr) (d0 : Nat), e = .returned (((Sh.one : Sh).av (vs [Lf.sl] ((B0, (r).length, d0), ()))).g id) ∧ Below w.heap.size w w' ∧ OwnF w.heap.size (fun b => b < w.heap.size) w' 5 R23 B0 d0 r := by
 subst hn0_6
 subst hn0_7
 refine enter0 mixed ref04_bytes.A noC [AV.agg [AV.v (Value.int IntKind.i64 a0_0), AV.v (Value.int IntKind.i64 a0_1), AV.v (Value.int IntKind.i64 a0_2), AV.v (Value.int IntKind.i64 a0_3), AV.v (Value.int IntKind.i64 a0_4), AV.v (Value.bool a0_5), AV.v (Value.slice A0_6 l0_6.length c0_6), AV.v (Value.slice A0_7 l0_7.length c0_7)]] Try.func34 rfl rfl rfl (fun hF => ?_)
 rw [ref04_bytes.t]
 unfold ref04_bytes.F at h
 try dsimp only at h
 refine ok_if (fun hc1 => ?_) (fun hc1 => ?_)
 ·have h := bif_t h hc1
  obtain ⟨r2, hr3, h⟩ := Option.bind_eq_some_iff.1 h
  refine ok_need (getI_need (hS0_7.later hF) hr3) ?_
  refine ok_get hS0_7 hF hr3 (by simp) (fun cs hcs => ⟨(r2.1, r2.2, ()), hcs.symm, ?_⟩)
  try dsimp only
  refine ok_lit (R := R76) (base := w.heap.size) (xs := ([(2), (r2.2), (a0_3), (IntKind.wrap IntKind.i64 (((l0_7.length : Nat) : Int) - 1)), (IntKind.wrap IntKind.i64 (r2.2 - r2.1))] : List Int)) #[Value.int IntKind.i64 2, Value.int IntKind.i64 r2.2, Value.int IntKind.i64 a0_3, Value.int IntKind.i64 (IntKind.wrap IntKind.i64 (((l0_7.length : Nat) : Int) - 1)), Value.int IntKind.i64 (IntKind.wrap IntKind.i64 (r2.2 - r2.1))] E76 rfl (by decide) (by decide) ⟨_, _, rfl, rfl, by kernel_rfl⟩ rfl hF.size (fun Ax1 cx1 L1 w1 hO1 g1 hbl1 => ?_)
  try dsimp only
  have hF := hF.trans g1
  obtain ⟨s2_0, hr2, h⟩ := Option.bind_eq_some_iff.1 h
  refine ok_callm rfl (fun L2 w2 g2 lt2 => ?_)
  refine (ref04_put.c k _ _ _ ([]) _ _ _ (([(2), (r2.2), (a0_3), (IntKind.wrap IntKind.i64 (((l0_7.length : Nat) : Int) - 1)), (IntKind.wrap IntKind.i64 (r2.2 - r2.1))] : List Int)) s2_0 hr2 rfl rfl w2 SlR.nil (hO1.later g2).sl.bare).mono ?_
  rintro e w2' ⟨A2_0, c2_0, rfl, hb2, hO2_0⟩
  refine ⟨((A2_0, s2_0.length, c2_0), ()), rfl, hb2, fun g2' => ?_⟩
  try dsimp only
  have dj_o5_o4 : Dj A2_0 Ax1 := Dj.new hO2_0.fresh (hO1.later g2).lt
  have hO2_0 := hO2_0.call (hF.trans g2).size lt2
  have hF := hF.trans g2'
  have hO1 := hO1.later g2'
  obtain ⟨I3, hI3⟩ : ∃ I : Nat → Tup [Lf.sl, Lf.i IntKind.i64] → (Nat → Prop) → World → Prop, I = (fun m_ y L w' => ∃ (A3_0 : Option Addr) (c3_0 : Nat) (s3_0 : List Int) (v3_1 : Int), y = ((A3_0, s3_0.length, c3_0), v3_1, ()) ∧ iter (ref04_bytes.s3 k l0_7) m_ (s3_0, v3_1) = some r ∧ Fine (fun _ => False) w L w' ∧ OwnF w.heap.size L w' 3 R76 Ax1 cx1 (([(2), (r2.2), (a0_3), (IntKind.wrap IntKind.i64 (((l0_7.length : Nat) : Int) - 1)), (IntKind.wrap IntKind.i64 (r2.2 - r2.1))] : List Int)) ∧ OwnF w.heap.size L w' 5 R23 A3_0 c3_0 s3_0 ∧ Dj A3_0 Ax1) := ⟨_, rfl⟩
  refine ok_loop I3 k (by rw [hI3]; exact ⟨A2_0, c2_0, s2_0, _, rfl, h, hF, hO1, hO2_0, dj_o5_o4⟩) ?_
  clear h
  intro m_ y L3 w3 hy
  rw [hI3] at hy
  obtain ⟨A3_0, c3_0, s3_0, v3_1, rfl, h, hF, hO1, hO_s3_0, dj_s3_0_o4⟩ := hy
  obtain ⟨m3, o3, rfl, h, hl3, hr_3⟩ := iter_some h
  unfold ref04_bytes.s3 at h
  try dsimp only at h
  try dsimp only
  refine ok_if (fun hc7 => ?_) (fun hc7 => ?_)
  ·have h := bif_t h hc7
   obtain ⟨r8, hr9, h⟩ := Option.bind_eq_some_iff.1 h
   refine ok_need (getI_need (hS0_7.later hF) hr9) ?_
   refine ok_need (getI_need2 (hS0_7.later hF) hr9) ?_
   refine ok_getf 0 hS0_7 hF hr9 (fun cs hcs => ⟨r8.1, by rw [hcs]; rfl, ?_⟩)
   try dsimp only
   obtain ⟨r10, hr11, h⟩ := Option.bind_eq_some_iff.1 h
   refine ok_need (getI_need (hS0_7.later hF) hr11) ?_
   refine ok_need (getI_need2 (hS0_7.later hF) hr11) ?_
   refine ok_getf 1 hS0_7 hF hr11 (fun cs hcs => ⟨r10.2, by rw [hcs]; rfl, ?_⟩)
   try dsimp only
   obtain ⟨r12, hr13, h⟩ := Option.bind_eq_some_iff.1 h
   refine ok_need (getI_need (hS0_7.later hF) hr13) ?_
   refine ok_need (getI_need2 (hS0_7.later hF) hr13) ?_
   refine ok_getf 1 hS0_7 hF hr13 (fun cs hcs => ⟨r12.2, by rw [hcs]; rfl, ?_⟩)
   try dsimp only
   obtain ⟨r14, hr15, h⟩ := Option.bind_eq_some_iff.1 h
   refine ok_need (getI_need (hS0_7.later hF) hr15) ?_
   refine ok_need (getI_need2 (hS0_7.later hF) hr15) ?_
   refine ok_getf 0 hS0_7 hF hr15 (fun cs hcs => ⟨r14.1, by rw [hcs]; rfl, ?_⟩)
   try dsimp only
   refine ok_lit (R := R76) (base := w.heap.size) (xs := ([(IntKind.wrap IntKind.i64 (IntKind.wrap IntKind.i64 (r8.1 - r10.2) - 2)), (IntKind.wrap IntKind.i64 (r12.2 - r14.1))] : List Int)) #[Value.int IntKind.i64 (IntKind.wrap IntKind.i64 (IntKind.wrap IntKind.i64 (r8.1 - r10.2) - 2)), Value.int IntKind.i64 (IntKind.wrap IntKind.i64 (r12.2 - r14.1))] E76 rfl (by decide) (by decide) ⟨_, _, rfl, rfl, by kernel_rfl⟩ rfl hF.size (fun Ax8 cx8 L8 w8 hO8 g8 hbl8 => ?_)
   try dsimp only
   have dj_o16_o4 : Dj Ax8 Ax1 := Dj.new hbl8 hO1.lt
   have dj_o16_s3_0 : Dj Ax8 A3_0 := Dj.new hbl8 hO_s3_0.lt
   have hF := hF.trans g8
   have hO1 := hO1.later g8
   have hO_s3_0 := hO_s3_0.later g8
   obtain ⟨s9_0, hr9, h⟩ := Option.bind_eq_some_iff.1 h
   refine ok_callm rfl (fun L9 w9 g9 lt9 => ?_)
   refine (ref04_put.c k _ _ _ s3_0 _ _ _ (([(IntKind.wrap IntKind.i64 (IntKind.wrap IntKind.i64 (r8.1 - r10.2) - 2)), (IntKind.wrap IntKind.i64 (r12.2 - r14.1))] : List Int)) s9_0 hr9 rfl rfl w9 (hO_s3_0.later g9).sl.bare (hO8.later g9).sl.bare).mono ?_
   rintro e w9' ⟨A9_0, c9_0, rfl, hb9, hO9_0⟩
   refine ⟨((A9_0, s9_0.length, c9_0), ()), rfl, hb9, fun g9' => ?_⟩
   try dsimp only
   have dj_o17_o4 : Dj A9_0 Ax1 := Dj.new hO9_0.fresh (hO1.later g9).lt
   have dj_o17_s3_0 : Dj A9_0 A3_0 := Dj.new hO9_0.fresh (hO_s3_0.later g9).lt
   have dj_o17_o16 : Dj A9_0 Ax8 := Dj.new hO9_0.fresh (hO8.later g9).lt
   have hO9_0 := hO9_0.call (hF.trans g9).size lt9
   have hF := hF.trans g9'
   have hO1 := hO1.later g9'
   have hO_s3_0 := hO_s3_0.later g9'
   have hO8 := hO8.later g9'
   obtain rfl := Option.some.inj h
   have h := hl3 _ rfl
   exact ok_again (I := I3) m3 (Nat.lt_succ_self _) (fun L w' he => by rw [hI3]; exact ⟨A9_0, c9_0, s9_0, _, rfl, h, hF.trans he.fine, hO1.later he.fine, hO9_0.later he.fine, dj_o17_o4⟩)
  ·have h := bif_f h hc7
   obtain rfl := Option.some.inj h
   obtain rfl := hr_3 _ rfl
   intro ρ L w' _ he _ _
   exact ⟨A3_0, c3_0, rfl, (hF.ext he).below, (hO_s3_0.later he.fine).ret⟩
 ·have h := bif_f h hc1
  refine ok_if (fun hc18 => ?_) (fun hc18 => ?_)
  ·have h := bif_t h hc18
   refine ok_lit (R := R76) (base := w.heap.size) (xs := ([(4), (a0_1), (a0_4), (a0_2)] : List Int)) #[Value.int IntKind.i64 4, Value.int IntKind.i64 a0_1, Value.int IntKind.i64 a0_4, Value.int IntKind.i64 a0_2] E76 rfl (by decide) (by decide) ⟨_, _, rfl, rfl, by kernel_rfl⟩ rfl hF.size (fun Ax0 cx0 L0 w0 hO0 g0 hbl0 => ?_)
   try dsimp only
   have hF := hF.trans g0
   obtain ⟨s1_0, hr1, h⟩ := Option.bind_eq_some_iff.1 h
   refine ok_callm rfl (fun L1 w1 g1 lt1 => ?_)
   refine (ref04_put.c k _ _ _ ([]) _ _ _ (([(4), (a0_1), (a0_4), (a0_2)] : List Int)) s1_0 hr1 rfl rfl w1 SlR.nil (hO0.later g1).sl.bare).mono ?_
   rintro e w1' ⟨A1_0, c1_0, rfl, hb1, hO1_0⟩
   refine ⟨((A1_0, s1_0.length, c1_0), ()), rfl, hb1, fun g1' => ?_⟩
   try dsimp only
   have dj_o20_o19 : Dj A1_0 Ax0 := Dj.new hO1_0.fresh (hO0.later g1).lt
   have hO1_0 := hO1_0.call (hF.trans g1).size lt1
   have hF := hF.trans g1'
   have hO0 := hO0.later g1'
   obtain rfl := Option.some.inj h
   intro ρ L w' _ he _ _
   exact ⟨A1_0, c1_0, rfl, (hF.ext he).below, (hO1_0.later he.fine).ret⟩
  ·have h := bif_f h hc18
   refine ok_if (fun hc21 => ?_) (fun hc21 => ?_)
   ·have h := bif_t h hc21
    refine ok_lit (R := R76) (base := w.heap.size) (xs := ([(5), (a0_1), (a0_4)] : List Int)) #[Value.int IntKind.i64 5, Value.int IntKind.i64 a0_1, Value.int IntKind.i64 a0_4] E76 rfl (by decide) (by decide) ⟨_, _, rfl, rfl, by kernel_rfl⟩ rfl hF.size (fun Ax0 cx0 L0 w0 hO0 g0 hbl0 => ?_)
    try dsimp only
    have hF := hF.trans g0
    obtain ⟨s1_0, hr1, h⟩ := Option.bind_eq_some_iff.1 h
    refine ok_callm rfl (fun L1 w1 g1 lt1 => ?_)
    refine (ref04_put.c k _ _ _ ([]) _ _ _ (([(5), (a0_1), (a0_4)] : List Int)) s1_0 hr1 rfl rfl w1 SlR.nil (hO0.later g1).sl.bare).mono ?_
    rintro e w1' ⟨A1_0, c1_0, rfl, hb1, hO1_0⟩
    refine ⟨((A1_0, s1_0.length, c1_0), ()), rfl, hb1, fun g1' => ?_⟩
    try dsimp only
    have dj_o23_o22 : Dj A1_0 Ax0 := Dj.new hO1_0.fresh (hO0.later g1).lt
    have hO1_0 := hO1_0.call (hF.trans g1).size lt1
    have hF := hF.trans g1'
    have hO0 := hO0.later g1'
    obtain rfl := Option.some.inj h
    intro ρ L w' _ he _ _
    exact ⟨A1_0, c1_0, rfl, (hF.ext he).below, (hO1_0.later he.fine).ret⟩
   ·have h := bif_f h hc21
    refine ok_if (fun hc24 => ?_) (fun hc24 => ?_)
    ·have h := bif_t h hc24
     refine ok_if (fun hc25 => ?_) (fun hc25 => ?_)
     ·have h := bif_t h hc25
      refine ok_lit (R := R76) (base := w.heap.size) (xs := ([(15), (a0_1), (a0_2), (((l0_6.length : Nat) : Int))] : List Int)) #[Value.int IntKind.i64 15, Value.int IntKind.i64 a0_1, Value.int IntKind.i64 a0_2, Value.int IntKind.i64 (((l0_6.length : Nat) : Int))] E76 rfl (by decide) (by decide) ⟨_, _, rfl, rfl, by kernel_rfl⟩ rfl hF.size (fun Ax0 cx0 L0 w0 hO0 g0 hbl0 => ?_)
      try dsimp only
      have hF := hF.trans g0
      obtain ⟨s1_0, hr1, h⟩ := Option.bind_eq_some_iff.1 h
      refine ok_callm rfl (fun L1 w1 g1 lt1 => ?_)
      refine (ref04_put.c k _ _ _ ([]) _ _ _ (([(15), (a0_1), (a0_2), (((l0_6.length : Nat) : Int))] : List Int)) s1_0 hr1 rfl rfl w1 SlR.nil (hO0.later g1).sl.bare).mono ?_
      rintro e w1' ⟨A1_0, c1_0, rfl, hb1, hO1_0⟩
      refine ⟨((A1_0, s1_0.length, c1_0), ()), rfl, hb1, fun g1' => ?_⟩
      try dsimp only
      have dj_o27_o26 : Dj A1_0 Ax0 := Dj.new hO1_0.fresh (hO0.later g1).lt
      have hO1_0 := hO1_0.call (hF.trans g1).size lt1
      have hF := hF.trans g1'
      have hO0 := hO0.later g1'
      obtain ⟨hq28, h⟩ := bif_need h
      have hq28 := of_decide_eq_true hq28
      refine ok_app (R := R23) (base := w.heap.size) (xs := s1_0) (ys := l0_6) rfl rfl E23 hO1_0 (hS0_6.later hF) (by decide) hq28 hF.size (fun Ax2 cx2 L2 w2 hO2 g2 hid2 hbl2 => ?_)
      try dsimp only
      have dj_o29_o26 : Dj Ax2 Ax0 := Dj.grow dj_o27_o26 hbl2 hO0.lt
      have hO0 := hO0.other (Dj.symm dj_o27_o26) g2
      have hF := Fine.own hF g2 (fun b hb => Or.inr (Own.base hO1_0 hb)) hid2
      obtain rfl := Option.some.inj h
      intro ρ L w' _ he _ _
      exact ⟨Ax2, cx2, rfl, (hF.ext he).below, (hO2.later he.fine).ret⟩
     ·have h := bif_f h hc25
      refine ok_lit (R := R76) (base := w.heap.size) (xs := ([(14), (a0_1), (a0_2), (((l0_6.length : Nat) : Int))] : List Int)) #[Value.int IntKind.i64 14, Value.int IntKind.i64 a0_1, Value.int IntKind.i64 a0_2, Value.int IntKind.i64 (((l0_6.length : Nat) : Int))] E76 rfl (by decide) (by decide) ⟨_, _, rfl, rfl, by kernel_rfl⟩ rfl hF.size (fun Ax0 cx0 L0 w0 hO0 g0 hbl0 => ?_)
      try dsimp only
      have hF := hF.trans g0
      obtain ⟨s1_0, hr1, h⟩ := Option.bind_eq_some_iff.1 h
      refine ok_callm rfl (fun L1 w1 g1 lt1 => ?_)
      refine (ref04_put.c k _ _ _ ([]) _ _ _ (([(14), (a0_1), (a0_2), (((l0_6.length : Nat) : Int))] : List Int)) s1_0 hr1 rfl rfl w1 SlR.nil (hO0.later g1).sl.bare).mono ?_
      rintro e w1' ⟨A1_0, c1_0, rfl, hb1, hO1_0⟩
      refine ⟨((A1_0, s1_0.length, c1_0), ()), rfl, hb1, fun g1' => ?_⟩
      try dsimp only
      have dj_o31_o30 : Dj A1_0 Ax0 := Dj.new hO1_0.fresh (hO0.later g1).lt
      have hO1_0 := hO1_0.call (hF.trans g1).size lt1
      have hF := hF.trans g1'
      have hO0 := hO0.later g1'
      obtain ⟨hq32, h⟩ := bif_need h
      have hq32 := of_decide_eq_true hq32
      refine ok_app (R := R23) (base := w.heap.size) (xs := s1_0) (ys := l0_6) rfl rfl E23 hO1_0 (hS0_6.later hF) (by decide) hq32 hF.size (fun Ax2 cx2 L2 w2 hO2 g2 hid2 hbl2 => ?_)
      try dsimp only
      have dj_o33_o30 : Dj Ax2 Ax0 := Dj.grow dj_o31_o30 hbl2 hO0.lt
      have hO0 := hO0.other (Dj.symm dj_o31_o30) g2
      have hF := Fine.own hF g2 (fun b hb => Or.inr (Own.base hO1_0 hb)) hid2
      obtain rfl := Option.some.inj h
      intro ρ L w' _ he _ _
      exact ⟨Ax2, cx2, rfl, (hF.ext he).below, (hO2.later he.fine).ret⟩
    ·have h := bif_f h hc24
     refine ok_if (fun hc34 => ?_) (fun hc34 => ?_)
     ·have h := bif_t h hc34
      refine ok_lit (R := R76) (base := w.heap.size) (xs := ([(a0_0), (a0_3)] : List Int)) #[Value.int IntKind.i64 a0_0, Value.int IntKind.i64 a0_3] E76 rfl (by decide) (by decide) ⟨_, _, rfl, rfl, by kernel_rfl⟩ rfl hF.size (fun Ax0 cx0 L0 w0 hO0 g0 hbl0 => ?_)
      try dsimp only
      have hF := hF.trans g0
      obtain ⟨s1_0, hr1, h⟩ := Option.bind_eq_some_iff.1 h
      refine ok_callm rfl (fun L1 w1 g1 lt1 => ?_)
      refine (ref04_put.c k _ _ _ ([]) _ _ _ (([(a0_0), (a0_3)] : List Int)) s1_0 hr1 rfl rfl w1 SlR.nil (hO0.later g1).sl.bare).mono ?_
      rintro e w1' ⟨A1_0, c1_0, rfl, hb1, hO1_0⟩
      refine ⟨((A1_0, s1_0.length, c1_0), ()), rfl, hb1, fun g1' => ?_⟩
      try dsimp only
      have dj_o36_o35 : Dj A1_0 Ax0 := Dj.new hO1_0.fresh (hO0.later g1).lt
      have hO1_0 := hO1_0.call (hF.trans g1).size lt1
      have hF := hF.trans g1'
      have hO0 := hO0.later g1'
      obtain rfl := Option.some.inj h
      intro ρ L w' _ he _ _
      exact ⟨A1_0, c1_0, rfl, (hF.ext he).below, (hO1_0.later he.fine).ret⟩
     ·have h := bif_f h hc34
      refine ok_if (fun hc37 => ?_) (fun hc37 => ?_)
      ·have h := bif_t h hc37
       refine ok_lit (R := R76) (base := w.heap.size) (xs := ([(a0_0), (a0_3)] : List Int)) #[Value.int IntKind.i64 a0_0, Value.int IntKind.i64 a0_3] E76 rfl (by decide) (by decide) ⟨_, _, rfl, rfl, by kernel_rfl⟩ rfl hF.size (fun Ax0 cx0 L0 w0 hO0 g0 hbl0 => ?_)
       try dsimp only
       have hF := hF.trans g0
       obtain ⟨s1_0, hr1, h⟩ := Option.bind_eq_some_iff.1 h
       refine ok_callm rfl (fun L1 w1 g1 lt1 => ?_)
       refine (ref04_put.c k _ _ _ ([]) _ _ _ (([(a0_0), (a0_3)] : List Int)) s1_0 hr1 rfl rfl w1 SlR.nil (hO0.later g1).sl.bare).mono ?_
       rintro e w1' ⟨A1_0, c1_0, rfl, hb1, hO1_0⟩
       refine ⟨((A1_0, s1_0.length, c1_0), ()), rfl, hb1, fun g1' => ?_⟩
       try dsimp only
       have dj_o39_o38 : Dj A1_0 Ax0 := Dj.new hO1_0.fresh (hO0.later g1).lt
       have hO1_0 := hO1_0.call (hF.trans g1).size lt1
       have hF := hF.trans g1'
       have hO0 := hO0.later g1'
       obtain rfl := Option.some.inj h
       intro ρ L w' _ he _ _
       exact ⟨A1_0, c1_0, rfl, (hF.ext he).below, (hO1_0.later he.fine).ret⟩
      ·have h := bif_f h hc37
       refine ok_if (fun hc40 => ?_) (fun hc40 => ?_)
       ·have h := bif_t h hc40
        refine ok_lit (R := R76) (base := w.heap.size) (xs := ([(17), (a0_1), (a0_3)] : List Int)) #[Value.int IntKind.i64 17, Value.int IntKind.i64 a0_1, Value.int IntKind.i64 a0_3] E76 rfl (by decide) (by decide) ⟨_, _, rfl, rfl, by kernel_rfl⟩ rfl hF.size (fun Ax0 cx0 L0 w0 hO0 g0 hbl0 => ?_)
        try dsimp only
        have hF := hF.trans g0
        obtain ⟨s1_0, hr1, h⟩ := Option.bind_eq_some_iff.1 h
        refine ok_callm rfl (fun L1 w1 g1 lt1 => ?_)
        refine (ref04_put.c k _ _ _ ([]) _ _ _ (([(17), (a0_1), (a0_3)] : List Int)) s1_0 hr1 rfl rfl w1 SlR.nil (hO0.later g1).sl.bare).mono ?_
        rintro e w1' ⟨A1_0, c1_0, rfl, hb1, hO1_0⟩
        refine ⟨((A1_0, s1_0.length, c1_0), ()), rfl, hb1, fun g1' => ?_⟩
        try dsimp only
        have dj_o42_o41 : Dj A1_0 Ax0 := Dj.new hO1_0.fresh (hO0.later g1).lt
        have hO1_0 := hO1_0.call (hF.trans g1).size lt1
        have hF := hF.trans g1'
        have hO0 := hO0.later g1'
        obtain rfl := Option.some.inj h
        intro ρ L w' _ he _ _
        exact ⟨A1_0, c1_0, rfl, (hF.ext he).below, (hO1_0.later he.fine).ret⟩
       ·have h := bif_f h hc40
        refine ok_if (fun hc43 => ?_) (fun hc43 => ?_)
        ·have h := bif_t h hc43
         refine ok_lit (R := R76) (base := w.heap.size) (xs := ([(28), (a0_4), (((l0_6.length : Nat) : Int))] : List Int)) #[Value.int IntKind.i64 28, Value.int IntKind.i64 a0_4, Value.int IntKind.i64 (((l0_6.length : Nat) : Int))] E76 rfl (by decide) (by decide) ⟨_, _, rfl, rfl, by kernel_rfl⟩ rfl hF.size (fun Ax0 cx0 L0 w0 hO0 g0 hbl0 => ?_)
         try dsimp only
         have hF := hF.trans g0
         obtain ⟨s1_0, hr1, h⟩ := Option.bind_eq_some_iff.1 h
         refine ok_callm rfl (fun L1 w1 g1 lt1 => ?_)
         refine (ref04_put.c k _ _ _ ([]) _ _ _ (([(28), (a0_4), (((l0_6.length : Nat) : Int))] : List Int)) s1_0 hr1 rfl rfl w1 SlR.nil (hO0.later g1).sl.bare).mono ?_
         rintro e w1' ⟨A1_0, c1_0, rfl, hb1, hO1_0⟩
         refine ⟨((A1_0, s1_0.length, c1_0), ()), rfl, hb1, fun g1' => ?_⟩
         try dsimp only
         have dj_o45_o44 : Dj A1_0 Ax0 := Dj.new hO1_0.fresh (hO0.later g1).lt
         have hO1_0 := hO1_0.call (hF.trans g1).size lt1
         have hF := hF.trans g1'
         have hO0 := hO0.later g1'
         obtain ⟨hq46, h⟩ := bif_need h
         have hq46 := of_decide_eq_true hq46
         refine ok_app (R := R23) (base := w.heap.size) (xs := s1_0) (ys := l0_6) rfl rfl E23 hO1_0 (hS0_6.later hF) (by decide) hq46 hF.size (fun Ax2 cx2 L2 w2 hO2 g2 hid2 hbl2 => ?_)
         try dsimp only
         have dj_o47_o44 : Dj Ax2 Ax0 := Dj.grow dj_o45_o44 hbl2 hO0.lt
         have hO0 := hO0.other (Dj.symm dj_o45_o44) g2
         have hF := Fine.own hF g2 (fun b hb => Or.inr (Own.base hO1_0 hb)) hid2
         obtain rfl := Option.some.inj h
         intro ρ L w' _ he _ _
         exact ⟨Ax2, cx2, rfl, (hF.ext he).below, (hO2.later he.fine).ret⟩
        ·have h := bif_f h hc43
         refine ok_lit (R := R76) (base := w.heap.size) (xs := ([(a0_0)] : List Int)) #[Value.int IntKind.i64 a0_0] E76 rfl (by decide) (by decide) ⟨_, _, rfl, rfl, by kernel_rfl⟩ rfl hF.size (fun Ax0 cx0 L0 w0 hO0 g0 hbl0 => ?_)
         try dsimp only
         have hF := hF.trans g0
         obtain ⟨s1_0, hr1, h⟩ := Option.bind_eq_some_iff.1 h
         refine ok_callm rfl (fun L1 w1 g1 lt1 => ?_)
         refine (ref04_put.c k _ _ _ ([]) _ _ _ (([(a0_0)] : List Int)) s1_0 hr1 rfl rfl w1 SlR.nil (hO0.later g1).sl.bare).mono ?_
         rintro e w1' ⟨A1_0, c1_0, rfl, hb1, hO1_0⟩
         refine ⟨((A1_0, s1_0.length, c1_0), ()), rfl, hb1, fun g1' => ?_⟩
         try dsimp only
         have dj_o49_o48 : Dj A1_0 Ax0 := Dj.new hO1_0.fresh (hO0.later g1).lt
         have hO1_0 := hO1_0.call (hF.trans g1).size lt1
         have hF := hF.trans g1'
         have hO0 := hO0.later g1'
         obtain rfl := Option.some.inj h
         intro ρ L w' _ he _ _
         exact ⟨A1_0, c1_0, rfl, (hF.ext he).below, (hO1_0.later he.fine).ret⟩
def ref04_Encode.s1 (k : Nat) (l0 : List (Int × Int × Int × Int × Int × Bool × (List Int) × (List (Int × Int)))) : ((List Int) × Int) → Option (Sum ((List Int) × Int) (Sum Int ((List Int) × Int))) := fun (s1_0, v1_1) => bif decide (v1_1 < ((l0.length : Nat) : Int)) then ((getI l0 v1_1).bind fun r11 => (ref04_bytes.F k r11.1 r11.2.1 r11.2.2.1 r11.2.2.2.1 r11.2.2.2.2.1 r11.2.2.2.2.2.1 r11.2.2.2.2.2.2.1 r11.2.2.2.2.2.2.2).bind fun s3_0 => bif decide ((s1_0.length + s3_0.length) * 1 ≤ 140737488355328) then (some (.inl (((s1_0 ++ s3_0), IntKind.wrap IntKind.i64 (v1_1 + 1))))) else none) else (bif decide (1200 < ((s1_0.length : Nat) : Int)) then (some (.inr (.inr (([], 6))))) else (some (.inr (.inr ((s1_0, 0))))))
def ref04_Encode.s0 (k : Nat) (l0 : List (Int × Int × Int × Int × Int × Bool × (List Int) × (List (Int × Int)))) : Int → Option (Sum Int ((List Int) × Int)) := fun v0_0 => bif decide (v0_0 < ((l0.length : Nat) : Int)) then ((getI l0 v0_0).bind fun r4 => (ref04_May.F k r4.1 r4.2.1 r4.2.2.1 r4.2.2.2.1 r4.2.2.2.2.1 r4.2.2.2.2.2.1 r4.2.2.2.2.2.2.1 r4.2.2.2.2.2.2.2).bind fun v2_0 => bif v2_0 then (some (.inl (IntKind.wrap IntKind.i64 (v0_0 + 1)))) else (some (.inr (([], 1))))) else (iter (ref04_Encode.s1 k l0) k ([], 0))
def ref04_Encode.F (k : Nat) (l0 : List (Int × Int × Int × Int × Int × Bool × (List Int) × (List (Int × Int)))) : Option ((List Int) × Int) := bif decide (64 < ((l0.length : Nat) : Int)) then (some (([], 6))) else (iter (ref04_Encode.s0 k l0) k 0)
abbrev ref04_Encode.A : Nat → LA := fun r => if r = 5 then ⟨[(5, false, [Lf.i IntKind.i64])], []⟩ else if r = 10 then ⟨[(4, false, [Lf.sl]), (6, false, [Lf.i IntKind.i64])], []⟩ else ⟨[], []⟩
set_option maxHeartbeats 4000000 in
theorem ref04_Encode.t (A0 : Option Addr) (n0 c0 : Nat) : tree Try.prog ref04_Encode.A noC Try.f15 [AV.v (Value.slice A0 n0 c0)] [] =
  bif decide (64 < ((n0 : Nat) : Int)) then (
   .done (AV.tup [AV.v (Value.slice none 0 0), AV.v (Value.int IntKind.i64 6)]) ([]))
  else (
   .loop ([Lf.i IntKind.i64]) ((0, PUnit.unit)) 0 (fun x0 =>
    bif decide (x0.1 < ((n0 : Nat) : Int)) then (
     .need (decide (0 ≤ x0.1) && decide (x0.1 < ((n0 : Nat) : Int)) && Option.isSome A0) (
     .ld (Option.map (fun x => Addr.add x (Int.toNat x0.1 * 8)) A0) ([Lf.i IntKind.i64, Lf.i IntKind.i64, Lf.i IntKind.i64, Lf.i IntKind.i64, Lf.i IntKind.i64, Lf.b, Lf.sl, Lf.sl]) (fun x1 =>
      .call 13 ([AV.agg [AV.v (Value.int IntKind.i64 x1.1), AV.v (Value.int IntKind.i64 x1.2.1), AV.v (Value.int IntKind.i64 x1.2.2.1), AV.v (Value.int IntKind.i64 x1.2.2.2.1), AV.v (Value.int IntKind.i64 x1.2.2.2.2.1), AV.v (Value.bool x1.2.2.2.2.2.1), AV.v (Value.slice x1.2.2.2.2.2.2.1.1 x1.2.2.2.2.2.2.1.2.1 x1.2.2.2.2.2.2.1.2.2), AV.v (Value.slice x1.2.2.2.2.2.2.2.1.1 x1.2.2.2.2.2.2.2.1.2.1 x1.2.2.2.2.2.2.2.1.2.2)]]) ([]) (Sh.one) ([Lf.b]) ([]) (fun x2 =>
       bif x2.1 then (
        .again 0 ([Lf.i IntKind.i64]) ((IntKind.wrap IntKind.i64 (x0.1 + 1), PUnit.unit)))
       else (
        .done (AV.tup [AV.v (Value.slice none 0 0), AV.v (Value.int IntKind.i64 1)]) ([]))))))
    else (
     .loop ([Lf.sl, Lf.i IntKind.i64]) (((none, 0, 0), 0, PUnit.unit)) 0 (fun x1 =>
      bif decide (x1.2.1 < ((n0 : Nat) : Int)) then (
       .need (decide (0 ≤ x1.2.1) && decide (x1.2.1 < ((n0 : Nat) : Int)) && Option.isSome A0) (
       .ld (Option.map (fun x => Addr.add x (Int.toNat x1.2.1 * 8)) A0) ([Lf.i IntKind.i64, Lf.i IntKind.i64, Lf.i IntKind.i64, Lf.i IntKind.i64, Lf.i IntKind.i64, Lf.b, Lf.sl, Lf.sl]) (fun x2 =>
        .call 34 ([AV.agg [AV.v (Value.int IntKind.i64 x2.1), AV.v (Value.int IntKind.i64 x2.2.1), AV.v (Value.int IntKind.i64 x2.2.2.1), AV.v (Value.int IntKind.i64 x2.2.2.2.1), AV.v (Value.int IntKind.i64 x2.2.2.2.2.1), AV.v (Value.bool x2.2.2.2.2.2.1), AV.v (Value.slice x2.2.2.2.2.2.2.1.1 x2.2.2.2.2.2.2.1.2.1 x2.2.2.2.2.2.2.1.2.2), AV.v (Value.slice x2.2.2.2.2.2.2.2.1.1 x2.2.2.2.2.2.2.2.1.2.1 x2.2.2.2.2.2.2.2.1.2.2)]]) ([]) (Sh.one) ([Lf.sl]) ([]) (fun x3 =>
         .sem (Builtin.append_ { toList := [23, 23] } 23 { toList := [Value.slice x1.1.1 x1.1.2.1 x1.1.2.2, Value.slice x3.1.1 x3.1.2.1 x3.1.2.2] }) ([Lf.sl]) (Sh.one) (fun x4 =>
          .again 0 ([Lf.sl, Lf.i IntKind.i64]) (((x4.1.1, x4.1.2.1, x4.1.2.2), IntKind.wrap IntKind.i64 (x1.2.1 + 1), PUnit.unit)))))))
      else (
       bif decide (1200 < ((x1.1.2.1 : Nat) : Int)) then (
        .done (AV.tup [AV.v (Value.slice none 0 0), AV.v (Value.int IntKind.i64 6)]) ([]))
       else (
        .done (AV.tup [AV.v (Value.slice x1.1.1 x1.1.2.1 x1.1.2.2), AV.v (Value.int IntKind.i64 0)]) ([]))))))) := by kernel_rfl
set_option maxHeartbeats 4000000 in
theorem ref04_Encode.c (k : Nat) (A0 : Option Addr) (n0 c0 : Nat) (l0 : List (Int × Int × Int × Int × Int × Bool × (List Int) × (List (Int × Int)))) (r : (List Int) × Int) (h : ref04_Encode.F k l0 = some r) (hn0 : n0 = l0.length) (w : World) (hS0 : SlR R22 (fun _ => False) w A0 c0 l0) : Calls Try.prog 15 (AV.gs id [AV.v (Value.slice A0 n0 c0)]).toArray w fun e w' => ∃ (B0 : Option Addr) (d0 : Nat), e = .returned (((Sh.tup [(false, 1), (false, 1)] : Sh).av (vs [Lf.sl, Lf.i IntKind.i64] ((B0, (r.1).length, d0), r.2, ()))).g id) ∧ Below w.heap.size w w' ∧ OwnF w.heap.size (fun b => b < w.heap.size) w' 5 R23 B0 d0 r.1 := by
 subst hn0
 refine enter0 mixed ref04_Encode.A noC [AV.v (Value.slice A0 l0.length c0)] Try.func15 rfl rfl rfl (fun hF => ?_)
 rw [ref04_Encode.t]
 unfold ref04_Encode.F at h
 try dsimp only at h
 refine ok_if (fun hc1 => ?_) (fun hc1 => ?_)
 ·have h := bif_t h hc1
  obtain rfl := Option.some.inj h
  intro ρ L w' _ he _ _
  exact ⟨none, 0, rfl, (hF.ext he).below, OwnF.ret (OwnF.nil _ (fun _ => False) _ _ _)⟩
 ·have h := bif_f h hc1
  obtain ⟨I0, hI0⟩ : ∃ I : Nat → Tup [Lf.i IntKind.i64] → (Nat → Prop) → World → Prop, I = (fun m_ y L w' => ∃ (v0_0 : Int), y = (v0_0, ()) ∧ iter (ref04_Encode.s0 k l0) m_ v0_0 = some r ∧ Fine (fun _ => False) w L w') := ⟨_, rfl⟩
  refine ok_loop I0 k (by rw [hI0]; exact ⟨_, rfl, h, hF⟩) ?_
  clear h
  intro m_ y L0 w0 hy
  rw [hI0] at hy
  obtain ⟨v0_0, rfl, h, hF⟩ := hy
  obtain ⟨m0, o0, rfl, h, hl0, hr_0⟩ := iter_some h
  unfold ref04_Encode.s0 at h
  try dsimp only at h
  try dsimp only
  refine ok_if (fun hc3 => ?_) (fun hc3 => ?_)
  ·have h := bif_t h hc3
   obtain ⟨r4, hr5, h⟩ := Option.bind_eq_some_iff.1 h
   refine ok_need (getI_need (hS0.later hF) hr5) ?_
   refine ok_get hS0 hF hr5 (by simp) (fun cs hcs => ?_)
   obtain ⟨A1_6, q1_6, c1_6, A1_7, q1_7, c1_7, rfl, hm1_6, hE1_6, hm1_7, hE1_7⟩ := hcs
   subst hm1_6
   subst hm1_7
   refine ⟨(r4.1, r4.2.1, r4.2.2.1, r4.2.2.2.1, r4.2.2.2.2.1, r4.2.2.2.2.2.1, (A1_6, (r4.2.2.2.2.2.2.1).length, c1_6), (A1_7, (r4.2.2.2.2.2.2.2).length, c1_7), ()), rfl, ?_⟩
   try dsimp only
   obtain ⟨v2_0, hr2, h⟩ := Option.bind_eq_some_iff.1 h
   refine ok_callm rfl (fun L2 w2 g2 lt2 => ?_)
   refine (ref04_May.c k r4.1 r4.2.1 r4.2.2.1 r4.2.2.2.1 r4.2.2.2.2.1 r4.2.2.2.2.2.1 _ _ _ r4.2.2.2.2.2.2.1 _ _ _ r4.2.2.2.2.2.2.2 v2_0 hr2 rfl rfl w2 (hE1_6.later (hF.trans g2)).bare (hE1_7.later (hF.trans g2)).bare).mono ?_
   rintro e w2' ⟨rfl, hb2⟩
   refine ⟨(v2_0, ()), rfl, hb2, fun g2' => ?_⟩
   try dsimp only
   have hF := hF.trans g2'
   refine ok_if (fun hc8 => ?_) (fun hc8 => ?_)
   ·have h := bif_t h hc8
    obtain rfl := Option.some.inj h
    have h := hl0 _ rfl
    exact ok_again (I := I0) m0 (Nat.lt_succ_self _) (fun L w' he => by rw [hI0]; exact ⟨_, rfl, h, hF.trans he.fine⟩)
   ·have h := bif_f h hc8
    obtain rfl := Option.some.inj h
    obtain rfl := hr_0 _ rfl
    intro ρ L w' _ he _ _
    exact ⟨none, 0, rfl, (hF.ext he).below, OwnF.ret (OwnF.nil _ (fun _ => False) _ _ _)⟩
  ·have h := bif_f h hc3
   obtain ⟨I1, hI1⟩ : ∃ I : Nat → Tup [Lf.sl, Lf.i IntKind.i64] → (Nat → Prop) → World → Prop, I = (fun m_ y L w' => ∃ (A1_0 : Option Addr) (c1_0 : Nat) (s1_0 : List Int) (v1_1 : Int), y = ((A1_0, s1_0.length, c1_0), v1_1, ()) ∧ iter (ref04_Encode.s1 k l0) m_ (s1_0, v1_1) = some o0 ∧ Fine (fun _ => False) w L w' ∧ OwnF w.heap.size L w' 5 R23 A1_0 c1_0 s1_0) := ⟨_, rfl⟩
   refine ok_loop I1 k (by rw [hI1]; exact ⟨none, 0, [], _, rfl, h, hF, OwnF.nil _ _ _ _ _⟩) ?_
   clear h
   intro m_ y L1 w1 hy
   rw [hI1] at hy
   obtain ⟨A1_0, c1_0, s1_0, v1_1, rfl, h, hF, hO_s1_0⟩ := hy
   obtain ⟨m1, o1, rfl, h, hl1, hr_1⟩ := iter_some h
   unfold ref04_Encode.s1 at h
   try dsimp only at h
   try dsimp only
   refine ok_if (fun hc10 => ?_) (fun hc10 => ?_)
   ·have h := bif_t h hc10
    obtain ⟨r11, hr12, h⟩ := Option.bind_eq_some_iff.1 h
    refine ok_need (getI_need (hS0.later hF) hr12) ?_
    refine ok_get hS0 hF hr12 (by simp) (fun cs hcs => ?_)
    obtain ⟨A2_6, q2_6, c2_6, A2_7, q2_7, c2_7, rfl, hm2_6, hE2_6, hm2_7, hE2_7⟩ := hcs
    subst hm2_6
    subst hm2_7
    refine ⟨(r11.1, r11.2.1, r11.2.2.1, r11.2.2.2.1, r11.2.2.2.2.1, r11.2.2.2.2.2.1, (A2_6, (r11.2.2.2.2.2.2.1).length, c2_6), (A2_7, (r11.2.2.2.2.2.2.2).length, c2_7), ()), rfl, ?_⟩
    try dsimp only
    obtain ⟨s3_0, hr3, h⟩ := Option.bind_eq_some_iff.1 h
    refine ok_callm rfl (fun L3 w3 g3 lt3 => ?_)
    refine (ref04_bytes.c k r11.1 r11.2.1 r11.2.2.1 r11.2.2.2.1 r11.2.2.2.2.1 r11.2.2.2.2.2.1 _ _ _ r11.2.2.2.2.2.2.1 _ _ _ r11.2.2.2.2.2.2.2 s3_0 hr3 rfl rfl w3 (hE2_6.later (hF.trans g3)).bare (hE2_7.later (hF.trans g3)).bare).mono ?_
    rintro e w3' ⟨A3_0, c3_0, rfl, hb3, hO3_0⟩
    refine ⟨((A3_0, s3_0.length, c3_0), ()), rfl, hb3, fun g3' => ?_⟩
    try dsimp only
    have dj_o15_s1_0 : Dj A3_0 A1_0 := Dj.new hO3_0.fresh (hO_s1_0.later g3).lt
    have hO3_0 := hO3_0.call (hF.trans g3).size lt3
    have hF := hF.trans g3'
    have hO_s1_0 := hO_s1_0.later g3'
    obtain ⟨hq16, h⟩ := bif_need h
    have hq16 := of_decide_eq_true hq16
    refine ok_app (R := R23) (base := w.heap.size) (xs := s1_0) (ys := s3_0) rfl rfl E23 hO_s1_0 hO3_0.sl (by decide) hq16 hF.size (fun Ax4 cx4 L4 w4 hO4 g4 hid4 hbl4 => ?_)
    try dsimp only
    have dj_o17_o15 : Dj Ax4 A3_0 := Dj.grow (Dj.symm dj_o15_s1_0) hbl4 hO3_0.lt
    have hO3_0 := hO3_0.other dj_o15_s1_0 g4
    have hF := Fine.own hF g4 (fun b hb => Or.inr (Own.base hO_s1_0 hb)) hid4
    obtain rfl := Option.some.inj h
    have h := hl1 _ rfl
    exact ok_again (I := I1) m1 (Nat.lt_succ_self _) (fun L w' he => by rw [hI1]; exact ⟨Ax4, cx4, (s1_0 ++ s3_0), _, rfl, h, hF.trans he.fine, hO4.later he.fine⟩)
   ·have h := bif_f h hc10
    refine ok_if (fun hc18 => ?_) (fun hc18 => ?_)
    ·have h := bif_t h hc18
     obtain rfl := Option.some.inj h
     obtain rfl := hr_1 _ rfl
     obtain rfl := hr_0 _ rfl
     intro ρ L w' _ he _ _
     exact ⟨none, 0, rfl, (hF.ext he).below, OwnF.ret (OwnF.nil _ (fun _ => False) _ _ _)⟩
    ·have h := bif_f h hc18
     obtain rfl := Option.some.inj h
     obtain rfl := hr_1 _ rfl
     obtain rfl := hr_0 _ rfl
     intro ρ L w' _ he _ _
     exact ⟨A1_0, c1_0, rfl, (hF.ext he).below, (hO_s1_0.later he.fine).ret⟩
def frames_one.F (k : Nat) (a0_0 : Int) (a0_1 : Int) (a0_2 : Int) (a0_3 : Int) (a0_4 : Int) (a0_5 : Bool) (l0_6 : List Int) (l0_7 : List (Int × Int)) : Option ((List Int)) := bif a0_0 == 2 then ((getI l0_7 (IntKind.wrap IntKind.i64 (((l0_7.length : Nat) : Int) - 1))).bind fun r2 => (frames_put.F k (([(2)] : List Int)) (([(IntKind.wrap IntKind.i64 (IntKind.wrap IntKind.i64 (r2.2 + 2) - 2)), (a0_3), (IntKind.wrap IntKind.i64 (((l0_7.length : Nat) : Int) - 1))] : List Int))).bind fun s3_0 => none) else (bif a0_0 == 4 then ((frames_put.F k (([(4)] : List Int)) (([(a0_1), (a0_4), (a0_2)] : List Int))).bind fun s2_0 => some s2_0) else (bif a0_0 == 5 then ((frames_put.F k (([(5)] : List Int)) (([(a0_1), (a0_4)] : List Int))).bind fun s2_0 => some s2_0) else (bif a0_0 == 8 then (bif a0_5 then ((frames_put.F k (([(IntKind.wrap IntKind.u8 ((15 : Nat) : Int))] : List Int)) (([(a0_1), (a0_2), (((l0_6.length : Nat) : Int))] : List Int))).bind fun s2_0 => bif decide ((s2_0.length + l0_6.length) * 1 ≤ 140737488355328) then (some (((s2_0 ++ l0_6)))) else none) else ((frames_put.F k (([(14)] : List Int)) (([(a0_1), (a0_2), (((l0_6.length : Nat) : Int))] : List Int))).bind fun s2_0 => bif decide ((s2_0.length + l0_6.length) * 1 ≤ 140737488355328) then (some (((s2_0 ++ l0_6)))) else none)) else (bif a0_0 == 17 then ((frames_put.F k (([(17)] : List Int)) (([(a0_1), (a0_3)] : List Int))).bind fun s2_0 => some s2_0) else (bif a0_0 == 16 then ((frames_put.F k (([(IntKind.wrap IntKind.u8 a0_0)] : List Int)) (([(a0_3)] : List Int))).bind fun s2_0 => some s2_0) else (bif a0_0 == 18 then ((frames_put.F k (([(IntKind.wrap IntKind.u8 a0_0)] : List Int)) (([(a0_3)] : List Int))).bind fun s2_0 => some s2_0) else (bif a0_0 == 28 then ((frames_put.F k (([(28)] : List Int)) (([(a0_4), (((l0_6.length : Nat) : Int))] : List Int))).bind fun s2_0 => bif decide ((s2_0.length + l0_6.length) * 1 ≤ 140737488355328) then (some (((s2_0 ++ l0_6)))) else none) else (some ((([(IntKind.wrap IntKind.u8 a0_0)] : List Int)))))))))))
abbrev frames_one.A : Nat → LA := noA
set_option maxHeartbeats 4000000 in
theorem frames_one.t (a0_0 : Int) (a0_1 : Int) (a0_2 : Int) (a0_3 : Int) (a0_4 : Int) (a0_5 : Bool) (A0_6 : Option Addr) (n0_6 c0_6 : Nat) (A0_7 : Option Addr) (n0_7 c0_7 : Nat) : tree Try.prog frames_one.A noC Try.f23 [AV.agg [AV.v (Value.int IntKind.i64 a0_0), AV.v (Value.int IntKind.i64 a0_1), AV.v (Value.int IntKind.i64 a0_2), AV.v (Value.int IntKind.i64 a0_3), AV.v (Value.int IntKind.i64 a0_4), AV.v (Value.bool a0_5), AV.v (Value.slice A0_6 n0_6 c0_6), AV.v (Value.slice A0_7 n0_7 c0_7)]] [] =
  bif a0_0 == 2 then (
   .need (decide (0 ≤ IntKind.wrap IntKind.i64 (((n0_7 : Nat) : Int) - 1)) && decide (IntKind.wrap IntKind.i64 (((n0_7 : Nat) : Int) - 1) < ((n0_7 : Nat) : Int)) && Option.isSome A0_7) (
   .need (Option.isSome (Option.map (fun x => Addr.add x (Int.toNat (IntKind.wrap IntKind.i64 (((n0_7 : Nat) : Int) - 1)) * 2)) A0_7)) (
   .ld (Option.map (fun x => Addr.add x 1) (Option.map (fun x => Addr.add x (Int.toNat (IntKind.wrap IntKind.i64 (((n0_7 : Nat) : Int) - 1)) * 2)) A0_7)) ([Lf.i IntKind.i64]) (fun x0 =>
    .sem (Instr.buildSlice 23 1 { toList := [(0, Value.int IntKind.u8 2)] }) ([Lf.sl]) (Sh.one) (fun x1 =>
     .sem (Instr.buildSlice 76 3 { toList := [(0, Value.int IntKind.i64 (IntKind.wrap IntKind.i64 (IntKind.wrap IntKind.i64 (x0.1 + 2) - 2))), (1, Value.int IntKind.i64 a0_3), (2, Value.int IntKind.i64 (IntKind.wrap IntKind.i64 (((n0_7 : Nat) : Int) - 1)))] }) ([Lf.sl]) (Sh.one) (fun x2 =>
      .call 41 ([AV.v (Value.slice x1.1.1 x1.1.2.1 x1.1.2.2), AV.v (Value.slice x2.1.1 x2.1.2.1 x2.1.2.2)]) ([]) (Sh.one) ([Lf.sl]) ([]) (fun x3 =>
       .bad "call: shapes")))))))
  else (
   bif a0_0 == 4 then (
    .sem (Instr.buildSlice 23 1 { toList := [(0, Value.int IntKind.u8 4)] }) ([Lf.sl]) (Sh.one) (fun x0 =>
     .sem (Instr.buildSlice 76 3 { toList := [(0, Value.int IntKind.i64 a0_1), (1, Value.int IntKind.i64 a0_4), (2, Value.int IntKind.i64 a0_2)] }) ([Lf.sl]) (Sh.one) (fun x1 =>
      .call 41 ([AV.v (Value.slice x0.1.1 x0.1.2.1 x0.1.2.2), AV.v (Value.slice x1.1.1 x1.1.2.1 x1.1.2.2)]) ([]) (Sh.one) ([Lf.sl]) ([]) (fun x2 =>
       .done (AV.v (Value.slice x2.1.1 x2.1.2.1 x2.1.2.2)) ([])))))
   else (
    bif a0_0 == 5 then (
     .sem (Instr.buildSlice 23 1 { toList := [(0, Value.int IntKind.u8 5)] }) ([Lf.sl]) (Sh.one) (fun x0 =>
      .sem (Instr.buildSlice 76 2 { toList := [(0, Value.int IntKind.i64 a0_1), (1, Value.int IntKind.i64 a0_4)] }) ([Lf.sl]) (Sh.one) (fun x1 =>
       .call 41 ([AV.v (Value.slice x0.1.1 x0.1.2.1 x0.1.2.2), AV.v (Value.slice x1.1.1 x1.1.2.1 x1.1.2.2)]) ([]) (Sh.one) ([Lf.sl]) ([]) (fun x2 =>
        .done (AV.v (Value.slice x2.1.1 x2.1.2.1 x2.1.2.2)) ([])))))
    else (
     bif a0_0 == 8 then (
      bif a0_5 then (
       .both (
        .sem (Instr.buildSlice 23 1 { toList := [(0, Value.int IntKind.u8 (IntKind.wrap IntKind.u8 ((15 : Nat) : Int)))] }) ([Lf.sl]) (Sh.one) (fun x0 =>
         .sem (Instr.buildSlice 76 3 { toList := [(0, Value.int IntKind.i64 a0_1), (1, Value.int IntKind.i64 a0_2), (2, Value.int IntKind.i64 ((n0_6 : Nat) : Int))] }) ([Lf.sl]) (Sh.one) (fun x1 =>
          .call 41 ([AV.v (Value.slice x0.1.1 x0.1.2.1 x0.1.2.2), AV.v (Value.slice x1.1.1 x1.1.2.1 x1.1.2.2)]) ([]) (Sh.one) ([Lf.sl]) ([]) (fun x2 =>
           .sem (Builtin.append_ { toList := [23, 23] } 23 { toList := [Value.slice x2.1.1 x2.1.2.1 x2.1.2.2, Value.slice A0_6 n0_6 c0_6] }) ([Lf.sl]) (Sh.one) (fun x3 =>
            .done (AV.v (Value.slice x3.1.1 x3.1.2.1 x3.1.2.2)) ([])))))) (
        .sem (Instr.buildSlice 76 3 { toList := [(0, Value.int IntKind.i64 a0_1), (1, Value.int IntKind.i64 a0_2), (2, Value.int IntKind.i64 ((n0_6 : Nat) : Int))] }) ([Lf.sl]) (Sh.one) (fun x0 =>
         .sem (Instr.buildSlice 23 1 { toList := [(0, Value.int IntKind.u8 (IntKind.wrap IntKind.u8 ((15 : Nat) : Int)))] }) ([Lf.sl]) (Sh.one) (fun x1 =>
          .call 41 ([AV.v (Value.slice x1.1.1 x1.1.2.1 x1.1.2.2), AV.v (Value.slice x0.1.1 x0.1.2.1 x0.1.2.2)]) ([]) (Sh.one) ([Lf.sl]) ([]) (fun x2 =>
           .sem (Builtin.append_ { toList := [23, 23] } 23 { toList := [Value.slice x2.1.1 x2.1.2.1 x2.1.2.2, Value.slice A0_6 n0_6 c0_6] }) ([Lf.sl]) (Sh.one) (fun x3 =>
            .done (AV.v (Value.slice x3.1.1 x3.1.2.1 x3.1.2.2)) ([])))))))
      else (
       .both (
        .sem (Instr.buildSlice 23 1 { toList := [(0, Value.int IntKind.u8 14)] }) ([Lf.sl]) (Sh.one) (fun x0 =>
         .sem (Instr.buildSlice 76 3 { toList := [(0, Value.int IntKind.i64 a0_1), (1, Value.int IntKind.i64 a0_2), (2, Value.int IntKind.i64 ((n0_6 : Nat) : Int))] }) ([Lf.sl]) (Sh.one) (fun x1 =>
          .call 41 ([AV.v (Value.slice x0.1.1 x0.1.2.1 x0.1.2.2), AV.v (Value.slice x1.1.1 x1.1.2.1 x1.1.2.2)]) ([]) (Sh.one) ([Lf.sl]) ([]) (fun x2 =>
           .sem (Builtin.append_ { toList := [23, 23] } 23 { toList := [Value.slice x2.1.1 x2.1.2.1 x2.1.2.2, Value.slice A0_6 n0_6 c0_6] }) ([Lf.sl]) (Sh.one) (fun x3 =>
            .done (AV.v (Value.slice x3.1.1 x3.1.2.1 x3.1.2.2)) ([])))))) (
        .sem (Instr.buildSlice 76 3 { toList := [(0, Value.int IntKind.i64 a0_1), (1, Value.int IntKind.i64 a0_2), (2, Value.int IntKind.i64 ((n0_6 : Nat) : Int))] }) ([Lf.sl]) (Sh.one) (fun x0 =>
         .sem (Instr.buildSlice 23 1 { toList := [(0, Value.int IntKind.u8 14)] }) ([Lf.sl]) (Sh.one) (fun x1 =>
          .call 41 ([AV.v (Value.slice x1.1.1 x1.1.2.1 x1.1.2.2), AV.v (Value.slice x0.1.1 x0.1.2.1 x0.1.2.2)]) ([]) (Sh.one) ([Lf.sl]) ([]) (fun x2 =>
           .sem (Builtin.append_ { toList := [23, 23] } 23 { toList := [Value.slice x2.1.1 x2.1.2.1 x2.1.2.2, Value.slice A0_6 n0_6 c0_6] }) ([Lf.sl]) (Sh.one) (fun x3 =>
            .done (AV.v (Value.slice x3.1.1 x3.1.2.1 x3.1.2.2)) ([]))))))))
     else (
      bif a0_0 == 17 then (
       .sem (Instr.buildSlice 23 1 { toList := [(0, Value.int IntKind.u8 17)] }) ([Lf.sl]) (Sh.one) (fun x0 =>
        .sem (Instr.buildSlice 76 2 { toList := [(0, Value.int IntKind.i64 a0_1), (1, Value.int IntKind.i64 a0_3)] }) ([Lf.sl]) (Sh.one) (fun x1 =>
         .call 41 ([AV.v (Value.slice x0.1.1 x0.1.2.1 x0.1.2.2), AV.v (Value.slice x1.1.1 x1.1.2.1 x1.1.2.2)]) ([]) (Sh.one) ([Lf.sl]) ([]) (fun x2 =>
          .done (AV.v (Value.slice x2.1.1 x2.1.2.1 x2.1.2.2)) ([])))))
      else (
       bif a0_0 == 16 then (
        .sem (Instr.buildSlice 23 1 { toList := [(0, Value.int IntKind.u8 (IntKind.wrap IntKind.u8 a0_0))] }) ([Lf.sl]) (Sh.one) (fun x0 =>
         .sem (Instr.buildSlice 76 1 { toList := [(0, Value.int IntKind.i64 a0_3)] }) ([Lf.sl]) (Sh.one) (fun x1 =>
          .call 41 ([AV.v (Value.slice x0.1.1 x0.1.2.1 x0.1.2.2), AV.v (Value.slice x1.1.1 x1.1.2.1 x1.1.2.2)]) ([]) (Sh.one) ([Lf.sl]) ([]) (fun x2 =>
           .done (AV.v (Value.slice x2.1.1 x2.1.2.1 x2.1.2.2)) ([])))))
       else (
        bif a0_0 == 18 then (
         .sem (Instr.buildSlice 23 1 { toList := [(0, Value.int IntKind.u8 (IntKind.wrap IntKind.u8 a0_0))] }) ([Lf.sl]) (Sh.one) (fun x0 =>
          .sem (Instr.buildSlice 76 1 { toList := [(0, Value.int IntKind.i64 a0_3)] }) ([Lf.sl]) (Sh.one) (fun x1 =>
           .call 41 ([AV.v (Value.slice x0.1.1 x0.1.2.1 x0.1.2.2), AV.v (Value.slice x1.1.1 x1.1.2.1 x1.1.2.2)]) ([]) (Sh.one) ([Lf.sl]) ([]) (fun x2 =>
            .done (AV.v (Value.slice x2.1.1 x2.1.2.1 x2.1.2.2)) ([])))))
        else (
         bif a0_0 == 28 then (
          .both (
           .sem (Instr.buildSlice 23 1 { toList := [(0, Value.int IntKind.u8 28)] }) ([Lf.sl]) (Sh.one) (fun x0 =>
            .sem (Instr.buildSlice 76 2 { toList := [(0, Value.int IntKind.i64 a0_4), (1, Value.int IntKind.i64 ((n0_6 : Nat) : Int))] }) ([Lf.sl]) (Sh.one) (fun x1 =>
             .call 41 ([AV.v (Value.slice x0.1.1 x0.1.2.1 x0.1.2.2), AV.v (Value.slice x1.1.1 x1.1.2.1 x1.1.2.2)]) ([]) (Sh.one) ([Lf.sl]) ([]) (fun x2 =>
              .sem (Builtin.append_ { toList := [23, 23] } 23 { toList := [Value.slice x2.1.1 x2.1.2.1 x2.1.2.2, Value.slice A0_6 n0_6 c0_6] }) ([Lf.sl]) (Sh.one) (fun x3 =>
               .done (AV.v (Value.slice x3.1.1 x3.1.2.1 x3.1.2.2)) ([])))))) (
           .sem (Instr.buildSlice 76 2 { toList := [(0, Value.int IntKind.i64 a0_4), (1, Value.int IntKind.i64 ((n0_6 : Nat) : Int))] }) ([Lf.sl]) (Sh.one) (fun x0 =>
            .sem (Instr.buildSlice 23 1 { toList := [(0, Value.int IntKind.u8 28)] }) ([Lf.sl]) (Sh.one) (fun x1 =>
             .call 41 ([AV.v (Value.slice x1.1.1 x1.1.2.1 x1.1.2.2), AV.v (Value.slice x0.1.1 x0.1.2.1 x0.1.2.2)]) ([]) (Sh.one) ([Lf.sl]) ([]) (fun x2 =>
              .sem (Builtin.append_ { toList := [23, 23] } 23 { toList := [Value.slice x2.1.1 x2.1.2.1 x2.1.2.2, Value.slice A0_6 n0_6 c0_6] }) ([Lf.sl]) (Sh.one) (fun x3 =>
               .done (AV.v (Value.slice x3.1.1 x3.1.2.1 x3.1.2.2)) ([])))))))
         else (
          .sem (Instr.buildSlice 23 1 { toList := [(0, Value.int IntKind.u8 (IntKind.wrap IntKind.u8 a0_0))] }) ([Lf.sl]) (Sh.one) (fun x0 =>
           .done (AV.v (Value.slice x0.1.1 x0.1.2.1 x0.1.2.2)) ([])))))))))) := by kernel_rfl
set_option maxHeartbeats 4000000 in
theorem frames_one.c (k : Nat) (a0_0 : Int) (a0_1 : Int) (a0_2 : Int) (a0_3 : Int) (a0_4 : Int) (a0_5 : Bool) (A0_6 : Option Addr) (n0_6 c0_6 : Nat) (l0_6 : List Int) (A0_7 : Option Addr) (n0_7 c0_7 : Nat) (l0_7 : List (Int × Int)) (r : (List Int)) (h : frames_one.F k a0_0 a0_1 a0_2 a0_3 a0_4 a0_5 l0_6 l0_7 = some r) (hn0_6 : n0_6 = l0_6.length) (hn0_7 : n0_7 = l0_7.length) (w : World) (hS0_6 : SlR R23.row (fun _ => False) w A0_6 c0_6 l0_6) (hS0_7 : SlR R34.row (fun _ => False) w A0_7 c0_7 l0_7) : Calls Try.prog 23 (AV.gs id [AV.agg [AV.v (Value.int IntKind.i64 a0_0), AV.v (Value.int IntKind.i64 a0_1), AV.v (Value.int IntKind.i64 a0_2), AV.v (Value.int IntKind.i64 a0_3), AV.v (Value.int IntKind.i64 a0_4), AV.v (Value.bool a0_5), AV.v (Value.slice A0_6 n0_6 c0_6), AV.v (Value.slice A0_7 n0_7 c0_7)]]).toArray w fun e w' => ∃ (B0 : Option Addr) (d0 : Nat), e = .returned (((Sh.one : Sh).av (vs [Lf.sl] ((B0, (r).length, d0), ()))).g id) ∧ Below w.heap.size w w' ∧ OwnF w.heap.size (fun b => b < w.heap.size) w' 5 R23 B0 d0 r := by
 subst hn0_6
 subst hn0_7
 refine enter0 mixed frames_one.A noC [AV.agg [AV.v (Value.int IntKind.i64 a0_0), AV.v (Value.int IntKind.i64 a0_1), AV.v (Value.int IntKind.i64 a0_2), AV.v (Value.int IntKind.i64 a0_3), AV.v (Value.int IntKind.i64 a0_4), AV.v (Value.bool a0_5), AV.v (Value.slice A0_6 l0_6.length c0_6), AV.v (Value.slice A0_7 l0_7.length c0_7)]] Try.func23 rfl rfl rfl (fun hF => ?_)
 rw [frames_one.t]
 unfold frames_one.F at h
 try dsimp only at h
 refine ok_if (fun hc1 => ?_) (fun hc1 => ?_)
 ·have h := bif_t h hc1
  obtain ⟨r2, hr3, h⟩ := Option.bind_eq_some_iff.1 h
  refine ok_need (getI_need (hS0_7.later hF) hr3) ?_
  refine ok_need (getI_need2 (hS0_7.later hF) hr3) ?_
  refine ok_getf 1 hS0_7 hF hr3 (fun cs hcs => ⟨r2.2, by rw [hcs]; rfl, ?_⟩)
  try dsimp only
  refine ok_lit (R := R23) (base := w.heap.size) (xs := ([(2)] : List Int)) #[Value.int IntKind.u8 2] E23 rfl (by decide) (by decide) ⟨_, _, rfl, rfl, by kernel_rfl⟩ rfl hF.size (fun Ax1 cx1 L1 w1 hO1 g1 hbl1 => ?_)
  try dsimp only
  have hF := hF.trans g1
  refine ok_lit (R := R76) (base := w.heap.size) (xs := ([(IntKind.wrap IntKind.i64 (IntKind.wrap IntKind.i64 (r2.2 + 2) - 2)), (a0_3), (IntKind.wrap IntKind.i64 (((l0_7.length : Nat) : Int) - 1))] : List Int)) #[Value.int IntKind.i64 (IntKind.wrap IntKind.i64 (IntKind.wrap IntKind.i64 (r2.2 + 2) - 2)), Value.int IntKind.i64 a0_3, Value.int IntKind.i64 (IntKind.wrap IntKind.i64 (((l0_7.length : Nat) : Int) - 1))] E76 rfl (by decide) (by decide) ⟨_, _, rfl, rfl, by kernel_rfl⟩ rfl hF.size (fun Ax2 cx2 L2 w2 hO2 g2 hbl2 => ?_)
  try dsimp only
  have dj_o5_o4 : Dj Ax2 Ax1 := Dj.new hbl2 hO1.lt
  have hF := hF.trans g2
  have hO1 := hO1.later g2
  obtain ⟨s3_0, hr3, h⟩ := Option.bind_eq_some_iff.1 h
  refine ok_callm rfl (fun L3 w3 g3 lt3 => ?_)
  refine (frames_put.c k _ _ _ (([(2)] : List Int)) _ _ _ (([(IntKind.wrap IntKind.i64 (IntKind.wrap IntKind.i64 (r2.2 + 2) - 2)), (a0_3), (IntKind.wrap IntKind.i64 (((l0_7.length : Nat) : Int) - 1))] : List Int)) s3_0 hr3 rfl rfl w3 (hO1.later g3).sl.bare (hO2.later g3).sl.bare).mono ?_
  rintro e w3' ⟨A3_0, c3_0, rfl, hb3, hO3_0⟩
  refine ⟨((A3_0, s3_0.length, c3_0), ()), rfl, hb3, fun g3' => ?_⟩
  try dsimp only
  have dj_o6_o4 : Dj A3_0 Ax1 := Dj.new hO3_0.fresh (hO1.later g3).lt
  have dj_o6_o5 : Dj A3_0 Ax2 := Dj.new hO3_0.fresh (hO2.later g3).lt
  have hO3_0 := hO3_0.call (hF.trans g3).size lt3
  have hF := hF.trans g3'
  have hO1 := hO1.later g3'
  have hO2 := hO2.later g3'
  cases h
 ·have h := bif_f h hc1
  refine ok_if (fun hc7 => ?_) (fun hc7 => ?_)
  ·have h := bif_t h hc7
   refine ok_lit (R := R23) (base := w.heap.size) (xs := ([(4)] : List Int)) #[Value.int IntKind.u8 4] E23 rfl (by decide) (by decide) ⟨_, _, rfl, rfl, by kernel_rfl⟩ rfl hF.size (fun Ax0 cx0 L0 w0 hO0 g0 hbl0 => ?_)
   try dsimp only
   have hF := hF.trans g0
   refine ok_lit (R := R76) (base := w.heap.size) (xs := ([(a0_1), (a0_4), (a0_2)] : List Int)) #[Value.int IntKind.i64 a0_1, Value.int IntKind.i64 a0_4, Value.int IntKind.i64 a0_2] E76 rfl (by decide) (by decide) ⟨_, _, rfl, rfl, by kernel_rfl⟩ rfl hF.size (fun Ax1 cx1 L1 w1 hO1 g1 hbl1 => ?_)
   try dsimp only
   have dj_o9_o8 : Dj Ax1 Ax0 := Dj.new hbl1 hO0.lt
   have hF := hF.trans g1
   have hO0 := hO0.later g1
   obtain ⟨s2_0, hr2, h⟩ := Option.bind_eq_some_iff.1 h
   refine ok_callm rfl (fun L2 w2 g2 lt2 => ?_)
   refine (frames_put.c k _ _ _ (([(4)] : List Int)) _ _ _ (([(a0_1), (a0_4), (a0_2)] : List Int)) s2_0 hr2 rfl rfl w2 (hO0.later g2).sl.bare (hO1.later g2).sl.bare).mono ?_
   rintro e w2' ⟨A2_0, c2_0, rfl, hb2, hO2_0⟩
   refine ⟨((A2_0, s2_0.length, c2_0), ()), rfl, hb2, fun g2' => ?_⟩
   try dsimp only
   have dj_o10_o8 : Dj A2_0 Ax0 := Dj.new hO2_0.fresh (hO0.later g2).lt
   have dj_o10_o9 : Dj A2_0 Ax1 := Dj.new hO2_0.fresh (hO1.later g2).lt
   have hO2_0 := hO2_0.call (hF.trans g2).size lt2
   have hF := hF.trans g2'
   have hO0 := hO0.later g2'
   have hO1 := hO1.later g2'
   obtain rfl := Option.some.inj h
   intro ρ L w' _ he _ _
   exact ⟨A2_0, c2_0, rfl, (hF.ext he).below, (hO2_0.later he.fine).ret⟩
  ·have h := bif_f h hc7
   refine ok_if (fun hc11 => ?_) (fun hc11 => ?_)
   ·have h := bif_t h hc11
    refine ok_lit (R := R23) (base := w.heap.size) (xs := ([(5)] : List Int)) #[Value.int IntKind.u8 5] E23 rfl (by decide) (by decide) ⟨_, _, rfl, rfl, by kernel_rfl⟩ rfl hF.size (fun Ax0 cx0 L0 w0 hO0 g0 hbl0 => ?_)
    try dsimp only
    have hF := hF.trans g0
    refine ok_lit (R := R76) (base := w.heap.size) (xs := ([(a0_1), (a0_4)] : List Int)) #[Value.int IntKind.i64 a0_1, Value.int IntKind.i64 a0_4] E76 rfl (by decide) (by decide) ⟨_, _, rfl, rfl, by kernel_rfl⟩ rfl hF.size (fun Ax1 cx1 L1 w1 hO1 g1 hbl1 => ?_)
    try dsimp only
    have dj_o13_o12 : Dj Ax1 Ax0 := Dj.new hbl1 hO0.lt
    have hF := hF.trans g1
    have hO0 := hO0.later g1
    obtain ⟨s2_0, hr2, h⟩ := Option.bind_eq_some_iff.1 h
    refine ok_callm rfl (fun L2 w2 g2 lt2 => ?_)
    refine (frames_put.c k _ _ _ (([(5)] : List Int)) _ _ _ (([(a0_1), (a0_4)] : List Int)) s2_0 hr2 rfl rfl w2 (hO0.later g2).sl.bare (hO1.later g2).sl.bare).mono ?_
    rintro e w2' ⟨A2_0, c2_0, rfl, hb2, hO2_0⟩
    refine ⟨((A2_0, s2_0.length, c2_0), ()), rfl, hb2, fun g2' => ?_⟩
    try dsimp only
    have dj_o14_o12 : Dj A2_0 Ax0 := Dj.new hO2_0.fresh (hO0.later g2).lt
    have dj_o14_o13 : Dj A2_0 Ax1 := Dj.new hO2_0.fresh (hO1.later g2).lt
    have hO2_0 := hO2_0.call (hF.trans g2).size lt2
    have hF := hF.trans g2'
    have hO0 := hO0.later g2'
    have hO1 := hO1.later g2'
    obtain rfl := Option.some.inj h
    intro ρ L w' _ he _ _
    exact ⟨A2_0, c2_0, rfl, (hF.ext he).below, (hO2_0.later he.fine).ret⟩
   ·have h := bif_f h hc11
    refine ok_if (fun hc15 => ?_) (fun hc15 => ?_)
    ·have h := bif_t h hc15
     refine ok_if (fun hc16 => ?_) (fun hc16 => ?_)
     ·have h := bif_t h hc16
      refine ⟨?_, ?_⟩
      ·refine ok_lit (R := R23) (base := w.heap.size) (xs := ([(IntKind.wrap IntKind.u8 ((15 : Nat) : Int))] : List Int)) #[Value.int IntKind.u8 (IntKind.wrap IntKind.u8 ((15 : Nat) : Int))] E23 rfl (by decide) (by decide) ⟨_, _, rfl, rfl, by kernel_rfl⟩ rfl hF.size (fun Ax0 cx0 L0 w0 hO0 g0 hbl0 => ?_)
       try dsimp only
       have hF := hF.trans g0
       refine ok_lit (R := R76) (base := w.heap.size) (xs := ([(a0_1), (a0_2), (((l0_6.length : Nat) : Int))] : List Int)) #[Value.int IntKind.i64 a0_1, Value.int IntKind.i64 a0_2, Value.int IntKind.i64 (((l0_6.length : Nat) : Int))] E76 rfl (by decide) (by decide) ⟨_, _, rfl, rfl, by kernel_rfl⟩ rfl hF.size (fun Ax1 cx1 L1 w1 hO1 g1 hbl1 => ?_)
       try dsimp only
       have dj_o18_o17 : Dj Ax1 Ax0 := Dj.new hbl1 hO0.lt
       have hF := hF.trans g1
       have hO0 := hO0.later g1
       obtain ⟨s2_0, hr2, h⟩ := Option.bind_eq_some_iff.1 h
       refine ok_callm rfl (fun L2 w2 g2 lt2 => ?_)
       refine (frames_put.c k _ _ _ (([(IntKind.wrap IntKind.u8 ((15 : Nat) : Int))] : List Int)) _ _ _ (([(a0_1), (a0_2), (((l0_6.length : Nat) : Int))] : List Int)) s2_0 hr2 rfl rfl w2 (hO0.later g2).sl.bare (hO1.later g2).sl.bare).mono ?_
       rintro e w2' ⟨A2_0, c2_0, rfl, hb2, hO2_0⟩
       refine ⟨((A2_0, s2_0.length, c2_0), ()), rfl, hb2, fun g2' => ?_⟩
       try dsimp only
       have dj_o19_o17 : Dj A2_0 Ax0 := Dj.new hO2_0.fresh (hO0.later g2).lt
       have dj_o19_o18 : Dj A2_0 Ax1 := Dj.new hO2_0.fresh (hO1.later g2).lt
       have hO2_0 := hO2_0.call (hF.trans g2).size lt2
       have hF := hF.trans g2'
       have hO0 := hO0.later g2'
       have hO1 := hO1.later g2'
       obtain ⟨hq20, h⟩ := bif_need h
       have hq20 := of_decide_eq_true hq20
       refine ok_app (R := R23) (base := w.heap.size) (xs := s2_0) (ys := l0_6) rfl rfl E23 hO2_0 (hS0_6.later hF) (by decide) hq20 hF.size (fun Ax3 cx3 L3 w3 hO3 g3 hid3 hbl3 => ?_)
       try dsimp only
       have dj_o21_o17 : Dj Ax3 Ax0 := Dj.grow dj_o19_o17 hbl3 hO0.lt
       have dj_o21_o18 : Dj Ax3 Ax1 := Dj.grow dj_o19_o18 hbl3 hO1.lt
       have hO0 := hO0.other (Dj.symm dj_o19_o17) g3
       have hO1 := hO1.other (Dj.symm dj_o19_o18) g3
       have hF := Fine.own hF g3 (fun b hb => Or.inr (Own.base hO2_0 hb)) hid3
       obtain rfl := Option.some.inj h
       intro ρ L w' _ he _ _
       exact ⟨Ax3, cx3, rfl, (hF.ext he).below, (hO3.later he.fine).ret⟩
      ·refine ok_lit (R := R76) (base := w.heap.size) (xs := ([(a0_1), (a0_2), (((l0_6.length : Nat) : Int))] : List Int)) #[Value.int IntKind.i64 a0_1, Value.int IntKind.i64 a0_2, Value.int IntKind.i64 (((l0_6.length : Nat) : Int))] E76 rfl (by decide) (by decide) ⟨_, _, rfl, rfl, by kernel_rfl⟩ rfl hF.size (fun Ax0 cx0 L0 w0 hO0 g0 hbl0 => ?_)
       try dsimp only
       have hF := hF.trans g0
       refine ok_lit (R := R23) (base := w.heap.size) (xs := ([(IntKind.wrap IntKind.u8 ((15 : Nat) : Int))] : List Int)) #[Value.int IntKind.u8 (IntKind.wrap IntKind.u8 ((15 : Nat) : Int))] E23 rfl (by decide) (by decide) ⟨_, _, rfl, rfl, by kernel_rfl⟩ rfl hF.size (fun Ax1 cx1 L1 w1 hO1 g1 hbl1 => ?_)
       try dsimp only
       have dj_o23_o22 : Dj Ax1 Ax0 := Dj.new hbl1 hO0.lt
       have hF := hF.trans g1
       have hO0 := hO0.later g1
       obtain ⟨s2_0, hr2, h⟩ := Option.bind_eq_some_iff.1 h
       refine ok_callm rfl (fun L2 w2 g2 lt2 => ?_)
       refine (frames_put.c k _ _ _ (([(IntKind.wrap IntKind.u8 ((15 : Nat) : Int))] : List Int)) _ _ _ (([(a0_1), (a0_2), (((l0_6.length : Nat) : Int))] : List Int)) s2_0 hr2 rfl rfl w2 (hO1.later g2).sl.bare (hO0.later g2).sl.bare).mono ?_
       rintro e w2' ⟨A2_0, c2_0, rfl, hb2, hO2_0⟩
       refine ⟨((A2_0, s2_0.length, c2_0), ()), rfl, hb2, fun g2' => ?_⟩
       try dsimp only
       have dj_o24_o22 : Dj A2_0 Ax0 := Dj.new hO2_0.fresh (hO0.later g2).lt
       have dj_o24_o23 : Dj A2_0 Ax1 := Dj.new hO2_0.fresh (hO1.later g2).lt
       have hO2_0 := hO2_0.call (hF.trans g2).size lt2
       have hF := hF.trans g2'
       have hO0 := hO0.later g2'
       have hO1 := hO1.later g2'
       obtain ⟨hq25, h⟩ := bif_need h
       have hq25 := of_decide_eq_true hq25
       refine ok_app (R := R23) (base := w.heap.size) (xs := s2_0) (ys := l0_6) rfl rfl E23 hO2_0 (hS0_6.later hF) (by decide) hq25 hF.size (fun Ax3 cx3 L3 w3 hO3 g3 hid3 hbl3 => ?_)
       try dsimp only
       have dj_o26_o22 : Dj Ax3 Ax0 := Dj.grow dj_o24_o22 hbl3 hO0.lt
       have dj_o26_o23 : Dj Ax3 Ax1 := Dj.grow dj_o24_o23 hbl3 hO1.lt
       have hO0 := hO0.other (Dj.symm dj_o24_o22) g3
       have hO1 := hO1.other (Dj.symm dj_o24_o23) g3
       have hF := Fine.own hF g3 (fun b hb => Or.inr (Own.base hO2_0 hb)) hid3
       obtain rfl := Option.some.inj h
       intro ρ L w' _ he _ _
       exact ⟨Ax3, cx3, rfl, (hF.ext he).below, (hO3.later he.fine).ret⟩
     ·have h := bif_f h hc16
      refine ⟨?_, ?_⟩
      ·refine ok_lit (R := R23) (base := w.heap.size) (xs := ([(14)] : List Int)) #[Value.int IntKind.u8 14] E23 rfl (by decide) (by decide) ⟨_, _, rfl, rfl, by kernel_rfl⟩ rfl hF.size (fun Ax0 cx0 L0 w0 hO0 g0 hbl0 => ?_)
       try dsimp only
       have hF := hF.trans g0
       refine ok_lit (R := R76) (base := w.heap.size) (xs := ([(a0_1), (a0_2), (((l0_6.length : Nat) : Int))] : List Int)) #[Value.int IntKind.i64 a0_1, Value.int IntKind.i64 a0_2, Value.int IntKind.i64 (((l0_6.length : Nat) : Int))] E76 rfl (by decide) (by decide) ⟨_, _, rfl, rfl, by kernel_rfl⟩ rfl hF.size (fun Ax1 cx1 L1 w1 hO1 g1 hbl1 => ?_)
       try dsimp only
       have dj_o28_o27 : Dj Ax1 Ax0 := Dj.new hbl1 hO0.lt
       have hF := hF.trans g1
       have hO0 := hO0.later g1
       obtain ⟨s2_0, hr2, h⟩ := Option.bind_eq_some_iff.1 h
       refine ok_callm rfl (fun L2 w2 g2 lt2 => ?_)
       refine (frames_put.c k _ _ _ (([(14)] : List Int)) _ _ _ (([(a0_1), (a0_2), (((l0_6.length : Nat) : Int))] : List Int)) s2_0 hr2 rfl rfl w2 (hO0.later g2).sl.bare (hO1.later g2).sl.bare).mono ?_
       rintro e w2' ⟨A2_0, c2_0, rfl, hb2, hO2_0⟩
       refine ⟨((A2_0, s2_0.length, c2_0), ()), rfl, hb2, fun g2' => ?_⟩
       try dsimp only
       have dj_o29_o27 : Dj A2_0 Ax0 := Dj.new hO2_0.fresh (hO0.later g2).lt
       have dj_o29_o28 : Dj A2_0 Ax1 := Dj.new hO2_0.fresh (hO1.later g2).lt
       have hO2_0 := hO2_0.call (hF.trans g2).size lt2
       have hF := hF.trans g2'
       have hO0 := hO0.later g2'
       have hO1 := hO1.later g2'
       obtain ⟨hq30, h⟩ := bif_need h
       have hq30 := of_decide_eq_true hq30
       refine ok_app (R := R23) (base := w.heap.size) (xs := s2_0) (ys := l0_6) rfl rfl E23 hO2_0 (hS0_6.later hF) (by decide) hq30 hF.size (fun Ax3 cx3 L3 w3 hO3 g3 hid3 hbl3 => ?_)
       try dsimp only
       have dj_o31_o27 : Dj Ax3 Ax0 := Dj.grow dj_o29_o27 hbl3 hO0.lt
       have dj_o31_o28 : Dj Ax3 Ax1 := Dj.grow dj_o29_o28 hbl3 hO1.lt
       have hO0 := hO0.other (Dj.symm dj_o29_o27) g3
       have hO1 := hO1.other (Dj.symm dj_o29_o28) g3
       have hF := Fine.own hF g3 (fun b hb => Or.inr (Own.base hO2_0 hb)) hid3
       obtain rfl := Option.some.inj h
       intro ρ L w' _ he _ _
       exact ⟨Ax3, cx3, rfl, (hF.ext he).below, (hO3.later he.fine).ret⟩
      ·refine ok_lit (R := R76) (base := w.heap.size) (xs := ([(a0_1), (a0_2), (((l0_6.length : Nat) : Int))] : List Int)) #[Value.int IntKind.i64 a0_1, Value.int IntKind.i64 a0_2, Value.int IntKind.i64 (((l0_6.length : Nat) : Int))] E76 rfl (by decide) (by decide) ⟨_, _, rfl, rfl, by kernel_rfl⟩ rfl hF.size (fun Ax0 cx0 L0 w0 hO0 g0 hbl0 => ?_)
       try dsimp only
       have hF := hF.trans g0
       refine ok_lit (R := R23) (base := w.heap.size) (xs := ([(14)] : List Int)) #[Value.int IntKind.u8 14] E23 rfl (by decide) (by decide) ⟨_, _, rfl, rfl, by kernel_rfl⟩ rfl hF.size (fun Ax1 cx1 L1 w1 hO1 g1 hbl1 => ?_)
       try dsimp only
       have dj_o33_o32 : Dj Ax1 Ax0 := Dj.new hbl1 hO0.lt
       have hF := hF.trans g1
       have hO0 := hO0.later g1
       obtain ⟨s2_0, hr2, h⟩ := Option.bind_eq_some_iff.1 h
       refine ok_callm rfl (fun L2 w2 g2 lt2 => ?_)
       refine (frames_put.c k _ _ _ (([(14)] : List Int)) _ _ _ (([(a0_1), (a0_2), (((l0_6.length : Nat) : Int))] : List Int)) s2_0 hr2 rfl rfl w2 (hO1.later g2).sl.bare (hO0.later g2).sl.bare).mono ?_
       rintro e w2' ⟨A2_0, c2_0, rfl, hb2, hO2_0⟩
       refine ⟨((A2_0, s2_0.length, c2_0), ()), rfl, hb2, fun g2' => ?_⟩
       try dsimp only
       have dj_o34_o32 : Dj A2_0 Ax0 := Dj.new hO2_0.fresh (hO0.later g2).lt
       have dj_o34_o33 : Dj A2_0 Ax1 := Dj.new hO2_0.fresh (hO1.later g2).lt
       have hO2_0 := hO2_0.call (hF.trans g2).size lt2
       have hF := hF.trans g2'
       have hO0 := hO0.later g2'
       have hO1 := hO1.later g2'
       obtain ⟨hq35, h⟩ := bif_need h
       have hq35 := of_decide_eq_true hq35
       refine ok_app (R := R23) (base := w.heap.size) (xs := s2_0) (ys := l0_6) rfl rfl E23 hO2_0 (hS0_6.later hF) (by decide) hq35 hF.size (fun Ax3 cx3 L3 w3 hO3 g3 hid3 hbl3 => ?_)
       try dsimp only
       have dj_o36_o32 : Dj Ax3 Ax0 := Dj.grow dj_o34_o32 hbl3 hO0.lt
       have dj_o36_o33 : Dj Ax3 Ax1 := Dj.grow dj_o34_o33 hbl3 hO1.lt
       have hO0 := hO0.other (Dj.symm dj_o34_o32) g3
       have hO1 := hO1.other (Dj.symm dj_o34_o33) g3
       have hF := Fine.own hF g3 (fun b hb => Or.inr (Own.base hO2_0 hb)) hid3
       obtain rfl := Option.some.inj h
       intro ρ L w' _ he _ _
       exact ⟨Ax3, cx3, rfl, (hF.ext he).below, (hO3.later he.fine).ret⟩
    ·have h := bif_f h hc15
     refine ok_if (fun hc37 => ?_) (fun hc37 => ?_)
     ·have h := bif_t h hc37
      refine ok_lit (R := R23) (base := w.heap.size) (xs := ([(17)] : List Int)) #[Value.int IntKind.u8 17] E23 rfl (by decide) (by decide) ⟨_, _, rfl, rfl, by kernel_rfl⟩ rfl hF.size (fun Ax0 cx0 L0 w0 hO0 g0 hbl0 => ?_)
      try dsimp only
      have hF := hF.trans g0
      refine ok_lit (R := R76) (base := w.heap.size) (xs := ([(a0_1), (a0_3)] : List Int)) #[Value.int IntKind.i64 a0_1, Value.int IntKind.i64 a0_3] E76 rfl (by decide) (by decide) ⟨_, _, rfl, rfl, by kernel_rfl⟩ rfl hF.size (fun Ax1 cx1 L1 w1 hO1 g1 hbl1 => ?_)
      try dsimp only
      have dj_o39_o38 : Dj Ax1 Ax0 := Dj.new hbl1 hO0.lt
      have hF := hF.trans g1
      have hO0 := hO0.later g1
      obtain ⟨s2_0, hr2, h⟩ := Option.bind_eq_some_iff.1 h
      refine ok_callm rfl (fun L2 w2 g2 lt2 => ?_)
      refine (frames_put.c k _ _ _ (([(17)] : List Int)) _ _ _ (([(a0_1), (a0_3)] : List Int)) s2_0 hr2 rfl rfl w2 (hO0.later g2).sl.bare (hO1.later g2).sl.bare).mono ?_
      rintro e w2' ⟨A2_0, c2_0, rfl, hb2, hO2_0⟩
      refine ⟨((A2_0, s2_0.length, c2_0), ()), rfl, hb2, fun g2' => ?_⟩
      try dsimp only
      have dj_o40_o38 : Dj A2_0 Ax0 := Dj.new hO2_0.fresh (hO0.later g2).lt
      have dj_o40_o39 : Dj A2_0 Ax1 := Dj.new hO2_0.fresh (hO1.later g2).lt
      have hO2_0 := hO2_0.call (hF.trans g2).size lt2
      have hF := hF.trans g2'
      have hO0 := hO0.later g2'
      have hO1 := hO1.later g2'
      obtain rfl := Option.some.inj h
      intro ρ L w' _ he _ _
      exact ⟨A2_0, c2_0, rfl, (hF.ext he).below, (hO2_0.later he.fine).ret⟩
     ·have h := bif_f h hc37
      refine ok_if (fun hc41 => ?_) (fun hc41 => ?_)
      ·have h := bif_t h hc41
       refine ok_lit (R := R23) (base := w.heap.size) (xs := ([(IntKind.wrap IntKind.u8 a0_0)] : List Int)) #[Value.int IntKind.u8 (IntKind.wrap IntKind.u8 a0_0)] E23 rfl (by decide) (by decide) ⟨_, _, rfl, rfl, by kernel_rfl⟩ rfl hF.size (fun Ax0 cx0 L0 w0 hO0 g0 hbl0 => ?_)
       try dsimp only
       have hF := hF.trans g0
       refine ok_lit (R := R76) (base := w.heap.size) (xs := ([(a0_3)] : List Int)) #[Value.int IntKind.i64 a0_3] E76 rfl (by decide) (by decide) ⟨_, _, rfl, rfl, by kernel_rfl⟩ rfl hF.size (fun Ax1 cx1 L1 w1 hO1 g1 hbl1 => ?_)
       try dsimp only
       have dj_o43_o42 : Dj Ax1 Ax0 := Dj.new hbl1 hO0.lt
       have hF := hF.trans g1
       have hO0 := hO0.later g1
       obtain ⟨s2_0, hr2, h⟩ := Option.bind_eq_some_iff.1 h
       refine ok_callm rfl (fun L2 w2 g2 lt2 => ?_)
       refine (frames_put.c k _ _ _ (([(IntKind.wrap IntKind.u8 a0_0)] : List Int)) _ _ _ (([(a0_3)] : List Int)) s2_0 hr2 rfl rfl w2 (hO0.later g2).sl.bare (hO1.later g2).sl.bare).mono ?_
       rintro e w2' ⟨A2_0, c2_0, rfl, hb2, hO2_0⟩
       refine ⟨((A2_0, s2_0.length, c2_0), ()), rfl, hb2, fun g2' => ?_⟩
       try dsimp only
       have dj_o44_o42 : Dj A2_0 Ax0 := Dj.new hO2_0.fresh (hO0.later g2).lt
       have dj_o44_o43 : Dj A2_0 Ax1 := Dj.new hO2_0.fresh (hO1.later g2).lt
       have hO2_0 := hO2_0.call (hF.trans g2).size lt2
       have hF := hF.trans g2'
       have hO0 := hO0.later g2'
       have hO1 := hO1.later g2'
       obtain rfl := Option.some.inj h
       intro ρ L w' _ he _ _
       exact ⟨A2_0, c2_0, rfl, (hF.ext he).below, (hO2_0.later he.fine).ret⟩
      ·have h := bif_f h hc41
       refine ok_if (fun hc45 => ?_) (fun hc45 => ?_)
       ·have h := bif_t h hc45
        refine ok_lit (R := R23) (base := w.heap.size) (xs := ([(IntKind.wrap IntKind.u8 a0_0)] : List Int)) #[Value.int IntKind.u8 (IntKind.wrap IntKind.u8 a0_0)] E23 rfl (by decide) (by decide) ⟨_, _, rfl, rfl, by kernel_rfl⟩ rfl hF.size (fun Ax0 cx0 L0 w0 hO0 g0 hbl0 => ?_)
        try dsimp only
        have hF := hF.trans g0
        refine ok_lit (R := R76) (base := w.heap.size) (xs := ([(a0_3)] : List Int)) #[Value.int IntKind.i64 a0_3] E76 rfl (by decide) (by decide) ⟨_, _, rfl, rfl, by kernel_rfl⟩ rfl hF.size (fun Ax1 cx1 L1 w1 hO1 g1 hbl1 => ?_)
        try dsimp only
        have dj_o47_o46 : Dj Ax1 Ax0 := Dj.new hbl1 hO0.lt
        have hF := hF.trans g1
        have hO0 := hO0.later g1
        obtain ⟨s2_0, hr2, h⟩ := Option.bind_eq_some_iff.1 h
        refine ok_callm rfl (fun L2 w2 g2 lt2 => ?_)
        refine (frames_put.c k _ _ _ (([(IntKind.wrap IntKind.u8 a0_0)] : List Int)) _ _ _ (([(a0_3)] : List Int)) s2_0 hr2 rfl rfl w2 (hO0.later g2).sl.bare (hO1.later g2).sl.bare).mono ?_
        rintro e w2' ⟨A2_0, c2_0, rfl, hb2, hO2_0⟩
        refine ⟨((A2_0, s2_0.length, c2_0), ()), rfl, hb2, fun g2' => ?_⟩
        try dsimp only
        have dj_o48_o46 : Dj A2_0 Ax0 := Dj.new hO2_0.fresh (hO0.later g2).lt
        have dj_o48_o47 : Dj A2_0 Ax1 := Dj.new hO2_0.fresh (hO1.later g2).lt
        have hO2_0 := hO2_0.call (hF.trans g2).size lt2
        have hF := hF.trans g2'
        have hO0 := hO0.later g2'
        have hO1 := hO1.later g2'
        obtain rfl := Option.some.inj h
        intro ρ L w' _ he _ _
        exact ⟨A2_0, c2_0, rfl, (hF.ext he).below, (hO2_0.later he.fine).ret⟩
       ·have h := bif_f h hc45
        refine ok_if (fun hc49 => ?_) (fun hc49 => ?_)
        ·have h := bif_t h hc49
         refine ⟨?_, ?_⟩
         ·refine ok_lit (R := R23) (base := w.heap.size) (xs := ([(28)] : List Int)) #[Value.int IntKind.u8 28] E23 rfl (by decide) (by decide) ⟨_, _, rfl, rfl, by kernel_rfl⟩ rfl hF.size (fun Ax0 cx0 L0 w0 hO0 g0 hbl0 => ?_)
          try dsimp only
          have hF := hF.trans g0
          refine ok_lit (R := R76) (base := w.heap.size) (xs := ([(a0_4), (((l0_6.length : Nat) : Int))] : List Int)) #[Value.int IntKind.i64 a0_4, Value.int IntKind.i64 (((l0_6.length : Nat) : Int))] E76 rfl (by decide) (by decide) ⟨_, _, rfl, rfl, by kernel_rfl⟩ rfl hF.size (fun Ax1 cx1 L1 w1 hO1 g1 hbl1 => ?_)
          try dsimp only
          have dj_o51_o50 : Dj Ax1 Ax0 := Dj.new hbl1 hO0.lt
          have hF := hF.trans g1
          have hO0 := hO0.later g1
          obtain ⟨s2_0, hr2, h⟩ := Option.bind_eq_some_iff.1 h
          refine ok_callm rfl (fun L2 w2 g2 lt2 => ?_)
          refine (frames_put.c k _ _ _ (([(28)] : List Int)) _ _ _ (([(a0_4), (((l0_6.length : Nat) : Int))] : List Int)) s2_0 hr2 rfl rfl w2 (hO0.later g2).sl.bare (hO1.later g2).sl.bare).mono ?_
          rintro e w2' ⟨A2_0, c2_0, rfl, hb2, hO2_0⟩
          refine ⟨((A2_0, s2_0.length, c2_0), ()), rfl, hb2, fun g2' => ?_⟩
          try dsimp only
          have dj_o52_o50 : Dj A2_0 Ax0 := Dj.new hO2_0.fresh (hO0.later g2).lt
          have dj_o52_o51 : Dj A2_0 Ax1 := Dj.new hO2_0.fresh (hO1.later g2).lt
          have hO2_0 := hO2_0.call (hF.trans g2).size lt2
          have hF := hF.trans g2'
          have hO0 := hO0.later g2'
          have hO1 := hO1.later g2'
          obtain ⟨hq53, h⟩ := bif_need h
          have hq53 := of_decide_eq_true hq53
          refine ok_app (R := R23) (base := w.heap.size) (xs := s2_0) (ys := l0_6) rfl rfl E23 hO2_0 (hS0_6.later hF) (by decide) hq53 hF.size (fun Ax3 cx3 L3 w3 hO3 g3 hid3 hbl3 => ?_)
          try dsimp only
          have dj_o54_o50 : Dj Ax3 Ax0 := Dj.grow dj_o52_o50 hbl3 hO0.lt
          have dj_o54_o51 : Dj Ax3 Ax1 := Dj.grow dj_o52_o51 hbl3 hO1.lt
          have hO0 := hO0.other (Dj.symm dj_o52_o50) g3
          have hO1 := hO1.other (Dj.symm dj_o52_o51) g3
          have hF := Fine.own hF g3 (fun b hb => Or.inr (Own.base hO2_0 hb)) hid3
          obtain rfl := Option.some.inj h
          intro ρ L w' _ he _ _
          exact ⟨Ax3, cx3, rfl, (hF.ext he).below, (hO3.later he.fine).ret⟩
         ·refine ok_lit (R := R76) (base := w.heap.size) (xs := ([(a0_4), (((l0_6.length : Nat) : Int))] : List Int)) #[Value.int IntKind.i64 a0_4, Value.int IntKind.i64 (((l0_6.length : Nat) : Int))] E76 rfl (by decide) (by decide) ⟨_, _, rfl, rfl, by kernel_rfl⟩ rfl hF.size (fun Ax0 cx0 L0 w0 hO0 g0 hbl0 => ?_)
          try dsimp only
          have hF := hF.trans g0
          refine ok_lit (R := R23) (base := w.heap.size) (xs := ([(28)] : List Int)) #[Value.int IntKind.u8 28] E23 rfl (by decide) (by decide) ⟨_, _, rfl, rfl, by kernel_rfl⟩ rfl hF.size (fun Ax1 cx1 L1 w1 hO1 g1 hbl1 => ?_)
          try dsimp only
          have dj_o56_o55 : Dj Ax1 Ax0 := Dj.new hbl1 hO0.lt
          have hF := hF.trans g1
          have hO0 := hO0.later g1
          obtain ⟨s2_0, hr2, h⟩ := Option.bind_eq_some_iff.1 h
          refine ok_callm rfl (fun L2 w2 g2 lt2 => ?_)
          refine (frames_put.c k _ _ _ (([(28)] : List Int)) _ _ _ (([(a0_4), (((l0_6.length : Nat) : Int))] : List Int)) s2_0 hr2 rfl rfl w2 (hO1.later g2).sl.bare (hO0.later g2).sl.bare).mono ?_
          rintro e w2' ⟨A2_0, c2_0, rfl, hb2, hO2_0⟩
          refine ⟨((A2_0, s2_0.length, c2_0), ()), rfl, hb2, fun g2' => ?_⟩
          try dsimp only
          have dj_o57_o55 : Dj A2_0 Ax0 := Dj.new hO2_0.fresh (hO0.later g2).lt
          have dj_o57_o56 : Dj A2_0 Ax1 := Dj.new hO2_0.fresh (hO1.later g2).lt
          have hO2_0 := hO2_0.call (hF.trans g2).size lt2
          have hF := hF.trans g2'
          have hO0 := hO0.later g2'
          have hO1 := hO1.later g2'
          obtain ⟨hq58, h⟩ := bif_need h
          have hq58 := of_decide_eq_true hq58
          refine ok_app (R := R23) (base := w.heap.size) (xs := s2_0) (ys := l0_6) rfl rfl E23 hO2_0 (hS0_6.later hF) (by decide) hq58 hF.size (fun Ax3 cx3 L3 w3 hO3 g3 hid3 hbl3 => ?_)
          try dsimp only
          have dj_o59_o55 : Dj Ax3 Ax0 := Dj.grow dj_o57_o55 hbl3 hO0.lt
          have dj_o59_o56 : Dj Ax3 Ax1 := Dj.grow dj_o57_o56 hbl3 hO1.lt
          have hO0 := hO0.other (Dj.symm dj_o57_o55) g3
          have hO1 := hO1.other (Dj.symm dj_o57_o56) g3
          have hF := Fine.own hF g3 (fun b hb => Or.inr (Own.base hO2_0 hb)) hid3
          obtain rfl := Option.some.inj h
          intro ρ L w' _ he _ _
          exact ⟨Ax3, cx3, rfl, (hF.ext he).below, (hO3.later he.fine).ret⟩
        ·have h := bif_f h hc49
         refine ok_lit (R := R23) (base := w.heap.size) (xs := ([(IntKind.wrap IntKind.u8 a0_0)] : List Int)) #[Value.int IntKind.u8 (IntKind.wrap IntKind.u8 a0_0)] E23 rfl (by decide) (by decide) ⟨_, _, rfl, rfl, by kernel_rfl⟩ rfl hF.size (fun Ax0 cx0 L0 w0 hO0 g0 hbl0 => ?_)
         try dsimp only
         have hF := hF.trans g0
         obtain rfl := Option.some.inj h
         intro ρ L w' _ he _ _
         exact ⟨Ax0, cx0, rfl, (hF.ext he).below, (hO0.later he.fine).ret⟩
end Go.Proofs.Ytpdchohbmmfemaa.X
