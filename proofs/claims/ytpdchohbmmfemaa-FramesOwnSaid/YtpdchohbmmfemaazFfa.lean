import Derived.Test.YtpdchohbmmfemaazRxU
import Derived.Test.YtpdchohbmmfemaazRxSeat
import Derived.Test.YtpdchohbmmfemaaProg
import Derived.Test.YtpdchohbmmfemaazFe
namespace Go.Proofs.Ytpdchohbmmfemaa.X
open Go Go.RowKit Go.Proofs.YtpdchohbmmfemaaW.Rx
set_option linter.unusedVariables false
set_option linter.unusedSimpArgs false
set_option maxRecDepth 10000
abbrev r4_ok.S (a0 : Option Addr) : Nat → Prop := fun b => blk (a0, 0, 0) b
def r4_ok.F (k : Nat) (q0 : (List Int) × Int × Int × Int) : Option (Bool × ((List Int) × Int × Int × Int)) := bif q0.2.2.1 == 0 then (some ((true, q0))) else (some ((false, q0)))
abbrev r4_ok.A : Nat → LA := noA
set_option maxHeartbeats 4000000 in
theorem r4_ok.t (a0 : Option Addr) : tree Try.prog r4_ok.A noC Try.f33 [AV.v (Value.pointer a0)] [] =
  .need (Option.isSome a0) (
  .need (Option.isSome a0) (
  .need (Option.isSome (Option.map (fun x => Addr.add x 2) a0)) (
  .ld (Option.map (fun x => Addr.add x 0) (Option.map (fun x => Addr.add x 2) a0)) ([Lf.i .i64]) (fun x0 =>
   bif x0.1 == 0 then (
    .done (AV.v (Value.bool true)) ([]))
   else (
    .done (AV.v (Value.bool false)) ([])))))) := by kernel_rfl
set_option maxHeartbeats 4000000 in
theorem r4_ok.c (k : Nat) (a0 : Option Addr) (q0 : (List Int) × Int × Int × Int) (A0_0 : Option Addr) (c0_0 : Nat) (r : Bool × ((List Int) × Int × Int × Int)) (h : r4_ok.F k q0 = some r)  (w : World) (hW0 : OwnO 0 (fun _ => False) w 61 RW61 a0 1 [((A0_0, q0.1.length, c0_0), q0.2.1, q0.2.2.1, q0.2.2.2)]) (hS0_0 : SlR R23.row (r4_ok.S a0) w A0_0 c0_0 q0.1) : Calls Try.prog 33 (AV.gs id [AV.v (Value.pointer a0)]).toArray w fun e w' => e = .returned (((Sh.one : Sh).av (vs [Lf.b] (r.1, ()))).g id) ∧ Fine (r4_ok.S a0) w (r4_ok.S a0) w' ∧ OwnO 0 (fun _ => False) w' 61 RW61 a0 1 [((A0_0, r.2.1.length, c0_0), r.2.2.1, r.2.2.2.1, r.2.2.2.2)] ∧ r.2.1 = q0.1 := by
 refine enter0 mixed r4_ok.A noC [AV.v (Value.pointer a0)] Try.func33 rfl rfl rfl (fun hF => ?_)
 have hA_a0 : Option.isSome a0 = true := hW0.sl.some (by simp)
 have hN_a0 : Option.isNone a0 = false := by cases a0 <;> simp_all
 have hF : Fine (r4_ok.S a0) w (fun _ => False) w := ⟨rfl, rfl, rfl, Nat.le_refl _, fun _ _ _ => rfl, fun b h => h.elim⟩
 have hm0 : ∀ b, blk (a0, 0, 0) b → (r4_ok.S a0) b ∨ w.heap.size ≤ b := fun b hb => Or.inl hb
 rw [r4_ok.t]
 unfold r4_ok.F at h
 try dsimp only at h
 refine ok_need hA_a0 ?_
 refine ok_need hA_a0 ?_
 refine ok_need ((Option.isSome_map (f := fun x => Addr.add x 2)).trans hA_a0) ?_
 rw [map_add2 _ 2 0 2 rfl hW0.sl.spot]
 refine ok_ob 2 hW0.sl (Fine.refl _ _) (fun cs hcs => ⟨q0.2.2.1, by rw [hcs]; rfl, ?_⟩)
 try dsimp only
 refine ok_if (fun hc3 => ?_) (fun hc3 => ?_)
 ·have h := bif_t h hc3
  obtain rfl := Option.some.inj h
  have homes := fun (b : Nat) (h : b < w.heap.size) => h
  intro ρ L w' _ he _ _
  exact ⟨rfl, (hF.ext he).with (fun b h => Or.inl h), (hW0.later he.fine).bare', rfl⟩
 ·have h := bif_f h hc3
  obtain rfl := Option.some.inj h
  have homes := fun (b : Nat) (h : b < w.heap.size) => h
  intro ρ L w' _ he _ _
  exact ⟨rfl, (hF.ext he).with (fun b h => Or.inl h), (hW0.later he.fine).bare', rfl⟩
abbrev r4_fails.S (a0 : Option Addr) : Nat → Prop := fun b => blk (a0, 0, 0) b
def r4_fails.F (k : Nat) (q0 : (List Int) × Int × Int × Int) (a1 : Int) (a2 : Int) : Option (((List Int) × Int × Int × Int)) := (r4_ok.F k q0).bind fun (v0_0, qc0) => bif v0_0 then (some (((qc0.1, qc0.2.1, a1, a2)))) else (some qc0)
abbrev r4_fails.A : Nat → LA := noA
set_option maxHeartbeats 4000000 in
theorem r4_fails.t (a0 : Option Addr) (a1 : Int) (a2 : Int) : tree Try.prog r4_fails.A noC Try.f31 [AV.v (Value.pointer a0), AV.v (.int .i64 a1), AV.v (.int .i64 a2)] [] =
  .call 33 ([AV.v (Value.pointer a0)]) ([]) (Sh.one) ([Lf.b]) ([]) (fun x0 =>
   bif x0.1 then (
    .need (Option.isSome a0) (
    .need (Option.isSome a0) (
    .sto (Option.map (fun x => Addr.add x 2) a0) ([AV.v (.int .i64 a1), AV.v (.int .i64 a2)]) ([]) (
    .done (AV.tup []) ([])))))
   else (
    .done (AV.tup []) ([]))) := by kernel_rfl
set_option maxHeartbeats 4000000 in
theorem r4_fails.c (k : Nat) (a0 : Option Addr) (q0 : (List Int) × Int × Int × Int) (A0_0 : Option Addr) (c0_0 : Nat) (a1 : Int) (a2 : Int) (r : ((List Int) × Int × Int × Int)) (h : r4_fails.F k q0 a1 a2 = some r)  (w : World) (hW0 : OwnO 0 (fun _ => False) w 61 RW61 a0 1 [((A0_0, q0.1.length, c0_0), q0.2.1, q0.2.2.1, q0.2.2.2)]) (hS0_0 : SlR R23.row (r4_fails.S a0) w A0_0 c0_0 q0.1) : Calls Try.prog 31 (AV.gs id [AV.v (Value.pointer a0), AV.v (.int .i64 a1), AV.v (.int .i64 a2)]).toArray w fun e w' => e = .returned (((Sh.tup [] : Sh).av (vs [] (()))).g id) ∧ Fine (r4_fails.S a0) w (r4_fails.S a0) w' ∧ OwnO 0 (fun _ => False) w' 61 RW61 a0 1 [((A0_0, r.1.length, c0_0), r.2.1, r.2.2.1, r.2.2.2)] ∧ r.1 = q0.1 := by
 refine enter0 mixed r4_fails.A noC [AV.v (Value.pointer a0), AV.v (.int .i64 a1), AV.v (.int .i64 a2)] Try.func31 rfl rfl rfl (fun hF => ?_)
 have hA_a0 : Option.isSome a0 = true := hW0.sl.some (by simp)
 have hN_a0 : Option.isNone a0 = false := by cases a0 <;> simp_all
 have hF : Fine (r4_fails.S a0) w (fun _ => False) w := ⟨rfl, rfl, rfl, Nat.le_refl _, fun _ _ _ => rfl, fun b h => h.elim⟩
 have hm0 : ∀ b, blk (a0, 0, 0) b → (r4_fails.S a0) b ∨ w.heap.size ≤ b := fun b hb => Or.inl hb
 rw [r4_fails.t]
 unfold r4_fails.F at h
 try dsimp only at h
 obtain ⟨r0, hr0, h⟩ := bse h
 obtain ⟨v0_0, qc0⟩ := r0
 try dsimp only at h
 have hBv0 : ∀ b, (r4_ok.S a0) b → ¬ _ ∧ b < _ := fun b hb => by exact ⟨(hW0.lt b hb).2.1, hW0.lt1 b hb⟩
 have hBm0 : ∀ b, (r4_ok.S a0) b → (r4_fails.S a0) b ∨ w.heap.size ≤ b := fun b hb => by exact hm0 b hb
 refine ok_callo (r4_ok.S a0) rfl hBv0 (fun L0 w0 g0 lt0 => ?_)
 refine (r4_ok.c k _ q0 _ _ (v0_0, qc0) hr0  w0 (hW0.later g0).bare' (hS0_0.later ((hF.trans g0).with hBm0))).mono ?_
 rintro e w0' ⟨rfl, hf0, hWc0, hq0_0⟩
 refine ⟨(v0_0, ()), rfl, hf0, fun g0' hid0 hv0 => ?_⟩
 try dsimp only
 have hSc0_0 : SlR R23.row (r4_fails.S a0) w A0_0 c0_0 qc0.1 := by rw [hq0_0]; exact hS0_0
 have hmc0 := hm0
 have hWc0 := hWc0.vis (fun b hb => hv0 b (Or.inl hb))
 have hF := Fine.own hF g0' hBm0 hid0
 refine ok_if (fun hc5 => ?_) (fun hc5 => ?_)
 ·have h := bif_t h hc5
  refine ok_need hA_a0 ?_
  refine ok_need hA_a0 ?_
  refine ok_put0 (R := RW61) (x' := ((A0_0, qc0.1.length, c0_0), qc0.2.1, a1, a2)) (vs := [Value.int IntKind.i64 a1, Value.int IntKind.i64 a2]) 2 hWc0 (Nat.le_of_ble_eq_true rfl) rfl (fun _ => rfl) (fun Lt6 wt6 ht6 gst6 hdt6 => ?_)
  have hF := Fine.own hF gst6 hmc0 hdt6
  have hWc0 := ht6
  obtain rfl := Option.some.inj h
  have homes := fun (b : Nat) (h : b < w.heap.size) => h
  intro ρ L w' _ he _ _
  exact ⟨rfl, (hF.ext he).with (fun b h => Or.inl h), (hWc0.later he.fine).bare', (hq0_0.trans rfl)⟩
 ·have h := bif_f h hc5
  obtain rfl := Option.some.inj h
  have homes := fun (b : Nat) (h : b < w.heap.size) => h
  intro ρ L w' _ he _ _
  exact ⟨rfl, (hF.ext he).with (fun b h => Or.inl h), (hWc0.later he.fine).bare', (hq0_0.trans rfl)⟩
abbrev r4_number.S (a0 : Option Addr) : Nat → Prop := fun b => blk (a0, 0, 0) b
def r4_number.F (k : Nat) (q0 : (List Int) × Int × Int × Int) : Option (Int × ((List Int) × Int × Int × Int)) := (r4_ok.F k q0).bind fun (v0_0, qc0) => bif v0_0 then ((ref01_Get.F k qc0.1 qc0.2.1).bind fun (v3_0, v3_1, v3_2, v3_3) => bif v3_2 != 0 then (some ((0, (qc0.1, qc0.2.1, v3_2, v3_3)))) else (some ((v3_0, (qc0.1, v3_1, qc0.2.2.1, qc0.2.2.2))))) else (some ((0, qc0)))
abbrev r4_number.A : Nat → LA := noA
set_option maxHeartbeats 4000000 in
theorem r4_number.t (a0 : Option Addr) : tree Try.prog r4_number.A noC Try.f49 [AV.v (Value.pointer a0)] [] =
  .call 33 ([AV.v (Value.pointer a0)]) ([]) (Sh.one) ([Lf.b]) ([]) (fun x0 =>
   bif x0.1 then (
    .need (Option.isSome a0) (
    .need (Option.isSome a0) (
    .ld (Option.map (fun x => Addr.add x 0) a0) ([Lf.sl]) (fun x1 =>
     .need (Option.isSome a0) (
     .need (Option.isSome a0) (
     .ld (Option.map (fun x => Addr.add x 1) a0) ([Lf.i .i64]) (fun x2 =>
      .call 64 ([AV.v (Value.slice x1.1.1 x1.1.2.1 x1.1.2.2), AV.v (.int .i64 x2.1)]) ([]) (Sh.tup [(false, 1), (false, 1), (true, 2)]) ([Lf.i .i64, Lf.i .i64, Lf.i .i64, Lf.i .i64]) ([]) (fun x3 =>
       bif x3.2.2.1 != 0 then (
        .need (Option.isSome a0) (
        .need (Option.isSome a0) (
        .sto (Option.map (fun x => Addr.add x 2) a0) ([AV.v (.int .i64 x3.2.2.1), AV.v (.int .i64 x3.2.2.2.1)]) ([]) (
        .done (AV.v (.int .i64 0)) ([])))))
       else (
        .need (Option.isSome a0) (
        .need (Option.isSome a0) (
        .sto (Option.map (fun x => Addr.add x 1) a0) ([AV.v (.int .i64 x3.2.1)]) ([]) (
        .done (AV.v (.int .i64 x3.1)) ([])))))))))))))
   else (
    .done (AV.v (.int .i64 0)) ([]))) := by kernel_rfl
set_option maxHeartbeats 4000000 in
theorem r4_number.c (k : Nat) (a0 : Option Addr) (q0 : (List Int) × Int × Int × Int) (A0_0 : Option Addr) (c0_0 : Nat) (r : Int × ((List Int) × Int × Int × Int)) (h : r4_number.F k q0 = some r)  (w : World) (hW0 : OwnO 0 (fun _ => False) w 61 RW61 a0 1 [((A0_0, q0.1.length, c0_0), q0.2.1, q0.2.2.1, q0.2.2.2)]) (hS0_0 : SlR R23.row (r4_number.S a0) w A0_0 c0_0 q0.1) : Calls Try.prog 49 (AV.gs id [AV.v (Value.pointer a0)]).toArray w fun e w' => e = .returned (((Sh.one : Sh).av (vs [Lf.i .i64] (r.1, ()))).g id) ∧ Fine (r4_number.S a0) w (r4_number.S a0) w' ∧ OwnO 0 (fun _ => False) w' 61 RW61 a0 1 [((A0_0, r.2.1.length, c0_0), r.2.2.1, r.2.2.2.1, r.2.2.2.2)] ∧ r.2.1 = q0.1 := by
 refine enter0 mixed r4_number.A noC [AV.v (Value.pointer a0)] Try.func49 rfl rfl rfl (fun hF => ?_)
 have hA_a0 : Option.isSome a0 = true := hW0.sl.some (by simp)
 have hN_a0 : Option.isNone a0 = false := by cases a0 <;> simp_all
 have hF : Fine (r4_number.S a0) w (fun _ => False) w := ⟨rfl, rfl, rfl, Nat.le_refl _, fun _ _ _ => rfl, fun b h => h.elim⟩
 have hm0 : ∀ b, blk (a0, 0, 0) b → (r4_number.S a0) b ∨ w.heap.size ≤ b := fun b hb => Or.inl hb
 rw [r4_number.t]
 unfold r4_number.F at h
 try dsimp only at h
 obtain ⟨r0, hr0, h⟩ := bse h
 obtain ⟨v0_0, qc0⟩ := r0
 try dsimp only at h
 have hBv0 : ∀ b, (r4_ok.S a0) b → ¬ _ ∧ b < _ := fun b hb => by exact ⟨(hW0.lt b hb).2.1, hW0.lt1 b hb⟩
 have hBm0 : ∀ b, (r4_ok.S a0) b → (r4_number.S a0) b ∨ w.heap.size ≤ b := fun b hb => by exact hm0 b hb
 refine ok_callo (r4_ok.S a0) rfl hBv0 (fun L0 w0 g0 lt0 => ?_)
 refine (r4_ok.c k _ q0 _ _ (v0_0, qc0) hr0  w0 (hW0.later g0).bare' (hS0_0.later ((hF.trans g0).with hBm0))).mono ?_
 rintro e w0' ⟨rfl, hf0, hWc0, hq0_0⟩
 refine ⟨(v0_0, ()), rfl, hf0, fun g0' hid0 hv0 => ?_⟩
 try dsimp only
 have hSc0_0 : SlR R23.row (r4_number.S a0) w A0_0 c0_0 qc0.1 := by rw [hq0_0]; exact hS0_0
 have hmc0 := hm0
 have hWc0 := hWc0.vis (fun b hb => hv0 b (Or.inl hb))
 have hF := Fine.own hF g0' hBm0 hid0
 refine ok_if (fun hc5 => ?_) (fun hc5 => ?_)
 ·have h := bif_t h hc5
  refine ok_need hA_a0 ?_
  refine ok_need hA_a0 ?_
  refine ok_ob 0 hWc0.sl (Fine.refl _ _) (fun cs hcs => ⟨(A0_0, qc0.1.length, c0_0), by rw [hcs]; rfl, ?_⟩)
  try dsimp only
  refine ok_need hA_a0 ?_
  refine ok_need hA_a0 ?_
  refine ok_ob 1 hWc0.sl (Fine.refl _ _) (fun cs hcs => ⟨qc0.2.1, by rw [hcs]; rfl, ?_⟩)
  try dsimp only
  obtain ⟨r3, hr3, h⟩ := bse h
  obtain ⟨v3_0, v3_1, v3_2, v3_3⟩ := r3
  try dsimp only at h
  refine ok_callm rfl (fun L3 w3 g3 lt3 => ?_)
  refine (ref01_Get.c k _ _ _ qc0.1 qc0.2.1 (v3_0, v3_1, v3_2, v3_3) hr3 rfl w3 (hSc0_0.later (hF.trans g3)).bare).mono ?_
  rintro e w3' ⟨rfl, hb3⟩
  refine ⟨(v3_0, v3_1, v3_2, v3_3, ()), rfl, hb3, fun g3' => ?_⟩
  try dsimp only
  have hF := hF.trans g3'
  have hWc0 := hWc0.later g3'
  refine ok_if (fun hc6 => ?_) (fun hc6 => ?_)
  ·have h := bif_t h hc6
   refine ok_need hA_a0 ?_
   refine ok_need hA_a0 ?_
   refine ok_put0 (R := RW61) (x' := ((A0_0, qc0.1.length, c0_0), qc0.2.1, v3_2, v3_3)) (vs := [Value.int IntKind.i64 v3_2, Value.int IntKind.i64 v3_3]) 2 hWc0 (Nat.le_of_ble_eq_true rfl) rfl (fun _ => rfl) (fun Lt7 wt7 ht7 gst7 hdt7 => ?_)
   have hF := Fine.own hF gst7 hmc0 hdt7
   have hWc0 := ht7
   obtain rfl := Option.some.inj h
   have homes := fun (b : Nat) (h : b < w.heap.size) => h
   intro ρ L w' _ he _ _
   exact ⟨rfl, (hF.ext he).with (fun b h => Or.inl h), (hWc0.later he.fine).bare', (hq0_0.trans rfl)⟩
  ·have h := bif_f h hc6
   refine ok_need hA_a0 ?_
   refine ok_need hA_a0 ?_
   refine ok_put0 (R := RW61) (x' := ((A0_0, qc0.1.length, c0_0), v3_1, qc0.2.2.1, qc0.2.2.2)) (vs := [Value.int IntKind.i64 v3_1]) 1 hWc0 (Nat.le_of_ble_eq_true rfl) rfl (fun _ => rfl) (fun Lt8 wt8 ht8 gst8 hdt8 => ?_)
   have hF := Fine.own hF gst8 hmc0 hdt8
   have hWc0 := ht8
   obtain rfl := Option.some.inj h
   have homes := fun (b : Nat) (h : b < w.heap.size) => h
   intro ρ L w' _ he _ _
   exact ⟨rfl, (hF.ext he).with (fun b h => Or.inl h), (hWc0.later he.fine).bare', (hq0_0.trans rfl)⟩
 ·have h := bif_f h hc5
  obtain rfl := Option.some.inj h
  have homes := fun (b : Nat) (h : b < w.heap.size) => h
  intro ρ L w' _ he _ _
  exact ⟨rfl, (hF.ext he).with (fun b h => Or.inl h), (hWc0.later he.fine).bare', (hq0_0.trans rfl)⟩
abbrev r4_take.S (a0 : Option Addr) : Nat → Prop := fun b => blk (a0, 0, 0) b
def r4_take.F (k : Nat) (q0 : (List Int) × Int × Int × Int) (a1 : Int) : Option ((List Int) × ((List Int) × Int × Int × Int)) := (r4_ok.F k q0).bind fun (v0_0, qc0) => bif v0_0 then (bif decide (IntKind.i64.wrap ((((qc0.1).length : Nat) : Int) - qc0.2.1) < a1) then ((r4_fails.F k qc0 3 ((((qc0.1).length : Nat) : Int))).bind fun qc4 => some (([], qc4))) else (bif decide ((0 : Int) ≤ qc0.2.1 ∧ qc0.2.1 ≤ (IntKind.i64.wrap (qc0.2.1 + a1)) ∧ (IntKind.i64.wrap (qc0.2.1 + a1)) ≤ ((qc0.1).length : Int)) then (bif decide (((([] : List Int)).length + (((qc0.1.drop (Int.toNat qc0.2.1)).take (Int.toNat (IntKind.i64.wrap (qc0.2.1 + a1)) - Int.toNat qc0.2.1))).length) * 1 ≤ 140737488355328) then (some (((([] : List Int) ++ ((qc0.1.drop (Int.toNat qc0.2.1)).take (Int.toNat (IntKind.i64.wrap (qc0.2.1 + a1)) - Int.toNat qc0.2.1))), (qc0.1, (IntKind.i64.wrap (qc0.2.1 + a1)), qc0.2.2.1, qc0.2.2.2)))) else none) else none)) else (some (([], qc0)))
abbrev r4_take.A : Nat → LA := noA
set_option maxHeartbeats 4000000 in
theorem r4_take.t (a0 : Option Addr) (a1 : Int) : tree Try.prog r4_take.A noC Try.f51 [AV.v (Value.pointer a0), AV.v (.int .i64 a1)] [] =
  .call 33 ([AV.v (Value.pointer a0)]) ([]) (Sh.one) ([Lf.b]) ([]) (fun x0 =>
   bif x0.1 then (
    .need (Option.isSome a0) (
    .need (Option.isSome a0) (
    .ld (Option.map (fun x => Addr.add x 0) a0) ([Lf.sl]) (fun x1 =>
     .need (Option.isSome a0) (
     .need (Option.isSome a0) (
     .ld (Option.map (fun x => Addr.add x 1) a0) ([Lf.i .i64]) (fun x2 =>
      bif decide (IntKind.i64.wrap (((x1.1.2.1 : Nat) : Int) - x2.1) < a1) then (
       .need (Option.isSome a0) (
       .need (Option.isSome a0) (
       .ld (Option.map (fun x => Addr.add x 0) a0) ([Lf.sl]) (fun x3 =>
        .call 31 ([AV.v (Value.pointer a0), AV.v (.int .i64 3), AV.v (.int .i64 ((x3.1.2.1 : Nat) : Int))]) ([]) (Sh.tup []) ([]) ([]) (fun x4 =>
         .done (AV.v (Value.slice none 0 0)) ([]))))))
      else (
       .need (Option.isSome a0) (
       .need (Option.isSome a0) (
       .ld (Option.map (fun x => Addr.add x 0) a0) ([Lf.sl]) (fun x3 =>
        .need (Option.isSome a0) (
        .need (Option.isSome a0) (
        .ld (Option.map (fun x => Addr.add x 1) a0) ([Lf.i .i64]) (fun x4 =>
         .need (Option.isSome a0) (
         .need (Option.isSome a0) (
         .ld (Option.map (fun x => Addr.add x 1) a0) ([Lf.i .i64]) (fun x5 =>
          .need (decide (0 ≤ x4.1) && decide (x4.1 ≤ IntKind.i64.wrap (x5.1 + a1)) && decide (IntKind.i64.wrap (x5.1 + a1) ≤ ((x3.1.2.2 : Nat) : Int))) (
          .sem (Builtin.append_ { toList := [23, 23] } 23 { toList := [Value.slice none 0 0, Value.slice (if ((x3.1.2.2 : Nat) : Int) = x4.1 then x3.1.1 else Option.map (fun x => Addr.add x (Int.toNat x4.1 * 1)) x3.1.1) (Int.toNat (IntKind.i64.wrap (x5.1 + a1)) - Int.toNat x4.1) (x3.1.2.2 - Int.toNat x4.1)] }) ([Lf.sl]) (Sh.one) (fun x6 =>
           .need (Option.isSome a0) (
           .need (Option.isSome a0) (
           .ld (Option.map (fun x => Addr.add x 1) a0) ([Lf.i .i64]) (fun x7 =>
            .need (Option.isSome a0) (
            .need (Option.isSome a0) (
            .sto (Option.map (fun x => Addr.add x 1) a0) ([AV.v (.int .i64 (IntKind.i64.wrap (x7.1 + a1)))]) ([]) (
            .done (AV.v (Value.slice x6.1.1 x6.1.2.1 x6.1.2.2)) ([]))))))))))))))))))))))))))
   else (
    .done (AV.v (Value.slice none 0 0)) ([]))) := by kernel_rfl
set_option maxHeartbeats 4000000 in
theorem r4_take.c (k : Nat) (a0 : Option Addr) (q0 : (List Int) × Int × Int × Int) (A0_0 : Option Addr) (c0_0 : Nat) (a1 : Int) (r : (List Int) × ((List Int) × Int × Int × Int)) (h : r4_take.F k q0 a1 = some r)  (w : World) (hW0 : OwnO 0 (fun _ => False) w 61 RW61 a0 1 [((A0_0, q0.1.length, c0_0), q0.2.1, q0.2.2.1, q0.2.2.2)]) (hS0_0 : SlR R23.row (r4_take.S a0) w A0_0 c0_0 q0.1) : Calls Try.prog 51 (AV.gs id [AV.v (Value.pointer a0), AV.v (.int .i64 a1)]).toArray w fun e w' => ∃ (B0 : Option Addr) (d0 : Nat), e = .returned (((Sh.one : Sh).av (vs [Lf.sl] ((B0, (r.1).length, d0), ()))).g id) ∧ Fine (r4_take.S a0) w (r4_take.S a0) w' ∧ OwnO 0 (fun _ => False) w' 61 RW61 a0 1 [((A0_0, r.2.1.length, c0_0), r.2.2.1, r.2.2.2.1, r.2.2.2.2)] ∧ OwnF w.heap.size (fun b => b < w.heap.size) w' 5 R23 B0 d0 r.1 ∧ r.2.1 = q0.1 := by
 refine enter0 mixed r4_take.A noC [AV.v (Value.pointer a0), AV.v (.int .i64 a1)] Try.func51 rfl rfl rfl (fun hF => ?_)
 have hA_a0 : Option.isSome a0 = true := hW0.sl.some (by simp)
 have hN_a0 : Option.isNone a0 = false := by cases a0 <;> simp_all
 have hF : Fine (r4_take.S a0) w (fun _ => False) w := ⟨rfl, rfl, rfl, Nat.le_refl _, fun _ _ _ => rfl, fun b h => h.elim⟩
 have hm0 : ∀ b, blk (a0, 0, 0) b → (r4_take.S a0) b ∨ w.heap.size ≤ b := fun b hb => Or.inl hb
 rw [r4_take.t]
 unfold r4_take.F at h
 try dsimp only at h
 obtain ⟨r0, hr0, h⟩ := bse h
 obtain ⟨v0_0, qc0⟩ := r0
 try dsimp only at h
 have hBv0 : ∀ b, (r4_ok.S a0) b → ¬ _ ∧ b < _ := fun b hb => by exact ⟨(hW0.lt b hb).2.1, hW0.lt1 b hb⟩
 have hBm0 : ∀ b, (r4_ok.S a0) b → (r4_take.S a0) b ∨ w.heap.size ≤ b := fun b hb => by exact hm0 b hb
 refine ok_callo (r4_ok.S a0) rfl hBv0 (fun L0 w0 g0 lt0 => ?_)
 refine (r4_ok.c k _ q0 _ _ (v0_0, qc0) hr0  w0 (hW0.later g0).bare' (hS0_0.later ((hF.trans g0).with hBm0))).mono ?_
 rintro e w0' ⟨rfl, hf0, hWc0, hq0_0⟩
 refine ⟨(v0_0, ()), rfl, hf0, fun g0' hid0 hv0 => ?_⟩
 try dsimp only
 have hSc0_0 : SlR R23.row (r4_take.S a0) w A0_0 c0_0 qc0.1 := by rw [hq0_0]; exact hS0_0
 have hmc0 := hm0
 have hWc0 := hWc0.vis (fun b hb => hv0 b (Or.inl hb))
 have hF := Fine.own hF g0' hBm0 hid0
 refine ok_if (fun hc5 => ?_) (fun hc5 => ?_)
 ·have h := bif_t h hc5
  refine ok_need hA_a0 ?_
  refine ok_need hA_a0 ?_
  refine ok_ob 0 hWc0.sl (Fine.refl _ _) (fun cs hcs => ⟨(A0_0, qc0.1.length, c0_0), by rw [hcs]; rfl, ?_⟩)
  try dsimp only
  refine ok_need hA_a0 ?_
  refine ok_need hA_a0 ?_
  refine ok_ob 1 hWc0.sl (Fine.refl _ _) (fun cs hcs => ⟨qc0.2.1, by rw [hcs]; rfl, ?_⟩)
  try dsimp only
  refine ok_if (fun hc6 => ?_) (fun hc6 => ?_)
  ·have h := bif_t h hc6
   refine ok_need hA_a0 ?_
   refine ok_need hA_a0 ?_
   refine ok_ob 0 hWc0.sl (Fine.refl _ _) (fun cs hcs => ⟨(A0_0, qc0.1.length, c0_0), by rw [hcs]; rfl, ?_⟩)
   try dsimp only
   obtain ⟨qc4, hr4, h⟩ := bse h
   have hBv4 : ∀ b, (r4_fails.S a0) b → ¬ _ ∧ b < _ := fun b hb => by exact ⟨(hWc0.lt b hb).2.1, hWc0.lt1 b hb⟩
   have hBm4 : ∀ b, (r4_fails.S a0) b → (r4_take.S a0) b ∨ w.heap.size ≤ b := fun b hb => by exact hmc0 b hb
   refine ok_callo (r4_fails.S a0) rfl hBv4 (fun L4 w4 g4 lt4 => ?_)
   refine (r4_fails.c k _ qc0 _ _ 3 ((((qc0.1).length : Nat) : Int)) qc4 hr4  w4 (hWc0.later g4).bare' (hSc0_0.later ((hF.trans g4).with hBm4))).mono ?_
   rintro e w4' ⟨rfl, hf4, hWc4, hq4_0⟩
   refine ⟨(()), rfl, hf4, fun g4' hid4 hv4 => ?_⟩
   try dsimp only
   have hSc4_0 : SlR R23.row (r4_take.S a0) w A0_0 c0_0 qc4.1 := by rw [hq4_0]; exact hSc0_0
   have hmc4 := hmc0
   have hWc4 := hWc4.vis (fun b hb => hv4 b (Or.inl hb))
   have hF := Fine.own hF g4' hBm4 hid4
   obtain rfl := Option.some.inj h
   have homes := fun (b : Nat) (h : b < w.heap.size) => h
   intro ρ L w' _ he _ _
   exact ⟨none, 0, rfl, (hF.ext he).with (fun b h => Or.inl h), (hWc4.later he.fine).bare', OwnF.ret (OwnF.nil _ (fun _ => False) _ _ _), (hq4_0.trans (hq0_0.trans rfl))⟩
  ·have h := bif_f h hc6
   refine ok_need hA_a0 ?_
   refine ok_need hA_a0 ?_
   refine ok_ob 0 hWc0.sl (Fine.refl _ _) (fun cs hcs => ⟨(A0_0, qc0.1.length, c0_0), by rw [hcs]; rfl, ?_⟩)
   try dsimp only
   refine ok_need hA_a0 ?_
   refine ok_need hA_a0 ?_
   refine ok_ob 1 hWc0.sl (Fine.refl _ _) (fun cs hcs => ⟨qc0.2.1, by rw [hcs]; rfl, ?_⟩)
   try dsimp only
   refine ok_need hA_a0 ?_
   refine ok_need hA_a0 ?_
   refine ok_ob 1 hWc0.sl (Fine.refl _ _) (fun cs hcs => ⟨qc0.2.1, by rw [hcs]; rfl, ?_⟩)
   try dsimp only
   obtain ⟨hs9, h⟩ := bif_need h
   have hs9 := of_decide_eq_true hs9
   have hcap := (hSc0_0.later hF).2.1
   refine ok_need (by first | exact part3 hs9 hcap | exact part3 hs9 (Nat.le_refl _)) ?_
   obtain ⟨hq11, h⟩ := bif_need h
   have hq11 := of_decide_eq_true hq11
   refine ok_app (R := R23) (base := w.heap.size) (xs := ([] : List Int)) (ys := ((qc0.1.drop (Int.toNat qc0.2.1)).take (Int.toNat (IntKind.i64.wrap (qc0.2.1 + a1)) - Int.toNat qc0.2.1))) rfl (sub_len hs9.1 hs9.2.1 hs9.2.2) E23 (OwnF.nil _ _ _ _ _) ((hSc0_0.later hF).sub _ _ hs9.1 hs9.2.1 hs9.2.2) (by decide) hq11 hF.size (fun Ax6 cx6 L6 w6 hO6 g6 hid6 hbl6 => ?_)
   try dsimp only
   have dj_o12_w3 : Dj Ax6 a0 := Dj.grow Dj.nil2 hbl6 hWc0.lt1
   have hWc0 := hWc0.other Dj.nil g6
   have hF := Fine.own hF g6 (fun b hb => by obtain ⟨_, hb, _⟩ := hb; cases hb) hid6
   refine ok_need hA_a0 ?_
   refine ok_need hA_a0 ?_
   refine ok_ob 1 hWc0.sl (Fine.refl _ _) (fun cs hcs => ⟨qc0.2.1, by rw [hcs]; rfl, ?_⟩)
   try dsimp only
   refine ok_need hA_a0 ?_
   refine ok_need hA_a0 ?_
   refine ok_put0 (R := RW61) (x' := ((A0_0, qc0.1.length, c0_0), (IntKind.i64.wrap (qc0.2.1 + a1)), qc0.2.2.1, qc0.2.2.2)) (vs := [Value.int IntKind.i64 (IntKind.i64.wrap (qc0.2.1 + a1))]) 1 hWc0 (Nat.le_of_ble_eq_true rfl) rfl (fun _ => rfl) (fun Lt13 wt13 ht13 gst13 hdt13 => ?_)
   have hO6 := hO6.other dj_o12_w3 gst13
   have hF := Fine.own hF gst13 hmc0 hdt13
   have hWc0 := ht13
   obtain rfl := Option.some.inj h
   have homes := fun (b : Nat) (h : b < w.heap.size) => h
   intro ρ L w' _ he _ _
   exact ⟨Ax6, cx6, rfl, (hF.ext he).with (fun b h => Or.inl h), (hWc0.later he.fine).bare', (hO6.later he.fine).ret, (hq0_0.trans rfl)⟩
 ·have h := bif_f h hc5
  obtain rfl := Option.some.inj h
  have homes := fun (b : Nat) (h : b < w.heap.size) => h
  intro ρ L w' _ he _ _
  exact ⟨none, 0, rfl, (hF.ext he).with (fun b h => Or.inl h), (hWc0.later he.fine).bare', OwnF.ret (OwnF.nil _ (fun _ => False) _ _ _), (hq0_0.trans rfl)⟩
abbrev r4_ack.S (a0 : Option Addr) : Nat → Prop := fun b => blk (a0, 0, 0) b
def r4_ack.s5 (k : Nat) (v3_0 : Int) : (Int × Int × Int × Int × Int × Int × Int × Bool × (List Int) × (List (Int × Int)) × ((List Int) × Int × Int × Int)) → Option (Sum (Int × Int × Int × Int × Int × Int × Int × Bool × (List Int) × (List (Int × Int)) × ((List Int) × Int × Int × Int)) (Int × Int × Int × Int × Int × Bool × (List Int) × (List (Int × Int)) × ((List Int) × Int × Int × Int))) := fun (v5_0, v5_1, v5_2, v5_3, v5_4, v5_5, v5_6, v5_7, s5_8, s5_9, q5_a0) => bif decide (v5_1 ≤ v3_0) then ((r4_ok.F k q5_a0).bind fun (v6_0, qc6) => bif v6_0 then (bif decide (0 < v5_1) then ((r4_number.F k qc6).bind fun (v8_0, qc8) => bif decide (IntKind.i64.wrap (v5_0 - 2) < v8_0) then ((r4_fails.F k qc8 5 qc6.2.1).bind fun qc9 => (r4_number.F k qc9).bind fun (v11_0, qc11) => bif decide (IntKind.i64.wrap (IntKind.i64.wrap (v5_0 - 2) - v8_0) < v11_0) then ((r4_fails.F k qc11 5 qc9.2.1).bind fun qc12 => (r4_ok.F k qc12).bind fun (v13_0, qc13) => bif v13_0 then (bif decide (((([(IntKind.i64.wrap (IntKind.i64.wrap (IntKind.i64.wrap (v5_0 - 2) - v8_0) - v11_0), IntKind.i64.wrap (IntKind.i64.wrap (v5_0 - 2) - v8_0))] : List (Int × Int))).length + s5_9.length) * 16 ≤ 140737488355328) then (some (.inl ((IntKind.i64.wrap (IntKind.i64.wrap (IntKind.i64.wrap (v5_0 - 2) - v8_0) - v11_0), IntKind.i64.wrap (v5_1 + 1), v5_2, v5_3, v5_4, v5_5, v5_6, v5_7, s5_8, (([(IntKind.i64.wrap (IntKind.i64.wrap (IntKind.i64.wrap (v5_0 - 2) - v8_0) - v11_0), IntKind.i64.wrap (IntKind.i64.wrap (v5_0 - 2) - v8_0))] : List (Int × Int)) ++ s5_9), qc13)))) else none) else (some (.inl ((v5_0, IntKind.i64.wrap (v5_1 + 1), v5_2, v5_3, v5_4, v5_5, v5_6, v5_7, s5_8, s5_9, qc13))))) else ((r4_ok.F k qc11).bind fun (v12_0, qc12) => bif v12_0 then (bif decide (((([(IntKind.i64.wrap (IntKind.i64.wrap (IntKind.i64.wrap (v5_0 - 2) - v8_0) - v11_0), IntKind.i64.wrap (IntKind.i64.wrap (v5_0 - 2) - v8_0))] : List (Int × Int))).length + s5_9.length) * 16 ≤ 140737488355328) then (some (.inl ((IntKind.i64.wrap (IntKind.i64.wrap (IntKind.i64.wrap (v5_0 - 2) - v8_0) - v11_0), IntKind.i64.wrap (v5_1 + 1), v5_2, v5_3, v5_4, v5_5, v5_6, v5_7, s5_8, (([(IntKind.i64.wrap (IntKind.i64.wrap (IntKind.i64.wrap (v5_0 - 2) - v8_0) - v11_0), IntKind.i64.wrap (IntKind.i64.wrap (v5_0 - 2) - v8_0))] : List (Int × Int)) ++ s5_9), qc12)))) else none) else (some (.inl ((v5_0, IntKind.i64.wrap (v5_1 + 1), v5_2, v5_3, v5_4, v5_5, v5_6, v5_7, s5_8, s5_9, qc12)))))) else ((r4_number.F k qc8).bind fun (v10_0, qc10) => bif decide (IntKind.i64.wrap (IntKind.i64.wrap (v5_0 - 2) - v8_0) < v10_0) then ((r4_fails.F k qc10 5 qc8.2.1).bind fun qc11 => (r4_ok.F k qc11).bind fun (v12_0, qc12) => bif v12_0 then (bif decide (((([(IntKind.i64.wrap (IntKind.i64.wrap (IntKind.i64.wrap (v5_0 - 2) - v8_0) - v10_0), IntKind.i64.wrap (IntKind.i64.wrap (v5_0 - 2) - v8_0))] : List (Int × Int))).length + s5_9.length) * 16 ≤ 140737488355328) then (some (.inl ((IntKind.i64.wrap (IntKind.i64.wrap (IntKind.i64.wrap (v5_0 - 2) - v8_0) - v10_0), IntKind.i64.wrap (v5_1 + 1), v5_2, v5_3, v5_4, v5_5, v5_6, v5_7, s5_8, (([(IntKind.i64.wrap (IntKind.i64.wrap (IntKind.i64.wrap (v5_0 - 2) - v8_0) - v10_0), IntKind.i64.wrap (IntKind.i64.wrap (v5_0 - 2) - v8_0))] : List (Int × Int)) ++ s5_9), qc12)))) else none) else (some (.inl ((v5_0, IntKind.i64.wrap (v5_1 + 1), v5_2, v5_3, v5_4, v5_5, v5_6, v5_7, s5_8, s5_9, qc12))))) else ((r4_ok.F k qc10).bind fun (v11_0, qc11) => bif v11_0 then (bif decide (((([(IntKind.i64.wrap (IntKind.i64.wrap (IntKind.i64.wrap (v5_0 - 2) - v8_0) - v10_0), IntKind.i64.wrap (IntKind.i64.wrap (v5_0 - 2) - v8_0))] : List (Int × Int))).length + s5_9.length) * 16 ≤ 140737488355328) then (some (.inl ((IntKind.i64.wrap (IntKind.i64.wrap (IntKind.i64.wrap (v5_0 - 2) - v8_0) - v10_0), IntKind.i64.wrap (v5_1 + 1), v5_2, v5_3, v5_4, v5_5, v5_6, v5_7, s5_8, (([(IntKind.i64.wrap (IntKind.i64.wrap (IntKind.i64.wrap (v5_0 - 2) - v8_0) - v10_0), IntKind.i64.wrap (IntKind.i64.wrap (v5_0 - 2) - v8_0))] : List (Int × Int)) ++ s5_9), qc11)))) else none) else (some (.inl ((v5_0, IntKind.i64.wrap (v5_1 + 1), v5_2, v5_3, v5_4, v5_5, v5_6, v5_7, s5_8, s5_9, qc11))))))) else ((r4_number.F k qc6).bind fun (v8_0, qc8) => bif decide (v5_0 < v8_0) then ((r4_fails.F k qc8 5 qc6.2.1).bind fun qc9 => (r4_ok.F k qc9).bind fun (v10_0, qc10) => bif v10_0 then (bif decide (((([(IntKind.i64.wrap (v5_0 - v8_0), v5_0)] : List (Int × Int))).length + s5_9.length) * 16 ≤ 140737488355328) then (some (.inl ((IntKind.i64.wrap (v5_0 - v8_0), IntKind.i64.wrap (v5_1 + 1), v5_2, v5_3, v5_4, v5_5, v5_6, v5_7, s5_8, (([(IntKind.i64.wrap (v5_0 - v8_0), v5_0)] : List (Int × Int)) ++ s5_9), qc10)))) else none) else (some (.inl ((v5_0, IntKind.i64.wrap (v5_1 + 1), v5_2, v5_3, v5_4, v5_5, v5_6, v5_7, s5_8, s5_9, qc10))))) else ((r4_ok.F k qc8).bind fun (v9_0, qc9) => bif v9_0 then (bif decide (((([(IntKind.i64.wrap (v5_0 - v8_0), v5_0)] : List (Int × Int))).length + s5_9.length) * 16 ≤ 140737488355328) then (some (.inl ((IntKind.i64.wrap (v5_0 - v8_0), IntKind.i64.wrap (v5_1 + 1), v5_2, v5_3, v5_4, v5_5, v5_6, v5_7, s5_8, (([(IntKind.i64.wrap (v5_0 - v8_0), v5_0)] : List (Int × Int)) ++ s5_9), qc9)))) else none) else (some (.inl ((v5_0, IntKind.i64.wrap (v5_1 + 1), v5_2, v5_3, v5_4, v5_5, v5_6, v5_7, s5_8, s5_9, qc9))))))) else (some (.inr ((v5_2, v5_3, v5_4, v5_5, v5_6, v5_7, s5_8, s5_9, qc6))))) else (some (.inr ((v5_2, v5_3, v5_4, v5_5, v5_6, v5_7, s5_8, s5_9, q5_a0))))
def r4_ack.s4 (k : Nat) (v3_0 : Int) : (Int × Int × Int × Int × Int × Int × Int × Bool × (List Int) × (List (Int × Int)) × ((List Int) × Int × Int × Int)) → Option (Sum (Int × Int × Int × Int × Int × Int × Int × Bool × (List Int) × (List (Int × Int)) × ((List Int) × Int × Int × Int)) (Int × Int × Int × Int × Int × Bool × (List Int) × (List (Int × Int)) × ((List Int) × Int × Int × Int))) := fun (v4_0, v4_1, v4_2, v4_3, v4_4, v4_5, v4_6, v4_7, s4_8, s4_9, q4_a0) => bif decide (v4_1 ≤ v3_0) then ((r4_ok.F k q4_a0).bind fun (v5_0, qc5) => bif v5_0 then (bif decide (0 < v4_1) then ((r4_number.F k qc5).bind fun (v7_0, qc7) => bif decide (IntKind.i64.wrap (v4_0 - 2) < v7_0) then ((r4_fails.F k qc7 5 qc5.2.1).bind fun qc8 => (r4_number.F k qc8).bind fun (v10_0, qc10) => bif decide (IntKind.i64.wrap (IntKind.i64.wrap (v4_0 - 2) - v7_0) < v10_0) then ((r4_fails.F k qc10 5 qc8.2.1).bind fun qc11 => (r4_ok.F k qc11).bind fun (v12_0, qc12) => bif v12_0 then (bif decide (((([(IntKind.i64.wrap (IntKind.i64.wrap (IntKind.i64.wrap (v4_0 - 2) - v7_0) - v10_0), IntKind.i64.wrap (IntKind.i64.wrap (v4_0 - 2) - v7_0))] : List (Int × Int))).length + s4_9.length) * 16 ≤ 140737488355328) then (some (.inl ((IntKind.i64.wrap (IntKind.i64.wrap (IntKind.i64.wrap (v4_0 - 2) - v7_0) - v10_0), IntKind.i64.wrap (v4_1 + 1), v4_2, v4_3, v4_4, v4_5, v4_6, v4_7, s4_8, (([(IntKind.i64.wrap (IntKind.i64.wrap (IntKind.i64.wrap (v4_0 - 2) - v7_0) - v10_0), IntKind.i64.wrap (IntKind.i64.wrap (v4_0 - 2) - v7_0))] : List (Int × Int)) ++ s4_9), qc12)))) else none) else (some (.inl ((v4_0, IntKind.i64.wrap (v4_1 + 1), v4_2, v4_3, v4_4, v4_5, v4_6, v4_7, s4_8, s4_9, qc12))))) else ((r4_ok.F k qc10).bind fun (v11_0, qc11) => bif v11_0 then (bif decide (((([(IntKind.i64.wrap (IntKind.i64.wrap (IntKind.i64.wrap (v4_0 - 2) - v7_0) - v10_0), IntKind.i64.wrap (IntKind.i64.wrap (v4_0 - 2) - v7_0))] : List (Int × Int))).length + s4_9.length) * 16 ≤ 140737488355328) then (some (.inl ((IntKind.i64.wrap (IntKind.i64.wrap (IntKind.i64.wrap (v4_0 - 2) - v7_0) - v10_0), IntKind.i64.wrap (v4_1 + 1), v4_2, v4_3, v4_4, v4_5, v4_6, v4_7, s4_8, (([(IntKind.i64.wrap (IntKind.i64.wrap (IntKind.i64.wrap (v4_0 - 2) - v7_0) - v10_0), IntKind.i64.wrap (IntKind.i64.wrap (v4_0 - 2) - v7_0))] : List (Int × Int)) ++ s4_9), qc11)))) else none) else (some (.inl ((v4_0, IntKind.i64.wrap (v4_1 + 1), v4_2, v4_3, v4_4, v4_5, v4_6, v4_7, s4_8, s4_9, qc11)))))) else ((r4_number.F k qc7).bind fun (v9_0, qc9) => bif decide (IntKind.i64.wrap (IntKind.i64.wrap (v4_0 - 2) - v7_0) < v9_0) then ((r4_fails.F k qc9 5 qc7.2.1).bind fun qc10 => (r4_ok.F k qc10).bind fun (v11_0, qc11) => bif v11_0 then (bif decide (((([(IntKind.i64.wrap (IntKind.i64.wrap (IntKind.i64.wrap (v4_0 - 2) - v7_0) - v9_0), IntKind.i64.wrap (IntKind.i64.wrap (v4_0 - 2) - v7_0))] : List (Int × Int))).length + s4_9.length) * 16 ≤ 140737488355328) then (some (.inl ((IntKind.i64.wrap (IntKind.i64.wrap (IntKind.i64.wrap (v4_0 - 2) - v7_0) - v9_0), IntKind.i64.wrap (v4_1 + 1), v4_2, v4_3, v4_4, v4_5, v4_6, v4_7, s4_8, (([(IntKind.i64.wrap (IntKind.i64.wrap (IntKind.i64.wrap (v4_0 - 2) - v7_0) - v9_0), IntKind.i64.wrap (IntKind.i64.wrap (v4_0 - 2) - v7_0))] : List (Int × Int)) ++ s4_9), qc11)))) else none) else (some (.inl ((v4_0, IntKind.i64.wrap (v4_1 + 1), v4_2, v4_3, v4_4, v4_5, v4_6, v4_7, s4_8, s4_9, qc11))))) else ((r4_ok.F k qc9).bind fun (v10_0, qc10) => bif v10_0 then (bif decide (((([(IntKind.i64.wrap (IntKind.i64.wrap (IntKind.i64.wrap (v4_0 - 2) - v7_0) - v9_0), IntKind.i64.wrap (IntKind.i64.wrap (v4_0 - 2) - v7_0))] : List (Int × Int))).length + s4_9.length) * 16 ≤ 140737488355328) then (some (.inl ((IntKind.i64.wrap (IntKind.i64.wrap (IntKind.i64.wrap (v4_0 - 2) - v7_0) - v9_0), IntKind.i64.wrap (v4_1 + 1), v4_2, v4_3, v4_4, v4_5, v4_6, v4_7, s4_8, (([(IntKind.i64.wrap (IntKind.i64.wrap (IntKind.i64.wrap (v4_0 - 2) - v7_0) - v9_0), IntKind.i64.wrap (IntKind.i64.wrap (v4_0 - 2) - v7_0))] : List (Int × Int)) ++ s4_9), qc10)))) else none) else (some (.inl ((v4_0, IntKind.i64.wrap (v4_1 + 1), v4_2, v4_3, v4_4, v4_5, v4_6, v4_7, s4_8, s4_9, qc10))))))) else ((r4_number.F k qc5).bind fun (v7_0, qc7) => bif decide (v4_0 < v7_0) then ((r4_fails.F k qc7 5 qc5.2.1).bind fun qc8 => (r4_ok.F k qc8).bind fun (v9_0, qc9) => bif v9_0 then (bif decide (((([(IntKind.i64.wrap (v4_0 - v7_0), v4_0)] : List (Int × Int))).length + s4_9.length) * 16 ≤ 140737488355328) then (some (.inl ((IntKind.i64.wrap (v4_0 - v7_0), IntKind.i64.wrap (v4_1 + 1), v4_2, v4_3, v4_4, v4_5, v4_6, v4_7, s4_8, (([(IntKind.i64.wrap (v4_0 - v7_0), v4_0)] : List (Int × Int)) ++ s4_9), qc9)))) else none) else (some (.inl ((v4_0, IntKind.i64.wrap (v4_1 + 1), v4_2, v4_3, v4_4, v4_5, v4_6, v4_7, s4_8, s4_9, qc9))))) else ((r4_ok.F k qc7).bind fun (v8_0, qc8) => bif v8_0 then (bif decide (((([(IntKind.i64.wrap (v4_0 - v7_0), v4_0)] : List (Int × Int))).length + s4_9.length) * 16 ≤ 140737488355328) then (some (.inl ((IntKind.i64.wrap (v4_0 - v7_0), IntKind.i64.wrap (v4_1 + 1), v4_2, v4_3, v4_4, v4_5, v4_6, v4_7, s4_8, (([(IntKind.i64.wrap (v4_0 - v7_0), v4_0)] : List (Int × Int)) ++ s4_9), qc8)))) else none) else (some (.inl ((v4_0, IntKind.i64.wrap (v4_1 + 1), v4_2, v4_3, v4_4, v4_5, v4_6, v4_7, s4_8, s4_9, qc8))))))) else (some (.inr ((v4_2, v4_3, v4_4, v4_5, v4_6, v4_7, s4_8, s4_9, qc5))))) else (some (.inr ((v4_2, v4_3, v4_4, v4_5, v4_6, v4_7, s4_8, s4_9, q4_a0))))
def r4_ack.F (k : Nat) (q0 : (List Int) × Int × Int × Int) : Option (Int × Int × Int × Int × Int × Bool × (List Int) × (List (Int × Int)) × ((List Int) × Int × Int × Int)) := (r4_number.F k q0).bind fun (v0_0, qc0) => (r4_number.F k qc0).bind fun (v1_0, qc1) => (r4_number.F k qc1).bind fun (v3_0, qc3) => bif decide (32 ≤ v3_0) then ((r4_fails.F k qc3 6 qc1.2.1).bind fun qc4 => iter (r4_ack.s5 k v3_0) k (v0_0, 0, 2, 0, 0, v1_0, 0, false, [], [], qc4)) else (iter (r4_ack.s4 k v3_0) k (v0_0, 0, 2, 0, 0, v1_0, 0, false, [], [], qc3))
abbrev r4_ack.A : Nat → LA := fun r => if r = 9 then ⟨[(4, false, [Lf.i .i64]), (7, false, [Lf.i .i64])], [(2001, [Lf.i .i64, Lf.i .i64, Lf.i .i64, Lf.i .i64, Lf.i .i64, Lf.b, Lf.sl, Lf.sl])]⟩ else ⟨[], []⟩
set_option maxHeartbeats 4000000 in
theorem r4_ack.t (a0 : Option Addr) : tree Try.prog r4_ack.A noC Try.f48 [AV.v (Value.pointer a0)] [] =
  .call 49 ([AV.v (Value.pointer a0)]) ([]) (Sh.one) ([Lf.i .i64]) ([]) (fun x0 =>
   .call 49 ([AV.v (Value.pointer a0)]) ([]) (Sh.one) ([Lf.i .i64]) ([]) (fun x1 =>
    .need (Option.isSome a0) (
    .need (Option.isSome a0) (
    .ld (Option.map (fun x => Addr.add x 1) a0) ([Lf.i .i64]) (fun x2 =>
     .call 49 ([AV.v (Value.pointer a0)]) ([]) (Sh.one) ([Lf.i .i64]) ([]) (fun x3 =>
      bif decide (32 ≤ x3.1) then (
       .call 31 ([AV.v (Value.pointer a0), AV.v (.int .i64 6), AV.v (.int .i64 x2.1)]) ([]) (Sh.tup []) ([]) ([]) (fun x4 =>
        .loop ([Lf.i .i64, Lf.i .i64, Lf.i .i64, Lf.i .i64, Lf.i .i64, Lf.i .i64, Lf.i .i64, Lf.b, Lf.sl, Lf.sl]) ((x0.1, 0, 2, 0, 0, x1.1, 0, false, (none, 0, 0), (none, 0, 0), PUnit.unit)) 0 (fun x5 =>
         bif decide (x5.2.1 ≤ x3.1) then (
          .call 33 ([AV.v (Value.pointer a0)]) ([]) (Sh.one) ([Lf.b]) ([]) (fun x6 =>
           bif x6.1 then (
            bif decide (0 < x5.2.1) then (
             .need (Option.isSome a0) (
             .need (Option.isSome a0) (
             .ld (Option.map (fun x => Addr.add x 1) a0) ([Lf.i .i64]) (fun x7 =>
              .call 49 ([AV.v (Value.pointer a0)]) ([]) (Sh.one) ([Lf.i .i64]) ([]) (fun x8 =>
               bif decide (IntKind.i64.wrap (x5.1 - 2) < x8.1) then (
                .call 31 ([AV.v (Value.pointer a0), AV.v (.int .i64 5), AV.v (.int .i64 x7.1)]) ([]) (Sh.tup []) ([]) ([]) (fun x9 =>
                 .need (Option.isSome a0) (
                 .need (Option.isSome a0) (
                 .ld (Option.map (fun x => Addr.add x 1) a0) ([Lf.i .i64]) (fun x10 =>
                  .call 49 ([AV.v (Value.pointer a0)]) ([]) (Sh.one) ([Lf.i .i64]) ([]) (fun x11 =>
                   bif decide (IntKind.i64.wrap (IntKind.i64.wrap (x5.1 - 2) - x8.1) < x11.1) then (
                    .call 31 ([AV.v (Value.pointer a0), AV.v (.int .i64 5), AV.v (.int .i64 x10.1)]) ([]) (Sh.tup []) ([]) ([]) (fun x12 =>
                     .call 33 ([AV.v (Value.pointer a0)]) ([]) (Sh.one) ([Lf.b]) ([]) (fun x13 =>
                      bif x13.1 then (
                       .sem (Instr.buildSlice 34 1 { toList := [(0, Value.agg { toList := [Value.int IntKind.i64 (IntKind.i64.wrap (IntKind.i64.wrap (IntKind.i64.wrap (x5.1 - 2) - x8.1) - x11.1)), Value.int IntKind.i64 (IntKind.i64.wrap (IntKind.i64.wrap (x5.1 - 2) - x8.1))] })] }) ([Lf.sl]) (Sh.one) (fun x14 =>
                        .sem (Builtin.append_ { toList := [34, 34] } 34 { toList := [Value.slice x14.1.1 x14.1.2.1 x14.1.2.2, Value.slice x5.2.2.2.2.2.2.2.2.2.1.1 x5.2.2.2.2.2.2.2.2.2.1.2.1 x5.2.2.2.2.2.2.2.2.2.1.2.2] }) ([Lf.sl]) (Sh.one) (fun x15 =>
                         .again 0 ([Lf.i .i64, Lf.i .i64, Lf.i .i64, Lf.i .i64, Lf.i .i64, Lf.i .i64, Lf.i .i64, Lf.b, Lf.sl, Lf.sl]) ((IntKind.i64.wrap (IntKind.i64.wrap (IntKind.i64.wrap (x5.1 - 2) - x8.1) - x11.1), IntKind.i64.wrap (x5.2.1 + 1), x5.2.2.1, x5.2.2.2.1, x5.2.2.2.2.1, x5.2.2.2.2.2.1, x5.2.2.2.2.2.2.1, x5.2.2.2.2.2.2.2.1, (x5.2.2.2.2.2.2.2.2.1.1, x5.2.2.2.2.2.2.2.2.1.2.1, x5.2.2.2.2.2.2.2.2.1.2.2), (x15.1.1, x15.1.2.1, x15.1.2.2), PUnit.unit)))))
                      else (
                       .again 0 ([Lf.i .i64, Lf.i .i64, Lf.i .i64, Lf.i .i64, Lf.i .i64, Lf.i .i64, Lf.i .i64, Lf.b, Lf.sl, Lf.sl]) ((x5.1, IntKind.i64.wrap (x5.2.1 + 1), x5.2.2.1, x5.2.2.2.1, x5.2.2.2.2.1, x5.2.2.2.2.2.1, x5.2.2.2.2.2.2.1, x5.2.2.2.2.2.2.2.1, (x5.2.2.2.2.2.2.2.2.1.1, x5.2.2.2.2.2.2.2.2.1.2.1, x5.2.2.2.2.2.2.2.2.1.2.2), (x5.2.2.2.2.2.2.2.2.2.1.1, x5.2.2.2.2.2.2.2.2.2.1.2.1, x5.2.2.2.2.2.2.2.2.2.1.2.2), PUnit.unit))))))
                   else (
                    .call 33 ([AV.v (Value.pointer a0)]) ([]) (Sh.one) ([Lf.b]) ([]) (fun x12 =>
                     bif x12.1 then (
                      .sem (Instr.buildSlice 34 1 { toList := [(0, Value.agg { toList := [Value.int IntKind.i64 (IntKind.i64.wrap (IntKind.i64.wrap (IntKind.i64.wrap (x5.1 - 2) - x8.1) - x11.1)), Value.int IntKind.i64 (IntKind.i64.wrap (IntKind.i64.wrap (x5.1 - 2) - x8.1))] })] }) ([Lf.sl]) (Sh.one) (fun x13 =>
                       .sem (Builtin.append_ { toList := [34, 34] } 34 { toList := [Value.slice x13.1.1 x13.1.2.1 x13.1.2.2, Value.slice x5.2.2.2.2.2.2.2.2.2.1.1 x5.2.2.2.2.2.2.2.2.2.1.2.1 x5.2.2.2.2.2.2.2.2.2.1.2.2] }) ([Lf.sl]) (Sh.one) (fun x14 =>
                        .again 0 ([Lf.i .i64, Lf.i .i64, Lf.i .i64, Lf.i .i64, Lf.i .i64, Lf.i .i64, Lf.i .i64, Lf.b, Lf.sl, Lf.sl]) ((IntKind.i64.wrap (IntKind.i64.wrap (IntKind.i64.wrap (x5.1 - 2) - x8.1) - x11.1), IntKind.i64.wrap (x5.2.1 + 1), x5.2.2.1, x5.2.2.2.1, x5.2.2.2.2.1, x5.2.2.2.2.2.1, x5.2.2.2.2.2.2.1, x5.2.2.2.2.2.2.2.1, (x5.2.2.2.2.2.2.2.2.1.1, x5.2.2.2.2.2.2.2.2.1.2.1, x5.2.2.2.2.2.2.2.2.1.2.2), (x14.1.1, x14.1.2.1, x14.1.2.2), PUnit.unit)))))
                     else (
                      .again 0 ([Lf.i .i64, Lf.i .i64, Lf.i .i64, Lf.i .i64, Lf.i .i64, Lf.i .i64, Lf.i .i64, Lf.b, Lf.sl, Lf.sl]) ((x5.1, IntKind.i64.wrap (x5.2.1 + 1), x5.2.2.1, x5.2.2.2.1, x5.2.2.2.2.1, x5.2.2.2.2.2.1, x5.2.2.2.2.2.2.1, x5.2.2.2.2.2.2.2.1, (x5.2.2.2.2.2.2.2.2.1.1, x5.2.2.2.2.2.2.2.2.1.2.1, x5.2.2.2.2.2.2.2.2.1.2.2), (x5.2.2.2.2.2.2.2.2.2.1.1, x5.2.2.2.2.2.2.2.2.2.1.2.1, x5.2.2.2.2.2.2.2.2.2.1.2.2), PUnit.unit)))))))))))
               else (
                .need (Option.isSome a0) (
                .need (Option.isSome a0) (
                .ld (Option.map (fun x => Addr.add x 1) a0) ([Lf.i .i64]) (fun x9 =>
                 .call 49 ([AV.v (Value.pointer a0)]) ([]) (Sh.one) ([Lf.i .i64]) ([]) (fun x10 =>
                  bif decide (IntKind.i64.wrap (IntKind.i64.wrap (x5.1 - 2) - x8.1) < x10.1) then (
                   .call 31 ([AV.v (Value.pointer a0), AV.v (.int .i64 5), AV.v (.int .i64 x9.1)]) ([]) (Sh.tup []) ([]) ([]) (fun x11 =>
                    .call 33 ([AV.v (Value.pointer a0)]) ([]) (Sh.one) ([Lf.b]) ([]) (fun x12 =>
                     bif x12.1 then (
                      .sem (Instr.buildSlice 34 1 { toList := [(0, Value.agg { toList := [Value.int IntKind.i64 (IntKind.i64.wrap (IntKind.i64.wrap (IntKind.i64.wrap (x5.1 - 2) - x8.1) - x10.1)), Value.int IntKind.i64 (IntKind.i64.wrap (IntKind.i64.wrap (x5.1 - 2) - x8.1))] })] }) ([Lf.sl]) (Sh.one) (fun x13 =>
                       .sem (Builtin.append_ { toList := [34, 34] } 34 { toList := [Value.slice x13.1.1 x13.1.2.1 x13.1.2.2, Value.slice x5.2.2.2.2.2.2.2.2.2.1.1 x5.2.2.2.2.2.2.2.2.2.1.2.1 x5.2.2.2.2.2.2.2.2.2.1.2.2] }) ([Lf.sl]) (Sh.one) (fun x14 =>
                        .again 0 ([Lf.i .i64, Lf.i .i64, Lf.i .i64, Lf.i .i64, Lf.i .i64, Lf.i .i64, Lf.i .i64, Lf.b, Lf.sl, Lf.sl]) ((IntKind.i64.wrap (IntKind.i64.wrap (IntKind.i64.wrap (x5.1 - 2) - x8.1) - x10.1), IntKind.i64.wrap (x5.2.1 + 1), x5.2.2.1, x5.2.2.2.1, x5.2.2.2.2.1, x5.2.2.2.2.2.1, x5.2.2.2.2.2.2.1, x5.2.2.2.2.2.2.2.1, (x5.2.2.2.2.2.2.2.2.1.1, x5.2.2.2.2.2.2.2.2.1.2.1, x5.2.2.2.2.2.2.2.2.1.2.2), (x14.1.1, x14.1.2.1, x14.1.2.2), PUnit.unit)))))
                     else (
                      .again 0 ([Lf.i .i64, Lf.i .i64, Lf.i .i64, Lf.i .i64, Lf.i .i64, Lf.i .i64, Lf.i .i64, Lf.b, Lf.sl, Lf.sl]) ((x5.1, IntKind.i64.wrap (x5.2.1 + 1), x5.2.2.1, x5.2.2.2.1, x5.2.2.2.2.1, x5.2.2.2.2.2.1, x5.2.2.2.2.2.2.1, x5.2.2.2.2.2.2.2.1, (x5.2.2.2.2.2.2.2.2.1.1, x5.2.2.2.2.2.2.2.2.1.2.1, x5.2.2.2.2.2.2.2.2.1.2.2), (x5.2.2.2.2.2.2.2.2.2.1.1, x5.2.2.2.2.2.2.2.2.2.1.2.1, x5.2.2.2.2.2.2.2.2.2.1.2.2), PUnit.unit))))))
                  else (
                   .call 33 ([AV.v (Value.pointer a0)]) ([]) (Sh.one) ([Lf.b]) ([]) (fun x11 =>
                    bif x11.1 then (
                     .sem (Instr.buildSlice 34 1 { toList := [(0, Value.agg { toList := [Value.int IntKind.i64 (IntKind.i64.wrap (IntKind.i64.wrap (IntKind.i64.wrap (x5.1 - 2) - x8.1) - x10.1)), Value.int IntKind.i64 (IntKind.i64.wrap (IntKind.i64.wrap (x5.1 - 2) - x8.1))] })] }) ([Lf.sl]) (Sh.one) (fun x12 =>
                      .sem (Builtin.append_ { toList := [34, 34] } 34 { toList := [Value.slice x12.1.1 x12.1.2.1 x12.1.2.2, Value.slice x5.2.2.2.2.2.2.2.2.2.1.1 x5.2.2.2.2.2.2.2.2.2.1.2.1 x5.2.2.2.2.2.2.2.2.2.1.2.2] }) ([Lf.sl]) (Sh.one) (fun x13 =>
                       .again 0 ([Lf.i .i64, Lf.i .i64, Lf.i .i64, Lf.i .i64, Lf.i .i64, Lf.i .i64, Lf.i .i64, Lf.b, Lf.sl, Lf.sl]) ((IntKind.i64.wrap (IntKind.i64.wrap (IntKind.i64.wrap (x5.1 - 2) - x8.1) - x10.1), IntKind.i64.wrap (x5.2.1 + 1), x5.2.2.1, x5.2.2.2.1, x5.2.2.2.2.1, x5.2.2.2.2.2.1, x5.2.2.2.2.2.2.1, x5.2.2.2.2.2.2.2.1, (x5.2.2.2.2.2.2.2.2.1.1, x5.2.2.2.2.2.2.2.2.1.2.1, x5.2.2.2.2.2.2.2.2.1.2.2), (x13.1.1, x13.1.2.1, x13.1.2.2), PUnit.unit)))))
                    else (
                     .again 0 ([Lf.i .i64, Lf.i .i64, Lf.i .i64, Lf.i .i64, Lf.i .i64, Lf.i .i64, Lf.i .i64, Lf.b, Lf.sl, Lf.sl]) ((x5.1, IntKind.i64.wrap (x5.2.1 + 1), x5.2.2.1, x5.2.2.2.1, x5.2.2.2.2.1, x5.2.2.2.2.2.1, x5.2.2.2.2.2.2.1, x5.2.2.2.2.2.2.2.1, (x5.2.2.2.2.2.2.2.2.1.1, x5.2.2.2.2.2.2.2.2.1.2.1, x5.2.2.2.2.2.2.2.2.1.2.2), (x5.2.2.2.2.2.2.2.2.2.1.1, x5.2.2.2.2.2.2.2.2.2.1.2.1, x5.2.2.2.2.2.2.2.2.2.1.2.2), PUnit.unit)))))))))))))))
            else (
             .need (Option.isSome a0) (
             .need (Option.isSome a0) (
             .ld (Option.map (fun x => Addr.add x 1) a0) ([Lf.i .i64]) (fun x7 =>
              .call 49 ([AV.v (Value.pointer a0)]) ([]) (Sh.one) ([Lf.i .i64]) ([]) (fun x8 =>
               bif decide (x5.1 < x8.1) then (
                .call 31 ([AV.v (Value.pointer a0), AV.v (.int .i64 5), AV.v (.int .i64 x7.1)]) ([]) (Sh.tup []) ([]) ([]) (fun x9 =>
                 .call 33 ([AV.v (Value.pointer a0)]) ([]) (Sh.one) ([Lf.b]) ([]) (fun x10 =>
                  bif x10.1 then (
                   .sem (Instr.buildSlice 34 1 { toList := [(0, Value.agg { toList := [Value.int IntKind.i64 (IntKind.i64.wrap (x5.1 - x8.1)), Value.int IntKind.i64 x5.1] })] }) ([Lf.sl]) (Sh.one) (fun x11 =>
                    .sem (Builtin.append_ { toList := [34, 34] } 34 { toList := [Value.slice x11.1.1 x11.1.2.1 x11.1.2.2, Value.slice x5.2.2.2.2.2.2.2.2.2.1.1 x5.2.2.2.2.2.2.2.2.2.1.2.1 x5.2.2.2.2.2.2.2.2.2.1.2.2] }) ([Lf.sl]) (Sh.one) (fun x12 =>
                     .again 0 ([Lf.i .i64, Lf.i .i64, Lf.i .i64, Lf.i .i64, Lf.i .i64, Lf.i .i64, Lf.i .i64, Lf.b, Lf.sl, Lf.sl]) ((IntKind.i64.wrap (x5.1 - x8.1), IntKind.i64.wrap (x5.2.1 + 1), x5.2.2.1, x5.2.2.2.1, x5.2.2.2.2.1, x5.2.2.2.2.2.1, x5.2.2.2.2.2.2.1, x5.2.2.2.2.2.2.2.1, (x5.2.2.2.2.2.2.2.2.1.1, x5.2.2.2.2.2.2.2.2.1.2.1, x5.2.2.2.2.2.2.2.2.1.2.2), (x12.1.1, x12.1.2.1, x12.1.2.2), PUnit.unit)))))
                  else (
                   .again 0 ([Lf.i .i64, Lf.i .i64, Lf.i .i64, Lf.i .i64, Lf.i .i64, Lf.i .i64, Lf.i .i64, Lf.b, Lf.sl, Lf.sl]) ((x5.1, IntKind.i64.wrap (x5.2.1 + 1), x5.2.2.1, x5.2.2.2.1, x5.2.2.2.2.1, x5.2.2.2.2.2.1, x5.2.2.2.2.2.2.1, x5.2.2.2.2.2.2.2.1, (x5.2.2.2.2.2.2.2.2.1.1, x5.2.2.2.2.2.2.2.2.1.2.1, x5.2.2.2.2.2.2.2.2.1.2.2), (x5.2.2.2.2.2.2.2.2.2.1.1, x5.2.2.2.2.2.2.2.2.2.1.2.1, x5.2.2.2.2.2.2.2.2.2.1.2.2), PUnit.unit))))))
               else (
                .call 33 ([AV.v (Value.pointer a0)]) ([]) (Sh.one) ([Lf.b]) ([]) (fun x9 =>
                 bif x9.1 then (
                  .sem (Instr.buildSlice 34 1 { toList := [(0, Value.agg { toList := [Value.int IntKind.i64 (IntKind.i64.wrap (x5.1 - x8.1)), Value.int IntKind.i64 x5.1] })] }) ([Lf.sl]) (Sh.one) (fun x10 =>
                   .sem (Builtin.append_ { toList := [34, 34] } 34 { toList := [Value.slice x10.1.1 x10.1.2.1 x10.1.2.2, Value.slice x5.2.2.2.2.2.2.2.2.2.1.1 x5.2.2.2.2.2.2.2.2.2.1.2.1 x5.2.2.2.2.2.2.2.2.2.1.2.2] }) ([Lf.sl]) (Sh.one) (fun x11 =>
                    .again 0 ([Lf.i .i64, Lf.i .i64, Lf.i .i64, Lf.i .i64, Lf.i .i64, Lf.i .i64, Lf.i .i64, Lf.b, Lf.sl, Lf.sl]) ((IntKind.i64.wrap (x5.1 - x8.1), IntKind.i64.wrap (x5.2.1 + 1), x5.2.2.1, x5.2.2.2.1, x5.2.2.2.2.1, x5.2.2.2.2.2.1, x5.2.2.2.2.2.2.1, x5.2.2.2.2.2.2.2.1, (x5.2.2.2.2.2.2.2.2.1.1, x5.2.2.2.2.2.2.2.2.1.2.1, x5.2.2.2.2.2.2.2.2.1.2.2), (x11.1.1, x11.1.2.1, x11.1.2.2), PUnit.unit)))))
                 else (
                  .again 0 ([Lf.i .i64, Lf.i .i64, Lf.i .i64, Lf.i .i64, Lf.i .i64, Lf.i .i64, Lf.i .i64, Lf.b, Lf.sl, Lf.sl]) ((x5.1, IntKind.i64.wrap (x5.2.1 + 1), x5.2.2.1, x5.2.2.2.1, x5.2.2.2.2.1, x5.2.2.2.2.2.1, x5.2.2.2.2.2.2.1, x5.2.2.2.2.2.2.2.1, (x5.2.2.2.2.2.2.2.2.1.1, x5.2.2.2.2.2.2.2.2.1.2.1, x5.2.2.2.2.2.2.2.2.1.2.2), (x5.2.2.2.2.2.2.2.2.2.1.1, x5.2.2.2.2.2.2.2.2.2.1.2.1, x5.2.2.2.2.2.2.2.2.2.1.2.2), PUnit.unit)))))))))))
           else (
            .done (AV.agg [AV.v (.int .i64 x5.2.2.1), AV.v (.int .i64 x5.2.2.2.1), AV.v (.int .i64 x5.2.2.2.2.1), AV.v (.int .i64 x5.2.2.2.2.2.1), AV.v (.int .i64 x5.2.2.2.2.2.2.1), AV.v (Value.bool x5.2.2.2.2.2.2.2.1), AV.v (Value.slice x5.2.2.2.2.2.2.2.2.1.1 x5.2.2.2.2.2.2.2.2.1.2.1 x5.2.2.2.2.2.2.2.2.1.2.2), AV.v (Value.slice x5.2.2.2.2.2.2.2.2.2.1.1 x5.2.2.2.2.2.2.2.2.2.1.2.1 x5.2.2.2.2.2.2.2.2.2.1.2.2)]) ([]))))
         else (
          .done (AV.agg [AV.v (.int .i64 x5.2.2.1), AV.v (.int .i64 x5.2.2.2.1), AV.v (.int .i64 x5.2.2.2.2.1), AV.v (.int .i64 x5.2.2.2.2.2.1), AV.v (.int .i64 x5.2.2.2.2.2.2.1), AV.v (Value.bool x5.2.2.2.2.2.2.2.1), AV.v (Value.slice x5.2.2.2.2.2.2.2.2.1.1 x5.2.2.2.2.2.2.2.2.1.2.1 x5.2.2.2.2.2.2.2.2.1.2.2), AV.v (Value.slice x5.2.2.2.2.2.2.2.2.2.1.1 x5.2.2.2.2.2.2.2.2.2.1.2.1 x5.2.2.2.2.2.2.2.2.2.1.2.2)]) ([])))))
      else (
       .loop ([Lf.i .i64, Lf.i .i64, Lf.i .i64, Lf.i .i64, Lf.i .i64, Lf.i .i64, Lf.i .i64, Lf.b, Lf.sl, Lf.sl]) ((x0.1, 0, 2, 0, 0, x1.1, 0, false, (none, 0, 0), (none, 0, 0), PUnit.unit)) 0 (fun x4 =>
        bif decide (x4.2.1 ≤ x3.1) then (
         .call 33 ([AV.v (Value.pointer a0)]) ([]) (Sh.one) ([Lf.b]) ([]) (fun x5 =>
          bif x5.1 then (
           bif decide (0 < x4.2.1) then (
            .need (Option.isSome a0) (
            .need (Option.isSome a0) (
            .ld (Option.map (fun x => Addr.add x 1) a0) ([Lf.i .i64]) (fun x6 =>
             .call 49 ([AV.v (Value.pointer a0)]) ([]) (Sh.one) ([Lf.i .i64]) ([]) (fun x7 =>
              bif decide (IntKind.i64.wrap (x4.1 - 2) < x7.1) then (
               .call 31 ([AV.v (Value.pointer a0), AV.v (.int .i64 5), AV.v (.int .i64 x6.1)]) ([]) (Sh.tup []) ([]) ([]) (fun x8 =>
                .need (Option.isSome a0) (
                .need (Option.isSome a0) (
                .ld (Option.map (fun x => Addr.add x 1) a0) ([Lf.i .i64]) (fun x9 =>
                 .call 49 ([AV.v (Value.pointer a0)]) ([]) (Sh.one) ([Lf.i .i64]) ([]) (fun x10 =>
                  bif decide (IntKind.i64.wrap (IntKind.i64.wrap (x4.1 - 2) - x7.1) < x10.1) then (
                   .call 31 ([AV.v (Value.pointer a0), AV.v (.int .i64 5), AV.v (.int .i64 x9.1)]) ([]) (Sh.tup []) ([]) ([]) (fun x11 =>
                    .call 33 ([AV.v (Value.pointer a0)]) ([]) (Sh.one) ([Lf.b]) ([]) (fun x12 =>
                     bif x12.1 then (
                      .sem (Instr.buildSlice 34 1 { toList := [(0, Value.agg { toList := [Value.int IntKind.i64 (IntKind.i64.wrap (IntKind.i64.wrap (IntKind.i64.wrap (x4.1 - 2) - x7.1) - x10.1)), Value.int IntKind.i64 (IntKind.i64.wrap (IntKind.i64.wrap (x4.1 - 2) - x7.1))] })] }) ([Lf.sl]) (Sh.one) (fun x13 =>
                       .sem (Builtin.append_ { toList := [34, 34] } 34 { toList := [Value.slice x13.1.1 x13.1.2.1 x13.1.2.2, Value.slice x4.2.2.2.2.2.2.2.2.2.1.1 x4.2.2.2.2.2.2.2.2.2.1.2.1 x4.2.2.2.2.2.2.2.2.2.1.2.2] }) ([Lf.sl]) (Sh.one) (fun x14 =>
                        .again 0 ([Lf.i .i64, Lf.i .i64, Lf.i .i64, Lf.i .i64, Lf.i .i64, Lf.i .i64, Lf.i .i64, Lf.b, Lf.sl, Lf.sl]) ((IntKind.i64.wrap (IntKind.i64.wrap (IntKind.i64.wrap (x4.1 - 2) - x7.1) - x10.1), IntKind.i64.wrap (x4.2.1 + 1), x4.2.2.1, x4.2.2.2.1, x4.2.2.2.2.1, x4.2.2.2.2.2.1, x4.2.2.2.2.2.2.1, x4.2.2.2.2.2.2.2.1, (x4.2.2.2.2.2.2.2.2.1.1, x4.2.2.2.2.2.2.2.2.1.2.1, x4.2.2.2.2.2.2.2.2.1.2.2), (x14.1.1, x14.1.2.1, x14.1.2.2), PUnit.unit)))))
                     else (
                      .again 0 ([Lf.i .i64, Lf.i .i64, Lf.i .i64, Lf.i .i64, Lf.i .i64, Lf.i .i64, Lf.i .i64, Lf.b, Lf.sl, Lf.sl]) ((x4.1, IntKind.i64.wrap (x4.2.1 + 1), x4.2.2.1, x4.2.2.2.1, x4.2.2.2.2.1, x4.2.2.2.2.2.1, x4.2.2.2.2.2.2.1, x4.2.2.2.2.2.2.2.1, (x4.2.2.2.2.2.2.2.2.1.1, x4.2.2.2.2.2.2.2.2.1.2.1, x4.2.2.2.2.2.2.2.2.1.2.2), (x4.2.2.2.2.2.2.2.2.2.1.1, x4.2.2.2.2.2.2.2.2.2.1.2.1, x4.2.2.2.2.2.2.2.2.2.1.2.2), PUnit.unit))))))
                  else (
                   .call 33 ([AV.v (Value.pointer a0)]) ([]) (Sh.one) ([Lf.b]) ([]) (fun x11 =>
                    bif x11.1 then (
                     .sem (Instr.buildSlice 34 1 { toList := [(0, Value.agg { toList := [Value.int IntKind.i64 (IntKind.i64.wrap (IntKind.i64.wrap (IntKind.i64.wrap (x4.1 - 2) - x7.1) - x10.1)), Value.int IntKind.i64 (IntKind.i64.wrap (IntKind.i64.wrap (x4.1 - 2) - x7.1))] })] }) ([Lf.sl]) (Sh.one) (fun x12 =>
                      .sem (Builtin.append_ { toList := [34, 34] } 34 { toList := [Value.slice x12.1.1 x12.1.2.1 x12.1.2.2, Value.slice x4.2.2.2.2.2.2.2.2.2.1.1 x4.2.2.2.2.2.2.2.2.2.1.2.1 x4.2.2.2.2.2.2.2.2.2.1.2.2] }) ([Lf.sl]) (Sh.one) (fun x13 =>
                       .again 0 ([Lf.i .i64, Lf.i .i64, Lf.i .i64, Lf.i .i64, Lf.i .i64, Lf.i .i64, Lf.i .i64, Lf.b, Lf.sl, Lf.sl]) ((IntKind.i64.wrap (IntKind.i64.wrap (IntKind.i64.wrap (x4.1 - 2) - x7.1) - x10.1), IntKind.i64.wrap (x4.2.1 + 1), x4.2.2.1, x4.2.2.2.1, x4.2.2.2.2.1, x4.2.2.2.2.2.1, x4.2.2.2.2.2.2.1, x4.2.2.2.2.2.2.2.1, (x4.2.2.2.2.2.2.2.2.1.1, x4.2.2.2.2.2.2.2.2.1.2.1, x4.2.2.2.2.2.2.2.2.1.2.2), (x13.1.1, x13.1.2.1, x13.1.2.2), PUnit.unit)))))
                    else (
                     .again 0 ([Lf.i .i64, Lf.i .i64, Lf.i .i64, Lf.i .i64, Lf.i .i64, Lf.i .i64, Lf.i .i64, Lf.b, Lf.sl, Lf.sl]) ((x4.1, IntKind.i64.wrap (x4.2.1 + 1), x4.2.2.1, x4.2.2.2.1, x4.2.2.2.2.1, x4.2.2.2.2.2.1, x4.2.2.2.2.2.2.1, x4.2.2.2.2.2.2.2.1, (x4.2.2.2.2.2.2.2.2.1.1, x4.2.2.2.2.2.2.2.2.1.2.1, x4.2.2.2.2.2.2.2.2.1.2.2), (x4.2.2.2.2.2.2.2.2.2.1.1, x4.2.2.2.2.2.2.2.2.2.1.2.1, x4.2.2.2.2.2.2.2.2.2.1.2.2), PUnit.unit)))))))))))
              else (
               .need (Option.isSome a0) (
               .need (Option.isSome a0) (
               .ld (Option.map (fun x => Addr.add x 1) a0) ([Lf.i .i64]) (fun x8 =>
                .call 49 ([AV.v (Value.pointer a0)]) ([]) (Sh.one) ([Lf.i .i64]) ([]) (fun x9 =>
                 bif decide (IntKind.i64.wrap (IntKind.i64.wrap (x4.1 - 2) - x7.1) < x9.1) then (
                  .call 31 ([AV.v (Value.pointer a0), AV.v (.int .i64 5), AV.v (.int .i64 x8.1)]) ([]) (Sh.tup []) ([]) ([]) (fun x10 =>
                   .call 33 ([AV.v (Value.pointer a0)]) ([]) (Sh.one) ([Lf.b]) ([]) (fun x11 =>
                    bif x11.1 then (
                     .sem (Instr.buildSlice 34 1 { toList := [(0, Value.agg { toList := [Value.int IntKind.i64 (IntKind.i64.wrap (IntKind.i64.wrap (IntKind.i64.wrap (x4.1 - 2) - x7.1) - x9.1)), Value.int IntKind.i64 (IntKind.i64.wrap (IntKind.i64.wrap (x4.1 - 2) - x7.1))] })] }) ([Lf.sl]) (Sh.one) (fun x12 =>
                      .sem (Builtin.append_ { toList := [34, 34] } 34 { toList := [Value.slice x12.1.1 x12.1.2.1 x12.1.2.2, Value.slice x4.2.2.2.2.2.2.2.2.2.1.1 x4.2.2.2.2.2.2.2.2.2.1.2.1 x4.2.2.2.2.2.2.2.2.2.1.2.2] }) ([Lf.sl]) (Sh.one) (fun x13 =>
                       .again 0 ([Lf.i .i64, Lf.i .i64, Lf.i .i64, Lf.i .i64, Lf.i .i64, Lf.i .i64, Lf.i .i64, Lf.b, Lf.sl, Lf.sl]) ((IntKind.i64.wrap (IntKind.i64.wrap (IntKind.i64.wrap (x4.1 - 2) - x7.1) - x9.1), IntKind.i64.wrap (x4.2.1 + 1), x4.2.2.1, x4.2.2.2.1, x4.2.2.2.2.1, x4.2.2.2.2.2.1, x4.2.2.2.2.2.2.1, x4.2.2.2.2.2.2.2.1, (x4.2.2.2.2.2.2.2.2.1.1, x4.2.2.2.2.2.2.2.2.1.2.1, x4.2.2.2.2.2.2.2.2.1.2.2), (x13.1.1, x13.1.2.1, x13.1.2.2), PUnit.unit)))))
                    else (
                     .again 0 ([Lf.i .i64, Lf.i .i64, Lf.i .i64, Lf.i .i64, Lf.i .i64, Lf.i .i64, Lf.i .i64, Lf.b, Lf.sl, Lf.sl]) ((x4.1, IntKind.i64.wrap (x4.2.1 + 1), x4.2.2.1, x4.2.2.2.1, x4.2.2.2.2.1, x4.2.2.2.2.2.1, x4.2.2.2.2.2.2.1, x4.2.2.2.2.2.2.2.1, (x4.2.2.2.2.2.2.2.2.1.1, x4.2.2.2.2.2.2.2.2.1.2.1, x4.2.2.2.2.2.2.2.2.1.2.2), (x4.2.2.2.2.2.2.2.2.2.1.1, x4.2.2.2.2.2.2.2.2.2.1.2.1, x4.2.2.2.2.2.2.2.2.2.1.2.2), PUnit.unit))))))
                 else (
                  .call 33 ([AV.v (Value.pointer a0)]) ([]) (Sh.one) ([Lf.b]) ([]) (fun x10 =>
                   bif x10.1 then (
                    .sem (Instr.buildSlice 34 1 { toList := [(0, Value.agg { toList := [Value.int IntKind.i64 (IntKind.i64.wrap (IntKind.i64.wrap (IntKind.i64.wrap (x4.1 - 2) - x7.1) - x9.1)), Value.int IntKind.i64 (IntKind.i64.wrap (IntKind.i64.wrap (x4.1 - 2) - x7.1))] })] }) ([Lf.sl]) (Sh.one) (fun x11 =>
                     .sem (Builtin.append_ { toList := [34, 34] } 34 { toList := [Value.slice x11.1.1 x11.1.2.1 x11.1.2.2, Value.slice x4.2.2.2.2.2.2.2.2.2.1.1 x4.2.2.2.2.2.2.2.2.2.1.2.1 x4.2.2.2.2.2.2.2.2.2.1.2.2] }) ([Lf.sl]) (Sh.one) (fun x12 =>
                      .again 0 ([Lf.i .i64, Lf.i .i64, Lf.i .i64, Lf.i .i64, Lf.i .i64, Lf.i .i64, Lf.i .i64, Lf.b, Lf.sl, Lf.sl]) ((IntKind.i64.wrap (IntKind.i64.wrap (IntKind.i64.wrap (x4.1 - 2) - x7.1) - x9.1), IntKind.i64.wrap (x4.2.1 + 1), x4.2.2.1, x4.2.2.2.1, x4.2.2.2.2.1, x4.2.2.2.2.2.1, x4.2.2.2.2.2.2.1, x4.2.2.2.2.2.2.2.1, (x4.2.2.2.2.2.2.2.2.1.1, x4.2.2.2.2.2.2.2.2.1.2.1, x4.2.2.2.2.2.2.2.2.1.2.2), (x12.1.1, x12.1.2.1, x12.1.2.2), PUnit.unit)))))
                   else (
                    .again 0 ([Lf.i .i64, Lf.i .i64, Lf.i .i64, Lf.i .i64, Lf.i .i64, Lf.i .i64, Lf.i .i64, Lf.b, Lf.sl, Lf.sl]) ((x4.1, IntKind.i64.wrap (x4.2.1 + 1), x4.2.2.1, x4.2.2.2.1, x4.2.2.2.2.1, x4.2.2.2.2.2.1, x4.2.2.2.2.2.2.1, x4.2.2.2.2.2.2.2.1, (x4.2.2.2.2.2.2.2.2.1.1, x4.2.2.2.2.2.2.2.2.1.2.1, x4.2.2.2.2.2.2.2.2.1.2.2), (x4.2.2.2.2.2.2.2.2.2.1.1, x4.2.2.2.2.2.2.2.2.2.1.2.1, x4.2.2.2.2.2.2.2.2.2.1.2.2), PUnit.unit)))))))))))))))
           else (
            .need (Option.isSome a0) (
            .need (Option.isSome a0) (
            .ld (Option.map (fun x => Addr.add x 1) a0) ([Lf.i .i64]) (fun x6 =>
             .call 49 ([AV.v (Value.pointer a0)]) ([]) (Sh.one) ([Lf.i .i64]) ([]) (fun x7 =>
              bif decide (x4.1 < x7.1) then (
               .call 31 ([AV.v (Value.pointer a0), AV.v (.int .i64 5), AV.v (.int .i64 x6.1)]) ([]) (Sh.tup []) ([]) ([]) (fun x8 =>
                .call 33 ([AV.v (Value.pointer a0)]) ([]) (Sh.one) ([Lf.b]) ([]) (fun x9 =>
                 bif x9.1 then (
                  .sem (Instr.buildSlice 34 1 { toList := [(0, Value.agg { toList := [Value.int IntKind.i64 (IntKind.i64.wrap (x4.1 - x7.1)), Value.int IntKind.i64 x4.1] })] }) ([Lf.sl]) (Sh.one) (fun x10 =>
                   .sem (Builtin.append_ { toList := [34, 34] } 34 { toList := [Value.slice x10.1.1 x10.1.2.1 x10.1.2.2, Value.slice x4.2.2.2.2.2.2.2.2.2.1.1 x4.2.2.2.2.2.2.2.2.2.1.2.1 x4.2.2.2.2.2.2.2.2.2.1.2.2] }) ([Lf.sl]) (Sh.one) (fun x11 =>
                    .again 0 ([Lf.i .i64, Lf.i .i64, Lf.i .i64, Lf.i .i64, Lf.i .i64, Lf.i .i64, Lf.i .i64, Lf.b, Lf.sl, Lf.sl]) ((IntKind.i64.wrap (x4.1 - x7.1), IntKind.i64.wrap (x4.2.1 + 1), x4.2.2.1, x4.2.2.2.1, x4.2.2.2.2.1, x4.2.2.2.2.2.1, x4.2.2.2.2.2.2.1, x4.2.2.2.2.2.2.2.1, (x4.2.2.2.2.2.2.2.2.1.1, x4.2.2.2.2.2.2.2.2.1.2.1, x4.2.2.2.2.2.2.2.2.1.2.2), (x11.1.1, x11.1.2.1, x11.1.2.2), PUnit.unit)))))
                 else (
                  .again 0 ([Lf.i .i64, Lf.i .i64, Lf.i .i64, Lf.i .i64, Lf.i .i64, Lf.i .i64, Lf.i .i64, Lf.b, Lf.sl, Lf.sl]) ((x4.1, IntKind.i64.wrap (x4.2.1 + 1), x4.2.2.1, x4.2.2.2.1, x4.2.2.2.2.1, x4.2.2.2.2.2.1, x4.2.2.2.2.2.2.1, x4.2.2.2.2.2.2.2.1, (x4.2.2.2.2.2.2.2.2.1.1, x4.2.2.2.2.2.2.2.2.1.2.1, x4.2.2.2.2.2.2.2.2.1.2.2), (x4.2.2.2.2.2.2.2.2.2.1.1, x4.2.2.2.2.2.2.2.2.2.1.2.1, x4.2.2.2.2.2.2.2.2.2.1.2.2), PUnit.unit))))))
              else (
               .call 33 ([AV.v (Value.pointer a0)]) ([]) (Sh.one) ([Lf.b]) ([]) (fun x8 =>
                bif x8.1 then (
                 .sem (Instr.buildSlice 34 1 { toList := [(0, Value.agg { toList := [Value.int IntKind.i64 (IntKind.i64.wrap (x4.1 - x7.1)), Value.int IntKind.i64 x4.1] })] }) ([Lf.sl]) (Sh.one) (fun x9 =>
                  .sem (Builtin.append_ { toList := [34, 34] } 34 { toList := [Value.slice x9.1.1 x9.1.2.1 x9.1.2.2, Value.slice x4.2.2.2.2.2.2.2.2.2.1.1 x4.2.2.2.2.2.2.2.2.2.1.2.1 x4.2.2.2.2.2.2.2.2.2.1.2.2] }) ([Lf.sl]) (Sh.one) (fun x10 =>
                   .again 0 ([Lf.i .i64, Lf.i .i64, Lf.i .i64, Lf.i .i64, Lf.i .i64, Lf.i .i64, Lf.i .i64, Lf.b, Lf.sl, Lf.sl]) ((IntKind.i64.wrap (x4.1 - x7.1), IntKind.i64.wrap (x4.2.1 + 1), x4.2.2.1, x4.2.2.2.1, x4.2.2.2.2.1, x4.2.2.2.2.2.1, x4.2.2.2.2.2.2.1, x4.2.2.2.2.2.2.2.1, (x4.2.2.2.2.2.2.2.2.1.1, x4.2.2.2.2.2.2.2.2.1.2.1, x4.2.2.2.2.2.2.2.2.1.2.2), (x10.1.1, x10.1.2.1, x10.1.2.2), PUnit.unit)))))
                else (
                 .again 0 ([Lf.i .i64, Lf.i .i64, Lf.i .i64, Lf.i .i64, Lf.i .i64, Lf.i .i64, Lf.i .i64, Lf.b, Lf.sl, Lf.sl]) ((x4.1, IntKind.i64.wrap (x4.2.1 + 1), x4.2.2.1, x4.2.2.2.1, x4.2.2.2.2.1, x4.2.2.2.2.2.1, x4.2.2.2.2.2.2.1, x4.2.2.2.2.2.2.2.1, (x4.2.2.2.2.2.2.2.2.1.1, x4.2.2.2.2.2.2.2.2.1.2.1, x4.2.2.2.2.2.2.2.2.1.2.2), (x4.2.2.2.2.2.2.2.2.2.1.1, x4.2.2.2.2.2.2.2.2.2.1.2.1, x4.2.2.2.2.2.2.2.2.2.1.2.2), PUnit.unit)))))))))))
          else (
           .done (AV.agg [AV.v (.int .i64 x4.2.2.1), AV.v (.int .i64 x4.2.2.2.1), AV.v (.int .i64 x4.2.2.2.2.1), AV.v (.int .i64 x4.2.2.2.2.2.1), AV.v (.int .i64 x4.2.2.2.2.2.2.1), AV.v (Value.bool x4.2.2.2.2.2.2.2.1), AV.v (Value.slice x4.2.2.2.2.2.2.2.2.1.1 x4.2.2.2.2.2.2.2.2.1.2.1 x4.2.2.2.2.2.2.2.2.1.2.2), AV.v (Value.slice x4.2.2.2.2.2.2.2.2.2.1.1 x4.2.2.2.2.2.2.2.2.2.1.2.1 x4.2.2.2.2.2.2.2.2.2.1.2.2)]) ([]))))
        else (
         .done (AV.agg [AV.v (.int .i64 x4.2.2.1), AV.v (.int .i64 x4.2.2.2.1), AV.v (.int .i64 x4.2.2.2.2.1), AV.v (.int .i64 x4.2.2.2.2.2.1), AV.v (.int .i64 x4.2.2.2.2.2.2.1), AV.v (Value.bool x4.2.2.2.2.2.2.2.1), AV.v (Value.slice x4.2.2.2.2.2.2.2.2.1.1 x4.2.2.2.2.2.2.2.2.1.2.1 x4.2.2.2.2.2.2.2.2.1.2.2), AV.v (Value.slice x4.2.2.2.2.2.2.2.2.2.1.1 x4.2.2.2.2.2.2.2.2.2.1.2.1 x4.2.2.2.2.2.2.2.2.2.1.2.2)]) ([])))))))))) := by kernel_rfl
set_option maxHeartbeats 4000000 in
theorem r4_ack.c (k : Nat) (a0 : Option Addr) (q0 : (List Int) × Int × Int × Int) (A0_0 : Option Addr) (c0_0 : Nat) (r : Int × Int × Int × Int × Int × Bool × (List Int) × (List (Int × Int)) × ((List Int) × Int × Int × Int)) (h : r4_ack.F k q0 = some r)  (w : World) (hW0 : OwnO 0 (fun _ => False) w 61 RW61 a0 1 [((A0_0, q0.1.length, c0_0), q0.2.1, q0.2.2.1, q0.2.2.2)]) (hS0_0 : SlR R23.row (r4_ack.S a0) w A0_0 c0_0 q0.1) : Calls Try.prog 48 (AV.gs id [AV.v (Value.pointer a0)]).toArray w fun e w' => ∃ (B6 : Option Addr) (d6 : Nat) (B7 : Option Addr) (d7 : Nat), e = .returned (((Sh.agg 8 : Sh).av (vs [Lf.i .i64, Lf.i .i64, Lf.i .i64, Lf.i .i64, Lf.i .i64, Lf.b, Lf.sl, Lf.sl] (r.1, r.2.1, r.2.2.1, r.2.2.2.1, r.2.2.2.2.1, r.2.2.2.2.2.1, (B6, (r.2.2.2.2.2.2.1).length, d6), (B7, (r.2.2.2.2.2.2.2.1).length, d7), ()))).g id) ∧ Fine (r4_ack.S a0) w (r4_ack.S a0) w' ∧ OwnO 0 (fun _ => False) w' 61 RW61 a0 1 [((A0_0, r.2.2.2.2.2.2.2.2.1.length, c0_0), r.2.2.2.2.2.2.2.2.2.1, r.2.2.2.2.2.2.2.2.2.2.1, r.2.2.2.2.2.2.2.2.2.2.2)] ∧ OwnF w.heap.size (fun b => b < w.heap.size) w' 5 R23 B6 d6 r.2.2.2.2.2.2.1 ∧ OwnF w.heap.size (fun b => b < w.heap.size) w' 42 R34 B7 d7 r.2.2.2.2.2.2.2.1 ∧ Dj B7 B6 ∧ r.2.2.2.2.2.2.2.2.1 = q0.1 := by
 refine enter0 mixed r4_ack.A noC [AV.v (Value.pointer a0)] Try.func48 rfl rfl rfl (fun hF => ?_)
 have hA_a0 : Option.isSome a0 = true := hW0.sl.some (by simp)
 have hN_a0 : Option.isNone a0 = false := by cases a0 <;> simp_all
 have hF : Fine (r4_ack.S a0) w (fun _ => False) w := ⟨rfl, rfl, rfl, Nat.le_refl _, fun _ _ _ => rfl, fun b h => h.elim⟩
 have hm0 : ∀ b, blk (a0, 0, 0) b → (r4_ack.S a0) b ∨ w.heap.size ≤ b := fun b hb => Or.inl hb
 rw [r4_ack.t]
 unfold r4_ack.F at h
 try dsimp only at h
 obtain ⟨r0, hr0, h⟩ := bse h
 obtain ⟨v0_0, qc0⟩ := r0
 try dsimp only at h
 have hBv0 : ∀ b, (r4_number.S a0) b → ¬ _ ∧ b < _ := fun b hb => by exact ⟨(hW0.lt b hb).2.1, hW0.lt1 b hb⟩
 have hBm0 : ∀ b, (r4_number.S a0) b → (r4_ack.S a0) b ∨ w.heap.size ≤ b := fun b hb => by exact hm0 b hb
 refine ok_callo (r4_number.S a0) rfl hBv0 (fun L0 w0 g0 lt0 => ?_)
 refine (r4_number.c k _ q0 _ _ (v0_0, qc0) hr0  w0 (hW0.later g0).bare' (hS0_0.later ((hF.trans g0).with hBm0))).mono ?_
 rintro e w0' ⟨rfl, hf0, hWc0, hq0_0⟩
 refine ⟨(v0_0, ()), rfl, hf0, fun g0' hid0 hv0 => ?_⟩
 try dsimp only
 have hSc0_0 : SlR R23.row (r4_ack.S a0) w A0_0 c0_0 qc0.1 := by rw [hq0_0]; exact hS0_0
 have hmc0 := hm0
 have hWc0 := hWc0.vis (fun b hb => hv0 b (Or.inl hb))
 have hF := Fine.own hF g0' hBm0 hid0
 obtain ⟨r1, hr1, h⟩ := bse h
 obtain ⟨v1_0, qc1⟩ := r1
 try dsimp only at h
 have hBv1 : ∀ b, (r4_number.S a0) b → ¬ _ ∧ b < _ := fun b hb => by exact ⟨(hWc0.lt b hb).2.1, hWc0.lt1 b hb⟩
 have hBm1 : ∀ b, (r4_number.S a0) b → (r4_ack.S a0) b ∨ w.heap.size ≤ b := fun b hb => by exact hmc0 b hb
 refine ok_callo (r4_number.S a0) rfl hBv1 (fun L1 w1 g1 lt1 => ?_)
 refine (r4_number.c k _ qc0 _ _ (v1_0, qc1) hr1  w1 (hWc0.later g1).bare' (hSc0_0.later ((hF.trans g1).with hBm1))).mono ?_
 rintro e w1' ⟨rfl, hf1, hWc1, hq1_0⟩
 refine ⟨(v1_0, ()), rfl, hf1, fun g1' hid1 hv1 => ?_⟩
 try dsimp only
 have hSc1_0 : SlR R23.row (r4_ack.S a0) w A0_0 c0_0 qc1.1 := by rw [hq1_0]; exact hSc0_0
 have hmc1 := hmc0
 have hWc1 := hWc1.vis (fun b hb => hv1 b (Or.inl hb))
 have hF := Fine.own hF g1' hBm1 hid1
 refine ok_need hA_a0 ?_
 refine ok_need hA_a0 ?_
 refine ok_ob 1 hWc1.sl (Fine.refl _ _) (fun cs hcs => ⟨qc1.2.1, by rw [hcs]; rfl, ?_⟩)
 try dsimp only
 obtain ⟨r3, hr3, h⟩ := bse h
 obtain ⟨v3_0, qc3⟩ := r3
 try dsimp only at h
 have hBv3 : ∀ b, (r4_number.S a0) b → ¬ _ ∧ b < _ := fun b hb => by exact ⟨(hWc1.lt b hb).2.1, hWc1.lt1 b hb⟩
 have hBm3 : ∀ b, (r4_number.S a0) b → (r4_ack.S a0) b ∨ w.heap.size ≤ b := fun b hb => by exact hmc1 b hb
 refine ok_callo (r4_number.S a0) rfl hBv3 (fun L3 w3 g3 lt3 => ?_)
 refine (r4_number.c k _ qc1 _ _ (v3_0, qc3) hr3  w3 (hWc1.later g3).bare' (hSc1_0.later ((hF.trans g3).with hBm3))).mono ?_
 rintro e w3' ⟨rfl, hf3, hWc3, hq3_0⟩
 refine ⟨(v3_0, ()), rfl, hf3, fun g3' hid3 hv3 => ?_⟩
 try dsimp only
 have hSc3_0 : SlR R23.row (r4_ack.S a0) w A0_0 c0_0 qc3.1 := by rw [hq3_0]; exact hSc1_0
 have hmc3 := hmc1
 have hWc3 := hWc3.vis (fun b hb => hv3 b (Or.inl hb))
 have hF := Fine.own hF g3' hBm3 hid3
 refine ok_if (fun hc9 => ?_) (fun hc9 => ?_)
 ·have h := bif_t h hc9
  obtain ⟨qc4, hr4, h⟩ := bse h
  have hBv4 : ∀ b, (r4_fails.S a0) b → ¬ _ ∧ b < _ := fun b hb => by exact ⟨(hWc3.lt b hb).2.1, hWc3.lt1 b hb⟩
  have hBm4 : ∀ b, (r4_fails.S a0) b → (r4_ack.S a0) b ∨ w.heap.size ≤ b := fun b hb => by exact hmc3 b hb
  refine ok_callo (r4_fails.S a0) rfl hBv4 (fun L4 w4 g4 lt4 => ?_)
  refine (r4_fails.c k _ qc3 _ _ 6 qc1.2.1 qc4 hr4  w4 (hWc3.later g4).bare' (hSc3_0.later ((hF.trans g4).with hBm4))).mono ?_
  rintro e w4' ⟨rfl, hf4, hWc4, hq4_0⟩
  refine ⟨(()), rfl, hf4, fun g4' hid4 hv4 => ?_⟩
  try dsimp only
  have hSc4_0 : SlR R23.row (r4_ack.S a0) w A0_0 c0_0 qc4.1 := by rw [hq4_0]; exact hSc3_0
  have hmc4 := hmc3
  have hWc4 := hWc4.vis (fun b hb => hv4 b (Or.inl hb))
  have hF := Fine.own hF g4' hBm4 hid4
  obtain ⟨I5, hI5⟩ : ∃ I : Nat → Tup [Lf.i .i64, Lf.i .i64, Lf.i .i64, Lf.i .i64, Lf.i .i64, Lf.i .i64, Lf.i .i64, Lf.b, Lf.sl, Lf.sl] → (Nat → Prop) → World → Prop, I = (fun m_ y L w' => ∃ (v5_0 : Int) (v5_1 : Int) (v5_2 : Int) (v5_3 : Int) (v5_4 : Int) (v5_5 : Int) (v5_6 : Int) (v5_7 : Bool) (A5_8 : Option Addr) (c5_8 : Nat) (s5_8 : List Int) (A5_9 : Option Addr) (c5_9 : Nat) (s5_9 : List (Int × Int)) (q5_a0 : (List Int) × Int × Int × Int), y = (v5_0, v5_1, v5_2, v5_3, v5_4, v5_5, v5_6, v5_7, (A5_8, s5_8.length, c5_8), (A5_9, s5_9.length, c5_9), ()) ∧ iter (r4_ack.s5 k v3_0) m_ (v5_0, v5_1, v5_2, v5_3, v5_4, v5_5, v5_6, v5_7, s5_8, s5_9, q5_a0) = some r ∧ Fine (r4_ack.S a0) w L w' ∧ OwnF w.heap.size L w' 5 R23 A5_8 c5_8 s5_8 ∧ OwnF w.heap.size L w' 42 R34 A5_9 c5_9 s5_9 ∧ OwnO 0 L w' 61 RW61 a0 1 [((A0_0, q5_a0.1.length, c0_0), q5_a0.2.1, q5_a0.2.2.1, q5_a0.2.2.2)] ∧ q5_a0.1 = q0.1 ∧ Dj A5_9 A5_8 ∧ Dj a0 A5_8 ∧ Dj a0 A5_9) := ⟨_, rfl⟩
  refine ok_loop I5 k (by rw [hI5]; exact ⟨_, _, _, _, _, _, _, _, none, 0, [], none, 0, [], qc4, rfl, h, hF, OwnF.nil _ _ _ _ _, OwnF.nil _ _ _ _ _, hWc4, (hq4_0.trans (hq3_0.trans (hq1_0.trans (hq0_0.trans rfl)))), Dj.nil2, Dj.nil, Dj.nil⟩) ?_
  clear h
  intro m_ y L5 w5 hy
  rw [hI5] at hy
  obtain ⟨v5_0, v5_1, v5_2, v5_3, v5_4, v5_5, v5_6, v5_7, A5_8, c5_8, s5_8, A5_9, c5_9, s5_9, q5_a0, rfl, h, hF, hO_s5_8, hO_s5_9, hW5_a0, hq5_a0_0, dj_s5_9_s5_8, dj_w13_s5_8, dj_w13_s5_9⟩ := hy
  have hS5_a0_0 : SlR R23.row (r4_ack.S a0) w A0_0 c0_0 q5_a0.1 := by rw [hq5_a0_0]; exact hS0_0
  obtain ⟨m5, o5, rfl, h, hl5, hr_5⟩ := iter_some h
  unfold r4_ack.s5 at h
  try dsimp only at h
  try dsimp only
  refine ok_if (fun hc15 => ?_) (fun hc15 => ?_)
  ·have h := bif_t h hc15
   obtain ⟨r6, hr6, h⟩ := bse h
   obtain ⟨v6_0, qc6⟩ := r6
   try dsimp only at h
   have hBv6 : ∀ b, (r4_ok.S a0) b → ¬ _ ∧ b < _ := fun b hb => by exact ⟨(hW5_a0.lt b hb).2.1, hW5_a0.lt1 b hb⟩
   have hBm6 : ∀ b, (r4_ok.S a0) b → (r4_ack.S a0) b ∨ w.heap.size ≤ b := fun b hb => by exact hmc4 b hb
   have hjB6_s5_8 : ∀ b, blk (A5_8, 0, 0) b → ¬ (r4_ok.S a0) b := fun b h0 hb => by exact (Dj.symm dj_w13_s5_8) b h0 hb
   have hjB6_s5_9 : ∀ b, blk (A5_9, 0, 0) b → ¬ (r4_ok.S a0) b := fun b h0 hb => by exact (Dj.symm dj_w13_s5_9) b h0 hb
   refine ok_callo (r4_ok.S a0) rfl hBv6 (fun L6 w6 g6 lt6 => ?_)
   refine (r4_ok.c k _ q5_a0 _ _ (v6_0, qc6) hr6  w6 (hW5_a0.later g6).bare' (hS5_a0_0.later ((hF.trans g6).with hBm6))).mono ?_
   rintro e w6' ⟨rfl, hf6, hWc6, hq6_0⟩
   refine ⟨(v6_0, ()), rfl, hf6, fun g6' hid6 hv6 => ?_⟩
   try dsimp only
   have hSc6_0 : SlR R23.row (r4_ack.S a0) w A0_0 c0_0 qc6.1 := by rw [hq6_0]; exact hS5_a0_0
   have hmc6 := hmc4
   have hWc6 := hWc6.vis (fun b hb => hv6 b (Or.inl hb))
   have hO_s5_8 := OwnF.others hO_s5_8 hjB6_s5_8 g6'
   have hO_s5_9 := OwnF.others hO_s5_9 hjB6_s5_9 g6'
   have hF := Fine.own hF g6' hBm6 hid6
   refine ok_if (fun hc18 => ?_) (fun hc18 => ?_)
   ·have h := bif_t h hc18
    refine ok_if (fun hc19 => ?_) (fun hc19 => ?_)
    ·have h := bif_t h hc19
     refine ok_need hA_a0 ?_
     refine ok_need hA_a0 ?_
     refine ok_ob 1 hWc6.sl (Fine.refl _ _) (fun cs hcs => ⟨qc6.2.1, by rw [hcs]; rfl, ?_⟩)
     try dsimp only
     obtain ⟨r8, hr8, h⟩ := bse h
     obtain ⟨v8_0, qc8⟩ := r8
     try dsimp only at h
     have hBv8 : ∀ b, (r4_number.S a0) b → ¬ _ ∧ b < _ := fun b hb => by exact ⟨(hWc6.lt b hb).2.1, hWc6.lt1 b hb⟩
     have hBm8 : ∀ b, (r4_number.S a0) b → (r4_ack.S a0) b ∨ w.heap.size ≤ b := fun b hb => by exact hmc6 b hb
     have hjB8_s5_8 : ∀ b, blk (A5_8, 0, 0) b → ¬ (r4_number.S a0) b := fun b h0 hb => by exact (Dj.symm dj_w13_s5_8) b h0 hb
     have hjB8_s5_9 : ∀ b, blk (A5_9, 0, 0) b → ¬ (r4_number.S a0) b := fun b h0 hb => by exact (Dj.symm dj_w13_s5_9) b h0 hb
     refine ok_callo (r4_number.S a0) rfl hBv8 (fun L8 w8 g8 lt8 => ?_)
     refine (r4_number.c k _ qc6 _ _ (v8_0, qc8) hr8  w8 (hWc6.later g8).bare' (hSc6_0.later ((hF.trans g8).with hBm8))).mono ?_
     rintro e w8' ⟨rfl, hf8, hWc8, hq8_0⟩
     refine ⟨(v8_0, ()), rfl, hf8, fun g8' hid8 hv8 => ?_⟩
     try dsimp only
     have hSc8_0 : SlR R23.row (r4_ack.S a0) w A0_0 c0_0 qc8.1 := by rw [hq8_0]; exact hSc6_0
     have hmc8 := hmc6
     have hWc8 := hWc8.vis (fun b hb => hv8 b (Or.inl hb))
     have hO_s5_8 := OwnF.others hO_s5_8 hjB8_s5_8 g8'
     have hO_s5_9 := OwnF.others hO_s5_9 hjB8_s5_9 g8'
     have hF := Fine.own hF g8' hBm8 hid8
     refine ok_if (fun hc22 => ?_) (fun hc22 => ?_)
     ·have h := bif_t h hc22
      obtain ⟨qc9, hr9, h⟩ := bse h
      have hBv9 : ∀ b, (r4_fails.S a0) b → ¬ _ ∧ b < _ := fun b hb => by exact ⟨(hWc8.lt b hb).2.1, hWc8.lt1 b hb⟩
      have hBm9 : ∀ b, (r4_fails.S a0) b → (r4_ack.S a0) b ∨ w.heap.size ≤ b := fun b hb => by exact hmc8 b hb
      have hjB9_s5_8 : ∀ b, blk (A5_8, 0, 0) b → ¬ (r4_fails.S a0) b := fun b h0 hb => by exact (Dj.symm dj_w13_s5_8) b h0 hb
      have hjB9_s5_9 : ∀ b, blk (A5_9, 0, 0) b → ¬ (r4_fails.S a0) b := fun b h0 hb => by exact (Dj.symm dj_w13_s5_9) b h0 hb
      refine ok_callo (r4_fails.S a0) rfl hBv9 (fun L9 w9 g9 lt9 => ?_)
      refine (r4_fails.c k _ qc8 _ _ 5 qc6.2.1 qc9 hr9  w9 (hWc8.later g9).bare' (hSc8_0.later ((hF.trans g9).with hBm9))).mono ?_
      rintro e w9' ⟨rfl, hf9, hWc9, hq9_0⟩
      refine ⟨(()), rfl, hf9, fun g9' hid9 hv9 => ?_⟩
      try dsimp only
      have hSc9_0 : SlR R23.row (r4_ack.S a0) w A0_0 c0_0 qc9.1 := by rw [hq9_0]; exact hSc8_0
      have hmc9 := hmc8
      have hWc9 := hWc9.vis (fun b hb => hv9 b (Or.inl hb))
      have hO_s5_8 := OwnF.others hO_s5_8 hjB9_s5_8 g9'
      have hO_s5_9 := OwnF.others hO_s5_9 hjB9_s5_9 g9'
      have hF := Fine.own hF g9' hBm9 hid9
      refine ok_need hA_a0 ?_
      refine ok_need hA_a0 ?_
      refine ok_ob 1 hWc9.sl (Fine.refl _ _) (fun cs hcs => ⟨qc9.2.1, by rw [hcs]; rfl, ?_⟩)
      try dsimp only
      obtain ⟨r11, hr11, h⟩ := bse h
      obtain ⟨v11_0, qc11⟩ := r11
      try dsimp only at h
      have hBv11 : ∀ b, (r4_number.S a0) b → ¬ _ ∧ b < _ := fun b hb => by exact ⟨(hWc9.lt b hb).2.1, hWc9.lt1 b hb⟩
      have hBm11 : ∀ b, (r4_number.S a0) b → (r4_ack.S a0) b ∨ w.heap.size ≤ b := fun b hb => by exact hmc9 b hb
      have hjB11_s5_8 : ∀ b, blk (A5_8, 0, 0) b → ¬ (r4_number.S a0) b := fun b h0 hb => by exact (Dj.symm dj_w13_s5_8) b h0 hb
      have hjB11_s5_9 : ∀ b, blk (A5_9, 0, 0) b → ¬ (r4_number.S a0) b := fun b h0 hb => by exact (Dj.symm dj_w13_s5_9) b h0 hb
      refine ok_callo (r4_number.S a0) rfl hBv11 (fun L11 w11 g11 lt11 => ?_)
      refine (r4_number.c k _ qc9 _ _ (v11_0, qc11) hr11  w11 (hWc9.later g11).bare' (hSc9_0.later ((hF.trans g11).with hBm11))).mono ?_
      rintro e w11' ⟨rfl, hf11, hWc11, hq11_0⟩
      refine ⟨(v11_0, ()), rfl, hf11, fun g11' hid11 hv11 => ?_⟩
      try dsimp only
      have hSc11_0 : SlR R23.row (r4_ack.S a0) w A0_0 c0_0 qc11.1 := by rw [hq11_0]; exact hSc9_0
      have hmc11 := hmc9
      have hWc11 := hWc11.vis (fun b hb => hv11 b (Or.inl hb))
      have hO_s5_8 := OwnF.others hO_s5_8 hjB11_s5_8 g11'
      have hO_s5_9 := OwnF.others hO_s5_9 hjB11_s5_9 g11'
      have hF := Fine.own hF g11' hBm11 hid11
      refine ok_if (fun hc27 => ?_) (fun hc27 => ?_)
      ·have h := bif_t h hc27
       obtain ⟨qc12, hr12, h⟩ := bse h
       have hBv12 : ∀ b, (r4_fails.S a0) b → ¬ _ ∧ b < _ := fun b hb => by exact ⟨(hWc11.lt b hb).2.1, hWc11.lt1 b hb⟩
       have hBm12 : ∀ b, (r4_fails.S a0) b → (r4_ack.S a0) b ∨ w.heap.size ≤ b := fun b hb => by exact hmc11 b hb
       have hjB12_s5_8 : ∀ b, blk (A5_8, 0, 0) b → ¬ (r4_fails.S a0) b := fun b h0 hb => by exact (Dj.symm dj_w13_s5_8) b h0 hb
       have hjB12_s5_9 : ∀ b, blk (A5_9, 0, 0) b → ¬ (r4_fails.S a0) b := fun b h0 hb => by exact (Dj.symm dj_w13_s5_9) b h0 hb
       refine ok_callo (r4_fails.S a0) rfl hBv12 (fun L12 w12 g12 lt12 => ?_)
       refine (r4_fails.c k _ qc11 _ _ 5 qc9.2.1 qc12 hr12  w12 (hWc11.later g12).bare' (hSc11_0.later ((hF.trans g12).with hBm12))).mono ?_
       rintro e w12' ⟨rfl, hf12, hWc12, hq12_0⟩
       refine ⟨(()), rfl, hf12, fun g12' hid12 hv12 => ?_⟩
       try dsimp only
       have hSc12_0 : SlR R23.row (r4_ack.S a0) w A0_0 c0_0 qc12.1 := by rw [hq12_0]; exact hSc11_0
       have hmc12 := hmc11
       have hWc12 := hWc12.vis (fun b hb => hv12 b (Or.inl hb))
       have hO_s5_8 := OwnF.others hO_s5_8 hjB12_s5_8 g12'
       have hO_s5_9 := OwnF.others hO_s5_9 hjB12_s5_9 g12'
       have hF := Fine.own hF g12' hBm12 hid12
       obtain ⟨r13, hr13, h⟩ := bse h
       obtain ⟨v13_0, qc13⟩ := r13
       try dsimp only at h
       have hBv13 : ∀ b, (r4_ok.S a0) b → ¬ _ ∧ b < _ := fun b hb => by exact ⟨(hWc12.lt b hb).2.1, hWc12.lt1 b hb⟩
       have hBm13 : ∀ b, (r4_ok.S a0) b → (r4_ack.S a0) b ∨ w.heap.size ≤ b := fun b hb => by exact hmc12 b hb
       have hjB13_s5_8 : ∀ b, blk (A5_8, 0, 0) b → ¬ (r4_ok.S a0) b := fun b h0 hb => by exact (Dj.symm dj_w13_s5_8) b h0 hb
       have hjB13_s5_9 : ∀ b, blk (A5_9, 0, 0) b → ¬ (r4_ok.S a0) b := fun b h0 hb => by exact (Dj.symm dj_w13_s5_9) b h0 hb
       refine ok_callo (r4_ok.S a0) rfl hBv13 (fun L13 w13 g13 lt13 => ?_)
       refine (r4_ok.c k _ qc12 _ _ (v13_0, qc13) hr13  w13 (hWc12.later g13).bare' (hSc12_0.later ((hF.trans g13).with hBm13))).mono ?_
       rintro e w13' ⟨rfl, hf13, hWc13, hq13_0⟩
       refine ⟨(v13_0, ()), rfl, hf13, fun g13' hid13 hv13 => ?_⟩
       try dsimp only
       have hSc13_0 : SlR R23.row (r4_ack.S a0) w A0_0 c0_0 qc13.1 := by rw [hq13_0]; exact hSc12_0
       have hmc13 := hmc12
       have hWc13 := hWc13.vis (fun b hb => hv13 b (Or.inl hb))
       have hO_s5_8 := OwnF.others hO_s5_8 hjB13_s5_8 g13'
       have hO_s5_9 := OwnF.others hO_s5_9 hjB13_s5_9 g13'
       have hF := Fine.own hF g13' hBm13 hid13
       refine ok_if (fun hc32 => ?_) (fun hc32 => ?_)
       ·have h := bif_t h hc32
        refine ok_lit (R := R34) (base := w.heap.size) (xs := ([(IntKind.i64.wrap (IntKind.i64.wrap (IntKind.i64.wrap (v5_0 - 2) - v8_0) - v11_0), IntKind.i64.wrap (IntKind.i64.wrap (v5_0 - 2) - v8_0))] : List (Int × Int))) #[Value.int IntKind.i64 (IntKind.i64.wrap (IntKind.i64.wrap (IntKind.i64.wrap (v5_0 - 2) - v8_0) - v11_0)), Value.int IntKind.i64 (IntKind.i64.wrap (IntKind.i64.wrap (v5_0 - 2) - v8_0))] E34 rfl (by decide) (by decide) ⟨_, _, rfl, rfl, by kernel_rfl⟩ rfl hF.size (fun Ax14 cx14 L14 w14 hO14 g14 hbl14 => ?_)
        try dsimp only
        have dj_o33_s5_8 : Dj Ax14 A5_8 := Dj.new hbl14 hO_s5_8.lt
        have dj_o33_s5_9 : Dj Ax14 A5_9 := Dj.new hbl14 hO_s5_9.lt
        have dj_o33_w30 : Dj Ax14 a0 := Dj.new hbl14 hWc13.lt1
        have hF := hF.trans g14
        have hO_s5_8 := hO_s5_8.later g14
        have hO_s5_9 := hO_s5_9.later g14
        have hWc13 := hWc13.later g14
        obtain ⟨hq34, h⟩ := bif_need h
        have hq34 := of_decide_eq_true hq34
        refine ok_app (R := R34) (base := w.heap.size) (xs := ([(IntKind.i64.wrap (IntKind.i64.wrap (IntKind.i64.wrap (v5_0 - 2) - v8_0) - v11_0), IntKind.i64.wrap (IntKind.i64.wrap (v5_0 - 2) - v8_0))] : List (Int × Int))) (ys := s5_9) rfl rfl E34 hO14 hO_s5_9.sl (by decide) hq34 hF.size (fun Ax15 cx15 L15 w15 hO15 g15 hid15 hbl15 => ?_)
        try dsimp only
        have dj_o35_s5_8 : Dj Ax15 A5_8 := Dj.grow dj_o33_s5_8 hbl15 hO_s5_8.lt
        have dj_o35_s5_9 : Dj Ax15 A5_9 := Dj.grow dj_o33_s5_9 hbl15 hO_s5_9.lt
        have dj_o35_w30 : Dj Ax15 a0 := Dj.grow dj_o33_w30 hbl15 hWc13.lt1
        have hO_s5_8 := hO_s5_8.other (Dj.symm dj_o33_s5_8) g15
        have hO_s5_9 := hO_s5_9.other (Dj.symm dj_o33_s5_9) g15
        have hWc13 := hWc13.other (Dj.symm dj_o33_w30) g15
        have hF := Fine.own hF g15 (fun b hb => Or.inr (Own.base hO14 hb)) hid15
        obtain rfl := Option.some.inj h
        have h := hl5 _ rfl
        exact ok_again (I := I5) m5 (Nat.lt_succ_self _) (fun L w' he => by rw [hI5]; exact ⟨_, _, _, _, _, _, _, _, A5_8, c5_8, s5_8, Ax15, cx15, (([(IntKind.i64.wrap (IntKind.i64.wrap (IntKind.i64.wrap (v5_0 - 2) - v8_0) - v11_0), IntKind.i64.wrap (IntKind.i64.wrap (v5_0 - 2) - v8_0))] : List (Int × Int)) ++ s5_9), qc13, rfl, h, hF.trans he.fine, hO_s5_8.later he.fine, hO15.later he.fine, hWc13.later he.fine, (hq13_0.trans (hq12_0.trans (hq11_0.trans (hq9_0.trans (hq8_0.trans (hq6_0.trans hq5_a0_0)))))), dj_o35_s5_8, dj_w13_s5_8, (Dj.symm dj_o35_w30)⟩)
       ·have h := bif_f h hc32
        obtain rfl := Option.some.inj h
        have h := hl5 _ rfl
        exact ok_again (I := I5) m5 (Nat.lt_succ_self _) (fun L w' he => by rw [hI5]; exact ⟨_, _, _, _, _, _, _, _, A5_8, c5_8, s5_8, A5_9, c5_9, s5_9, qc13, rfl, h, hF.trans he.fine, hO_s5_8.later he.fine, hO_s5_9.later he.fine, hWc13.later he.fine, (hq13_0.trans (hq12_0.trans (hq11_0.trans (hq9_0.trans (hq8_0.trans (hq6_0.trans hq5_a0_0)))))), dj_s5_9_s5_8, dj_w13_s5_8, dj_w13_s5_9⟩)
      ·have h := bif_f h hc27
       obtain ⟨r12, hr12, h⟩ := bse h
       obtain ⟨v12_0, qc12⟩ := r12
       try dsimp only at h
       have hBv12 : ∀ b, (r4_ok.S a0) b → ¬ _ ∧ b < _ := fun b hb => by exact ⟨(hWc11.lt b hb).2.1, hWc11.lt1 b hb⟩
       have hBm12 : ∀ b, (r4_ok.S a0) b → (r4_ack.S a0) b ∨ w.heap.size ≤ b := fun b hb => by exact hmc11 b hb
       have hjB12_s5_8 : ∀ b, blk (A5_8, 0, 0) b → ¬ (r4_ok.S a0) b := fun b h0 hb => by exact (Dj.symm dj_w13_s5_8) b h0 hb
       have hjB12_s5_9 : ∀ b, blk (A5_9, 0, 0) b → ¬ (r4_ok.S a0) b := fun b h0 hb => by exact (Dj.symm dj_w13_s5_9) b h0 hb
       refine ok_callo (r4_ok.S a0) rfl hBv12 (fun L12 w12 g12 lt12 => ?_)
       refine (r4_ok.c k _ qc11 _ _ (v12_0, qc12) hr12  w12 (hWc11.later g12).bare' (hSc11_0.later ((hF.trans g12).with hBm12))).mono ?_
       rintro e w12' ⟨rfl, hf12, hWc12, hq12_0⟩
       refine ⟨(v12_0, ()), rfl, hf12, fun g12' hid12 hv12 => ?_⟩
       try dsimp only
       have hSc12_0 : SlR R23.row (r4_ack.S a0) w A0_0 c0_0 qc12.1 := by rw [hq12_0]; exact hSc11_0
       have hmc12 := hmc11
       have hWc12 := hWc12.vis (fun b hb => hv12 b (Or.inl hb))
       have hO_s5_8 := OwnF.others hO_s5_8 hjB12_s5_8 g12'
       have hO_s5_9 := OwnF.others hO_s5_9 hjB12_s5_9 g12'
       have hF := Fine.own hF g12' hBm12 hid12
       refine ok_if (fun hc38 => ?_) (fun hc38 => ?_)
       ·have h := bif_t h hc38
        refine ok_lit (R := R34) (base := w.heap.size) (xs := ([(IntKind.i64.wrap (IntKind.i64.wrap (IntKind.i64.wrap (v5_0 - 2) - v8_0) - v11_0), IntKind.i64.wrap (IntKind.i64.wrap (v5_0 - 2) - v8_0))] : List (Int × Int))) #[Value.int IntKind.i64 (IntKind.i64.wrap (IntKind.i64.wrap (IntKind.i64.wrap (v5_0 - 2) - v8_0) - v11_0)), Value.int IntKind.i64 (IntKind.i64.wrap (IntKind.i64.wrap (v5_0 - 2) - v8_0))] E34 rfl (by decide) (by decide) ⟨_, _, rfl, rfl, by kernel_rfl⟩ rfl hF.size (fun Ax13 cx13 L13 w13 hO13 g13 hbl13 => ?_)
        try dsimp only
        have dj_o39_s5_8 : Dj Ax13 A5_8 := Dj.new hbl13 hO_s5_8.lt
        have dj_o39_s5_9 : Dj Ax13 A5_9 := Dj.new hbl13 hO_s5_9.lt
        have dj_o39_w36 : Dj Ax13 a0 := Dj.new hbl13 hWc12.lt1
        have hF := hF.trans g13
        have hO_s5_8 := hO_s5_8.later g13
        have hO_s5_9 := hO_s5_9.later g13
        have hWc12 := hWc12.later g13
        obtain ⟨hq40, h⟩ := bif_need h
        have hq40 := of_decide_eq_true hq40
        refine ok_app (R := R34) (base := w.heap.size) (xs := ([(IntKind.i64.wrap (IntKind.i64.wrap (IntKind.i64.wrap (v5_0 - 2) - v8_0) - v11_0), IntKind.i64.wrap (IntKind.i64.wrap (v5_0 - 2) - v8_0))] : List (Int × Int))) (ys := s5_9) rfl rfl E34 hO13 hO_s5_9.sl (by decide) hq40 hF.size (fun Ax14 cx14 L14 w14 hO14 g14 hid14 hbl14 => ?_)
        try dsimp only
        have dj_o41_s5_8 : Dj Ax14 A5_8 := Dj.grow dj_o39_s5_8 hbl14 hO_s5_8.lt
        have dj_o41_s5_9 : Dj Ax14 A5_9 := Dj.grow dj_o39_s5_9 hbl14 hO_s5_9.lt
        have dj_o41_w36 : Dj Ax14 a0 := Dj.grow dj_o39_w36 hbl14 hWc12.lt1
        have hO_s5_8 := hO_s5_8.other (Dj.symm dj_o39_s5_8) g14
        have hO_s5_9 := hO_s5_9.other (Dj.symm dj_o39_s5_9) g14
        have hWc12 := hWc12.other (Dj.symm dj_o39_w36) g14
        have hF := Fine.own hF g14 (fun b hb => Or.inr (Own.base hO13 hb)) hid14
        obtain rfl := Option.some.inj h
        have h := hl5 _ rfl
        exact ok_again (I := I5) m5 (Nat.lt_succ_self _) (fun L w' he => by rw [hI5]; exact ⟨_, _, _, _, _, _, _, _, A5_8, c5_8, s5_8, Ax14, cx14, (([(IntKind.i64.wrap (IntKind.i64.wrap (IntKind.i64.wrap (v5_0 - 2) - v8_0) - v11_0), IntKind.i64.wrap (IntKind.i64.wrap (v5_0 - 2) - v8_0))] : List (Int × Int)) ++ s5_9), qc12, rfl, h, hF.trans he.fine, hO_s5_8.later he.fine, hO14.later he.fine, hWc12.later he.fine, (hq12_0.trans (hq11_0.trans (hq9_0.trans (hq8_0.trans (hq6_0.trans hq5_a0_0))))), dj_o41_s5_8, dj_w13_s5_8, (Dj.symm dj_o41_w36)⟩)
       ·have h := bif_f h hc38
        obtain rfl := Option.some.inj h
        have h := hl5 _ rfl
        exact ok_again (I := I5) m5 (Nat.lt_succ_self _) (fun L w' he => by rw [hI5]; exact ⟨_, _, _, _, _, _, _, _, A5_8, c5_8, s5_8, A5_9, c5_9, s5_9, qc12, rfl, h, hF.trans he.fine, hO_s5_8.later he.fine, hO_s5_9.later he.fine, hWc12.later he.fine, (hq12_0.trans (hq11_0.trans (hq9_0.trans (hq8_0.trans (hq6_0.trans hq5_a0_0))))), dj_s5_9_s5_8, dj_w13_s5_8, dj_w13_s5_9⟩)
     ·have h := bif_f h hc22
      refine ok_need hA_a0 ?_
      refine ok_need hA_a0 ?_
      refine ok_ob 1 hWc8.sl (Fine.refl _ _) (fun cs hcs => ⟨qc8.2.1, by rw [hcs]; rfl, ?_⟩)
      try dsimp only
      obtain ⟨r10, hr10, h⟩ := bse h
      obtain ⟨v10_0, qc10⟩ := r10
      try dsimp only at h
      have hBv10 : ∀ b, (r4_number.S a0) b → ¬ _ ∧ b < _ := fun b hb => by exact ⟨(hWc8.lt b hb).2.1, hWc8.lt1 b hb⟩
      have hBm10 : ∀ b, (r4_number.S a0) b → (r4_ack.S a0) b ∨ w.heap.size ≤ b := fun b hb => by exact hmc8 b hb
      have hjB10_s5_8 : ∀ b, blk (A5_8, 0, 0) b → ¬ (r4_number.S a0) b := fun b h0 hb => by exact (Dj.symm dj_w13_s5_8) b h0 hb
      have hjB10_s5_9 : ∀ b, blk (A5_9, 0, 0) b → ¬ (r4_number.S a0) b := fun b h0 hb => by exact (Dj.symm dj_w13_s5_9) b h0 hb
      refine ok_callo (r4_number.S a0) rfl hBv10 (fun L10 w10 g10 lt10 => ?_)
      refine (r4_number.c k _ qc8 _ _ (v10_0, qc10) hr10  w10 (hWc8.later g10).bare' (hSc8_0.later ((hF.trans g10).with hBm10))).mono ?_
      rintro e w10' ⟨rfl, hf10, hWc10, hq10_0⟩
      refine ⟨(v10_0, ()), rfl, hf10, fun g10' hid10 hv10 => ?_⟩
      try dsimp only
      have hSc10_0 : SlR R23.row (r4_ack.S a0) w A0_0 c0_0 qc10.1 := by rw [hq10_0]; exact hSc8_0
      have hmc10 := hmc8
      have hWc10 := hWc10.vis (fun b hb => hv10 b (Or.inl hb))
      have hO_s5_8 := OwnF.others hO_s5_8 hjB10_s5_8 g10'
      have hO_s5_9 := OwnF.others hO_s5_9 hjB10_s5_9 g10'
      have hF := Fine.own hF g10' hBm10 hid10
      refine ok_if (fun hc44 => ?_) (fun hc44 => ?_)
      ·have h := bif_t h hc44
       obtain ⟨qc11, hr11, h⟩ := bse h
       have hBv11 : ∀ b, (r4_fails.S a0) b → ¬ _ ∧ b < _ := fun b hb => by exact ⟨(hWc10.lt b hb).2.1, hWc10.lt1 b hb⟩
       have hBm11 : ∀ b, (r4_fails.S a0) b → (r4_ack.S a0) b ∨ w.heap.size ≤ b := fun b hb => by exact hmc10 b hb
       have hjB11_s5_8 : ∀ b, blk (A5_8, 0, 0) b → ¬ (r4_fails.S a0) b := fun b h0 hb => by exact (Dj.symm dj_w13_s5_8) b h0 hb
       have hjB11_s5_9 : ∀ b, blk (A5_9, 0, 0) b → ¬ (r4_fails.S a0) b := fun b h0 hb => by exact (Dj.symm dj_w13_s5_9) b h0 hb
       refine ok_callo (r4_fails.S a0) rfl hBv11 (fun L11 w11 g11 lt11 => ?_)
       refine (r4_fails.c k _ qc10 _ _ 5 qc8.2.1 qc11 hr11  w11 (hWc10.later g11).bare' (hSc10_0.later ((hF.trans g11).with hBm11))).mono ?_
       rintro e w11' ⟨rfl, hf11, hWc11, hq11_0⟩
       refine ⟨(()), rfl, hf11, fun g11' hid11 hv11 => ?_⟩
       try dsimp only
       have hSc11_0 : SlR R23.row (r4_ack.S a0) w A0_0 c0_0 qc11.1 := by rw [hq11_0]; exact hSc10_0
       have hmc11 := hmc10
       have hWc11 := hWc11.vis (fun b hb => hv11 b (Or.inl hb))
       have hO_s5_8 := OwnF.others hO_s5_8 hjB11_s5_8 g11'
       have hO_s5_9 := OwnF.others hO_s5_9 hjB11_s5_9 g11'
       have hF := Fine.own hF g11' hBm11 hid11
       obtain ⟨r12, hr12, h⟩ := bse h
       obtain ⟨v12_0, qc12⟩ := r12
       try dsimp only at h
       have hBv12 : ∀ b, (r4_ok.S a0) b → ¬ _ ∧ b < _ := fun b hb => by exact ⟨(hWc11.lt b hb).2.1, hWc11.lt1 b hb⟩
       have hBm12 : ∀ b, (r4_ok.S a0) b → (r4_ack.S a0) b ∨ w.heap.size ≤ b := fun b hb => by exact hmc11 b hb
       have hjB12_s5_8 : ∀ b, blk (A5_8, 0, 0) b → ¬ (r4_ok.S a0) b := fun b h0 hb => by exact (Dj.symm dj_w13_s5_8) b h0 hb
       have hjB12_s5_9 : ∀ b, blk (A5_9, 0, 0) b → ¬ (r4_ok.S a0) b := fun b h0 hb => by exact (Dj.symm dj_w13_s5_9) b h0 hb
       refine ok_callo (r4_ok.S a0) rfl hBv12 (fun L12 w12 g12 lt12 => ?_)
       refine (r4_ok.c k _ qc11 _ _ (v12_0, qc12) hr12  w12 (hWc11.later g12).bare' (hSc11_0.later ((hF.trans g12).with hBm12))).mono ?_
       rintro e w12' ⟨rfl, hf12, hWc12, hq12_0⟩
       refine ⟨(v12_0, ()), rfl, hf12, fun g12' hid12 hv12 => ?_⟩
       try dsimp only
       have hSc12_0 : SlR R23.row (r4_ack.S a0) w A0_0 c0_0 qc12.1 := by rw [hq12_0]; exact hSc11_0
       have hmc12 := hmc11
       have hWc12 := hWc12.vis (fun b hb => hv12 b (Or.inl hb))
       have hO_s5_8 := OwnF.others hO_s5_8 hjB12_s5_8 g12'
       have hO_s5_9 := OwnF.others hO_s5_9 hjB12_s5_9 g12'
       have hF := Fine.own hF g12' hBm12 hid12
       refine ok_if (fun hc49 => ?_) (fun hc49 => ?_)
       ·have h := bif_t h hc49
        refine ok_lit (R := R34) (base := w.heap.size) (xs := ([(IntKind.i64.wrap (IntKind.i64.wrap (IntKind.i64.wrap (v5_0 - 2) - v8_0) - v10_0), IntKind.i64.wrap (IntKind.i64.wrap (v5_0 - 2) - v8_0))] : List (Int × Int))) #[Value.int IntKind.i64 (IntKind.i64.wrap (IntKind.i64.wrap (IntKind.i64.wrap (v5_0 - 2) - v8_0) - v10_0)), Value.int IntKind.i64 (IntKind.i64.wrap (IntKind.i64.wrap (v5_0 - 2) - v8_0))] E34 rfl (by decide) (by decide) ⟨_, _, rfl, rfl, by kernel_rfl⟩ rfl hF.size (fun Ax13 cx13 L13 w13 hO13 g13 hbl13 => ?_)
        try dsimp only
        have dj_o50_s5_8 : Dj Ax13 A5_8 := Dj.new hbl13 hO_s5_8.lt
        have dj_o50_s5_9 : Dj Ax13 A5_9 := Dj.new hbl13 hO_s5_9.lt
        have dj_o50_w47 : Dj Ax13 a0 := Dj.new hbl13 hWc12.lt1
        have hF := hF.trans g13
        have hO_s5_8 := hO_s5_8.later g13
        have hO_s5_9 := hO_s5_9.later g13
        have hWc12 := hWc12.later g13
        obtain ⟨hq51, h⟩ := bif_need h
        have hq51 := of_decide_eq_true hq51
        refine ok_app (R := R34) (base := w.heap.size) (xs := ([(IntKind.i64.wrap (IntKind.i64.wrap (IntKind.i64.wrap (v5_0 - 2) - v8_0) - v10_0), IntKind.i64.wrap (IntKind.i64.wrap (v5_0 - 2) - v8_0))] : List (Int × Int))) (ys := s5_9) rfl rfl E34 hO13 hO_s5_9.sl (by decide) hq51 hF.size (fun Ax14 cx14 L14 w14 hO14 g14 hid14 hbl14 => ?_)
        try dsimp only
        have dj_o52_s5_8 : Dj Ax14 A5_8 := Dj.grow dj_o50_s5_8 hbl14 hO_s5_8.lt
        have dj_o52_s5_9 : Dj Ax14 A5_9 := Dj.grow dj_o50_s5_9 hbl14 hO_s5_9.lt
        have dj_o52_w47 : Dj Ax14 a0 := Dj.grow dj_o50_w47 hbl14 hWc12.lt1
        have hO_s5_8 := hO_s5_8.other (Dj.symm dj_o50_s5_8) g14
        have hO_s5_9 := hO_s5_9.other (Dj.symm dj_o50_s5_9) g14
        have hWc12 := hWc12.other (Dj.symm dj_o50_w47) g14
        have hF := Fine.own hF g14 (fun b hb => Or.inr (Own.base hO13 hb)) hid14
        obtain rfl := Option.some.inj h
        have h := hl5 _ rfl
        exact ok_again (I := I5) m5 (Nat.lt_succ_self _) (fun L w' he => by rw [hI5]; exact ⟨_, _, _, _, _, _, _, _, A5_8, c5_8, s5_8, Ax14, cx14, (([(IntKind.i64.wrap (IntKind.i64.wrap (IntKind.i64.wrap (v5_0 - 2) - v8_0) - v10_0), IntKind.i64.wrap (IntKind.i64.wrap (v5_0 - 2) - v8_0))] : List (Int × Int)) ++ s5_9), qc12, rfl, h, hF.trans he.fine, hO_s5_8.later he.fine, hO14.later he.fine, hWc12.later he.fine, (hq12_0.trans (hq11_0.trans (hq10_0.trans (hq8_0.trans (hq6_0.trans hq5_a0_0))))), dj_o52_s5_8, dj_w13_s5_8, (Dj.symm dj_o52_w47)⟩)
       ·have h := bif_f h hc49
        obtain rfl := Option.some.inj h
        have h := hl5 _ rfl
        exact ok_again (I := I5) m5 (Nat.lt_succ_self _) (fun L w' he => by rw [hI5]; exact ⟨_, _, _, _, _, _, _, _, A5_8, c5_8, s5_8, A5_9, c5_9, s5_9, qc12, rfl, h, hF.trans he.fine, hO_s5_8.later he.fine, hO_s5_9.later he.fine, hWc12.later he.fine, (hq12_0.trans (hq11_0.trans (hq10_0.trans (hq8_0.trans (hq6_0.trans hq5_a0_0))))), dj_s5_9_s5_8, dj_w13_s5_8, dj_w13_s5_9⟩)
      ·have h := bif_f h hc44
       obtain ⟨r11, hr11, h⟩ := bse h
       obtain ⟨v11_0, qc11⟩ := r11
       try dsimp only at h
       have hBv11 : ∀ b, (r4_ok.S a0) b → ¬ _ ∧ b < _ := fun b hb => by exact ⟨(hWc10.lt b hb).2.1, hWc10.lt1 b hb⟩
       have hBm11 : ∀ b, (r4_ok.S a0) b → (r4_ack.S a0) b ∨ w.heap.size ≤ b := fun b hb => by exact hmc10 b hb
       have hjB11_s5_8 : ∀ b, blk (A5_8, 0, 0) b → ¬ (r4_ok.S a0) b := fun b h0 hb => by exact (Dj.symm dj_w13_s5_8) b h0 hb
       have hjB11_s5_9 : ∀ b, blk (A5_9, 0, 0) b → ¬ (r4_ok.S a0) b := fun b h0 hb => by exact (Dj.symm dj_w13_s5_9) b h0 hb
       refine ok_callo (r4_ok.S a0) rfl hBv11 (fun L11 w11 g11 lt11 => ?_)
       refine (r4_ok.c k _ qc10 _ _ (v11_0, qc11) hr11  w11 (hWc10.later g11).bare' (hSc10_0.later ((hF.trans g11).with hBm11))).mono ?_
       rintro e w11' ⟨rfl, hf11, hWc11, hq11_0⟩
       refine ⟨(v11_0, ()), rfl, hf11, fun g11' hid11 hv11 => ?_⟩
       try dsimp only
       have hSc11_0 : SlR R23.row (r4_ack.S a0) w A0_0 c0_0 qc11.1 := by rw [hq11_0]; exact hSc10_0
       have hmc11 := hmc10
       have hWc11 := hWc11.vis (fun b hb => hv11 b (Or.inl hb))
       have hO_s5_8 := OwnF.others hO_s5_8 hjB11_s5_8 g11'
       have hO_s5_9 := OwnF.others hO_s5_9 hjB11_s5_9 g11'
       have hF := Fine.own hF g11' hBm11 hid11
       refine ok_if (fun hc55 => ?_) (fun hc55 => ?_)
       ·have h := bif_t h hc55
        refine ok_lit (R := R34) (base := w.heap.size) (xs := ([(IntKind.i64.wrap (IntKind.i64.wrap (IntKind.i64.wrap (v5_0 - 2) - v8_0) - v10_0), IntKind.i64.wrap (IntKind.i64.wrap (v5_0 - 2) - v8_0))] : List (Int × Int))) #[Value.int IntKind.i64 (IntKind.i64.wrap (IntKind.i64.wrap (IntKind.i64.wrap (v5_0 - 2) - v8_0) - v10_0)), Value.int IntKind.i64 (IntKind.i64.wrap (IntKind.i64.wrap (v5_0 - 2) - v8_0))] E34 rfl (by decide) (by decide) ⟨_, _, rfl, rfl, by kernel_rfl⟩ rfl hF.size (fun Ax12 cx12 L12 w12 hO12 g12 hbl12 => ?_)
        try dsimp only
        have dj_o56_s5_8 : Dj Ax12 A5_8 := Dj.new hbl12 hO_s5_8.lt
        have dj_o56_s5_9 : Dj Ax12 A5_9 := Dj.new hbl12 hO_s5_9.lt
        have dj_o56_w53 : Dj Ax12 a0 := Dj.new hbl12 hWc11.lt1
        have hF := hF.trans g12
        have hO_s5_8 := hO_s5_8.later g12
        have hO_s5_9 := hO_s5_9.later g12
        have hWc11 := hWc11.later g12
        obtain ⟨hq57, h⟩ := bif_need h
        have hq57 := of_decide_eq_true hq57
        refine ok_app (R := R34) (base := w.heap.size) (xs := ([(IntKind.i64.wrap (IntKind.i64.wrap (IntKind.i64.wrap (v5_0 - 2) - v8_0) - v10_0), IntKind.i64.wrap (IntKind.i64.wrap (v5_0 - 2) - v8_0))] : List (Int × Int))) (ys := s5_9) rfl rfl E34 hO12 hO_s5_9.sl (by decide) hq57 hF.size (fun Ax13 cx13 L13 w13 hO13 g13 hid13 hbl13 => ?_)
        try dsimp only
        have dj_o58_s5_8 : Dj Ax13 A5_8 := Dj.grow dj_o56_s5_8 hbl13 hO_s5_8.lt
        have dj_o58_s5_9 : Dj Ax13 A5_9 := Dj.grow dj_o56_s5_9 hbl13 hO_s5_9.lt
        have dj_o58_w53 : Dj Ax13 a0 := Dj.grow dj_o56_w53 hbl13 hWc11.lt1
        have hO_s5_8 := hO_s5_8.other (Dj.symm dj_o56_s5_8) g13
        have hO_s5_9 := hO_s5_9.other (Dj.symm dj_o56_s5_9) g13
        have hWc11 := hWc11.other (Dj.symm dj_o56_w53) g13
        have hF := Fine.own hF g13 (fun b hb => Or.inr (Own.base hO12 hb)) hid13
        obtain rfl := Option.some.inj h
        have h := hl5 _ rfl
        exact ok_again (I := I5) m5 (Nat.lt_succ_self _) (fun L w' he => by rw [hI5]; exact ⟨_, _, _, _, _, _, _, _, A5_8, c5_8, s5_8, Ax13, cx13, (([(IntKind.i64.wrap (IntKind.i64.wrap (IntKind.i64.wrap (v5_0 - 2) - v8_0) - v10_0), IntKind.i64.wrap (IntKind.i64.wrap (v5_0 - 2) - v8_0))] : List (Int × Int)) ++ s5_9), qc11, rfl, h, hF.trans he.fine, hO_s5_8.later he.fine, hO13.later he.fine, hWc11.later he.fine, (hq11_0.trans (hq10_0.trans (hq8_0.trans (hq6_0.trans hq5_a0_0)))), dj_o58_s5_8, dj_w13_s5_8, (Dj.symm dj_o58_w53)⟩)
       ·have h := bif_f h hc55
        obtain rfl := Option.some.inj h
        have h := hl5 _ rfl
        exact ok_again (I := I5) m5 (Nat.lt_succ_self _) (fun L w' he => by rw [hI5]; exact ⟨_, _, _, _, _, _, _, _, A5_8, c5_8, s5_8, A5_9, c5_9, s5_9, qc11, rfl, h, hF.trans he.fine, hO_s5_8.later he.fine, hO_s5_9.later he.fine, hWc11.later he.fine, (hq11_0.trans (hq10_0.trans (hq8_0.trans (hq6_0.trans hq5_a0_0)))), dj_s5_9_s5_8, dj_w13_s5_8, dj_w13_s5_9⟩)
    ·have h := bif_f h hc19
     refine ok_need hA_a0 ?_
     refine ok_need hA_a0 ?_
     refine ok_ob 1 hWc6.sl (Fine.refl _ _) (fun cs hcs => ⟨qc6.2.1, by rw [hcs]; rfl, ?_⟩)
     try dsimp only
     obtain ⟨r8, hr8, h⟩ := bse h
     obtain ⟨v8_0, qc8⟩ := r8
     try dsimp only at h
     have hBv8 : ∀ b, (r4_number.S a0) b → ¬ _ ∧ b < _ := fun b hb => by exact ⟨(hWc6.lt b hb).2.1, hWc6.lt1 b hb⟩
     have hBm8 : ∀ b, (r4_number.S a0) b → (r4_ack.S a0) b ∨ w.heap.size ≤ b := fun b hb => by exact hmc6 b hb
     have hjB8_s5_8 : ∀ b, blk (A5_8, 0, 0) b → ¬ (r4_number.S a0) b := fun b h0 hb => by exact (Dj.symm dj_w13_s5_8) b h0 hb
     have hjB8_s5_9 : ∀ b, blk (A5_9, 0, 0) b → ¬ (r4_number.S a0) b := fun b h0 hb => by exact (Dj.symm dj_w13_s5_9) b h0 hb
     refine ok_callo (r4_number.S a0) rfl hBv8 (fun L8 w8 g8 lt8 => ?_)
     refine (r4_number.c k _ qc6 _ _ (v8_0, qc8) hr8  w8 (hWc6.later g8).bare' (hSc6_0.later ((hF.trans g8).with hBm8))).mono ?_
     rintro e w8' ⟨rfl, hf8, hWc8, hq8_0⟩
     refine ⟨(v8_0, ()), rfl, hf8, fun g8' hid8 hv8 => ?_⟩
     try dsimp only
     have hSc8_0 : SlR R23.row (r4_ack.S a0) w A0_0 c0_0 qc8.1 := by rw [hq8_0]; exact hSc6_0
     have hmc8 := hmc6
     have hWc8 := hWc8.vis (fun b hb => hv8 b (Or.inl hb))
     have hO_s5_8 := OwnF.others hO_s5_8 hjB8_s5_8 g8'
     have hO_s5_9 := OwnF.others hO_s5_9 hjB8_s5_9 g8'
     have hF := Fine.own hF g8' hBm8 hid8
     refine ok_if (fun hc61 => ?_) (fun hc61 => ?_)
     ·have h := bif_t h hc61
      obtain ⟨qc9, hr9, h⟩ := bse h
      have hBv9 : ∀ b, (r4_fails.S a0) b → ¬ _ ∧ b < _ := fun b hb => by exact ⟨(hWc8.lt b hb).2.1, hWc8.lt1 b hb⟩
      have hBm9 : ∀ b, (r4_fails.S a0) b → (r4_ack.S a0) b ∨ w.heap.size ≤ b := fun b hb => by exact hmc8 b hb
      have hjB9_s5_8 : ∀ b, blk (A5_8, 0, 0) b → ¬ (r4_fails.S a0) b := fun b h0 hb => by exact (Dj.symm dj_w13_s5_8) b h0 hb
      have hjB9_s5_9 : ∀ b, blk (A5_9, 0, 0) b → ¬ (r4_fails.S a0) b := fun b h0 hb => by exact (Dj.symm dj_w13_s5_9) b h0 hb
      refine ok_callo (r4_fails.S a0) rfl hBv9 (fun L9 w9 g9 lt9 => ?_)
      refine (r4_fails.c k _ qc8 _ _ 5 qc6.2.1 qc9 hr9  w9 (hWc8.later g9).bare' (hSc8_0.later ((hF.trans g9).with hBm9))).mono ?_
      rintro e w9' ⟨rfl, hf9, hWc9, hq9_0⟩
      refine ⟨(()), rfl, hf9, fun g9' hid9 hv9 => ?_⟩
      try dsimp only
      have hSc9_0 : SlR R23.row (r4_ack.S a0) w A0_0 c0_0 qc9.1 := by rw [hq9_0]; exact hSc8_0
      have hmc9 := hmc8
      have hWc9 := hWc9.vis (fun b hb => hv9 b (Or.inl hb))
      have hO_s5_8 := OwnF.others hO_s5_8 hjB9_s5_8 g9'
      have hO_s5_9 := OwnF.others hO_s5_9 hjB9_s5_9 g9'
      have hF := Fine.own hF g9' hBm9 hid9
      obtain ⟨r10, hr10, h⟩ := bse h
      obtain ⟨v10_0, qc10⟩ := r10
      try dsimp only at h
      have hBv10 : ∀ b, (r4_ok.S a0) b → ¬ _ ∧ b < _ := fun b hb => by exact ⟨(hWc9.lt b hb).2.1, hWc9.lt1 b hb⟩
      have hBm10 : ∀ b, (r4_ok.S a0) b → (r4_ack.S a0) b ∨ w.heap.size ≤ b := fun b hb => by exact hmc9 b hb
      have hjB10_s5_8 : ∀ b, blk (A5_8, 0, 0) b → ¬ (r4_ok.S a0) b := fun b h0 hb => by exact (Dj.symm dj_w13_s5_8) b h0 hb
      have hjB10_s5_9 : ∀ b, blk (A5_9, 0, 0) b → ¬ (r4_ok.S a0) b := fun b h0 hb => by exact (Dj.symm dj_w13_s5_9) b h0 hb
      refine ok_callo (r4_ok.S a0) rfl hBv10 (fun L10 w10 g10 lt10 => ?_)
      refine (r4_ok.c k _ qc9 _ _ (v10_0, qc10) hr10  w10 (hWc9.later g10).bare' (hSc9_0.later ((hF.trans g10).with hBm10))).mono ?_
      rintro e w10' ⟨rfl, hf10, hWc10, hq10_0⟩
      refine ⟨(v10_0, ()), rfl, hf10, fun g10' hid10 hv10 => ?_⟩
      try dsimp only
      have hSc10_0 : SlR R23.row (r4_ack.S a0) w A0_0 c0_0 qc10.1 := by rw [hq10_0]; exact hSc9_0
      have hmc10 := hmc9
      have hWc10 := hWc10.vis (fun b hb => hv10 b (Or.inl hb))
      have hO_s5_8 := OwnF.others hO_s5_8 hjB10_s5_8 g10'
      have hO_s5_9 := OwnF.others hO_s5_9 hjB10_s5_9 g10'
      have hF := Fine.own hF g10' hBm10 hid10
      refine ok_if (fun hc66 => ?_) (fun hc66 => ?_)
      ·have h := bif_t h hc66
       refine ok_lit (R := R34) (base := w.heap.size) (xs := ([(IntKind.i64.wrap (v5_0 - v8_0), v5_0)] : List (Int × Int))) #[Value.int IntKind.i64 (IntKind.i64.wrap (v5_0 - v8_0)), Value.int IntKind.i64 v5_0] E34 rfl (by decide) (by decide) ⟨_, _, rfl, rfl, by kernel_rfl⟩ rfl hF.size (fun Ax11 cx11 L11 w11 hO11 g11 hbl11 => ?_)
       try dsimp only
       have dj_o67_s5_8 : Dj Ax11 A5_8 := Dj.new hbl11 hO_s5_8.lt
       have dj_o67_s5_9 : Dj Ax11 A5_9 := Dj.new hbl11 hO_s5_9.lt
       have dj_o67_w64 : Dj Ax11 a0 := Dj.new hbl11 hWc10.lt1
       have hF := hF.trans g11
       have hO_s5_8 := hO_s5_8.later g11
       have hO_s5_9 := hO_s5_9.later g11
       have hWc10 := hWc10.later g11
       obtain ⟨hq68, h⟩ := bif_need h
       have hq68 := of_decide_eq_true hq68
       refine ok_app (R := R34) (base := w.heap.size) (xs := ([(IntKind.i64.wrap (v5_0 - v8_0), v5_0)] : List (Int × Int))) (ys := s5_9) rfl rfl E34 hO11 hO_s5_9.sl (by decide) hq68 hF.size (fun Ax12 cx12 L12 w12 hO12 g12 hid12 hbl12 => ?_)
       try dsimp only
       have dj_o69_s5_8 : Dj Ax12 A5_8 := Dj.grow dj_o67_s5_8 hbl12 hO_s5_8.lt
       have dj_o69_s5_9 : Dj Ax12 A5_9 := Dj.grow dj_o67_s5_9 hbl12 hO_s5_9.lt
       have dj_o69_w64 : Dj Ax12 a0 := Dj.grow dj_o67_w64 hbl12 hWc10.lt1
       have hO_s5_8 := hO_s5_8.other (Dj.symm dj_o67_s5_8) g12
       have hO_s5_9 := hO_s5_9.other (Dj.symm dj_o67_s5_9) g12
       have hWc10 := hWc10.other (Dj.symm dj_o67_w64) g12
       have hF := Fine.own hF g12 (fun b hb => Or.inr (Own.base hO11 hb)) hid12
       obtain rfl := Option.some.inj h
       have h := hl5 _ rfl
       exact ok_again (I := I5) m5 (Nat.lt_succ_self _) (fun L w' he => by rw [hI5]; exact ⟨_, _, _, _, _, _, _, _, A5_8, c5_8, s5_8, Ax12, cx12, (([(IntKind.i64.wrap (v5_0 - v8_0), v5_0)] : List (Int × Int)) ++ s5_9), qc10, rfl, h, hF.trans he.fine, hO_s5_8.later he.fine, hO12.later he.fine, hWc10.later he.fine, (hq10_0.trans (hq9_0.trans (hq8_0.trans (hq6_0.trans hq5_a0_0)))), dj_o69_s5_8, dj_w13_s5_8, (Dj.symm dj_o69_w64)⟩)
      ·have h := bif_f h hc66
       obtain rfl := Option.some.inj h
       have h := hl5 _ rfl
       exact ok_again (I := I5) m5 (Nat.lt_succ_self _) (fun L w' he => by rw [hI5]; exact ⟨_, _, _, _, _, _, _, _, A5_8, c5_8, s5_8, A5_9, c5_9, s5_9, qc10, rfl, h, hF.trans he.fine, hO_s5_8.later he.fine, hO_s5_9.later he.fine, hWc10.later he.fine, (hq10_0.trans (hq9_0.trans (hq8_0.trans (hq6_0.trans hq5_a0_0)))), dj_s5_9_s5_8, dj_w13_s5_8, dj_w13_s5_9⟩)
     ·have h := bif_f h hc61
      obtain ⟨r9, hr9, h⟩ := bse h
      obtain ⟨v9_0, qc9⟩ := r9
      try dsimp only at h
      have hBv9 : ∀ b, (r4_ok.S a0) b → ¬ _ ∧ b < _ := fun b hb => by exact ⟨(hWc8.lt b hb).2.1, hWc8.lt1 b hb⟩
      have hBm9 : ∀ b, (r4_ok.S a0) b → (r4_ack.S a0) b ∨ w.heap.size ≤ b := fun b hb => by exact hmc8 b hb
      have hjB9_s5_8 : ∀ b, blk (A5_8, 0, 0) b → ¬ (r4_ok.S a0) b := fun b h0 hb => by exact (Dj.symm dj_w13_s5_8) b h0 hb
      have hjB9_s5_9 : ∀ b, blk (A5_9, 0, 0) b → ¬ (r4_ok.S a0) b := fun b h0 hb => by exact (Dj.symm dj_w13_s5_9) b h0 hb
      refine ok_callo (r4_ok.S a0) rfl hBv9 (fun L9 w9 g9 lt9 => ?_)
      refine (r4_ok.c k _ qc8 _ _ (v9_0, qc9) hr9  w9 (hWc8.later g9).bare' (hSc8_0.later ((hF.trans g9).with hBm9))).mono ?_
      rintro e w9' ⟨rfl, hf9, hWc9, hq9_0⟩
      refine ⟨(v9_0, ()), rfl, hf9, fun g9' hid9 hv9 => ?_⟩
      try dsimp only
      have hSc9_0 : SlR R23.row (r4_ack.S a0) w A0_0 c0_0 qc9.1 := by rw [hq9_0]; exact hSc8_0
      have hmc9 := hmc8
      have hWc9 := hWc9.vis (fun b hb => hv9 b (Or.inl hb))
      have hO_s5_8 := OwnF.others hO_s5_8 hjB9_s5_8 g9'
      have hO_s5_9 := OwnF.others hO_s5_9 hjB9_s5_9 g9'
      have hF := Fine.own hF g9' hBm9 hid9
      refine ok_if (fun hc72 => ?_) (fun hc72 => ?_)
      ·have h := bif_t h hc72
       refine ok_lit (R := R34) (base := w.heap.size) (xs := ([(IntKind.i64.wrap (v5_0 - v8_0), v5_0)] : List (Int × Int))) #[Value.int IntKind.i64 (IntKind.i64.wrap (v5_0 - v8_0)), Value.int IntKind.i64 v5_0] E34 rfl (by decide) (by decide) ⟨_, _, rfl, rfl, by kernel_rfl⟩ rfl hF.size (fun Ax10 cx10 L10 w10 hO10 g10 hbl10 => ?_)
       try dsimp only
       have dj_o73_s5_8 : Dj Ax10 A5_8 := Dj.new hbl10 hO_s5_8.lt
       have dj_o73_s5_9 : Dj Ax10 A5_9 := Dj.new hbl10 hO_s5_9.lt
       have dj_o73_w70 : Dj Ax10 a0 := Dj.new hbl10 hWc9.lt1
       have hF := hF.trans g10
       have hO_s5_8 := hO_s5_8.later g10
       have hO_s5_9 := hO_s5_9.later g10
       have hWc9 := hWc9.later g10
       obtain ⟨hq74, h⟩ := bif_need h
       have hq74 := of_decide_eq_true hq74
       refine ok_app (R := R34) (base := w.heap.size) (xs := ([(IntKind.i64.wrap (v5_0 - v8_0), v5_0)] : List (Int × Int))) (ys := s5_9) rfl rfl E34 hO10 hO_s5_9.sl (by decide) hq74 hF.size (fun Ax11 cx11 L11 w11 hO11 g11 hid11 hbl11 => ?_)
       try dsimp only
       have dj_o75_s5_8 : Dj Ax11 A5_8 := Dj.grow dj_o73_s5_8 hbl11 hO_s5_8.lt
       have dj_o75_s5_9 : Dj Ax11 A5_9 := Dj.grow dj_o73_s5_9 hbl11 hO_s5_9.lt
       have dj_o75_w70 : Dj Ax11 a0 := Dj.grow dj_o73_w70 hbl11 hWc9.lt1
       have hO_s5_8 := hO_s5_8.other (Dj.symm dj_o73_s5_8) g11
       have hO_s5_9 := hO_s5_9.other (Dj.symm dj_o73_s5_9) g11
       have hWc9 := hWc9.other (Dj.symm dj_o73_w70) g11
       have hF := Fine.own hF g11 (fun b hb => Or.inr (Own.base hO10 hb)) hid11
       obtain rfl := Option.some.inj h
       have h := hl5 _ rfl
       exact ok_again (I := I5) m5 (Nat.lt_succ_self _) (fun L w' he => by rw [hI5]; exact ⟨_, _, _, _, _, _, _, _, A5_8, c5_8, s5_8, Ax11, cx11, (([(IntKind.i64.wrap (v5_0 - v8_0), v5_0)] : List (Int × Int)) ++ s5_9), qc9, rfl, h, hF.trans he.fine, hO_s5_8.later he.fine, hO11.later he.fine, hWc9.later he.fine, (hq9_0.trans (hq8_0.trans (hq6_0.trans hq5_a0_0))), dj_o75_s5_8, dj_w13_s5_8, (Dj.symm dj_o75_w70)⟩)
      ·have h := bif_f h hc72
       obtain rfl := Option.some.inj h
       have h := hl5 _ rfl
       exact ok_again (I := I5) m5 (Nat.lt_succ_self _) (fun L w' he => by rw [hI5]; exact ⟨_, _, _, _, _, _, _, _, A5_8, c5_8, s5_8, A5_9, c5_9, s5_9, qc9, rfl, h, hF.trans he.fine, hO_s5_8.later he.fine, hO_s5_9.later he.fine, hWc9.later he.fine, (hq9_0.trans (hq8_0.trans (hq6_0.trans hq5_a0_0))), dj_s5_9_s5_8, dj_w13_s5_8, dj_w13_s5_9⟩)
   ·have h := bif_f h hc18
    obtain rfl := Option.some.inj h
    obtain rfl := hr_5 _ rfl
    have homes := fun (b : Nat) (h : b < w.heap.size) => h
    intro ρ L w' _ he _ _
    exact ⟨A5_8, c5_8, A5_9, c5_9, rfl, (hF.ext he).with (fun b h => Or.inl h), (hWc6.later he.fine).bare', (hO_s5_8.later he.fine).ret, (hO_s5_9.later he.fine).ret, dj_s5_9_s5_8, (hq6_0.trans hq5_a0_0)⟩
  ·have h := bif_f h hc15
   obtain rfl := Option.some.inj h
   obtain rfl := hr_5 _ rfl
   have homes := fun (b : Nat) (h : b < w.heap.size) => h
   intro ρ L w' _ he _ _
   exact ⟨A5_8, c5_8, A5_9, c5_9, rfl, (hF.ext he).with (fun b h => Or.inl h), (hW5_a0.later he.fine).bare', (hO_s5_8.later he.fine).ret, (hO_s5_9.later he.fine).ret, dj_s5_9_s5_8, hq5_a0_0⟩
 ·have h := bif_f h hc9
  obtain ⟨I4, hI4⟩ : ∃ I : Nat → Tup [Lf.i .i64, Lf.i .i64, Lf.i .i64, Lf.i .i64, Lf.i .i64, Lf.i .i64, Lf.i .i64, Lf.b, Lf.sl, Lf.sl] → (Nat → Prop) → World → Prop, I = (fun m_ y L w' => ∃ (v4_0 : Int) (v4_1 : Int) (v4_2 : Int) (v4_3 : Int) (v4_4 : Int) (v4_5 : Int) (v4_6 : Int) (v4_7 : Bool) (A4_8 : Option Addr) (c4_8 : Nat) (s4_8 : List Int) (A4_9 : Option Addr) (c4_9 : Nat) (s4_9 : List (Int × Int)) (q4_a0 : (List Int) × Int × Int × Int), y = (v4_0, v4_1, v4_2, v4_3, v4_4, v4_5, v4_6, v4_7, (A4_8, s4_8.length, c4_8), (A4_9, s4_9.length, c4_9), ()) ∧ iter (r4_ack.s4 k v3_0) m_ (v4_0, v4_1, v4_2, v4_3, v4_4, v4_5, v4_6, v4_7, s4_8, s4_9, q4_a0) = some r ∧ Fine (r4_ack.S a0) w L w' ∧ OwnF w.heap.size L w' 5 R23 A4_8 c4_8 s4_8 ∧ OwnF w.heap.size L w' 42 R34 A4_9 c4_9 s4_9 ∧ OwnO 0 L w' 61 RW61 a0 1 [((A0_0, q4_a0.1.length, c0_0), q4_a0.2.1, q4_a0.2.2.1, q4_a0.2.2.2)] ∧ q4_a0.1 = q0.1 ∧ Dj A4_9 A4_8 ∧ Dj a0 A4_8 ∧ Dj a0 A4_9) := ⟨_, rfl⟩
  refine ok_loop I4 k (by rw [hI4]; exact ⟨_, _, _, _, _, _, _, _, none, 0, [], none, 0, [], qc3, rfl, h, hF, OwnF.nil _ _ _ _ _, OwnF.nil _ _ _ _ _, hWc3, (hq3_0.trans (hq1_0.trans (hq0_0.trans rfl))), Dj.nil2, Dj.nil, Dj.nil⟩) ?_
  clear h
  intro m_ y L4 w4 hy
  rw [hI4] at hy
  obtain ⟨v4_0, v4_1, v4_2, v4_3, v4_4, v4_5, v4_6, v4_7, A4_8, c4_8, s4_8, A4_9, c4_9, s4_9, q4_a0, rfl, h, hF, hO_s4_8, hO_s4_9, hW4_a0, hq4_a0_0, dj_s4_9_s4_8, dj_w77_s4_8, dj_w77_s4_9⟩ := hy
  have hS4_a0_0 : SlR R23.row (r4_ack.S a0) w A0_0 c0_0 q4_a0.1 := by rw [hq4_a0_0]; exact hS0_0
  obtain ⟨m4, o4, rfl, h, hl4, hr_4⟩ := iter_some h
  unfold r4_ack.s4 at h
  try dsimp only at h
  try dsimp only
  refine ok_if (fun hc79 => ?_) (fun hc79 => ?_)
  ·have h := bif_t h hc79
   obtain ⟨r5, hr5, h⟩ := bse h
   obtain ⟨v5_0, qc5⟩ := r5
   try dsimp only at h
   have hBv5 : ∀ b, (r4_ok.S a0) b → ¬ _ ∧ b < _ := fun b hb => by exact ⟨(hW4_a0.lt b hb).2.1, hW4_a0.lt1 b hb⟩
   have hBm5 : ∀ b, (r4_ok.S a0) b → (r4_ack.S a0) b ∨ w.heap.size ≤ b := fun b hb => by exact hmc3 b hb
   have hjB5_s4_8 : ∀ b, blk (A4_8, 0, 0) b → ¬ (r4_ok.S a0) b := fun b h0 hb => by exact (Dj.symm dj_w77_s4_8) b h0 hb
   have hjB5_s4_9 : ∀ b, blk (A4_9, 0, 0) b → ¬ (r4_ok.S a0) b := fun b h0 hb => by exact (Dj.symm dj_w77_s4_9) b h0 hb
   refine ok_callo (r4_ok.S a0) rfl hBv5 (fun L5 w5 g5 lt5 => ?_)
   refine (r4_ok.c k _ q4_a0 _ _ (v5_0, qc5) hr5  w5 (hW4_a0.later g5).bare' (hS4_a0_0.later ((hF.trans g5).with hBm5))).mono ?_
   rintro e w5' ⟨rfl, hf5, hWc5, hq5_0⟩
   refine ⟨(v5_0, ()), rfl, hf5, fun g5' hid5 hv5 => ?_⟩
   try dsimp only
   have hSc5_0 : SlR R23.row (r4_ack.S a0) w A0_0 c0_0 qc5.1 := by rw [hq5_0]; exact hS4_a0_0
   have hmc5 := hmc3
   have hWc5 := hWc5.vis (fun b hb => hv5 b (Or.inl hb))
   have hO_s4_8 := OwnF.others hO_s4_8 hjB5_s4_8 g5'
   have hO_s4_9 := OwnF.others hO_s4_9 hjB5_s4_9 g5'
   have hF := Fine.own hF g5' hBm5 hid5
   refine ok_if (fun hc82 => ?_) (fun hc82 => ?_)
   ·have h := bif_t h hc82
    refine ok_if (fun hc83 => ?_) (fun hc83 => ?_)
    ·have h := bif_t h hc83
     refine ok_need hA_a0 ?_
     refine ok_need hA_a0 ?_
     refine ok_ob 1 hWc5.sl (Fine.refl _ _) (fun cs hcs => ⟨qc5.2.1, by rw [hcs]; rfl, ?_⟩)
     try dsimp only
     obtain ⟨r7, hr7, h⟩ := bse h
     obtain ⟨v7_0, qc7⟩ := r7
     try dsimp only at h
     have hBv7 : ∀ b, (r4_number.S a0) b → ¬ _ ∧ b < _ := fun b hb => by exact ⟨(hWc5.lt b hb).2.1, hWc5.lt1 b hb⟩
     have hBm7 : ∀ b, (r4_number.S a0) b → (r4_ack.S a0) b ∨ w.heap.size ≤ b := fun b hb => by exact hmc5 b hb
     have hjB7_s4_8 : ∀ b, blk (A4_8, 0, 0) b → ¬ (r4_number.S a0) b := fun b h0 hb => by exact (Dj.symm dj_w77_s4_8) b h0 hb
     have hjB7_s4_9 : ∀ b, blk (A4_9, 0, 0) b → ¬ (r4_number.S a0) b := fun b h0 hb => by exact (Dj.symm dj_w77_s4_9) b h0 hb
     refine ok_callo (r4_number.S a0) rfl hBv7 (fun L7 w7 g7 lt7 => ?_)
     refine (r4_number.c k _ qc5 _ _ (v7_0, qc7) hr7  w7 (hWc5.later g7).bare' (hSc5_0.later ((hF.trans g7).with hBm7))).mono ?_
     rintro e w7' ⟨rfl, hf7, hWc7, hq7_0⟩
     refine ⟨(v7_0, ()), rfl, hf7, fun g7' hid7 hv7 => ?_⟩
     try dsimp only
     have hSc7_0 : SlR R23.row (r4_ack.S a0) w A0_0 c0_0 qc7.1 := by rw [hq7_0]; exact hSc5_0
     have hmc7 := hmc5
     have hWc7 := hWc7.vis (fun b hb => hv7 b (Or.inl hb))
     have hO_s4_8 := OwnF.others hO_s4_8 hjB7_s4_8 g7'
     have hO_s4_9 := OwnF.others hO_s4_9 hjB7_s4_9 g7'
     have hF := Fine.own hF g7' hBm7 hid7
     refine ok_if (fun hc86 => ?_) (fun hc86 => ?_)
     ·have h := bif_t h hc86
      obtain ⟨qc8, hr8, h⟩ := bse h
      have hBv8 : ∀ b, (r4_fails.S a0) b → ¬ _ ∧ b < _ := fun b hb => by exact ⟨(hWc7.lt b hb).2.1, hWc7.lt1 b hb⟩
      have hBm8 : ∀ b, (r4_fails.S a0) b → (r4_ack.S a0) b ∨ w.heap.size ≤ b := fun b hb => by exact hmc7 b hb
      have hjB8_s4_8 : ∀ b, blk (A4_8, 0, 0) b → ¬ (r4_fails.S a0) b := fun b h0 hb => by exact (Dj.symm dj_w77_s4_8) b h0 hb
      have hjB8_s4_9 : ∀ b, blk (A4_9, 0, 0) b → ¬ (r4_fails.S a0) b := fun b h0 hb => by exact (Dj.symm dj_w77_s4_9) b h0 hb
      refine ok_callo (r4_fails.S a0) rfl hBv8 (fun L8 w8 g8 lt8 => ?_)
      refine (r4_fails.c k _ qc7 _ _ 5 qc5.2.1 qc8 hr8  w8 (hWc7.later g8).bare' (hSc7_0.later ((hF.trans g8).with hBm8))).mono ?_
      rintro e w8' ⟨rfl, hf8, hWc8, hq8_0⟩
      refine ⟨(()), rfl, hf8, fun g8' hid8 hv8 => ?_⟩
      try dsimp only
      have hSc8_0 : SlR R23.row (r4_ack.S a0) w A0_0 c0_0 qc8.1 := by rw [hq8_0]; exact hSc7_0
      have hmc8 := hmc7
      have hWc8 := hWc8.vis (fun b hb => hv8 b (Or.inl hb))
      have hO_s4_8 := OwnF.others hO_s4_8 hjB8_s4_8 g8'
      have hO_s4_9 := OwnF.others hO_s4_9 hjB8_s4_9 g8'
      have hF := Fine.own hF g8' hBm8 hid8
      refine ok_need hA_a0 ?_
      refine ok_need hA_a0 ?_
      refine ok_ob 1 hWc8.sl (Fine.refl _ _) (fun cs hcs => ⟨qc8.2.1, by rw [hcs]; rfl, ?_⟩)
      try dsimp only
      obtain ⟨r10, hr10, h⟩ := bse h
      obtain ⟨v10_0, qc10⟩ := r10
      try dsimp only at h
      have hBv10 : ∀ b, (r4_number.S a0) b → ¬ _ ∧ b < _ := fun b hb => by exact ⟨(hWc8.lt b hb).2.1, hWc8.lt1 b hb⟩
      have hBm10 : ∀ b, (r4_number.S a0) b → (r4_ack.S a0) b ∨ w.heap.size ≤ b := fun b hb => by exact hmc8 b hb
      have hjB10_s4_8 : ∀ b, blk (A4_8, 0, 0) b → ¬ (r4_number.S a0) b := fun b h0 hb => by exact (Dj.symm dj_w77_s4_8) b h0 hb
      have hjB10_s4_9 : ∀ b, blk (A4_9, 0, 0) b → ¬ (r4_number.S a0) b := fun b h0 hb => by exact (Dj.symm dj_w77_s4_9) b h0 hb
      refine ok_callo (r4_number.S a0) rfl hBv10 (fun L10 w10 g10 lt10 => ?_)
      refine (r4_number.c k _ qc8 _ _ (v10_0, qc10) hr10  w10 (hWc8.later g10).bare' (hSc8_0.later ((hF.trans g10).with hBm10))).mono ?_
      rintro e w10' ⟨rfl, hf10, hWc10, hq10_0⟩
      refine ⟨(v10_0, ()), rfl, hf10, fun g10' hid10 hv10 => ?_⟩
      try dsimp only
      have hSc10_0 : SlR R23.row (r4_ack.S a0) w A0_0 c0_0 qc10.1 := by rw [hq10_0]; exact hSc8_0
      have hmc10 := hmc8
      have hWc10 := hWc10.vis (fun b hb => hv10 b (Or.inl hb))
      have hO_s4_8 := OwnF.others hO_s4_8 hjB10_s4_8 g10'
      have hO_s4_9 := OwnF.others hO_s4_9 hjB10_s4_9 g10'
      have hF := Fine.own hF g10' hBm10 hid10
      refine ok_if (fun hc91 => ?_) (fun hc91 => ?_)
      ·have h := bif_t h hc91
       obtain ⟨qc11, hr11, h⟩ := bse h
       have hBv11 : ∀ b, (r4_fails.S a0) b → ¬ _ ∧ b < _ := fun b hb => by exact ⟨(hWc10.lt b hb).2.1, hWc10.lt1 b hb⟩
       have hBm11 : ∀ b, (r4_fails.S a0) b → (r4_ack.S a0) b ∨ w.heap.size ≤ b := fun b hb => by exact hmc10 b hb
       have hjB11_s4_8 : ∀ b, blk (A4_8, 0, 0) b → ¬ (r4_fails.S a0) b := fun b h0 hb => by exact (Dj.symm dj_w77_s4_8) b h0 hb
       have hjB11_s4_9 : ∀ b, blk (A4_9, 0, 0) b → ¬ (r4_fails.S a0) b := fun b h0 hb => by exact (Dj.symm dj_w77_s4_9) b h0 hb
       refine ok_callo (r4_fails.S a0) rfl hBv11 (fun L11 w11 g11 lt11 => ?_)
       refine (r4_fails.c k _ qc10 _ _ 5 qc8.2.1 qc11 hr11  w11 (hWc10.later g11).bare' (hSc10_0.later ((hF.trans g11).with hBm11))).mono ?_
       rintro e w11' ⟨rfl, hf11, hWc11, hq11_0⟩
       refine ⟨(()), rfl, hf11, fun g11' hid11 hv11 => ?_⟩
       try dsimp only
       have hSc11_0 : SlR R23.row (r4_ack.S a0) w A0_0 c0_0 qc11.1 := by rw [hq11_0]; exact hSc10_0
       have hmc11 := hmc10
       have hWc11 := hWc11.vis (fun b hb => hv11 b (Or.inl hb))
       have hO_s4_8 := OwnF.others hO_s4_8 hjB11_s4_8 g11'
       have hO_s4_9 := OwnF.others hO_s4_9 hjB11_s4_9 g11'
       have hF := Fine.own hF g11' hBm11 hid11
       obtain ⟨r12, hr12, h⟩ := bse h
       obtain ⟨v12_0, qc12⟩ := r12
       try dsimp only at h
       have hBv12 : ∀ b, (r4_ok.S a0) b → ¬ _ ∧ b < _ := fun b hb => by exact ⟨(hWc11.lt b hb).2.1, hWc11.lt1 b hb⟩
       have hBm12 : ∀ b, (r4_ok.S a0) b → (r4_ack.S a0) b ∨ w.heap.size ≤ b := fun b hb => by exact hmc11 b hb
       have hjB12_s4_8 : ∀ b, blk (A4_8, 0, 0) b → ¬ (r4_ok.S a0) b := fun b h0 hb => by exact (Dj.symm dj_w77_s4_8) b h0 hb
       have hjB12_s4_9 : ∀ b, blk (A4_9, 0, 0) b → ¬ (r4_ok.S a0) b := fun b h0 hb => by exact (Dj.symm dj_w77_s4_9) b h0 hb
       refine ok_callo (r4_ok.S a0) rfl hBv12 (fun L12 w12 g12 lt12 => ?_)
       refine (r4_ok.c k _ qc11 _ _ (v12_0, qc12) hr12  w12 (hWc11.later g12).bare' (hSc11_0.later ((hF.trans g12).with hBm12))).mono ?_
       rintro e w12' ⟨rfl, hf12, hWc12, hq12_0⟩
       refine ⟨(v12_0, ()), rfl, hf12, fun g12' hid12 hv12 => ?_⟩
       try dsimp only
       have hSc12_0 : SlR R23.row (r4_ack.S a0) w A0_0 c0_0 qc12.1 := by rw [hq12_0]; exact hSc11_0
       have hmc12 := hmc11
       have hWc12 := hWc12.vis (fun b hb => hv12 b (Or.inl hb))
       have hO_s4_8 := OwnF.others hO_s4_8 hjB12_s4_8 g12'
       have hO_s4_9 := OwnF.others hO_s4_9 hjB12_s4_9 g12'
       have hF := Fine.own hF g12' hBm12 hid12
       refine ok_if (fun hc96 => ?_) (fun hc96 => ?_)
       ·have h := bif_t h hc96
        refine ok_lit (R := R34) (base := w.heap.size) (xs := ([(IntKind.i64.wrap (IntKind.i64.wrap (IntKind.i64.wrap (v4_0 - 2) - v7_0) - v10_0), IntKind.i64.wrap (IntKind.i64.wrap (v4_0 - 2) - v7_0))] : List (Int × Int))) #[Value.int IntKind.i64 (IntKind.i64.wrap (IntKind.i64.wrap (IntKind.i64.wrap (v4_0 - 2) - v7_0) - v10_0)), Value.int IntKind.i64 (IntKind.i64.wrap (IntKind.i64.wrap (v4_0 - 2) - v7_0))] E34 rfl (by decide) (by decide) ⟨_, _, rfl, rfl, by kernel_rfl⟩ rfl hF.size (fun Ax13 cx13 L13 w13 hO13 g13 hbl13 => ?_)
        try dsimp only
        have dj_o97_s4_8 : Dj Ax13 A4_8 := Dj.new hbl13 hO_s4_8.lt
        have dj_o97_s4_9 : Dj Ax13 A4_9 := Dj.new hbl13 hO_s4_9.lt
        have dj_o97_w94 : Dj Ax13 a0 := Dj.new hbl13 hWc12.lt1
        have hF := hF.trans g13
        have hO_s4_8 := hO_s4_8.later g13
        have hO_s4_9 := hO_s4_9.later g13
        have hWc12 := hWc12.later g13
        obtain ⟨hq98, h⟩ := bif_need h
        have hq98 := of_decide_eq_true hq98
        refine ok_app (R := R34) (base := w.heap.size) (xs := ([(IntKind.i64.wrap (IntKind.i64.wrap (IntKind.i64.wrap (v4_0 - 2) - v7_0) - v10_0), IntKind.i64.wrap (IntKind.i64.wrap (v4_0 - 2) - v7_0))] : List (Int × Int))) (ys := s4_9) rfl rfl E34 hO13 hO_s4_9.sl (by decide) hq98 hF.size (fun Ax14 cx14 L14 w14 hO14 g14 hid14 hbl14 => ?_)
        try dsimp only
        have dj_o99_s4_8 : Dj Ax14 A4_8 := Dj.grow dj_o97_s4_8 hbl14 hO_s4_8.lt
        have dj_o99_s4_9 : Dj Ax14 A4_9 := Dj.grow dj_o97_s4_9 hbl14 hO_s4_9.lt
        have dj_o99_w94 : Dj Ax14 a0 := Dj.grow dj_o97_w94 hbl14 hWc12.lt1
        have hO_s4_8 := hO_s4_8.other (Dj.symm dj_o97_s4_8) g14
        have hO_s4_9 := hO_s4_9.other (Dj.symm dj_o97_s4_9) g14
        have hWc12 := hWc12.other (Dj.symm dj_o97_w94) g14
        have hF := Fine.own hF g14 (fun b hb => Or.inr (Own.base hO13 hb)) hid14
        obtain rfl := Option.some.inj h
        have h := hl4 _ rfl
        exact ok_again (I := I4) m4 (Nat.lt_succ_self _) (fun L w' he => by rw [hI4]; exact ⟨_, _, _, _, _, _, _, _, A4_8, c4_8, s4_8, Ax14, cx14, (([(IntKind.i64.wrap (IntKind.i64.wrap (IntKind.i64.wrap (v4_0 - 2) - v7_0) - v10_0), IntKind.i64.wrap (IntKind.i64.wrap (v4_0 - 2) - v7_0))] : List (Int × Int)) ++ s4_9), qc12, rfl, h, hF.trans he.fine, hO_s4_8.later he.fine, hO14.later he.fine, hWc12.later he.fine, (hq12_0.trans (hq11_0.trans (hq10_0.trans (hq8_0.trans (hq7_0.trans (hq5_0.trans hq4_a0_0)))))), dj_o99_s4_8, dj_w77_s4_8, (Dj.symm dj_o99_w94)⟩)
       ·have h := bif_f h hc96
        obtain rfl := Option.some.inj h
        have h := hl4 _ rfl
        exact ok_again (I := I4) m4 (Nat.lt_succ_self _) (fun L w' he => by rw [hI4]; exact ⟨_, _, _, _, _, _, _, _, A4_8, c4_8, s4_8, A4_9, c4_9, s4_9, qc12, rfl, h, hF.trans he.fine, hO_s4_8.later he.fine, hO_s4_9.later he.fine, hWc12.later he.fine, (hq12_0.trans (hq11_0.trans (hq10_0.trans (hq8_0.trans (hq7_0.trans (hq5_0.trans hq4_a0_0)))))), dj_s4_9_s4_8, dj_w77_s4_8, dj_w77_s4_9⟩)
      ·have h := bif_f h hc91
       obtain ⟨r11, hr11, h⟩ := bse h
       obtain ⟨v11_0, qc11⟩ := r11
       try dsimp only at h
       have hBv11 : ∀ b, (r4_ok.S a0) b → ¬ _ ∧ b < _ := fun b hb => by exact ⟨(hWc10.lt b hb).2.1, hWc10.lt1 b hb⟩
       have hBm11 : ∀ b, (r4_ok.S a0) b → (r4_ack.S a0) b ∨ w.heap.size ≤ b := fun b hb => by exact hmc10 b hb
       have hjB11_s4_8 : ∀ b, blk (A4_8, 0, 0) b → ¬ (r4_ok.S a0) b := fun b h0 hb => by exact (Dj.symm dj_w77_s4_8) b h0 hb
       have hjB11_s4_9 : ∀ b, blk (A4_9, 0, 0) b → ¬ (r4_ok.S a0) b := fun b h0 hb => by exact (Dj.symm dj_w77_s4_9) b h0 hb
       refine ok_callo (r4_ok.S a0) rfl hBv11 (fun L11 w11 g11 lt11 => ?_)
       refine (r4_ok.c k _ qc10 _ _ (v11_0, qc11) hr11  w11 (hWc10.later g11).bare' (hSc10_0.later ((hF.trans g11).with hBm11))).mono ?_
       rintro e w11' ⟨rfl, hf11, hWc11, hq11_0⟩
       refine ⟨(v11_0, ()), rfl, hf11, fun g11' hid11 hv11 => ?_⟩
       try dsimp only
       have hSc11_0 : SlR R23.row (r4_ack.S a0) w A0_0 c0_0 qc11.1 := by rw [hq11_0]; exact hSc10_0
       have hmc11 := hmc10
       have hWc11 := hWc11.vis (fun b hb => hv11 b (Or.inl hb))
       have hO_s4_8 := OwnF.others hO_s4_8 hjB11_s4_8 g11'
       have hO_s4_9 := OwnF.others hO_s4_9 hjB11_s4_9 g11'
       have hF := Fine.own hF g11' hBm11 hid11
       refine ok_if (fun hc102 => ?_) (fun hc102 => ?_)
       ·have h := bif_t h hc102
        refine ok_lit (R := R34) (base := w.heap.size) (xs := ([(IntKind.i64.wrap (IntKind.i64.wrap (IntKind.i64.wrap (v4_0 - 2) - v7_0) - v10_0), IntKind.i64.wrap (IntKind.i64.wrap (v4_0 - 2) - v7_0))] : List (Int × Int))) #[Value.int IntKind.i64 (IntKind.i64.wrap (IntKind.i64.wrap (IntKind.i64.wrap (v4_0 - 2) - v7_0) - v10_0)), Value.int IntKind.i64 (IntKind.i64.wrap (IntKind.i64.wrap (v4_0 - 2) - v7_0))] E34 rfl (by decide) (by decide) ⟨_, _, rfl, rfl, by kernel_rfl⟩ rfl hF.size (fun Ax12 cx12 L12 w12 hO12 g12 hbl12 => ?_)
        try dsimp only
        have dj_o103_s4_8 : Dj Ax12 A4_8 := Dj.new hbl12 hO_s4_8.lt
        have dj_o103_s4_9 : Dj Ax12 A4_9 := Dj.new hbl12 hO_s4_9.lt
        have dj_o103_w100 : Dj Ax12 a0 := Dj.new hbl12 hWc11.lt1
        have hF := hF.trans g12
        have hO_s4_8 := hO_s4_8.later g12
        have hO_s4_9 := hO_s4_9.later g12
        have hWc11 := hWc11.later g12
        obtain ⟨hq104, h⟩ := bif_need h
        have hq104 := of_decide_eq_true hq104
        refine ok_app (R := R34) (base := w.heap.size) (xs := ([(IntKind.i64.wrap (IntKind.i64.wrap (IntKind.i64.wrap (v4_0 - 2) - v7_0) - v10_0), IntKind.i64.wrap (IntKind.i64.wrap (v4_0 - 2) - v7_0))] : List (Int × Int))) (ys := s4_9) rfl rfl E34 hO12 hO_s4_9.sl (by decide) hq104 hF.size (fun Ax13 cx13 L13 w13 hO13 g13 hid13 hbl13 => ?_)
        try dsimp only
        have dj_o105_s4_8 : Dj Ax13 A4_8 := Dj.grow dj_o103_s4_8 hbl13 hO_s4_8.lt
        have dj_o105_s4_9 : Dj Ax13 A4_9 := Dj.grow dj_o103_s4_9 hbl13 hO_s4_9.lt
        have dj_o105_w100 : Dj Ax13 a0 := Dj.grow dj_o103_w100 hbl13 hWc11.lt1
        have hO_s4_8 := hO_s4_8.other (Dj.symm dj_o103_s4_8) g13
        have hO_s4_9 := hO_s4_9.other (Dj.symm dj_o103_s4_9) g13
        have hWc11 := hWc11.other (Dj.symm dj_o103_w100) g13
        have hF := Fine.own hF g13 (fun b hb => Or.inr (Own.base hO12 hb)) hid13
        obtain rfl := Option.some.inj h
        have h := hl4 _ rfl
        exact ok_again (I := I4) m4 (Nat.lt_succ_self _) (fun L w' he => by rw [hI4]; exact ⟨_, _, _, _, _, _, _, _, A4_8, c4_8, s4_8, Ax13, cx13, (([(IntKind.i64.wrap (IntKind.i64.wrap (IntKind.i64.wrap (v4_0 - 2) - v7_0) - v10_0), IntKind.i64.wrap (IntKind.i64.wrap (v4_0 - 2) - v7_0))] : List (Int × Int)) ++ s4_9), qc11, rfl, h, hF.trans he.fine, hO_s4_8.later he.fine, hO13.later he.fine, hWc11.later he.fine, (hq11_0.trans (hq10_0.trans (hq8_0.trans (hq7_0.trans (hq5_0.trans hq4_a0_0))))), dj_o105_s4_8, dj_w77_s4_8, (Dj.symm dj_o105_w100)⟩)
       ·have h := bif_f h hc102
        obtain rfl := Option.some.inj h
        have h := hl4 _ rfl
        exact ok_again (I := I4) m4 (Nat.lt_succ_self _) (fun L w' he => by rw [hI4]; exact ⟨_, _, _, _, _, _, _, _, A4_8, c4_8, s4_8, A4_9, c4_9, s4_9, qc11, rfl, h, hF.trans he.fine, hO_s4_8.later he.fine, hO_s4_9.later he.fine, hWc11.later he.fine, (hq11_0.trans (hq10_0.trans (hq8_0.trans (hq7_0.trans (hq5_0.trans hq4_a0_0))))), dj_s4_9_s4_8, dj_w77_s4_8, dj_w77_s4_9⟩)
     ·have h := bif_f h hc86
      refine ok_need hA_a0 ?_
      refine ok_need hA_a0 ?_
      refine ok_ob 1 hWc7.sl (Fine.refl _ _) (fun cs hcs => ⟨qc7.2.1, by rw [hcs]; rfl, ?_⟩)
      try dsimp only
      obtain ⟨r9, hr9, h⟩ := bse h
      obtain ⟨v9_0, qc9⟩ := r9
      try dsimp only at h
      have hBv9 : ∀ b, (r4_number.S a0) b → ¬ _ ∧ b < _ := fun b hb => by exact ⟨(hWc7.lt b hb).2.1, hWc7.lt1 b hb⟩
      have hBm9 : ∀ b, (r4_number.S a0) b → (r4_ack.S a0) b ∨ w.heap.size ≤ b := fun b hb => by exact hmc7 b hb
      have hjB9_s4_8 : ∀ b, blk (A4_8, 0, 0) b → ¬ (r4_number.S a0) b := fun b h0 hb => by exact (Dj.symm dj_w77_s4_8) b h0 hb
      have hjB9_s4_9 : ∀ b, blk (A4_9, 0, 0) b → ¬ (r4_number.S a0) b := fun b h0 hb => by exact (Dj.symm dj_w77_s4_9) b h0 hb
      refine ok_callo (r4_number.S a0) rfl hBv9 (fun L9 w9 g9 lt9 => ?_)
      refine (r4_number.c k _ qc7 _ _ (v9_0, qc9) hr9  w9 (hWc7.later g9).bare' (hSc7_0.later ((hF.trans g9).with hBm9))).mono ?_
      rintro e w9' ⟨rfl, hf9, hWc9, hq9_0⟩
      refine ⟨(v9_0, ()), rfl, hf9, fun g9' hid9 hv9 => ?_⟩
      try dsimp only
      have hSc9_0 : SlR R23.row (r4_ack.S a0) w A0_0 c0_0 qc9.1 := by rw [hq9_0]; exact hSc7_0
      have hmc9 := hmc7
      have hWc9 := hWc9.vis (fun b hb => hv9 b (Or.inl hb))
      have hO_s4_8 := OwnF.others hO_s4_8 hjB9_s4_8 g9'
      have hO_s4_9 := OwnF.others hO_s4_9 hjB9_s4_9 g9'
      have hF := Fine.own hF g9' hBm9 hid9
      refine ok_if (fun hc108 => ?_) (fun hc108 => ?_)
      ·have h := bif_t h hc108
       obtain ⟨qc10, hr10, h⟩ := bse h
       have hBv10 : ∀ b, (r4_fails.S a0) b → ¬ _ ∧ b < _ := fun b hb => by exact ⟨(hWc9.lt b hb).2.1, hWc9.lt1 b hb⟩
       have hBm10 : ∀ b, (r4_fails.S a0) b → (r4_ack.S a0) b ∨ w.heap.size ≤ b := fun b hb => by exact hmc9 b hb
       have hjB10_s4_8 : ∀ b, blk (A4_8, 0, 0) b → ¬ (r4_fails.S a0) b := fun b h0 hb => by exact (Dj.symm dj_w77_s4_8) b h0 hb
       have hjB10_s4_9 : ∀ b, blk (A4_9, 0, 0) b → ¬ (r4_fails.S a0) b := fun b h0 hb => by exact (Dj.symm dj_w77_s4_9) b h0 hb
       refine ok_callo (r4_fails.S a0) rfl hBv10 (fun L10 w10 g10 lt10 => ?_)
       refine (r4_fails.c k _ qc9 _ _ 5 qc7.2.1 qc10 hr10  w10 (hWc9.later g10).bare' (hSc9_0.later ((hF.trans g10).with hBm10))).mono ?_
       rintro e w10' ⟨rfl, hf10, hWc10, hq10_0⟩
       refine ⟨(()), rfl, hf10, fun g10' hid10 hv10 => ?_⟩
       try dsimp only
       have hSc10_0 : SlR R23.row (r4_ack.S a0) w A0_0 c0_0 qc10.1 := by rw [hq10_0]; exact hSc9_0
       have hmc10 := hmc9
       have hWc10 := hWc10.vis (fun b hb => hv10 b (Or.inl hb))
       have hO_s4_8 := OwnF.others hO_s4_8 hjB10_s4_8 g10'
       have hO_s4_9 := OwnF.others hO_s4_9 hjB10_s4_9 g10'
       have hF := Fine.own hF g10' hBm10 hid10
       obtain ⟨r11, hr11, h⟩ := bse h
       obtain ⟨v11_0, qc11⟩ := r11
       try dsimp only at h
       have hBv11 : ∀ b, (r4_ok.S a0) b → ¬ _ ∧ b < _ := fun b hb => by exact ⟨(hWc10.lt b hb).2.1, hWc10.lt1 b hb⟩
       have hBm11 : ∀ b, (r4_ok.S a0) b → (r4_ack.S a0) b ∨ w.heap.size ≤ b := fun b hb => by exact hmc10 b hb
       have hjB11_s4_8 : ∀ b, blk (A4_8, 0, 0) b → ¬ (r4_ok.S a0) b := fun b h0 hb => by exact (Dj.symm dj_w77_s4_8) b h0 hb
       have hjB11_s4_9 : ∀ b, blk (A4_9, 0, 0) b → ¬ (r4_ok.S a0) b := fun b h0 hb => by exact (Dj.symm dj_w77_s4_9) b h0 hb
       refine ok_callo (r4_ok.S a0) rfl hBv11 (fun L11 w11 g11 lt11 => ?_)
       refine (r4_ok.c k _ qc10 _ _ (v11_0, qc11) hr11  w11 (hWc10.later g11).bare' (hSc10_0.later ((hF.trans g11).with hBm11))).mono ?_
       rintro e w11' ⟨rfl, hf11, hWc11, hq11_0⟩
       refine ⟨(v11_0, ()), rfl, hf11, fun g11' hid11 hv11 => ?_⟩
       try dsimp only
       have hSc11_0 : SlR R23.row (r4_ack.S a0) w A0_0 c0_0 qc11.1 := by rw [hq11_0]; exact hSc10_0
       have hmc11 := hmc10
       have hWc11 := hWc11.vis (fun b hb => hv11 b (Or.inl hb))
       have hO_s4_8 := OwnF.others hO_s4_8 hjB11_s4_8 g11'
       have hO_s4_9 := OwnF.others hO_s4_9 hjB11_s4_9 g11'
       have hF := Fine.own hF g11' hBm11 hid11
       refine ok_if (fun hc113 => ?_) (fun hc113 => ?_)
       ·have h := bif_t h hc113
        refine ok_lit (R := R34) (base := w.heap.size) (xs := ([(IntKind.i64.wrap (IntKind.i64.wrap (IntKind.i64.wrap (v4_0 - 2) - v7_0) - v9_0), IntKind.i64.wrap (IntKind.i64.wrap (v4_0 - 2) - v7_0))] : List (Int × Int))) #[Value.int IntKind.i64 (IntKind.i64.wrap (IntKind.i64.wrap (IntKind.i64.wrap (v4_0 - 2) - v7_0) - v9_0)), Value.int IntKind.i64 (IntKind.i64.wrap (IntKind.i64.wrap (v4_0 - 2) - v7_0))] E34 rfl (by decide) (by decide) ⟨_, _, rfl, rfl, by kernel_rfl⟩ rfl hF.size (fun Ax12 cx12 L12 w12 hO12 g12 hbl12 => ?_)
        try dsimp only
        have dj_o114_s4_8 : Dj Ax12 A4_8 := Dj.new hbl12 hO_s4_8.lt
        have dj_o114_s4_9 : Dj Ax12 A4_9 := Dj.new hbl12 hO_s4_9.lt
        have dj_o114_w111 : Dj Ax12 a0 := Dj.new hbl12 hWc11.lt1
        have hF := hF.trans g12
        have hO_s4_8 := hO_s4_8.later g12
        have hO_s4_9 := hO_s4_9.later g12
        have hWc11 := hWc11.later g12
        obtain ⟨hq115, h⟩ := bif_need h
        have hq115 := of_decide_eq_true hq115
        refine ok_app (R := R34) (base := w.heap.size) (xs := ([(IntKind.i64.wrap (IntKind.i64.wrap (IntKind.i64.wrap (v4_0 - 2) - v7_0) - v9_0), IntKind.i64.wrap (IntKind.i64.wrap (v4_0 - 2) - v7_0))] : List (Int × Int))) (ys := s4_9) rfl rfl E34 hO12 hO_s4_9.sl (by decide) hq115 hF.size (fun Ax13 cx13 L13 w13 hO13 g13 hid13 hbl13 => ?_)
        try dsimp only
        have dj_o116_s4_8 : Dj Ax13 A4_8 := Dj.grow dj_o114_s4_8 hbl13 hO_s4_8.lt
        have dj_o116_s4_9 : Dj Ax13 A4_9 := Dj.grow dj_o114_s4_9 hbl13 hO_s4_9.lt
        have dj_o116_w111 : Dj Ax13 a0 := Dj.grow dj_o114_w111 hbl13 hWc11.lt1
        have hO_s4_8 := hO_s4_8.other (Dj.symm dj_o114_s4_8) g13
        have hO_s4_9 := hO_s4_9.other (Dj.symm dj_o114_s4_9) g13
        have hWc11 := hWc11.other (Dj.symm dj_o114_w111) g13
        have hF := Fine.own hF g13 (fun b hb => Or.inr (Own.base hO12 hb)) hid13
        obtain rfl := Option.some.inj h
        have h := hl4 _ rfl
        exact ok_again (I := I4) m4 (Nat.lt_succ_self _) (fun L w' he => by rw [hI4]; exact ⟨_, _, _, _, _, _, _, _, A4_8, c4_8, s4_8, Ax13, cx13, (([(IntKind.i64.wrap (IntKind.i64.wrap (IntKind.i64.wrap (v4_0 - 2) - v7_0) - v9_0), IntKind.i64.wrap (IntKind.i64.wrap (v4_0 - 2) - v7_0))] : List (Int × Int)) ++ s4_9), qc11, rfl, h, hF.trans he.fine, hO_s4_8.later he.fine, hO13.later he.fine, hWc11.later he.fine, (hq11_0.trans (hq10_0.trans (hq9_0.trans (hq7_0.trans (hq5_0.trans hq4_a0_0))))), dj_o116_s4_8, dj_w77_s4_8, (Dj.symm dj_o116_w111)⟩)
       ·have h := bif_f h hc113
        obtain rfl := Option.some.inj h
        have h := hl4 _ rfl
        exact ok_again (I := I4) m4 (Nat.lt_succ_self _) (fun L w' he => by rw [hI4]; exact ⟨_, _, _, _, _, _, _, _, A4_8, c4_8, s4_8, A4_9, c4_9, s4_9, qc11, rfl, h, hF.trans he.fine, hO_s4_8.later he.fine, hO_s4_9.later he.fine, hWc11.later he.fine, (hq11_0.trans (hq10_0.trans (hq9_0.trans (hq7_0.trans (hq5_0.trans hq4_a0_0))))), dj_s4_9_s4_8, dj_w77_s4_8, dj_w77_s4_9⟩)
      ·have h := bif_f h hc108
       obtain ⟨r10, hr10, h⟩ := bse h
       obtain ⟨v10_0, qc10⟩ := r10
       try dsimp only at h
       have hBv10 : ∀ b, (r4_ok.S a0) b → ¬ _ ∧ b < _ := fun b hb => by exact ⟨(hWc9.lt b hb).2.1, hWc9.lt1 b hb⟩
       have hBm10 : ∀ b, (r4_ok.S a0) b → (r4_ack.S a0) b ∨ w.heap.size ≤ b := fun b hb => by exact hmc9 b hb
       have hjB10_s4_8 : ∀ b, blk (A4_8, 0, 0) b → ¬ (r4_ok.S a0) b := fun b h0 hb => by exact (Dj.symm dj_w77_s4_8) b h0 hb
       have hjB10_s4_9 : ∀ b, blk (A4_9, 0, 0) b → ¬ (r4_ok.S a0) b := fun b h0 hb => by exact (Dj.symm dj_w77_s4_9) b h0 hb
       refine ok_callo (r4_ok.S a0) rfl hBv10 (fun L10 w10 g10 lt10 => ?_)
       refine (r4_ok.c k _ qc9 _ _ (v10_0, qc10) hr10  w10 (hWc9.later g10).bare' (hSc9_0.later ((hF.trans g10).with hBm10))).mono ?_
       rintro e w10' ⟨rfl, hf10, hWc10, hq10_0⟩
       refine ⟨(v10_0, ()), rfl, hf10, fun g10' hid10 hv10 => ?_⟩
       try dsimp only
       have hSc10_0 : SlR R23.row (r4_ack.S a0) w A0_0 c0_0 qc10.1 := by rw [hq10_0]; exact hSc9_0
       have hmc10 := hmc9
       have hWc10 := hWc10.vis (fun b hb => hv10 b (Or.inl hb))
       have hO_s4_8 := OwnF.others hO_s4_8 hjB10_s4_8 g10'
       have hO_s4_9 := OwnF.others hO_s4_9 hjB10_s4_9 g10'
       have hF := Fine.own hF g10' hBm10 hid10
       refine ok_if (fun hc119 => ?_) (fun hc119 => ?_)
       ·have h := bif_t h hc119
        refine ok_lit (R := R34) (base := w.heap.size) (xs := ([(IntKind.i64.wrap (IntKind.i64.wrap (IntKind.i64.wrap (v4_0 - 2) - v7_0) - v9_0), IntKind.i64.wrap (IntKind.i64.wrap (v4_0 - 2) - v7_0))] : List (Int × Int))) #[Value.int IntKind.i64 (IntKind.i64.wrap (IntKind.i64.wrap (IntKind.i64.wrap (v4_0 - 2) - v7_0) - v9_0)), Value.int IntKind.i64 (IntKind.i64.wrap (IntKind.i64.wrap (v4_0 - 2) - v7_0))] E34 rfl (by decide) (by decide) ⟨_, _, rfl, rfl, by kernel_rfl⟩ rfl hF.size (fun Ax11 cx11 L11 w11 hO11 g11 hbl11 => ?_)
        try dsimp only
        have dj_o120_s4_8 : Dj Ax11 A4_8 := Dj.new hbl11 hO_s4_8.lt
        have dj_o120_s4_9 : Dj Ax11 A4_9 := Dj.new hbl11 hO_s4_9.lt
        have dj_o120_w117 : Dj Ax11 a0 := Dj.new hbl11 hWc10.lt1
        have hF := hF.trans g11
        have hO_s4_8 := hO_s4_8.later g11
        have hO_s4_9 := hO_s4_9.later g11
        have hWc10 := hWc10.later g11
        obtain ⟨hq121, h⟩ := bif_need h
        have hq121 := of_decide_eq_true hq121
        refine ok_app (R := R34) (base := w.heap.size) (xs := ([(IntKind.i64.wrap (IntKind.i64.wrap (IntKind.i64.wrap (v4_0 - 2) - v7_0) - v9_0), IntKind.i64.wrap (IntKind.i64.wrap (v4_0 - 2) - v7_0))] : List (Int × Int))) (ys := s4_9) rfl rfl E34 hO11 hO_s4_9.sl (by decide) hq121 hF.size (fun Ax12 cx12 L12 w12 hO12 g12 hid12 hbl12 => ?_)
        try dsimp only
        have dj_o122_s4_8 : Dj Ax12 A4_8 := Dj.grow dj_o120_s4_8 hbl12 hO_s4_8.lt
        have dj_o122_s4_9 : Dj Ax12 A4_9 := Dj.grow dj_o120_s4_9 hbl12 hO_s4_9.lt
        have dj_o122_w117 : Dj Ax12 a0 := Dj.grow dj_o120_w117 hbl12 hWc10.lt1
        have hO_s4_8 := hO_s4_8.other (Dj.symm dj_o120_s4_8) g12
        have hO_s4_9 := hO_s4_9.other (Dj.symm dj_o120_s4_9) g12
        have hWc10 := hWc10.other (Dj.symm dj_o120_w117) g12
        have hF := Fine.own hF g12 (fun b hb => Or.inr (Own.base hO11 hb)) hid12
        obtain rfl := Option.some.inj h
        have h := hl4 _ rfl
        exact ok_again (I := I4) m4 (Nat.lt_succ_self _) (fun L w' he => by rw [hI4]; exact ⟨_, _, _, _, _, _, _, _, A4_8, c4_8, s4_8, Ax12, cx12, (([(IntKind.i64.wrap (IntKind.i64.wrap (IntKind.i64.wrap (v4_0 - 2) - v7_0) - v9_0), IntKind.i64.wrap (IntKind.i64.wrap (v4_0 - 2) - v7_0))] : List (Int × Int)) ++ s4_9), qc10, rfl, h, hF.trans he.fine, hO_s4_8.later he.fine, hO12.later he.fine, hWc10.later he.fine, (hq10_0.trans (hq9_0.trans (hq7_0.trans (hq5_0.trans hq4_a0_0)))), dj_o122_s4_8, dj_w77_s4_8, (Dj.symm dj_o122_w117)⟩)
       ·have h := bif_f h hc119
        obtain rfl := Option.some.inj h
        have h := hl4 _ rfl
        exact ok_again (I := I4) m4 (Nat.lt_succ_self _) (fun L w' he => by rw [hI4]; exact ⟨_, _, _, _, _, _, _, _, A4_8, c4_8, s4_8, A4_9, c4_9, s4_9, qc10, rfl, h, hF.trans he.fine, hO_s4_8.later he.fine, hO_s4_9.later he.fine, hWc10.later he.fine, (hq10_0.trans (hq9_0.trans (hq7_0.trans (hq5_0.trans hq4_a0_0)))), dj_s4_9_s4_8, dj_w77_s4_8, dj_w77_s4_9⟩)
    ·have h := bif_f h hc83
     refine ok_need hA_a0 ?_
     refine ok_need hA_a0 ?_
     refine ok_ob 1 hWc5.sl (Fine.refl _ _) (fun cs hcs => ⟨qc5.2.1, by rw [hcs]; rfl, ?_⟩)
     try dsimp only
     obtain ⟨r7, hr7, h⟩ := bse h
     obtain ⟨v7_0, qc7⟩ := r7
     try dsimp only at h
     have hBv7 : ∀ b, (r4_number.S a0) b → ¬ _ ∧ b < _ := fun b hb => by exact ⟨(hWc5.lt b hb).2.1, hWc5.lt1 b hb⟩
     have hBm7 : ∀ b, (r4_number.S a0) b → (r4_ack.S a0) b ∨ w.heap.size ≤ b := fun b hb => by exact hmc5 b hb
     have hjB7_s4_8 : ∀ b, blk (A4_8, 0, 0) b → ¬ (r4_number.S a0) b := fun b h0 hb => by exact (Dj.symm dj_w77_s4_8) b h0 hb
     have hjB7_s4_9 : ∀ b, blk (A4_9, 0, 0) b → ¬ (r4_number.S a0) b := fun b h0 hb => by exact (Dj.symm dj_w77_s4_9) b h0 hb
     refine ok_callo (r4_number.S a0) rfl hBv7 (fun L7 w7 g7 lt7 => ?_)
     refine (r4_number.c k _ qc5 _ _ (v7_0, qc7) hr7  w7 (hWc5.later g7).bare' (hSc5_0.later ((hF.trans g7).with hBm7))).mono ?_
     rintro e w7' ⟨rfl, hf7, hWc7, hq7_0⟩
     refine ⟨(v7_0, ()), rfl, hf7, fun g7' hid7 hv7 => ?_⟩
     try dsimp only
     have hSc7_0 : SlR R23.row (r4_ack.S a0) w A0_0 c0_0 qc7.1 := by rw [hq7_0]; exact hSc5_0
     have hmc7 := hmc5
     have hWc7 := hWc7.vis (fun b hb => hv7 b (Or.inl hb))
     have hO_s4_8 := OwnF.others hO_s4_8 hjB7_s4_8 g7'
     have hO_s4_9 := OwnF.others hO_s4_9 hjB7_s4_9 g7'
     have hF := Fine.own hF g7' hBm7 hid7
     refine ok_if (fun hc125 => ?_) (fun hc125 => ?_)
     ·have h := bif_t h hc125
      obtain ⟨qc8, hr8, h⟩ := bse h
      have hBv8 : ∀ b, (r4_fails.S a0) b → ¬ _ ∧ b < _ := fun b hb => by exact ⟨(hWc7.lt b hb).2.1, hWc7.lt1 b hb⟩
      have hBm8 : ∀ b, (r4_fails.S a0) b → (r4_ack.S a0) b ∨ w.heap.size ≤ b := fun b hb => by exact hmc7 b hb
      have hjB8_s4_8 : ∀ b, blk (A4_8, 0, 0) b → ¬ (r4_fails.S a0) b := fun b h0 hb => by exact (Dj.symm dj_w77_s4_8) b h0 hb
      have hjB8_s4_9 : ∀ b, blk (A4_9, 0, 0) b → ¬ (r4_fails.S a0) b := fun b h0 hb => by exact (Dj.symm dj_w77_s4_9) b h0 hb
      refine ok_callo (r4_fails.S a0) rfl hBv8 (fun L8 w8 g8 lt8 => ?_)
      refine (r4_fails.c k _ qc7 _ _ 5 qc5.2.1 qc8 hr8  w8 (hWc7.later g8).bare' (hSc7_0.later ((hF.trans g8).with hBm8))).mono ?_
      rintro e w8' ⟨rfl, hf8, hWc8, hq8_0⟩
      refine ⟨(()), rfl, hf8, fun g8' hid8 hv8 => ?_⟩
      try dsimp only
      have hSc8_0 : SlR R23.row (r4_ack.S a0) w A0_0 c0_0 qc8.1 := by rw [hq8_0]; exact hSc7_0
      have hmc8 := hmc7
      have hWc8 := hWc8.vis (fun b hb => hv8 b (Or.inl hb))
      have hO_s4_8 := OwnF.others hO_s4_8 hjB8_s4_8 g8'
      have hO_s4_9 := OwnF.others hO_s4_9 hjB8_s4_9 g8'
      have hF := Fine.own hF g8' hBm8 hid8
      obtain ⟨r9, hr9, h⟩ := bse h
      obtain ⟨v9_0, qc9⟩ := r9
      try dsimp only at h
      have hBv9 : ∀ b, (r4_ok.S a0) b → ¬ _ ∧ b < _ := fun b hb => by exact ⟨(hWc8.lt b hb).2.1, hWc8.lt1 b hb⟩
      have hBm9 : ∀ b, (r4_ok.S a0) b → (r4_ack.S a0) b ∨ w.heap.size ≤ b := fun b hb => by exact hmc8 b hb
      have hjB9_s4_8 : ∀ b, blk (A4_8, 0, 0) b → ¬ (r4_ok.S a0) b := fun b h0 hb => by exact (Dj.symm dj_w77_s4_8) b h0 hb
      have hjB9_s4_9 : ∀ b, blk (A4_9, 0, 0) b → ¬ (r4_ok.S a0) b := fun b h0 hb => by exact (Dj.symm dj_w77_s4_9) b h0 hb
      refine ok_callo (r4_ok.S a0) rfl hBv9 (fun L9 w9 g9 lt9 => ?_)
      refine (r4_ok.c k _ qc8 _ _ (v9_0, qc9) hr9  w9 (hWc8.later g9).bare' (hSc8_0.later ((hF.trans g9).with hBm9))).mono ?_
      rintro e w9' ⟨rfl, hf9, hWc9, hq9_0⟩
      refine ⟨(v9_0, ()), rfl, hf9, fun g9' hid9 hv9 => ?_⟩
      try dsimp only
      have hSc9_0 : SlR R23.row (r4_ack.S a0) w A0_0 c0_0 qc9.1 := by rw [hq9_0]; exact hSc8_0
      have hmc9 := hmc8
      have hWc9 := hWc9.vis (fun b hb => hv9 b (Or.inl hb))
      have hO_s4_8 := OwnF.others hO_s4_8 hjB9_s4_8 g9'
      have hO_s4_9 := OwnF.others hO_s4_9 hjB9_s4_9 g9'
      have hF := Fine.own hF g9' hBm9 hid9
      refine ok_if (fun hc130 => ?_) (fun hc130 => ?_)
      ·have h := bif_t h hc130
       refine ok_lit (R := R34) (base := w.heap.size) (xs := ([(IntKind.i64.wrap (v4_0 - v7_0), v4_0)] : List (Int × Int))) #[Value.int IntKind.i64 (IntKind.i64.wrap (v4_0 - v7_0)), Value.int IntKind.i64 v4_0] E34 rfl (by decide) (by decide) ⟨_, _, rfl, rfl, by kernel_rfl⟩ rfl hF.size (fun Ax10 cx10 L10 w10 hO10 g10 hbl10 => ?_)
       try dsimp only
       have dj_o131_s4_8 : Dj Ax10 A4_8 := Dj.new hbl10 hO_s4_8.lt
       have dj_o131_s4_9 : Dj Ax10 A4_9 := Dj.new hbl10 hO_s4_9.lt
       have dj_o131_w128 : Dj Ax10 a0 := Dj.new hbl10 hWc9.lt1
       have hF := hF.trans g10
       have hO_s4_8 := hO_s4_8.later g10
       have hO_s4_9 := hO_s4_9.later g10
       have hWc9 := hWc9.later g10
       obtain ⟨hq132, h⟩ := bif_need h
       have hq132 := of_decide_eq_true hq132
       refine ok_app (R := R34) (base := w.heap.size) (xs := ([(IntKind.i64.wrap (v4_0 - v7_0), v4_0)] : List (Int × Int))) (ys := s4_9) rfl rfl E34 hO10 hO_s4_9.sl (by decide) hq132 hF.size (fun Ax11 cx11 L11 w11 hO11 g11 hid11 hbl11 => ?_)
       try dsimp only
       have dj_o133_s4_8 : Dj Ax11 A4_8 := Dj.grow dj_o131_s4_8 hbl11 hO_s4_8.lt
       have dj_o133_s4_9 : Dj Ax11 A4_9 := Dj.grow dj_o131_s4_9 hbl11 hO_s4_9.lt
       have dj_o133_w128 : Dj Ax11 a0 := Dj.grow dj_o131_w128 hbl11 hWc9.lt1
       have hO_s4_8 := hO_s4_8.other (Dj.symm dj_o131_s4_8) g11
       have hO_s4_9 := hO_s4_9.other (Dj.symm dj_o131_s4_9) g11
       have hWc9 := hWc9.other (Dj.symm dj_o131_w128) g11
       have hF := Fine.own hF g11 (fun b hb => Or.inr (Own.base hO10 hb)) hid11
       obtain rfl := Option.some.inj h
       have h := hl4 _ rfl
       exact ok_again (I := I4) m4 (Nat.lt_succ_self _) (fun L w' he => by rw [hI4]; exact ⟨_, _, _, _, _, _, _, _, A4_8, c4_8, s4_8, Ax11, cx11, (([(IntKind.i64.wrap (v4_0 - v7_0), v4_0)] : List (Int × Int)) ++ s4_9), qc9, rfl, h, hF.trans he.fine, hO_s4_8.later he.fine, hO11.later he.fine, hWc9.later he.fine, (hq9_0.trans (hq8_0.trans (hq7_0.trans (hq5_0.trans hq4_a0_0)))), dj_o133_s4_8, dj_w77_s4_8, (Dj.symm dj_o133_w128)⟩)
      ·have h := bif_f h hc130
       obtain rfl := Option.some.inj h
       have h := hl4 _ rfl
       exact ok_again (I := I4) m4 (Nat.lt_succ_self _) (fun L w' he => by rw [hI4]; exact ⟨_, _, _, _, _, _, _, _, A4_8, c4_8, s4_8, A4_9, c4_9, s4_9, qc9, rfl, h, hF.trans he.fine, hO_s4_8.later he.fine, hO_s4_9.later he.fine, hWc9.later he.fine, (hq9_0.trans (hq8_0.trans (hq7_0.trans (hq5_0.trans hq4_a0_0)))), dj_s4_9_s4_8, dj_w77_s4_8, dj_w77_s4_9⟩)
     ·have h := bif_f h hc125
      obtain ⟨r8, hr8, h⟩ := bse h
      obtain ⟨v8_0, qc8⟩ := r8
      try dsimp only at h
      have hBv8 : ∀ b, (r4_ok.S a0) b → ¬ _ ∧ b < _ := fun b hb => by exact ⟨(hWc7.lt b hb).2.1, hWc7.lt1 b hb⟩
      have hBm8 : ∀ b, (r4_ok.S a0) b → (r4_ack.S a0) b ∨ w.heap.size ≤ b := fun b hb => by exact hmc7 b hb
      have hjB8_s4_8 : ∀ b, blk (A4_8, 0, 0) b → ¬ (r4_ok.S a0) b := fun b h0 hb => by exact (Dj.symm dj_w77_s4_8) b h0 hb
      have hjB8_s4_9 : ∀ b, blk (A4_9, 0, 0) b → ¬ (r4_ok.S a0) b := fun b h0 hb => by exact (Dj.symm dj_w77_s4_9) b h0 hb
      refine ok_callo (r4_ok.S a0) rfl hBv8 (fun L8 w8 g8 lt8 => ?_)
      refine (r4_ok.c k _ qc7 _ _ (v8_0, qc8) hr8  w8 (hWc7.later g8).bare' (hSc7_0.later ((hF.trans g8).with hBm8))).mono ?_
      rintro e w8' ⟨rfl, hf8, hWc8, hq8_0⟩
      refine ⟨(v8_0, ()), rfl, hf8, fun g8' hid8 hv8 => ?_⟩
      try dsimp only
      have hSc8_0 : SlR R23.row (r4_ack.S a0) w A0_0 c0_0 qc8.1 := by rw [hq8_0]; exact hSc7_0
      have hmc8 := hmc7
      have hWc8 := hWc8.vis (fun b hb => hv8 b (Or.inl hb))
      have hO_s4_8 := OwnF.others hO_s4_8 hjB8_s4_8 g8'
      have hO_s4_9 := OwnF.others hO_s4_9 hjB8_s4_9 g8'
      have hF := Fine.own hF g8' hBm8 hid8
      refine ok_if (fun hc136 => ?_) (fun hc136 => ?_)
      ·have h := bif_t h hc136
       refine ok_lit (R := R34) (base := w.heap.size) (xs := ([(IntKind.i64.wrap (v4_0 - v7_0), v4_0)] : List (Int × Int))) #[Value.int IntKind.i64 (IntKind.i64.wrap (v4_0 - v7_0)), Value.int IntKind.i64 v4_0] E34 rfl (by decide) (by decide) ⟨_, _, rfl, rfl, by kernel_rfl⟩ rfl hF.size (fun Ax9 cx9 L9 w9 hO9 g9 hbl9 => ?_)
       try dsimp only
       have dj_o137_s4_8 : Dj Ax9 A4_8 := Dj.new hbl9 hO_s4_8.lt
       have dj_o137_s4_9 : Dj Ax9 A4_9 := Dj.new hbl9 hO_s4_9.lt
       have dj_o137_w134 : Dj Ax9 a0 := Dj.new hbl9 hWc8.lt1
       have hF := hF.trans g9
       have hO_s4_8 := hO_s4_8.later g9
       have hO_s4_9 := hO_s4_9.later g9
       have hWc8 := hWc8.later g9
       obtain ⟨hq138, h⟩ := bif_need h
       have hq138 := of_decide_eq_true hq138
       refine ok_app (R := R34) (base := w.heap.size) (xs := ([(IntKind.i64.wrap (v4_0 - v7_0), v4_0)] : List (Int × Int))) (ys := s4_9) rfl rfl E34 hO9 hO_s4_9.sl (by decide) hq138 hF.size (fun Ax10 cx10 L10 w10 hO10 g10 hid10 hbl10 => ?_)
       try dsimp only
       have dj_o139_s4_8 : Dj Ax10 A4_8 := Dj.grow dj_o137_s4_8 hbl10 hO_s4_8.lt
       have dj_o139_s4_9 : Dj Ax10 A4_9 := Dj.grow dj_o137_s4_9 hbl10 hO_s4_9.lt
       have dj_o139_w134 : Dj Ax10 a0 := Dj.grow dj_o137_w134 hbl10 hWc8.lt1
       have hO_s4_8 := hO_s4_8.other (Dj.symm dj_o137_s4_8) g10
       have hO_s4_9 := hO_s4_9.other (Dj.symm dj_o137_s4_9) g10
       have hWc8 := hWc8.other (Dj.symm dj_o137_w134) g10
       have hF := Fine.own hF g10 (fun b hb => Or.inr (Own.base hO9 hb)) hid10
       obtain rfl := Option.some.inj h
       have h := hl4 _ rfl
       exact ok_again (I := I4) m4 (Nat.lt_succ_self _) (fun L w' he => by rw [hI4]; exact ⟨_, _, _, _, _, _, _, _, A4_8, c4_8, s4_8, Ax10, cx10, (([(IntKind.i64.wrap (v4_0 - v7_0), v4_0)] : List (Int × Int)) ++ s4_9), qc8, rfl, h, hF.trans he.fine, hO_s4_8.later he.fine, hO10.later he.fine, hWc8.later he.fine, (hq8_0.trans (hq7_0.trans (hq5_0.trans hq4_a0_0))), dj_o139_s4_8, dj_w77_s4_8, (Dj.symm dj_o139_w134)⟩)
      ·have h := bif_f h hc136
       obtain rfl := Option.some.inj h
       have h := hl4 _ rfl
       exact ok_again (I := I4) m4 (Nat.lt_succ_self _) (fun L w' he => by rw [hI4]; exact ⟨_, _, _, _, _, _, _, _, A4_8, c4_8, s4_8, A4_9, c4_9, s4_9, qc8, rfl, h, hF.trans he.fine, hO_s4_8.later he.fine, hO_s4_9.later he.fine, hWc8.later he.fine, (hq8_0.trans (hq7_0.trans (hq5_0.trans hq4_a0_0))), dj_s4_9_s4_8, dj_w77_s4_8, dj_w77_s4_9⟩)
   ·have h := bif_f h hc82
    obtain rfl := Option.some.inj h
    obtain rfl := hr_4 _ rfl
    have homes := fun (b : Nat) (h : b < w.heap.size) => h
    intro ρ L w' _ he _ _
    exact ⟨A4_8, c4_8, A4_9, c4_9, rfl, (hF.ext he).with (fun b h => Or.inl h), (hWc5.later he.fine).bare', (hO_s4_8.later he.fine).ret, (hO_s4_9.later he.fine).ret, dj_s4_9_s4_8, (hq5_0.trans hq4_a0_0)⟩
  ·have h := bif_f h hc79
   obtain rfl := Option.some.inj h
   obtain rfl := hr_4 _ rfl
   have homes := fun (b : Nat) (h : b < w.heap.size) => h
   intro ρ L w' _ he _ _
   exact ⟨A4_8, c4_8, A4_9, c4_9, rfl, (hF.ext he).with (fun b h => Or.inl h), (hW4_a0.later he.fine).bare', (hO_s4_8.later he.fine).ret, (hO_s4_9.later he.fine).ret, dj_s4_9_s4_8, hq4_a0_0⟩
end Go.Proofs.Ytpdchohbmmfemaa.X
