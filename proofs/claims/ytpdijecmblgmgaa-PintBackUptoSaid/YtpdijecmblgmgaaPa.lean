/- Functions: their trees, functions over lists that answer as they do, and that they do. -/
import Derived.Test.YtpdijecmblgmgaaRxU
import Derived.Test.YtpdijecmblgmgaaRxSeat
import Derived.Test.YtpdijecmblgmgaaProg
namespace Go.Proofs.Ytpdijecmblgmgaa.X
open Go Go.RowKit Go.Proofs.YtpdijecmblgmgaaW.Rx
set_option linter.unusedVariables false
set_option linter.unusedSimpArgs false
set_option maxRecDepth 10000
@[reducible] def R22 : FRow Int := ⟨1, by decide, fun x => [Value.int IntKind.u8 x], fun _ => rfl, fun x u h => by
  simp only [List.mem_cons, List.not_mem_nil, or_false] at h
  rcases h with rfl <;> rfl⟩
theorem E22 : Elem Try.prog 22 5 1 1 := ⟨rfl, _, _, rfl, rfl, rfl, rfl, rfl⟩
@[reducible] def R45 : Row ((List Int)) := ⟨1, by decide, fun L w x cs => ∃ (A0 : Option Addr) (n0 c0 : Nat), cs = [Lf.V .sl (A0, n0, c0)] ∧ n0 = (x).length ∧ SlR R22.row L w A0 c0 x,
  fun ⟨A0, n0, c0, e, m0, h0⟩ => by rw [e]; rfl, fun ⟨A0, n0, c0, e, m0, h0⟩ g => ⟨A0, n0, c0, e, m0, h0.later g⟩, fun ⟨A0, n0, c0, e, m0, h0⟩ g => ⟨A0, n0, c0, e, m0, h0.mono g⟩, fun ⟨A0, n0, c0, e, m0, h0⟩ u hu => by
    rw [e] at hu
    simp only [List.mem_cons, List.not_mem_nil, or_false] at hu
    rcases hu with rfl <;> rfl⟩
theorem E45 : Elem Try.prog 45 22 1 24 := ⟨rfl, _, _, rfl, rfl, rfl, rfl, rfl⟩
/-! ### turnbuckle/pint.full: function 15 -/
def pint_full.F (k : Nat) (a0 : Int) : Option Int := bif decide (a0 < 1) then (some 0) else (bif decide (8 < a0) then (some 0) else (bif decide (0 ≤ a0) then (some ((IntKind.wrap IntKind.i64 (IntKind.wrap IntKind.i64 (1 * 2 ^ min (Int.toNat a0) 64) - 1)))) else none))
abbrev pint_full.A : Nat → LA := noA
set_option maxHeartbeats 4000000 in
theorem pint_full.t (a0 : Int) : tree Try.prog pint_full.A noC Try.f15 [AV.v (Value.int IntKind.i64 a0)] [] =
  bif decide (a0 < 1) then (
   .done (AV.v (Value.int IntKind.i64 0)) ([]))
  else (
   bif decide (8 < a0) then (
    .done (AV.v (Value.int IntKind.i64 0)) ([]))
   else (
    .need (decide (0 ≤ a0)) (
    .done (AV.v (Value.int IntKind.i64 (IntKind.wrap IntKind.i64 (IntKind.wrap IntKind.i64 (1 * 2 ^ min (Int.toNat a0) 64) - 1)))) ([])))) := by kernel_rfl
set_option maxHeartbeats 4000000 in
theorem pint_full.c (k : Nat) (a0 : Int) (r : Int) (h : pint_full.F k a0 = some r)  (w : World)  : Calls Try.prog 15 (AV.gs id [AV.v (Value.int IntKind.i64 a0)]).toArray w fun e w' => e = .returned (((Sh.one : Sh).av (vs [Lf.i IntKind.i64] (r, ()))).g id) ∧ Below w.heap.size w w' := by
  refine enter0 mixed pint_full.A noC [AV.v (Value.int IntKind.i64 a0)] Try.func15 rfl rfl rfl (fun hF => ?_)
  rw [pint_full.t]
  unfold pint_full.F at h
  try dsimp only at h
  refine ok_if (fun hc1 => ?_) (fun hc1 => ?_)
  · have h := bif_t h hc1
    obtain rfl := Option.some.inj h
    intro ρ L w' _ he _ _
    exact ⟨rfl, (hF.ext he).below⟩
  · have h := bif_f h hc1
    refine ok_if (fun hc2 => ?_) (fun hc2 => ?_)
    · have h := bif_t h hc2
      obtain rfl := Option.some.inj h
      intro ρ L w' _ he _ _
      exact ⟨rfl, (hF.ext he).below⟩
    · have h := bif_f h hc2
      obtain ⟨hn3, h⟩ := bif_need h
      refine ok_need hn3 ?_
      obtain rfl := Option.some.inj h
      intro ρ L w' _ he _ _
      exact ⟨rfl, (hF.ext he).below⟩
/-! ### slices.Grow of nothing: function 18 -/
def slices_Grow_byte_byte.F (k : Nat) (a1 : Int) : Option (List Int) := bif decide (0 ≤ a1 ∧ a1 * 1 ≤ 140737488355328) then some [] else none
theorem slices_Grow_byte_byte.c (k : Nat) (a1 : Int) (r : List Int) (h : slices_Grow_byte_byte.F k a1 = some r) (w : World) : Calls Try.prog 18 (AV.gs id [AV.v (Value.slice none 0 0), AV.v (Value.int IntKind.i64 a1)]).toArray w fun e w' => ∃ (B0 : Option Addr) (d0 : Nat), e = .returned (((Sh.one : Sh).av (vs [Lf.sl] ((B0, r.length, d0), ()))).g id) ∧ Below w.heap.size w w' ∧ OwnF w.heap.size (fun b => b < w.heap.size) w' 5 R22 B0 d0 r := by
  unfold slices_Grow_byte_byte.F at h
  obtain ⟨hq, h⟩ := bif_need h
  have hq := of_decide_eq_true hq
  obtain rfl := Option.some.inj h
  refine enter0 mixed noA noC [AV.v (Value.slice none 0 0), AV.v (Value.int IntKind.i64 a1)] Try.func18 rfl rfl rfl (fun hF => ?_)
  rw [show tree Try.prog noA noC Try.f18 [AV.v (Value.slice none 0 0), AV.v (Value.int IntKind.i64 a1)] [] = bif decide (a1 < 0) then .bad "operation" else bif decide (0 < IntKind.wrap IntKind.i64 (a1 - IntKind.wrap IntKind.i64 (((0 : Nat) : Int) - ((0 : Nat) : Int)))) then .need true (.sem (Builtin.append_ #[22, 3] 22 #[Value.slice none 0 0, Value.int IntKind.i64 (IntKind.wrap IntKind.i64 (a1 - IntKind.wrap IntKind.i64 (((0 : Nat) : Int) - ((0 : Nat) : Int))))]) [Lf.sl] Sh.one (fun x0 => .need true (.done (AV.v (Value.slice (if ((x0.1.2.2 : Nat) : Int) = 0 then x0.1.1 else Option.map (fun x => Addr.add x 0) x0.1.1) 0 (x0.1.2.2 - 0))) []))) else .done (AV.v (Value.slice none 0 0)) [] by kernel_rfl]
  have e0 : IntKind.wrap IntKind.i64 (a1 - IntKind.wrap IntKind.i64 (((0 : Nat) : Int) - ((0 : Nat) : Int))) = a1 := by
    rw [wrap_small (((0 : Nat) : Int) - ((0 : Nat) : Int)) (by omega) (by omega), wrap_small _ (by omega) (by omega)]; omega
  rw [e0]
  refine ok_if (fun hc => ?_) (fun hc => ?_)
  · have := of_decide_eq_true hc; omega
  refine ok_if (fun hc => ?_) (fun hc => ?_)
  · refine ok_need rfl ?_
    refine ok_zeros (R := R22) (base := w.heap.size) E22 (kn := .i64) rfl hF.size (of_decide_eq_true hc) (by decide) (by omega) (fun A c L1 w1 hc1 hc0 hO1 g1 hbl1 => ?_)
    have hF1 := hF.trans g1
    refine ok_need rfl ?_
    dsimp only
    rw [if_neg (by omega)]
    intro ρ L w' _ he _ _
    refine ⟨A, c, ?_, (hF1.ext he).below, (hO1.later he.fine).ret⟩
    cases A with
    | none => rfl
    | some ad => rfl
  · intro ρ L w' _ he _ _
    exact ⟨none, 0, rfl, (hF.ext he).below, OwnF.ret (OwnF.nil _ (fun _ => False) _ _ _)⟩
/-! ### slices.Concat[[]byte,byte]: function 16 -/
def slices_Concat_byte_byte.s2 (k : Nat) (l0 : List ((List Int))) : ((List Int) × Int) → Option (Sum ((List Int) × Int) (Sum (Int × Int) ((List Int)))) := fun (s2_0, v2_1) => bif decide (v2_1 < ((l0.length : Nat) : Int)) then ((getI l0 v2_1).bind fun r10 => bif decide ((s2_0.length + r10.length) * 1 ≤ 140737488355328) then (some (.inl (((s2_0 ++ r10), IntKind.wrap IntKind.i64 (v2_1 + 1))))) else none) else (some (.inr (.inr s2_0)))
def slices_Concat_byte_byte.s0 (k : Nat) (l0 : List ((List Int))) : (Int × Int) → Option (Sum (Int × Int) ((List Int))) := fun (v0_0, v0_1) => bif decide (v0_1 < ((l0.length : Nat) : Int)) then ((getI l0 v0_1).bind fun r3 => bif decide (IntKind.wrap IntKind.i64 (v0_0 + ((r3.length : Nat) : Int)) < 0) then (none) else (some (.inl ((IntKind.wrap IntKind.i64 (v0_0 + ((r3.length : Nat) : Int)), IntKind.wrap IntKind.i64 (v0_1 + 1)))))) else ((slices_Grow_byte_byte.F k v0_0).bind fun s1_0 => iter (slices_Concat_byte_byte.s2 k l0) k (s1_0, 0))
def slices_Concat_byte_byte.F (k : Nat) (l0 : List ((List Int))) : Option ((List Int)) := iter (slices_Concat_byte_byte.s0 k l0) k (0, 0)
abbrev slices_Concat_byte_byte.A : Nat → LA := fun r => if r = 3 then ⟨[(3, false, [Lf.i IntKind.i64]), (11, false, [Lf.i IntKind.i64])], []⟩ else if r = 11 then ⟨[(6, false, [Lf.sl]), (27, false, [Lf.i IntKind.i64])], []⟩ else ⟨[], []⟩
set_option maxHeartbeats 4000000 in
theorem slices_Concat_byte_byte.t (A0 : Option Addr) (n0 c0 : Nat) : tree Try.prog slices_Concat_byte_byte.A noC Try.f16 [AV.v (Value.slice A0 n0 c0)] [] =
  .loop ([Lf.i IntKind.i64, Lf.i IntKind.i64]) ((0, 0, PUnit.unit)) 0 (fun x0 =>
   bif decide (x0.2.1 < ((n0 : Nat) : Int)) then (
    .need (decide (0 ≤ x0.2.1) && decide (x0.2.1 < ((n0 : Nat) : Int)) && Option.isSome A0) (
    .ld (Option.map (fun x => Addr.add x (Int.toNat x0.2.1 * 1)) A0) ([Lf.sl]) (fun x1 =>
     bif decide (IntKind.wrap IntKind.i64 (x0.1 + ((x1.1.2.1 : Nat) : Int)) < 0) then (
      .bad "operation")
     else (
      .again 0 ([Lf.i IntKind.i64, Lf.i IntKind.i64]) ((IntKind.wrap IntKind.i64 (x0.1 + ((x1.1.2.1 : Nat) : Int)), IntKind.wrap IntKind.i64 (x0.2.1 + 1), PUnit.unit))))))
   else (
    .call 18 ([AV.v (Value.slice none 0 0), AV.v (Value.int IntKind.i64 x0.1)]) ([]) (Sh.one) ([Lf.sl]) ([]) (fun x1 =>
     .loop ([Lf.sl, Lf.i IntKind.i64]) (((x1.1.1, x1.1.2.1, x1.1.2.2), 0, PUnit.unit)) 0 (fun x2 =>
      bif decide (x2.2.1 < ((n0 : Nat) : Int)) then (
       .need (decide (0 ≤ x2.2.1) && decide (x2.2.1 < ((n0 : Nat) : Int)) && Option.isSome A0) (
       .ld (Option.map (fun x => Addr.add x (Int.toNat x2.2.1 * 1)) A0) ([Lf.sl]) (fun x3 =>
        .sem (Builtin.append_ { toList := [22, 22] } 22 { toList := [Value.slice x2.1.1 x2.1.2.1 x2.1.2.2, Value.slice x3.1.1 x3.1.2.1 x3.1.2.2] }) ([Lf.sl]) (Sh.one) (fun x4 =>
         .again 0 ([Lf.sl, Lf.i IntKind.i64]) (((x4.1.1, x4.1.2.1, x4.1.2.2), IntKind.wrap IntKind.i64 (x2.2.1 + 1), PUnit.unit))))))
      else (
       .done (AV.v (Value.slice x2.1.1 x2.1.2.1 x2.1.2.2)) ([])))))) := by kernel_rfl
set_option maxHeartbeats 4000000 in
theorem slices_Concat_byte_byte.c (k : Nat) (A0 : Option Addr) (n0 c0 : Nat) (l0 : List ((List Int))) (r : (List Int)) (h : slices_Concat_byte_byte.F k l0 = some r) (hn0 : n0 = l0.length) (w : World) (hS0 : SlR R45 (fun _ => False) w A0 c0 l0) : Calls Try.prog 16 (AV.gs id [AV.v (Value.slice A0 n0 c0)]).toArray w fun e w' => ∃ (B0 : Option Addr) (d0 : Nat), e = .returned (((Sh.one : Sh).av (vs [Lf.sl] ((B0, (r).length, d0), ()))).g id) ∧ Below w.heap.size w w' ∧ OwnF w.heap.size (fun b => b < w.heap.size) w' 5 R22 B0 d0 r := by
  subst hn0
  refine enter0 mixed slices_Concat_byte_byte.A noC [AV.v (Value.slice A0 l0.length c0)] Try.func16 rfl rfl rfl (fun hF => ?_)
  rw [slices_Concat_byte_byte.t]
  unfold slices_Concat_byte_byte.F at h
  try dsimp only at h
  obtain ⟨I0, hI0⟩ : ∃ I : Nat → Tup [Lf.i IntKind.i64, Lf.i IntKind.i64] → (Nat → Prop) → World → Prop, I = (fun m_ y L w' => ∃ (v0_0 : Int) (v0_1 : Int), y = (v0_0, v0_1, ()) ∧ iter (slices_Concat_byte_byte.s0 k l0) m_ (v0_0, v0_1) = some r ∧ Fine (fun _ => False) w L w') := ⟨_, rfl⟩
  refine ok_loop I0 k (by rw [hI0]; exact ⟨_, _, rfl, h, hF⟩) ?_
  clear h
  intro m_ y L0 w0 hy
  rw [hI0] at hy
  obtain ⟨v0_0, v0_1, rfl, h, hF⟩ := hy
  obtain ⟨m0, o0, rfl, h, hl0, hr_0⟩ := iter_some h
  unfold slices_Concat_byte_byte.s0 at h
  try dsimp only at h
  try dsimp only
  refine ok_if (fun hc2 => ?_) (fun hc2 => ?_)
  · have h := bif_t h hc2
    obtain ⟨r3, hr4, h⟩ := Option.bind_eq_some_iff.1 h
    refine ok_need (getI_need (hS0.later hF) hr4) ?_
    refine ok_get hS0 hF hr4 (by simp) (fun cs hcs => ?_)
    obtain ⟨A1_0, q1_0, c1_0, rfl, hm1_0, hE1_0⟩ := hcs
    subst hm1_0
    refine ⟨((A1_0, (r3).length, c1_0), ()), rfl, ?_⟩
    try dsimp only
    refine ok_if (fun hc6 => ?_) (fun hc6 => ?_)
    · have h := bif_t h hc6
      cases h
    · have h := bif_f h hc6
      obtain rfl := Option.some.inj h
      have h := hl0 _ rfl
      exact ok_again (I := I0) m0 (Nat.lt_succ_self _) (fun L w' he => by rw [hI0]; exact ⟨_, _, rfl, h, hF.trans he.fine⟩)
  · have h := bif_f h hc2
    obtain ⟨s1_0, hr1, h⟩ := Option.bind_eq_some_iff.1 h
    refine ok_callm rfl (fun L1 w1 g1 lt1 => ?_)
    refine (slices_Grow_byte_byte.c k v0_0 s1_0 hr1  w1 ).mono ?_
    rintro e w1' ⟨A1_0, c1_0, rfl, hb1, hO1_0⟩
    refine ⟨((A1_0, s1_0.length, c1_0), ()), rfl, hb1, fun g1' => ?_⟩
    try dsimp only
    have hO1_0 := hO1_0.call (hF.trans g1).size lt1
    have hF := hF.trans g1'
    obtain ⟨I2, hI2⟩ : ∃ I : Nat → Tup [Lf.sl, Lf.i IntKind.i64] → (Nat → Prop) → World → Prop, I = (fun m_ y L w' => ∃ (A2_0 : Option Addr) (c2_0 : Nat) (s2_0 : List Int) (v2_1 : Int), y = ((A2_0, s2_0.length, c2_0), v2_1, ()) ∧ iter (slices_Concat_byte_byte.s2 k l0) m_ (s2_0, v2_1) = some o0 ∧ Fine (fun _ => False) w L w' ∧ OwnF w.heap.size L w' 5 R22 A2_0 c2_0 s2_0) := ⟨_, rfl⟩
    refine ok_loop I2 k (by rw [hI2]; exact ⟨A1_0, c1_0, s1_0, _, rfl, h, hF, hO1_0⟩) ?_
    clear h
    intro m_ y L2 w2 hy
    rw [hI2] at hy
    obtain ⟨A2_0, c2_0, s2_0, v2_1, rfl, h, hF, hO_s2_0⟩ := hy
    obtain ⟨m2, o2, rfl, h, hl2, hr_2⟩ := iter_some h
    unfold slices_Concat_byte_byte.s2 at h
    try dsimp only at h
    try dsimp only
    refine ok_if (fun hc9 => ?_) (fun hc9 => ?_)
    · have h := bif_t h hc9
      obtain ⟨r10, hr11, h⟩ := Option.bind_eq_some_iff.1 h
      refine ok_need (getI_need (hS0.later hF) hr11) ?_
      refine ok_get hS0 hF hr11 (by simp) (fun cs hcs => ?_)
      obtain ⟨A3_0, q3_0, c3_0, rfl, hm3_0, hE3_0⟩ := hcs
      subst hm3_0
      refine ⟨((A3_0, (r10).length, c3_0), ()), rfl, ?_⟩
      try dsimp only
      obtain ⟨hq13, h⟩ := bif_need h
      have hq13 := of_decide_eq_true hq13
      refine ok_app (R := R22) (base := w.heap.size) (xs := s2_0) (ys := r10) rfl rfl E22 hO_s2_0 (hE3_0.later hF) (by decide) hq13 hF.size (fun A4 c4 L4 w4 hO4 g4 hid4 hbl4 => ?_)
      try dsimp only
      have hF := Fine.own hF g4 (fun b hb => Or.inr (Own.base hO_s2_0 hb)) hid4
      obtain rfl := Option.some.inj h
      have h := hl2 _ rfl
      exact ok_again (I := I2) m2 (Nat.lt_succ_self _) (fun L w' he => by rw [hI2]; exact ⟨A4, c4, (s2_0 ++ r10), _, rfl, h, hF.trans he.fine, hO4.later he.fine⟩)
    · have h := bif_f h hc9
      obtain rfl := Option.some.inj h
      obtain rfl := hr_2 _ rfl
      obtain rfl := hr_0 _ rfl
      intro ρ L w' _ he _ _
      exact ⟨A2_0, c2_0, rfl, (hF.ext he).below, (hO_s2_0.later he.fine).ret⟩
/-! ### turnbuckle/pint.Put: function 8 -/
def pint_Put.s2 (k : Nat) (l0 : List Int) : ((List Int) × Int) → Option (Sum ((List Int) × Int) ((List Int) × Int)) := fun (s2_0, v2_1) => bif decide (127 < v2_1) then (bif decide ((s2_0.length + (([(IntKind.wrap IntKind.u8 (((BitVec.toNat (BitVec.ofInt 8 (IntKind.wrap IntKind.u8 v2_1) ||| BitVec.ofInt 8 128)) : Nat) : Int))] : List Int)).length) * 1 ≤ 140737488355328) then (some (.inl (((s2_0 ++ ([(IntKind.wrap IntKind.u8 (((BitVec.toNat (BitVec.ofInt 8 (IntKind.wrap IntKind.u8 v2_1) ||| BitVec.ofInt 8 128)) : Nat) : Int))] : List Int)), Int.fdiv v2_1 (2 ^ 7))))) else none) else (bif decide ((s2_0.length + (([(IntKind.wrap IntKind.u8 v2_1)] : List Int)).length) * 1 ≤ 140737488355328) then ((slices_Concat_byte_byte.F k (([(l0), ((s2_0 ++ ([(IntKind.wrap IntKind.u8 v2_1)] : List Int)))] : List ((List Int))))).bind fun s6_0 => some (.inr ((s6_0, 0)))) else none)
def pint_Put.F (k : Nat) (l0 : List Int) (a1 : Int) (a2 : Int) (a3 : Int) : Option ((List Int) × Int) := (pint_full.F k a2).bind fun v0_0 => bif v0_0 == 0 then (some (([], 1))) else (bif decide (a1 < 0) then (some (([], 1))) else (bif decide (255 < a1) then (some (([], 1))) else (bif IntKind.wrap IntKind.i64 (((BitVec.toNat (BitVec.ofInt 64 a1 &&& BitVec.ofInt 64 v0_0)) : Nat) : Int) != 0 then (some (([], 1))) else (bif decide (a3 < 0) then (some (([], 1))) else (bif decide (4611686018427387903 < a3) then (some (([], 1))) else (bif decide (v0_0 ≤ a3) then (iter (pint_Put.s2 k l0) k (([(IntKind.wrap IntKind.u8 (IntKind.wrap IntKind.i64 (((BitVec.toNat (BitVec.ofInt 64 a1 ||| BitVec.ofInt 64 (if v0_0 < a3 then v0_0 else a3))) : Nat) : Int)))] : List Int), IntKind.wrap IntKind.i64 (a3 - v0_0))) else ((slices_Concat_byte_byte.F k (([(l0), (([(IntKind.wrap IntKind.u8 (IntKind.wrap IntKind.i64 (((BitVec.toNat (BitVec.ofInt 64 a1 ||| BitVec.ofInt 64 (if v0_0 < a3 then v0_0 else a3))) : Nat) : Int)))] : List Int))] : List ((List Int))))).bind fun s3_0 => some ((s3_0, 0)))))))))
abbrev pint_Put.A : Nat → LA := fun r => if r = 7 then ⟨[(11, false, [Lf.sl]), (12, false, [Lf.i IntKind.i64])], []⟩ else ⟨[], []⟩
set_option maxHeartbeats 4000000 in
theorem pint_Put.t (A0 : Option Addr) (n0 c0 : Nat) (a1 : Int) (a2 : Int) (a3 : Int) : tree Try.prog pint_Put.A noC Try.f8 [AV.v (Value.slice A0 n0 c0), AV.v (Value.int IntKind.i64 a1), AV.v (Value.int IntKind.i64 a2), AV.v (Value.int IntKind.i64 a3)] [] =
  .call 15 ([AV.v (Value.int IntKind.i64 a2)]) ([]) (Sh.one) ([Lf.i IntKind.i64]) ([]) (fun x0 =>
   bif x0.1 == 0 then (
    .done (AV.tup [AV.v (Value.slice none 0 0), AV.v (Value.int IntKind.i64 1)]) ([]))
   else (
    bif decide (a1 < 0) then (
     .done (AV.tup [AV.v (Value.slice none 0 0), AV.v (Value.int IntKind.i64 1)]) ([]))
    else (
     bif decide (255 < a1) then (
      .done (AV.tup [AV.v (Value.slice none 0 0), AV.v (Value.int IntKind.i64 1)]) ([]))
     else (
      bif IntKind.wrap IntKind.i64 (((BitVec.toNat (BitVec.ofInt 64 a1 &&& BitVec.ofInt 64 x0.1)) : Nat) : Int) != 0 then (
       .done (AV.tup [AV.v (Value.slice none 0 0), AV.v (Value.int IntKind.i64 1)]) ([]))
      else (
       bif decide (a3 < 0) then (
        .done (AV.tup [AV.v (Value.slice none 0 0), AV.v (Value.int IntKind.i64 1)]) ([]))
       else (
        bif decide (4611686018427387903 < a3) then (
         .done (AV.tup [AV.v (Value.slice none 0 0), AV.v (Value.int IntKind.i64 1)]) ([]))
        else (
         .sem (Instr.buildSlice 22 1 { toList := [(0, Value.int IntKind.u8 (IntKind.wrap IntKind.u8 (IntKind.wrap IntKind.i64 (((BitVec.toNat (BitVec.ofInt 64 a1 ||| BitVec.ofInt 64 (if x0.1 < a3 then x0.1 else a3))) : Nat) : Int))))] }) ([Lf.sl]) (Sh.one) (fun x1 =>
          bif decide (x0.1 ≤ a3) then (
           .loop ([Lf.sl, Lf.i IntKind.i64]) (((x1.1.1, x1.1.2.1, x1.1.2.2), IntKind.wrap IntKind.i64 (a3 - x0.1), PUnit.unit)) 0 (fun x2 =>
            bif decide (127 < x2.2.1) then (
             .sem (Instr.buildSlice 22 1 { toList := [(0, Value.int IntKind.u8 (IntKind.wrap IntKind.u8 (((BitVec.toNat (BitVec.ofInt 8 (IntKind.wrap IntKind.u8 x2.2.1) ||| BitVec.ofInt 8 128)) : Nat) : Int)))] }) ([Lf.sl]) (Sh.one) (fun x3 =>
              .sem (Builtin.append_ { toList := [22, 22] } 22 { toList := [Value.slice x2.1.1 x2.1.2.1 x2.1.2.2, Value.slice x3.1.1 x3.1.2.1 x3.1.2.2] }) ([Lf.sl]) (Sh.one) (fun x4 =>
               .need (true) (
               .again 0 ([Lf.sl, Lf.i IntKind.i64]) (((x4.1.1, x4.1.2.1, x4.1.2.2), Int.fdiv x2.2.1 (2 ^ 7), PUnit.unit))))))
            else (
             .sem (Instr.buildSlice 22 1 { toList := [(0, Value.int IntKind.u8 (IntKind.wrap IntKind.u8 x2.2.1))] }) ([Lf.sl]) (Sh.one) (fun x3 =>
              .sem (Builtin.append_ { toList := [22, 22] } 22 { toList := [Value.slice x2.1.1 x2.1.2.1 x2.1.2.2, Value.slice x3.1.1 x3.1.2.1 x3.1.2.2] }) ([Lf.sl]) (Sh.one) (fun x4 =>
               .sem (Instr.buildSlice 45 2 { toList := [(0, Value.slice A0 n0 c0), (1, Value.slice x4.1.1 x4.1.2.1 x4.1.2.2)] }) ([Lf.sl]) (Sh.one) (fun x5 =>
                .call 16 ([AV.v (Value.slice x5.1.1 x5.1.2.1 x5.1.2.2)]) ([]) (Sh.one) ([Lf.sl]) ([]) (fun x6 =>
                 .done (AV.tup [AV.v (Value.slice x6.1.1 x6.1.2.1 x6.1.2.2), AV.v (Value.int IntKind.i64 0)]) ([]))))))))
          else (
           .sem (Instr.buildSlice 45 2 { toList := [(0, Value.slice A0 n0 c0), (1, Value.slice x1.1.1 x1.1.2.1 x1.1.2.2)] }) ([Lf.sl]) (Sh.one) (fun x2 =>
            .call 16 ([AV.v (Value.slice x2.1.1 x2.1.2.1 x2.1.2.2)]) ([]) (Sh.one) ([Lf.sl]) ([]) (fun x3 =>
             .done (AV.tup [AV.v (Value.slice x3.1.1 x3.1.2.1 x3.1.2.2), AV.v (Value.int IntKind.i64 0)]) ([])))))))))))) := by kernel_rfl
set_option maxHeartbeats 4000000 in
theorem pint_Put.c (k : Nat) (A0 : Option Addr) (n0 c0 : Nat) (l0 : List Int) (a1 : Int) (a2 : Int) (a3 : Int) (r : (List Int) × Int) (h : pint_Put.F k l0 a1 a2 a3 = some r) (hn0 : n0 = l0.length) (w : World) (hS0 : SlR R22.row (fun _ => False) w A0 c0 l0) : Calls Try.prog 8 (AV.gs id [AV.v (Value.slice A0 n0 c0), AV.v (Value.int IntKind.i64 a1), AV.v (Value.int IntKind.i64 a2), AV.v (Value.int IntKind.i64 a3)]).toArray w fun e w' => ∃ (B0 : Option Addr) (d0 : Nat), e = .returned (((Sh.tup [(false, 1), (false, 1)] : Sh).av (vs [Lf.sl, Lf.i IntKind.i64] ((B0, (r.1).length, d0), r.2, ()))).g id) ∧ Below w.heap.size w w' ∧ OwnF w.heap.size (fun b => b < w.heap.size) w' 5 R22 B0 d0 r.1 := by
  subst hn0
  refine enter0 mixed pint_Put.A noC [AV.v (Value.slice A0 l0.length c0), AV.v (Value.int IntKind.i64 a1), AV.v (Value.int IntKind.i64 a2), AV.v (Value.int IntKind.i64 a3)] Try.func8 rfl rfl rfl (fun hF => ?_)
  rw [pint_Put.t]
  unfold pint_Put.F at h
  try dsimp only at h
  obtain ⟨v0_0, hr0, h⟩ := Option.bind_eq_some_iff.1 h
  refine ok_callm rfl (fun L0 w0 g0 lt0 => ?_)
  refine (pint_full.c k a2 v0_0 hr0  w0 ).mono ?_
  rintro e w0' ⟨rfl, hb0⟩
  refine ⟨(v0_0, ()), rfl, hb0, fun g0' => ?_⟩
  try dsimp only
  have hF := hF.trans g0'
  refine ok_if (fun hc1 => ?_) (fun hc1 => ?_)
  · have h := bif_t h hc1
    obtain rfl := Option.some.inj h
    intro ρ L w' _ he _ _
    exact ⟨none, 0, rfl, (hF.ext he).below, OwnF.ret (OwnF.nil _ (fun _ => False) _ _ _)⟩
  · have h := bif_f h hc1
    refine ok_if (fun hc2 => ?_) (fun hc2 => ?_)
    · have h := bif_t h hc2
      obtain rfl := Option.some.inj h
      intro ρ L w' _ he _ _
      exact ⟨none, 0, rfl, (hF.ext he).below, OwnF.ret (OwnF.nil _ (fun _ => False) _ _ _)⟩
    · have h := bif_f h hc2
      refine ok_if (fun hc3 => ?_) (fun hc3 => ?_)
      · have h := bif_t h hc3
        obtain rfl := Option.some.inj h
        intro ρ L w' _ he _ _
        exact ⟨none, 0, rfl, (hF.ext he).below, OwnF.ret (OwnF.nil _ (fun _ => False) _ _ _)⟩
      · have h := bif_f h hc3
        refine ok_if (fun hc4 => ?_) (fun hc4 => ?_)
        · have h := bif_t h hc4
          obtain rfl := Option.some.inj h
          intro ρ L w' _ he _ _
          exact ⟨none, 0, rfl, (hF.ext he).below, OwnF.ret (OwnF.nil _ (fun _ => False) _ _ _)⟩
        · have h := bif_f h hc4
          refine ok_if (fun hc5 => ?_) (fun hc5 => ?_)
          · have h := bif_t h hc5
            obtain rfl := Option.some.inj h
            intro ρ L w' _ he _ _
            exact ⟨none, 0, rfl, (hF.ext he).below, OwnF.ret (OwnF.nil _ (fun _ => False) _ _ _)⟩
          · have h := bif_f h hc5
            refine ok_if (fun hc6 => ?_) (fun hc6 => ?_)
            · have h := bif_t h hc6
              obtain rfl := Option.some.inj h
              intro ρ L w' _ he _ _
              exact ⟨none, 0, rfl, (hF.ext he).below, OwnF.ret (OwnF.nil _ (fun _ => False) _ _ _)⟩
            · have h := bif_f h hc6
              refine ok_lit (R := R22) (base := w.heap.size) (xs := ([(IntKind.wrap IntKind.u8 (IntKind.wrap IntKind.i64 (((BitVec.toNat (BitVec.ofInt 64 a1 ||| BitVec.ofInt 64 (if v0_0 < a3 then v0_0 else a3))) : Nat) : Int)))] : List Int)) #[Value.int IntKind.u8 (IntKind.wrap IntKind.u8 (IntKind.wrap IntKind.i64 (((BitVec.toNat (BitVec.ofInt 64 a1 ||| BitVec.ofInt 64 (if v0_0 < a3 then v0_0 else a3))) : Nat) : Int)))] E22 rfl (by decide) (by decide) ⟨_, _, rfl, rfl, by kernel_rfl⟩ rfl hF.size (fun A1 c1 L1 w1 hO1 g1 hbl1 => ?_)
              try dsimp only
              have hF := hF.trans g1
              refine ok_if (fun hc8 => ?_) (fun hc8 => ?_)
              · have h := bif_t h hc8
                obtain ⟨I2, hI2⟩ : ∃ I : Nat → Tup [Lf.sl, Lf.i IntKind.i64] → (Nat → Prop) → World → Prop, I = (fun m_ y L w' => ∃ (A2_0 : Option Addr) (c2_0 : Nat) (s2_0 : List Int) (v2_1 : Int), y = ((A2_0, s2_0.length, c2_0), v2_1, ()) ∧ iter (pint_Put.s2 k l0) m_ (s2_0, v2_1) = some r ∧ Fine (fun _ => False) w L w' ∧ OwnF w.heap.size L w' 5 R22 A2_0 c2_0 s2_0) := ⟨_, rfl⟩
                refine ok_loop I2 k (by rw [hI2]; exact ⟨A1, c1, ([(IntKind.wrap IntKind.u8 (IntKind.wrap IntKind.i64 (((BitVec.toNat (BitVec.ofInt 64 a1 ||| BitVec.ofInt 64 (if v0_0 < a3 then v0_0 else a3))) : Nat) : Int)))] : List Int), _, rfl, h, hF, hO1⟩) ?_
                clear h
                intro m_ y L2 w2 hy
                rw [hI2] at hy
                obtain ⟨A2_0, c2_0, s2_0, v2_1, rfl, h, hF, hO_s2_0⟩ := hy
                obtain ⟨m2, o2, rfl, h, hl2, hr_2⟩ := iter_some h
                unfold pint_Put.s2 at h
                try dsimp only at h
                try dsimp only
                refine ok_if (fun hc10 => ?_) (fun hc10 => ?_)
                · have h := bif_t h hc10
                  refine ok_lit (R := R22) (base := w.heap.size) (xs := ([(IntKind.wrap IntKind.u8 (((BitVec.toNat (BitVec.ofInt 8 (IntKind.wrap IntKind.u8 v2_1) ||| BitVec.ofInt 8 128)) : Nat) : Int))] : List Int)) #[Value.int IntKind.u8 (IntKind.wrap IntKind.u8 (((BitVec.toNat (BitVec.ofInt 8 (IntKind.wrap IntKind.u8 v2_1) ||| BitVec.ofInt 8 128)) : Nat) : Int))] E22 rfl (by decide) (by decide) ⟨_, _, rfl, rfl, by kernel_rfl⟩ rfl hF.size (fun A3 c3 L3 w3 hO3 g3 hbl3 => ?_)
                  try dsimp only
                  have dj_o11_s2_0 : Dj A3 A2_0 := Dj.new hbl3 hO_s2_0.lt
                  have hF := hF.trans g3
                  have hO_s2_0 := hO_s2_0.later g3
                  obtain ⟨hq12, h⟩ := bif_need h
                  have hq12 := of_decide_eq_true hq12
                  refine ok_app (R := R22) (base := w.heap.size) (xs := s2_0) (ys := ([(IntKind.wrap IntKind.u8 (((BitVec.toNat (BitVec.ofInt 8 (IntKind.wrap IntKind.u8 v2_1) ||| BitVec.ofInt 8 128)) : Nat) : Int))] : List Int)) rfl rfl E22 hO_s2_0 hO3.sl (by decide) hq12 hF.size (fun A4 c4 L4 w4 hO4 g4 hid4 hbl4 => ?_)
                  try dsimp only
                  have dj_o13_o11 : Dj A4 A3 := Dj.grow (Dj.symm dj_o11_s2_0) hbl4 hO3.lt
                  have hO3 := hO3.other dj_o11_s2_0 g4
                  have hF := Fine.own hF g4 (fun b hb => Or.inr (Own.base hO_s2_0 hb)) hid4
                  refine ok_need rfl ?_
                  obtain rfl := Option.some.inj h
                  have h := hl2 _ rfl
                  exact ok_again (I := I2) m2 (Nat.lt_succ_self _) (fun L w' he => by rw [hI2]; exact ⟨A4, c4, (s2_0 ++ ([(IntKind.wrap IntKind.u8 (((BitVec.toNat (BitVec.ofInt 8 (IntKind.wrap IntKind.u8 v2_1) ||| BitVec.ofInt 8 128)) : Nat) : Int))] : List Int)), _, rfl, h, hF.trans he.fine, hO4.later he.fine⟩)
                · have h := bif_f h hc10
                  refine ok_lit (R := R22) (base := w.heap.size) (xs := ([(IntKind.wrap IntKind.u8 v2_1)] : List Int)) #[Value.int IntKind.u8 (IntKind.wrap IntKind.u8 v2_1)] E22 rfl (by decide) (by decide) ⟨_, _, rfl, rfl, by kernel_rfl⟩ rfl hF.size (fun A3 c3 L3 w3 hO3 g3 hbl3 => ?_)
                  try dsimp only
                  have dj_o14_s2_0 : Dj A3 A2_0 := Dj.new hbl3 hO_s2_0.lt
                  have hF := hF.trans g3
                  have hO_s2_0 := hO_s2_0.later g3
                  obtain ⟨hq15, h⟩ := bif_need h
                  have hq15 := of_decide_eq_true hq15
                  refine ok_app (R := R22) (base := w.heap.size) (xs := s2_0) (ys := ([(IntKind.wrap IntKind.u8 v2_1)] : List Int)) rfl rfl E22 hO_s2_0 hO3.sl (by decide) hq15 hF.size (fun A4 c4 L4 w4 hO4 g4 hid4 hbl4 => ?_)
                  try dsimp only
                  have dj_o16_o14 : Dj A4 A3 := Dj.grow (Dj.symm dj_o14_s2_0) hbl4 hO3.lt
                  have hO3 := hO3.other dj_o14_s2_0 g4
                  have hF := Fine.own hF g4 (fun b hb => Or.inr (Own.base hO_s2_0 hb)) hid4
                  refine ok_litN (R := R45) (xs := ([(l0), ((s2_0 ++ ([(IntKind.wrap IntKind.u8 v2_1)] : List Int)))] : List ((List Int)))) #[Value.slice A0 l0.length c0, Value.slice A4 ((s2_0 ++ ([(IntKind.wrap IntKind.u8 v2_1)] : List Int))).length c4] E45 rfl (by decide) (by decide) ⟨_, _, rfl, rfl, by kernel_rfl⟩ (fun L w' g => ⟨[_], _, rfl, ⟨_, _, _, rfl, rfl, (hS0.later (hF.trans g))⟩, ⟨[_], _, rfl, ⟨_, _, _, rfl, rfl, (hO4.later g).sl⟩, rfl⟩⟩) (fun A5 c5 L5 w5 hC5 g5 hbl5 => ?_)
                  try dsimp only
                  have hF := hF.trans g5
                  have hO3 := hO3.later g5
                  have hO4 := hO4.later g5
                  obtain ⟨s6_0, hr6, h⟩ := Option.bind_eq_some_iff.1 h
                  refine ok_callm rfl (fun L6 w6 g6 lt6 => ?_)
                  refine (slices_Concat_byte_byte.c k _ _ _ (([(l0), ((s2_0 ++ ([(IntKind.wrap IntKind.u8 v2_1)] : List Int)))] : List ((List Int)))) s6_0 hr6 rfl w6 (hC5.later g6).bare).mono ?_
                  rintro e w6' ⟨A6_0, c6_0, rfl, hb6, hO6_0⟩
                  refine ⟨((A6_0, s6_0.length, c6_0), ()), rfl, hb6, fun g6' => ?_⟩
                  try dsimp only
                  have dj_o18_o14 : Dj A6_0 A3 := Dj.new hO6_0.fresh (hO3.later g6).lt
                  have dj_o18_o16 : Dj A6_0 A4 := Dj.new hO6_0.fresh (hO4.later g6).lt
                  have hO6_0 := hO6_0.call (hF.trans g6).size lt6
                  have hF := hF.trans g6'
                  have hO3 := hO3.later g6'
                  have hO4 := hO4.later g6'
                  have hC5 := hC5.later g6'
                  obtain rfl := Option.some.inj h
                  obtain rfl := hr_2 _ rfl
                  intro ρ L w' _ he _ _
                  exact ⟨A6_0, c6_0, rfl, (hF.ext he).below, (hO6_0.later he.fine).ret⟩
              · have h := bif_f h hc8
                refine ok_litN (R := R45) (xs := ([(l0), (([(IntKind.wrap IntKind.u8 (IntKind.wrap IntKind.i64 (((BitVec.toNat (BitVec.ofInt 64 a1 ||| BitVec.ofInt 64 (if v0_0 < a3 then v0_0 else a3))) : Nat) : Int)))] : List Int))] : List ((List Int)))) #[Value.slice A0 l0.length c0, Value.slice A1 (([(IntKind.wrap IntKind.u8 (IntKind.wrap IntKind.i64 (((BitVec.toNat (BitVec.ofInt 64 a1 ||| BitVec.ofInt 64 (if v0_0 < a3 then v0_0 else a3))) : Nat) : Int)))] : List Int)).length c1] E45 rfl (by decide) (by decide) ⟨_, _, rfl, rfl, by kernel_rfl⟩ (fun L w' g => ⟨[_], _, rfl, ⟨_, _, _, rfl, rfl, (hS0.later (hF.trans g))⟩, ⟨[_], _, rfl, ⟨_, _, _, rfl, rfl, (hO1.later g).sl⟩, rfl⟩⟩) (fun A2 c2 L2 w2 hC2 g2 hbl2 => ?_)
                try dsimp only
                have hF := hF.trans g2
                have hO1 := hO1.later g2
                obtain ⟨s3_0, hr3, h⟩ := Option.bind_eq_some_iff.1 h
                refine ok_callm rfl (fun L3 w3 g3 lt3 => ?_)
                refine (slices_Concat_byte_byte.c k _ _ _ (([(l0), (([(IntKind.wrap IntKind.u8 (IntKind.wrap IntKind.i64 (((BitVec.toNat (BitVec.ofInt 64 a1 ||| BitVec.ofInt 64 (if v0_0 < a3 then v0_0 else a3))) : Nat) : Int)))] : List Int))] : List ((List Int)))) s3_0 hr3 rfl w3 (hC2.later g3).bare).mono ?_
                rintro e w3' ⟨A3_0, c3_0, rfl, hb3, hO3_0⟩
                refine ⟨((A3_0, s3_0.length, c3_0), ()), rfl, hb3, fun g3' => ?_⟩
                try dsimp only
                have dj_o20_o7 : Dj A3_0 A1 := Dj.new hO3_0.fresh (hO1.later g3).lt
                have hO3_0 := hO3_0.call (hF.trans g3).size lt3
                have hF := hF.trans g3'
                have hO1 := hO1.later g3'
                have hC2 := hC2.later g3'
                obtain rfl := Option.some.inj h
                intro ρ L w' _ he _ _
                exact ⟨A3_0, c3_0, rfl, (hF.ext he).below, (hO3_0.later he.fine).ret⟩
/-! ### turnbuckle/pint.Size: function 11 -/
def pint_Size.F (k : Nat) (a0 : Int) (a1 : Int) : Option Int := (pint_Put.F k ([]) 0 a0 a1).bind fun (s0_0, v0_1) => some ((((s0_0.length : Nat) : Int)))
abbrev pint_Size.A : Nat → LA := noA
set_option maxHeartbeats 4000000 in
theorem pint_Size.t (a0 : Int) (a1 : Int) : tree Try.prog pint_Size.A noC Try.f11 [AV.v (Value.int IntKind.i64 a0), AV.v (Value.int IntKind.i64 a1)] [] =
  .call 8 ([AV.v (Value.slice none 0 0), AV.v (Value.int IntKind.i64 0), AV.v (Value.int IntKind.i64 a0), AV.v (Value.int IntKind.i64 a1)]) ([]) (Sh.tup [(false, 1), (false, 1)]) ([Lf.sl, Lf.i IntKind.i64]) ([]) (fun x0 =>
   .done (AV.v (Value.int IntKind.i64 ((x0.1.2.1 : Nat) : Int))) ([])) := by kernel_rfl
set_option maxHeartbeats 4000000 in
theorem pint_Size.c (k : Nat) (a0 : Int) (a1 : Int) (r : Int) (h : pint_Size.F k a0 a1 = some r)  (w : World)  : Calls Try.prog 11 (AV.gs id [AV.v (Value.int IntKind.i64 a0), AV.v (Value.int IntKind.i64 a1)]).toArray w fun e w' => e = .returned (((Sh.one : Sh).av (vs [Lf.i IntKind.i64] (r, ()))).g id) ∧ Below w.heap.size w w' := by
  refine enter0 mixed pint_Size.A noC [AV.v (Value.int IntKind.i64 a0), AV.v (Value.int IntKind.i64 a1)] Try.func11 rfl rfl rfl (fun hF => ?_)
  rw [pint_Size.t]
  unfold pint_Size.F at h
  try dsimp only at h
  obtain ⟨r0, hr0, h⟩ := Option.bind_eq_some_iff.1 h
  obtain ⟨s0_0, v0_1⟩ := r0
  try dsimp only at h
  refine ok_callm rfl (fun L0 w0 g0 lt0 => ?_)
  refine (pint_Put.c k _ _ _ ([]) 0 a0 a1 (s0_0, v0_1) hr0 rfl w0 SlR.nil).mono ?_
  rintro e w0' ⟨A0_0, c0_0, rfl, hb0, hO0_0⟩
  refine ⟨((A0_0, s0_0.length, c0_0), v0_1, ()), rfl, hb0, fun g0' => ?_⟩
  try dsimp only
  have hO0_0 := hO0_0.call (hF.trans g0).size lt0
  have hF := hF.trans g0'
  obtain rfl := Option.some.inj h
  intro ρ L w' _ he _ _
  exact ⟨rfl, (hF.ext he).below⟩
/-! ### turnbuckle/pint.Get: function 14 -/
def pint_Get.s3 (k : Nat) (l0 : List Int) (r5 : Int) (v0_0 : Int) : (Int × Int × Int × Int × Int) → Option (Sum (Int × Int × Int × Int × Int) (Int × Int × Int × Int × Int)) := fun (v3_0, v3_1, v3_2, v3_3, v3_4) => bif decide (v3_2 < 10) then (bif IntKind.wrap IntKind.i64 (v3_0 + 1) == ((l0.length : Nat) : Int) then (some (.inr ((0, 0, 0, 3, ((l0.length : Nat) : Int))))) else ((getI l0 (IntKind.wrap IntKind.i64 (v3_0 + 1))).bind fun r13 => bif v3_2 == 9 then (some (.inr ((0, 0, 0, 5, IntKind.wrap IntKind.i64 (v3_0 + 1))))) else (bif decide (0 ≤ IntKind.wrap IntKind.i64 (7 * v3_2)) then (bif decide (Int.fdiv (IntKind.wrap IntKind.i64 (4611686018427387903 - v3_1)) (2 ^ min (Int.toNat (IntKind.wrap IntKind.i64 (7 * v3_2))) 64) < IntKind.wrap IntKind.i64 (IntKind.wrap IntKind.u8 (((BitVec.toNat (BitVec.ofInt 8 r13 &&& BitVec.ofInt 8 127)) : Nat) : Int))) then (some (.inr ((0, 0, 0, 5, IntKind.wrap IntKind.i64 (v3_0 + 1))))) else (bif decide (0 ≤ IntKind.wrap IntKind.i64 (7 * v3_2)) then ((getI l0 (IntKind.wrap IntKind.i64 (v3_0 + 1))).bind fun r19 => bif decide (r19 < 128) then (some (.inr ((IntKind.wrap IntKind.i64 (((BitVec.toNat (BitVec.ofInt 64 (IntKind.wrap IntKind.i64 r5) &&& ~~~BitVec.ofInt 64 v0_0)) : Nat) : Int), IntKind.wrap IntKind.i64 (v3_1 + IntKind.wrap IntKind.i64 (IntKind.wrap IntKind.i64 (IntKind.wrap IntKind.u8 (((BitVec.toNat (BitVec.ofInt 8 r13 &&& BitVec.ofInt 8 127)) : Nat) : Int)) * 2 ^ min (Int.toNat (IntKind.wrap IntKind.i64 (7 * v3_2))) 64)), IntKind.wrap IntKind.i64 (IntKind.wrap IntKind.i64 (v3_0 + 1) + 1), 0, 0)))) else (some (.inl ((IntKind.wrap IntKind.i64 (v3_0 + 1), IntKind.wrap IntKind.i64 (v3_1 + IntKind.wrap IntKind.i64 (IntKind.wrap IntKind.i64 (IntKind.wrap IntKind.u8 (((BitVec.toNat (BitVec.ofInt 8 r13 &&& BitVec.ofInt 8 127)) : Nat) : Int)) * 2 ^ min (Int.toNat (IntKind.wrap IntKind.i64 (7 * v3_2))) 64)), IntKind.wrap IntKind.i64 (v3_2 + 1), v3_3, v3_4))))) else none)) else none))) else (some (.inr ((0, 0, 0, 5, v3_0))))
def pint_Get.F (k : Nat) (l0 : List Int) (a1 : Int) (a2 : Int) : Option (Int × Int × Int × Int × Int) := (pint_full.F k a2).bind fun v0_0 => bif decide (a1 < 0) then (some ((0, 0, 0, 1, a1))) else (bif decide (((l0.length : Nat) : Int) < a1) then (some ((0, 0, 0, 1, a1))) else (bif v0_0 == 0 then (some ((0, 0, 0, 1, a1))) else (bif a1 == ((l0.length : Nat) : Int) then (some ((0, 0, 0, 3, ((l0.length : Nat) : Int)))) else ((getI l0 a1).bind fun r5 => (getI l0 a1).bind fun r7 => bif decide (IntKind.wrap IntKind.i64 (((BitVec.toNat (BitVec.ofInt 64 (IntKind.wrap IntKind.i64 r7) &&& BitVec.ofInt 64 v0_0)) : Nat) : Int) < v0_0) then (some ((IntKind.wrap IntKind.i64 (((BitVec.toNat (BitVec.ofInt 64 (IntKind.wrap IntKind.i64 r5) &&& ~~~BitVec.ofInt 64 v0_0)) : Nat) : Int), IntKind.wrap IntKind.i64 (((BitVec.toNat (BitVec.ofInt 64 (IntKind.wrap IntKind.i64 r7) &&& BitVec.ofInt 64 v0_0)) : Nat) : Int), IntKind.wrap IntKind.i64 (a1 + 1), 0, 0))) else (iter (pint_Get.s3 k l0 r5 v0_0) k (a1, IntKind.wrap IntKind.i64 (((BitVec.toNat (BitVec.ofInt 64 (IntKind.wrap IntKind.i64 r7) &&& BitVec.ofInt 64 v0_0)) : Nat) : Int), 0, 0, 0))))))
abbrev pint_Get.A : Nat → LA := fun r => if r = 10 then ⟨[(1, false, [Lf.i IntKind.i64]), (12, false, [Lf.i IntKind.i64]), (62, false, [Lf.i IntKind.i64])], [(1003, [Lf.i IntKind.i64, Lf.i IntKind.i64])]⟩ else ⟨[], []⟩
set_option maxHeartbeats 4000000 in
theorem pint_Get.t (A0 : Option Addr) (n0 c0 : Nat) (a1 : Int) (a2 : Int) : tree Try.prog pint_Get.A noC Try.f14 [AV.v (Value.slice A0 n0 c0), AV.v (Value.int IntKind.i64 a1), AV.v (Value.int IntKind.i64 a2)] [] =
  .call 15 ([AV.v (Value.int IntKind.i64 a2)]) ([]) (Sh.one) ([Lf.i IntKind.i64]) ([]) (fun x0 =>
   bif decide (a1 < 0) then (
    .done (AV.tup [AV.v (Value.int IntKind.i64 0), AV.v (Value.int IntKind.i64 0), AV.v (Value.int IntKind.i64 0), AV.agg [AV.v (Value.int IntKind.i64 1), AV.v (Value.int IntKind.i64 a1)]]) ([]))
   else (
    bif decide (((n0 : Nat) : Int) < a1) then (
     .done (AV.tup [AV.v (Value.int IntKind.i64 0), AV.v (Value.int IntKind.i64 0), AV.v (Value.int IntKind.i64 0), AV.agg [AV.v (Value.int IntKind.i64 1), AV.v (Value.int IntKind.i64 a1)]]) ([]))
    else (
     bif x0.1 == 0 then (
      .done (AV.tup [AV.v (Value.int IntKind.i64 0), AV.v (Value.int IntKind.i64 0), AV.v (Value.int IntKind.i64 0), AV.agg [AV.v (Value.int IntKind.i64 1), AV.v (Value.int IntKind.i64 a1)]]) ([]))
     else (
      bif a1 == ((n0 : Nat) : Int) then (
       .done (AV.tup [AV.v (Value.int IntKind.i64 0), AV.v (Value.int IntKind.i64 0), AV.v (Value.int IntKind.i64 0), AV.agg [AV.v (Value.int IntKind.i64 3), AV.v (Value.int IntKind.i64 ((n0 : Nat) : Int))]]) ([]))
      else (
       .need (decide (0 ≤ a1) && decide (a1 < ((n0 : Nat) : Int)) && Option.isSome A0) (
       .ld (Option.map (fun x => Addr.add x (Int.toNat a1 * 1)) A0) ([Lf.i IntKind.u8]) (fun x1 =>
        .need (decide (0 ≤ a1) && decide (a1 < ((n0 : Nat) : Int)) && Option.isSome A0) (
        .ld (Option.map (fun x => Addr.add x (Int.toNat a1 * 1)) A0) ([Lf.i IntKind.u8]) (fun x2 =>
         bif decide (IntKind.wrap IntKind.i64 (((BitVec.toNat (BitVec.ofInt 64 (IntKind.wrap IntKind.i64 x2.1) &&& BitVec.ofInt 64 x0.1)) : Nat) : Int) < x0.1) then (
          .done (AV.tup [AV.v (Value.int IntKind.i64 (IntKind.wrap IntKind.i64 (((BitVec.toNat (BitVec.ofInt 64 (IntKind.wrap IntKind.i64 x1.1) &&& ~~~BitVec.ofInt 64 x0.1)) : Nat) : Int))), AV.v (Value.int IntKind.i64 (IntKind.wrap IntKind.i64 (((BitVec.toNat (BitVec.ofInt 64 (IntKind.wrap IntKind.i64 x2.1) &&& BitVec.ofInt 64 x0.1)) : Nat) : Int))), AV.v (Value.int IntKind.i64 (IntKind.wrap IntKind.i64 (a1 + 1))), AV.agg [AV.v (Value.int IntKind.i64 0), AV.v (Value.int IntKind.i64 0)]]) ([]))
         else (
          .loop ([Lf.i IntKind.i64, Lf.i IntKind.i64, Lf.i IntKind.i64, Lf.i IntKind.i64, Lf.i IntKind.i64]) ((a1, IntKind.wrap IntKind.i64 (((BitVec.toNat (BitVec.ofInt 64 (IntKind.wrap IntKind.i64 x2.1) &&& BitVec.ofInt 64 x0.1)) : Nat) : Int), 0, 0, 0, PUnit.unit)) 0 (fun x3 =>
           bif decide (x3.2.2.1 < 10) then (
            bif IntKind.wrap IntKind.i64 (x3.1 + 1) == ((n0 : Nat) : Int) then (
             .done (AV.tup [AV.v (Value.int IntKind.i64 0), AV.v (Value.int IntKind.i64 0), AV.v (Value.int IntKind.i64 0), AV.agg [AV.v (Value.int IntKind.i64 3), AV.v (Value.int IntKind.i64 ((n0 : Nat) : Int))]]) ([]))
            else (
             .need (decide (0 ≤ IntKind.wrap IntKind.i64 (x3.1 + 1)) && decide (IntKind.wrap IntKind.i64 (x3.1 + 1) < ((n0 : Nat) : Int)) && Option.isSome A0) (
             .ld (Option.map (fun x => Addr.add x (Int.toNat (IntKind.wrap IntKind.i64 (x3.1 + 1)) * 1)) A0) ([Lf.i IntKind.u8]) (fun x4 =>
              bif x3.2.2.1 == 9 then (
               .done (AV.tup [AV.v (Value.int IntKind.i64 0), AV.v (Value.int IntKind.i64 0), AV.v (Value.int IntKind.i64 0), AV.agg [AV.v (Value.int IntKind.i64 5), AV.v (Value.int IntKind.i64 (IntKind.wrap IntKind.i64 (x3.1 + 1)))]]) ([]))
              else (
               .need (decide (0 ≤ IntKind.wrap IntKind.i64 (7 * x3.2.2.1))) (
               bif decide (Int.fdiv (IntKind.wrap IntKind.i64 (4611686018427387903 - x3.2.1)) (2 ^ min (Int.toNat (IntKind.wrap IntKind.i64 (7 * x3.2.2.1))) 64) < IntKind.wrap IntKind.i64 (IntKind.wrap IntKind.u8 (((BitVec.toNat (BitVec.ofInt 8 x4.1 &&& BitVec.ofInt 8 127)) : Nat) : Int))) then (
                .done (AV.tup [AV.v (Value.int IntKind.i64 0), AV.v (Value.int IntKind.i64 0), AV.v (Value.int IntKind.i64 0), AV.agg [AV.v (Value.int IntKind.i64 5), AV.v (Value.int IntKind.i64 (IntKind.wrap IntKind.i64 (x3.1 + 1)))]]) ([]))
               else (
                .need (decide (0 ≤ IntKind.wrap IntKind.i64 (7 * x3.2.2.1))) (
                .need (decide (0 ≤ IntKind.wrap IntKind.i64 (x3.1 + 1)) && decide (IntKind.wrap IntKind.i64 (x3.1 + 1) < ((n0 : Nat) : Int)) && Option.isSome A0) (
                .ld (Option.map (fun x => Addr.add x (Int.toNat (IntKind.wrap IntKind.i64 (x3.1 + 1)) * 1)) A0) ([Lf.i IntKind.u8]) (fun x5 =>
                 bif decide (x5.1 < 128) then (
                  .done (AV.tup [AV.v (Value.int IntKind.i64 (IntKind.wrap IntKind.i64 (((BitVec.toNat (BitVec.ofInt 64 (IntKind.wrap IntKind.i64 x1.1) &&& ~~~BitVec.ofInt 64 x0.1)) : Nat) : Int))), AV.v (Value.int IntKind.i64 (IntKind.wrap IntKind.i64 (x3.2.1 + IntKind.wrap IntKind.i64 (IntKind.wrap IntKind.i64 (IntKind.wrap IntKind.u8 (((BitVec.toNat (BitVec.ofInt 8 x4.1 &&& BitVec.ofInt 8 127)) : Nat) : Int)) * 2 ^ min (Int.toNat (IntKind.wrap IntKind.i64 (7 * x3.2.2.1))) 64)))), AV.v (Value.int IntKind.i64 (IntKind.wrap IntKind.i64 (IntKind.wrap IntKind.i64 (x3.1 + 1) + 1))), AV.agg [AV.v (Value.int IntKind.i64 0), AV.v (Value.int IntKind.i64 0)]]) ([]))
                 else (
                  .again 0 ([Lf.i IntKind.i64, Lf.i IntKind.i64, Lf.i IntKind.i64, Lf.i IntKind.i64, Lf.i IntKind.i64]) ((IntKind.wrap IntKind.i64 (x3.1 + 1), IntKind.wrap IntKind.i64 (x3.2.1 + IntKind.wrap IntKind.i64 (IntKind.wrap IntKind.i64 (IntKind.wrap IntKind.u8 (((BitVec.toNat (BitVec.ofInt 8 x4.1 &&& BitVec.ofInt 8 127)) : Nat) : Int)) * 2 ^ min (Int.toNat (IntKind.wrap IntKind.i64 (7 * x3.2.2.1))) 64)), IntKind.wrap IntKind.i64 (x3.2.2.1 + 1), x3.2.2.2.1, x3.2.2.2.2.1, PUnit.unit)))))))))))))
           else (
            .done (AV.tup [AV.v (Value.int IntKind.i64 0), AV.v (Value.int IntKind.i64 0), AV.v (Value.int IntKind.i64 0), AV.agg [AV.v (Value.int IntKind.i64 5), AV.v (Value.int IntKind.i64 x3.1)]]) ([]))))))))))))) := by kernel_rfl
set_option maxHeartbeats 4000000 in
theorem pint_Get.c (k : Nat) (A0 : Option Addr) (n0 c0 : Nat) (l0 : List Int) (a1 : Int) (a2 : Int) (r : Int × Int × Int × Int × Int) (h : pint_Get.F k l0 a1 a2 = some r) (hn0 : n0 = l0.length) (w : World) (hS0 : SlR R22.row (fun _ => False) w A0 c0 l0) : Calls Try.prog 14 (AV.gs id [AV.v (Value.slice A0 n0 c0), AV.v (Value.int IntKind.i64 a1), AV.v (Value.int IntKind.i64 a2)]).toArray w fun e w' => e = .returned (((Sh.tup [(false, 1), (false, 1), (false, 1), (true, 2)] : Sh).av (vs [Lf.i IntKind.i64, Lf.i IntKind.i64, Lf.i IntKind.i64, Lf.i IntKind.i64, Lf.i IntKind.i64] (r.1, r.2.1, r.2.2.1, r.2.2.2.1, r.2.2.2.2, ()))).g id) ∧ Below w.heap.size w w' := by
  subst hn0
  refine enter0 mixed pint_Get.A noC [AV.v (Value.slice A0 l0.length c0), AV.v (Value.int IntKind.i64 a1), AV.v (Value.int IntKind.i64 a2)] Try.func14 rfl rfl rfl (fun hF => ?_)
  rw [pint_Get.t]
  unfold pint_Get.F at h
  try dsimp only at h
  obtain ⟨v0_0, hr0, h⟩ := Option.bind_eq_some_iff.1 h
  refine ok_callm rfl (fun L0 w0 g0 lt0 => ?_)
  refine (pint_full.c k a2 v0_0 hr0  w0 ).mono ?_
  rintro e w0' ⟨rfl, hb0⟩
  refine ⟨(v0_0, ()), rfl, hb0, fun g0' => ?_⟩
  try dsimp only
  have hF := hF.trans g0'
  refine ok_if (fun hc1 => ?_) (fun hc1 => ?_)
  · have h := bif_t h hc1
    obtain rfl := Option.some.inj h
    intro ρ L w' _ he _ _
    exact ⟨rfl, (hF.ext he).below⟩
  · have h := bif_f h hc1
    refine ok_if (fun hc2 => ?_) (fun hc2 => ?_)
    · have h := bif_t h hc2
      obtain rfl := Option.some.inj h
      intro ρ L w' _ he _ _
      exact ⟨rfl, (hF.ext he).below⟩
    · have h := bif_f h hc2
      refine ok_if (fun hc3 => ?_) (fun hc3 => ?_)
      · have h := bif_t h hc3
        obtain rfl := Option.some.inj h
        intro ρ L w' _ he _ _
        exact ⟨rfl, (hF.ext he).below⟩
      · have h := bif_f h hc3
        refine ok_if (fun hc4 => ?_) (fun hc4 => ?_)
        · have h := bif_t h hc4
          obtain rfl := Option.some.inj h
          intro ρ L w' _ he _ _
          exact ⟨rfl, (hF.ext he).below⟩
        · have h := bif_f h hc4
          obtain ⟨r5, hr6, h⟩ := Option.bind_eq_some_iff.1 h
          refine ok_need (getI_need (hS0.later hF) hr6) ?_
          refine ok_get hS0 hF hr6 (by simp) (fun cs hcs => ⟨(r5, ()), hcs.symm, ?_⟩)
          try dsimp only
          obtain ⟨r7, hr8, h⟩ := Option.bind_eq_some_iff.1 h
          refine ok_need (getI_need (hS0.later hF) hr8) ?_
          refine ok_get hS0 hF hr8 (by simp) (fun cs hcs => ⟨(r7, ()), hcs.symm, ?_⟩)
          try dsimp only
          refine ok_if (fun hc9 => ?_) (fun hc9 => ?_)
          · have h := bif_t h hc9
            obtain rfl := Option.some.inj h
            intro ρ L w' _ he _ _
            exact ⟨rfl, (hF.ext he).below⟩
          · have h := bif_f h hc9
            obtain ⟨I3, hI3⟩ : ∃ I : Nat → Tup [Lf.i IntKind.i64, Lf.i IntKind.i64, Lf.i IntKind.i64, Lf.i IntKind.i64, Lf.i IntKind.i64] → (Nat → Prop) → World → Prop, I = (fun m_ y L w' => ∃ (v3_0 : Int) (v3_1 : Int) (v3_2 : Int) (v3_3 : Int) (v3_4 : Int), y = (v3_0, v3_1, v3_2, v3_3, v3_4, ()) ∧ iter (pint_Get.s3 k l0 r5 v0_0) m_ (v3_0, v3_1, v3_2, v3_3, v3_4) = some r ∧ Fine (fun _ => False) w L w') := ⟨_, rfl⟩
            refine ok_loop I3 k (by rw [hI3]; exact ⟨_, _, _, _, _, rfl, h, hF⟩) ?_
            clear h
            intro m_ y L3 w3 hy
            rw [hI3] at hy
            obtain ⟨v3_0, v3_1, v3_2, v3_3, v3_4, rfl, h, hF⟩ := hy
            obtain ⟨m3, o3, rfl, h, hl3, hr_3⟩ := iter_some h
            unfold pint_Get.s3 at h
            try dsimp only at h
            try dsimp only
            refine ok_if (fun hc11 => ?_) (fun hc11 => ?_)
            · have h := bif_t h hc11
              refine ok_if (fun hc12 => ?_) (fun hc12 => ?_)
              · have h := bif_t h hc12
                obtain rfl := Option.some.inj h
                obtain rfl := hr_3 _ rfl
                intro ρ L w' _ he _ _
                exact ⟨rfl, (hF.ext he).below⟩
              · have h := bif_f h hc12
                obtain ⟨r13, hr14, h⟩ := Option.bind_eq_some_iff.1 h
                refine ok_need (getI_need (hS0.later hF) hr14) ?_
                refine ok_get hS0 hF hr14 (by simp) (fun cs hcs => ⟨(r13, ()), hcs.symm, ?_⟩)
                try dsimp only
                refine ok_if (fun hc15 => ?_) (fun hc15 => ?_)
                · have h := bif_t h hc15
                  obtain rfl := Option.some.inj h
                  obtain rfl := hr_3 _ rfl
                  intro ρ L w' _ he _ _
                  exact ⟨rfl, (hF.ext he).below⟩
                · have h := bif_f h hc15
                  obtain ⟨hn16, h⟩ := bif_need h
                  refine ok_need hn16 ?_
                  refine ok_if (fun hc17 => ?_) (fun hc17 => ?_)
                  · have h := bif_t h hc17
                    obtain rfl := Option.some.inj h
                    obtain rfl := hr_3 _ rfl
                    intro ρ L w' _ he _ _
                    exact ⟨rfl, (hF.ext he).below⟩
                  · have h := bif_f h hc17
                    obtain ⟨hn18, h⟩ := bif_need h
                    refine ok_need hn18 ?_
                    obtain ⟨r19, hr20, h⟩ := Option.bind_eq_some_iff.1 h
                    refine ok_need (getI_need (hS0.later hF) hr20) ?_
                    refine ok_get hS0 hF hr20 (by simp) (fun cs hcs => ⟨(r19, ()), hcs.symm, ?_⟩)
                    try dsimp only
                    refine ok_if (fun hc21 => ?_) (fun hc21 => ?_)
                    · have h := bif_t h hc21
                      obtain rfl := Option.some.inj h
                      obtain rfl := hr_3 _ rfl
                      intro ρ L w' _ he _ _
                      exact ⟨rfl, (hF.ext he).below⟩
                    · have h := bif_f h hc21
                      obtain rfl := Option.some.inj h
                      have h := hl3 _ rfl
                      exact ok_again (I := I3) m3 (Nat.lt_succ_self _) (fun L w' he => by rw [hI3]; exact ⟨_, _, _, _, _, rfl, h, hF.trans he.fine⟩)
            · have h := bif_f h hc11
              obtain rfl := Option.some.inj h
              obtain rfl := hr_3 _ rfl
              intro ρ L w' _ he _ _
              exact ⟨rfl, (hF.ext he).below⟩
/-! ### turnbuckle/turnbuckleref01.Same: function 10 -/
def ref01_Same.F (k : Nat) (l0 : List Int) (l1 : List Int) : Option Bool := bif ByteArray.toList (strOfNums l0) == ByteArray.toList (strOfNums l1) then (some true) else (some false)
abbrev ref01_Same.A : Nat → LA := noA
set_option maxHeartbeats 4000000 in
theorem ref01_Same.t (A0 : Option Addr) (n0 c0 : Nat) (A1 : Option Addr) (n1 c1 : Nat) : tree Try.prog ref01_Same.A noC Try.f10 [AV.v (Value.slice A0 n0 c0), AV.v (Value.slice A1 n1 c1)] [] =
  .sem (convert 22 9 (Value.slice A0 n0 c0)) ([Lf.s]) (Sh.one) (fun x0 =>
   .sem (convert 22 9 (Value.slice A1 n1 c1)) ([Lf.s]) (Sh.one) (fun x1 =>
    bif ByteArray.toList x0.1 == ByteArray.toList x1.1 then (
     .done (AV.v (Value.bool true)) ([]))
    else (
     .done (AV.v (Value.bool false)) ([])))) := by kernel_rfl
set_option maxHeartbeats 4000000 in
theorem ref01_Same.c (k : Nat) (A0 : Option Addr) (n0 c0 : Nat) (l0 : List Int) (A1 : Option Addr) (n1 c1 : Nat) (l1 : List Int) (r : Bool) (h : ref01_Same.F k l0 l1 = some r) (hn0 : n0 = l0.length) (hn1 : n1 = l1.length) (w : World) (hS0 : SlR R22.row (fun _ => False) w A0 c0 l0) (hS1 : SlR R22.row (fun _ => False) w A1 c1 l1) : Calls Try.prog 10 (AV.gs id [AV.v (Value.slice A0 n0 c0), AV.v (Value.slice A1 n1 c1)]).toArray w fun e w' => e = .returned (((Sh.one : Sh).av (vs [Lf.b] (r, ()))).g id) ∧ Below w.heap.size w w' := by
  subst hn0
  subst hn1
  refine enter0 mixed ref01_Same.A noC [AV.v (Value.slice A0 l0.length c0), AV.v (Value.slice A1 l1.length c1)] Try.func10 rfl rfl rfl (fun hF => ?_)
  rw [ref01_Same.t]
  unfold ref01_Same.F at h
  try dsimp only at h
  refine ok_str (R := R22) (fun _ => rfl) rfl rfl rfl rfl (hS0.later hF) (fun L0 w0 g0 => ?_)
  try dsimp only
  have hF := hF.trans g0
  refine ok_str (R := R22) (fun _ => rfl) rfl rfl rfl rfl (hS1.later hF) (fun L1 w1 g1 => ?_)
  try dsimp only
  have hF := hF.trans g1
  refine ok_if (fun hc1 => ?_) (fun hc1 => ?_)
  · have h := bif_t h hc1
    obtain rfl := Option.some.inj h
    intro ρ L w' _ he _ _
    exact ⟨rfl, (hF.ext he).below⟩
  · have h := bif_f h hc1
    obtain rfl := Option.some.inj h
    intro ρ L w' _ he _ _
    exact ⟨rfl, (hF.ext he).below⟩
/-! ### turnbuckle/turnbucklelaw11.alive: function 13 -/
def law11_alive.F (k : Nat)  : Option Bool := (pint_Put.F k ([]) 224 5 1337).bind fun (s0_0, v0_1) => (pint_Get.F k s0_0 0 5).bind fun (v1_0, v1_1, v1_2, v1_3, v1_4) => bif v0_1 == 0 then ((ref01_Same.F k s0_0 (([(255), (154), (10)] : List Int))).bind fun v3_0 => bif v3_0 then (bif v1_0 == 224 then (bif v1_1 == 1337 then (bif v1_2 == 3 then (bif v1_3 == 0 && (v1_4 == 0 && true) then ((pint_Size.F k 5 10).bind fun v4_0 => bif v4_0 == 1 then (some true) else (some false)) else (some false)) else (some false)) else (some false)) else (some false)) else (some false)) else (some false)
abbrev law11_alive.A : Nat → LA := noA
set_option maxHeartbeats 4000000 in
theorem law11_alive.t  : tree Try.prog law11_alive.A noC Try.f13 [] [] =
  .call 8 ([AV.v (Value.slice none 0 0), AV.v (Value.int IntKind.i64 224), AV.v (Value.int IntKind.i64 5), AV.v (Value.int IntKind.i64 1337)]) ([]) (Sh.tup [(false, 1), (false, 1)]) ([Lf.sl, Lf.i IntKind.i64]) ([]) (fun x0 =>
   .call 14 ([AV.v (Value.slice x0.1.1 x0.1.2.1 x0.1.2.2), AV.v (Value.int IntKind.i64 0), AV.v (Value.int IntKind.i64 5)]) ([]) (Sh.tup [(false, 1), (false, 1), (false, 1), (true, 2)]) ([Lf.i IntKind.i64, Lf.i IntKind.i64, Lf.i IntKind.i64, Lf.i IntKind.i64, Lf.i IntKind.i64]) ([]) (fun x1 =>
    bif x0.2.1 == 0 then (
     .sem (Instr.buildSlice 22 3 { toList := [(0, Value.int IntKind.u8 255), (1, Value.int IntKind.u8 154), (2, Value.int IntKind.u8 10)] }) ([Lf.sl]) (Sh.one) (fun x2 =>
      .call 10 ([AV.v (Value.slice x0.1.1 x0.1.2.1 x0.1.2.2), AV.v (Value.slice x2.1.1 x2.1.2.1 x2.1.2.2)]) ([]) (Sh.one) ([Lf.b]) ([]) (fun x3 =>
       bif x3.1 then (
        bif x1.1 == 224 then (
         bif x1.2.1 == 1337 then (
          bif x1.2.2.1 == 3 then (
           bif x1.2.2.2.1 == 0 && (x1.2.2.2.2.1 == 0 && true) then (
            .call 11 ([AV.v (Value.int IntKind.i64 5), AV.v (Value.int IntKind.i64 10)]) ([]) (Sh.one) ([Lf.i IntKind.i64]) ([]) (fun x4 =>
             bif x4.1 == 1 then (
              .done (AV.v (Value.bool true)) ([]))
             else (
              .done (AV.v (Value.bool false)) ([]))))
           else (
            .done (AV.v (Value.bool false)) ([])))
          else (
           .done (AV.v (Value.bool false)) ([])))
         else (
          .done (AV.v (Value.bool false)) ([])))
        else (
         .done (AV.v (Value.bool false)) ([])))
       else (
        .done (AV.v (Value.bool false)) ([])))))
    else (
     .done (AV.v (Value.bool false)) ([])))) := by kernel_rfl
set_option maxHeartbeats 4000000 in
theorem law11_alive.c (k : Nat)  (r : Bool) (h : law11_alive.F k  = some r)  (w : World)  : Calls Try.prog 13 (AV.gs id []).toArray w fun e w' => e = .returned (((Sh.one : Sh).av (vs [Lf.b] (r, ()))).g id) ∧ Below w.heap.size w w' := by
  refine enter0 mixed law11_alive.A noC [] Try.func13 rfl rfl rfl (fun hF => ?_)
  rw [law11_alive.t]
  unfold law11_alive.F at h
  try dsimp only at h
  obtain ⟨r0, hr0, h⟩ := Option.bind_eq_some_iff.1 h
  obtain ⟨s0_0, v0_1⟩ := r0
  try dsimp only at h
  refine ok_callm rfl (fun L0 w0 g0 lt0 => ?_)
  refine (pint_Put.c k _ _ _ ([]) 224 5 1337 (s0_0, v0_1) hr0 rfl w0 SlR.nil).mono ?_
  rintro e w0' ⟨A0_0, c0_0, rfl, hb0, hO0_0⟩
  refine ⟨((A0_0, s0_0.length, c0_0), v0_1, ()), rfl, hb0, fun g0' => ?_⟩
  try dsimp only
  have hO0_0 := hO0_0.call (hF.trans g0).size lt0
  have hF := hF.trans g0'
  obtain ⟨r1, hr1, h⟩ := Option.bind_eq_some_iff.1 h
  obtain ⟨v1_0, v1_1, v1_2, v1_3, v1_4⟩ := r1
  try dsimp only at h
  refine ok_callm rfl (fun L1 w1 g1 lt1 => ?_)
  refine (pint_Get.c k _ _ _ s0_0 0 5 (v1_0, v1_1, v1_2, v1_3, v1_4) hr1 rfl w1 (hO0_0.later g1).sl.bare).mono ?_
  rintro e w1' ⟨rfl, hb1⟩
  refine ⟨(v1_0, v1_1, v1_2, v1_3, v1_4, ()), rfl, hb1, fun g1' => ?_⟩
  try dsimp only
  have hF := hF.trans g1'
  have hO0_0 := hO0_0.later g1'
  refine ok_if (fun hc2 => ?_) (fun hc2 => ?_)
  · have h := bif_t h hc2
    refine ok_lit (R := R22) (base := w.heap.size) (xs := ([(255), (154), (10)] : List Int)) #[Value.int IntKind.u8 255, Value.int IntKind.u8 154, Value.int IntKind.u8 10] E22 rfl (by decide) (by decide) ⟨_, _, rfl, rfl, by kernel_rfl⟩ rfl hF.size (fun A2 c2 L2 w2 hO2 g2 hbl2 => ?_)
    try dsimp only
    have dj_o3_o1 : Dj A2 A0_0 := Dj.new hbl2 hO0_0.lt
    have hF := hF.trans g2
    have hO0_0 := hO0_0.later g2
    obtain ⟨v3_0, hr3, h⟩ := Option.bind_eq_some_iff.1 h
    refine ok_callm rfl (fun L3 w3 g3 lt3 => ?_)
    refine (ref01_Same.c k _ _ _ s0_0 _ _ _ (([(255), (154), (10)] : List Int)) v3_0 hr3 rfl rfl w3 (hO0_0.later g3).sl.bare (hO2.later g3).sl.bare).mono ?_
    rintro e w3' ⟨rfl, hb3⟩
    refine ⟨(v3_0, ()), rfl, hb3, fun g3' => ?_⟩
    try dsimp only
    have hF := hF.trans g3'
    have hO0_0 := hO0_0.later g3'
    have hO2 := hO2.later g3'
    refine ok_if (fun hc4 => ?_) (fun hc4 => ?_)
    · have h := bif_t h hc4
      refine ok_if (fun hc5 => ?_) (fun hc5 => ?_)
      · have h := bif_t h hc5
        refine ok_if (fun hc6 => ?_) (fun hc6 => ?_)
        · have h := bif_t h hc6
          refine ok_if (fun hc7 => ?_) (fun hc7 => ?_)
          · have h := bif_t h hc7
            refine ok_if (fun hc8 => ?_) (fun hc8 => ?_)
            · have h := bif_t h hc8
              obtain ⟨v4_0, hr4, h⟩ := Option.bind_eq_some_iff.1 h
              refine ok_callm rfl (fun L4 w4 g4 lt4 => ?_)
              refine (pint_Size.c k 5 10 v4_0 hr4  w4 ).mono ?_
              rintro e w4' ⟨rfl, hb4⟩
              refine ⟨(v4_0, ()), rfl, hb4, fun g4' => ?_⟩
              try dsimp only
              have hF := hF.trans g4'
              have hO0_0 := hO0_0.later g4'
              have hO2 := hO2.later g4'
              refine ok_if (fun hc9 => ?_) (fun hc9 => ?_)
              · have h := bif_t h hc9
                obtain rfl := Option.some.inj h
                intro ρ L w' _ he _ _
                exact ⟨rfl, (hF.ext he).below⟩
              · have h := bif_f h hc9
                obtain rfl := Option.some.inj h
                intro ρ L w' _ he _ _
                exact ⟨rfl, (hF.ext he).below⟩
            · have h := bif_f h hc8
              obtain rfl := Option.some.inj h
              intro ρ L w' _ he _ _
              exact ⟨rfl, (hF.ext he).below⟩
          · have h := bif_f h hc7
            obtain rfl := Option.some.inj h
            intro ρ L w' _ he _ _
            exact ⟨rfl, (hF.ext he).below⟩
        · have h := bif_f h hc6
          obtain rfl := Option.some.inj h
          intro ρ L w' _ he _ _
          exact ⟨rfl, (hF.ext he).below⟩
      · have h := bif_f h hc5
        obtain rfl := Option.some.inj h
        intro ρ L w' _ he _ _
        exact ⟨rfl, (hF.ext he).below⟩
    · have h := bif_f h hc4
      obtain rfl := Option.some.inj h
      intro ρ L w' _ he _ _
      exact ⟨rfl, (hF.ext he).below⟩
  · have h := bif_f h hc2
    obtain rfl := Option.some.inj h
    intro ρ L w' _ he _ _
    exact ⟨rfl, (hF.ext he).below⟩
/-! ### turnbuckle/turnbucklelaw11.PintBack: function 4 -/
def law11_PintBack.F (k : Nat) (l0 : List Int) (l1 : List Int) (a2_0 : Int) (a2_1 : Int) (a2_2 : Int) : Option Bool := (pint_Put.F k l0 a2_0 a2_1 a2_2).bind fun (s0_0, v0_1) => bif v0_1 != 0 then (bif ((s0_0.length : Nat) : Int) == 0 then ((law11_alive.F k ).bind fun v1_0 => bif v1_0 then (some true) else (some false)) else (some false)) else (bif decide (((([] : List Int)).length + s0_0.length) * 1 ≤ 140737488355328) then (bif decide ((((([] : List Int) ++ s0_0)).length + l1.length) * 1 ≤ 140737488355328) then ((pint_Get.F k (((([] : List Int) ++ s0_0) ++ l1)) (((l0.length : Nat) : Int)) a2_1).bind fun (v3_0, v3_1, v3_2, v3_3, v3_4) => bif v3_0 == a2_0 then (bif v3_1 == a2_2 then (bif v3_2 == ((s0_0.length : Nat) : Int) then (bif v3_3 == 0 && (v3_4 == 0 && true) then ((pint_Size.F k a2_1 a2_2).bind fun v4_0 => bif IntKind.wrap IntKind.i64 (((s0_0.length : Nat) : Int) - ((l0.length : Nat) : Int)) == v4_0 then ((law11_alive.F k ).bind fun v5_0 => bif v5_0 then (some true) else (some false)) else (some false)) else (some false)) else (some false)) else (some false)) else (some false)) else none) else none)
abbrev law11_PintBack.A : Nat → LA := noA
set_option maxHeartbeats 4000000 in
theorem law11_PintBack.t (A0 : Option Addr) (n0 c0 : Nat) (A1 : Option Addr) (n1 c1 : Nat) (a2_0 : Int) (a2_1 : Int) (a2_2 : Int) : tree Try.prog law11_PintBack.A noC Try.f4 [AV.v (Value.slice A0 n0 c0), AV.v (Value.slice A1 n1 c1), AV.agg [AV.v (Value.int IntKind.i64 a2_0), AV.v (Value.int IntKind.i64 a2_1), AV.v (Value.int IntKind.i64 a2_2)]] [] =
  .call 8 ([AV.v (Value.slice A0 n0 c0), AV.v (Value.int IntKind.i64 a2_0), AV.v (Value.int IntKind.i64 a2_1), AV.v (Value.int IntKind.i64 a2_2)]) ([]) (Sh.tup [(false, 1), (false, 1)]) ([Lf.sl, Lf.i IntKind.i64]) ([]) (fun x0 =>
   bif x0.2.1 != 0 then (
    bif ((x0.1.2.1 : Nat) : Int) == 0 then (
     .call 13 ([]) ([]) (Sh.one) ([Lf.b]) ([]) (fun x1 =>
      bif x1.1 then (
       .done (AV.v (Value.bool true)) ([]))
      else (
       .done (AV.v (Value.bool false)) ([]))))
    else (
     .done (AV.v (Value.bool false)) ([])))
   else (
    .sem (Builtin.append_ { toList := [22, 22] } 22 { toList := [Value.slice none 0 0, Value.slice x0.1.1 x0.1.2.1 x0.1.2.2] }) ([Lf.sl]) (Sh.one) (fun x1 =>
     .sem (Builtin.append_ { toList := [22, 22] } 22 { toList := [Value.slice x1.1.1 x1.1.2.1 x1.1.2.2, Value.slice A1 n1 c1] }) ([Lf.sl]) (Sh.one) (fun x2 =>
      .call 14 ([AV.v (Value.slice x2.1.1 x2.1.2.1 x2.1.2.2), AV.v (Value.int IntKind.i64 ((n0 : Nat) : Int)), AV.v (Value.int IntKind.i64 a2_1)]) ([]) (Sh.tup [(false, 1), (false, 1), (false, 1), (true, 2)]) ([Lf.i IntKind.i64, Lf.i IntKind.i64, Lf.i IntKind.i64, Lf.i IntKind.i64, Lf.i IntKind.i64]) ([]) (fun x3 =>
       bif x3.1 == a2_0 then (
        bif x3.2.1 == a2_2 then (
         bif x3.2.2.1 == ((x0.1.2.1 : Nat) : Int) then (
          bif x3.2.2.2.1 == 0 && (x3.2.2.2.2.1 == 0 && true) then (
           .call 11 ([AV.v (Value.int IntKind.i64 a2_1), AV.v (Value.int IntKind.i64 a2_2)]) ([]) (Sh.one) ([Lf.i IntKind.i64]) ([]) (fun x4 =>
            bif IntKind.wrap IntKind.i64 (((x0.1.2.1 : Nat) : Int) - ((n0 : Nat) : Int)) == x4.1 then (
             .call 13 ([]) ([]) (Sh.one) ([Lf.b]) ([]) (fun x5 =>
              bif x5.1 then (
               .done (AV.v (Value.bool true)) ([]))
              else (
               .done (AV.v (Value.bool false)) ([]))))
            else (
             .done (AV.v (Value.bool false)) ([]))))
          else (
           .done (AV.v (Value.bool false)) ([])))
         else (
          .done (AV.v (Value.bool false)) ([])))
        else (
         .done (AV.v (Value.bool false)) ([])))
       else (
        .done (AV.v (Value.bool false)) ([]))))))) := by kernel_rfl
set_option maxHeartbeats 4000000 in
theorem law11_PintBack.c (k : Nat) (A0 : Option Addr) (n0 c0 : Nat) (l0 : List Int) (A1 : Option Addr) (n1 c1 : Nat) (l1 : List Int) (a2_0 : Int) (a2_1 : Int) (a2_2 : Int) (r : Bool) (h : law11_PintBack.F k l0 l1 a2_0 a2_1 a2_2 = some r) (hn0 : n0 = l0.length) (hn1 : n1 = l1.length) (w : World) (hS0 : SlR R22.row (fun _ => False) w A0 c0 l0) (hS1 : SlR R22.row (fun _ => False) w A1 c1 l1) : Calls Try.prog 4 (AV.gs id [AV.v (Value.slice A0 n0 c0), AV.v (Value.slice A1 n1 c1), AV.agg [AV.v (Value.int IntKind.i64 a2_0), AV.v (Value.int IntKind.i64 a2_1), AV.v (Value.int IntKind.i64 a2_2)]]).toArray w fun e w' => e = .returned (((Sh.one : Sh).av (vs [Lf.b] (r, ()))).g id) ∧ Below w.heap.size w w' := by
  subst hn0
  subst hn1
  refine enter0 mixed law11_PintBack.A noC [AV.v (Value.slice A0 l0.length c0), AV.v (Value.slice A1 l1.length c1), AV.agg [AV.v (Value.int IntKind.i64 a2_0), AV.v (Value.int IntKind.i64 a2_1), AV.v (Value.int IntKind.i64 a2_2)]] Try.func4 rfl rfl rfl (fun hF => ?_)
  rw [law11_PintBack.t]
  unfold law11_PintBack.F at h
  try dsimp only at h
  obtain ⟨r0, hr0, h⟩ := Option.bind_eq_some_iff.1 h
  obtain ⟨s0_0, v0_1⟩ := r0
  try dsimp only at h
  refine ok_callm rfl (fun L0 w0 g0 lt0 => ?_)
  refine (pint_Put.c k _ _ _ l0 a2_0 a2_1 a2_2 (s0_0, v0_1) hr0 rfl w0 (hS0.later (hF.trans g0)).bare).mono ?_
  rintro e w0' ⟨A0_0, c0_0, rfl, hb0, hO0_0⟩
  refine ⟨((A0_0, s0_0.length, c0_0), v0_1, ()), rfl, hb0, fun g0' => ?_⟩
  try dsimp only
  have hO0_0 := hO0_0.call (hF.trans g0).size lt0
  have hF := hF.trans g0'
  refine ok_if (fun hc2 => ?_) (fun hc2 => ?_)
  · have h := bif_t h hc2
    refine ok_if (fun hc3 => ?_) (fun hc3 => ?_)
    · have h := bif_t h hc3
      obtain ⟨v1_0, hr1, h⟩ := Option.bind_eq_some_iff.1 h
      refine ok_callm rfl (fun L1 w1 g1 lt1 => ?_)
      refine (law11_alive.c k  v1_0 hr1  w1 ).mono ?_
      rintro e w1' ⟨rfl, hb1⟩
      refine ⟨(v1_0, ()), rfl, hb1, fun g1' => ?_⟩
      try dsimp only
      have hF := hF.trans g1'
      have hO0_0 := hO0_0.later g1'
      refine ok_if (fun hc4 => ?_) (fun hc4 => ?_)
      · have h := bif_t h hc4
        obtain rfl := Option.some.inj h
        intro ρ L w' _ he _ _
        exact ⟨rfl, (hF.ext he).below⟩
      · have h := bif_f h hc4
        obtain rfl := Option.some.inj h
        intro ρ L w' _ he _ _
        exact ⟨rfl, (hF.ext he).below⟩
    · have h := bif_f h hc3
      obtain rfl := Option.some.inj h
      intro ρ L w' _ he _ _
      exact ⟨rfl, (hF.ext he).below⟩
  · have h := bif_f h hc2
    obtain ⟨hq5, h⟩ := bif_need h
    have hq5 := of_decide_eq_true hq5
    refine ok_app (R := R22) (base := w.heap.size) (xs := ([] : List Int)) (ys := s0_0) rfl rfl E22 (OwnF.nil _ _ _ _ _) hO0_0.sl (by decide) hq5 hF.size (fun A1 c1 L1 w1 hO1 g1 hid1 hbl1 => ?_)
    try dsimp only
    have dj_o6_o1 : Dj A1 A0_0 := Dj.grow Dj.nil2 hbl1 hO0_0.lt
    have hO0_0 := hO0_0.other Dj.nil g1
    have hF := Fine.own hF g1 (fun b hb => by obtain ⟨_, hb, _⟩ := hb; cases hb) hid1
    obtain ⟨hq7, h⟩ := bif_need h
    have hq7 := of_decide_eq_true hq7
    refine ok_app (R := R22) (base := w.heap.size) (xs := (([] : List Int) ++ s0_0)) (ys := l1) rfl rfl E22 hO1 (hS1.later hF) (by decide) hq7 hF.size (fun A2 c2 L2 w2 hO2 g2 hid2 hbl2 => ?_)
    try dsimp only
    have dj_o8_o1 : Dj A2 A0_0 := Dj.grow dj_o6_o1 hbl2 hO0_0.lt
    have hO0_0 := hO0_0.other (Dj.symm dj_o6_o1) g2
    have hF := Fine.own hF g2 (fun b hb => Or.inr (Own.base hO1 hb)) hid2
    obtain ⟨r3, hr3, h⟩ := Option.bind_eq_some_iff.1 h
    obtain ⟨v3_0, v3_1, v3_2, v3_3, v3_4⟩ := r3
    try dsimp only at h
    refine ok_callm rfl (fun L3 w3 g3 lt3 => ?_)
    refine (pint_Get.c k _ _ _ (((([] : List Int) ++ s0_0) ++ l1)) (((l0.length : Nat) : Int)) a2_1 (v3_0, v3_1, v3_2, v3_3, v3_4) hr3 rfl w3 (hO2.later g3).sl.bare).mono ?_
    rintro e w3' ⟨rfl, hb3⟩
    refine ⟨(v3_0, v3_1, v3_2, v3_3, v3_4, ()), rfl, hb3, fun g3' => ?_⟩
    try dsimp only
    have hF := hF.trans g3'
    have hO0_0 := hO0_0.later g3'
    have hO2 := hO2.later g3'
    refine ok_if (fun hc9 => ?_) (fun hc9 => ?_)
    · have h := bif_t h hc9
      refine ok_if (fun hc10 => ?_) (fun hc10 => ?_)
      · have h := bif_t h hc10
        refine ok_if (fun hc11 => ?_) (fun hc11 => ?_)
        · have h := bif_t h hc11
          refine ok_if (fun hc12 => ?_) (fun hc12 => ?_)
          · have h := bif_t h hc12
            obtain ⟨v4_0, hr4, h⟩ := Option.bind_eq_some_iff.1 h
            refine ok_callm rfl (fun L4 w4 g4 lt4 => ?_)
            refine (pint_Size.c k a2_1 a2_2 v4_0 hr4  w4 ).mono ?_
            rintro e w4' ⟨rfl, hb4⟩
            refine ⟨(v4_0, ()), rfl, hb4, fun g4' => ?_⟩
            try dsimp only
            have hF := hF.trans g4'
            have hO0_0 := hO0_0.later g4'
            have hO2 := hO2.later g4'
            refine ok_if (fun hc13 => ?_) (fun hc13 => ?_)
            · have h := bif_t h hc13
              obtain ⟨v5_0, hr5, h⟩ := Option.bind_eq_some_iff.1 h
              refine ok_callm rfl (fun L5 w5 g5 lt5 => ?_)
              refine (law11_alive.c k  v5_0 hr5  w5 ).mono ?_
              rintro e w5' ⟨rfl, hb5⟩
              refine ⟨(v5_0, ()), rfl, hb5, fun g5' => ?_⟩
              try dsimp only
              have hF := hF.trans g5'
              have hO0_0 := hO0_0.later g5'
              have hO2 := hO2.later g5'
              refine ok_if (fun hc14 => ?_) (fun hc14 => ?_)
              · have h := bif_t h hc14
                obtain rfl := Option.some.inj h
                intro ρ L w' _ he _ _
                exact ⟨rfl, (hF.ext he).below⟩
              · have h := bif_f h hc14
                obtain rfl := Option.some.inj h
                intro ρ L w' _ he _ _
                exact ⟨rfl, (hF.ext he).below⟩
            · have h := bif_f h hc13
              obtain rfl := Option.some.inj h
              intro ρ L w' _ he _ _
              exact ⟨rfl, (hF.ext he).below⟩
          · have h := bif_f h hc12
            obtain rfl := Option.some.inj h
            intro ρ L w' _ he _ _
            exact ⟨rfl, (hF.ext he).below⟩
        · have h := bif_f h hc11
          obtain rfl := Option.some.inj h
          intro ρ L w' _ he _ _
          exact ⟨rfl, (hF.ext he).below⟩
      · have h := bif_f h hc10
        obtain rfl := Option.some.inj h
        intro ρ L w' _ he _ _
        exact ⟨rfl, (hF.ext he).below⟩
    · have h := bif_f h hc9
      obtain rfl := Option.some.inj h
      intro ρ L w' _ he _ _
      exact ⟨rfl, (hF.ext he).below⟩
end Go.Proofs.Ytpdijecmblgmgaa.X
