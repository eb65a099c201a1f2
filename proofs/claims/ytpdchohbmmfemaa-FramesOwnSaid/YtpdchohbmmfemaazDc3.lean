import Derived.Test.YtpdchohbmmfemaazDc2
namespace Go.Proofs.Ytpdchohbmmfemaa.X
open Go Go.RowKit Go.Proofs.YtpdchohbmmfemaaW.Rx
set_option linter.unusedVariables false
set_option linter.unusedSimpArgs false
set_option maxRecDepth 10000
noncomputable def c11 : Code := match Try.f11.body with
 | some (.seq _ (.seq _ (.seq _ y))) => y
 | _ => .skip
noncomputable def args11 (A0 : Option Addr) (n0 c0 : Nat) (Al Af : Option Addr) : List AV := [AV.v (.slice A0 n0 c0), AV.v undef, AV.v (.pointer Al), AV.v (.pointer Af), AV.v undef, AV.v (.slice A0 n0 c0), AV.v (.int .i64 (n0 : Int)), AV.v (.bool false), AV.v undef, AV.v (.func (.func 24) #[] #[.pointer Al, .pointer Af])]
set_option maxHeartbeats 4000000 in
theorem c11_t (A0 : Option Addr) (n0 c0 : Nat) (Al Af : Option Addr) : X Try.prog ⟨35, 4⟩ noA noC (codeKeys c11) [] (drawX Try.prog ⟨35, 4⟩) c11 0 (startX (args11 A0 n0 c0 Al Af) 35 []) (fun e _ => endX e) =
  .sem (Instr.box 52 (Value.agg { toList := [Value.slice A0 n0 c0, Value.int IntKind.i64 0] })) ([Lf.p]) (Sh.one) (fun x0 =>
   .loop ([]) (PUnit.unit) 0 (fun x1 =>
    .need (Option.isSome x0.1) (
    .need (Option.isSome x0.1) (
    .ld (Option.map (fun x => Addr.add x 1) x0.1) ([Lf.i .i64]) (fun x2 =>
     bif decide (x2.1 < ((n0 : Nat) : Int)) then (
      .ld (Al) ([Lf.sl]) (fun x3 =>
       bif decide (((x3.1.2.1 : Nat) : Int) < 64) then (
        .need (Option.isSome x0.1) (
        .need (Option.isSome x0.1) (
        .ld (Option.map (fun x => Addr.add x 1) x0.1) ([Lf.i .i64]) (fun x4 =>
         .call 25 ([AV.v (Value.bool true), AV.v (.int .i64 6), AV.v (.int .i64 x4.1)]) ([]) (Sh.tup []) ([]) ([]) (fun x5 =>
          .ld (Al) ([Lf.sl]) (fun x6 =>
           .call 26 ([AV.v (Value.pointer x0.1)]) ([]) (Sh.agg 8) ([Lf.i .i64, Lf.i .i64, Lf.i .i64, Lf.i .i64, Lf.i .i64, Lf.b, Lf.sl, Lf.sl]) ([]) (fun x7 =>
            .keep (Al) ([AV.v (Value.slice x6.1.1 x6.1.2.1 x6.1.2.2)]) (
            .sem (Instr.buildSlice 22 1 { toList := [(0, Value.agg { toList := [Value.int IntKind.i64 x7.1, Value.int IntKind.i64 x7.2.1, Value.int IntKind.i64 x7.2.2.1, Value.int IntKind.i64 x7.2.2.2.1, Value.int IntKind.i64 x7.2.2.2.2.1, Value.bool x7.2.2.2.2.2.1, Value.slice x7.2.2.2.2.2.2.1.1 x7.2.2.2.2.2.2.1.2.1 x7.2.2.2.2.2.2.1.2.2, Value.slice x7.2.2.2.2.2.2.2.1.1 x7.2.2.2.2.2.2.2.1.2.1 x7.2.2.2.2.2.2.2.1.2.2] })] }) ([Lf.sl]) (Sh.one) (fun x8 =>
             .keep (Al) ([AV.v (Value.slice x6.1.1 x6.1.2.1 x6.1.2.2)]) (
             .sem (Builtin.append_ { toList := [22, 22] } 22 { toList := [Value.slice x6.1.1 x6.1.2.1 x6.1.2.2, Value.slice x8.1.1 x8.1.2.1 x8.1.2.2] }) ([Lf.sl]) (Sh.one) (fun x9 =>
              .sto (Al) ([AV.v (Value.slice x9.1.1 x9.1.2.1 x9.1.2.2)]) ([]) (
              .again 0 ([]) (PUnit.unit)))))))))))))
       else (
        .need (Option.isSome x0.1) (
        .need (Option.isSome x0.1) (
        .ld (Option.map (fun x => Addr.add x 1) x0.1) ([Lf.i .i64]) (fun x4 =>
         .call 25 ([AV.v (Value.bool false), AV.v (.int .i64 6), AV.v (.int .i64 x4.1)]) ([]) (Sh.tup []) ([]) ([]) (fun x5 =>
          .ld (Al) ([Lf.sl]) (fun x6 =>
           .call 26 ([AV.v (Value.pointer x0.1)]) ([]) (Sh.agg 8) ([Lf.i .i64, Lf.i .i64, Lf.i .i64, Lf.i .i64, Lf.i .i64, Lf.b, Lf.sl, Lf.sl]) ([]) (fun x7 =>
            .keep (Al) ([AV.v (Value.slice x6.1.1 x6.1.2.1 x6.1.2.2)]) (
            .sem (Instr.buildSlice 22 1 { toList := [(0, Value.agg { toList := [Value.int IntKind.i64 x7.1, Value.int IntKind.i64 x7.2.1, Value.int IntKind.i64 x7.2.2.1, Value.int IntKind.i64 x7.2.2.2.1, Value.int IntKind.i64 x7.2.2.2.2.1, Value.bool x7.2.2.2.2.2.1, Value.slice x7.2.2.2.2.2.2.1.1 x7.2.2.2.2.2.2.1.2.1 x7.2.2.2.2.2.2.1.2.2, Value.slice x7.2.2.2.2.2.2.2.1.1 x7.2.2.2.2.2.2.2.1.2.1 x7.2.2.2.2.2.2.2.1.2.2] })] }) ([Lf.sl]) (Sh.one) (fun x8 =>
             .keep (Al) ([AV.v (Value.slice x6.1.1 x6.1.2.1 x6.1.2.2)]) (
             .sem (Builtin.append_ { toList := [22, 22] } 22 { toList := [Value.slice x6.1.1 x6.1.2.1 x6.1.2.2, Value.slice x8.1.1 x8.1.2.1 x8.1.2.2] }) ([Lf.sl]) (Sh.one) (fun x9 =>
              .sto (Al) ([AV.v (Value.slice x9.1.1 x9.1.2.1 x9.1.2.2)]) ([]) (
              .again 0 ([]) (PUnit.unit)))))))))))))))
     else (
      .ld (Al) ([Lf.sl]) (fun x3 =>
       .ld (Af) ([Lf.i .i64, Lf.i .i64]) (fun x4 =>
        .sto (Al) ([AV.v (Value.slice x3.1.1 x3.1.2.1 x3.1.2.2)]) ([]) (
        .keep (Af) ([AV.v (.int .i64 x4.1), AV.v (.int .i64 x4.2.1)]) (
        .sto (Af) ([AV.v (.int .i64 x4.1), AV.v (.int .i64 x4.2.1)]) ([]) (
        .done (AV.tup []) ([])))))))))))) := by kernel_rfl
def DecR (w3 : World) (al af : Addr) (o : Except (Int × Int) (List Fr)) (e : Ending) (w' : World) : Prop := match o with
 | .ok xs => e = .returned (.tuple #[]) ∧ ∃ (A : Option Addr) (c : Nat) (ys : List FrR), OwnO 0 (fun _ => False) w' 22 RSl (some al) 1 [(A, xs.length, c)] ∧ OwnO 0 (fun _ => False) w' 29 R34 (some af) 1 [(0, 0)] ∧ OwnF w3.heap.size (fun b => b < w3.heap.size) w' 36 RF A c ys ∧ Nests w3.heap.size (fun b => b < w3.heap.size) w' xs ys ∧ Sep ys ∧ Fine (fun b => b = al.block ∨ b = af.block) w3 (fun b => b = al.block ∨ b = af.block) w'
 | .error z => e = .panicked [{ v := .iface 48 (.agg #[.int .i64 z.1, .int .i64 z.2]), recovered := false }] ∧ ∃ x y, OwnO 0 (fun _ => False) w' 22 RSl (some al) 1 [x] ∧ OwnO 0 (fun _ => False) w' 29 R34 (some af) 1 [y] ∧ Fine (fun b => b = al.block ∨ b = af.block) w3 (fun b => b = al.block ∨ b = af.block) w'
set_option maxHeartbeats 8000000 in
theorem c11_ok (k : Nat) (al af : Addr) (A0 : Option Addr) (c0 : Nat) (l0 : List Int) (w3 : World) (o : Except (Int × Int) (List Fr)) (h : iter (dec.s k) k ([], (l0, 0)) = some o) (hS : SlR R23.row (fun b => b = al.block ∨ b = af.block) w3 A0 c0 l0)
  (hl : OwnO 0 (fun _ => False) w3 22 RSl (some al) 1 [(none, 0, 0)]) (hf : OwnO 0 (fun _ => False) w3 29 R34 (some af) 1 [(0, 0)]) (hne : al.block ≠ af.block) :
  (X Try.prog ⟨35, 4⟩ noA noC (codeKeys c11) [] (drawX Try.prog ⟨35, 4⟩) c11 0 (startX (args11 A0 l0.length c0 (some al) (some af)) 35 []) (fun e _ => endX e)).ok Try.prog [] (DecR w3 al af o) noJ (fun _ => False) w3 := by
 rw [c11_t]
 have hbl : al.block < w3.heap.size := (hl.lt al.block ⟨al, rfl, rfl⟩).1
 have hbf : af.block < w3.heap.size := (hf.lt af.block ⟨af, rfl, rfl⟩).1
 have hF0 : Fine (fun b => b = al.block ∨ b = af.block) w3 (fun _ => False) w3 := ⟨rfl, rfl, rfl, Nat.le_refl _, fun _ _ _ => rfl, fun b h => h.elim⟩
 have hlf : Dj (some al) (some af) := dj_ne hne
 refine ok_boxW (R := RW52) (x := ((A0, l0.length, c0), (0 : Int))) rfl (fun a L1 w1 hr g1 lt1 hnew => ?_)
 try dsimp only
 have hA : a.isSome = true := hr.sl.some (by simp)
 have hla : Dj (some al) a := fun b ⟨x, hx, h1⟩ h2 => by cases hx; have := hnew b h2; omega
 have hfa : Dj (some af) a := fun b ⟨x, hx, h1⟩ h2 => by cases hx; have := hnew b h2; omega
 have hBm : ∀ b, f0_frame.S a b → (b = al.block ∨ b = af.block) ∨ w3.heap.size ≤ b := fun b hb => Or.inr (hnew b hb)
 have hlS : ∀ b, blk (some al, 0, 0) b → (b = al.block ∨ b = af.block) ∨ w3.heap.size ≤ b := fun b ⟨x, hx, h1⟩ => by cases hx; exact Or.inl (Or.inl h1.symm)
 have hfS : ∀ b, blk (some af, 0, 0) b → (b = al.block ∨ b = af.block) ∨ w3.heap.size ≤ b := fun b ⟨x, hx, h1⟩ => by cases hx; exact Or.inl (Or.inr h1.symm)
 obtain ⟨I, hI⟩ : ∃ I : Nat → Tup [] → (Nat → Prop) → World → Prop, I = (fun m y L w' => ∃ (xs : List Fr) (p : Int) (A : Option Addr) (c : Nat) (ys : List FrR) (K : Nat → Prop), y = () ∧ iter (dec.s k) m (xs, (l0, p)) = some o ∧ Dw w3 al af a l0 A0 c0 L w' xs p A c ys K) := ⟨_, rfl⟩
 refine ok_loop I k (by
  rw [hI]
  exact ⟨[], 0, none, 0, [], fun b => L1 b ∨ b = al.block ∨ b = af.block ∨ blk (a, 0, 0) b, rfl, h, ⟨hF0.trans g1, hl.later g1, hf.later g1, hr.mono0, OwnF.nil _ _ _ _ _, trivial, Dj.nil, fun b hb => Or.inl hb, Or.inr (Or.inl rfl), Or.inr (Or.inr (Or.inl rfl)), fun b hb => Or.inr (Or.inr (Or.inr hb)), fun b ⟨_, hb, _⟩ => (by cases hb), ⟨fun y hy => (by cases hy), .nil⟩⟩⟩) ?_
 clear h
 intro m y L w hy
 rw [hI] at hy
 obtain ⟨xs, p, A, c, ys, K, rfl, h, D⟩ := hy
 obtain ⟨m', o', rfl, h, hl', hr'⟩ := iter_some h
 unfold dec.s at h
 dsimp only at h
 refine ok_need hA (ok_need hA ?_)
 refine ok_ob 1 D.hr.sl (Fine.refl _ _) (fun cs hcs => ⟨p, by rw [hcs]; rfl, ?_⟩)
 try dsimp only
 refine ok_if (fun hc => ?_) (fun hc => ?_)
 ·have h := bif_t h hc
  refine ok_obz (lf := .sl) D.hl.sl (Fine.refl _ _) (fun cs hcs => ⟨(A, xs.length, c), by rw [hcs]; rfl, ?_⟩)
  try dsimp only
  refine ok_if (fun hc2 => ?_) (fun hc2 => ?_)
  ·have h := bif_t h hc2
   have h64 : (xs.length : Int) < 64 := of_decide_eq_true hc2
   refine ok_need hA (ok_need hA ?_)
   refine ok_ob 1 D.hr.sl (Fine.refl _ _) (fun cs hcs => ⟨p, by rw [hcs]; rfl, ?_⟩)
   try dsimp only
   refine ok_callm rfl (fun L2 w2 g2 lt2 => ?_)
   refine (frames_needs.c k true 6 p (.ok ()) rfl w2).mono ?_
   rintro e w2' ⟨rfl, hb⟩
   refine ⟨(), rfl, hb, fun g2' => ?_⟩
   try dsimp only
   obtain ⟨K2, D, hK2⟩ := D.step g2'
   refine ok_obz (lf := .sl) D.hl.sl (Fine.refl _ _) (fun cs hcs => ⟨(A, xs.length, c), by rw [hcs]; rfl, ?_⟩)
   try dsimp only
   obtain ⟨r, hr, h⟩ := bse h
   cases r with
   | error z =>
    dsimp only at h
    obtain rfl := Option.some.inj h
    obtain rfl := hr' _ rfl
    refine ok_callp rfl (fun L3 w3' g3 lt3 => ?_)
    refine (f0_frame.c k a (l0, p) A0 c0 (.error z) hr w3' (D.hr.later g3).bare' (hS.later ((D.hF.trans g3).with hBm))).mono ?_
    rintro e w4 ⟨rfl, hf4⟩
    exact ⟨_, rfl, rfl, _, _, (((D.hl.later g3).vis (L' := f0_frame.S a) hla).later hf4).bare', (((D.hf.later g3).vis (L' := f0_frame.S a) hfa).later hf4).bare', (D.hF.trans g3).past hf4 hBm⟩
   | ok r =>
    dsimp only at h
    obtain rfl := Option.some.inj h
    have h := hl' _ rfl
    refine ok_callo (f0_frame.S a) rfl (fun b hb => ⟨(D.hr.lt b hb).2.1, D.hr.lt1 b hb⟩) (fun L3 w3' g3 lt3 => ?_)
    refine (f0_frame.c k a (l0, p) A0 c0 (.ok r) hr w3' (D.hr.later g3).bare' (hS.later ((D.hF.trans g3).with hBm))).mono ?_
    rintro e w4 ⟨B6, d6, B7, d7, rfl, hf4, hr4, hD6, hD7, hd67, hq⟩
    refine ⟨(r.1, r.2.1, r.2.2.1, r.2.2.2.1, r.2.2.2.2.1, r.2.2.2.2.2.1, (B6, r.2.2.2.2.2.2.1.length, d6), (B7, r.2.2.2.2.2.2.2.1.length, d7), ()), rfl, hf4, fun g4 hid4 hv4 => ?_⟩
    try dsimp only
    obtain ⟨x, hx⟩ : ∃ x : Fr, x = (r.1, r.2.1, r.2.2.1, r.2.2.2.1, r.2.2.2.2.1, r.2.2.2.2.2.1, r.2.2.2.2.2.2.1, r.2.2.2.2.2.2.2.1) := ⟨_, rfl⟩
    obtain ⟨y, hy⟩ : ∃ y : FrR, y = (r.1, r.2.1, r.2.2.1, r.2.2.2.1, r.2.2.2.2.1, r.2.2.2.2.2.1, (B6, r.2.2.2.2.2.2.1.length, d6), (B7, r.2.2.2.2.2.2.2.1.length, d7)) := ⟨_, rfl⟩
    rw [← hx] at h
    obtain ⟨q1, q2⟩ : ∃ q1, q1 = r.2.2.2.2.2.2.2.2.2 := ⟨_, rfl⟩
    have hq' : r.2.2.2.2.2.2.2.2 = (l0, q1) := by rw [q2]; exact Prod.ext hq rfl
    rw [hq'] at h hr4
    have hF4 := Fine.own D.hF g4 hBm hid4
    have hl4 := D.hl.others hla g4
    have hf4' := D.hf.others hfa g4
    have hr4' := hr4.vis (fun b hb => hv4 b (Or.inl hb))
    have hO4 := OwnF.others D.hO (fun b hb hb' => D.dj b hb' hb) g4
    have hsz : w2'.heap.size ≤ w3'.heap.size := g3.size
    obtain ⟨K3, hK3⟩ : ∃ K3 : Nat → Prop, K3 = fun b => (K2 b ∨ L3 b ∨ False) ∧ b < w3'.heap.size := ⟨_, rfl⟩
    have hN4 : Nests w3.heap.size K3 w4 xs ys := (D.hN.step (fine_up g4 hid4 D.LK D.Ka (E := fun _ => False) (fun _ h => h.elim))).vis (fun b hb => by rw [hK3] at hb; exact hb.1)
    have hLK4 : ∀ b, L3 b → K3 b := fun b hb => by rw [hK3]; exact ⟨Or.inr (Or.inl hb), lt3 b hb⟩
    have hKal4 : K3 al.block := by rw [hK3]; exact ⟨Or.inl D.Kal, Nat.lt_of_lt_of_le (D.hl.lt1 _ ⟨al, rfl, rfl⟩) hsz⟩
    have hKaf4 : K3 af.block := by rw [hK3]; exact ⟨Or.inl D.Kaf, Nat.lt_of_lt_of_le (D.hf.lt1 _ ⟨af, rfl, rfl⟩) hsz⟩
    have hKa4 : ∀ b, blk (a, 0, 0) b → K3 b := fun b hb => by rw [hK3]; exact ⟨Or.inl (D.Ka b hb), Nat.lt_of_lt_of_le (D.hr.lt1 b hb) hsz⟩
    have hKA4 : ∀ b, blk (A, 0, 0) b → K3 b := fun b hb => by rw [hK3]; exact ⟨Or.inl (D.KA b hb), Nat.lt_of_lt_of_le (OwnF.lt D.hO b hb) hsz⟩
    have hnx : Nest w3.heap.size K3 w4 x y := by
     have hb3 : w3.heap.size ≤ w3'.heap.size := (D.hF.trans g3).size
     refine ⟨B6, d6, B7, d7, by rw [hx, hy], ?_, ?_⟩
     ·rw [hx]
      exact (OwnF.vis hD6 (fun b hb hk => by rw [hK3] at hk; have := OwnF.fresh hD6 b hb; omega)).down hb3
     ·rw [hx]
      exact (OwnF.vis hD7 (fun b hb hk => by rw [hK3] at hk; have := OwnF.fresh hD7 b hb; omega)).down hb3
    have hNN4 := hN4.snoc hnx
    have hsep : Sep (ys ++ [y]) := by
     refine D.sep.snoc (n := w3'.heap.size) (fun z hz b hb => Nat.lt_of_lt_of_le (D.hN.lt z hz b hb) hsz) (fun b hb => ?_) ?_
     ·rw [hy] at hb
      exact hb.elim (OwnF.fresh hD6 b) (OwnF.fresh hD7 b)
     ·rw [hy]; exact Dj.symm hd67
    refine ok_keepR (R := RSl.row) hl4.sl (fun cs hcs => by rw [hcs]; rfl) ?_
    refine ok_lit (R := RF) (base := w3.heap.size) (xs := [y]) #[Value.int .i64 y.1, Value.int .i64 y.2.1, Value.int .i64 y.2.2.1, Value.int .i64 y.2.2.2.1, Value.int .i64 y.2.2.2.2.1, Value.bool y.2.2.2.2.2.1, Lf.V .sl y.2.2.2.2.2.2.1, Lf.V .sl y.2.2.2.2.2.2.2] E22 rfl (by decide) (by decide) ⟨_, _, rfl, rfl, by rw [hy]; kernel_rfl⟩ rfl hF4.size (fun A5 c5 L5 w5 hX g5 hbl5 => ?_)
    try dsimp only
    have hF5 := hF4.trans g5
    have hl5 := hl4.later g5
    have hf5 := hf4'.later g5
    have hr5 := hr4'.later g5
    have hO5 := OwnF.later hO4 g5
    have hNN5 := hNN4.step (fine_up (B := fun _ => False) (E := fun _ => False) (fine_or g5) g5.hid hLK4 (fun _ h => h.elim) (fun _ h => h.elim))
    refine ok_keepR (R := RSl.row) hl5.sl (fun cs hcs => by rw [hcs]; rfl) ?_
    have hyl : ys.length = xs.length := D.hN.length
    rw [← hyl]
    refine ok_app (R := RF) (base := w3.heap.size) (xs := ys) (ys := [y]) rfl rfl E22 hO5 hX.sl (by decide) (by rw [hyl]; simp only [List.length_cons, List.length_nil]; omega) hF5.size (fun A6 c6 L6 w6 hO6 g6 hid6 hbl6 => ?_)
    try dsimp only
    have hdA : ∀ b, blk (A, 0, 0) b → w3.heap.size ≤ b := fun b hb => Own.base hO5 hb
    have hlA : Dj (some al) A := fun b ⟨x, hx, h1⟩ h2 => by cases hx; have := hdA b h2; omega
    have hfA : Dj (some af) A := fun b ⟨x, hx, h1⟩ h2 => by cases hx; have := hdA b h2; omega
    have hF6 := Fine.own hF5 g6 (fun b hb => Or.inr (Own.base hO5 hb)) hid6
    have hl6 := hl5.other hlA g6
    have hf6 := hf5.other hfA g6
    have hr6 := hr5.other D.dj g6
    have hNN6 := hNN5.step (fine_up (E := blk (A6, 0, 0)) g6 hid6 (fun b hb => Or.inr (Or.inl hb)) (fun b hb => Or.inl (hKA4 b hb)) (fun b hb => (hbl6 b hb).imp (fun h => Or.inl (hKA4 b h)) id))
    have dj6 : Dj a A6 := Dj.symm (Dj.grow (Dj.symm D.dj) hbl6 hr5.lt1)
    refine ok_putz (R := RSl) (x' := (A6, (xs ++ [x]).length, c6)) (vs := [Value.slice A6 (ys ++ [y]).length c6]) hl6 (by rw [List.length_append, List.length_append, hyl]; rfl) (fun _ => rfl) (fun L7 w7 hl7 g7 hid7 => ?_)
    have hF7 := Fine.own hF6 g7 hlS hid7
    have hf7 := hf6.other (Dj.symm hlf) g7
    have hr7 := hr6.other (Dj.symm hla) g7
    have hlA6 : Dj A6 (some al) := fun b h1 ⟨x, hx, h2⟩ => by
     cases hx
     have := Own.base hO6 h1
     omega
    have hO7 := OwnF.other hO6 hlA6 g7
    have hNN7 := hNN6.step (fine_up (E := fun _ => False) g7 hid7 (fun b hb => Or.inr (Or.inl hb)) (fun b ⟨x, hx, hb⟩ => by cases hx; subst hb; exact Or.inl (Or.inl hKal4)) (fun _ h => h.elim))
    exact ok_again (I := I) m' (Nat.lt_succ_self _) (fun L' w' he => by
     rw [hI]
     have D7 : Dw w3 al af a l0 A0 c0 L7 w7 (xs ++ [x]) q1 A6 c6 (ys ++ [y]) _ := ⟨hF7, hl7, hf7, hr7, hO7, hNN7, dj6, fun b hb => Or.inr (Or.inl hb), Or.inl (Or.inl (Or.inl hKal4)), Or.inl (Or.inl (Or.inl hKaf4)), fun b hb => Or.inl (Or.inl (Or.inl (hKa4 b hb))), fun b hb => Or.inl (Or.inr (Or.inr hb)), hsep⟩
     obtain ⟨K8, D8, _⟩ := D7.step he.fine
     exact ⟨xs ++ [x], q1, A6, c6, ys ++ [y], K8, rfl, h, D8⟩)
  ·have h := bif_f h hc2
   obtain rfl := Option.some.inj h
   obtain rfl := hr' _ rfl
   refine ok_need hA (ok_need hA ?_)
   refine ok_ob 1 D.hr.sl (Fine.refl _ _) (fun cs hcs => ⟨p, by rw [hcs]; rfl, ?_⟩)
   try dsimp only
   refine ok_callp rfl (fun L2 w2 g2 lt2 => ?_)
   refine (frames_needs.c k false 6 p (.error (6, p)) rfl w2).mono ?_
   rintro e w2' ⟨rfl, hb⟩
   have g := (Fine.refl L2 w2).step hb
   exact ⟨_, rfl, rfl, _, _, ((D.hl.later g2).later g).bare', ((D.hf.later g2).later g).bare', ((D.hF.trans g2).step hb).with (fun b h => Or.inl h)⟩
 ·have h := bif_f h hc
  obtain rfl := Option.some.inj h
  obtain rfl := hr' _ rfl
  refine ok_obz (lf := .sl) D.hl.sl (Fine.refl _ _) (fun cs hcs => ⟨(A, xs.length, c), by rw [hcs]; rfl, ?_⟩)
  try dsimp only
  refine ok_getz D.hf.sl (Fine.refl _ _) (by simp) (fun cs hcs => ⟨(0, 0, ()), by rw [hcs]; rfl, ?_⟩)
  try dsimp only
  refine ok_putz (R := RSl) (x' := (A, xs.length, c)) (vs := [Value.slice A xs.length c]) D.hl rfl (fun _ => rfl) (fun L7 w7 hl7 g7 hid7 => ?_)
  have hF7 := Fine.own D.hF g7 hlS hid7
  have hf7 := D.hf.other (Dj.symm hlf) g7
  have hlA : Dj A (some al) := fun b h1 ⟨x, hx, h2⟩ => by
   cases hx
   have := Own.base D.hO h1
   omega
  have hO7 := OwnF.other D.hO hlA g7
  have hN7 := D.hN.step (fine_up (E := fun _ => False) g7 hid7 D.LK (fun b ⟨x, hx, hb⟩ => by cases hx; subst hb; exact D.Kal) (fun _ h => h.elim))
  refine ok_keepR (R := R34.row) hf7.sl (fun cs hcs => by rw [hcs]; rfl) ?_
  refine ok_putz (R := R34) (x' := (0, 0)) (vs := [Value.int .i64 0, Value.int .i64 0]) hf7 rfl (fun _ => rfl) (fun L8 w8 hf8 g8 hid8 => ?_)
  have hF8 := Fine.own hF7 g8 hfS hid8
  have hl8 := hl7.other hlf g8
  have hfA : Dj A (some af) := fun b h1 ⟨x, hx, h2⟩ => by
   cases hx
   have := Own.base D.hO h1
   omega
  have hO8 := OwnF.other hO7 hfA g8
  have hN8 := hN7.step (fine_up (E := fun _ => False) g8 hid8 (fun b hb => Or.inr (Or.inl hb)) (fun b ⟨x, hx, hb⟩ => by cases hx; subst hb; exact Or.inl D.Kaf) (fun _ h => h.elim))
  intro ρ L w' _ he _ _
  refine ⟨rfl, A, c, ys, (hl8.later he.fine).bare', (hf8.later he.fine).bare', (OwnF.later hO8 he.fine).ret, ?_, D.sep, (hF8.ext he).with (fun b h => Or.inl h)⟩
  exact (hN8.step (fine_up (B := fun _ => False) (E := fun _ => False) (fine_or he.fine) he.fine.hid (fun b hb => Or.inr (Or.inl hb)) (fun _ h => h.elim) (fun _ h => h.elim))).ret
end Go.Proofs.Ytpdchohbmmfemaa.X
