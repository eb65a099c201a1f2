import Derived.Test.YtpdchohbmmfemaazDc5
import Derived.Test.YtpdchohbmmfemaazRx34
namespace Go.Proofs.Ytpdchohbmmfemaa.X
open Go Go.RowKit Go.Proofs.YtpdchohbmmfemaaW.Rx
set_option linter.unusedVariables false
set_option linter.unusedSimpArgs false
set_option maxRecDepth 10000
noncomputable def c14 : Code := match Try.f14.body with
 | some (.seq _ (.seq _ (.seq _ y))) => y
 | _ => .skip
noncomputable def args14 (A0 : Option Addr) (n0 c0 : Nat) (Ar : Option Addr) : List AV := [AV.v (.slice A0 n0 c0), AV.v undef, AV.v (.slice none 0 0), AV.p 0 0, AV.v (.pointer Ar), AV.v undef, AV.v undef, AV.v (.slice A0 n0 c0), AV.v (.int .i64 (n0 : Int)), AV.v (.bool false), AV.v undef, AV.v (.slice A0 n0 c0), AV.agg [AV.v (.slice A0 n0 c0), AV.v (.int .i64 0), AV.v (.int .i64 0), AV.v (.int .i64 0)]]
abbrev A14 : Nat → LA := fun r => if r = 5 then ⟨[(5, false, [Lf.sl])], []⟩ else noA r
abbrev out14 : Out := [(0, [AV.v (.int .i64 0), AV.v (.int .i64 0)], 29)]
set_option maxHeartbeats 4000000 in
theorem c14_t (A0 : Option Addr) (n0 c0 : Nat) (Ar : Option Addr) : treeMid Try.prog A14 noC Try.f14 c14 (args14 A0 n0 c0 Ar) out14 =
  .loop ([Lf.sl]) (((none, 0, 0), PUnit.unit)) 0 (fun x0 =>
   .need (Option.isSome Ar) (
   .ld (Option.map (fun x => Addr.add x 1) Ar) ([Lf.i .i64]) (fun x1 =>
    bif decide (x1.1 < ((n0 : Nat) : Int)) then (
     bif ((x0.1.2.1 : Nat) : Int) == 64 then (
      .need (Option.isSome Ar) (
      .ld (Option.map (fun x => Addr.add x 1) Ar) ([Lf.i .i64]) (fun x2 =>
       .call 31 ([AV.v (Value.pointer Ar), AV.v (.int .i64 6), AV.v (.int .i64 x2.1)]) ([]) (Sh.tup []) ([]) ([]) (fun x3 =>
        .need (Option.isSome Ar) (
        .ld (Option.map (fun x => Addr.add x 2) Ar) ([Lf.i .i64, Lf.i .i64]) (fun x4 =>
         .done (AV.tup [AV.v (Value.slice none 0 0), AV.agg [AV.v (.int .i64 x4.1), AV.v (.int .i64 x4.2.1)]]) ([(0, [AV.v (.int .i64 x4.1), AV.v (.int .i64 x4.2.1)], 29)])))))))
     else (
      .call 32 ([AV.v (Value.pointer Ar)]) ([]) (Sh.agg 8) ([Lf.i .i64, Lf.i .i64, Lf.i .i64, Lf.i .i64, Lf.i .i64, Lf.b, Lf.sl, Lf.sl]) ([]) (fun x7 =>
       .call 33 ([AV.v (Value.pointer Ar)]) ([]) (Sh.one) ([Lf.b]) ([]) (fun x3 =>
        bif x3.1 then (
         .sem (Instr.buildSlice 22 1 { toList := [(0, Value.agg { toList := [Value.int IntKind.i64 x7.1, Value.int IntKind.i64 x7.2.1, Value.int IntKind.i64 x7.2.2.1, Value.int IntKind.i64 x7.2.2.2.1, Value.int IntKind.i64 x7.2.2.2.2.1, Value.bool x7.2.2.2.2.2.1, Value.slice x7.2.2.2.2.2.2.1.1 x7.2.2.2.2.2.2.1.2.1 x7.2.2.2.2.2.2.1.2.2, Value.slice x7.2.2.2.2.2.2.2.1.1 x7.2.2.2.2.2.2.2.1.2.1 x7.2.2.2.2.2.2.2.1.2.2] })] }) ([Lf.sl]) (Sh.one) (fun x8 =>
          .sem (Builtin.append_ { toList := [22, 22] } 22 { toList := [Value.slice x0.1.1 x0.1.2.1 x0.1.2.2, Value.slice x8.1.1 x8.1.2.1 x8.1.2.2] }) ([Lf.sl]) (Sh.one) (fun x9 =>
           .again 0 ([Lf.sl]) (((x9.1.1, x9.1.2.1, x9.1.2.2), PUnit.unit)))))
        else (
         .need (Option.isSome Ar) (
         .ld (Option.map (fun x => Addr.add x 2) Ar) ([Lf.i .i64, Lf.i .i64]) (fun x4 =>
          .done (AV.tup [AV.v (Value.slice none 0 0), AV.agg [AV.v (.int .i64 x4.1), AV.v (.int .i64 x4.2.1)]]) ([(0, [AV.v (.int .i64 x4.1), AV.v (.int .i64 x4.2.1)], 29)]))))))))
    else (
     .done (AV.tup [AV.v (Value.slice x0.1.1 x0.1.2.1 x0.1.2.2), AV.agg [AV.v (.int .i64 0), AV.v (.int .i64 0)]]) ([(0, [AV.v (.int .i64 0), AV.v (.int .i64 0)], 29)]))))) := by kernel_rfl
section
variable {α : Type} {P : Program} {Q : Ending → World → Prop} {pin : List (Nat × Nat)} {J : Jt} {S Lu : Nat → Prop} {w0 wu : World}
theorem ok_obs {R : Row α} {x : α} {a : Option Addr} {c : Nat} {ls : List Lf} {k : Tup ls → XT} (o : Nat) (h : SlR R S w0 a c [x]) (hF : Fine S w0 Lu wu) (hne : ls ≠ []) (hk : ∀ cs, R.rep S w0 x cs → ∃ y : Tup ls, (∀ j v, (Tup.V ls y)[j]? = some v → cs[o + j]? = some v) ∧ (k y).ok P pin Q J Lu wu) : (XT.ld (a.map (fun z => z.add o)) ls k).ok P pin Q J Lu wu := by
 obtain ⟨⟨cs, h1, h2⟩, h3⟩ := h
 obtain ⟨a', ha, hi⟩ := h2.get (j := 0) (x := x) rfl
 obtain ⟨y, hy, hk⟩ := hk a' ha
 refine ok_row o y (h1.later hF) hne (fun j v hv => ?_) hk
 have := hi (o + j) v (hy j v hv)
 simpa using this
end
def rdec.s (k : Nat) : (List Fr × (List Int × Int × Int × Int)) → Option (Sum (List Fr × (List Int × Int × Int × Int)) (List Fr × Int × Int)) := fun st =>
 bif decide (st.2.2.1 < (st.2.1.length : Int)) then
  (bif ((st.1.length : Nat) : Int) == 64 then
   (r4_fails.F k st.2 6 st.2.2.1).bind fun q => some (.inr ([], q.2.2.1, q.2.2.2))
  else (r4_frame.F k st.2).bind fun r => (r4_ok.F k r.2.2.2.2.2.2.2.2).bind fun u =>
   bif u.1 then some (.inl (st.1 ++ [(r.1, r.2.1, r.2.2.1, r.2.2.2.1, r.2.2.2.2.1, r.2.2.2.2.2.1, r.2.2.2.2.2.2.1, r.2.2.2.2.2.2.2.1)], u.2))
   else some (.inr ([], u.2.2.2.1, u.2.2.2.2)))
 else some (.inr (st.1, 0, 0))
structure Rw (w3 : World) (af : Nat) (a : Option Addr) (l0 : List Int) (A0 : Option Addr) (c0 : Nat) (L : Nat → Prop) (w : World) (xs : List Fr) (q : Int × Int × Int) (A : Option Addr) (c : Nat) (ys : List FrR) (K : Nat → Prop) : Prop where
 hF : Fine (fun b => b = af ∨ blk (a, 0, 0) b) w3 L w
 hr : OwnO 0 L w 61 RW61 a 1 [((A0, l0.length, c0), q.1, q.2.1, q.2.2)]
 hO : OwnF w3.heap.size L w 36 RF A c ys
 hN : Nests w3.heap.size K w xs ys
 dj : Dj a A
 LK : ∀ b, L b → K b
 Ka : ∀ b, blk (a, 0, 0) b → K b
 KA : ∀ b, blk (A, 0, 0) b → K b
theorem Rw.step {w3 : World} {af : Nat} {a : Option Addr} {l0 : List Int} {A0 : Option Addr} {c0 : Nat} {L L' : Nat → Prop} {w w' : World} {xs : List Fr} {q : Int × Int × Int} {A : Option Addr} {c : Nat} {ys : List FrR} {K : Nat → Prop} (h : Rw w3 af a l0 A0 c0 L w xs q A c ys K) (g : Fine L w L' w') : ∃ K', Rw w3 af a l0 A0 c0 L' w' xs q A c ys K' ∧ ∀ b, K' b → K b ∨ L' b :=
 ⟨fun b => K b ∨ L' b ∨ False, ⟨h.hF.trans g, h.hr.later g, h.hO.later g, h.hN.step (fine_up (B := fun _ => False) (E := fun _ => False) (fine_or g) g.hid h.LK (fun _ h => h.elim) (fun _ h => h.elim)), h.dj, fun b hb => Or.inr (Or.inl hb), fun b hb => Or.inl (h.Ka b hb), fun b hb => Or.inl (h.KA b hb)⟩, fun b hb => hb.imp id (fun h => h.elim id (fun h => h.elim))⟩
def RdE (w3 : World) (af : Nat) (a : Option Addr) (r : List Fr × Int × Int) (e : Ending) (w' : World) : Prop := ∃ (B0 : Option Addr) (d0 : Nat) (ys : List FrR), e = .returned (.tuple #[.slice B0 r.1.length d0, .agg #[.int .i64 r.2.1, .int .i64 r.2.2]]) ∧ Fine (fun b => b = af ∨ blk (a, 0, 0) b) w3 (fun b => b = af ∨ blk (a, 0, 0) b) w' ∧ OwnF w3.heap.size (fun b => b < w3.heap.size) w' 36 RF B0 d0 ys ∧ Nests w3.heap.size (fun b => b < w3.heap.size) w' r.1 ys
set_option maxHeartbeats 8000000 in
theorem c14_ok (k : Nat) (af : Nat) (a : Option Addr) (A0 : Option Addr) (c0 : Nat) (l0 : List Int) (w3 : World) (o : List Fr × Int × Int) (h : iter (rdec.s k) k ([], (l0, 0, 0, 0)) = some o) (hS : SlR R23.row (fun b => b = af ∨ blk (a, 0, 0) b) w3 A0 c0 l0)
  (hr0 : OwnO 0 (fun b => b = af) w3 61 RW61 a 1 [((A0, l0.length, c0), 0, 0, 0)]) (haf : af < w3.heap.size) (pin : List (Nat × Nat)) :
  (treeMid Try.prog A14 noC Try.f14 c14 (args14 A0 l0.length c0 a) out14).ok Try.prog pin (RdE w3 af a o) noJ (fun b => b = af) w3 := by
 rw [c14_t]
 have hA : a.isSome = true := hr0.sl.some (by simp)
 have hba : ∀ b, blk (a, 0, 0) b → b < w3.heap.size := fun b hb => (hr0.lt b hb).1
 have hBm : ∀ b, r4_frame.S a b → (b = af ∨ blk (a, 0, 0) b) ∨ w3.heap.size ≤ b := fun b hb => Or.inl (Or.inr hb)
 obtain ⟨I, hI⟩ : ∃ I : Nat → Tup [Lf.sl] → (Nat → Prop) → World → Prop, I = (fun m y L w' => ∃ (xs : List Fr) (q : Int × Int × Int) (A : Option Addr) (c : Nat) (ys : List FrR) (K : Nat → Prop), xs.length ≤ 64 ∧ y = ((A, xs.length, c), ()) ∧ iter (rdec.s k) m (xs, (l0, q)) = some o ∧ Rw w3 af a l0 A0 c0 L w' xs q A c ys K) := ⟨_, rfl⟩
 have hF0 : Fine (fun b => b = af ∨ blk (a, 0, 0) b) w3 (fun b => b = af) w3 := ⟨rfl, rfl, rfl, Nat.le_refl _, fun _ _ _ => rfl, fun b h => Or.inl (Or.inl h)⟩
 refine ok_loop I k (by
  rw [hI]
  exact ⟨[], (0, 0, 0), none, 0, [], fun b => b = af ∨ blk (a, 0, 0) b, by simp, rfl, h, ⟨hF0, hr0, OwnF.nil _ _ _ _ _, trivial, Dj.nil, fun b hb => Or.inl hb, fun b hb => Or.inr hb, fun b ⟨_, hb, _⟩ => by cases hb⟩⟩) ?_
 clear h
 intro m y L w hy
 rw [hI] at hy
 obtain ⟨xs, q, A, c, ys, K, hx64, rfl, h, D⟩ := hy
 obtain ⟨m', o', rfl, h, hl', hr'⟩ := iter_some h
 unfold rdec.s at h
 dsimp only at h
 refine ok_need hA ?_
 refine ok_ob 1 D.hr.sl (Fine.refl _ _) (fun cs hcs => ⟨q.1, by rw [hcs]; rfl, ?_⟩)
 try dsimp only
 refine ok_if (fun hc => ?_) (fun hc => ?_)
 ·have h := bif_t h hc
  refine ok_if (fun hc2 => ?_) (fun hc2 => ?_)
  ·have h := bif_t h hc2
   obtain ⟨r, hr, h⟩ := bse h
   obtain rfl := Option.some.inj h
   obtain rfl := hr' _ rfl
   refine ok_need hA ?_
   refine ok_ob 1 D.hr.sl (Fine.refl _ _) (fun cs hcs => ⟨q.1, by rw [hcs]; rfl, ?_⟩)
   try dsimp only
   refine ok_callo (r4_fails.S a) rfl (fun b hb => ⟨(D.hr.lt b hb).2.1, D.hr.lt1 b hb⟩) (fun L3 w3' g3 lt3 => ?_)
   refine (r4_fails.c k a (l0, q) A0 c0 6 q.1 r hr w3' (D.hr.later g3).bare' (hS.later ((D.hF.trans g3).with hBm))).mono ?_
   rintro e w4 ⟨rfl, hf4, hr4, hq⟩
   refine ⟨(), rfl, hf4, fun g4 hid4 hv4 => ?_⟩
   have hF4 := Fine.own D.hF g4 hBm hid4
   have hr4' := hr4.vis (fun b hb => hv4 b (Or.inl hb))
   refine ok_need hA ?_
   refine ok_obs 2 hr4'.sl (Fine.refl _ _) (by simp) (fun cs hcs => ⟨(r.2.2.1, r.2.2.2, ()), (fun j v hv => by rw [hcs]; match j, hv with | 0, hv => exact hv | 1, hv => exact hv), ?_⟩)
   try dsimp only
   intro ρ L' w' _ he _ _
   exact ⟨none, 0, [], rfl, (hF4.ext he).with (fun b h => Or.inl h), OwnF.nil _ _ _ _ _, trivial⟩
  ·have h := bif_f h hc2
   have h64 : ((xs.length : Nat) : Int) ≠ 64 := beq_eq_false_iff_ne.1 hc2
   obtain ⟨r, hr, h⟩ := bse h
   obtain ⟨u, hu, h⟩ := bse h
   refine ok_callo (r4_frame.S a) rfl (fun b hb => ⟨(D.hr.lt b hb).2.1, D.hr.lt1 b hb⟩) (fun L3 w3' g3 lt3 => ?_)
   refine (r4_frame.c k a (l0, q) A0 c0 r hr w3' (D.hr.later g3).bare' (hS.later ((D.hF.trans g3).with hBm))).mono ?_
   rintro e w4 ⟨B6, d6, B7, d7, rfl, hf4, hr4, hD6, hD7, hd67, hq⟩
   refine ⟨(r.1, r.2.1, r.2.2.1, r.2.2.2.1, r.2.2.2.2.1, r.2.2.2.2.2.1, (B6, r.2.2.2.2.2.2.1.length, d6), (B7, r.2.2.2.2.2.2.2.1.length, d7), ()), rfl, hf4, fun g4 hid4 hv4 => ?_⟩
   try dsimp only
   obtain ⟨x, hx⟩ : ∃ x : Fr, x = (r.1, r.2.1, r.2.2.1, r.2.2.2.1, r.2.2.2.2.1, r.2.2.2.2.2.1, r.2.2.2.2.2.2.1, r.2.2.2.2.2.2.2.1) := ⟨_, rfl⟩
   obtain ⟨y, hy⟩ : ∃ y : FrR, y = (r.1, r.2.1, r.2.2.1, r.2.2.2.1, r.2.2.2.2.1, r.2.2.2.2.2.1, (B6, r.2.2.2.2.2.2.1.length, d6), (B7, r.2.2.2.2.2.2.2.1.length, d7)) := ⟨_, rfl⟩
   rw [← hx] at h
   obtain ⟨q1, q2⟩ : ∃ q1, q1 = r.2.2.2.2.2.2.2.2.2 := ⟨_, rfl⟩
   have hq' : r.2.2.2.2.2.2.2.2 = (l0, q1) := by rw [q2]; exact Prod.ext hq rfl
   rw [hq'] at hu hr4
   have hF4 := Fine.own D.hF g4 hBm hid4
   have hr4' := hr4.vis (fun b hb => hv4 b (Or.inl hb))
   have hO4 := OwnF.others D.hO (fun b hb hb' => D.dj b hb' hb) g4
   obtain ⟨K3, hK3⟩ : ∃ K3 : Nat → Prop, K3 = fun b => (K b ∨ L3 b ∨ False) ∧ b < w3'.heap.size := ⟨_, rfl⟩
   have hsz : w.heap.size ≤ w3'.heap.size := g3.size
   have hN4 : Nests w3.heap.size K3 w4 xs ys := (D.hN.step (fine_up g4 hid4 D.LK D.Ka (E := fun _ => False) (fun _ h => h.elim))).vis (fun b hb => by rw [hK3] at hb; exact hb.1)
   have hLK4 : ∀ b, L3 b → K3 b := fun b hb => by rw [hK3]; exact ⟨Or.inr (Or.inl hb), lt3 b hb⟩
   have hKa4 : ∀ b, blk (a, 0, 0) b → K3 b := fun b hb => by rw [hK3]; exact ⟨Or.inl (D.Ka b hb), Nat.lt_of_lt_of_le (D.hr.lt1 b hb) hsz⟩
   have hKA4 : ∀ b, blk (A, 0, 0) b → K3 b := fun b hb => by rw [hK3]; exact ⟨Or.inl (D.KA b hb), Nat.lt_of_lt_of_le (OwnF.lt D.hO b hb) hsz⟩
   have hnx : Nest w3.heap.size K3 w4 x y := by
    have hb3 : w3.heap.size ≤ w3'.heap.size := (D.hF.trans g3).size
    refine ⟨B6, d6, B7, d7, by rw [hx, hy], ?_, ?_⟩
    ·rw [hx]
     exact (OwnF.vis hD6 (fun b hb hk => by rw [hK3] at hk; have := OwnF.fresh hD6 b hb; omega)).down hb3
    ·rw [hx]
     exact (OwnF.vis hD7 (fun b hb hk => by rw [hK3] at hk; have := OwnF.fresh hD7 b hb; omega)).down hb3
   have hNN4 := hN4.snoc hnx
   refine ok_callo (r4_ok.S a) rfl (fun b hb => ⟨(hr4'.lt b hb).2.1, hr4'.lt1 b hb⟩) (fun L5 w5' g5 lt5 => ?_)
   refine (r4_ok.c k a (l0, q1) A0 c0 u hu w5' (hr4'.later g5).bare' (hS.later ((hF4.trans g5).with hBm))).mono ?_
   rintro e w6 ⟨rfl, hf6, hr6, hq6⟩
   refine ⟨(u.1, ()), rfl, hf6, fun g6 hid6 hv6 => ?_⟩
   try dsimp only
   have hu' : u.2 = (l0, u.2.2) := Prod.ext hq6 rfl
   rw [hu'] at hr6 h
   have hF6 := Fine.own hF4 g6 hBm hid6
   have hr6' := hr6.vis (fun b hb => hv6 b (Or.inl hb))
   have hO6 := OwnF.others hO4 (fun b hb hb' => D.dj b hb' hb) g6
   have hNN6 := hNN4.step (fine_up g6 hid6 hLK4 hKa4 (E := fun _ => False) (fun _ h => h.elim))
   refine ok_if (fun hc3 => ?_) (fun hc3 => ?_)
   ·have h := bif_t h hc3
    obtain rfl := Option.some.inj h
    have h := hl' _ rfl
    refine ok_lit (R := RF) (base := w3.heap.size) (xs := [y]) #[Value.int .i64 y.1, Value.int .i64 y.2.1, Value.int .i64 y.2.2.1, Value.int .i64 y.2.2.2.1, Value.int .i64 y.2.2.2.2.1, Value.bool y.2.2.2.2.2.1, Lf.V .sl y.2.2.2.2.2.2.1, Lf.V .sl y.2.2.2.2.2.2.2] E22 rfl (by decide) (by decide) ⟨_, _, rfl, rfl, by rw [hy]; kernel_rfl⟩ rfl hF6.size (fun A7 c7 L7 w7 hX g7 hbl7 => ?_)
    try dsimp only
    have hF7 := hF6.trans g7
    have hr7 := hr6'.later g7
    have hO7 := OwnF.later hO6 g7
    have hNN7 := hNN6.step (fine_up (B := fun _ => False) (E := fun _ => False) (fine_or g7) g7.hid (fun b hb => Or.inr (Or.inl hb)) (fun _ h => h.elim) (fun _ h => h.elim))
    have hyl : ys.length = xs.length := D.hN.length
    rw [← hyl]
    refine ok_app (R := RF) (base := w3.heap.size) (xs := ys) (ys := [y]) rfl rfl E22 hO7 hX.sl (by decide) (by rw [hyl]; simp only [List.length_cons, List.length_nil]; omega) hF7.size (fun A8 c8 L8 w8 hO8 g8 hid8 hbl8 => ?_)
    try dsimp only
    have hF8 := Fine.own hF7 g8 (fun b hb => Or.inr (Own.base hO7 hb)) hid8
    have hr8 := hr7.other D.dj g8
    have hKA6 : ∀ b, blk (A, 0, 0) b → (K3 b ∨ L5 b ∨ False) ∨ L7 b ∨ False := fun b hb => Or.inl (Or.inl (hKA4 b hb))
    have hNN8 := hNN7.step (fine_up (E := blk (A8, 0, 0)) g8 hid8 (fun b hb => Or.inr (Or.inl hb)) hKA6 (fun b hb => (hbl8 b hb).imp (hKA6 b) id))
    have dj8 : Dj a A8 := Dj.symm (Dj.grow (Dj.symm D.dj) hbl8 hr7.lt1)
    exact ok_again (I := I) m' (Nat.lt_succ_self _) (fun L' w' he => by
     rw [hI]
     have D8 : Rw w3 af a l0 A0 c0 L8 w8 (xs ++ [x]) u.2.2 A8 c8 (ys ++ [y]) _ := ⟨hF8, hr8, hO8, hNN8, dj8, fun b hb => Or.inr (Or.inl hb), fun b hb => Or.inl (Or.inl (Or.inl (hKa4 b hb))), fun b hb => Or.inr (Or.inr hb)⟩
     obtain ⟨K9, D9, _⟩ := D8.step he.fine
     exact ⟨xs ++ [x], u.2.2, A8, c8, ys ++ [y], K9, by rw [List.length_append, List.length_singleton]; omega, by rw [List.length_append, List.length_append, hyl]; rfl, h, D9⟩)
   ·have h := bif_f h hc3
    obtain rfl := Option.some.inj h
    obtain rfl := hr' _ rfl
    refine ok_need hA ?_
    refine ok_obs 2 hr6'.sl (Fine.refl _ _) (by simp) (fun cs hcs => ⟨(u.2.2.2.1, u.2.2.2.2, ()), (fun j v hv => by rw [hcs]; match j, hv with | 0, hv => exact hv | 1, hv => exact hv), ?_⟩)
    try dsimp only
    intro ρ L' w' _ he _ _
    exact ⟨none, 0, [], rfl, (hF6.ext he).with (fun b h => Or.inl h), OwnF.nil _ _ _ _ _, trivial⟩
 ·have h := bif_f h hc
  obtain rfl := Option.some.inj h
  obtain rfl := hr' _ rfl
  intro ρ L' w' _ he _ _
  refine ⟨A, c, ys, rfl, (D.hF.ext he).with (fun b h => Or.inl h), (OwnF.later D.hO he.fine).ret, ?_⟩
  exact (D.hN.step (fine_up (B := fun _ => False) (E := fun _ => False) (fine_or he.fine) he.fine.hid D.LK (fun _ h => h.elim) (fun _ h => h.elim))).ret
end Go.Proofs.Ytpdchohbmmfemaa.X
namespace Go.Proofs.Ytpdchohbmmfemaa.X
open Go Go.RowKit Go.Proofs.YtpdchohbmmfemaaW.Rx
set_option linter.unusedVariables false
set_option linter.unusedSimpArgs false
set_option maxRecDepth 10000
noncomputable def r0 : Code := match Try.f14.body with
 | some (.seq x _) => x
 | _ => .skip
noncomputable def r1 : Code := match Try.f14.body with
 | some (.seq _ (.seq x _)) => x
 | _ => .skip
noncomputable def r3 : Code := match Try.f14.body with
 | some (.seq _ (.seq _ (.seq x _))) => x
 | _ => .skip
noncomputable def c14b : Code := match Try.f14.body with
 | some (.seq _ (.seq _ (.seq _ y))) => y
 | _ => .skip
theorem f14_body : Try.f14.body = some (.seq r0 (.seq r1 (.seq r3 c14))) := by kernel_rfl
def ref04_Decode.F (k : Nat) (l0 : List Int) : Option (List Fr × Int × Int) := bif decide ((1200 : Int) < (l0.length : Int)) then some ([], 6, 0) else iter (rdec.s k) k ([], (l0, 0, 0, 0))
theorem res14 {tmps : Array Value} {w : World} {b : Nat} {y : Int × Int} {x : Value} (t2 : tmps.getD 2 undef = x) (t3 : tmps.getD 3 undef = .pointer (some ⟨b, 0, none⟩)) (hf : w.heap[b]? = some (.cells #[.int .i64 y.1, .int .i64 y.2] 29 (0, 0))) :
  (results Try.f14 tmps).run Try.prog w = .ok (.tuple #[x, .agg #[.int .i64 y.1, .int .i64 y.2]]) w := by
 have e1 : (resV tmps (.tmp 2)).run Try.prog w = .ok x w := by simp only [resV, t2]; rfl
 have e2 : (resV tmps (.cell 3 29)).run Try.prog w = .ok (.agg #[.int .i64 y.1, .int .i64 y.2]) w := by
  obtain ⟨d, hd, hr⟩ : ∃ d, Try.prog.underlying 29 = some d ∧ d.isRow = true := by
   have h := u29
   cases hu : Try.prog.underlying 29 with
   | none => rw [hu] at h; cases h
   | some d => rw [hu] at h; exact ⟨d, rfl, by simpa using h⟩
  have hrg : w.rangeAt b 0 ((#[Value.int .i64 y.1, Value.int .i64 y.2].toList.drop 0).take 2) := range_of (c := #[Value.int .i64 y.1, Value.int .i64 y.2].toList) (T := 29) (by simpa using hf)
  have hrun := run_loadVar_mid (P := Try.prog) w b 0 29 _ d hrg hd hr (by rw [i29]; rfl)
  simp only [resV, t3, asAddr]
  exact hrun
 have er : Try.f14.results = #[.tmp 2, .cell 3 29] := by kernel_rfl
 have e0 : results Try.f14 tmps = (do let vs ← Try.f14.results.mapM (resV tmps); pure (if h : vs.size = 1 then vs[0] else .tuple vs)) := rfl
 rw [e0, er, Array.mapM_eq_mapM_toList, Sem.run_bind]
 have e3 : ((List.toArray <$> ([ResultVar.tmp 2, ResultVar.cell 3 29].mapM (resV tmps))) : Sem (Array Value)).run Try.prog w = .ok #[x, .agg #[.int .i64 y.1, .int .i64 y.2]] w := by
  rw [← bind_pure_comp, Sem.run_bind, List.mapM_cons, Sem.run_bind, e1, Result.andThen_ok, List.mapM_cons]
  simp [Sem.run_bind, e2]
 rw [e3, Result.andThen_ok]
 rfl
theorem rd_args (A0 : Option Addr) (n c0 b : Nat) (a : Option Addr) : #[Value.slice A0 n c0, undef, Value.slice none 0 0, Value.pointer (some ⟨b, 0, none⟩), Value.pointer a, undef, undef, Value.slice A0 n c0, Value.int IntKind.i64 (n : Int), Value.bool false, undef, Value.slice A0 n c0, Value.agg #[Value.slice A0 n c0, Value.int IntKind.i64 0, Value.int IntKind.i64 0, Value.int IntKind.i64 0], undef, undef, undef, undef, undef, undef, undef, undef, undef, undef, undef, undef, undef, undef, undef, undef, undef, undef, undef, undef, undef, undef, undef, undef] = (AV.gs (fun k => match k with | 0 => b | k => k) (args14 A0 n c0 a)).toArray ++ Array.replicate (Try.f14.ntmps - (AV.gs (fun k => match k with | 0 => b | k => k) (args14 A0 n c0 a)).toArray.size) undef := by kernel_rfl
theorem rd_rest (k : Nat) (A0 : Option Addr) (c0 : Nat) (l0 : List Int) (r : List Fr × Int × Int) (h : iter (rdec.s k) k ([], (l0, 0, 0, 0)) = some r) (w : World) (hS0 : SlR R23.row (fun _ => False) w A0 c0 l0) (w3 : World) (hw3 : w3 = (w.alloc (Obj.cells #[Value.int IntKind.i64 0, Value.int IntKind.i64 0] 29)).alloc (Obj.cells #[Value.slice A0 l0.length c0, Value.int IntKind.i64 0, Value.int IntKind.i64 0, Value.int IntKind.i64 0] 61)) (a : Option Addr) (ha : a = some ⟨w.heap.size + 1, 0, none⟩) :
  c14.wp Try.prog (bodyPost Try.prog Try.f14 (DecE0 w r)) { tmps := (AV.gs (fun k => match k with | 0 => w.heap.size | k => k) (args14 A0 l0.length c0 a)).toArray ++ Array.replicate (Try.f14.ntmps - (AV.gs (fun k => match k with | 0 => w.heap.size | k => k) (args14 A0 l0.length c0 a)).toArray.size) undef, defers := [] } w3 := by
 have hb : Below w.heap.size w w3 := by rw [hw3]; exact ((Below.refl w.heap.size w).alloc (Nat.le_refl _) _).alloc (by simp) _
 have hs3 : w3.heap.size = w.heap.size + 2 := by rw [hw3]; simp
 have hc0 : w3.heap[w.heap.size]? = some (.cells #[Value.int IntKind.i64 0, Value.int IntKind.i64 0] 29 (0, 0)) := by
  rw [hw3]
  show ((w.heap.push _).push _)[_]? = _
  rw [Array.getElem?_push, if_neg (by simp), Array.getElem?_push, if_pos rfl]
 have hr0 : OwnO 0 (fun b => b = w.heap.size) w3 61 RW61 a 1 [((A0, l0.length, c0), 0, 0, 0)] := Or.inr ⟨w.heap.size + 1, 0, #[Value.slice A0 l0.length c0, Value.int IntKind.i64 0, Value.int IntKind.i64 0, Value.int IntKind.i64 0], by rw [ha], Nat.zero_le _, ⟨by omega, fun h => by omega⟩, by
  rw [hw3]
  show ((w.heap.push _).push _)[_]? = _
  rw [Array.getElem?_push, if_pos (by simp)], Nat.le_refl _, by simp [maxLen], Nat.le_refl _, rfl⟩
 have hba : ∀ b, blk (a, 0, 0) b → b = w.heap.size + 1 := fun b ⟨x, hx, h1⟩ => by rw [ha] at hx; cases hx; exact h1.symm
 have hS3 : SlR R23.row (fun b => b = w.heap.size ∨ blk (a, 0, 0) b) w3 A0 c0 l0 := hS0.later ⟨hb.os, hb.tape, hb.output, hb.size, fun b hb' _ => hb.block b hb', fun b hb' => Or.inr (by rcases hb' with h | h; omega; have := hba b h; omega)⟩
 have key := wp_mid (P := Try.prog) mixed (fn := Try.f14) (c := c14) (w := w3) (R := RdE w3 w.heap.size a r) A14 noC (args14 A0 l0.length c0 a) out14 [(0, w.heap.size)] (fun k => match k with | 0 => w.heap.size | k => k) rfl (fun q hq => by rw [List.mem_singleton.1 hq]; rfl) ?_ ?_ ?_ rfl rfl ?_
 ·refine wp_mono key ?_
  have fin : ∀ e w', RdE w3 w.heap.size a r e w' → DecE0 w r e w' := by
   rintro e w' ⟨B, d, ys, rfl, g, ho, hn⟩
   have hk : ∀ b, b < w.heap.size → b < w3.heap.size := fun b h => Nat.lt_of_lt_of_le h hb.size
   refine ⟨B, d, ys, rfl, ⟨g.os.trans hb.os, g.tape.trans hb.tape, g.output.trans hb.output, Nat.le_trans hb.size g.size, fun b hb' => (g.keep b (Nat.lt_of_lt_of_le hb' hb.size) (fun h => by rcases h with h | h; omega; have := hba b h; omega)).trans (hb.block b hb')⟩, (OwnF.vis ho (fun b hb' hn' => by have := OwnF.fresh ho b hb'; have := hk b hn'; omega)).down hb.size, Nests.down hb.size (hn.vis hk)⟩
  rintro e a' w' hq
  cases e with
  | normal => obtain ⟨h1, v, h2, h3⟩ := hq; exact ⟨h1, v, h2, fin _ _ h3⟩
  | ret => obtain ⟨h1, v, h2, h3⟩ := hq; exact ⟨h1, v, h2, fin _ _ h3⟩
  | panic ps => exact ⟨hq.1, fin _ _ hq.2⟩
  | _ => first | exact hq.elim | exact fin _ _ hq
 ·rfl
 ·intro x hx
  rw [List.mem_singleton.1 hx]
  exact hc0
 ·intro x hx y hy _
  rw [List.mem_singleton.1 hx, List.mem_singleton.1 hy]
 ·have he : (fun b => ∃ x ∈ out14, (fun k => match k with | 0 => w.heap.size | k => k) x.1 = b) = fun b => b = w.heap.size := by
   funext b
   apply propext
   constructor
   ·rintro ⟨x, hx, rfl⟩
    rw [List.mem_singleton.1 hx]
    rfl
   ·rintro rfl
    exact ⟨_, List.mem_singleton.2 rfl, rfl⟩
  rw [he]
  exact c14_ok k w.heap.size a A0 c0 l0 w3 r h hS3 hr0 (by omega) _
set_option maxHeartbeats 4000000 in
theorem ref04_Decode.full (k : Nat) (A0 : Option Addr) (c0 : Nat) (l0 : List Int) (r : List Fr × Int × Int) (h : ref04_Decode.F k l0 = some r) (w : World) (hS0 : SlR R23.row (fun _ => False) w A0 c0 l0) : Calls Try.prog 14 #[.slice A0 l0.length c0] w (DecE0 w r) := by
 refine calls_of_wp Try.func14 f14_body ?_
 generalize hQ : bodyPost Try.prog Try.f14 _ = Q
 have en : Try.f14.ntmps = 37 := by kernel_rfl
 rw [en]
 simp only [r0, r1, r3, Try.f14, List.size_toArray, List.length_cons, List.length_nil, Nat.reduceAdd, Nat.reduceSub, Array.replicate_succ, Array.replicate_zero, List.push_toArray, List.append_toArray, List.nil_append, List.cons_append]
 go_wp2
 ·rename_i hc
  have hc : decide ((1200 : Int) < (l0.length : Int)) = true := decide_eq_true (by omega)
  unfold ref04_Decode.F at h
  have h := bif_t h hc
  obtain rfl := Option.some.inj h
  rw [← hQ]
  have hb : Below w.heap.size w (w.alloc (Obj.cells #[Value.int IntKind.i64 6, Value.int IntKind.i64 0] 29)) := (Below.refl w.heap.size w).alloc (Nat.le_refl _) _
  refine ⟨rfl, _, res14 (b := w.heap.size) (y := (6, 0)) rfl rfl ?_, none, 0, [], rfl, hb, OwnF.nil _ _ _ _ _, trivial⟩
  show (w.heap.push _)[_]? = _
  rw [Array.getElem?_push, if_pos rfl]
 ·rename_i hc
  have hc : decide ((1200 : Int) < (l0.length : Int)) = false := decide_eq_false (by omega)
  unfold ref04_Decode.F at h
  have h := bif_f h hc
  rw [hc, rd_args, ← hQ]
  exact rd_rest k A0 c0 l0 r h w hS0 _ rfl _ rfl
theorem ref04_Decode.c (k : Nat) (A0 : Option Addr) (n0 c0 : Nat) (l0 : List Int) (r : List Fr × Int × Int) (h : ref04_Decode.F k l0 = some r) (hn0 : n0 = l0.length) (w : World) (hS0 : SlR R23.row (fun _ => False) w A0 c0 l0) : Calls Try.prog 14 (AV.gs id [AV.v (Value.slice A0 n0 c0)]).toArray w fun e w' => ∃ (B0 : Option Addr) (d0 : Nat), e = .returned (((Sh.tup [(false, 1), (true, 2)] : Sh).av (vs [Lf.sl, Lf.i .i64, Lf.i .i64] ((B0, r.1.length, d0), r.2.1, r.2.2, ()))).g id) ∧ Below w.heap.size w w' ∧ SlR R22 (fun b => b < w.heap.size) w' B0 d0 r.1 := by
 subst hn0
 refine (ref04_Decode.full k A0 c0 l0 r h w hS0).mono ?_
 rintro e w' ⟨B, d, ys, rfl, hb, ho, hn⟩
 exact ⟨B, d, rfl, hb, hn.sl ho (fun _ h => h)⟩
end Go.Proofs.Ytpdchohbmmfemaa.X
