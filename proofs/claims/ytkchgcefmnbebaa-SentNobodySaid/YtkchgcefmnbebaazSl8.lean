import Derived.Test.YtkchgcefmnbebaazSl4
namespace Go.Proofs.Ytkchgcefmnbebaa.X
open Go Go.RowKit Go.Proofs.YtkchgcefmnbebaaW.Rx
set_option linter.unusedVariables false
set_option linter.unusedSimpArgs false
set_option maxRecDepth 20000
@[reducible] def RP59 : FRow (Option Addr) := ⟨1, by decide, fun x => [Value.pointer x], fun _ => rfl, fun x u h => by
 simp only [List.mem_cons, List.not_mem_nil, or_false] at h
 subst h; rfl⟩
@[reducible] def RS60 : FRow (Option Addr × Nat × Nat) := ⟨1, by decide, fun x => [Lf.V .sl x], fun _ => rfl, fun x u h => by
 simp only [List.mem_cons, List.not_mem_nil, or_false] at h
 subst h; rfl⟩
theorem E59 : Elem Try.prog 59 23 1 8 := ⟨rfl, _, _, rfl, rfl, rfl, rfl, rfl⟩
def Nok (L : Nat → Prop) (w : World) (a : Option Addr) : Prop := a = none ∨ SlR RW58.row L w a 1 [(none, 0, 0, 0)]
section
variable {L L' : Nat → Prop} {w w' : World} {a : Option Addr}
theorem Nok.later (h : Nok L w a) (f : Fine L w L' w') : Nok L' w' a := h.imp id (fun h => h.later f)
theorem Nok.bare (h : Nok L w a) : Nok (fun _ => False) w a := h.imp id (fun h => h.mono (fun _ h => h.elim))
theorem nok_ok (h : Nok (fun _ => False) w a) : Calls Try.prog 26 #[.pointer a] w fun e w' => e = .returned (.bool false) ∧ Below w.heap.size w w' :=
 enter0 (P := Try.prog) (w := w) mixed noA noC [AV.v (.pointer a)] Try.func26 (c := _) rfl rfl rfl (fun hF => by
  rw [f26_t]
  rcases h with rfl | h
  ·refine ok_if (fun h => by simp at h) (fun _ => ?_)
   exact ok_done hF rfl rfl
  ·have ha : a.isSome = true := h.some (by simp)
   refine ok_if (fun _ => ?_) (fun h => by cases a <;> simp_all)
   refine ok_need ha (ok_need ha ?_)
   refine ok_ob (R := RW58.row) 0 h (Fine.refl _ _) (fun cs hcs => ⟨none, by rw [hcs]; rfl, ?_⟩)
   refine ok_if (fun h => by simp at h) (fun _ => ?_)
   exact ok_done hF rfl rfl)
theorem nok13 {A : Option Addr} {m c : Nat} {t u : Int} (h : Nok (fun _ => False) w a) : Calls Try.prog 13 #[.pointer a, .slice A m c, .int .i64 t, .int .i64 u] w fun e w' => e = .returned (.tuple #[.slice none 0 0, .slice none 0 0, .int .i64 2]) ∧ Below w.heap.size w w' :=
 enter0 (P := Try.prog) (w := w) mixed noA noC [AV.v (.pointer a), AV.v (.slice A m c), AV.v (.int .i64 t), AV.v (.int .i64 u)] Try.func13 (c := _) rfl rfl rfl (fun hF => by
  rw [f13_t a (A, m, c) t u]
  refine ok_callq (false, ()) hF rfl (fun L w1 g1 => nok_ok (h.later g1).bare) (fun L1 w1 hF1 => ?_)
  exact ok_if (fun h => by simp at h) (fun _ => ok_done hF1 rfl rfl))
theorem nok11 {n t s : Int} (h : Nok (fun _ => False) w a) : Calls Try.prog 11 #[.pointer a, .int .i64 n, .int .i64 t, .int .i64 s] w fun e w' => e = .returned (.int .i64 2) ∧ Below w.heap.size w w' :=
 enter0 (P := Try.prog) (w := w) mixed noA noC [AV.v (.pointer a), AV.v (.int .i64 n), AV.v (.int .i64 t), AV.v (.int .i64 s)] Try.func11 (c := _) rfl rfl rfl (fun hF => by
  rw [f11_t]
  refine ok_callq (false, ()) hF rfl (fun L w1 g1 => nok_ok (h.later g1).bare) (fun L1 w1 hF1 => ?_)
  exact ok_if (fun h => by simp at h) (fun _ => ok_done hF1 rfl rfl))
theorem nok17 {t u : Int} (h : Nok (fun _ => False) w a) : Calls Try.prog 17 #[.pointer a, .int .i64 t, .int .i64 u] w fun e w' => e = .returned (.slice none 0 0) ∧ Below w.heap.size w w' :=
 enter0 (P := Try.prog) (w := w) mixed noA noC [AV.v (.pointer a), AV.v (.int .i64 t), AV.v (.int .i64 u)] Try.func17 (c := _) rfl rfl rfl (fun hF => by
  rw [f17_t]
  refine ok_callq (false, ()) hF rfl (fun L w1 g1 => nok_ok (h.later g1).bare) (fun L1 w1 hF1 => ?_)
  exact ok_if (fun h => by simp at h) (fun _ => ok_done hF1 rfl rfl))
theorem nok19 {u : Int} (h : Nok (fun _ => False) w a) : Calls Try.prog 19 #[.pointer a, .int .i64 u] w fun e w' => e = .returned (.int .i64 (-1)) ∧ Below w.heap.size w w' :=
 enter0 (P := Try.prog) (w := w) mixed noA noC [AV.v (.pointer a), AV.v (.int .i64 u)] Try.func19 (c := _) rfl rfl rfl (fun hF => by
  rw [f19_t]
  refine ok_callq (false, ()) hF rfl (fun L w1 g1 => nok_ok (h.later g1).bare) (fun L1 w1 hF1 => ?_)
  exact ok_if (fun h => by simp at h) (fun _ => ok_done hF1 rfl rfl))
theorem nok24 (h : Nok (fun _ => False) w a) : Calls Try.prog 24 #[.pointer a] w fun e w' => e = .returned (.slice none 0 0) ∧ Below w.heap.size w w' :=
 enter0 (P := Try.prog) (w := w) mixed noA noC [AV.v (.pointer a)] Try.func24 (c := _) rfl rfl rfl (fun hF => by
  rw [f24_t]
  refine ok_callq (false, ()) hF rfl (fun L w1 g1 => nok_ok (h.later g1).bare) (fun L1 w1 hF1 => ?_)
  exact ok_if (fun h => by simp at h) (fun _ => ok_done hF1 rfl rfl))
theorem nok23 (h : Nok (fun _ => False) w a) : Calls Try.prog 23 #[.pointer a] w fun e w' => e = .returned (.int .i64 (-1)) ∧ Below w.heap.size w w' :=
 enter0 (P := Try.prog) (w := w) mixed noA noC [AV.v (.pointer a)] Try.func23 (c := _) rfl rfl rfl (fun hF => by
  rw [f23_t]
  refine ok_callq (false, ()) hF rfl (fun L w1 g1 => nok_ok (h.later g1).bare) (fun L1 w1 hF1 => ?_)
  exact ok_if (fun h => by simp at h) (fun _ => ok_done hF1 rfl rfl))
theorem nok21 (h : Nok (fun _ => False) w a) : Calls Try.prog 21 #[.pointer a] w fun e w' => e = .returned (.slice none 0 0) ∧ Below w.heap.size w w' :=
 enter0 (P := Try.prog) (w := w) mixed noA noC [AV.v (.pointer a)] Try.func21 (c := _) rfl rfl rfl (fun hF => by
  rw [f21_t]
  refine ok_callq (false, ()) hF rfl (fun L w1 g1 => nok_ok (h.later g1).bare) (fun L1 w1 hF1 => ?_)
  exact ok_if (fun h => by simp at h) (fun _ => ok_done hF1 rfl rfl))
end
def fill7 (B : Option Addr) (n : Nat) (j : Int) : XT :=
                .loop ([Lf.i .i64]) ((0, PUnit.unit)) 1 (fun x10 =>
                 bif decide (x10.1 < ((n : Nat) : Int)) then (
                  .need (decide (0 ≤ x10.1) && decide (x10.1 < ((n : Nat) : Int)) && Option.isSome B) (
                  .need (Option.isSome (Option.map (fun x => Addr.add x (Int.toNat x10.1 * 3)) B)) (
                  .sto (Option.map (fun x => Addr.add x 0) (Option.map (fun x => Addr.add x (Int.toNat x10.1 * 3)) B)) ([AV.v (.int .i64 99)]) ([]) (
                  .again 1 ([Lf.i .i64]) ((IntKind.i64.wrap (x10.1 + 1), PUnit.unit))))))
                 else (
                  .again 0 ([Lf.i .i64]) ((IntKind.i64.wrap (j + 1), PUnit.unit))))
section
variable {Q : Ending → World → Prop} {pin : List (Nat × Nat)} {J : Jt} {Lu : Nat → Prop} {wu : World}
theorem ok_fill7 {base d : Nat} {B : Option Addr} {xs : List Pk} {j : Int} {k : Nat} (hkl : xs.length = k) (hO : OwnF base Lu wu 54 R36 B d xs) (hlen : xs.length ≤ 512)
  (hk : ∀ L w xs', xs'.length = xs.length → OwnF base L w 54 R36 B d xs' → Fine (fun b => Lu b ∨ blk (B, 0, 0) b) wu L w → (∀ c, L c → Lu c ∨ wu.heap.size ≤ c) → (XT.again 0 [Lf.i .i64] (IntKind.i64.wrap (j + 1), PUnit.unit)).ok Try.prog pin Q J L w) :
  (fill7 B k j).ok Try.prog pin Q J Lu wu := by
 subst hkl
 unfold fill7
 obtain ⟨I, hI⟩ : ∃ I : Nat → Tup [Lf.i .i64] → (Nat → Prop) → World → Prop, I = (fun m y L w' => ∃ (i : Nat) (ys : List Pk), y = ((i : Int), ()) ∧ i + m = xs.length ∧ ys.length = xs.length ∧ Fine (fun b => Lu b ∨ blk (B, 0, 0) b) wu L w' ∧ (∀ c, L c → Lu c ∨ wu.heap.size ≤ c) ∧ OwnF base L w' 54 R36 B d ys) := ⟨_, rfl⟩
 refine ok_loop I xs.length (by rw [hI]; exact ⟨0, xs, rfl, by omega, rfl, ⟨rfl, rfl, rfl, Nat.le_refl _, fun _ _ _ => rfl, fun c hc => Or.inl (Or.inl hc)⟩, fun c hc => Or.inl hc, hO⟩) ?_
 intro m y L w hi
 rw [hI] at hi
 obtain ⟨i, ys, rfl, hi, hyl, hF, hid, hY⟩ := hi
 try dsimp only
 refine ok_if (fun hc => ?_) (fun hc => ?_)
 ·have hc : (i : Int) < (xs.length : Int) := of_decide_eq_true hc
  obtain ⟨m', rfl⟩ : ∃ m', m = m' + 1 := ⟨m - 1, by omega⟩
  obtain ⟨p, hp⟩ : ∃ p, ys[i]? = some p := ⟨_, List.getElem?_eq_getElem (by omega)⟩
  have hB : B.isSome = true := hY.sl.some (by omega)
  refine ok_need (need3 (by omega) hc hB) (ok_need (by rw [Option.isSome_map]; exact hB) ?_)
  refine ok_putF (R := R36) (x' := (99, p.2.1, p.2.2)) (vs := [Value.int .i64 99]) i 0 hY hp (show 0 + 1 ≤ 3 by decide) rfl (fun _ => rfl) (fun L2 w2 hY2 g2 hid2 => ?_)
  have hF2 : Fine (fun b => Lu b ∨ blk (B, 0, 0) b) wu L2 w2 := Fine.own hF g2 (fun c hc => Or.inl (Or.inr hc)) hid2
  refine ok_again (I := I) m' (Nat.lt_succ_self _) (fun L8 w8 he => ?_)
  rw [hI]
  refine ⟨i + 1, _, by rw [wrap_in ((i : Int) + 1) (by omega) (by omega)]; rfl, by omega, by rw [List.length_set]; exact hyl, hF2.trans he.fine, fun c hc => ?_, hY2.later he.fine⟩
  rcases he.fine.hid c hc with h | h
  ·rcases hid2 c h with h | h
   ·exact hid c h
   ·exact Or.inr (Nat.le_trans hF.size h)
  ·exact Or.inr (Nat.le_trans hF2.size h)
 ·exact ok_up (hk L w ys hyl hY hF hid) (by decide)
theorem ok_sentc {n t s : Int} {g : Nat} {q : Led} {k : Tup [Lf.i .i64] → XT} (hl : LedO Lu wu g q) (hG : LedG q)
  (hk : ∀ L w, LedO L w g (sentF q n t s (timeB t)).2 → Fine (fun b => Lu b ∨ lb g b) wu L w → (∀ b, L b → Lu b ∨ wu.heap.size ≤ b) → (k ((sentF q n t s (timeB t)).1, ())).ok Try.prog pin Q J L w) :
  (XT.call 11 [AV.v (Value.pointer (lp g)), AV.v (Value.int .i64 n), AV.v (Value.int .i64 t), AV.v (Value.int .i64 s)] [] Sh.one [Lf.i .i64] [] k).ok Try.prog pin Q J Lu wu := by
 refine ok_callo (lb g) rfl (fun b hb => ⟨(hl.lt b hb).2, (hl.lt b hb).1⟩) (fun L w1 g1 lt1 => ?_)
 refine (sent_c 0 g q n t s (timeB t) (isTime_F 0 t) w1 (hl.later g1).bare hG).mono ?_
 rintro e w2 ⟨rfl, hf2, hl2⟩
 refine ⟨((sentF q n t s (timeB t)).1, ()), rfl, hf2, fun g2 hid2 hv2 => ?_⟩
 exact hk L w2 (hl2.seen (fun b hb => hv2 b (Or.inl hb))) g2 hid2
end
theorem sent123 : sentF q0 1 2 3 (timeB 2) = (0, ([(1, 2, 3)], -1, 1, 2)) := by kernel_rfl
abbrev A7 : Nat → LA := fun r => if r = 2 then ⟨[(17, false, [Lf.i .i64])], []⟩ else if r = 12 then ⟨[(103, false, [Lf.i .i64])], []⟩ else if r = 15 then ⟨[(109, false, [Lf.i .i64])], []⟩ else noA r
set_option maxHeartbeats 4000000 in
theorem f7_t (k0 n t s u : Int) (A : Option Addr) (m c : Nat) : tree Try.prog A7 noC Try.f7 [AV.agg [AV.v (.int .u8 k0), AV.v (.int .i64 n), AV.v (.int .i64 t), AV.v (.int .i64 s), AV.v (.int .i64 u), AV.v (.slice A m c)]] [] =
  .sem (Instr.box 58 (Value.agg #[Value.map none, Value.int IntKind.i64 0, Value.int IntKind.i64 0, Value.int IntKind.i64 0])) ([Lf.p]) (Sh.one) (fun x0 =>
   .sem (Instr.buildSlice 59 2 #[(0, Value.pointer none), (1, Value.pointer x0.1)]) ([Lf.sl]) (Sh.one) (fun x1 =>
    .loop ([Lf.i .i64]) ((0, PUnit.unit)) 0 (fun x2 =>
     bif decide (x2.1 < ((x1.1.2.1 : Nat) : Int)) then (
      .need (decide (0 ≤ x2.1) && decide (x2.1 < ((x1.1.2.1 : Nat) : Int)) && Option.isSome x1.1.1) (
      .ld (Option.map (fun x => Addr.add x (Int.toNat x2.1 * 1)) x1.1.1) ([Lf.p]) (fun x3 =>
       .call 13 ([AV.v (Value.pointer x3.1), AV.v (Value.slice A m c), AV.v (.int .i64 t), AV.v (.int .i64 u)]) ([]) (Sh.tup [(false, 1), (false, 1), (false, 1)]) ([Lf.sl, Lf.sl, Lf.i .i64]) ([]) (fun x4 =>
        bif IntKind.i64.wrap (((x4.1.2.1 : Nat) : Int) + ((x4.2.1.2.1 : Nat) : Int)) != 0 then (
         .done (AV.v (Value.bool false)) ([]))
        else (
         bif x4.2.2.1 != 2 then (
          .done (AV.v (Value.bool false)) ([]))
         else (
          .call 11 ([AV.v (Value.pointer x3.1), AV.v (.int .i64 n), AV.v (.int .i64 t), AV.v (.int .i64 s)]) ([]) (Sh.one) ([Lf.i .i64]) ([]) (fun x5 =>
           bif x5.1 != 2 then (
            .done (AV.v (Value.bool false)) ([]))
           else (
            .call 17 ([AV.v (Value.pointer x3.1), AV.v (.int .i64 t), AV.v (.int .i64 u)]) ([]) (Sh.one) ([Lf.sl]) ([]) (fun x6 =>
             bif ((x6.1.2.1 : Nat) : Int) != 0 then (
              .done (AV.v (Value.bool false)) ([]))
             else (
              .call 19 ([AV.v (Value.pointer x3.1), AV.v (.int .i64 u)]) ([]) (Sh.one) ([Lf.i .i64]) ([]) (fun x7 =>
               bif x7.1 != -1 then (
                .done (AV.v (Value.bool false)) ([]))
               else (
                .call 24 ([AV.v (Value.pointer x3.1)]) ([]) (Sh.one) ([Lf.sl]) ([]) (fun x8 =>
                 bif ((x8.1.2.1 : Nat) : Int) != 0 then (
                  .done (AV.v (Value.bool false)) ([]))
                 else (
                  .call 23 ([AV.v (Value.pointer x3.1)]) ([]) (Sh.one) ([Lf.i .i64]) ([]) (fun x9 =>
                   bif x9.1 != -1 then (
                    .done (AV.v (Value.bool false)) ([]))
                   else (
                    .call 21 ([AV.v (Value.pointer x3.1)]) ([]) (Sh.one) ([Lf.sl]) ([]) (fun x10 =>
                     bif ((x10.1.2.1 : Nat) : Int) != 0 then (
                      .done (AV.v (Value.bool false)) ([]))
                     else (
                      .again 0 ([Lf.i .i64]) ((IntKind.i64.wrap (x2.1 + 1), PUnit.unit))))))))))))))))))))
     else (
      .call 8 ([]) ([]) (Sh.one) ([Lf.p]) ([]) (fun x3 =>
       bif Option.isNone x3.1 then (
        .done (AV.v (Value.bool false)) ([]))
       else (
        .call 11 ([AV.v (Value.pointer x3.1), AV.v (.int .i64 1), AV.v (.int .i64 2), AV.v (.int .i64 3)]) ([]) (Sh.one) ([Lf.i .i64]) ([]) (fun x4 =>
         bif x4.1 != 0 then (
          .done (AV.v (Value.bool false)) ([]))
         else (
          .call 24 ([AV.v (Value.pointer x3.1)]) ([]) (Sh.one) ([Lf.sl]) ([]) (fun x5 =>
           .call 24 ([AV.v (Value.pointer x3.1)]) ([]) (Sh.one) ([Lf.sl]) ([]) (fun x6 =>
            .sem (Instr.buildSlice 60 2 #[(0, Value.slice x5.1.1 x5.1.2.1 x5.1.2.2), (1, Value.slice x6.1.1 x6.1.2.1 x6.1.2.2)]) ([Lf.sl]) (Sh.one) (fun x7 =>
             .loop ([Lf.i .i64]) ((0, PUnit.unit)) 0 (fun x8 =>
              bif decide (x8.1 < ((x7.1.2.1 : Nat) : Int)) then (
               .need (decide (0 ≤ x8.1) && decide (x8.1 < ((x7.1.2.1 : Nat) : Int)) && Option.isSome x7.1.1) (
               .ld (Option.map (fun x => Addr.add x (Int.toNat x8.1 * 1)) x7.1.1) ([Lf.sl]) (fun x9 =>
                (fill7 x9.1.1 x9.1.2.1 x8.1))))
              else (
               .call 24 ([AV.v (Value.pointer x3.1)]) ([]) (Sh.one) ([Lf.sl]) ([]) (fun x9 =>
                bif ((x9.1.2.1 : Nat) : Int) == 1 then (
                 .need (true && decide (0 < ((x9.1.2.1 : Nat) : Int)) && Option.isSome x9.1.1) (
                 .need (Option.isSome (Option.map (fun x => Addr.add x 0) x9.1.1)) (
                 .ld (Option.map (fun x => Addr.add x 0) (Option.map (fun x => Addr.add x 0) x9.1.1)) ([Lf.i .i64]) (fun x10 =>
                  bif x10.1 == 1 then (
                   .call 10 ([]) ([]) (Sh.one) ([Lf.b]) ([]) (fun x11 =>
                    bif x11.1 then (
                     .done (AV.v (Value.bool true)) ([]))
                    else (
                     .done (AV.v (Value.bool false)) ([]))))
                  else (
                   .done (AV.v (Value.bool false)) ([]))))))
                else (
                 .done (AV.v (Value.bool false)) ([])))))))))))))))) := by kernel_rfl
set_option maxHeartbeats 8000000 in
theorem law_nobody (k0 n t s u : Int) (A : Option Addr) (m c : Nat) (w : World) : Calls Try.prog 7 #[.agg #[.int .u8 k0, .int .i64 n, .int .i64 t, .int .i64 s, .int .i64 u, .slice A m c]] w fun e w' => e = .returned (.bool true) ∧ Below w.heap.size w w' := by
 refine enter0 (P := Try.prog) mixed A7 noC [AV.agg [AV.v (.int .u8 k0), AV.v (.int .i64 n), AV.v (.int .i64 t), AV.v (.int .i64 s), AV.v (.int .i64 u), AV.v (.slice A m c)]] Try.func7 (c := _) rfl rfl rfl (fun hF0 => ?_)
 rw [f7_t]
 refine ok_boxR (R := RW58.row) (x := ((none : Option Nat), (0 : Int), (0 : Int), (0 : Int))) (fun _ _ _ => rfl) (fun a L1 w1 ha g1 hbl1 => ?_)
 try dsimp only
 have hF1 := hF0.trans g1
 have hN1 : Nok L1 w1 a := Or.inr ha.2
 refine ok_lit (R := RP59) (base := w.heap.size) (xs := [none, a]) #[Value.pointer none, Value.pointer a] E59 rfl (by decide) (by decide) ⟨_, _, rfl, rfl, by kernel_rfl⟩ rfl hF1.size (fun B d L2 w2 hX g2 hbl2 => ?_)
 try dsimp only
 have hF2 := hF1.trans g2
 obtain ⟨I, hI⟩ : ∃ I : Nat → Tup [Lf.i .i64] → (Nat → Prop) → World → Prop, I = (fun m y L w' => ∃ j : Nat, y = ((j : Int), ()) ∧ j + m = 2 ∧ Fine (fun _ => False) w L w' ∧ Nok L w' a ∧ SlR RP59.row L w' B d [none, a]) := ⟨_, rfl⟩
 refine ok_loop I 2 (by rw [hI]; exact ⟨0, rfl, rfl, hF2, hN1.later g2, hX.sl⟩) ?_
 clear hN1 hX hF2 g2 hF1 ha g1
 intro m1 i L3 w3 hi
 rw [hI] at hi
 obtain ⟨j, rfl, hj, hF3, hN3, hX3⟩ := hi
 try dsimp only
 have hB : B.isSome = true := hX3.some (by simp)
 refine ok_if (fun hc => ?_) (fun hc => ?_)
 ·have hc : (j : Int) < 2 := of_decide_eq_true hc
  obtain ⟨m', rfl⟩ : ∃ m', m1 = m' + 1 := ⟨m1 - 1, by omega⟩
  obtain ⟨p, hp, hNp⟩ : ∃ p, [none, a][j]? = some p ∧ Nok L3 w3 p := by
   rcases (show j = 0 ∨ j = 1 by omega) with rfl | rfl
   ·exact ⟨none, rfl, Or.inl rfl⟩
   ·exact ⟨a, rfl, hN3⟩
  refine ok_need (need3 (by omega) hc hB) ?_
  refine ok_get (R := RP59.row) hX3 (Fine.refl _ _) (getI_of hp) (by simp) (fun cs hcs => ⟨(p, ()), by rw [hcs]; rfl, ?_⟩)
  try dsimp only
  have no : ∀ {c : Bool} {x y : XT} {L : Nat → Prop} {w' : World} {J : Jt} {Q : Ending → World → Prop}, c = false → y.ok Try.prog [] Q J L w' → (bif c then x else y).ok Try.prog [] Q J L w' := fun h hy => by rw [h]; exact hy
  refine ok_callq ((none, 0, 0), (none, 0, 0), 2, ()) (Fine.refl L3 w3) rfl (fun L w' gg => nok13 (hNp.later gg).bare) (fun L4 w4 g4 => ?_)
  refine no (by decide) (no (by decide) ?_)
  refine ok_callq (2, ()) g4 rfl (fun L w' gg => nok11 (hNp.later gg).bare) (fun L5 w5 g5 => ?_)
  refine no (by decide) ?_
  refine ok_callq ((none, 0, 0), ()) g5 rfl (fun L w' gg => nok17 (hNp.later gg).bare) (fun L6 w6 g6 => ?_)
  refine no (by decide) ?_
  refine ok_callq (-1, ()) g6 rfl (fun L w' gg => nok19 (hNp.later gg).bare) (fun L7 w7 g7 => ?_)
  refine no (by decide) ?_
  refine ok_callq ((none, 0, 0), ()) g7 rfl (fun L w' gg => nok24 (hNp.later gg).bare) (fun L8 w8 g8 => ?_)
  refine no (by decide) ?_
  refine ok_callq (-1, ()) g8 rfl (fun L w' gg => nok23 (hNp.later gg).bare) (fun L9 w9 g9 => ?_)
  refine no (by decide) ?_
  refine ok_callq ((none, 0, 0), ()) g9 rfl (fun L w' gg => nok21 (hNp.later gg).bare) (fun L10 w10 g10 => ?_)
  refine no (by decide) ?_
  refine ok_again (I := I) m' (Nat.lt_succ_self _) (fun L11 w11 he => ?_)
  rw [hI]
  have gg := g10.trans he.fine
  exact ⟨j + 1, by rw [wrap_in ((j : Int) + 1) (by omega) (by omega)]; rfl, by omega, hF3.trans gg, hN3.later gg, hX3.later gg⟩
 ·refine ok_newc (fun g L4 w4 hg hl4 g4 => ?_)
  try dsimp only
  have hF4 := hF3.trans g4
  have hgw : w.heap.size ≤ g := Nat.le_trans hF3.size hg
  refine ok_if (fun h => by simp at h) (fun _ => ?_)
  refine ok_sentc hl4 q0_good (fun L5 w5 hl5 g5 hid5 => ?_)
  have hG : LedG ([(1, 2, 3)], -1, 1, 2) := by
   have := sentF_good q0_good 1 2 3 (timeB 2)
   rwa [sent123] at this
  rw [sent123] at hl5 ⊢
  try dsimp only
  have hF5 := fine_lg (S := L4) hF4 g5 hgw hid5
  refine ok_if (fun h => by simp at h) (fun _ => ?_)
  refine ok_outc hl5 hG (fun B1 d1 L6 w6 g6 hO1 => ?_)
  try dsimp only
  refine ok_outc (hl5.later g6) hG (fun B2 d2 L7 w7 g7 hO2 => ?_)
  try dsimp only
  have hF7 := (hF5.trans g6).trans g7
  have hl7 := (hl5.later g6).later g7
  have hb1' : ∀ b, blk (B1, 0, 0) b → b < w6.heap.size := fun b hb => OwnF.lt hO1 b hb
  have hO1 := hO1.later g7
  refine ok_lit (R := RS60) (base := w.heap.size) (xs := [(B1, 1, d1), (B2, 1, d2)]) #[Value.slice B1 1 d1, Value.slice B2 1 d2] E60 rfl (by decide) (by decide) ⟨_, _, rfl, rfl, by kernel_rfl⟩ rfl hF7.size (fun B3 d3 L8 w8 hX g8 hbl3 => ?_)
  try dsimp only
  have hF8 := hF7.trans g8
  have hl8 := hl7.later g8
  have hs5 : g + 1 < w5.heap.size := (hl5.lt (g + 1) (Or.inr rfl)).1
  have hs6 : w5.heap.size ≤ w6.heap.size := g6.size
  have hb1 : ∀ b, blk (B1, 0, 0) b → w5.heap.size ≤ b ∧ b < w7.heap.size := fun b hb => ⟨Own.base hO1 hb, OwnF.lt hO1 b hb⟩
  have hb2 : ∀ b, blk (B2, 0, 0) b → w6.heap.size ≤ b ∧ b < w7.heap.size := fun b hb => ⟨Own.base hO2 hb, OwnF.lt hO2 b hb⟩
  have hd12 : ∀ b, blk (B1, 0, 0) b → ¬ blk (B2, 0, 0) b := fun b hb h => by have h1 := hb1' b hb; have h2 := (hb2 b h).1; omega
  have hlb : ∀ b, lb g b → b < w5.heap.size := fun b hb => by rcases hb with h | h <;> omega
  obtain ⟨I, hI⟩ : ∃ I : Nat → Tup [Lf.i .i64] → (Nat → Prop) → World → Prop, I = (fun m y L w' => ∃ (j : Nat) (xs ys : List Pk), y = ((j : Int), ()) ∧ j + m = 2 ∧ Fine (fun _ => False) w L w' ∧ LedO L w' g ([(1, 2, 3)], -1, 1, 2) ∧ SlR RS60.row L w' B3 d3 [(B1, 1, d1), (B2, 1, d2)] ∧ xs.length = 1 ∧ ys.length = 1 ∧ OwnF w.heap.size L w' 54 R36 B1 d1 xs ∧ OwnF w.heap.size L w' 54 R36 B2 d2 ys) := ⟨_, rfl⟩
  refine ok_loop I 2 (by rw [hI]; exact ⟨0, _, _, rfl, rfl, hF8, hl8, hX.sl, rfl, rfl, (hO1.later g8).down hF5.size, (hO2.later g8).down (hF5.trans g6).size⟩) ?_
  intro m2 i2 L9 w9 hi2
  rw [hI] at hi2
  obtain ⟨j2, xs, ys, rfl, hj2, hF9, hl9, hX9, hxl, hyl, hP1, hP2⟩ := hi2
  try dsimp only
  have hB3 : B3.isSome = true := hX9.some (by simp)
  refine ok_if (fun hc2 => ?_) (fun hc2 => ?_)
  ·have hc2 : (j2 : Int) < 2 := of_decide_eq_true hc2
   obtain ⟨m2', rfl⟩ : ∃ m', m2 = m' + 1 := ⟨m2 - 1, by omega⟩
   have hn3 : ∀ b, blk (B3, 0, 0) b → ¬ blk (B1, 0, 0) b ∧ ¬ blk (B2, 0, 0) b := fun b hb => ⟨fun h => by have h1 := hbl3 b hb; have h2 := (hb1 b h).2; omega, fun h => by have h1 := hbl3 b hb; have h2 := (hb2 b h).2; omega⟩
   refine ok_need (need3 (by omega) hc2 hB3) ?_
   rcases (show j2 = 0 ∨ j2 = 1 by omega) with rfl | rfl
   ·refine ok_get (R := RS60.row) (x := (B1, 1, d1)) hX9 (Fine.refl _ _) rfl (by simp) (fun cs hcs => ⟨((B1, 1, d1), ()), by rw [hcs]; rfl, ?_⟩)
    refine ok_fill7 (j := ((0 : Nat) : Int)) hxl hP1 (by omega) (fun L10 w10 xs' hx' hP10 g10 hid10 => by
     refine ok_again (I := I) m2' (Nat.lt_succ_self _) (fun L11 w11 he => ?_)
     rw [hI]
     have hF10 : Fine (fun _ => False) w L10 w10 := Fine.own hF9 g10 (fun c hc => Or.inr (Own.base hP1 hc)) hid10
     exact ⟨1, xs', ys, by rfl, by omega, hF10.trans he.fine, (hl9.others (fun b hb h => by have h1 := hlb b hb; have h2 := (hb1 b h).1; omega) g10).later he.fine, (SlR.other hX9 (fun b hb h => (hn3 b hb).1 h) g10).later he.fine, by omega, hyl, hP10.later he.fine, (OwnF.others hP2 (fun b hb h => hd12 b h hb) g10).later he.fine⟩)
   ·refine ok_get (R := RS60.row) (x := (B2, 1, d2)) hX9 (Fine.refl _ _) rfl (by simp) (fun cs hcs => ⟨((B2, 1, d2), ()), by rw [hcs]; rfl, ?_⟩)
    refine ok_fill7 (j := ((1 : Nat) : Int)) hyl hP2 (by omega) (fun L10 w10 xs' hx' hP10 g10 hid10 => by
     refine ok_again (I := I) m2' (Nat.lt_succ_self _) (fun L11 w11 he => ?_)
     rw [hI]
     have hF10 : Fine (fun _ => False) w L10 w10 := Fine.own hF9 g10 (fun c hc => Or.inr (Own.base hP2 hc)) hid10
     exact ⟨2, xs, xs', by rfl, by omega, hF10.trans he.fine, (hl9.others (fun b hb h => by have h1 := hlb b hb; have h2 := (hb2 b h).1; omega) g10).later he.fine, (SlR.other hX9 (fun b hb h => (hn3 b hb).2 h) g10).later he.fine, hxl, by omega, (OwnF.others hP1 (fun b hb h => hd12 b hb h) g10).later he.fine, hP10.later he.fine⟩)
  ·refine ok_outc hl9 hG (fun B4 d4 L10 w10 g10 hO4 => ?_)
   try dsimp only
   have hF10 := hF9.trans g10
   have hB4 : B4.isSome = true := hO4.sl.some (by simp)
   refine ok_if (fun _ => ?_) (fun h => by simp at h)
   refine ok_need (by rw [hB4]; rfl) (ok_need (by rw [Option.isSome_map]; exact hB4) ?_)
   refine ok_getf (R := R36.row) (i := 0) (x := ((1 : Int), (2 : Int), (3 : Int))) 0 hO4.sl (Fine.refl _ _) rfl (fun cs hcs => ⟨(1 : Int), by rw [hcs]; rfl, ?_⟩)
   try dsimp only
   refine ok_if (fun _ => ?_) (fun h => by simp at h)
   refine ok_alive (fun L11 w11 g11 => ?_)
   try dsimp only
   refine ok_if (fun _ => ?_) (fun h => by simp at h)
   exact ok_done (hF10.trans g11) rfl rfl
end Go.Proofs.Ytkchgcefmnbebaa.X
