import Derived.Test.YtkchgcefmnbebaazSx1
import Derived.Test.YtkchgcefmnbebaazSl8
import Derived.Test.YtkchgcefmnbebaazRx34
namespace Go.Proofs.Ytkchgcefmnbebaa.X
open Go Go.RowKit Go.Proofs.YtkchgcefmnbebaaW.Rx
set_option linter.unusedVariables false
set_option linter.unusedSimpArgs false
set_option maxRecDepth 20000
abbrev rb (a A : Option Addr) : Nat → Prop := fun b => blk (a, 0, 0) b ∨ blk (A, 0, 0) b
structure RefO (n : Nat) (D : Nat → Prop) (L : Nat → Prop) (w : World) (a A : Option Addr) (c : Nat) (q : Led) : Prop where
 obj : OwnO 0 L w 27 RW27 a 1 [((A, q.1.length, c), q.2.1, q.2.2.1, q.2.2.2)]
 lst : OwnO 0 L w 66 R25 A c q.1
 dj : Dj A a
 home : ∀ b, rb a A b → n ≤ b ∧ ¬ D b
section
variable {n : Nat} {D : Nat → Prop} {L L' : Nat → Prop} {w w' : World} {a A : Option Addr} {c : Nat} {q : Led}
theorem RefO.lt (h : RefO n D L w a A c q) (b : Nat) (hb : rb a A b) : b < w.heap.size ∧ ¬ L b := by
 rcases hb with hb | hb
 ·exact ⟨h.obj.lt1 b hb, (h.obj.lt b hb).2.1⟩
 ·exact ⟨h.lst.lt1 b hb, (h.lst.lt b hb).2.1⟩
theorem RefO.later (h : RefO n D L w a A c q) (f : Fine L w L' w') : RefO n D L' w' a A c q := ⟨h.obj.later f, h.lst.later f, h.dj, h.home⟩
theorem RefO.others {B : Nat → Prop} (h : RefO n D L w a A c q) (hd : ∀ b, rb a A b → ¬ B b) (f : Fine (fun b => L b ∨ B b) w L' w') : RefO n D L' w' a A c q :=
 ⟨h.obj.others (fun b hb => hd b (Or.inl hb)) f, h.lst.others (fun b hb => hd b (Or.inr hb)) f, h.dj, h.home⟩
theorem RefO.past (h : RefO n D L w a A c q) (f : Fine (fun b => L b ∨ D b) w L' w') : RefO n D L' w' a A c q := h.others (fun b hb => (h.home b hb).2) f
theorem RefO.some (h : RefO n D L w a A c q) : a.isSome = true := h.obj.sl.some (by simp)
theorem LedO.past {g : Nat} {z : Led} (h : LedO L w g z) (hr : RefO n (lb g) L w a A c q) (f : Fine (fun b => L b ∨ rb a A b) w L' w') : LedO L' w' g z := h.others (fun b hb h2 => (hr.home b h2).2 hb) f
end
theorem f22_t (a0 : Option Addr) : tree Try.prog noA noC Try.f22 [AV.v (.pointer a0)] [] =
  .need (Option.isSome a0) (
  .need (Option.isSome a0) (
  .ld (Option.map (fun x => Addr.add x 0) a0) ([Lf.sl]) (fun x0 =>
   .need (Option.isSome a0) (
   .need (Option.isSome a0) (
   .sto (Option.map (fun x => Addr.add x 0) a0) ([AV.v (Value.slice none 0 0)]) ([]) (
   .done (AV.v (Value.slice x0.1.1 x0.1.2.1 x0.1.2.2)) ([]))))))) := by kernel_rfl
theorem f9_t : tree Try.prog noA noC Try.f9 [] [] = .done (AV.agg [AV.v (Value.slice none 0 0), AV.v (.int .i64 (-1)), AV.v (.int .i64 (-1)), AV.v (.int .i64 0)]) ([]) := by kernel_rfl
theorem rnew_c (w : World) : Calls Try.prog 9 #[] w fun e w' => e = .returned (.agg #[.slice none 0 0, .int .i64 (-1), .int .i64 (-1), .int .i64 0]) ∧ Below w.heap.size w w' :=
 enter0 (P := Try.prog) (w := w) mixed noA noC [] Try.func9 (c := _) rfl rfl rfl (fun hF => by
  rw [f9_t]
  exact ok_done hF rfl rfl)
theorem rdrop_c (a A : Option Addr) (c : Nat) (q : Led) (w : World) (h : OwnO 0 (fun _ => False) w 27 RW27 a 1 [((A, q.1.length, c), q.2.1, q.2.2.1, q.2.2.2)]) : Calls Try.prog 22 #[.pointer a] w fun e w' => e = .returned (.slice A q.1.length c) ∧ Fine (fun b => blk (a, 0, 0) b) w (fun b => blk (a, 0, 0) b) w' ∧ OwnO 0 (fun _ => False) w' 27 RW27 a 1 [((none, 0, 0), q.2.1, q.2.2.1, q.2.2.2)] := by
 refine enter0 (P := Try.prog) mixed noA noC [AV.v (.pointer a)] Try.func22 (c := _) rfl rfl rfl (fun hF0 => ?_)
 rw [f22_t]
 have ha : a.isSome = true := h.sl.some (by simp)
 refine ok_need ha (ok_need ha ?_)
 refine ok_ob (R := RW27.row) 0 h.sl hF0 (fun cs hcs => ⟨(A, q.1.length, c), by rw [hcs]; rfl, ?_⟩)
 try dsimp only
 refine ok_need ha (ok_need ha ?_)
 refine ok_put0 (R := RW27) (x' := ((none, 0, 0), q.2.1, q.2.2.1, q.2.2.2)) (vs := [Value.slice none 0 0]) 0 h (Nat.le_of_ble_eq_true rfl) rfl (fun _ => rfl) (fun L w2 h2 g2 hid2 => ?_)
 have hF : Fine (fun b => blk (a, 0, 0) b) w L w2 := ⟨g2.os, g2.tape, g2.output, g2.size, fun b hb hn => g2.keep b hb (fun h => h.elim False.elim hn), fun b hb => (hid2 b hb).elim False.elim Or.inr⟩
 intro ρ L' w' _ he _ _
 exact ⟨rfl, (hF.ext he).with (fun b hb => Or.inl hb), (h2.later he.fine).bare'⟩
section
variable {Q : Ending → World → Prop} {pin : List (Nat × Nat)} {J : Jt} {L Lu : Nat → Prop} {wu w : World} {n : Nat} {D : Nat → Prop} {a A : Option Addr} {c : Nat} {q : Led}
theorem home_of {a A' : Option Addr} {n m : Nat} {D : Nat → Prop} {A : Option Addr} (hh : ∀ b, rb a A b → n ≤ b ∧ ¬ D b) (hD : ∀ b, D b → b < m) (hn : n ≤ m) (hz : ∀ b, blk (A', 0, 0) b → rb a A b ∨ m ≤ b) : ∀ b, rb a A' b → n ≤ b ∧ ¬ D b := by
 intro b hb
 rcases hb with hb | hb
 ·exact hh b (Or.inl hb)
 ·rcases hz b hb with h | h
  ·exact hh b h
  ·exact ⟨Nat.le_trans hn h, fun hd => by have := hD b hd; omega⟩
theorem ok_rsent {v t s : Int} {k : Tup [Lf.i .i64] → XT} (hr : RefO n D Lu wu a A c q) (hT : LedT q) (hD : ∀ b, D b → b < wu.heap.size) (hn : n ≤ wu.heap.size)
  (hk : ∀ A' c' L w, RefO n D L w a A' c' (sentF q v t s (timeB t)).2 → Fine (fun b => Lu b ∨ rb a A b) wu L w → (∀ b, L b → Lu b ∨ wu.heap.size ≤ b) → (k ((sentF q v t s (timeB t)).1, ())).ok Try.prog pin Q J L w) :
  (XT.call 12 [AV.v (Value.pointer a), AV.v (Value.int .i64 v), AV.v (Value.int .i64 t), AV.v (Value.int .i64 s)] [] Sh.one [Lf.i .i64] [] k).ok Try.prog pin Q J Lu wu := by
 refine ok_callo (rb a A) rfl (fun b hb => ⟨(hr.lt b hb).2, (hr.lt b hb).1⟩) (fun L w1 g1 lt1 => ?_)
 have hr1 := hr.later g1
 refine (ref08_Ledger_Sent.c 0 a q A c v t s _ (refSent_F hT.good 0 v t s) w1 hr1.obj.bare' hr1.lst.bare' hr.dj).mono ?_
 rintro e w2 ⟨A', c', rfl, hf2, h1, h2, h3, h4⟩
 refine ⟨((sentF q v t s (timeB t)).1, ()), rfl, hf2, fun g2 hid2 hv2 => ?_⟩
 exact hk A' c' L w2 ⟨h1.vis (fun b hb => hv2 b (Or.inl (Or.inl hb))), h2.vis (fun b hb => hv2 b (h4 b hb)), h3, home_of hr.home hD hn (fun b hb => (h4 b hb).imp id (Nat.le_trans g1.size))⟩ g2 hid2
theorem ok_rlose {now wait : Int} {k : Tup [Lf.sl] → XT} (hr : RefO n D Lu wu a A c q) (hT : LedT q) (hD : ∀ b, D b → b < wu.heap.size) (hn : n ≤ wu.heap.size)
  (hk : ∀ A' c' B d L w, RefO n D L w a A' c' (loseF q now wait (waitB now wait)).2 → Fine (fun b => Lu b ∨ rb a A b) wu L w → (∀ b, L b → Lu b ∨ wu.heap.size ≤ b) → OwnF wu.heap.size L w 66 R25 B d (loseF q now wait (waitB now wait)).1 → (k ((B, (loseF q now wait (waitB now wait)).1.length, d), ())).ok Try.prog pin Q J L w) :
  (XT.call 18 [AV.v (Value.pointer a), AV.v (Value.int .i64 now), AV.v (Value.int .i64 wait)] [] Sh.one [Lf.sl] [] k).ok Try.prog pin Q J Lu wu := by
 refine ok_callo (rb a A) rfl (fun b hb => ⟨(hr.lt b hb).2, (hr.lt b hb).1⟩) (fun L w1 g1 lt1 => ?_)
 have hr1 := hr.later g1
 refine (ref08_Ledger_Lose.c 513 a q A c now wait _ (refLose_F hT (by omega) now wait) w1 hr1.obj.bare' hr1.lst.bare' hr.dj).mono ?_
 rintro e w2 ⟨A', c', B, d, rfl, hf2, h1, h2, h3, h4, h5, _⟩
 refine ⟨((B, (loseF q now wait (waitB now wait)).1.length, d), ()), rfl, hf2, fun g2 hid2 hv2 => ?_⟩
 exact hk A' c' B d L w2 ⟨h1.vis (fun b hb => hv2 b (Or.inl (Or.inl hb))), h2.vis (fun b hb => hv2 b (h4 b hb)), h3, home_of hr.home hD hn (fun b hb => (h4 b hb).imp id (Nat.le_trans g1.size))⟩ g2 hid2 (OwnF.call h5 g1.size lt1)
theorem ok_rack {t u : Int} {A1 : Option Addr} {c1 : Nat} {l : List (Int × Int)} {k : Tup [Lf.sl, Lf.sl, Lf.i .i64] → XT} (y : List Pk × List Pk × Int × Led) (hy : y = ackF q l t u (decide (RightB l)) (waitB t u) (fun p => hasB l p.1)) (hr : RefO n D Lu wu a A c q) (hT : LedT q) (hD : ∀ b, D b → b < wu.heap.size) (hn : n ≤ wu.heap.size) (hS : SlR R30.row (fun b => Lu b ∨ rb a A b) wu A1 c1 l)
  (hk : ∀ A' c' B d B2 d2 L w, RefO n D L w a A' c' y.2.2.2 → Fine (fun b => Lu b ∨ rb a A b) wu L w → (∀ b, L b → Lu b ∨ wu.heap.size ≤ b) → OwnF wu.heap.size L w 66 R25 B d y.1 → OwnF wu.heap.size L w 66 R25 B2 d2 y.2.1 → (k ((B, y.1.length, d), (B2, y.2.1.length, d2), y.2.2.1, ())).ok Try.prog pin Q J L w) :
  (XT.call 14 [AV.v (Value.pointer a), AV.v (Value.slice A1 l.length c1), AV.v (Value.int .i64 t), AV.v (Value.int .i64 u)] [] (Sh.tup [(false, 1), (false, 1), (false, 1)]) [Lf.sl, Lf.sl, Lf.i .i64] [] k).ok Try.prog pin Q J Lu wu := by
 refine ok_callo (rb a A) rfl (fun b hb => ⟨(hr.lt b hb).2, (hr.lt b hb).1⟩) (fun L w1 g1 lt1 => ?_)
 have hr1 := hr.later g1
 have hS1 : SlR R30.row (rb a A) w1 A1 c1 l := by
  have h2 := SlR.later (L := fun b => Lu b ∨ rb a A b) (L' := fun b => L b ∨ rb a A b) hS ⟨g1.os, g1.tape, g1.output, g1.size, fun b hb hn => g1.keep b hb (fun h => hn (Or.inl h)), fun b hb => hb.elim (fun h => (g1.hid b h).imp Or.inl id) (fun h => Or.inl (Or.inr h))⟩
  exact h2.mono (fun b hb => Or.inr hb)
 refine (ref08_Ledger_Ack.c (513 + l.length) a q A c A1 l.length c1 l t u _ (refAck_F hT hS.2.2 (by omega) (by omega) t u) rfl w1 hr1.obj.bare' hr1.lst.bare' hr.dj hS1).mono ?_
 rw [← hy]
 rintro e w2 ⟨A', c', B, d, B2, d2, rfl, hf2, h1, h2, h3, h4, h5, h6, _⟩
 refine ⟨((B, y.1.length, d), (B2, y.2.1.length, d2), y.2.2.1, ()), rfl, hf2, fun g2 hid2 hv2 => ?_⟩
 exact hk A' c' B d B2 d2 L w2 ⟨h1.vis (fun b hb => hv2 b (Or.inl (Or.inl hb))), h2.vis (fun b hb => hv2 b (h4 b hb)), h3, home_of hr.home hD hn (fun b hb => (h4 b hb).imp id (Nat.le_trans g1.size))⟩ g2 hid2 (OwnF.call h5 g1.size lt1) (OwnF.call h6 g1.size lt1)
theorem ok_rdue {u : Int} {k : Tup [Lf.i .i64] → XT} (hr : RefO n D Lu wu a A c q) (hT : LedT q) (hD : ∀ b, D b → b < wu.heap.size) (hn : n ≤ wu.heap.size)
  (hk : ∀ A' c' L w, RefO n D L w a A' c' q → Fine (fun b => Lu b ∨ rb a A b) wu L w → (∀ b, L b → Lu b ∨ wu.heap.size ≤ b) → (k (dueF q u (waitB 0 u), ())).ok Try.prog pin Q J L w) :
  (XT.call 20 [AV.v (Value.pointer a), AV.v (Value.int .i64 u)] [] Sh.one [Lf.i .i64] [] k).ok Try.prog pin Q J Lu wu := by
 refine ok_callo (rb a A) rfl (fun b hb => ⟨(hr.lt b hb).2, (hr.lt b hb).1⟩) (fun L w1 g1 lt1 => ?_)
 have hr1 := hr.later g1
 refine (ref08_Ledger_Due.c 513 a q A c u _ (refDue_F hT (by omega) u) w1 hr1.obj.bare' hr1.lst.bare' hr.dj).mono ?_
 rintro e w2 ⟨A', c', rfl, hf2, h1, h2, h3, h4⟩
 refine ⟨(dueF q u (waitB 0 u), ()), rfl, hf2, fun g2 hid2 hv2 => ?_⟩
 exact hk A' c' L w2 ⟨h1.vis (fun b hb => hv2 b (Or.inl (Or.inl hb))), h2.vis (fun b hb => hv2 b (h4 b hb)), h3, home_of hr.home hD hn (fun b hb => (h4 b hb).imp id (Nat.le_trans g1.size))⟩ g2 hid2
theorem ok_rdrop {k : Tup [Lf.sl] → XT} (hr : RefO n D Lu wu a A c q)
  (hk : ∀ L w, RefO n D L w a none 0 ([], q.2) → Fine (fun b => Lu b ∨ rb a A b) wu L w → (∀ b, L b → Lu b ∨ wu.heap.size ≤ b) → SlR R25.row L w A c q.1 → (k ((A, q.1.length, c), ())).ok Try.prog pin Q J L w) :
  (XT.call 22 [AV.v (Value.pointer a)] [] Sh.one [Lf.sl] [] k).ok Try.prog pin Q J Lu wu := by
 refine ok_callo (fun b => blk (a, 0, 0) b) rfl (fun b hb => ⟨(hr.lt b (Or.inl hb)).2, (hr.lt b (Or.inl hb)).1⟩) (fun L w1 g1 lt1 => ?_)
 have hr1 := hr.later g1
 refine (rdrop_c a A c q w1 hr1.obj.bare').mono ?_
 rintro e w2 ⟨rfl, hf2, h1⟩
 refine ⟨((A, q.1.length, c), ()), rfl, hf2, fun g2 hid2 hv2 => ?_⟩
 refine hk L w2 ⟨h1.vis (fun b hb => hv2 b (Or.inl hb)), OwnO.nil, Dj.nil2, fun b hb => hb.elim (fun h => hr.home b (Or.inl h)) (fun h => ?_)⟩ ⟨g2.os, g2.tape, g2.output, g2.size, fun b hb hn => g2.keep b hb (fun h => hn (h.imp id Or.inl)), fun b hb => (g2.hid b hb).imp (fun h => h.imp id Or.inl) id⟩ hid2 (hr.lst.other hr.dj g2).sl
 obtain ⟨_, h, _⟩ := h
 cases h
theorem ok_ours {B : Option Addr} {d : Nat} {l : List Pk} {k : Tup [Lf.sl] → XT} (hS : SlR R36.row Lu wu B d l) (hl : l.length ≤ 512)
  (hk : ∀ B2 d2 L w, Fine Lu wu L w → OwnF wu.heap.size L w 66 R25 B2 d2 l → (k ((B2, l.length, d2), ())).ok Try.prog pin Q J L w) :
  (XT.call 16 [AV.v (Value.slice B l.length d)] [] Sh.one [Lf.sl] [] k).ok Try.prog pin Q J Lu wu := by
 refine ok_callm rfl (fun L w1 g1 lt1 => ?_)
 refine (law08_ours.c 513 B l.length d l l (ours_F hl (by omega)) rfl w1 (hS.later g1).bare).mono ?_
 rintro e w2 ⟨B2, d2, rfl, hb2, hO2⟩
 refine ⟨((B2, l.length, d2), ()), rfl, hb2, fun g2 => ?_⟩
 exact hk B2 d2 L w2 g2 (OwnF.call hO2 g1.size lt1)
theorem ok_same {B B2 : Option Addr} {d d2 : Nat} {l : List Pk} {k : Tup [Lf.b] → XT} (hS : SlR R25.row Lu wu B d l) (hS2 : SlR R25.row Lu wu B2 d2 l) (hl : l.length ≤ 512)
  (hk : ∀ L w, Fine Lu wu L w → (k (true, ())).ok Try.prog pin Q J L w) :
  (XT.call 15 [AV.v (Value.slice B l.length d), AV.v (Value.slice B2 l.length d2)] [] Sh.one [Lf.b] [] k).ok Try.prog pin Q J Lu wu :=
 ok_callq (true, ()) (Fine.refl Lu wu) rfl (fun L w' gg => ref08_Same.c 513 B l.length d l B2 l.length d2 l true (same_F hl (by omega)) rfl rfl w' (hS.later gg).bare (hS2.later gg).bare) hk
theorem ok_dropc {g : Nat} {k : Tup [Lf.sl] → XT} (hl : LedO Lu wu g q) (hG : LedG q)
  (hk : ∀ B d L w, LedO L w g ([], q.2) → Fine (fun b => Lu b ∨ lb g b) wu L w → (∀ b, L b → Lu b ∨ wu.heap.size ≤ b) → OwnF wu.heap.size L w 54 R36 B d q.1 → (k ((B, q.1.length, d), ())).ok Try.prog pin Q J L w) :
  (XT.call 21 [AV.v (Value.pointer (lp g))] [] Sh.one [Lf.sl] [] k).ok Try.prog pin Q J Lu wu := by
 refine ok_callo (lb g) rfl (fun b hb => ⟨(hl.lt b hb).2, (hl.lt b hb).1⟩) (fun L w1 g1 lt1 => ?_)
 refine (drop_c g q w1 (hl.later g1).bare hG).mono ?_
 rintro e w2 ⟨B, d, rfl, hf2, hl2, hO2⟩
 refine ⟨((B, q.1.length, d), ()), rfl, hf2, fun g2 hid2 hv2 => ?_⟩
 exact hk B d L w2 (hl2.seen (fun b hb => hv2 b (Or.inl hb))) g2 hid2 ((OwnF.vis hO2 (fun b hb => hv2 b (Or.inr (OwnF.fresh hO2 b hb)))).down g1.size)
def tailP (l Ar : Option Addr) (i : Int) : XT :=
          .need (Option.isSome Ar) (
          .ld (Option.map (fun x => Addr.add x 1) Ar) ([Lf.i .i64]) (fun x5 =>
           .call 23 ([AV.v (Value.pointer l)]) ([]) (Sh.one) ([Lf.i .i64]) ([]) (fun x6 =>
            .keep (Option.map (fun x => Addr.add x 1) Ar) ([AV.v (.int .i64 x5.1)]) (
            bif x6.1 != x5.1 then (
             .done (AV.v (Value.bool false)) ([]))
            else (
             .need (Option.isSome Ar) (
             .ld (Option.map (fun x => Addr.add x 0) Ar) ([Lf.sl]) (fun x7 =>
              .call 24 ([AV.v (Value.pointer l)]) ([]) (Sh.one) ([Lf.sl]) ([]) (fun x8 =>
               .keep (Option.map (fun x => Addr.add x 0) Ar) ([AV.v (Value.slice x7.1.1 x7.1.2.1 x7.1.2.2)]) (
               .call 16 ([AV.v (Value.slice x8.1.1 x8.1.2.1 x8.1.2.2)]) ([]) (Sh.one) ([Lf.sl]) ([]) (fun x9 =>
                .keep (Option.map (fun x => Addr.add x 0) Ar) ([AV.v (Value.slice x7.1.1 x7.1.2.1 x7.1.2.2)]) (
                .call 15 ([AV.v (Value.slice x9.1.1 x9.1.2.1 x9.1.2.2), AV.v (Value.slice x7.1.1 x7.1.2.1 x7.1.2.2)]) ([]) (Sh.one) ([Lf.b]) ([]) (fun x10 =>
                 bif x10.1 then (
                  .again 0 ([Lf.i .i64]) ((IntKind.i64.wrap (i + 1), PUnit.unit)))
                 else (
                  .done (AV.v (Value.bool false)) ([]))))))))))))))
theorem ok_tailP {g : Nat} {i : Int} (hl : LedO Lu wu g q) (hr : RefO n D Lu wu a A c q) (hT : LedT q)
  (hk : ∀ L w, Fine Lu wu L w → (XT.again 0 [Lf.i .i64] (IntKind.i64.wrap (i + 1), PUnit.unit)).ok Try.prog pin Q J L w) :
  (tailP (lp g) a i).ok Try.prog pin Q J Lu wu := by
 unfold tailP
 refine ok_need hr.some ?_
 refine ok_ob (R := RW27.row) 1 hr.obj.sl (Fine.refl _ _) (fun cs hcs => ⟨q.2.1, by rw [hcs]; rfl, ?_⟩)
 try dsimp only
 refine ok_large hl (fun L1 w1 g1 => ?_)
 try dsimp only
 have hr1 := hr.later g1
 refine ok_keep0 (lf := .i .i64) 1 q.2.1 hr1.obj.sl (fun cs hcs => by rw [hcs]; rfl) rfl ?_
 refine ok_if (fun h => by simp at h) (fun _ => ?_)
 refine ok_need hr.some ?_
 refine ok_ob (R := RW27.row) 0 hr1.obj.sl (Fine.refl _ _) (fun cs hcs => ⟨(A, q.1.length, c), by rw [hcs]; rfl, ?_⟩)
 try dsimp only
 refine ok_outc (hl.later g1) hT.good (fun B d L2 w2 g2 hO2 => ?_)
 try dsimp only
 have hr2 := hr1.later g2
 refine ok_keep0 (lf := .sl) 0 (A, q.1.length, c) hr2.obj.sl (fun cs hcs => by rw [hcs]; rfl) rfl ?_
 refine ok_ours hO2.sl hT.good.len (fun B2 d2 L3 w3 g3 hO3 => ?_)
 try dsimp only
 have hr3 := hr2.later g3
 refine ok_keep0 (lf := .sl) 0 (A, q.1.length, c) hr3.obj.sl (fun cs hcs => by rw [hcs]; rfl) rfl ?_
 refine ok_same hO3.sl hr3.lst.sl hT.good.len (fun L4 w4 g4 => ?_)
 try dsimp only
 refine ok_if (fun _ => ?_) (fun h => by simp at h)
 exact hk L4 w4 (((g1.trans g2).trans g3).trans g4)
end
end Go.Proofs.Ytkchgcefmnbebaa.X
