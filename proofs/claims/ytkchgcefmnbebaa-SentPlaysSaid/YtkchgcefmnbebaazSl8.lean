import Derived.Test.YtkchgcefmnbebaazSl4
namespace Go.Proofs.Ytkchgcefmnbebaa.X
open Go Go.RowKit Go.Proofs.YtkchgcefmnbebaaW.Rx
set_option linter.unusedVariables false
set_option linter.unusedSimpArgs false
set_option maxRecDepth 20000
@[reducible] def RP59 : FRow (Option Addr) := ⟨1, by decide, fun x => [Value.pointer x], fun _ => rfl, fun x u h => by
 simp only [List.mem_cons, List.not_mem_nil, or_false] at h
 subst h; rfl⟩
@[reducible] def RS60 : FRow (Option Addr × Nat × Nat) := ⟨1, by decide, fun x => [Lf.V .sl x], fun _ => rfl, fun x u h => by
 simp only [List.mem_cons, List.not_mem_nil, or_false] at h
 subst h; rfl⟩
def Nok (L : Nat → Prop) (w : World) (a : Option Addr) : Prop := a = none ∨ SlR RW58.row L w a 1 [(none, 0, 0, 0)]
section
variable {L L' : Nat → Prop} {w w' : World} {a : Option Addr}
theorem Nok.later (h : Nok L w a) (f : Fine L w L' w') : Nok L' w' a := h.imp id (fun h => h.later f)
theorem Nok.bare (h : Nok L w a) : Nok (fun _ => False) w a := h.imp id (fun h => h.mono (fun _ h => h.elim))
end
def fill7 (B : Option Addr) (n : Nat) (j : Int) : XT :=
                .loop ([Lf.i .i64]) ((0, PUnit.unit)) 1 (fun x10 =>
                 bif decide (x10.1 < ((n : Nat) : Int)) then (
                  .need (decide (0 ≤ x10.1) && decide (x10.1 < ((n : Nat) : Int)) && Option.isSome B) (
                  .need (Option.isSome (Option.map (fun x => Addr.add x (Int.toNat x10.1 * 3)) B)) (
                  .sto (Option.map (fun x => Addr.add x 0) (Option.map (fun x => Addr.add x (Int.toNat x10.1 * 3)) B)) ([AV.v (.int .i64 99)]) ([]) (
                  .again 1 ([Lf.i .i64]) ((IntKind.i64.wrap (x10.1 + 1), PUnit.unit))))))
                 else (
                  .again 0 ([Lf.i .i64]) ((IntKind.i64.wrap (j + 1), PUnit.unit))))
section
variable {Q : Ending → World → Prop} {pin : List (Nat × Nat)} {J : Jt} {Lu : Nat → Prop} {wu : World}
theorem ok_sentc {n t s : Int} {g : Nat} {q : Led} {k : Tup [Lf.i .i64] → XT} (hl : LedO Lu wu g q) (hG : LedG q)
  (hk : ∀ L w, LedO L w g (sentF q n t s (timeB t)).2 → Fine (fun b => Lu b ∨ lb g b) wu L w → (∀ b, L b → Lu b ∨ wu.heap.size ≤ b) → (k ((sentF q n t s (timeB t)).1, ())).ok Try.prog pin Q J L w) :
  (XT.call 11 [AV.v (Value.pointer (lp g)), AV.v (Value.int .i64 n), AV.v (Value.int .i64 t), AV.v (Value.int .i64 s)] [] Sh.one [Lf.i .i64] [] k).ok Try.prog pin Q J Lu wu := by
 refine ok_callo (lb g) rfl (fun b hb => ⟨(hl.lt b hb).2, (hl.lt b hb).1⟩) (fun L w1 g1 lt1 => ?_)
 refine (sent_c 0 g q n t s (timeB t) (isTime_F 0 t) w1 (hl.later g1).bare hG).mono ?_
 rintro e w2 ⟨rfl, hf2, hl2⟩
 refine ⟨((sentF q n t s (timeB t)).1, ()), rfl, hf2, fun g2 hid2 hv2 => ?_⟩
 exact hk L w2 (hl2.seen (fun b hb => hv2 b (Or.inl hb))) g2 hid2
end
abbrev A7 : Nat → LA := fun r => if r = 2 then ⟨[(17, false, [Lf.i .i64])], []⟩ else if r = 12 then ⟨[(103, false, [Lf.i .i64])], []⟩ else if r = 15 then ⟨[(109, false, [Lf.i .i64])], []⟩ else noA r
end Go.Proofs.Ytkchgcefmnbebaa.X
