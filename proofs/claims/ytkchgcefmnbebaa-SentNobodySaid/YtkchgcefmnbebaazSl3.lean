import Derived.Test.YtkchgcefmnbebaazSl2
namespace Go.Proofs.Ytkchgcefmnbebaa.X
open Go Go.RowKit Go.Proofs.YtkchgcefmnbebaaW.Rx
set_option linter.unusedVariables false
set_option linter.unusedSimpArgs false
set_option maxRecDepth 20000
section
variable {Q : Ending → World → Prop} {pin : List (Nat × Nat)} {J : Jt} {L Lu : Nat → Prop} {wu w : World} {g : Nat} {q : Led}
theorem ok_outc {k : Tup [Lf.sl] → XT} (hl : LedO Lu wu g q) (hG : LedG q)
  (hk : ∀ B d L w, Fine Lu wu L w → OwnF wu.heap.size L w 54 R36 B d q.1 → (k ((B, q.1.length, d), ())).ok Try.prog pin Q J L w) :
  (XT.call 24 [AV.v (Value.pointer (lp g))] [] Sh.one [Lf.sl] [] k).ok Try.prog pin Q J Lu wu := by
 refine ok_callm rfl (fun L w1 g1 lt1 => ?_)
 refine (out_c g q w1 (hl.later g1).bare hG).mono ?_
 rintro e w2 ⟨B, d, rfl, hb2, hO2⟩
 refine ⟨((B, q.1.length, d), ()), rfl, hb2, fun g2 => ?_⟩
 exact hk B d L w2 g2 ((OwnF.vis hO2 (fun b hb hl => by have := OwnF.fresh hO2 b hb; have := lt1 b hl; omega)).down g1.size)
theorem ok_alive {k : Tup [Lf.b] → XT} (hk : ∀ L w, Fine Lu wu L w → (k (true, ())).ok Try.prog pin Q J L w) : (XT.call 10 [] [] Sh.one [Lf.b] [] k).ok Try.prog pin Q J Lu wu :=
 ok_callq (true, ()) (Fine.refl Lu wu) rfl (fun L w' gg => alive_c w') hk
theorem ok_newc {k : Tup [Lf.p] → XT} (hk : ∀ g L w, wu.heap.size ≤ g → LedO L w g q0 → Fine Lu wu L w → (k (lp g, ())).ok Try.prog pin Q J L w) : (XT.call 8 [] [] Sh.one [Lf.p] [] k).ok Try.prog pin Q J Lu wu := by
 refine ok_callm rfl (fun L w1 g1 lt1 => ?_)
 refine (new_c w1).mono ?_
 rintro e w2 ⟨g, rfl, hg, hb2, hl2⟩
 exact ⟨(lp g, ()), rfl, hb2, fun g2 => hk g L w2 (Nat.le_trans g1.size hg) (hl2.seen (fun b hb hl => by have := lt1 b hl; rcases hb with h | h <;> omega)) g2⟩
end
structure LedT (q : Led) : Prop where
 good : LedG q
 times : q.1.Pairwise fun x y => x.2.1 ≤ y.2.1
 trng : ∀ p ∈ q.1, 0 ≤ p.2.1 ∧ p.2.1 ≤ q.2.2.2
 time : 0 ≤ q.2.2.2 ∧ q.2.2.2 ≤ 1099511627776
 big : -1 ≤ q.2.1 ∧ q.2.1 ≤ 4611686018427387903
theorem LedT.filter {q : Led} (h : LedT q) (f : Pk → Bool) : LedT (q.1.filter f, q.2) := ⟨h.good.filter f, h.times.filter _, fun p hp => h.trng p (List.mem_filter.1 hp).1, h.time, h.big⟩
end Go.Proofs.Ytkchgcefmnbebaa.X
