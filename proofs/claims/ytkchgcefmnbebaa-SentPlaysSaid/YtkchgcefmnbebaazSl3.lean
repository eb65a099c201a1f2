import Derived.Test.YtkchgcefmnbebaazSl2
namespace Go.Proofs.Ytkchgcefmnbebaa.X
open Go Go.RowKit Go.Proofs.YtkchgcefmnbebaaW.Rx
set_option linter.unusedVariables false
set_option linter.unusedSimpArgs false
set_option maxRecDepth 20000
section
variable {Q : Ending → World → Prop} {pin : List (Nat × Nat)} {J : Jt} {L Lu : Nat → Prop} {wu w : World} {g : Nat} {q : Led}
theorem ok_lose {now wait : Int} {k : Tup [Lf.sl] → XT} (hl : LedO Lu wu g q) (hG : LedG q)
  (hk : ∀ B d L w, LedO L w g (loseF q now wait (waitB now wait)).2 → Fine (fun b => Lu b ∨ lb g b) wu L w → (∀ b, L b → Lu b ∨ wu.heap.size ≤ b) → OwnF wu.heap.size L w 54 R36 B d (loseF q now wait (waitB now wait)).1 → (k ((B, (loseF q now wait (waitB now wait)).1.length, d), ())).ok Try.prog pin Q J L w) :
  (XT.call 17 [AV.v (Value.pointer (lp g)), AV.v (Value.int .i64 now), AV.v (Value.int .i64 wait)] [] Sh.one [Lf.sl] [] k).ok Try.prog pin Q J Lu wu := by
 refine ok_callo (lb g) rfl (fun b hb => ⟨(hl.lt b hb).2, (hl.lt b hb).1⟩) (fun L w1 g1 lt1 => ?_)
 refine (lose_c 0 g q now wait (waitB now wait) (isWait_F 0 now wait) w1 (hl.later g1).bare hG).mono ?_
 rintro e w2 ⟨B, d, rfl, hf2, hl2, hO2⟩
 refine ⟨((B, (loseF q now wait (waitB now wait)).1.length, d), ()), rfl, hf2, fun g2 hid2 hv2 => ?_⟩
 exact hk B d L w2 (hl2.seen (fun b hb => hv2 b (Or.inl hb))) g2 hid2 ((OwnF.vis hO2 (fun b hb => hv2 b (Or.inr (OwnF.fresh hO2 b hb)))).down g1.size)
theorem ok_ackc {t u : Int} {A : Option Addr} {c : Nat} {l : List (Int × Int)} {k : Tup [Lf.sl, Lf.sl, Lf.i .i64] → XT} (y : List Pk × List Pk × Int × Led) (hy : y = ackF q l t u (decide (RightB l)) (waitB t u) (fun p => hasB l p.1)) (hl : LedO Lu wu g q) (hG : LedG q) (hS : SlR R30.row (fun b => Lu b ∨ lb g b) wu A c l)
  (hk : ∀ B d B2 d2 L w, LedO L w g y.2.2.2 → Fine (fun b => Lu b ∨ lb g b) wu L w → (∀ b, L b → Lu b ∨ wu.heap.size ≤ b) → OwnF wu.heap.size L w 54 R36 B d y.1 → OwnF wu.heap.size L w 54 R36 B2 d2 y.2.1 → (k ((B, y.1.length, d), (B2, y.2.1.length, d2), y.2.2.1, ())).ok Try.prog pin Q J L w) :
  (XT.call 13 [AV.v (Value.pointer (lp g)), AV.v (Value.slice A l.length c), AV.v (Value.int .i64 t), AV.v (Value.int .i64 u)] [] (Sh.tup [(false, 1), (false, 1), (false, 1)]) [Lf.sl, Lf.sl, Lf.i .i64] [] k).ok Try.prog pin Q J Lu wu := by
 refine ok_callo (lb g) rfl (fun b hb => ⟨(hl.lt b hb).2, (hl.lt b hb).1⟩) (fun L w1 g1 lt1 => ?_)
 have hS1 : SlR R30.row (lb g) w1 A c l := by
  have h2 := SlR.later (L := fun b => Lu b ∨ lb g b) (L' := fun b => L b ∨ lb g b) hS ⟨g1.os, g1.tape, g1.output, g1.size, fun b hb hn => g1.keep b hb (fun h => hn (Or.inl h)), fun b hb => hb.elim (fun h => (g1.hid b h).imp Or.inl id) (fun h => Or.inl (Or.inr h))⟩
  exact h2.mono (fun b hb => Or.inr hb)
 refine (ack_c (l.length + 1) g q A c l t u (decide (RightB l)) (waitB t u) (fun p => hasB l p.1) (right_F hS.2.2 (Nat.lt_succ_self _)) (isWait_F _ t u) (fun hr p _ => has_F (by have := (of_decide_eq_true hr).2; omega) (Nat.lt_succ_self _) p.1) w1 (hl.later g1).bare hG hS1).mono ?_
 rw [← hy]
 rintro e w2 ⟨B, d, B2, d2, rfl, hf2, hl2, hO2, hP2⟩
 refine ⟨((B, y.1.length, d), (B2, y.2.1.length, d2), y.2.2.1, ()), rfl, hf2, fun g2 hid2 hv2 => ?_⟩
 exact hk B d B2 d2 L w2 (hl2.seen (fun b hb => hv2 b (Or.inl hb))) g2 hid2 ((OwnF.vis hO2 (fun b hb => hv2 b (Or.inr (OwnF.fresh hO2 b hb)))).down g1.size) ((OwnF.vis hP2 (fun b hb => hv2 b (Or.inr (OwnF.fresh hP2 b hb)))).down g1.size)
theorem ok_outc {k : Tup [Lf.sl] → XT} (hl : LedO Lu wu g q) (hG : LedG q)
  (hk : ∀ B d L w, Fine Lu wu L w → OwnF wu.heap.size L w 54 R36 B d q.1 → (k ((B, q.1.length, d), ())).ok Try.prog pin Q J L w) :
  (XT.call 24 [AV.v (Value.pointer (lp g))] [] Sh.one [Lf.sl] [] k).ok Try.prog pin Q J Lu wu := by
 refine ok_callm rfl (fun L w1 g1 lt1 => ?_)
 refine (out_c g q w1 (hl.later g1).bare hG).mono ?_
 rintro e w2 ⟨B, d, rfl, hb2, hO2⟩
 refine ⟨((B, q.1.length, d), ()), rfl, hb2, fun g2 => ?_⟩
 exact hk B d L w2 g2 ((OwnF.vis hO2 (fun b hb hl => by have := OwnF.fresh hO2 b hb; have := lt1 b hl; omega)).down g1.size)
theorem ok_large {k : Tup [Lf.i .i64] → XT} (hl : LedO Lu wu g q) (hk : ∀ L w, Fine Lu wu L w → (k (q.2.1, ())).ok Try.prog pin Q J L w) :
  (XT.call 23 [AV.v (Value.pointer (lp g))] [] Sh.one [Lf.i .i64] [] k).ok Try.prog pin Q J Lu wu :=
 ok_callq (q.2.1, ()) (Fine.refl Lu wu) rfl (fun L w' gg => largest_c g q w' (hl.later gg).bare) hk
theorem ok_duec {u : Int} {k : Tup [Lf.i .i64] → XT} (hl : LedO Lu wu g q) (hG : LedG q) (hk : ∀ L w, Fine Lu wu L w → (k (dueF q u (waitB 0 u), ())).ok Try.prog pin Q J L w) :
  (XT.call 19 [AV.v (Value.pointer (lp g)), AV.v (Value.int .i64 u)] [] Sh.one [Lf.i .i64] [] k).ok Try.prog pin Q J Lu wu :=
 ok_callq (dueF q u (waitB 0 u), ()) (Fine.refl Lu wu) rfl (fun L w' gg => due_c 0 g q u (waitB 0 u) (isWait_F 0 0 u) w' (hl.later gg).bare hG) hk
theorem ok_alive {k : Tup [Lf.b] → XT} (hk : ∀ L w, Fine Lu wu L w → (k (true, ())).ok Try.prog pin Q J L w) : (XT.call 10 [] [] Sh.one [Lf.b] [] k).ok Try.prog pin Q J Lu wu :=
 ok_callq (true, ()) (Fine.refl Lu wu) rfl (fun L w' gg => alive_c w') hk
end
structure LedT (q : Led) : Prop where
 good : LedG q
 times : q.1.Pairwise fun x y => x.2.1 ≤ y.2.1
 trng : ∀ p ∈ q.1, 0 ≤ p.2.1 ∧ p.2.1 ≤ q.2.2.2
 time : 0 ≤ q.2.2.2 ∧ q.2.2.2 ≤ 1099511627776
 big : -1 ≤ q.2.1 ∧ q.2.1 ≤ 4611686018427387903
theorem q0_t : LedT q0 := ⟨q0_good, List.Pairwise.nil, fun p hp => (by cases hp), (by decide), (by decide)⟩
theorem LedT.filter {q : Led} (h : LedT q) (f : Pk → Bool) : LedT (q.1.filter f, q.2) := ⟨h.good.filter f, h.times.filter _, fun p hp => h.trng p (List.mem_filter.1 hp).1, h.time, h.big⟩
theorem loseF_t {q : Led} (h : LedT q) (now wait : Int) (v : Bool) : LedT (loseF q now wait v).2 := by
 cases v
 ·exact h
 ·exact h.filter _
theorem timeB_iff {n : Int} (h : timeB n = true) : 0 ≤ n ∧ n ≤ 1099511627776 := by
 unfold timeB at h
 rw [Bool.and_eq_true] at h
 exact ⟨of_decide_eq_true h.1, of_decide_eq_true h.2⟩
theorem sentF_t {q : Led} (h : LedT q) (n t s : Int) : LedT (sentF q n t s (timeB t)).2 := by
 have hg := sentF_good h.good n t s (timeB t)
 unfold sentF at hg ⊢
 by_cases h1 : n < 0
 ·rw [decide_eq_true h1]; exact h
 by_cases h2 : 4611686018427387903 < n
 ·rw [decide_eq_false h1, decide_eq_true h2]; exact h
 rw [decide_eq_false h1, decide_eq_false h2] at hg ⊢
 cases hv : timeB t
 ·exact h
 rw [hv] at hg
 have ht := timeB_iff hv
 by_cases h3 : s < 1
 ·rw [decide_eq_true h3]; exact h
 by_cases h4 : 1200 < s
 ·rw [decide_eq_false h3, decide_eq_true h4]; exact h
 by_cases h5 : n ≤ q.2.2.1
 ·rw [decide_eq_false h3, decide_eq_false h4, decide_eq_true h5]; exact h
 by_cases h6 : t < q.2.2.2
 ·rw [decide_eq_false h3, decide_eq_false h4, decide_eq_false h5, decide_eq_true h6]; exact h
 by_cases h7 : (512 : Int) ≤ ((q.1.length : Nat) : Int)
 ·rw [decide_eq_false h3, decide_eq_false h4, decide_eq_false h5, decide_eq_false h6, decide_eq_true h7]; exact h
 rw [decide_eq_false h3, decide_eq_false h4, decide_eq_false h5, decide_eq_false h6, decide_eq_false h7] at hg ⊢
 refine ⟨hg, List.pairwise_append.2 ⟨h.times, List.pairwise_singleton _ _, fun x hx y hy => ?_⟩, fun p hp => ?_, ht, h.big⟩
 ·rw [List.mem_singleton.1 hy]
  have := h.trng x hx
  show x.2.1 ≤ t
  omega
 ·show 0 ≤ p.2.1 ∧ p.2.1 ≤ t
  rcases List.mem_append.1 hp with hp | hp
  ·have := h.trng p hp; omega
  ·rw [List.mem_singleton.1 hp]
   exact ⟨ht.1, Int.le_refl _⟩
theorem ackF_t {q : Led} (h : LedT q) (l : List (Int × Int)) (now wait : Int) (r v : Bool) (f : Pk → Bool) : LedT (ackF q l now wait r v f).2.2.2 := by
 unfold ackF
 cases r
 ·exact h
 cases ((l.length : Nat) : Int) == 0
 case true => exact h
 cases v
 ·exact h
 by_cases ht : q.2.2.1 < (l.getLastD (0, 0)).2
 ·rw [decide_eq_true ht]; exact h
 rw [decide_eq_false ht]
 have hl := h.good.last
 have hb := h.big
 refine loseF_t (q := (q.1.filter (fun p => !f p), (if q.2.1 < (l.getLastD (0, 0)).2 then (l.getLastD (0, 0)).2 else q.2.1), q.2.2)) ⟨⟨h.good.sorted.filter _, fun p hp => h.good.rng p (List.mem_filter.1 hp).1, h.good.last, Nat.le_trans (List.length_filter_le _ _) h.good.len⟩, h.times.filter _, fun p hp => h.trng p (List.mem_filter.1 hp).1, h.time, ?_⟩ now wait true
 dsimp only
 split <;> omega
end Go.Proofs.Ytkchgcefmnbebaa.X
