import Derived.Test.YtkchgcefmnbebaazSm9
namespace Go.Proofs.Ytkchgcefmnbebaa.X
open Go Go.RowKit Go.Proofs.YtkchgcefmnbebaaW.Rx
set_option linter.unusedVariables false
set_option linter.unusedSimpArgs false
set_option maxRecDepth 20000
def q0 : Led := ([], -1, -1, 0)
theorem q0_good : LedG q0 := ⟨List.Pairwise.nil, fun p hp => (by cases hp), (by decide), (by decide)⟩
def NewE (w : World) (e : Ending) (w' : World) : Prop := ∃ g, e = .returned (.pointer (lp g)) ∧ w.heap.size ≤ g ∧ Below w.heap.size w w' ∧ LedO (fun b => b < w.heap.size) w' g q0
set_option maxHeartbeats 4000000 in
theorem new_c (w : World) : Calls Try.prog 8 #[] w (NewE w) := by
 have hmk : (Instr.makeMap 56 none).run Try.prog w = .ok (.map (some w.heap.size)) (w.alloc (.map #[] 0)) := rfl
 go_enter Try.func8, Try.ntmps8
 go_wp2
 go_ret
 obtain ⟨w1, hw1⟩ : ∃ w1, w1 = w.alloc (.map #[] 0) := ⟨_, rfl⟩
 have hs1 : w1.heap.size = w.heap.size + 1 := by rw [hw1]; simp
 have hm : MapAt w1 w.heap.size [] #[] 0 := by rw [hw1]; exact map_new w
 rw [← hw1]
 have hb1 : Below w.heap.size w w1 := by rw [hw1]; exact (Below.refl _ w).alloc (Nat.le_refl _) _
 have hn := heap_alloc_new w1 (Obj.cells #[Value.map (some w.heap.size), Value.int IntKind.i64 (-1), Value.int IntKind.i64 (-1), Value.int IntKind.i64 0] 58)
 have hs2 : (w1.alloc (Obj.cells #[Value.map (some w.heap.size), Value.int IntKind.i64 (-1), Value.int IntKind.i64 (-1), Value.int IntKind.i64 0] 58)).heap.size = w1.heap.size + 1 := by simp
 refine ⟨w.heap.size, rfl, Nat.le_refl _, hb1.alloc hb1.size _, ⟨Or.inr ⟨w.heap.size + 1, 0, _, rfl, Nat.zero_le _, ⟨by rw [hs2]; omega, fun h => by omega⟩, by rw [← hs1]; exact hn, Nat.le_refl _, by simp [maxLen], Nat.le_refl _, rfl⟩, fun h => by omega, #[], 0, hm.later (heap_alloc_old w1 _ (by omega))⟩⟩
set_option maxHeartbeats 8000000 in
theorem ack_c (k : Nat) (g : Nat) (q : Led) (A : Option Addr) (c : Nat) (l : List (Int × Int)) (now wait : Int) (r v : Bool) (f : Pk → Bool) (hr : spans_Right.F k l = some r) (hv : sent_isWait.F k now wait = some v) (hf : r = true → ∀ p ∈ q.1, spans_Has.F k l p.1 = some (f p)) (w : World) (hL : LedO (fun _ => False) w g q) (hG : LedG q) (hS : SlR R30.row (lb g) w A c l) :
  Calls Try.prog 13 #[.pointer (lp g), .slice A l.length c, .int .i64 now, .int .i64 wait] w (AckE w g (ackF q l now wait r v f)) := by
 refine enter0 (P := Try.prog) mixed noA noC [AV.v (.pointer (lp g)), AV.v (.slice A l.length c), AV.v (.int .i64 now), AV.v (.int .i64 wait)] Try.func13 (c := _) rfl rfl rfl (fun hF0 => ?_)
 rw [f13_t (lp g) (A, l.length, c) now wait]
 obtain ⟨z, hz⟩ : ∃ z, z = ackF q l now wait r v f := ⟨_, rfl⟩
 rw [← hz]
 unfold ackF at hz
 have hS0 : SlR R30.row (fun _ => False) w A c l := hS.mono (fun _ h => h.elim)
 have fin : ∀ (n : Int) (L : Nat → Prop) (w2 : World), z = ([], [], n, q) → Fine (fun _ => False) w L w2 → (XT.done (AV.tup [AV.v (Value.slice none 0 0), AV.v (Value.slice none 0 0), AV.v (.int .i64 n)]) []).ok Try.prog [] (AckE w g z) noJ L w2 := by
  intro n L w2 hrc hF
  subst hrc
  intro ρ L' w' _ he _ _
  exact ⟨none, 0, none, 0, rfl, (fine_lb g (hF.ext he)).with (fun b hb => Or.inl hb), (hL.later (hF.ext he)).bare, OwnF.nil _ _ _ _ _, OwnF.nil _ _ _ _ _⟩
 refine ok_callq (true, ()) hF0 rfl (fun L w1 g1 => led_ok g q w1 (hL.later g1).bare) (fun L1 w1 hF1 => ?_)
 try dsimp only
 refine ok_if (fun _ => ?_) (fun h => by simp at h)
 refine ok_callq (r, ()) hF1 rfl (fun L w1 g1 => spans_Right.c k A l.length c l r hr rfl w1 ((hS0.later g1).mono (fun _ h => h.elim))) (fun L2 w2 hF2 => ?_)
 try dsimp only
 refine ok_if (fun hc => ?_) (fun hc => ?_)
 ·have hc : r = true := hc
  subst hc
  refine ok_if (fun hc => ?_) (fun hc => ?_)
  ·rw [hc] at hz; exact fin 1 _ _ hz hF2
  rw [hc] at hz
  have hl0 : l.length ≠ 0 := by have := beq_eq_false_iff_ne.1 hc; omega
  have hl63 : l.length ≤ 9223372036854775807 := hS.2.2
  have hwl : IntKind.i64.wrap (((l.length : Nat) : Int) - 1) = ((l.length : Nat) : Int) - 1 := wrap_in _ (by omega) (by omega)
  have hA : A.isSome = true := hS.some (by omega)
  refine ok_callq (v, ()) hF2 rfl (fun L w1 g1 => sent_isWait.c k now wait v hv w1) (fun L3 w3 hF3 => ?_)
  try dsimp only
  refine ok_if (fun hc => ?_) (fun hc => ?_)
  ·have hc : v = true := hc
   subst hc
   have hl3 := hL.later hF3
   obtain ⟨top, htop⟩ : ∃ top, top = (l.getLastD (0, 0)).2 := ⟨_, rfl⟩
   rw [← htop] at hz
   try dsimp only
   rw [hwl]
   refine ok_need (need3 (by omega) (by omega) hA) (ok_need (by rw [Option.isSome_map]; exact hA) ?_)
   refine ok_getf (R := R30.row) 1 (hS0.later hF3) (Fine.refl _ _) (last_get hl0) (fun cs hcs => ⟨top, by rw [hcs, htop]; rfl, ?_⟩)
   try dsimp only
   refine ok_need rfl (ok_need rfl ?_)
   refine ok_ob (R := RW58.row) 2 hl3.obj.sl (Fine.refl _ _) (fun cs hcs => ⟨q.2.2.1, by rw [hcs]; rfl, ?_⟩)
   try dsimp only
   refine ok_if (fun hc => ?_) (fun hc => ?_)
   ·rw [hc] at hz; exact fin 14 _ _ hz hF3
   rw [hc] at hz
   refine ok_callh (lb g) (fun b hb => ⟨(hl3.lt b hb).2, (hl3.lt b hb).1⟩) (fun ρ L w4 g4 lt4 hout hap => ?_)
   have hl4 := hl3.later g4
   obtain ⟨σ, hσ⟩ : ∃ σ : Nat → Nat, σ = fun k => match k with | 0 => ρ 1000 | k => k := ⟨_, rfl⟩
   have hSt : Stand σ w4 (ex32 A l.length c) := by rw [hσ]; exact ⟨hout.1.2, trivial⟩
   have hAp : Apart σ (ex32 A l.length c) := apart_map (by rw [hσ]; rfl) hap
   have hown : ∀ b, own σ (ex32 A l.length c) b → L b := by
    rintro b ⟨x, hx, rfl⟩
    rw [hσ]
    simp only [List.mem_cons, List.not_mem_nil, or_false] at hx
    subst hx
    exact hout.1.1
   have hFw4 := hF3.trans g4
   have hch := ch32 k σ A c l w4 q.1 f (hf rfl) hAp hSt ((hS0.later hFw4).mono hown)
   rw [hσ] at hch
   refine (settle_c 32 _ f (eg_of Try.func32 rfl rfl) g q w4 hl4.bare hG hch).mono ?_
   rintro e w5 ⟨B, d, rfl, hf5, hl5, hO5⟩
   refine ⟨((B, (q.1.filter f).length, d), (A, l.length, c), ()), rfl, rfl, hf5, fun g5 hid5 hv5 => ?_⟩
   try dsimp only
   have hF5 : Fine (lb g) w L w5 := Fine.own (fine_lb g hF3) g5 (fun b hb => Or.inl hb) hid5
   have hO6 : OwnF w.heap.size L w5 54 R36 B d (q.1.filter f) := (OwnF.vis hO5 (fun b hb => hv5 b (Or.inr (OwnF.fresh hO5 b hb)))).down hFw4.size
   have hl6 := hl5.seen (L' := L) (fun b hb => hv5 b (Or.inl hb))
   have hBl : ∀ b, blk (B, 0, 0) b → ¬ lb g b := fun b hb h => by
    have h1 := Own.base hO6 hb
    have h2 := (hL.lt b h).1
    omega
   refine ok_need rfl (ok_need rfl ?_)
   refine ok_ob (R := RW58.row) 1 hl6.obj.sl (Fine.refl _ _) (fun cs hcs => ⟨q.2.1, by rw [hcs]; rfl, ?_⟩)
   try dsimp only
   rw [hwl]
   refine ok_need (need3 (by omega) (by omega) hA) (ok_need (by rw [Option.isSome_map]; exact hA) ?_)
   refine ok_getf (R := R30.row) 1 (hS.later hF5) (Fine.refl _ _) (last_get hl0) (fun cs hcs => ⟨top, by rw [hcs, htop]; rfl, ?_⟩)
   try dsimp only
   refine ok_need rfl (ok_need rfl ?_)
   obtain ⟨q1, hq1⟩ : ∃ q1 : Led, q1 = (q.1.filter (fun p => !f p), (if q.2.1 < top then top else q.2.1), q.2.2) := ⟨_, rfl⟩
   refine ok_put0 (R := RW58) (x' := (some g, (if q.2.1 < top then top else q.2.1), q.2.2)) (vs := [.int .i64 (if q.2.1 < top then top else q.2.1)]) 1 hl6.obj (show 1 + 1 ≤ 4 by decide) rfl (fun _ => rfl) (fun L7 w7 hO7 hF7 hid7 => ?_)
   have hl7 := hl6.store (z := ((if q.2.1 < top then top else q.2.1), q.2.2)) hO7 hF7 hid7
   have hF8 : Fine (lb g) w L7 w7 := Fine.own hF5 hF7 (fun b hb => Or.inl (Or.inr (lp_blk.1 hb))) hid7
   have hO8 : OwnF w.heap.size L7 w7 54 R36 B d (q.1.filter f) := OwnF.others hO6 (fun b hb h => hBl b hb (Or.inr (lp_blk.1 h))) hF7
   rw [← hq1] at hz
   have hl7 : LedO L7 w7 g q1 := by rw [hq1]; exact hl7
   have hG1 : LedG q1 := by
    rw [hq1]
    exact ⟨hG.sorted.filter _, fun p hp => hG.rng p (List.mem_filter.1 hp).1, hG.last, Nat.le_trans (List.length_filter_le _ _) hG.len⟩
   refine ok_callo (lb g) rfl (fun b hb => ⟨(hl7.lt b hb).2, (hl7.lt b hb).1⟩) (fun L9 w9 g9 lt9 => ?_)
   have hl9 := hl7.later g9
   refine (lose_c k g q1 now wait true hv w9 hl9.bare hG1).mono ?_
   rintro e w10 ⟨B2, d2, rfl, hf10, hl10, hO10⟩
   refine ⟨((B2, (loseF q1 now wait true).1.length, d2), ()), rfl, hf10, fun g10 hid10 hv10 => ?_⟩
   try dsimp only
   have hF10 : Fine (lb g) w L9 w10 := Fine.own hF8 g10 (fun b hb => Or.inl hb) hid10
   have hO11 : OwnF w.heap.size L9 w10 54 R36 B2 d2 (loseF q1 now wait true).1 := (OwnF.vis hO10 (fun b hb => hv10 b (Or.inr (OwnF.fresh hO10 b hb)))).down (hF8.trans g9).size
   have hO12 : OwnF w.heap.size L9 w10 54 R36 B d (q.1.filter f) := OwnF.others hO8 (fun b hb h => hBl b hb h) g10
   have hl11 := hl10.seen (L' := L9) (fun b hb => hv10 b (Or.inl hb))
   have hz : z = (q.1.filter f, (loseF q1 now wait true).1, 0, (loseF q1 now wait true).2) := hz
   subst hz
   intro ρ L' w' _ he _ _
   exact ⟨B, d, B2, d2, rfl, (hF10.ext he).with (fun b hb => Or.inl hb), (hl11.later he.fine).bare, (hO12.later he.fine).ret, (hO11.later he.fine).ret⟩
  ·have hc : v = false := hc
   subst hc
   exact fin 1 _ _ hz hF3
 ·have hc : r = false := hc
  subst hc
  exact fin 1 _ _ hz hF2
end Go.Proofs.Ytkchgcefmnbebaa.X
