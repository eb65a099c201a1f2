import Derived.Test.YtkchgcefmnbebaazSm7
namespace Go.Proofs.Ytkchgcefmnbebaa.X
open Go Go.RowKit Go.Proofs.YtkchgcefmnbebaaW.Rx
set_option linter.unusedVariables false
set_option linter.unusedSimpArgs false
set_option maxRecDepth 20000
section
variable {P : Program} {Q : Ending → World → Prop} {pin : List (Nat × Nat)} {J : Jt} {L Lu : Nat → Prop} {wu w : World}
theorem back_out {ρ : Nat → Nat} {w w2 : World} : ∀ {ex : Out}, Outs ρ L w ex → (∀ x ∈ ex, w2.heap[ρ x.1]? = w.heap[ρ x.1]?) → Back ρ w2 ex (ex.map fun z => AV.gs ρ z.2.1)
 | [], _, _ => trivial
 | (k, c, T) :: r, h, hk => ⟨(hk _ List.mem_cons_self).trans h.1.2, back_out h.2 (fun x hx => hk x (List.mem_cons_of_mem _ hx))⟩
theorem ok_callh (B : Nat → Prop) {f : FuncId} {args : List AV} {ex : Out} {sh : Sh} {ls : List Lf} {les : List Nat} {k : Tup ls → XT} (hB : ∀ b, B b → ¬ Lu b ∧ b < wu.heap.size)
  (hc : ∀ ρ L w, Fine Lu wu L w → (∀ b, L b → b < w.heap.size) → Outs ρ L w ex → Apart ρ ex → Calls P f (AV.gs ρ args).toArray w fun e w2 => ∃ x, e = .returned ((sh.av (vs ls x)).g id) ∧ segs les ((Tup.V ls x).drop (ls.length - les.sum)) = ex.map (fun z => AV.gs ρ z.2.1) ∧ Fine B w B w2 ∧ (Fine (fun b => Lu b ∨ B b) wu L w2 → (∀ q, L q → Lu q ∨ wu.heap.size ≤ q) → (∀ b, B b ∨ w.heap.size ≤ b → ¬ L b) → (k x).ok P pin Q J L w2)) : (XT.call f args ex sh ls les k).ok P pin Q J Lu wu := by
 intro ρ L w _ he hout hap
 have hv : ∀ b, B b → ¬ L b := fun b hb hl => (hB b hb).1 (by
  rcases he.fine.hid b hl with h | h
  ·exact h
  ·have := (hB b hb).2; omega)
 refine (hc ρ L w he.fine he.lt hout hap).mono ?_
 rintro e w2 ⟨x, rfl, hsg, hb, hk⟩
 have hkeep : ∀ b, L b → w2.heap[b]? = w.heap[b]? := fun b hl => hb.keep b (he.lt b hl) (fun h => hv b h hl)
 refine Or.inl ⟨x, ?_, ?_, ⟨hb.size, ⟨hb.os, hb.tape, hb.output⟩, fun b hl _ => hkeep b hl⟩, hk ⟨hb.os.trans he.fine.os, hb.tape.trans he.fine.tape, hb.output.trans he.fine.output, Nat.le_trans he.fine.size hb.size, fun b hlt hS => ?_, fun b hl => ?_⟩ he.fine.hid (fun b hb hl => ?_)⟩
 ·rw [g_congr (D := fun _ => false) (ρ := id) (σ := ρ) (fun k hk => by cases hk) _ (av_wf _ sh _ (vs_wf _ _ _))]
 ·rw [hsg]
  exact back_out hout (fun y hy => hkeep _ (outs_hid hout y hy))
 ·rw [hb.keep b (Nat.lt_of_lt_of_le hlt he.fine.size) (fun h => hS (Or.inr h))]
  exact he.fine.keep b hlt (fun h => hS (Or.inl h))
 ·rcases he.fine.hid b hl with h | h
  ·exact Or.inl (Or.inl h)
  ·exact Or.inr h
 ·rcases hb with hb | hb
  ·exact hv b hb hl
  ·have := he.lt b hl; omega
end
theorem f26_t (a0 : Option Addr) : tree Try.prog noA noC Try.f26 [AV.v (.pointer a0)] [] =
  bif !Option.isNone a0 then (
   .need (Option.isSome a0) (
   .need (Option.isSome a0) (
   .ld (Option.map (fun x => Addr.add x 0) a0) ([Lf.m]) (fun x0 =>
    bif !Option.isNone x0.1 then (
     .done (AV.v (Value.bool true)) ([]))
    else (
     .done (AV.v (Value.bool false)) ([]))))))
  else (
   .done (AV.v (Value.bool false)) ([])) := by kernel_rfl
theorem led_ok (g : Nat) (q : Led) (w : World) (h : LedO (fun _ => False) w g q) : Calls Try.prog 26 #[.pointer (lp g)] w fun e w' => e = .returned (.bool true) ∧ Below w.heap.size w w' :=
 enter0 (P := Try.prog) (w := w) mixed noA noC [AV.v (.pointer (lp g))] Try.func26 (c := _) rfl rfl rfl (fun hF => by
  rw [f26_t]
  refine ok_if (fun _ => ?_) (fun h => by simp at h)
  refine ok_need rfl (ok_need rfl ?_)
  refine ok_ob (R := RW58.row) 0 h.obj.sl (Fine.refl _ _) (fun cs hcs => ⟨some g, by rw [hcs]; rfl, ?_⟩)
  refine ok_if (fun _ => ?_) (fun h => by simp at h)
  exact ok_done hF rfl rfl)
theorem f17_t (a0 : Option Addr) (a1 a2 : Int) : tree Try.prog noA noC Try.f17 [AV.v (.pointer a0), AV.v (.int .i64 a1), AV.v (.int .i64 a2)] [] =
  .call 26 ([AV.v (Value.pointer a0)]) ([]) (Sh.one) ([Lf.b]) ([]) (fun x0 =>
   bif x0.1 then (
    .call 30 ([AV.v (.int .i64 a1), AV.v (.int .i64 a2)]) ([]) (Sh.one) ([Lf.b]) ([]) (fun x1 =>
     bif x1.1 then (
      .call 31 ([AV.v (Value.pointer a0), AV.fn (Fn.func 37) [] [AV.p 1000 0, AV.p 1002 0, AV.p 1001 0]]) ([(1000, [AV.v (Value.pointer a0)], 23), (1002, [AV.v (.int .i64 a2)], 3), (1001, [AV.v (.int .i64 a1)], 3)]) (Sh.one) ([Lf.sl, Lf.p, Lf.i .i64, Lf.i .i64]) ([1, 1, 1]) (fun x2 =>
       .done (AV.v (Value.slice x2.1.1 x2.1.2.1 x2.1.2.2)) ([])))
     else (
      .done (AV.v (Value.slice none 0 0)) ([]))))
   else (
    .done (AV.v (Value.slice none 0 0)) ([]))) := by kernel_rfl
def loseF (q : Led) (now wait : Int) (v : Bool) : List Pk × Led := bif v then (q.1.filter (h37 q.2.1 now wait), (q.1.filter (fun p => !h37 q.2.1 now wait p), q.2)) else ([], q)
theorem eg_of {f : Nat} {fn : Func} (h : Try.prog.funcs[f]? = some fn) (hn : (fn.name == "runtime.NumGoroutine") = false) (hb : fn.body.isSome = true) : ∀ args w, (callFunc f args).run Try.prog w = .ok (.enter f args) w := fun args w => run_callFunc (P := Try.prog) args (by unfold callable; rw [h]; simp [hn, hb])
set_option maxHeartbeats 4000000 in
theorem lose_c (k : Nat) (g : Nat) (q : Led) (now wait : Int) (v : Bool) (hv : sent_isWait.F k now wait = some v) (w : World) (hL : LedO (fun _ => False) w g q) (hG : LedG q) :
  Calls Try.prog 17 #[.pointer (lp g), .int .i64 now, .int .i64 wait] w (SetE w g (loseF q now wait v).1 (loseF q now wait v).2) := by
 refine enter0 (P := Try.prog) mixed noA noC [AV.v (.pointer (lp g)), AV.v (.int .i64 now), AV.v (.int .i64 wait)] Try.func17 (c := _) rfl rfl rfl (fun hF0 => ?_)
 rw [f17_t]
 refine ok_callq (true, ()) hF0 rfl (fun L w1 g1 => led_ok g q w1 (hL.later g1).bare) (fun L1 w1 hF1 => ?_)
 try dsimp only
 refine ok_if (fun _ => ?_) (fun h => by simp at h)
 refine ok_callq (v, ()) hF1 rfl (fun L w1 g1 => sent_isWait.c k now wait v hv w1) (fun L2 w2 hF2 => ?_)
 try dsimp only
 have hl2 := hL.later hF2
 refine ok_if (fun hc => ?_) (fun hc => ?_)
 ·have hc : v = true := hc
  subst hc
  refine ok_callh (lb g) (fun b hb => ⟨(hl2.lt b hb).2, (hl2.lt b hb).1⟩) (fun ρ L w3 g3 lt3 hout hap => ?_)
  have hl3 := hl2.later g3
  obtain ⟨σ, hσ⟩ : ∃ σ : Nat → Nat, σ = fun k => match k with | 0 => ρ 1000 | 1 => ρ 1002 | 2 => ρ 1001 | k => k := ⟨_, rfl⟩
  have hS : Stand σ w3 (ex37 (lp g) wait now) := by rw [hσ]; exact ⟨hout.1.2, hout.2.1.2, hout.2.2.1.2, trivial⟩
  have hA : Apart σ (ex37 (lp g) wait now) := apart_map (by rw [hσ]; rfl) hap
  have hown : ∀ b, own σ (ex37 (lp g) wait now) b → L b := by
   rintro b ⟨x, hx, rfl⟩
   rw [hσ]
   simp only [List.mem_cons, List.not_mem_nil, or_false] at hx
   rcases hx with rfl | rfl | rfl
   ·exact hout.1.1
   ·exact hout.2.1.1
   ·exact hout.2.2.1.1
  have hch := ch37 σ g q w3 now wait q.1 hA hS (hl3.seen (fun b hb ho => (hl3.lt b hb).2 (hown b ho)))
  rw [hσ] at hch
  refine (settle_c 37 _ (h37 q.2.1 now wait) (eg_of Try.func37 rfl rfl) g q w3 hl3.bare hG hch).mono ?_
  rintro e w4 ⟨B, d, rfl, hf4, hl4, hO4⟩
  refine ⟨((B, (q.1.filter (h37 q.2.1 now wait)).length, d), lp g, wait, now, ()), rfl, rfl, hf4, fun g4 hid4 hv4 => ?_⟩
  try dsimp only
  have hF4 : Fine (lb g) w L w4 := by
   have hw3 := hF2.trans g3
   refine ⟨hf4.os.trans hw3.os, hf4.tape.trans hw3.tape, hf4.output.trans hw3.output, Nat.le_trans hw3.size hf4.size, fun b hb hn => ?_, fun b hb => (hw3.hid b hb).elim False.elim Or.inr⟩
   rw [hf4.keep b (Nat.lt_of_lt_of_le hb hw3.size) hn]
   exact hw3.keep b hb (fun h => h)
  have hs3 : w.heap.size ≤ w3.heap.size := (hF2.trans g3).size
  have hO5 : OwnF w.heap.size L w4 54 R36 B d (q.1.filter (h37 q.2.1 now wait)) := (OwnF.vis hO4 (fun b hb => hv4 b (Or.inr (OwnF.fresh hO4 b hb)))).down hs3
  have hl5 := hl4.seen (L' := L) (fun b hb => hv4 b (Or.inl hb))
  intro ρ L' w' _ he _ _
  exact ⟨B, d, rfl, (hF4.ext he).with (fun b hb => Or.inl hb), (hl5.later he.fine).bare, (hO5.later he.fine).ret⟩
 ·have hc : v = false := hc
  subst hc
  intro ρ L' w' _ he _ _
  have hb := hF2.ext he
  exact ⟨none, 0, rfl, ⟨hb.os, hb.tape, hb.output, hb.size, fun b hb' _ => hb.keep b hb' (fun h => h), fun b hb => Or.inl hb⟩, (hl2.later he.fine).bare, OwnF.nil _ _ _ _ _⟩
end Go.Proofs.Ytkchgcefmnbebaa.X
