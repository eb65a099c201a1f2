import Derived.Test.YtkchgcefmnbebaazSm6
namespace Go.Proofs.Ytkchgcefmnbebaa.X
open Go Go.RowKit Go.Proofs.YtkchgcefmnbebaaW.Rx
set_option linter.unusedVariables false
set_option linter.unusedSimpArgs false
set_option maxRecDepth 20000
theorem back_mem {ρ : Nat → Nat} {w : World} {f : Nat × List AV × TypeId → List Value} : ∀ {ex : Out}, Back ρ w ex (ex.map f) → ∀ x ∈ ex, w.heap[ρ x.1]? = some (.cells (f x).toArray x.2.2 (0, 0))
 | (k, c, T) :: r, h, x, hx => by
  rcases List.mem_cons.1 hx with rfl | hx
  ·exact h.1
  ·exact back_mem h.2 x hx
theorem chg_below {ρ : Nat → Nat} {ex : Out} {w w2 : World} (hs : Stand ρ w ex) (hb : Back ρ w2 ex (ex.map fun z => AV.gs ρ z.2.1)) (hc : Chg ρ ex w w2) : Below w.heap.size w w2 := by
 refine ⟨hc.2.1.1, hc.2.1.2.1, hc.2.1.2.2, hc.1, fun b hb' => ?_⟩
 by_cases h : ∃ x ∈ ex, ρ x.1 = b
 ·obtain ⟨x, hx, rfl⟩ := h
  rw [back_mem hb x hx, stand_mem hs x hx]
 ·exact hc.2.2 b hb' (away_iff.2 (fun x hx e => h ⟨x, hx, e⟩))
theorem stand_below {ρ : Nat → Nat} {w w2 : World} (hb : Below w.heap.size w w2) : ∀ {ex : Out}, Stand ρ w ex → Stand ρ w2 ex
 | [], _ => trivial
 | (k, c, T) :: r, h => ⟨(hb.block _ (Array.getElem?_eq_some_iff.1 h.1).1).trans h.1, stand_below hb h.2⟩
theorem led_below {L : Nat → Prop} {w w2 : World} {g : Nat} {q : Led} (h : LedO L w g q) (hb : Below w.heap.size w w2) : LedO L w2 g q := h.later ((Fine.refl L w).step hb)
abbrev ex37 (a : Option Addr) (wait now : Int) : Out := [(0, [AV.v (.pointer a)], 23), (1, [AV.v (.int .i64 wait)], 3), (2, [AV.v (.int .i64 now)], 3)]
theorem f37_t (p1 p2 p3 : Int) (a : Option Addr) (wait now : Int) : tree Try.prog noA noC Try.f37 [AV.agg [AV.v (.int .i64 p1), AV.v (.int .i64 p2), AV.v (.int .i64 p3)], AV.p 0 0, AV.p 1 0, AV.p 2 0] (ex37 a wait now) =
  .need (Option.isSome a) (
  .need (Option.isSome a) (
  .ld (Option.map (fun x => Addr.add x 1) a) ([Lf.i .i64]) (fun x0 =>
   bif decide (p1 < x0.1) then (
    .need (Option.isSome a) (
    .need (Option.isSome a) (
    .ld (Option.map (fun x => Addr.add x 1) a) ([Lf.i .i64]) (fun x1 =>
     bif decide (IntKind.i64.wrap (p1 + 3) ≤ x1.1) then (
      .done (AV.v (Value.bool true)) (ex37 a wait now))
     else (
      bif decide (IntKind.i64.wrap (p2 + wait) ≤ now) then (
       .done (AV.v (Value.bool true)) (ex37 a wait now))
      else (
       .done (AV.v (Value.bool false)) (ex37 a wait now)))))))
   else (
    .done (AV.v (Value.bool false)) (ex37 a wait now))))) := by kernel_rfl
def h37 (lg now wait : Int) (p : Pk) : Bool := decide (p.1 < lg) && (decide (IntKind.i64.wrap (p.1 + 3) ≤ lg) || decide (IntKind.i64.wrap (p.2.1 + wait) ≤ now))
theorem ch37 (ρ : Nat → Nat) (g : Nat) (q : Led) (w : World) (now wait : Int) (out : List Pk) (hap : Apart ρ (ex37 (lp g) wait now)) (hs : Stand ρ w (ex37 (lp g) wait now)) (hl : LedO (own ρ (ex37 (lp g) wait now)) w g q) :
  Chooses w 37 (AV.gs ρ [AV.p 0 0, AV.p 1 0, AV.p 2 0]).toArray out (h37 q.2.1 now wait) := by
 intro p hp W hW
 have hs := stand_below hW hs
 have hl := led_below hl hW
 obtain ⟨v, hv⟩ : ∃ v, v = h37 q.2.1 now wait p := ⟨_, rfl⟩
 rw [← hv]
 have key := enterT (P := Try.prog) (w := W) (R := fun e w2 => e = .returned ((AV.v (.bool v)).g ρ) ∧ Back ρ w2 (ex37 (lp g) wait now) ((ex37 (lp g) wait now).map fun x => AV.gs id x.2.1) ∧ Chg ρ (ex37 (lp g) wait now) W w2) mixed noA noC [AV.agg [AV.v (.int .i64 p.1), AV.v (.int .i64 p.2.1), AV.v (.int .i64 p.2.2)], AV.p 0 0, AV.p 1 0, AV.p 2 0] (ex37 (lp g) wait now) ρ Try.func37 (c := _) rfl rfl hs hap rfl rfl (fun hF => by
  rw [f37_t]
  unfold h37 at hv
  refine ok_need rfl (ok_need rfl ?_)
  refine ok_ob (R := RW58.row) 1 hl.obj.sl (Fine.refl _ _) (fun cs hcs => ⟨q.2.1, by rw [hcs]; rfl, ?_⟩)
  try dsimp only
  refine ok_if (fun hc => ?_) (fun hc => ?_)
  ·rw [hc, Bool.true_and] at hv
   refine ok_need rfl (ok_need rfl ?_)
   refine ok_ob (R := RW58.row) 1 hl.obj.sl (Fine.refl _ _) (fun cs hcs => ⟨q.2.1, by rw [hcs]; rfl, ?_⟩)
   try dsimp only
   refine ok_if (fun hc2 => ?_) (fun hc2 => ?_)
   ·rw [hc2, Bool.true_or] at hv
    subst hv
    exact ok_doneT hF rfl rfl rfl rfl rfl rfl
   ·rw [hc2, Bool.false_or] at hv
    refine ok_if (fun hc3 => ?_) (fun hc3 => ?_)
    ·rw [hc3] at hv
     subst hv
     exact ok_doneT hF rfl rfl rfl rfl rfl rfl
    ·rw [hc3] at hv
     subst hv
     exact ok_doneT hF rfl rfl rfl rfl rfl rfl
  ·rw [hc, Bool.false_and] at hv
   subst hv
   exact ok_doneT hF rfl rfl rfl rfl rfl rfl)
 refine key.mono ?_
 rintro e w2 ⟨rfl, hb, hc⟩
 exact ⟨rfl, chg_below hs hb hc⟩
abbrev ex40 (a : Option Addr) : Out := [(0, [AV.v (.pointer a)], 23)]
theorem f40_t (p1 p2 p3 : Int) (a : Option Addr) : tree Try.prog noA noC Try.f40 [AV.agg [AV.v (.int .i64 p1), AV.v (.int .i64 p2), AV.v (.int .i64 p3)], AV.p 0 0] (ex40 a) =
  .need (Option.isSome a) (
  .need (Option.isSome a) (
  .ld (Option.map (fun x => Addr.add x 1) a) ([Lf.i .i64]) (fun x0 =>
   bif decide (p1 < x0.1) then (
    .done (AV.v (Value.bool true)) (ex40 a))
   else (
    .done (AV.v (Value.bool false)) (ex40 a))))) := by kernel_rfl
def h40 (lg : Int) (p : Pk) : Bool := decide (p.1 < lg)
theorem ch40 (ρ : Nat → Nat) (g : Nat) (q : Led) (w : World) (out : List Pk) (hap : Apart ρ (ex40 (lp g))) (hs : Stand ρ w (ex40 (lp g))) (hl : LedO (own ρ (ex40 (lp g))) w g q) :
  Chooses w 40 (AV.gs ρ [AV.p 0 0]).toArray out (h40 q.2.1) := by
 intro p hp W hW
 have hs := stand_below hW hs
 have hl := led_below hl hW
 obtain ⟨v, hv⟩ : ∃ v, v = h40 q.2.1 p := ⟨_, rfl⟩
 rw [← hv]
 have key := enterT (P := Try.prog) (w := W) (R := fun e w2 => e = .returned ((AV.v (.bool v)).g ρ) ∧ Back ρ w2 (ex40 (lp g)) ((ex40 (lp g)).map fun x => AV.gs id x.2.1) ∧ Chg ρ (ex40 (lp g)) W w2) mixed noA noC [AV.agg [AV.v (.int .i64 p.1), AV.v (.int .i64 p.2.1), AV.v (.int .i64 p.2.2)], AV.p 0 0] (ex40 (lp g)) ρ Try.func40 (c := _) rfl rfl hs hap rfl rfl (fun hF => by
  rw [f40_t]
  unfold h40 at hv
  refine ok_need rfl (ok_need rfl ?_)
  refine ok_ob (R := RW58.row) 1 hl.obj.sl (Fine.refl _ _) (fun cs hcs => ⟨q.2.1, by rw [hcs]; rfl, ?_⟩)
  try dsimp only
  refine ok_if (fun hc => ?_) (fun hc => ?_)
  ·rw [hc] at hv
   subst hv
   exact ok_doneT hF rfl rfl rfl rfl rfl rfl
  ·rw [hc] at hv
   subst hv
   exact ok_doneT hF rfl rfl rfl rfl rfl rfl)
 refine key.mono ?_
 rintro e w2 ⟨rfl, hb, hc⟩
 exact ⟨rfl, chg_below hs hb hc⟩
abbrev ex32 (A : Option Addr) (n c : Nat) : Out := [(0, [AV.v (.slice A n c)], 30)]
theorem f32_t (p1 p2 p3 : Int) (A : Option Addr) (n c : Nat) : tree Try.prog noA noC Try.f32 [AV.agg [AV.v (.int .i64 p1), AV.v (.int .i64 p2), AV.v (.int .i64 p3)], AV.p 0 0] (ex32 A n c) =
  .call 33 ([AV.v (Value.slice A n c), AV.v (.int .i64 p1)]) ([]) (Sh.one) ([Lf.b]) ([]) (fun x0 =>
   bif x0.1 then (
    .done (AV.v (Value.bool true)) (ex32 A n c))
   else (
    .done (AV.v (Value.bool false)) (ex32 A n c))) := by kernel_rfl
theorem ch32 (k : Nat) (ρ : Nat → Nat) (A : Option Addr) (c : Nat) (l : List (Int × Int)) (w : World) (out : List Pk) (f : Pk → Bool) (hf : ∀ p ∈ out, spans_Has.F k l p.1 = some (f p)) (hap : Apart ρ (ex32 A l.length c)) (hs : Stand ρ w (ex32 A l.length c)) (hl : SlR R30.row (own ρ (ex32 A l.length c)) w A c l) :
  Chooses w 32 (AV.gs ρ [AV.p 0 0]).toArray out f := by
 intro p hp W hW
 have hs := stand_below hW hs
 have hl := hl.below hW
 obtain ⟨v, hv⟩ : ∃ v, v = f p := ⟨_, rfl⟩
 have hfp := hf p hp
 rw [← hv] at hfp ⊢
 have key := enterT (P := Try.prog) (w := W) (R := fun e w2 => e = .returned ((AV.v (.bool v)).g ρ) ∧ Back ρ w2 (ex32 A l.length c) ((ex32 A l.length c).map fun x => AV.gs id x.2.1) ∧ Chg ρ (ex32 A l.length c) W w2) mixed noA noC [AV.agg [AV.v (.int .i64 p.1), AV.v (.int .i64 p.2.1), AV.v (.int .i64 p.2.2)], AV.p 0 0] (ex32 A l.length c) ρ Try.func32 (c := _) rfl rfl hs hap rfl rfl (fun hF => by
  rw [f32_t]
  refine ok_callq (v, ()) hF rfl (fun L w hf' => spans_Has.c k A l.length c l p.1 v hfp rfl w ((hl.later hf').mono (fun _ h => h.elim))) (fun L2 w2 hF2 => ?_)
  try dsimp only
  refine ok_if (fun hc => ?_) (fun hc => ?_)
  ·have hc : v = true := hc
   subst hc
   exact ok_doneT hF2 rfl rfl rfl rfl rfl rfl
  ·have hc : v = false := hc
   subst hc
   exact ok_doneT hF2 rfl rfl rfl rfl rfl rfl)
 refine key.mono ?_
 rintro e w2 ⟨rfl, hb, hc⟩
 exact ⟨rfl, chg_below hs hb hc⟩
theorem f41_t (p1 p2 p3 : Int) : tree Try.prog noA noC Try.f41 [AV.agg [AV.v (.int .i64 p1), AV.v (.int .i64 p2), AV.v (.int .i64 p3)]] [] = .done (AV.v (Value.bool true)) [] := by kernel_rfl
theorem f42_t (p1 p2 p3 : Int) : tree Try.prog noA noC Try.f42 [AV.agg [AV.v (.int .i64 p1), AV.v (.int .i64 p2), AV.v (.int .i64 p3)]] [] = .done (AV.v (Value.bool true)) [] := by kernel_rfl
theorem ch41 (w : World) (out : List Pk) : Chooses w 41 #[] out (fun _ => true) := by
 intro p hp W hW
 exact enter0 (P := Try.prog) (w := W) mixed noA noC [AV.agg [AV.v (.int .i64 p.1), AV.v (.int .i64 p.2.1), AV.v (.int .i64 p.2.2)]] Try.func41 (c := _) rfl rfl rfl (fun hF => by rw [f41_t]; exact ok_done hF rfl rfl)
theorem ch42 (w : World) (out : List Pk) : Chooses w 42 #[] out (fun _ => true) := by
 intro p hp W hW
 exact enter0 (P := Try.prog) (w := W) mixed noA noC [AV.agg [AV.v (.int .i64 p.1), AV.v (.int .i64 p.2.1), AV.v (.int .i64 p.2.2)]] Try.func42 (c := _) rfl rfl rfl (fun hF => by rw [f42_t]; exact ok_done hF rfl rfl)
end Go.Proofs.Ytkchgcefmnbebaa.X
