/- The machine for walks: composite literals as far objects; strings added; slices of pointers. -/
import Derived.Test.YtdjeadgebcndeaaRxSeat
namespace Go.Proofs.YtdjeadgebcndeaaW.Rx
open Go Go.RowKit
set_option linter.unusedVariables false
section
variable {α : Type} {P : Program} {Q : Ending → World → Prop} {pin : List (Nat × Nat)} {J : Jt} {L Lu : Nat → Prop} {wu w : World}
/-- Two strings are added. -/
theorem ok_sadd {a b : ByteArray} {k : Tup [Lf.s] → XT} (hs : a.size + b.size ≤ 9223372036854775807) (hk : ∀ L w, Fine Lu wu L w → (k (a ++ b, ())).ok P pin Q J L w) : (XT.sem (Op.stringOp .add a b) [Lf.s] Sh.one k).ok P pin Q J Lu wu := by
  refine ok_semm (fun L w hF hlt => ⟨(a ++ b, ()), w, ?_, ⟨Nat.le_refl _, ⟨rfl, rfl, rfl⟩, fun _ _ _ => rfl⟩, hk L w hF⟩)
  have : ¬ ((a.size + b.size : Nat) : Int) > IntKind.i64.max := by
    have e : IntKind.i64.max = 9223372036854775807 := rfl
    rw [e]; omega
  unfold Op.stringOp
  dsimp only
  rw [if_neg this]
  rfl
/-- A composite literal: a far object. -/
theorem ok_boxR {R : Row α} {x : α} {t : TypeId} {v : Value} {k : Tup [Lf.p] → XT} (hcells : ∀ L w, Fine Lu wu L w → R.rep L w x v.cells.toList)
    (hk : ∀ a L w, ObR R L w a (some x) → Fine Lu wu L w → (∀ b, blk (a, 0, 0) b → wu.heap.size ≤ b) → (k (a, ())).ok P pin Q J L w) : (XT.sem (Instr.box t v) [Lf.p] Sh.one k).ok P pin Q J Lu wu := by
  refine ok_semm (fun L w hF hlt => ⟨(some ⟨w.heap.size, 0, none⟩, ()), w.alloc (.cells v.cells t), rfl, keeps_below hlt ((Below.refl w.heap.size w).alloc (Nat.le_refl _) _), ?_⟩)
  have hG0 : Fine L w L (w.alloc (.cells v.cells t)) := (Fine.refl L w).step ((Below.refl w.heap.size w).alloc (Nat.le_refl _) _)
  have hG : Fine Lu wu L (w.alloc (.cells v.cells t)) := hF.trans hG0
  refine hk (some ⟨w.heap.size, 0, none⟩) L _ ⟨rfl, ⟨⟨v.cells.toList, ?_, v.cells.toList, [], (List.append_nil _).symm, hcells _ _ hG, rfl⟩, Nat.le_refl _, by simp⟩⟩ hG ?_
  · intro j u hu
    refine ⟨⟨w.heap.size, 0, none⟩, rfl, ?_, fun hl => Nat.lt_irrefl _ (hlt _ hl)⟩
    have hb : (w.alloc (.cells v.cells t)).heap[w.heap.size]? = some (.cells v.cells t (0, 0)) := Array.getElem?_push_size
    have hz : (⟨w.heap.size, 0, Option.none⟩ : Addr).add j = ⟨w.heap.size, j, Option.none⟩ := by
      unfold Addr.add
      split
      · rename_i h0; subst h0; rfl
      · simp
    rw [hz]
    unfold World.cell?
    dsimp only
    rw [hb]
    simpa using hu
  · rintro b ⟨ad, ha, rfl⟩
    cases ha
    exact hF.size
end
end Go.Proofs.YtdjeadgebcndeaaW.Rx
