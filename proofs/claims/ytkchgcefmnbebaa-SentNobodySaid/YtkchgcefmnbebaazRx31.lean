import Derived.Test.YtkchgcefmnbebaazRxSeat
namespace Go.Proofs.YtkchgcefmnbebaaW.Rx
open Go Go.RowKit
set_option linter.unusedVariables false
section
variable {α : Type} {P : Program} {Q : Ending → World → Prop} {pin : List (Nat × Nat)} {J : Jt} {L Lu : Nat → Prop} {wu w : World}
theorem ok_boxR {R : Row α} {x : α} {t : TypeId} {v : Value} {k : Tup [Lf.p] → XT} (hcells : ∀ L w, Fine Lu wu L w → R.rep L w x v.cells.toList)
  (hk : ∀ a L w, ObR R L w a (some x) → Fine Lu wu L w → (∀ b, blk (a, 0, 0) b → wu.heap.size ≤ b) → (k (a, ())).ok P pin Q J L w) : (XT.sem (Instr.box t v) [Lf.p] Sh.one k).ok P pin Q J Lu wu := by
 refine ok_semm (fun L w hF hlt => ⟨(some ⟨w.heap.size, 0, none⟩, ()), w.alloc (.cells v.cells t), rfl, keeps_below hlt ((Below.refl w.heap.size w).alloc (Nat.le_refl _) _), ?_⟩)
 have hG0 : Fine L w L (w.alloc (.cells v.cells t)) := (Fine.refl L w).step ((Below.refl w.heap.size w).alloc (Nat.le_refl _) _)
 have hG : Fine Lu wu L (w.alloc (.cells v.cells t)) := hF.trans hG0
 refine hk (some ⟨w.heap.size, 0, none⟩) L _ ⟨rfl, ⟨⟨v.cells.toList, ?_, v.cells.toList, [], (List.append_nil _).symm, hcells _ _ hG, rfl⟩, Nat.le_refl _, by simp⟩⟩ hG ?_
 ·intro j u hu
  refine ⟨⟨w.heap.size, 0, none⟩, rfl, ?_, fun hl => Nat.lt_irrefl _ (hlt _ hl)⟩
  have hb : (w.alloc (.cells v.cells t)).heap[w.heap.size]? = some (.cells v.cells t (0, 0)) := Array.getElem?_push_size
  have hz : (⟨w.heap.size, 0, Option.none⟩ : Addr).add j = ⟨w.heap.size, j, Option.none⟩ := by
   unfold Addr.add
   split
   ·rename_i h0; subst h0; rfl
   ·simp
  rw [hz]
  unfold World.cell?
  dsimp only
  rw [hb]
  simpa using hu
 ·rintro b ⟨ad, ha, rfl⟩
  cases ha
  exact hF.size
variable {R : Ending → World → Prop}
end
end Go.Proofs.YtkchgcefmnbebaaW.Rx
