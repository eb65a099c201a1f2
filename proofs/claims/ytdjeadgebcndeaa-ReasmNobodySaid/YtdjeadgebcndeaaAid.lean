/- Small aids for walks by hand: what a block's cells read as. -/
import Derived.Test.YtdjeadgebcndeaaWWords
import Derived.Test.YtdjeadgebcndeaaWLast
import Derived.Lib.SlBytesConst
namespace Go.Proofs.YtdjeadgebcndeaaW.Aid
open Go.RowKit Go.Proofs.YtdjeadgebcndeaaW.PrintWords
set_option linter.unusedVariables false

theorem cell_at {w : World} {g off : Nat} {cells : Array Value} {T : Nat} {fr : Nat × Nat} (h : w.heap[g]? = some (.cells cells T fr)) (i : Nat) : w.cell? ((⟨g, off, none⟩ : Addr).add i) = cells[off + i]? := by
  unfold Addr.add
  by_cases hi : i = 0
  · subst hi; simp [World.cell?, h]
  · simp [World.cell?, h, hi]

/-- A block of whole numbers, from a place on. -/
theorem C_block {w : World} {g off : Nat} {cells : Array Value} {T : Nat} {fr : Nat × Nat} (k : IntKind) (l : List Int) (hl : l.length ≤ 9223372036854775807) (h : w.heap[g]? = some (.cells cells T fr)) (hc : ∀ i x, l[i]? = some x → cells[off + i]? = some (.int k x)) :
    Kd.C (Kd.int k) w (some ⟨g, off, none⟩) l.length l := by
  refine ⟨rfl, hl, fun _ => ⟨_, rfl, fun j p hp => ⟨[.int k p], rfl, rfl, fun i u hu => ?_⟩⟩⟩
  match i, hu with
  | 0, hu =>
    simp at hu
    subst hu
    show w.cell? ((⟨g, off, none⟩ : Addr).add (j * 1 + 0)) = _
    rw [Nat.mul_one, Nat.add_zero, cell_at h, hc j p hp]
  | i + 1, hu => simp at hu

theorem C_lit {w : World} {g : Nat} {T : Nat} {fr : Nat × Nat} (k : IntKind) (l : List Int) (hl : l.length ≤ 9223372036854775807) (h : w.heap[g]? = some (.cells (l.map (Value.int k)).toArray T fr)) :
    Kd.C (Kd.int k) w (some ⟨g, 0, none⟩) l.length l := by
  refine C_block k l hl h ?_
  intro i x hx
  simp [hx]
theorem heap_new (w : World) (o : Obj) : (w.alloc o).heap[w.heap.size]? = some o := by
  show (w.heap.push o)[w.heap.size]? = _
  simp
theorem below_new (w : World) (o : Obj) : Below w.heap.size w (w.alloc o) := below_alloc (Below.refl _ _) o
end Go.Proofs.YtdjeadgebcndeaaW.Aid
