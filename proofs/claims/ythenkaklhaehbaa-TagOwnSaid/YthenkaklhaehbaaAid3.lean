/- Small aids for walks by hand: arrays of whole numbers compared. -/
import Derived.Test.YthenkaklhaehbaaAid
import Derived.ChangeKeysEq
import Derived.Laws.Cover3
namespace Go.Proofs.YthenkaklhaehbaaW.Aid
open Go.RowKit
set_option linter.unusedVariables false
section
variable {P : Program} {w : World}
theorem eq_items (d : Nat) {e : TypeId} {k : IntKind} (he : P.underlying e = some (.int k)) (xs ys : List Int) : ∀ is : List Nat, (∀ i ∈ is, i < xs.length ∧ i < ys.length) →
    (Op.eqItems (d + 1) e 1 (xs.map (Value.int k)).toArray (ys.map (Value.int k)).toArray is).run P w = .ok (is.all fun i => xs.getD i 0 == ys.getD i 0) w := by
  intro is
  induction is with
  | nil => intro _; simp [Op.eqItems]
  | cons i is ih =>
    intro h
    obtain ⟨h1, h2⟩ := h i (by simp)
    have p1 : (part e (xs.map (Value.int k)).toArray (i * 1)).run P w = .ok (.int k (xs.getD i 0)) w := by
      simp [part, isAgg, run_underlying he, h1]
    have p2 : (part e (ys.map (Value.int k)).toArray (i * 1)).run P w = .ok (.int k (ys.getD i 0)) w := by
      simp [part, isAgg, run_underlying he, h2]
    simp only [Op.eqItems, Sem.run_bind, p1, p2, Result.andThen_ok, run_equalIn_int w d e k k _ _ he, List.all_cons]
    cases hb : (xs.getD i 0 == ys.getD i 0)
    · simp
    · simpa using ih (fun j hj => h j (by simp [hj]))
theorem all_range (xs ys : List Int) (n : Nat) (hx : xs.length = n) (hy : ys.length = n) : ((List.range n).all fun i => xs.getD i 0 == ys.getD i 0) = (xs == ys) := by
  rw [Bool.eq_iff_iff, List.all_eq_true, beq_iff_eq]
  constructor
  · intro h
    refine List.ext_getElem (by omega) (fun i h1 h2 => ?_)
    have := h i (by simp; omega)
    simpa [h1, h2] using this
  · intro h i hi
    rw [h]; simp
theorem eq_array (d : Nat) {t e : TypeId} {n : Nat} {i : TypeInfo} {k : IntKind} (xs ys : List Int) (hx : xs.length = n) (hy : ys.length = n) (hu : P.underlying t = some (.array n e)) (hi : P.info? e = some i) (hc : P.cellsOf e = 1) (he : P.underlying e = some (.int k)) :
    (Op.equalIn (d + 2) t (.agg (xs.map (Value.int k)).toArray) (.agg (ys.map (Value.int k)).toArray)).run P w = .ok (xs == ys) w := by
  rw [run_equalIn_array w (d + 1) _ _ hu hi, hc, eq_items d he xs ys (List.range n) (fun i h => by simp at h; omega), all_range xs ys n hx hy]
end
end Go.Proofs.YthenkaklhaehbaaW.Aid
