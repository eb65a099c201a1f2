/- How arguments are opened: what a Go datum of a type reads as, in the words of the printer's kinds; for every type of whole numbers, bools, strings, structs, arrays and slices of these. -/
import Derived.ProofKit
import Derived.OpenShut
import Derived.Deep.Slices
import Derived.SizedLaws
import Derived.ShutString
import Derived.Test.YtbfpoannmkblhaaWWords
import Derived.Test.YtbfpoannmkblhaaWLast
namespace Go.Proofs.YtbfpoannmkblhaaW.Opens
open Go.ChangeShapes Go.WideShapes Go.RowKit Go.Deep Go.Proofs.YtbfpoannmkblhaaW.PrintWords
set_option linter.unusedVariables false

/-- Every reading at type t is a value of the kind d, of which wf holds. -/
def Opens {α : Type} (P : Program) (t : TypeId) (d : Kd α) (wf : α → Prop) : Prop :=
  ∀ (H : Type) (enc : TypeId × Value → H) (w : World) (fuel : Nat) (cs : List Value) (x : DataW H × List MemPlace),
    DataW.trod enc P w 0 (fun _ => true) true fuel t cs = some x → ∃ v : α, d.K w v cs ∧ wf v

theorem opens_int {P : Program} {t : TypeId} {k : IntKind} (ht : P.underlying t = some (.int k)) : Opens P t (Kd.int k) (fun n => (Lit.int k n).wf = true) := by
  intro H enc w fuel cs x h
  obtain ⟨n, rfl, _, hw⟩ := DataW.trod_int ht h
  exact ⟨n, rfl, hw⟩
theorem opens_bool {P : Program} {t : TypeId} (ht : P.underlying t = some .bool) : Opens P t Kd.bool (fun _ => True) := by
  intro H enc w fuel cs x h
  obtain ⟨n, rfl, _⟩ := DataW.trod_bool ht h
  exact ⟨n, rfl, trivial⟩
theorem opens_string {P : Program} {t : TypeId} (ht : P.underlying t = some .string) : Opens P t Kd.string (fun s => s.size ≤ maxLen) := by
  intro H enc w fuel cs x h
  obtain ⟨n, rfl, _, hm⟩ := DataW.trod_string ht h
  exact ⟨n, rfl, hm⟩
theorem cells_at {w : World} {a : Addr} {n : Nat} {cs : List Value} (h : w.cells? 0 a n = some cs) : cs.length = n ∧ ∀ i u, cs[i]? = some u → w.cell? (a.add i) = some u := by
  obtain ⟨_, hl, hc⟩ := World.cells?_some h
  refine ⟨hl, fun i u hu => ?_⟩
  have hi : i < n := by
    rw [← hl]
    exact (List.getElem?_eq_some_iff.1 hu).1
  rw [hc i hi]
  exact hu
theorem opens_slice {α : Type} {P : Program} {t e : TypeId} {d : Kd α} {wf : α → Prop} (ht : P.underlying t = some (.slice e)) (hz : P.cellsOf e = d.sz) (he : Opens P e d wf) :
    Opens P t (Kd.slice e d) (fun l => l.length ≤ maxLen ∧ ∀ x ∈ l, wf x) := by
  classical
  intro H enc w fuel cs x h
  rcases open_slice ht h with ⟨rfl, _⟩ | ⟨a, len, cap, m, n, D, Pl, rfl, _, hl, hm, hmm, _, hel⟩
  · refine ⟨[], ⟨none, 0, rfl, Nat.le_refl _, ?_⟩, ?_, ?_⟩
    · exact ⟨rfl, by simp, fun h => absurd h (by simp)⟩
    · simp [maxLen]
    · intro x hx; cases hx
  · rw [if_pos rfl] at hmm
    obtain rfl : m = cap := hmm
    have hv : ∀ i : Fin len, ∃ v : α, ∃ c : List Value, w.cells? 0 (a.add (i.1 * P.cellsOf e)) (P.cellsOf e) = some c ∧ d.K w v c ∧ wf v := by
      intro i
      obtain ⟨c, hc, ht'⟩ := hel i.1 (by omega)
      obtain ⟨v, hk, hw⟩ := he H enc w _ _ _ ht'
      exact ⟨v, c, hc, hk, hw⟩
    refine ⟨List.ofFn fun i => Classical.choose (hv i), ⟨some a, m, by simp, by simpa using hl, ?_⟩, by simpa using Nat.le_trans hl hm, ?_⟩
    · refine ⟨rfl, by simp; unfold maxLen at hm; omega, fun _ => ⟨a, rfl, ?_⟩⟩
      intro j p hp
      rw [List.getElem?_eq_some_iff] at hp
      obtain ⟨hj, hp⟩ := hp
      simp only [List.length_ofFn] at hj
      obtain ⟨c, hc, hk, _⟩ := Classical.choose_spec (hv ⟨j, hj⟩)
      have hpe : Classical.choose (hv ⟨j, hj⟩) = p := by rw [← hp]; simp
      rw [hpe] at hk
      obtain ⟨h1, h2⟩ := cells_at hc
      refine ⟨c, by rw [h1, hz], hk, ?_⟩
      intro i u hu
      have := h2 i u hu
      rw [Deep.add_add, hz] at this
      exact this
    · intro x hx
      obtain ⟨i, rfl⟩ := List.mem_ofFn.1 hx
      obtain ⟨_, _, _, hw⟩ := Classical.choose_spec (hv i)
      exact hw
/-- A slice's own value: what its elements are. -/
theorem slice_args {α : Type} {d : Kd α} {e : Nat} {w : World} {l : List α} {a : Option Addr} {n c : Nat} (h : (Kd.slice e d).K w l [.slice a n c]) : n = l.length ∧ l.length ≤ c ∧ d.C w a l.length l := by
  obtain ⟨A, c', he, hl, hc⟩ := h
  simp only [List.cons.injEq, Value.slice.injEq, and_true] at he
  obtain ⟨rfl, rfl, rfl⟩ := he
  exact ⟨rfl, hl, hc⟩
theorem struct_cells {α : Type} {t : TypeId} {d : Kd α} {P : Program} {wf : α → Prop} {fs : Array Field} {H : Type} {enc : TypeId × Value → H} {W : World} {base : Nat} {v : Value} {x : DataW H} {ps : List MemPlace}
    (ho : Opens P t d wf) (hu : P.underlying t = some (.struct fs)) (hv : Value.okWide P W .any base t v) (h : DataW.Trod enc P W 0 (fun _ => true) true t v x ps) : ∃ y : α, ∃ cs : Array Value, v = .agg cs ∧ d.K W y cs.toList ∧ wf y := by
  obtain ⟨cs, rfl, _⟩ := okWide_struct hu hv
  obtain ⟨fuel, hf⟩ := h
  obtain ⟨y, hk, hw⟩ := ho H enc W fuel _ _ hf
  exact ⟨y, cs, rfl, by simpa [Value.cells] using hk, hw⟩
theorem array_cells {α : Type} {t : TypeId} {d : Kd α} {P : Program} {wf : α → Prop} {n : Nat} {e : TypeId} {H : Type} {enc : TypeId × Value → H} {W : World} {base : Nat} {v : Value} {x : DataW H} {ps : List MemPlace}
    (ho : Opens P t d wf) (hu : P.underlying t = some (.array n e)) (hv : Value.okWide P W .any base t v) (h : DataW.Trod enc P W 0 (fun _ => true) true t v x ps) : ∃ y : α, ∃ cs : Array Value, v = .agg cs ∧ d.K W y cs.toList ∧ wf y := by
  simp only [Value.okWide, hu] at hv
  obtain ⟨cs, rfl, _, _⟩ := hv
  obtain ⟨fuel, hf⟩ := h
  obtain ⟨y, hk, hw⟩ := ho H enc W fuel _ _ hf
  exact ⟨y, cs, rfl, by simpa [Value.cells] using hk, hw⟩
theorem agg_of {cs : Array Value} {l : List Value} (h : cs.toList = l) : Value.agg cs = .agg l.toArray := by rw [← h]
theorem slice_cells {α : Type} {t e : TypeId} {d : Kd α} {P : Program} {wf : List α → Prop} {H : Type} {enc : TypeId × Value → H} {W : World} {a : Option Addr} {len cap : Nat} {x : DataW H} {ps : List MemPlace}
    (ho : Opens P t (Kd.slice e d) wf) (h : DataW.Trod enc P W 0 (fun _ => true) true t (.slice a len cap) x ps) : ∃ l : List α, len = l.length ∧ l.length ≤ cap ∧ d.C W a l.length l ∧ wf l := by
  obtain ⟨fuel, hf⟩ := h
  obtain ⟨l, hk, hw⟩ := ho H enc W fuel _ _ hf
  obtain ⟨h1, h2, h3⟩ := slice_args (by simpa [Value.cells] using hk)
  exact ⟨l, h1, h2, h3, hw⟩
/-- A row's slice is no longer than its weight allows. -/
theorem sized_any {H : Type} {enc : TypeId × Value → H} {P : Program} {W : World} {base : Nat} {spare : Nat → Bool} {held : Bool} {t e : TypeId} {a : Option Addr} {len cap : Nat} {d : DataW H} {ps : List MemPlace} {ts : List TypeId} {ds : List (DataW H)} {j : Nat}
    (hsz : (DataW.weightsEach P ts ds).all (· ≤ reachBytes) = true) (ht : ts[j]? = some t) (hd : ds[j]? = some d) (hu : P.underlying t = some (.slice e)) {B : Nat} (hB : P.bytesOf e = B)
    (h : DataW.Trod enc P W base spare held t (.slice a len cap) d ps) : len * B ≤ 140737488351232 := by
  obtain ⟨fuel, hf⟩ := h
  rcases open_slice hu hf with ⟨hcs, _⟩ | ⟨x, l, c, m, n, D, Pl, hcs, _, _, _, _, hx, _⟩
  · simp [Value.cells] at hcs
    obtain ⟨rfl, rfl, rfl⟩ := hcs
    simp
  · simp [Value.cells] at hcs
    obtain ⟨rfl, rfl, rfl⟩ := hcs
    obtain ⟨hx, _⟩ := Prod.mk.inj hx
    subst hx
    have z := sized_slice hsz ht hd hu
    rw [hB] at z
    simp only [List.length_map, List.length_range] at z
    exact Nat.le_trans (Nat.mul_le_mul_right _ (Nat.le_add_right _ _)) z
end Go.Proofs.YtbfpoannmkblhaaW.Opens
