import Derived.ProofKit
import Derived.OpenShut
import Derived.Deep.Slices
import Derived.SizedLaws
import Derived.ShutString
import Derived.Test.YtcbpgbfbffnogaaGreatzWWords
import Derived.Test.YtcbpgbfbffnogaaGreatzWLast
import Derived.Test.YtcbpgbfbffnogaaGreatRows
namespace Go.Proofs.YtcbpgbfbffnogaaGreatW.Opens
open Go.ChangeShapes Go.WideShapes Go.RowKit Go.Deep Go.Proofs.YtcbpgbfbffnogaaGreatW.PrintWords
set_option linter.unusedVariables false
def Opens {α : Type} (P : Program) (t : TypeId) (d : Kd α) (wf : α → Prop) (blk : α → Nat) : Prop :=
 ∀ (H : Type) (enc : TypeId × Value → H) (w : World) (fuel : Nat) (cs : List Value) (x : DataW H × List MemPlace),
  DataW.trod enc P w 0 (fun _ => true) true fuel t cs = some x → ∃ v : α, d.K w v cs ∧ wf v ∧ blk v ≤ Go.Proofs.YtcbpgbfbffnogaaGreat.Rows.uptoBulk x.1
theorem one_le {H : Type} (d : DataW H) : 1 ≤ Go.Proofs.YtcbpgbfbffnogaaGreat.Rows.uptoBulk d := by
 cases d with
 | lit l => cases l <;> simp [Go.Proofs.YtcbpgbfbffnogaaGreat.Rows.uptoBulk]
 | nil => simp [Go.Proofs.YtcbpgbfbffnogaaGreat.Rows.uptoBulk]
 | ptr d => simp [Go.Proofs.YtcbpgbfbffnogaaGreat.Rows.uptoBulk]
 | slice elems spare => simp [Go.Proofs.YtcbpgbfbffnogaaGreat.Rows.uptoBulk]
 | agg parts => simp [Go.Proofs.YtcbpgbfbffnogaaGreat.Rows.uptoBulk]
 | iface t d => simp [Go.Proofs.YtcbpgbfbffnogaaGreat.Rows.uptoBulk]
 | map entries => simp [Go.Proofs.YtcbpgbfbffnogaaGreat.Rows.uptoBulk]
 | held h => simp [Go.Proofs.YtcbpgbfbffnogaaGreat.Rows.uptoBulk]
theorem bulk_ofFn {H : Type} : ∀ (n : Nat) (g : Fin n → Nat) (D : Nat → DataW H), (∀ i, g i ≤ Go.Proofs.YtcbpgbfbffnogaaGreat.Rows.uptoBulk (D i.1)) → (List.ofFn g).sum ≤ Go.Proofs.YtcbpgbfbffnogaaGreat.Rows.uptoBulkAll ((List.range n).map D)
 | 0, g, D, h => by simp [Go.Proofs.YtcbpgbfbffnogaaGreat.Rows.uptoBulkAll]
 | n + 1, g, D, h => by
  have := bulk_ofFn n (fun i => g i.succ) (fun i => D (i + 1)) (fun i => h i.succ)
  have h0 := h 0
  rw [List.ofFn_succ, List.range_succ_eq_map, List.map_cons, List.map_map]
  simp only [List.sum_cons, Go.Proofs.YtcbpgbfbffnogaaGreat.Rows.uptoBulkAll]
  have e : (fun i => D (i + 1)) = D ∘ Nat.succ := rfl
  rw [e] at this
  have h1 : g 0 ≤ Go.Proofs.YtcbpgbfbffnogaaGreat.Rows.uptoBulk (D 0) := h0
  omega
theorem opens_int {P : Program} {t : TypeId} {k : IntKind} (ht : P.underlying t = some (.int k)) : Opens P t (Kd.int k) (fun n => (Lit.int k n).wf = true) (fun _ => 1) := by
 intro H enc w fuel cs x h
 obtain ⟨n, rfl, _, hw⟩ := DataW.trod_int ht h
 exact ⟨n, rfl, hw, one_le _⟩
theorem opens_bool {P : Program} {t : TypeId} (ht : P.underlying t = some .bool) : Opens P t Kd.bool (fun _ => True) (fun _ => 1) := by
 intro H enc w fuel cs x h
 obtain ⟨n, rfl, _⟩ := DataW.trod_bool ht h
 exact ⟨n, rfl, trivial, one_le _⟩
theorem cells_at {w : World} {a : Addr} {n : Nat} {cs : List Value} (h : w.cells? 0 a n = some cs) : cs.length = n ∧ ∀ i u, cs[i]? = some u → w.cell? (a.add i) = some u := by
 obtain ⟨_, hl, hc⟩ := World.cells?_some h
 refine ⟨hl, fun i u hu => ?_⟩
 have hi : i < n := by
  rw [← hl]
  exact (List.getElem?_eq_some_iff.1 hu).1
 rw [hc i hi]
 exact hu
theorem opens_slice {α : Type} {P : Program} {t e : TypeId} {d : Kd α} {wf : α → Prop} {blk : α → Nat} (ht : P.underlying t = some (.slice e)) (hz : P.cellsOf e = d.sz) (he : Opens P e d wf blk) :
  Opens P t (Kd.slice e d) (fun l => l.length ≤ maxLen ∧ ∀ x ∈ l, wf x) (fun l => (l.map blk).sum + 1) := by
 classical
 intro H enc w fuel cs x h
 rcases open_slice ht h with ⟨rfl, rfl⟩ | ⟨a, len, cap, m, n, D, Pl, rfl, _, hl, hm, hmm, rfl, hel⟩
 ·refine ⟨[], ⟨none, 0, rfl, Nat.le_refl _, ?_⟩, ⟨?_, ?_⟩, by simp [Go.Proofs.YtcbpgbfbffnogaaGreat.Rows.uptoBulk]⟩
  ·exact ⟨rfl, by simp, fun h => absurd h (by simp)⟩
  ·simp [maxLen]
  ·intro x hx; cases hx
 ·rw [if_pos rfl] at hmm
  obtain rfl : m = cap := hmm
  have hv : ∀ i : Fin len, ∃ v : α, ∃ c : List Value, w.cells? 0 (a.add (i.1 * P.cellsOf e)) (P.cellsOf e) = some c ∧ d.K w v c ∧ wf v ∧ blk v ≤ Go.Proofs.YtcbpgbfbffnogaaGreat.Rows.uptoBulk (D i.1) := by
   intro i
   obtain ⟨c, hc, ht'⟩ := hel i.1 (by omega)
   obtain ⟨v, hk, hw, hbk⟩ := he H enc w _ _ _ ht'
   exact ⟨v, c, hc, hk, hw, hbk⟩
  refine ⟨List.ofFn fun i => Classical.choose (hv i), ⟨some a, m, by simp, by simpa using hl, ?_⟩, ⟨by simpa using Nat.le_trans hl hm, ?_⟩, ?_⟩
  ·refine ⟨rfl, by simp; unfold maxLen at hm; omega, fun _ => ⟨a, rfl, ?_⟩⟩
   intro j p hp
   rw [List.getElem?_eq_some_iff] at hp
   obtain ⟨hj, hp⟩ := hp
   simp only [List.length_ofFn] at hj
   obtain ⟨c, hc, hk, _, _⟩ := Classical.choose_spec (hv ⟨j, hj⟩)
   have hpe : Classical.choose (hv ⟨j, hj⟩) = p := by rw [← hp]; simp
   rw [hpe] at hk
   obtain ⟨h1, h2⟩ := cells_at hc
   refine ⟨c, by rw [h1, hz], hk, ?_⟩
   intro i u hu
   have := h2 i u hu
   rw [Deep.add_add, hz] at this
   exact this
  ·intro x hx
   obtain ⟨i, rfl⟩ := List.mem_ofFn.1 hx
   obtain ⟨_, _, _, hw, _⟩ := Classical.choose_spec (hv i)
   exact hw
  ·show ((List.ofFn fun i => Classical.choose (hv i)).map blk).sum + 1 ≤ _
   rw [List.map_ofFn]
   have := bulk_ofFn len (blk ∘ fun i => Classical.choose (hv i)) D (fun i => by
    obtain ⟨_, _, _, _, hbk⟩ := Classical.choose_spec (hv i)
    exact hbk)
   simp only [Go.Proofs.YtcbpgbfbffnogaaGreat.Rows.uptoBulk]
   omega
theorem sum_ones {α : Type} (l : List α) : (l.map fun _ => 1).sum = l.length := by
 induction l with
 | nil => rfl
 | cons x l ih => simp only [List.map_cons, List.sum_cons, List.length_cons, ih]; omega
theorem opens_slice1 {α : Type} {P : Program} {t e : TypeId} {d : Kd α} {wf : α → Prop} (ht : P.underlying t = some (.slice e)) (hz : P.cellsOf e = d.sz) (he : Opens P e d wf (fun _ => 1)) :
  Opens P t (Kd.slice e d) (fun l => l.length ≤ maxLen ∧ ∀ x ∈ l, wf x) (fun l => l.length + 1) := by
 intro H enc w fuel cs x h
 obtain ⟨v, h1, h2, h3⟩ := opens_slice ht hz he H enc w fuel cs x h
 refine ⟨v, h1, h2, ?_⟩
 show v.length + 1 ≤ _
 rw [← sum_ones v]
 exact h3
theorem struct_cells {α : Type} {t : TypeId} {d : Kd α} {P : Program} {wf : α → Prop} {blk : α → Nat} {fs : Array Field} {H : Type} {enc : TypeId × Value → H} {W : World} {base : Nat} {v : Value} {x : DataW H} {ps : List MemPlace}
  (ho : Opens P t d wf blk) (hu : P.underlying t = some (.struct fs)) (hv : Value.okWide P W .any base t v) (h : DataW.Trod enc P W 0 (fun _ => true) true t v x ps) : ∃ y : α, ∃ cs : Array Value, v = .agg cs ∧ d.K W y cs.toList ∧ wf y ∧ blk y ≤ Go.Proofs.YtcbpgbfbffnogaaGreat.Rows.uptoBulk x := by
 obtain ⟨cs, rfl, _⟩ := okWide_struct hu hv
 obtain ⟨fuel, hf⟩ := h
 obtain ⟨y, hk, hw, hbk⟩ := ho H enc W fuel _ _ hf
 exact ⟨y, cs, rfl, by simpa [Value.cells] using hk, hw, hbk⟩
end Go.Proofs.YtcbpgbfbffnogaaGreatW.Opens
