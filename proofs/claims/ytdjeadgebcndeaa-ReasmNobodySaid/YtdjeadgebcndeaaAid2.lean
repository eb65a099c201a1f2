/- Small aids for walks by hand: a row of slices in a block. -/
import Derived.Test.YtdjeadgebcndeaaAid
namespace Go.Proofs.YtdjeadgebcndeaaW.Aid
open Go.RowKit Go.Proofs.YtdjeadgebcndeaaW.PrintWords
set_option linter.unusedVariables false

/-- A block of slices, each read where it stands. -/
theorem C_slices {α : Type} {w : World} {g : Nat} {T : Nat} {fr : Nat × Nat} (e : Nat) (d : Kd α) (vs : List Value) (ls : List (List α)) (hn : ls.length ≤ 9223372036854775807) (h : w.heap[g]? = some (.cells vs.toArray T fr))
    (hc : ∀ (i : Nat) l, ls[i]? = some l → ∃ A c, vs[i]? = some (.slice A l.length c) ∧ l.length ≤ c ∧ d.C w A l.length l) :
    (Kd.slice e d).C w (some ⟨g, 0, none⟩) ls.length ls := by
  refine ⟨rfl, hn, fun _ => ⟨_, rfl, fun j p hp => ?_⟩⟩
  obtain ⟨A, c, hv, hl, hr⟩ := hc j p hp
  refine ⟨[.slice A p.length c], rfl, ⟨A, c, rfl, hl, hr⟩, fun i u hu => ?_⟩
  match i, hu with
  | 0, hu =>
    simp at hu
    subst hu
    show w.cell? ((⟨g, 0, none⟩ : Addr).add (j * 1 + 0)) = _
    rw [Nat.mul_one, Nat.add_zero, cell_at h]
    simpa using hv
  | i + 1, hu => simp at hu
/-- Two slices. -/
theorem C_two {α : Type} {w : World} {g : Nat} {T : Nat} {fr : Nat × Nat} (e : Nat) (d : Kd α) {A1 A2 : Option Addr} {c1 c2 n1 n2 : Nat} (l1 l2 : List α) (e1 : n1 = l1.length) (e2 : n2 = l2.length) (h : w.heap[g]? = some (.cells #[.slice A1 n1 c1, .slice A2 n2 c2] T fr))
    (h1 : d.C w A1 l1.length l1) (hc1 : l1.length ≤ c1) (h2 : d.C w A2 l2.length l2) (hc2 : l2.length ≤ c2) : (Kd.slice e d).C w (some ⟨g, 0, none⟩) 2 [l1, l2] := by
  subst e1 e2
  refine C_slices e d [.slice A1 l1.length c1, .slice A2 l2.length c2] [l1, l2] (by simp) h ?_
  intro i l hi
  match i, hi with
  | 0, hi => simp at hi; subst hi; exact ⟨A1, c1, rfl, hc1, h1⟩
  | 1, hi => simp at hi; subst hi; exact ⟨A2, c2, rfl, hc2, h2⟩
  | i + 2, hi => simp at hi
theorem heap_new2 (w : World) (o o' : Obj) : ((w.alloc o).alloc o').heap[w.heap.size + 1]? = some o' := by
  show ((w.heap.push o).push o')[_]? = _
  have h : (w.heap.push o).size = w.heap.size + 1 := by simp
  rw [← h]
  exact Array.getElem?_push_size
/-- The last eight bytes of what is read. -/
theorem cells8 {w : World} {ad : Addr} {l : List Int} (h : Kd.C (Kd.int .u8) w (some ad) l.length l) (m : Nat) (hm : l.length = m + 8) :
    w.cell? (ad.add m) = some (.int .u8 (rd l (m : Int))) ∧ w.cell? ⟨(ad.add m).block, (ad.add m).off + 1, none⟩ = some (.int .u8 (rd l ((m : Int) + 1))) ∧ w.cell? ⟨(ad.add m).block, (ad.add m).off + 2, none⟩ = some (.int .u8 (rd l ((m : Int) + 2))) ∧ w.cell? ⟨(ad.add m).block, (ad.add m).off + 3, none⟩ = some (.int .u8 (rd l ((m : Int) + 3)))
    ∧ w.cell? ⟨(ad.add m).block, (ad.add m).off + 4, none⟩ = some (.int .u8 (rd l ((m : Int) + 4))) ∧ w.cell? ⟨(ad.add m).block, (ad.add m).off + 5, none⟩ = some (.int .u8 (rd l ((m : Int) + 5))) ∧ w.cell? ⟨(ad.add m).block, (ad.add m).off + 6, none⟩ = some (.int .u8 (rd l ((m : Int) + 6))) ∧ w.cell? ⟨(ad.add m).block, (ad.add m).off + 7, none⟩ = some (.int .u8 (rd l ((m : Int) + 7))) := by
  have key : ∀ j : Nat, j < 8 → w.cell? (ad.add (m + j)) = some (.int .u8 (rd l ((m : Int) + j))) := by
    intro j hj
    obtain ⟨ad', e, hx⟩ := Kd.at_int h ((m : Int) + j) (by omega) (by omega)
    cases e
    rw [show ((m : Int) + j).toNat = m + j from by omega] at hx
    exact hx
  have far : ∀ j : Nat, 0 < j → ad.add (m + j) = ⟨(ad.add m).block, (ad.add m).off + j, none⟩ := by
    intro j hj
    unfold Addr.add
    by_cases h0 : m = 0
    · subst h0; rw [if_pos rfl, if_neg (by omega)]; simp
    · rw [if_neg h0, if_neg (by omega)]; simp [Nat.add_assoc]
  have k2 : ∀ j : Nat, 0 < j → j < 8 → w.cell? ⟨(ad.add m).block, (ad.add m).off + j, none⟩ = some (.int .u8 (rd l ((m : Int) + j))) := fun j h1 h2 => by rw [← far j h1]; exact key j h2
  exact ⟨by simpa using key 0 (by omega), k2 1 (by omega) (by omega), k2 2 (by omega) (by omega), k2 3 (by omega) (by omega), k2 4 (by omega) (by omega), k2 5 (by omega) (by omega), k2 6 (by omega) (by omega), k2 7 (by omega) (by omega)⟩
theorem drop8 (l : List Int) (m : Nat) (hm : l.length = m + 8) : [rd l (m : Int), rd l ((m : Int) + 1), rd l ((m : Int) + 2), rd l ((m : Int) + 3), rd l ((m : Int) + 4), rd l ((m : Int) + 5), rd l ((m : Int) + 6), rd l ((m : Int) + 7)] = l.drop m := by
  have key : ∀ j : Nat, j < 8 → rd l ((m : Int) + j) = l.getD (m + j) 0 := by
    intro j hj
    unfold rd
    rw [show ((m : Int) + j).toNat = m + j from by omega]
  refine List.ext_getElem (by simp; omega) (fun i h1 h2 => ?_)
  simp only [List.length_cons, List.length_nil] at h1
  have hg : (l.drop m)[i] = l.getD (m + i) 0 := by
    rw [List.getElem_drop, List.getD_eq_getElem?_getD, List.getElem?_eq_getElem (by omega)]; rfl
  rw [hg, ← key i (by omega)]
  match i, h1 with
  | 0, _ => simp
  | 1, _ => rfl
  | 2, _ => rfl
  | 3, _ => rfl
  | 4, _ => rfl
  | 5, _ => rfl
  | 6, _ => rfl
  | 7, _ => rfl
end Go.Proofs.YtdjeadgebcndeaaW.Aid
