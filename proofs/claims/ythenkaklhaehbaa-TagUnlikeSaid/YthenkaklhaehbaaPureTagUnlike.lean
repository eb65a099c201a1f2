/- Bytes of one length that differ in one byte have unlike tags. -/
import Derived.Test.YthenkaklhaehbaaTagPlain
import Derived.Test.YthenkaklhaehbaaPAllx5
namespace Go.Proofs.Ythenkaklhaehbaa.Pure
open Go.RowKit Go.Proofs.Ythenkaklhaehbaa.PAll Go.Proofs.YthenkaklhaehbaaW.PrintWords Go.Proofs.YthenkaklhaehbaaW.PrintLast Go.Proofs.YthenkaklhaehbaaW.PrintMore Go.Proofs.Ythenkaklhaehbaa.Plain
set_option linter.unusedVariables false
/-- a place, taken modulo a length -/
theorem place (a : Int) (n : Nat) (ha : -9223372036854775808 ≤ a ∧ a ≤ 9223372036854775807) (h0 : 0 < n) (h1 : n ≤ 140737488355328) :
    ∃ j : Nat, Int.tmod (wrap64 (Int.tmod a n + n)) n = j ∧ j < n := by
  have h2 : Int.tmod a n < n := Int.tmod_lt_of_pos _ (by omega)
  have h3 : -(n : Int) < Int.tmod a n := Int.lt_tmod_of_pos _ (by omega)
  rw [w64 _ (by omega), Int.tmod_eq_emod_of_nonneg (by omega)]
  have h4 := Int.emod_nonneg (Int.tmod a n + n) (show (n : Int) ≠ 0 by omega)
  have h5 := Int.emod_lt_of_pos (Int.tmod a n + n) (show 0 < (n : Int) by omega)
  exact ⟨((Int.tmod a n + n) % (n : Int)).toNat, by omega, by omega⟩
theorem TagUnlike : turnbucklelaw02_TagUnlike.Pure := by
  intro key l a y hk hm hb hl ha hy
  have hbl := bytes_of hl
  have hy' := wf_u8 hy
  refine ⟨l.length + 5, ?_⟩
  unfold turnbucklelaw02_TagUnlike.f
  have al := alive_f (l.length + 4) (by omega)
  have tt : turnbucklelaw02_TagUnlike.j0 (l.length + 4 + 1) key l a y true = some true := by
    simp only [turnbucklelaw02_TagUnlike.j0]
    rw [if_pos trivial, al]
    rfl
  by_cases h0 : (l.length : Int) = 0
  · rw [if_pos h0]; exact tt
  rw [if_neg h0]
  by_cases hz : y = 0
  · rw [hz] at tt ⊢; exact tt
  rw [show (y == 0) = false from by simpa using hz]
  obtain ⟨j, ej, hj⟩ := place a l.length (wf_i64 ha) (by omega) (by omega)
  show turnbucklelaw02_TagUnlike.j0 (l.length + 4 + 1) key l a y false = some true
  simp only [turnbucklelaw02_TagUnlike.j0]
  simp only [Bool.false_eq_true, if_false, List.nil_append, List.length_nil, Nat.zero_add, Option.bind_some]
  rw [ej, if_pos (by omega), if_neg h0, if_pos (by omega), if_pos (by omega)]
  simp only [Int.toNat_natCast]
  have hr : rd l (j : Int) = l[j] := by simp [rd, hj]
  have hs : l = l.take j ++ l[j] :: l.drop (j + 1) := by rw [← List.drop_eq_getElem_cons hj, List.take_append_drop]
  have hs' : ∀ z, l.set j z = l.take j ++ z :: l.drop (j + 1) := fun z => List.set_eq_take_append_cons_drop.trans (if_pos hj)
  have hx := hbl l[j] (List.getElem_mem hj)
  have hn := byte_xor_ne hx hy' hz
  rw [hr, of_f key l hm _ (by omega), of_f key (l.set j _) (by simpa using hm) _ (by simp), al]
  simp only [Option.bind_some]
  have hu := unlike key (l.take j) (l.drop (j + 1)) l[j] (Go.bits .xor .u8 l[j] y) hx hn.2 (fun h => hn.1 h.symm)
  rw [← hs, ← hs'] at hu
  rw [if_neg hu]
end Go.Proofs.Ythenkaklhaehbaa.Pure
