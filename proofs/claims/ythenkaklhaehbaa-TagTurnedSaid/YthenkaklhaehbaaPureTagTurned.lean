/- Of sealed bytes with one byte turned nothing is opened. -/
import Derived.Test.YthenkaklhaehbaaTagSeal
import Derived.Test.YthenkaklhaehbaaPlaceMod
import Derived.Test.YthenkaklhaehbaaPAllx17
namespace Go.Proofs.Ythenkaklhaehbaa.Pure
open Go.RowKit Go.Proofs.Ythenkaklhaehbaa.PAll Go.Proofs.YthenkaklhaehbaaW.PrintWords Go.Proofs.YthenkaklhaehbaaW.PrintLast Go.Proofs.YthenkaklhaehbaaW.PrintMore Go.Proofs.Ythenkaklhaehbaa.Plain
set_option linter.unusedVariables false
theorem set_ne {l : List Int} {j : Nat} (hj : j < l.length) {v : Int} (h : v ≠ l[j]) : l.set j v ≠ l := by
  intro e
  apply h
  have : (l.set j v)[j]'(by simpa using hj) = l[j] := by simp only [e]
  simpa using this
theorem xor_zero_u8 {x : Int} (hx : 0 ≤ x ∧ x ≤ 255) : Go.bits .xor .u8 x 0 = x := by
  rw [u8_xor x 0 (by omega) (by omega) (by omega) (by omega)]
  simp; omega
/-- What is opened of sealed bytes with the byte at j turned by y. -/
theorem open_turned (key : Int) (l : List Int) (hb : Bytes l) (j : Nat) (hj : j < l.length + 8) (y : Int) (hy : 0 ≤ y ∧ y ≤ 255) :
    open8 key ((seal8 key l).set j (Go.bits .xor .u8 (rd (seal8 key l) (j : Int)) y)) = if y = 0 then (l, 0) else ([], 4) := by
  have hjs : j < (seal8 key l).length := by rw [seal_len]; exact hj
  have hr : rd (seal8 key l) (j : Int) = (seal8 key l)[j] := by simp [rd, hjs]
  have hx := seal_bytes key hb _ (List.getElem_mem hjs)
  rw [hr]
  by_cases hz : y = 0
  · subst hz
    rw [if_pos rfl, xor_zero_u8 hx, List.set_getElem_self, open_seal, if_pos rfl]
  rw [if_neg hz]
  obtain ⟨hne, h0, h1⟩ := byte_xor_ne hx hy hz
  generalize hv : Go.bits .xor .u8 (seal8 key l)[j] y = v at *
  have len : ((seal8 key l).set j v).length = l.length + 8 := by simp [seal_len]
  unfold open8
  rw [if_neg (by rw [len]; omega), len, Nat.add_sub_cancel]
  rw [if_neg]
  intro e
  by_cases hlt : j < l.length
  · have es : (seal8 key l).set j v = l.set j v ++ tag_mark.f (tagOf key l) := by
      unfold seal8; rw [List.set_append, if_pos hlt]
    have ge : (seal8 key l)[j] = l[j] := by
      have : (seal8 key l)[j]? = l[j]? := by unfold seal8; exact List.getElem?_append_left hlt
      rw [List.getElem?_eq_getElem hjs, List.getElem?_eq_getElem hlt] at this
      exact Option.some.inj this
    rw [es, List.take_left' (by simp), List.drop_left' (by simp)] at e
    have e2 := mark_inj (tag_range _ _) (tag_range _ _) e
    have hs : l = l.take j ++ l[j] :: l.drop (j + 1) := by rw [← List.drop_eq_getElem_cons hlt, List.take_append_drop]
    have hs' : l.set j v = l.take j ++ v :: l.drop (j + 1) := List.set_eq_take_append_cons_drop.trans (if_pos hlt)
    have hu := unlike key (l.take j) (l.drop (j + 1)) v l[j] ⟨h0, h1⟩ (hb _ (List.getElem_mem hlt)) (by rw [← ge]; exact hne)
    rw [← hs', ← hs] at hu
    exact hu e2
  · have es : (seal8 key l).set j v = l ++ (tag_mark.f (tagOf key l)).set (j - l.length) v := by
      unfold seal8; rw [List.set_append, if_neg hlt]
    have hj8 : j - l.length < (tag_mark.f (tagOf key l)).length := by rw [mark_len]; omega
    have ge : (seal8 key l)[j] = (tag_mark.f (tagOf key l))[j - l.length] := by
      have : (seal8 key l)[j]? = (tag_mark.f (tagOf key l))[j - l.length]? := by unfold seal8; exact List.getElem?_append_right (by omega)
      rw [List.getElem?_eq_getElem hjs, List.getElem?_eq_getElem hj8] at this
      exact Option.some.inj this
    rw [es, List.take_left, List.drop_left] at e
    exact set_ne hj8 (by rw [← ge]; exact hne) e.symm
theorem turned_f (key : Int) (l : List Int) (a y : Int) (t : List Int) (j : Nat) (k : Nat) (hs : tag_Seal.f k key l = some t) (ht : (t.length : Int) = wrap64 ((l.length : Int) + 8)) (h0 : ¬ (t.length : Int) = 0)
    (ej : Int.tmod (wrap64 (Int.tmod a t.length + t.length)) t.length = j) (hj : (j : Int) < t.length) (x : List Int × Int) (ho : tag_Open.f k key (t.set j (Go.bits .xor .u8 (rd t (j : Int)) y)) = some x) (hx : x = if y = 0 then (l, 0) else ([], 4)) (hk : 2 ≤ k) :
    turnbucklelaw02_TagTurned.f k key l a y = some true := by
  unfold turnbucklelaw02_TagTurned.f
  rw [hs, Option.bind_some, if_pos ht, if_neg h0, ej, if_pos (Int.natCast_nonneg j), if_pos hj, Int.toNat_natCast, ho, Option.bind_some, alive_f k hk]
  obtain ⟨x1, x2⟩ := x
  by_cases hz : y = 0
  · rw [if_pos hz] at hx
    obtain ⟨rfl, rfl⟩ := Prod.mk.inj hx
    have e : (((0 : Int) == 0) == (y == 0)) = true := by rw [hz]; rfl
    rw [if_pos e, if_pos hz, Option.bind_some]
  · rw [if_neg hz] at hx
    obtain ⟨rfl, rfl⟩ := Prod.mk.inj hx
    have e : (((4 : Int) == 0) == (y == 0)) = true := by rw [show (y == 0) = false from beq_eq_false_iff_ne.mpr hz]; rfl
    rw [if_pos e, if_neg hz, if_pos (show ((([] : List Int), (4 : Int)).1.length : Int) = 0 from rfl), Option.bind_some]
theorem TagTurned : turnbucklelaw02_TagTurned.Pure := by
  intro key l a y hk hm hb hl ha hy
  have hbl := bytes_of hl
  have len := seal_len key l
  obtain ⟨j, ej, hj⟩ := place a (seal8 key l).length (wf_i64 ha) (by omega) (by omega)
  refine ⟨l.length + 30, turned_f key l a y (seal8 key l) j _ (seal_f key l (by omega) _ (by omega)) (by rw [w64 _ (by omega)]; omega) (by omega) ej (by omega) _ (open_f key _ (by rw [List.length_set]; omega) _ (by rw [List.length_set]; omega)) (open_turned key l hbl j (by omega) y (wf_u8 hy)) (by omega)⟩
end Go.Proofs.Ythenkaklhaehbaa.Pure
