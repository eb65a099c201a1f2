/- Small aids for walks by hand: a row made with room, and appended to. -/
import Derived.Test.YtdjeadgebcndeaaAid
import Derived.ArgAppend
import Derived.Laws.MakeOwn
namespace Go.Proofs.YtdjeadgebcndeaaW.Aid
open Go.RowKit Go.Proofs.YtdjeadgebcndeaaW.PrintWords
set_option linter.unusedVariables false
section
variable {P : Program}
theorem below_cells {B : Nat} {a : World} (b : Nat) (hb : B ≤ b) (vs : List Value) : ∀ (o : Nat) {w : World}, Below B a w → Below B a (w.setCells b o vs) := by
  induction vs with
  | nil => intro o w h; exact h
  | cons v vs ih => intro o w h; exact ih (o + 1) (h.setCell (p := ⟨b, o, none⟩) hb v)
theorem madeZeros (n : Nat) : madeCells #[Value.int .u8 0] n = (List.replicate n (Value.int .u8 0)).toArray := by
  apply Array.ext
  · simp [size_madeCells]
  · intro i h1 h2
    simp [madeCells, Nat.mod_one]
theorem run_append_made (w : World) (t ty e : TypeId) (i : TypeInfo) (ht : P.underlying t = some (.slice e)) (hi : P.info? e = some i) (hs : i.size = 1) (g cap : Nat)
    (hh : w.heap[g]? = some (.cells (List.replicate cap (Value.int .u8 0)).toArray e (0, 0))) (A : Option Addr) (c : Nat) (l : List Int) (hr : Kd.C (Kd.int .u8) w A l.length l) (hcap : l.length ≤ cap) :
    (Builtin.append_ #[t, t] ty #[.slice (some ⟨g, 0, none⟩) 0 cap, .slice A l.length c]).run P w = .ok (.slice (some ⟨g, 0, none⟩) l.length cap) (w.setCells g 0 (l.map (Value.int .u8))) := by
  cases A with
  | none =>
    have e0 : l = [] := by
      cases l with
      | nil => rfl
      | cons x l => obtain ⟨ad, e, _⟩ := hr.2.2 (by simp); cases e
    subst e0
    simp [Builtin.append_, run_underlying ht, sizeOf, typeInfo, hi, Builtin.lenOf, Builtin.firstCells, storeCells, World.setCells]
  | some a =>
    have key : ∀ j, j < l.length → w.cell? ⟨g, j, none⟩ = some (.int .u8 0) ∧ w.frozen? ⟨g, j, none⟩ = false := by
      intro j hj
      constructor
      · have e1 : (List.replicate cap (Value.int .u8 0))[j]? = some (.int .u8 0) := by rw [List.getElem?_replicate, if_pos (by omega)]
        exact (blk_cell hh j).trans ((List.getElem?_toArray).trans e1)
      · simp [World.frozen?, hh]
    have := run_append_room_cells (P := P) w t ty e i ht hi g 0 0 cap a l.length c (l.map (Value.int .u8)) (by simp [hs]) ?_ ?_ (by omega) ?_ ?_
    · simpa using this
    · intro j u hu
      obtain ⟨ad, ea, hc⟩ := hr.2.2 (by
        rcases Nat.eq_zero_or_pos l.length with h0 | h0
        · have : l = [] := List.eq_nil_of_length_eq_zero h0
          subst this; simp at hu
        · exact h0)
      cases ea
      obtain ⟨x, hx, rfl⟩ : ∃ x, l[j]? = some x ∧ Value.int .u8 x = u := by simpa using hu
      obtain ⟨cs, hl1, hk, hcell⟩ := hc j x hx
      have hk' : cs = [.int .u8 x] := hk
      subst hk'
      have := hcell 0 (.int .u8 x) rfl
      simpa [Kd.int, Kd.scalar] using this
    · exact ints_oneCell .u8 l
    · intro j hj
      have := (key j (by simpa using hj)).1
      simp [hs, this]
    · intro j hj
      have := (key j (by simpa using hj)).2
      simpa [hs] using this
/-- What the row reads as behind it, all of its room. -/
theorem C_made (w : World) (g cap e : Nat) (hcap63 : cap ≤ 9223372036854775807) (hh : w.heap[g]? = some (.cells (List.replicate cap (Value.int .u8 0)).toArray e (0, 0))) (l : List Int) (hcap : l.length ≤ cap) :
    Kd.C (Kd.int .u8) (w.setCells g 0 (l.map (Value.int .u8))) (some ⟨g, 0, none⟩) cap (l ++ List.replicate (cap - l.length) 0) := by
  refine ⟨by simp; omega, hcap63, fun _ => ⟨_, rfl, fun j p hp => ⟨[.int .u8 p], rfl, rfl, fun i u hu => ?_⟩⟩⟩
  have there : ∀ j, j < cap → w.cell? ⟨g, j, none⟩ = some (.int .u8 0) := by
    intro j hj
    have e1 : (List.replicate cap (Value.int .u8 0))[j]? = some (.int .u8 0) := by rw [List.getElem?_replicate, if_pos hj]
    exact (blk_cell hh j).trans ((List.getElem?_toArray).trans e1)
  match i, hu with
  | 0, hu =>
    simp at hu
    subst hu
    have ead : (⟨g, 0, none⟩ : Addr).add (j * 1 + 0) = ⟨g, j, none⟩ := by
      unfold Addr.add
      by_cases h0 : j = 0
      · subst h0; rfl
      · rw [if_neg (by omega)]; simp
    show World.cell? _ ((⟨g, 0, none⟩ : Addr).add (j * 1 + 0)) = _
    rw [ead]
    by_cases hj : j < l.length
    · have h1 := World.cell?_setCells_in g (l.map (Value.int .u8)) 0 w (fun q hq => by rw [Nat.zero_add, there q (by simp at hq; omega)]; rfl) j (by simpa using hj)
      rw [Nat.zero_add] at h1
      rw [h1]
      rw [List.getElem?_append_left hj, List.getElem?_eq_getElem hj] at hp
      obtain rfl := Option.some.inj hp
      simp
    · rw [World.cell?_setCells_out g (l.map (Value.int .u8)) 0 w ⟨g, j, none⟩ (fun _ _ => by right; simp; omega)]
      rw [List.getElem?_append_right (by omega), List.getElem?_replicate] at hp
      split at hp
      · obtain rfl := Option.some.inj hp
        exact there j (by omega)
      · cases hp
  | i + 1, hu => simp at hu
/-- The append, for the walk. -/
theorem wpList_append_made (w : World) {ops : Array Oper} {rest : List Oper} {o : Oper} {a : Act} {Q : Exit → Act → World → Prop} (hg : o.guard = none) (s x : Operand) (t : TypeId) (hop : o.op = Op.call { callee := Callee.builtin Builtin.append, args := #[s, x], argTypes := #[t, t] })
    (e : TypeId) (i : TypeInfo) (ht : P.underlying t = some (.slice e)) (hi : P.info? e = some i) (hsz : i.size = 1) (g cap : Nat) (hcap63 : cap ≤ 9223372036854775807)
    (hh : w.heap[g]? = some (.cells (List.replicate cap (Value.int .u8 0)).toArray e (0, 0))) (A : Option Addr) (c : Nat) (l : List Int) (hs : a.eval s = .slice (some ⟨g, 0, none⟩) 0 cap) (hx : a.eval x = .slice A l.length c)
    (hr : Kd.C (Kd.int .u8) w A l.length l) (hcap : l.length ≤ cap)
    (hK : ∀ w', Kd.C (Kd.int .u8) w' (some ⟨g, 0, none⟩) cap (l ++ List.replicate (cap - l.length) 0) → (∀ (B : Nat) (a : World), B ≤ g → Below B a w → Below B a w') → w'.heap.size = w.heap.size → wpList P ops Q rest (a.put o.dst (.slice (some ⟨g, 0, none⟩) l.length cap)) w') :
    wpList P ops Q (o :: rest) a w := by
  refine wpList_plain hg fun K hK' => ?_
  have hrun := run_append_made (P := P) w t o.type e i ht hi hsz g cap hh A c l hr hcap
  unfold Oper.wp
  simp [execOp, hop, resolve, invoke, builtin, hs, hx, hrun, Result.andThen]
  have hsize : ∀ (vs : List Value) (o : Nat) (w : World), (w.setCells g o vs).heap.size = w.heap.size := by
    intro vs
    induction vs with
    | nil => intro o w; rfl
    | cons v vs ih =>
      intro o w
      show ((w.setCell ⟨g, o, none⟩ v).setCells g (o + 1) vs).heap.size = _
      rw [ih]
      simp
  exact hK' _ _ (hK _ (C_made w g cap e hcap63 hh l hcap) (fun B a hB hb => below_cells g hB _ _ hb) (hsize _ _ _))
end
end Go.Proofs.YtdjeadgebcndeaaW.Aid
