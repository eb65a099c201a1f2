import Derived.Test.YtpdchohbmmfemaazRx34
import Derived.Lib.ConvBytes
import Derived.Lib.UnsafeStr
namespace Go.Proofs.YtpdchohbmmfemaaW.Rx
open Go Go.RowKit
set_option linter.unusedVariables false
set_option linter.unusedSimpArgs false
section
variable {α β : Type} {P : Program} {Q : Ending → World → Prop} {pin : List (Nat × Nat)} {J : Jt} {L L' Lu : Nat → Prop} {wu w : World}
def numsOf (s : ByteArray) : List Int := s.data.toList.map fun x => (x.toNat : Int)
theorem numsOf_len (s : ByteArray) : (numsOf s).length = s.size := by simp [numsOf]
theorem numsOf_of {l : List Int} (h : ∀ x ∈ l, 0 ≤ x ∧ x ≤ 255) : numsOf (strOfNums l) = l := by
 unfold numsOf strOfNums
 simp only [List.map_map]
 conv => rhs; rw [← List.map_id l]
 refine List.map_congr_left fun x hx => ?_
 obtain ⟨h0, h1⟩ := h x hx
 simp only [Function.comp_apply, id_eq]
 rw [UInt8.toNat_ofNat_of_lt' (by show x.toNat < 256; omega)]
 omega
theorem bytes_below (w : World) (e : TypeId) (s : ByteArray) : Below w.heap.size w (Go.Lib.bytesWorld w e s) :=
 Go.Lib.below_freeze ((Below.drew (Below.refl _ w)).alloc (Nat.le_refl _) _) (p := ⟨w.heap.size, _, none⟩) (Nat.le_refl _) 1
theorem ok_bytes {R : FRow Int} {t ts e : TypeId} {s : ByteArray} {k : Tup [Lf.sl] → XT} (hR : ∀ x, R.enc x = [.int .u8 x]) (hs : P.underlying ts = some .string) (hd : P.underlying t = some (.slice e)) (he : P.underlying e = some (.int .u8)) (hsz : s.size ≤ 9223372036854775807)
  (hk : ∀ A c L w, SlR R.row L w A c (numsOf s) → Fine Lu wu L w → (k ((A, (numsOf s).length, c), ())).ok P pin Q J L w) : (XT.sem (convert ts t (.string s)) [Lf.sl] Sh.one k).ok P pin Q J Lu wu := by
 refine ok_semm (fun L w hF hlt => ⟨((some ⟨w.heap.size, 0, none⟩, (numsOf s).length, grownCap w s.size 0 e), ()), Go.Lib.bytesWorld w e s, ?_, keeps_below hlt (bytes_below w e s), hk _ _ L _ ?_ (hF.step (bytes_below w e s))⟩)
 ·have := Go.Lib.run_convert_string_bytes (P := P) w ts t e s hs hd he
  rw [this, numsOf_len]
  rfl
 ·refine ⟨⟨(numsOf s).flatMap R.enc, ?_, reps_flat.2 rfl⟩, by rw [numsOf_len]; exact grownCap_ge _ _ _ _, by rw [numsOf_len]; exact hsz⟩
  have hE : R.enc = fun x => [Value.int .u8 x] := funext hR
  rw [hE, ← List.map_eq_flatMap]
  intro i u hu
  rw [List.getElem?_map, Option.map_eq_some_iff] at hu
  obtain ⟨x, hx, rfl⟩ := hu
  have hi : i < s.size := by rw [← numsOf_len]; exact (List.getElem?_eq_some_iff.1 hx).1
  refine ⟨⟨w.heap.size, 0, none⟩, rfl, ?_, fun h => absurd (hlt _ h) (Nat.lt_irrefl _)⟩
  have ha : (⟨w.heap.size, 0, none⟩ : Addr).add i = ⟨w.heap.size, i, none⟩ := by
   unfold Addr.add
   split
   ·rename_i h; rw [h]
   ·simp
  rw [ha, Go.Lib.bytesWorld_cell w e s i hi]
  unfold numsOf at hx
  rw [List.getElem?_map, Option.map_eq_some_iff] at hx
  obtain ⟨y, hy, rfl⟩ := hx
  rw [List.getD_eq_getElem?_getD, hy]
  rfl
theorem own_types {R : FRow α} {R' : FRow β} {base base' e e' : Nat} {A B : Option Addr} {c d : Nat} {xs : List α} {ys : List β} (h : OwnF base L w e R A c xs) (g : OwnF base' L' w e' R' B d ys) (he : e ≠ e') : Dj A B := by
 rintro b ⟨a1, h1, h2⟩ ⟨a2, g1, g2⟩
 dsimp only at h1 g1
 rcases h.off with ⟨e0, _⟩ | ⟨p, o, cur, e1, _, _, k5, _⟩
 ·rw [e0] at h1; cases h1
 rcases g.off with ⟨e0, _⟩ | ⟨p', o', cur', e1', _, _, k5', _⟩
 ·rw [e0] at g1; cases g1
 rw [e1] at h1; cases h1
 rw [e1'] at g1; cases g1
 dsimp only at h2 g2
 subst h2
 subst g2
 rw [k5] at k5'
 cases k5'
 exact he rfl
end
end Go.Proofs.YtpdchohbmmfemaaW.Rx
