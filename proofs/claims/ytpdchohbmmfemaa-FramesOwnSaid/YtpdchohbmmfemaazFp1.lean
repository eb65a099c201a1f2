import Derived.Test.YtpdchohbmmfemaazFv1
import Derived.Test.YtpdchohbmmfemaazDc2
namespace Go.Proofs.Ytpdchohbmmfemaa.X
open Go Go.RowKit Go.Proofs.YtpdchohbmmfemaaW.Rx Go.Proofs.Ytpdchohbmmfemaa.Plain Go.Proofs.YtpdchohbmmfemaaW.PrintWords
set_option linter.unusedVariables false
set_option linter.unusedSimpArgs false
theorem getI_rd (l : List Int) (i : Int) (h0 : 0 ≤ i) (h : i < (l.length : Int)) : getI l i = some (rd l i) := by
 rw [getI_iff]
 refine ⟨h0, ?_⟩
 have hi : i.toNat < l.length := by omega
 unfold rd
 rw [List.getD_eq_getElem?_getD, List.getElem?_eq_getElem hi]
 rfl
theorem fdiv64 (c : Int) : Int.fdiv c (2 ^ 6) = c / 64 := Int.fdiv_eq_ediv_of_nonneg _ (by decide)
theorem shl1 {c : Int} (h0 : 0 ≤ c) (h : c ≤ 255) : IntKind.i64.wrap (1 * 2 ^ min (Int.toNat (c / 64)) 64) = widthOf c := shl_width h0 h
theorem get_at (L : List Int) (hL : Bytes L) (hm : L.length ≤ 7) (a1 : Int) (l0 : List Int) (r10 : Int) (k : Nat) (w : Int) (hw : IntKind.i64.wrap (1 * 2 ^ min (Int.toNat (Int.fdiv r10 (2 ^ 6))) 64) = w) (hwl : (Int.toNat w - 1 : Nat) = L.length)
  (hsub : ((((l0.drop (Int.toNat a1)).take (Int.toNat (((l0.length : Nat) : Int)) - Int.toNat a1)).drop (Int.toNat 1)).take (Int.toNat w - Int.toNat 1)) = L) (d : Nat) :
  ∀ (q : Nat) (n : Int) (i : Nat), i + d = L.length → d < q → 0 ≤ n → n < 64 * 256 ^ i → iter (vint_Get.s3 k a1 l0 r10) q (n, (i : Int)) = some (num n (L.drop i), IntKind.i64.wrap (a1 + w), 0, 0) := by
 induction d with
 | zero =>
  intro q n i hi hq h0 h1
  obtain ⟨q, rfl⟩ : ∃ m, q = m + 1 := ⟨q - 1, by omega⟩
  have hlt : ¬ ((i : Int) < (((Int.toNat w - 1 : Nat)) : Int)) := by omega
  simp only [iter, vint_Get.s3, hw, decide_eq_false hlt, cond_false, Option.bind_some]
  rw [List.drop_of_length_le (by omega)]
  rfl
 | succ d ih =>
  intro q n i hi hq h0 h1
  obtain ⟨q, rfl⟩ : ∃ m, q = m + 1 := ⟨q - 1, by omega⟩
  have hlt : ((i : Int) < (((Int.toNat w - 1 : Nat)) : Int)) := by omega
  have hp := pow256 i (by omega)
  have hb := rd_byte hL (i : Int) (by omega) (by omega)
  simp only [iter, vint_Get.s3, hw, decide_eq_true hlt, cond_true, hsub]
  rw [getI_rd L (i : Int) (by omega) (by omega)]
  simp only [Option.bind_some]
  rw [wrap_in (n * 2 ^ 8) (by omega) (by omega), wrap_in (rd L (i : Int)) (by omega) (by omega), b_or, show n * 2 ^ 8 = n * 256 by omega, or_join 8 (n * 256) (rd L (i : Int)) (by omega) (by omega) (by omega) hb.1 (by omega) (by omega), wrap_in ((i : Int) + 1) (by omega) (by omega), show (i : Int) + 1 = ((i + 1 : Nat) : Int) by omega, ih q _ (i + 1) (by omega) (by omega) (by omega) (by rw [Int.pow_succ]; omega)]
  have hd := rd_drop L (i : Int) (by omega) (by omega)
  rw [Int.toNat_natCast, show ((i : Int) + 1).toNat = i + 1 by omega] at hd
  rw [hd]
  rfl
theorem get_F (b : List Int) (hb : Bytes b) (hl : b.length ≤ 140737488351232) (i : Int) (hi : -9223372036854775808 ≤ i ∧ i ≤ 9223372036854775807) (k : Nat) (hk : 12 ≤ k) : vint_Get.F k b i = some (Plain.get b i) := by
 unfold vint_Get.F Plain.get
 by_cases c1 : i < 0
 ·rw [decide_eq_true c1, if_pos (Or.inl c1)]; rfl
 rw [decide_eq_false c1]
 by_cases c2 : i > b.length
 ·rw [decide_eq_true c2, if_pos (Or.inr c2)]; rfl
 rw [decide_eq_false c2, if_neg (by omega), decide_eq_true (by omega : (0 : Int) ≤ i ∧ i ≤ ((b.length : Nat) : Int) ∧ ((b.length : Nat) : Int) ≤ (b.length : Int))]
 simp only [cond_true, cond_false]
 by_cases c3 : i = b.length
 ·have : (((Int.toNat ((b.length : Nat) : Int) - Int.toNat i : Nat) : Int) == 0) = true := by rw [beq_iff_eq]; omega
  rw [this, if_pos c3]; rfl
 have h3 : (((Int.toNat ((b.length : Nat) : Int) - Int.toNat i : Nat) : Int) == 0) = false := by rw [beq_eq_false_iff_ne]; omega
 rw [h3, if_neg c3]
 simp only [cond_false]
 have hsub : ((b.drop (Int.toNat i)).take (Int.toNat ((b.length : Nat) : Int) - Int.toNat i)) = b.drop i.toNat := List.take_of_length_le (by rw [List.length_drop, Int.toNat_natCast]; exact Nat.le_refl _)
 have hrd : getI (b.drop i.toNat) 0 = some (rd b i) := by
  rw [rd_drop b i (by omega) (by omega)]; rfl
 have hc := rd_byte hb i (by omega) (by omega)
 have hw := width_bd (rd b i)
 have hw1 := shl1 hc.1 hc.2
 simp only [hsub, hrd, Option.bind_some, fdiv64, hw1]
 rw [decide_eq_true (by omega : 0 ≤ rd b i / 64)]
 simp only [cond_true]
 have e4 : ((Int.toNat ((b.length : Nat) : Int) - Int.toNat i : Nat) : Int) = (b.length : Int) - i := by omega
 rw [e4]
 by_cases c4 : (b.length : Int) - i < widthOf (rd b i)
 ·rw [decide_eq_true c4, if_pos c4]; rfl
 rw [decide_eq_false c4, if_neg c4]
 have hln : ((b.drop i.toNat).length : Int) = (b.length : Int) - i := by rw [List.length_drop]; omega
 simp only [cond_false]
 rw [decide_eq_true (by omega : (0 : Int) ≤ (1 : Int) ∧ (1 : Int) ≤ widthOf (rd b i) ∧ widthOf (rd b i) ≤ ((b.drop i.toNat).length : Int))]
 simp only [cond_true]
 have hL : (((b.drop i.toNat).drop (Int.toNat 1)).take (Int.toNat (widthOf (rd b i)) - Int.toNat 1)) = (b.drop (i + 1).toNat).take (widthOf (rd b i) - 1).toNat := by
  rw [List.drop_drop, show i.toNat + Int.toNat 1 = (i + 1).toNat from by omega, show Int.toNat (widthOf (rd b i)) - Int.toNat 1 = (widthOf (rd b i) - 1).toNat from by omega]
 have hLl : (Int.toNat (widthOf (rd b i)) - 1 : Nat) = ((b.drop (i + 1).toNat).take (widthOf (rd b i) - 1).toNat).length := by rw [List.length_take, List.length_drop]; omega
 have hbs : Bytes ((b.drop (i + 1).toNat).take (widthOf (rd b i) - 1).toNat) := fun x hx => hb x (List.mem_of_mem_drop (List.mem_of_mem_take hx))
 have h63 : IntKind.i64.wrap (IntKind.wrap IntKind.u8 (((BitVec.toNat (BitVec.ofInt 8 (rd b i) &&& BitVec.ofInt 8 63)) : Nat) : Int)) = rd b i % 64 := by rw [b_and8, wrap_i64]; exact and63 hc.1 hc.2
 rw [h63]
 have := get_at ((b.drop (i + 1).toNat).take (widthOf (rd b i) - 1).toNat) hbs (by omega) i b (rd b i) k (widthOf (rd b i)) (by rw [fdiv64]; exact hw1) hLl (by rw [hsub]; exact hL) ((b.drop (i + 1).toNat).take (widthOf (rd b i) - 1).toNat).length k (rd b i % 64) 0 (by omega) (by omega) (by omega) (by simp; omega)
 rw [show ((0 : Nat) : Int) = 0 from rfl] at this
 rw [this, wrap_in (i + widthOf (rd b i)) (by omega) (by omega)]
 rfl
end Go.Proofs.Ytpdchohbmmfemaa.X
