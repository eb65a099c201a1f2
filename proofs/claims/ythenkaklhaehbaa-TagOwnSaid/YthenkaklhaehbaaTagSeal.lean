/- What is sealed and what is opened, in plain words. -/
import Derived.Test.YthenkaklhaehbaaTagPlain
import Derived.Test.YthenkaklhaehbaaConcatPlain
import Derived.Test.YthenkaklhaehbaaPAllx6
import Derived.Test.YthenkaklhaehbaaPAllx14
import Derived.Test.YthenkaklhaehbaaPAllx8
import Derived.Test.YthenkaklhaehbaaPAllx7
import Derived.Test.YthenkaklhaehbaaPAllx9
import Derived.Test.YthenkaklhaehbaaPAllx10
namespace Go.Proofs.Ythenkaklhaehbaa.Plain
open Go.RowKit Go.Proofs.Ythenkaklhaehbaa.PAll Go.Proofs.YthenkaklhaehbaaW.PrintWords Go.Proofs.YthenkaklhaehbaaW.PrintLast Go.Proofs.YthenkaklhaehbaaW.PrintMore
set_option linter.unusedVariables false
set_option linter.unusedSimpArgs false

theorem mark_len (t : Int) : (tag_mark.f t).length = 8 := rfl
theorem mark_bytes (t : Int) : Bytes (tag_mark.f t) := by
  intro x hx
  simp only [tag_mark.f, List.mem_cons, List.not_mem_nil, or_false] at hx
  omega
theorem mark_inj {s t : Int} (hs : 0 ≤ s ∧ s < 18446744073709551616) (ht : 0 ≤ t ∧ t < 18446744073709551616) (h : tag_mark.f s = tag_mark.f t) : s = t := by
  simp only [tag_mark.f, List.cons.injEq, and_true] at h
  omega
theorem wrap_range (z : Int) : 0 ≤ IntKind.u64.wrap z ∧ IntKind.u64.wrap z < 18446744073709551616 := by
  simp only [IntKind.wrap, IntKind.bits, IntKind.signed]
  simp
  omega
theorem fold_range (l : List Int) : ∀ n, (0 ≤ n ∧ n < 18446744073709551616) → 0 ≤ l.foldl tagStep n ∧ l.foldl tagStep n < 18446744073709551616 := by
  induction l with
  | nil => intro n h; exact h
  | cons x l ih => intro n h; exact ih _ (wrap_range _)
theorem tag_range (key : Int) (l : List Int) : 0 ≤ tagOf key l ∧ tagOf key l < 18446744073709551616 := fold_range l _ (wrap_range _)
theorem tag_key {a b : Int} (ha : 0 ≤ a ∧ a < 18446744073709551616) (hb : 0 ≤ b ∧ b < 18446744073709551616) (l : List Int) (h : tagOf a l = tagOf b l) : a = b := by
  have h2 := fold_inj l _ _ (congrArg sB h)
  rw [sB_xor, sB_xor] at h2
  exact sB_inj ha hb (xor_inj_left h2)

def seal8 (key : Int) (l : List Int) : List Int := l ++ tag_mark.f (tagOf key l)
theorem seal_len (key : Int) (l : List Int) : (seal8 key l).length = l.length + 8 := by simp [seal8, mark_len]
theorem seal_bytes (key : Int) {l : List Int} (h : Bytes l) : Bytes (seal8 key l) := by
  intro x hx
  simp only [seal8, List.mem_append] at hx
  rcases hx with hx | hx
  · exact h x hx
  · exact mark_bytes _ x hx
theorem seal_f (key : Int) (l : List Int) (hm : l.length ≤ 140737488351232) (k : Nat) (hk : l.length + 10 ≤ k) : tag_Seal.f k key l = some (seal8 key l) := by
  unfold tag_Seal.f
  rw [of_f key l (by unfold maxLen; omega) k (by omega)]
  simp only [Option.bind_some]
  rw [concat_f _ (by simp) (by simp [mark_len]; omega) k (by simp; omega)]
  simp [seal8]

def open8 (key : Int) (l : List Int) : List Int × Int :=
  if l.length < 8 then ([], 4) else if tag_mark.f (tagOf key (l.take (l.length - 8))) = l.drop (l.length - 8) then (l.take (l.length - 8), 0) else ([], 4)
theorem open_f (key : Int) (l : List Int) (hm : l.length ≤ 140737488355300) (k : Nat) (hk : l.length + 10 ≤ k) : tag_Open.f k key l = some (open8 key l) := by
  unfold tag_Open.f open8
  by_cases h : l.length < 8
  · rw [if_pos h, if_pos h]
  · rw [if_neg h, if_neg h, of_f key _ (by unfold maxLen; simp; omega) k (by simp; omega)]
    simp only [Option.bind_some]
    split
    · unfold slices_Clone_byte_byte.f
      rw [if_pos (by simp; omega)]
      rfl
    · rfl
/-- What is opened of what was sealed. -/
theorem open_seal (key other : Int) (l : List Int) : open8 other (seal8 key l) = if tag_mark.f (tagOf other l) = tag_mark.f (tagOf key l) then (l, 0) else ([], 4) := by
  unfold open8
  rw [if_neg (by rw [seal_len]; omega), seal_len, Nat.add_sub_cancel]
  unfold seal8
  rw [List.take_left, List.drop_left]

theorem refseal_f (key : Int) (l : List Int) (hm : l.length ≤ 140737488355300) (k : Nat) (hk : l.length + 10 ≤ k) : turnbuckleref02_Seal.f k key l = some (seal8 key l) := by
  unfold turnbuckleref02_Seal.f
  rw [refof_f key l (by unfold maxLen; omega) k (by omega)]
  simp only [Option.bind_some, List.length_nil, Nat.zero_add, List.nil_append]
  rw [if_pos (by omega)]
  obtain ⟨k, rfl⟩ : ∃ m, k = m + 9 := ⟨k - 9, by omega⟩
  have w7 : ∀ n : Int, -100 ≤ n → n ≤ 100 → wrap64 n = n := fun n h1 h2 => w64 n (by omega)
  have go : ∀ (j : Nat) (acc : List Int) (i : Int), 0 ≤ i → i ≤ 7 → acc.length < 140737488355320 → turnbuckleref02_Seal.l0 (j + 1) (tagOf key l) acc i = turnbuckleref02_Seal.l0 j (tagOf key l) (acc ++ [tagOf key l / 2 ^ (8 * i).toNat % 256]) (i - 1) := by
    intro j acc i h0 h1 ha
    simp only [turnbuckleref02_Seal.l0]
    rw [if_pos h0, w7 (8 * i) (by omega) (by omega), if_pos (by omega), if_pos (by omega), shr_small .u64 _ _ (by show (8 * i).toNat ≤ 64; omega), w7 (i - 1) (by omega) (by omega)]
  rw [go (k + 8) _ 7 (by omega) (by omega) (by omega), go (k + 7) _ _ (by omega) (by omega) (by simp; omega), go (k + 6) _ _ (by omega) (by omega) (by simp; omega), go (k + 5) _ _ (by omega) (by omega) (by simp; omega), go (k + 4) _ _ (by omega) (by omega) (by simp; omega), go (k + 3) _ _ (by omega) (by omega) (by simp; omega), go (k + 2) _ _ (by omega) (by omega) (by simp; omega), go (k + 1) _ _ (by omega) (by omega) (by simp; omega)]
  simp only [turnbuckleref02_Seal.l0]
  rw [if_neg (by omega)]
  simp [seal8, tag_mark.f]

theorem refopen_f (key : Int) (l : List Int) (hb : Bytes l) (hm : l.length ≤ 140737488355300) (k : Nat) (hk : l.length + 10 ≤ k) : turnbuckleref02_Open.f k key l = some (open8 key l) := by
  unfold turnbuckleref02_Open.f open8
  rw [w64 ((l.length : Int) - 8) (by omega)]
  by_cases h : l.length < 8
  · rw [if_pos (by omega), if_pos h]
  · rw [if_neg (by omega), if_neg h, if_pos (by omega), if_pos (by omega), show ((l.length : Int) - 8).toNat = l.length - 8 from by omega]
    have hbt : Bytes (l.take (l.length - 8)) := fun x hx => hb x (List.mem_of_mem_take hx)
    rw [refseal_f key _ (by simp; omega) k (by simp; omega)]
    simp only [Option.bind_some, List.length_nil, Nat.zero_add, List.nil_append]
    have key1 : ((strOfNums (seal8 key (l.take (l.length - 8)))).toList = (strOfNums l).toList) ↔ (tag_mark.f (tagOf key (l.take (l.length - 8))) = l.drop (l.length - 8)) := by
      rw [← beq_iff_eq, strOf_inj (seal_bytes key hbt) hb, decide_eq_true_eq]
      constructor
      · intro e
        unfold seal8 at e
        have := congrArg (List.drop (l.length - 8)) e
        rwa [List.drop_left' (by simp)] at this
      · intro e
        unfold seal8
        rw [e, List.take_append_drop]
    by_cases e : tag_mark.f (tagOf key (l.take (l.length - 8))) = l.drop (l.length - 8)
    · rw [if_pos e, if_pos (key1.mpr e), if_pos (by simp; omega)]
    · rw [if_neg e, if_neg (fun x => e (key1.mp x))]
end Go.Proofs.Ythenkaklhaehbaa.Plain
