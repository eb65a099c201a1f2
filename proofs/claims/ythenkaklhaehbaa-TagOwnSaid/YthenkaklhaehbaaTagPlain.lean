/- What a tag comes to, in plain words. -/
import Derived.Test.YthenkaklhaehbaaLists
import Derived.Test.YthenkaklhaehbaaPAllx1
import Derived.Test.YthenkaklhaehbaaPAllx2
import Derived.Test.YthenkaklhaehbaaPAllx3
namespace Go.Proofs.Ythenkaklhaehbaa.Plain
open Go.RowKit Go.Proofs.Ythenkaklhaehbaa.PAll Go.Proofs.YthenkaklhaehbaaW.PrintWords Go.Proofs.YthenkaklhaehbaaW.PrintLast Go.Proofs.YthenkaklhaehbaaW.PrintMore
set_option linter.unusedVariables false
set_option linter.unusedSimpArgs false

def tagStep (n c : Int) : Int := IntKind.u64.wrap ((Go.bits .xor .u64 n (IntKind.u64.wrap c)) * 1099511628211)
def tagOf (key : Int) (l : List Int) : Int := l.foldl tagStep (Go.bits .xor .u64 14695981039346656037 key)

theorem of_l0 (l : List Int) (hm : l.length ≤ maxLen) (d : Nat) : ∀ (k : Nat) (n i : Int), 0 ≤ i → i ≤ l.length → (l.length : Int) - i = d → d < k →
    tag_Of.l0 k n l l.length i = some ((l.drop i.toNat).foldl tagStep n) := by
  unfold maxLen at hm
  induction d with
  | zero =>
    intro k n i h0 h1 hd hk
    obtain ⟨k, rfl⟩ : ∃ m, k = m + 1 := ⟨k - 1, by omega⟩
    simp only [tag_Of.l0]
    rw [if_neg (by omega), show i.toNat = l.length from by omega, List.drop_length]; rfl
  | succ d ih =>
    intro k n i h0 h1 hd hk
    obtain ⟨k, rfl⟩ : ∃ m, k = m + 1 := ⟨k - 1, by omega⟩
    simp only [tag_Of.l0]
    rw [if_pos (by omega), if_pos h0, if_pos (by omega), w64 (i + 1) (by omega), ih k _ (i + 1) (by omega) (by omega) (by omega) (by omega), rd_drop l i h0 (by omega)]
    rfl

theorem ref_l0 (l : List Int) (hm : l.length ≤ maxLen) (d : Nat) : ∀ (k : Nat) (n i : Int), 0 ≤ i → i ≤ l.length → (l.length : Int) - i = d → d < k →
    turnbuckleref02_Of.l0 k l n i = some ((l.drop i.toNat).foldl tagStep n) := by
  unfold maxLen at hm
  induction d with
  | zero =>
    intro k n i h0 h1 hd hk
    obtain ⟨k, rfl⟩ : ∃ m, k = m + 1 := ⟨k - 1, by omega⟩
    simp only [turnbuckleref02_Of.l0]
    rw [if_neg (by omega), show i.toNat = l.length from by omega, List.drop_length]; rfl
  | succ d ih =>
    intro k n i h0 h1 hd hk
    obtain ⟨k, rfl⟩ : ∃ m, k = m + 1 := ⟨k - 1, by omega⟩
    simp only [turnbuckleref02_Of.l0]
    rw [if_pos (by omega), if_pos h0, w64 (i + 1) (by omega), ih k _ (i + 1) (by omega) (by omega) (by omega) (by omega), rd_drop l i h0 (by omega)]
    rfl

theorem xor_comm64 (a b : Int) : Go.bits .xor .u64 a b = Go.bits .xor .u64 b a := by
  show IntKind.u64.wrap ((BitVec.ofInt 64 a ^^^ BitVec.ofInt 64 b).toNat : Int) = IntKind.u64.wrap ((BitVec.ofInt 64 b ^^^ BitVec.ofInt 64 a).toNat : Int)
  rw [BitVec.xor_comm]

theorem of_f (key : Int) (l : List Int) (hm : l.length ≤ maxLen) (k : Nat) (hk : l.length + 2 ≤ k) : tag_Of.f k key l = some (tagOf key l) := by
  unfold tag_Of.f
  rw [of_l0 l hm l.length _ _ 0 (by omega) (by omega) (by omega) (by omega)]
  rfl
theorem refof_f (key : Int) (l : List Int) (hm : l.length ≤ maxLen) (k : Nat) (hk : l.length + 2 ≤ k) : turnbuckleref02_Of.f k key l = some (tagOf key l) := by
  unfold turnbuckleref02_Of.f
  rw [ref_l0 l hm l.length _ _ 0 (by omega) (by omega) (by omega) (by omega), xor_comm64]
  rfl
theorem alive_true : turnbucklelaw02_alive.f 2 = some true := by
  unfold turnbucklelaw02_alive.f tag_Of.f
  rw [of_l0 _ (by unfold maxLen; simp) 1 2 _ 0 (by omega) (by simp) (by simp) (by omega)]
  decide +kernel
theorem alive_f (k : Nat) (hk : 2 ≤ k) : turnbucklelaw02_alive.f k = some true :=
  at_rounds (fun k => turnbucklelaw02_alive.mono k) hk alive_true

/-! ### each step is one to one -/
def sB (n : Int) : BitVec 64 := BitVec.ofInt 64 n
theorem sB_wrap (z : Int) : sB (IntKind.u64.wrap z) = sB z := by
  apply BitVec.eq_of_toNat_eq
  simp [sB, BitVec.toNat_ofInt, IntKind.wrap, IntKind.bits, IntKind.signed]
theorem sB_xor (a b : Int) : sB (Go.bits .xor .u64 a b) = sB a ^^^ sB b := by
  show sB (IntKind.u64.wrap ((BitVec.ofInt 64 a ^^^ BitVec.ofInt 64 b).toNat : Int)) = _
  rw [sB_wrap]
  apply BitVec.eq_of_toNat_eq
  rw [sB, BitVec.toNat_ofInt]
  have := (BitVec.ofInt 64 a ^^^ BitVec.ofInt 64 b).isLt
  show _ = (BitVec.ofInt 64 a ^^^ BitVec.ofInt 64 b).toNat
  omega
theorem sB_mul (a b : Int) : sB (a * b) = sB a * sB b := BitVec.ofInt_mul a b
theorem sB_step (n c : Int) : sB (tagStep n c) = (sB n ^^^ sB c) * 1099511628211#64 := by
  unfold tagStep
  rw [sB_wrap, sB_mul, sB_xor, sB_wrap]
  rfl
theorem times_inj {u v : BitVec 64} (h : u * 1099511628211#64 = v * 1099511628211#64) : u = v := by
  have e : (1099511628211#64) * (14886173955864302971#64) = 1#64 := by decide +kernel
  have := congrArg (· * 14886173955864302971#64) h
  simp only [BitVec.mul_assoc, e, BitVec.mul_one] at this
  exact this
theorem xor_inj_left {a u v : BitVec 64} (h : a ^^^ u = a ^^^ v) : u = v := by
  have := congrArg (a ^^^ ·) h
  simpa [← BitVec.xor_assoc] using this
theorem xor_inj_right {a u v : BitVec 64} (h : u ^^^ a = v ^^^ a) : u = v := by
  rw [BitVec.xor_comm u, BitVec.xor_comm v] at h
  exact xor_inj_left h
theorem fold_inj (s : List Int) : ∀ (m m' : Int), sB (s.foldl tagStep m) = sB (s.foldl tagStep m') → sB m = sB m' := by
  induction s with
  | nil => intro m m' h; exact h
  | cons y s ih =>
    intro m m' h
    have := ih _ _ h
    rw [sB_step, sB_step] at this
    exact xor_inj_right (times_inj this)
theorem sB_inj {a b : Int} (ha : 0 ≤ a ∧ a < 18446744073709551616) (hb : 0 ≤ b ∧ b < 18446744073709551616) (h : sB a = sB b) : a = b := by
  have := congrArg BitVec.toNat h
  simp only [sB, BitVec.toNat_ofInt] at this
  omega
theorem byte_xor_ne {x y : Int} (hx : 0 ≤ x ∧ x ≤ 255) (hy : 0 ≤ y ∧ y ≤ 255) (h0 : y ≠ 0) : Go.bits .xor .u8 x y ≠ x ∧ 0 ≤ Go.bits .xor .u8 x y ∧ Go.bits .xor .u8 x y ≤ 255 := by
  rw [u8_xor x y (by omega) (by omega) (by omega) (by omega)]
  have h256 : x.toNat ^^^ y.toNat < 2 ^ 8 := Nat.xor_lt_two_pow (by omega) (by omega)
  refine ⟨fun h => h0 ?_, by omega, by omega⟩
  have h1 : x.toNat ^^^ y.toNat = x.toNat := by omega
  have h2 := congrArg (x.toNat ^^^ ·) h1
  simp only [← Nat.xor_assoc, Nat.xor_self, Nat.zero_xor] at h2
  omega
/-- bytes that differ at one place have unlike tags -/
theorem unlike (key : Int) (p s : List Int) (x y : Int) (hx : 0 ≤ x ∧ x ≤ 255) (hy : 0 ≤ y ∧ y ≤ 255) (hne : x ≠ y) : tagOf key (p ++ x :: s) ≠ tagOf key (p ++ y :: s) := by
  intro h
  unfold tagOf at h
  rw [List.foldl_append, List.foldl_append, List.foldl_cons, List.foldl_cons] at h
  have h2 := fold_inj s _ _ (congrArg sB h)
  rw [sB_step, sB_step] at h2
  exact hne (sB_inj (by omega) (by omega) (xor_inj_left (times_inj h2)))
end Go.Proofs.Ythenkaklhaehbaa.Plain
