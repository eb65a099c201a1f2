import Derived.Test.YtpdchohbmmfemaazFp1
namespace Go.Proofs.Ytpdchohbmmfemaa.X
open Go Go.RowKit Go.Proofs.YtpdchohbmmfemaaW.Rx Go.Proofs.Ytpdchohbmmfemaa.Plain Go.Proofs.YtpdchohbmmfemaaW.PrintWords
set_option linter.unusedVariables false
set_option linter.unusedSimpArgs false
set_option linter.unusedSectionVars false
abbrev Ex := Except (Int × Int)
def numR (b : List Int) (p : Int) : Ex (Int × Int) :=
 if (Plain.get b p).2.2.1 = 0 ∧ (Plain.get b p).2.2.2 = 0 then .ok ((Plain.get b p).1, (Plain.get b p).2.1) else .error ((Plain.get b p).2.2.1, (Plain.get b p).2.2.2)
def belowR (b : List Int) (p most e : Int) : Ex (Int × Int) := (numR b p).bind fun r => if r.1 ≤ most then .ok r else .error (e, p)
def takeR (b : List Int) (p n : Int) : Ex (List Int × Int) := if n ≤ (b.length : Int) - p then .ok ((b.drop p.toNat).take n.toNat, p + n) else .error (3, (b.length : Int))
def ackL (b : List Int) : Nat → Int → Int → List (Int × Int) → Ex (List (Int × Int) × Int)
 | 0, _, p, acc => .ok (acc, p)
 | c + 1, low, p, acc => (belowR b p (low - 2) 5).bind fun g => (belowR b g.2 (low - 2 - g.1) 5).bind fun n => ackL b c (low - 2 - g.1 - n.1) n.2 (acc ++ [(low - 2 - g.1 - n.1, low - 2 - g.1)])
def ackR (b : List Int) (p : Int) : Ex (Fr × Int) := (numR b p).bind fun t => (numR b t.2).bind fun n => (belowR b n.2 31 6).bind fun m => (belowR b m.2 t.1 5).bind fun f => (ackL b m.1.toNat (t.1 - f.1) f.2 [(t.1 - f.1, t.1)]).bind fun r => .ok ((2, 0, 0, n.1, 0, false, [], r.1.reverse), r.2)
def streamR (b : List Int) (kind p0 p : Int) : Ex (Fr × Int) := (numR b p).bind fun s =>
 (if kind / 4 % 2 = 1 then numR b s.2 else .ok (0, s.2)).bind fun o =>
 (if kind / 2 % 2 = 1 then numR b o.2 else .ok ((b.length : Int) - o.2, o.2)).bind fun n =>
 if n.1 ≤ 4611686018427387903 - o.1 then (takeR b n.2 n.1).bind fun d => .ok ((8, s.1, o.1, 0, 0, decide (kind % 2 = 1), d.1, []), d.2) else .error (7, p0)
def frameR (b : List Int) (p : Int) : Ex (Fr × Int) :=
 let kind := rd b p
 if kind = 0 ∨ kind = 1 ∨ kind = 30 then .ok ((kind, 0, 0, 0, 0, false, [], []), p + 1)
 else if kind = 2 then ackR b (p + 1)
 else if kind = 4 then (numR b (p + 1)).bind fun s => (numR b s.2).bind fun c => (numR b c.2).bind fun o => .ok ((4, s.1, o.1, 0, c.1, false, [], []), o.2)
 else if kind = 5 then (numR b (p + 1)).bind fun s => (numR b s.2).bind fun c => .ok ((5, s.1, 0, 0, c.1, false, [], []), c.2)
 else if kind = 17 then (numR b (p + 1)).bind fun s => (numR b s.2).bind fun n => .ok ((17, s.1, 0, n.1, 0, false, [], []), n.2)
 else if kind = 16 ∨ kind = 18 then (numR b (p + 1)).bind fun n => .ok ((kind, 0, 0, n.1, 0, false, [], []), n.2)
 else if kind = 28 then (numR b (p + 1)).bind fun c => (numR b c.2).bind fun n => (takeR b n.2 n.1).bind fun d => .ok ((28, 0, 0, 0, c.1, false, d.1, []), d.2)
 else if kind / 8 = 1 then streamR b kind p (p + 1)
 else .error (5, p)
theorem get_ok {b : List Int} (hb : Bytes b) {p : Int} {r : Int × Int} (h : numR b p = .ok r) : 0 ≤ p ∧ p < b.length ∧ 0 ≤ r.1 ∧ r.1 ≤ 4611686018427387903 ∧ r.2 = p + widthOf (rd b p) ∧ r.2 ≤ b.length ∧ p < r.2 := by
 unfold numR Plain.get at h
 by_cases c1 : p < 0 ∨ p > b.length
 ·rw [if_pos c1] at h; simp at h
 rw [if_neg c1] at h
 by_cases c2 : p = b.length
 ·rw [if_pos c2] at h; simp at h
 rw [if_neg c2] at h
 by_cases c3 : (b.length : Int) - p < widthOf (rd b p)
 ·rw [if_pos c3] at h; simp at h
 rw [if_neg c3] at h
 simp only [and_self, if_true, Except.ok.injEq] at h
 subst h
 have hw := width_bd (rd b p)
 have hc := rd_byte hb p (by omega) (by omega)
 have hbs : Bytes ((b.drop (p + 1).toNat).take (widthOf (rd b p) - 1).toNat) := fun x hx => hb x (List.mem_of_mem_drop (List.mem_of_mem_take hx))
 have hn := num_bd _ (rd b p % 64) 64 hbs (by omega) (by omega)
 have hls : ((b.drop (p + 1).toNat).take (widthOf (rd b p) - 1).toNat).length ≤ 7 := by rw [List.length_take]; omega
 have hp : (256 : Int) ^ ((b.drop (p + 1).toNat).take (widthOf (rd b p) - 1).toNat).length ≤ 72057594037927936 := by
  generalize ((b.drop (p + 1).toNat).take (widthOf (rd b p) - 1).toNat).length = m at hls
  have : m = 0 ∨ m = 1 ∨ m = 2 ∨ m = 3 ∨ m = 4 ∨ m = 5 ∨ m = 6 ∨ m = 7 := by omega
  rcases this with rfl | rfl | rfl | rfl | rfl | rfl | rfl | rfl <;> decide
 dsimp only
 refine ⟨by omega, by omega, hn.1, by omega, rfl, by omega, by omega⟩
section
variable {k : Nat} {b : List Int} (hk : 1250 ≤ k) (hb : Bytes b) (hl : b.length ≤ 1200)
include hk hb hl
theorem number_F {p : Int} (h0 : 0 ≤ p) (h1 : p ≤ b.length) : f0_number.F k (b, p) = some ((numR b p).map fun r => (r.1, (b, r.2))) := by
 unfold f0_number.F numR
 rw [get_F b hb (by omega) p (by omega) k (by omega)]
 simp only [Option.bind_some]
 by_cases hc : (Plain.get b p).2.2.1 = 0 ∧ (Plain.get b p).2.2.2 = 0
 ·have : ((Plain.get b p).2.2.1 == 0 && ((Plain.get b p).2.2.2 == 0 && true)) = true := by simp [hc.1, hc.2]
  rw [this, if_pos hc]; rfl
 ·have : ((Plain.get b p).2.2.1 == 0 && ((Plain.get b p).2.2.2 == 0 && true)) = false := by
   rw [← Bool.not_eq_true]; simpa using hc
  rw [this, if_neg hc]; rfl
theorem below_F {p most e : Int} (h0 : 0 ≤ p) (h1 : p ≤ b.length) : f0_below.F k (b, p) most e = some ((belowR b p most e).map fun r => (r.1, (b, r.2))) := by
 unfold f0_below.F belowR
 rw [number_F hk hb hl h0 h1]
 cases hn : numR b p with
 | error z => rfl
 | ok r =>
  simp only [Option.bind_some, Except.map, Except.bind]
  by_cases hc : r.1 ≤ most
  ·rw [decide_eq_true hc, if_pos hc]; rfl
  ·rw [decide_eq_false hc, if_neg hc]; rfl
theorem take_F {p n : Int} (h0 : 0 ≤ p) (h1 : p ≤ b.length) (hn : 0 ≤ n) (hn2 : n ≤ 4611686018427387903) : f0_take.F k (b, p) n = some ((takeR b p n).map fun r => (r.1, (b, r.2))) := by
 unfold f0_take.F takeR
 simp only
 rw [wrap_in ((b.length : Int) - p) (by omega) (by omega)]
 by_cases hc : n ≤ (b.length : Int) - p
 ·rw [decide_eq_true hc, if_pos hc, wrap_in (p + n) (by omega) (by omega), wrap_in (p + n - n) (by omega) (by omega)]
  simp only [cond_true, frames_needs.F, Option.bind_some]
  rw [decide_eq_true (by omega : (0 : Int) ≤ p + n - n ∧ p + n - n ≤ p + n ∧ p + n ≤ (b.length : Int))]
  simp only [cond_true, slices_Clone_byte_byte.F]
  rw [show p + n - n = p by omega, show Int.toNat (p + n) - Int.toNat p = n.toNat by omega, decide_eq_true (by rw [List.length_take, List.length_drop]; omega)]
  rfl
 ·rw [decide_eq_false hc, if_neg hc]
  rfl
end
end Go.Proofs.Ytpdchohbmmfemaa.X
