import Derived.Test.YtkchgcefmnbebaazSl3
namespace Go.Proofs.Ytkchgcefmnbebaa.X
open Go Go.RowKit Go.Proofs.YtkchgcefmnbebaaW.Rx
set_option linter.unusedVariables false
set_option linter.unusedSimpArgs false
set_option maxRecDepth 20000
section
variable {q : Led} (h : LedT q) (wait : Int)
theorem h37_n {lg now wait : Int} {p : Pk} (hp : 0 ≤ p.1 ∧ p.1 ≤ 4611686018427387903) : h37 lg now wait p = (decide (p.1 < lg) && (decide (p.1 + 3 ≤ lg) || decide (IntKind.i64.wrap (p.2.1 + wait) ≤ now))) := by
 unfold h37
 rw [wrap_in (p.1 + 3) (by omega) (by omega)]
theorem h37_t {lg now wait : Int} {p : Pk} (hp : 0 ≤ p.1 ∧ p.1 ≤ 4611686018427387903) (ht : 0 ≤ p.2.1 ∧ p.2.1 ≤ 1099511627776) (hw : 0 ≤ wait ∧ wait ≤ 1099511627776) : h37 lg now wait p = (decide (p.1 < lg) && (decide (p.1 + 3 ≤ lg) || decide (p.2.1 + wait ≤ now))) := by
 rw [h37_n hp, wrap_in (p.2.1 + wait) (by omega) (by omega)]
theorem waitB_iff {now wait : Int} : waitB now wait = true ↔ (0 ≤ now ∧ now ≤ 1099511627776) ∧ 0 < wait ∧ wait ≤ 1099511627776 := by
 unfold waitB timeB
 simp only [Bool.and_eq_true, decide_eq_true_iff]
 omega
def q2F (q : Led) : Led := (loseF q 0 1099511627776 (waitB 0 1099511627776)).2
include h
end
abbrev A6 : Nat → LA := fun r => if r = 5 then ⟨[(18, false, [Lf.i .i64])], []⟩ else noA r
theorem fine_lg {S L L' : Nat → Prop} {w w2 w3 : World} {g : Nat} (h : Fine (fun _ => False) w L w2) (g2 : Fine (fun b => L b ∨ lb g b) w2 L' w3) (hg : w.heap.size ≤ g) (hid : ∀ b, L' b → L b ∨ w2.heap.size ≤ b) : Fine (fun _ => False) w L' w3 :=
 Fine.own h g2 (fun b hb => Or.inr (by rcases hb with h | h <;> omega)) hid
end Go.Proofs.Ytkchgcefmnbebaa.X
