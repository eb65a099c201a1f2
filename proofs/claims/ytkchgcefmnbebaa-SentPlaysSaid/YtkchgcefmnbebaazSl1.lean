import Derived.Test.YtkchgcefmnbebaazSm10
import Derived.Test.YtkchgcefmnbebaazSg1
namespace Go.Proofs.Ytkchgcefmnbebaa.X
open Go Go.RowKit Go.Proofs.YtkchgcefmnbebaaW.Rx
set_option linter.unusedVariables false
set_option linter.unusedSimpArgs false
set_option maxRecDepth 20000
def timeB (n : Int) : Bool := decide (0 ≤ n) && decide (n ≤ 1099511627776)
def waitB (now wait : Int) : Bool := timeB now && (timeB wait && decide (0 < wait))
theorem isTime_F (k : Nat) (n : Int) : sent_isTime.F k n = some (timeB n) := by
 unfold sent_isTime.F timeB
 cases decide (0 ≤ n) <;> cases decide (n ≤ 1099511627776) <;> rfl
theorem isWait_F (k : Nat) (now wait : Int) : sent_isWait.F k now wait = some (waitB now wait) := by
 unfold sent_isWait.F waitB
 rw [isTime_F, isTime_F]
 cases timeB now <;> cases timeB wait <;> cases decide (0 < wait) <;> rfl
abbrev ActT := Int × Int × Int × Int × Int × List (Int × Int)
def doesF (q : Led) (a : ActT) : List Pk × Bool × Led :=
 bif Int.tmod a.1 5 == 0 then ([], (sentF q a.2.1 a.2.2.1 a.2.2.2.1 (timeB a.2.2.1)).1 == 0, (sentF q a.2.1 a.2.2.1 a.2.2.2.1 (timeB a.2.2.1)).2)
 else bif Int.tmod a.1 5 == 1 then
  ((ackF q a.2.2.2.2.2 a.2.2.1 a.2.2.2.2.1 (decide (RightB a.2.2.2.2.2)) (waitB a.2.2.1 a.2.2.2.2.1) (fun p => hasB a.2.2.2.2.2 p.1)).1 ++ (ackF q a.2.2.2.2.2 a.2.2.1 a.2.2.2.2.1 (decide (RightB a.2.2.2.2.2)) (waitB a.2.2.1 a.2.2.2.2.1) (fun p => hasB a.2.2.2.2.2 p.1)).2.1, false,
   (ackF q a.2.2.2.2.2 a.2.2.1 a.2.2.2.2.1 (decide (RightB a.2.2.2.2.2)) (waitB a.2.2.1 a.2.2.2.2.1) (fun p => hasB a.2.2.2.2.2 p.1)).2.2.2)
 else bif Int.tmod a.1 5 == 2 then ((loseF q a.2.2.1 a.2.2.2.2.1 (waitB a.2.2.1 a.2.2.2.2.1)).1, false, (loseF q a.2.2.1 a.2.2.2.2.1 (waitB a.2.2.1 a.2.2.2.2.1)).2)
 else bif Int.tmod a.1 5 == 3 then ([], false, q)
 else (q.1, false, ([], q.2))
theorem loseF_good {q : Led} (h : LedG q) (now wait : Int) (v : Bool) : LedG (loseF q now wait v).2 := by
 cases v
 ·exact h
 ·exact h.filter _
theorem loseF_len {q : Led} (h : LedG q) (now wait : Int) (v : Bool) : (loseF q now wait v).1.length ≤ 512 := by
 cases v
 ·exact Nat.zero_le _
 ·exact Nat.le_trans (List.length_filter_le _ _) h.len
theorem ackF_good {q : Led} (h : LedG q) (l : List (Int × Int)) (now wait : Int) (r v : Bool) (f : Pk → Bool) : LedG (ackF q l now wait r v f).2.2.2 ∧ (ackF q l now wait r v f).1.length ≤ 512 ∧ (ackF q l now wait r v f).2.1.length ≤ 512 := by
 unfold ackF
 have h0 : LedG q ∧ ([] : List Pk).length ≤ 512 ∧ ([] : List Pk).length ≤ 512 := ⟨h, Nat.zero_le _, Nat.zero_le _⟩
 cases r
 ·exact h0
 cases ((l.length : Nat) : Int) == 0
 case true => exact h0
 cases v
 ·exact h0
 cases decide (q.2.2.1 < (l.getLastD (0, 0)).2)
 case true => exact h0
 have hq1 : LedG (q.1.filter (fun p => !f p), (if q.2.1 < (l.getLastD (0, 0)).2 then (l.getLastD (0, 0)).2 else q.2.1), q.2.2) :=
  ⟨h.sorted.filter _, fun p hp => h.rng p (List.mem_filter.1 hp).1, h.last, Nat.le_trans (List.length_filter_le _ _) h.len⟩
 exact ⟨loseF_good hq1 now wait true, Nat.le_trans (List.length_filter_le _ _) h.len, loseF_len hq1 now wait true⟩
def DoesE (w : World) (g : Nat) (r : List Pk × Bool × Led) (e : Ending) (w' : World) : Prop := ∃ (B : Option Addr) (d : Nat), e = .returned (.tuple #[.slice B r.1.length d, .bool r.2.1]) ∧ Fine (lb g) w (lb g) w' ∧ LedO (fun _ => False) w' g r.2.2 ∧ OwnF w.heap.size (fun b => b < w.heap.size) w' 54 R36 B d r.1
end Go.Proofs.Ytkchgcefmnbebaa.X
