import Derived.Test.YtkchgcefmnbebaazSb
import Derived.Test.YtkchgcefmnbebaazSl4
namespace Go.Proofs.Ytkchgcefmnbebaa.X
open Go Go.RowKit Go.Proofs.YtkchgcefmnbebaaW.Rx
set_option linter.unusedVariables false
set_option linter.unusedSimpArgs false
set_option maxRecDepth 20000
theorem refTime_F (k : Nat) (n : Int) : ref08_time.F k n = some (timeB n) := isTime_F k n
theorem refWaits_F (k : Nat) (now wait : Int) : ref08_waits.F k now wait = some (waitB now wait) := by
 unfold ref08_waits.F waitB timeB
 rw [refTime_F]
 unfold timeB
 by_cases h1 : 0 ≤ now <;> by_cases h2 : now ≤ 1099511627776 <;> by_cases h3 : 0 < wait <;> by_cases h4 : wait ≤ 1099511627776
 all_goals
  first
  | rw [decide_eq_true (show 1 ≤ wait by omega), decide_eq_true (show 0 ≤ wait by omega)]; simp [h1, h2, h3, h4]; done
  | rw [decide_eq_false (show ¬ 1 ≤ wait by omega)]; simp [h1, h2, h3, h4]; done
  | simp [h1, h2, h3, h4]; done
theorem wrap_succ {j n : Nat} (hj : j < n) (hn : n ≤ 9223372036854775807) : IntKind.i64.wrap ((j : Int) + 1) = ((j + 1 : Nat) : Int) := by
 rw [wrap_in _ (by omega) (by omega)]; omega
theorem ours_at {l : List Pk} (hl : l.length ≤ 512) (k : Nat) : ∀ (m j : Nat), j ≤ l.length → l.length - j < m → iter (law08_ours.s0 k l) m (l.take j, (j : Int)) = some l := by
 intro m
 induction m with
 | zero => intro j _ h; omega
 | succ m ih =>
  intro j hj hm
  rcases Nat.lt_or_ge j l.length with h | h
  ·have hg : l[j]? = some l[j] := List.getElem?_eq_getElem h
   have hw := wrap_succ h (by omega)
   have hc : decide (((l.take j).length + ([(l[j].1, l[j].2.1, l[j].2.2)] : List (Int × Int × Int)).length) * 24 ≤ 140737488355328) = true := decide_eq_true (by simp; omega)
   simp only [iter]
   have : law08_ours.s0 k l (l.take j, (j : Int)) = some (.inl (l.take (j + 1), ((j + 1 : Nat) : Int))) := by
    unfold law08_ours.s0
    simp only [decide_eq_true (show (j : Int) < (l.length : Int) by omega), cond_true, getI_nat, hg, Option.bind_some]
    rw [hc, hw, cond_true, List.take_add_one, hg]
    rfl
   rw [this]
   exact ih (j + 1) h (by omega)
  ·have : j = l.length := by omega
   subst this
   simp only [iter]
   have : law08_ours.s0 k l (l.take l.length, (l.length : Int)) = some (.inr l) := by
    unfold law08_ours.s0
    rw [List.take_length]
    simp only [decide_eq_false (show ¬ (l.length : Int) < (l.length : Int) by omega), cond_false]
   rw [this]
   rfl
theorem ours_F {l : List Pk} (hl : l.length ≤ 512) {k : Nat} (hk : l.length < k) : law08_ours.F k l = some l := by
 unfold law08_ours.F
 exact ours_at hl k k 0 (Nat.zero_le _) (by omega)
theorem same_at {l : List Pk} (hl : l.length ≤ 512) (k : Nat) : ∀ (m j : Nat), j ≤ l.length → l.length - j < m → iter (ref08_Same.s0 k l l) m (j : Int) = some true := by
 intro m
 induction m with
 | zero => intro j _ h; omega
 | succ m ih =>
  intro j hj hm
  rcases Nat.lt_or_ge j l.length with h | h
  ·have hg : l[j]? = some l[j] := List.getElem?_eq_getElem h
   have hw := wrap_succ h (by omega)
   simp only [iter]
   have : ref08_Same.s0 k l l (j : Int) = some (.inl ((j + 1 : Nat) : Int)) := by
    unfold ref08_Same.s0
    simp only [decide_eq_true (show (j : Int) < (l.length : Int) by omega), cond_true, getI_nat, hg, Option.bind_some, beq_self_eq_true, Bool.and_self, Bool.not_true, cond_false, hw]
   rw [this]
   exact ih (j + 1) h (by omega)
  ·have : j = l.length := by omega
   subst this
   simp only [iter]
   have : ref08_Same.s0 k l l (l.length : Int) = some (.inr true) := by
    unfold ref08_Same.s0
    simp only [decide_eq_false (show ¬ (l.length : Int) < (l.length : Int) by omega), cond_false]
   rw [this]
   rfl
theorem same_F {l : List Pk} (hl : l.length ≤ 512) {k : Nat} (hk : l.length < k) : ref08_Same.F k l l = some true := by
 unfold ref08_Same.F
 simp only [bne_self_eq_false, cond_false]
 exact same_at hl k k 0 (Nat.zero_le _) (by omega)
theorem refSent_F {q : Led} (hG : LedG q) (k : Nat) (n t s : Int) : ref08_Ledger_Sent.F k q n t s = some (sentF q n t s (timeB t)) := by
 unfold ref08_Ledger_Sent.F sentF
 rw [refTime_F]
 cases h1 : decide (n < 0) <;> simp only [cond_true, cond_false]
 cases h2 : decide (4611686018427387903 < n) <;> simp only [cond_true, cond_false, Option.bind_some]
 cases timeB t <;> simp only [cond_true, cond_false]
 cases h3 : decide (s < 1) <;> simp only [cond_true, cond_false]
 cases h4 : decide (1200 < s) <;> simp only [cond_true, cond_false]
 cases h5 : decide (n ≤ q.2.2.1) <;> simp only [cond_true, cond_false]
 cases h6 : decide (t < q.2.2.2) <;> simp only [cond_true, cond_false]
 cases h7 : decide ((512 : Int) ≤ ((q.1.length : Nat) : Int)) <;> simp only [cond_true, cond_false]
 have hl := hG.len
 rw [decide_eq_true (by simp; omega), decide_eq_true (by simp; omega)]
 rfl
theorem refLost_F {q : Led} (hT : LedT q) {p : Pk} (hp : p ∈ q.1) {now wait : Int} (hv : waitB now wait = true) (k : Nat) : ref08_Ledger_lost.F k q p.1 p.2.1 p.2.2 now wait = some (h37 q.2.1 now wait p, q) := by
 have hw := waitB_iff.1 hv
 have hr := hT.good.rng' p hp
 have ht := hT.trng p hp
 have htt := hT.time
 have hb := hT.big
 rw [h37_t hr (by omega) (by omega)]
 unfold ref08_Ledger_lost.F
 rw [wrap_in (q.2.1 - p.1) (by omega) (by omega), wrap_in (now - p.2.1) (by omega) (by omega)]
 by_cases h1 : p.1 < q.2.1
 ·by_cases h2 : 3 ≤ q.2.1 - p.1
  ·rw [decide_eq_true h1, decide_eq_true h2, decide_eq_true (by omega : p.1 + 3 ≤ q.2.1)]; rfl
  ·rw [decide_eq_true h1, decide_eq_false h2, decide_eq_false (by omega : ¬ p.1 + 3 ≤ q.2.1)]
   by_cases h3 : wait ≤ now - p.2.1
   ·rw [decide_eq_true h3, decide_eq_true (by omega : p.2.1 + wait ≤ now)]; rfl
   ·rw [decide_eq_false h3, decide_eq_false (by omega : ¬ p.2.1 + wait ≤ now)]; rfl
 ·rw [decide_eq_false h1]; rfl
theorem split_at {ρ : Type} (l : List Pk) (q : Led) (f : Pk → Bool) (st : (List Pk × List Pk × Int × Led) → Option (Sum (List Pk × List Pk × Int × Led) ρ)) (r : ρ)
  (hs : ∀ (j : Nat) (A B : List Pk) (p : Pk), l[j]? = some p → A.length ≤ j → B.length ≤ j → st (A, B, (j : Int), q) = some (.inl (bif f p then A ++ [p] else A, bif f p then B else B ++ [p], ((j + 1 : Nat) : Int), q)))
  (he : st (l.filter f, l.filter (fun p => !f p), (l.length : Int), q) = some (.inr r)) :
  ∀ (m j : Nat), j ≤ l.length → l.length - j < m → iter st m ((l.take j).filter f, (l.take j).filter (fun p => !f p), (j : Int), q) = some r := by
 intro m
 induction m with
 | zero => intro j _ h; omega
 | succ m ih =>
  intro j hj hm
  rcases Nat.lt_or_ge j l.length with h | h
  ·have hg : l[j]? = some l[j] := List.getElem?_eq_getElem h
   have hlen : ∀ g : Pk → Bool, ((l.take j).filter g).length ≤ j := fun g => Nat.le_trans (List.length_filter_le _ _) (by rw [List.length_take]; exact Nat.min_le_left _ _)
   simp only [iter]
   rw [hs j _ _ _ hg (hlen _) (hlen _)]
   have := ih (j + 1) h (by omega)
   rw [List.take_add_one, hg, List.filter_append, List.filter_append] at this
   refine Eq.trans ?_ this
   show iter st m _ = iter st m _
   congr 1
   cases hf : f l[j] <;> simp [hf]
  ·have : j = l.length := by omega
   subst this
   rw [List.take_length]
   simp only [iter]
   rw [he]
   rfl
theorem refLose_F {q : Led} (hT : LedT q) {k : Nat} (hk : 512 < k) (now wait : Int) : ref08_Ledger_Lose.F k q now wait = some (loseF q now wait (waitB now wait)) := by
 unfold ref08_Ledger_Lose.F
 rw [refWaits_F, Option.bind_some]
 cases hv : waitB now wait
 ·rfl
 rw [cond_true]
 have hl := hT.good.len
 refine split_at q.1 q (h37 q.2.1 now wait) _ (loseF q now wait true) (fun j A B p hp hA hB => ?_) ?_ k 0 (Nat.zero_le _) (by omega)
 ·have hj := (List.getElem?_eq_some_iff.1 hp).1
  have hm : p ∈ q.1 := List.mem_of_getElem? hp
  unfold ref08_Ledger_Lose.s1
  simp only [decide_eq_true (show (j : Int) < (q.1.length : Int) by omega), cond_true, getI_nat, hp, Option.bind_some, refLost_F hT hm hv, wrap_succ hj (by omega)]
  cases h37 q.2.1 now wait p
  ·rw [cond_false, decide_eq_true (by simp; omega)]; rfl
  ·rw [cond_true, decide_eq_true (by simp; omega)]; rfl
 ·unfold ref08_Ledger_Lose.s1
  simp only [decide_eq_false (show ¬ (q.1.length : Int) < (q.1.length : Int) by omega), cond_false]
  rfl
theorem refAck_F {q : Led} (hT : LedT q) {l : List (Int × Int)} (hl : l.length ≤ 9223372036854775807) {k : Nat} (hk : 512 < k) (hkl : l.length < k) (now wait : Int) : ref08_Ledger_Ack.F k q l now wait = some (ackF q l now wait (decide (RightB l)) (waitB now wait) (fun p => hasB l p.1)) := by
 unfold ref08_Ledger_Ack.F ackF
 rw [refRight_F hl hkl, Option.bind_some]
 cases hr : decide (RightB l)
 ·rfl
 have hr := of_decide_eq_true hr
 have hl2 := hr.2
 rw [cond_true, cond_true]
 cases h0 : ((l.length : Nat) : Int) == 0
 case true => rfl
 have h0 : l.length ≠ 0 := by intro h; rw [h] at h0; simp at h0
 rw [cond_false, cond_false, refWaits_F, Option.bind_some]
 cases hv : waitB now wait
 ·rfl
 rw [cond_true, cond_true, wrap_in _ (by omega) (by omega), last_get h0, Option.bind_some]
 by_cases ht : q.2.2.1 < (l.getLastD (0, 0)).2
 ·rw [decide_eq_true ht]; rfl
 rw [decide_eq_false ht, cond_false, cond_false]
 have hlast := hT.good.last
 have hb := hT.big
 have hlen := hT.good.len
 have hT2 : LedT (q.1.filter (fun p => !hasB l p.1), (if q.2.1 < (l.getLastD (0, 0)).2 then (l.getLastD (0, 0)).2 else q.2.1), q.2.2) := by
  refine ⟨⟨hT.good.sorted.filter _, fun p hp => hT.good.rng p (List.mem_filter.1 hp).1, hT.good.last, Nat.le_trans (List.length_filter_le _ _) hT.good.len⟩, hT.times.filter _, fun p hp => hT.trng p (List.mem_filter.1 hp).1, hT.time, ?_⟩
  dsimp only
  split <;> omega
 refine split_at q.1 q (fun p => hasB l p.1) _ _ (fun j A B p hp hA hB => ?_) ?_ k 0 (Nat.zero_le _) (by omega)
 ·have hj := (List.getElem?_eq_some_iff.1 hp).1
  unfold ref08_Ledger_Ack.s4
  simp only [decide_eq_true (show (j : Int) < (q.1.length : Int) by omega), cond_true, getI_nat, hp, Option.bind_some, refHas_F (by omega : l.length < 4611686018427387904) hkl, wrap_succ hj (by omega)]
  cases hasB l p.1
  ·rw [cond_false, decide_eq_true (by simp; omega)]; rfl
  ·rw [cond_true, decide_eq_true (by simp; omega)]; rfl
 ·unfold ref08_Ledger_Ack.s4
  simp only [decide_eq_false (show ¬ (q.1.length : Int) < (q.1.length : Int) by omega), cond_false]
  rw [refLose_F hT2 hk, hv]
  rfl
section
variable (lg wait : Int)
def dueG (d : Int) (p : Pk) : Option (Sum Int (Int × Led)) := bif decide (p.1 < lg) then (bif decide (d < 0) then some (.inl (p.2.1 + wait)) else bif decide (p.2.1 + wait < d) then some (.inl (p.2.1 + wait)) else some (.inl d)) else some (.inl d)
theorem due_keep (q : Led) : ∀ (l : List Pk) (d : Int), 0 ≤ d → (∀ p ∈ l, d ≤ p.2.1 + wait) → foldE (dueG lg wait) (fun d => some (d, q)) l d = some (d, q)
 | [], d, _, _ => rfl
 | p :: r, d, h0, hp => by
  have h1 := hp p List.mem_cons_self
  simp only [foldE, dueG, decide_eq_false (show ¬ d < 0 by omega), decide_eq_false (show ¬ p.2.1 + wait < d by omega), cond_false]
  have := due_keep q r d h0 (fun p h => hp p (List.mem_cons_of_mem _ h))
  cases decide (p.1 < lg) <;> exact this
theorem due_go (q : Led) (hw : 0 < wait) : ∀ (l : List Pk), (l.Pairwise fun x y => x.2.1 ≤ y.2.1) → (∀ p ∈ l, 0 ≤ p.2.1) → foldE (dueG lg wait) (fun d => some (d, q)) l (-1) = some ((match l.filter (h40 lg) with
  | [] => -1
  | p :: _ => p.2.1 + wait), q)
 | [], _, _ => rfl
 | p :: r, hs, hp => by
  have hs := List.pairwise_cons.1 hs
  have h0 := hp p List.mem_cons_self
  by_cases h : p.1 < lg
  ·have e : (p :: r).filter (h40 lg) = p :: r.filter (h40 lg) := List.filter_cons_of_pos (decide_eq_true h)
   rw [e]
   simp only [foldE, dueG, decide_eq_true h, cond_true, show decide ((-1 : Int) < 0) = true by decide, Option.bind_some]
   exact due_keep lg wait q r _ (by omega) (fun z hz => by have := hs.1 z hz; omega)
  ·have e : (p :: r).filter (h40 lg) = r.filter (h40 lg) := List.filter_cons_of_neg (by simp [h40, h])
   rw [e]
   simp only [foldE, dueG, decide_eq_false h, cond_false, Option.bind_some]
   exact due_go q hw r hs.2 (fun p h => hp p (List.mem_cons_of_mem _ h))
end
theorem refDue_F {q : Led} (hT : LedT q) {k : Nat} (hk : 512 < k) (wait : Int) : ref08_Ledger_Due.F k q wait = some (dueF q wait (waitB 0 wait), q) := by
 unfold ref08_Ledger_Due.F
 have hlen := hT.good.len
 cases hv : waitB 0 wait
 ·obtain ⟨k', rfl⟩ : ∃ k', k = k' + 1 := ⟨k - 1, by omega⟩
  simp only [iter]
  have : ref08_Ledger_Due.s0 (k' + 1) wait q (-1, 0) = some (.inr (-1, q)) := by
   unfold ref08_Ledger_Due.s0
   simp only [refWaits_F, hv, Option.bind_some, cond_false]
   cases decide ((0 : Int) < ((q.1.length : Nat) : Int)) <;> rfl
  rw [this]
  rfl
 ·have hw := waitB_iff.1 hv
  refine (iter_idx q.1 (ref08_Ledger_Due.s0 k wait q) (fun j (d : Int) => (d, (j : Int))) (dueG q.2.1 wait) (fun d => some (d, q)) (fun j d p hp hj => ?_) (fun d => ?_) k (-1) (by omega)).trans ?_
  rotate_left 2
  ·rw [due_go q.2.1 wait q hw.2.1 q.1 hT.times (fun p hp => (hT.trng p hp).1)]
   unfold dueF
   rw [cond_true]
   cases hf : q.1.filter (h40 q.2.1) with
   | nil => rfl
   | cons p r =>
    have hp : p ∈ q.1 := (List.mem_filter.1 (by rw [hf]; exact List.mem_cons_self : p ∈ q.1.filter (h40 q.2.1))).1
    have h1 := hT.trng p hp
    have h2 := hT.time
    simp only
    rw [wrap_in (p.2.1 + wait) (by omega) (by omega)]
  ·have hm : p ∈ q.1 := List.mem_of_getElem? hp
   have h1 := hT.trng p hm
   have h2 := hT.time
   unfold ref08_Ledger_Due.s0 dueG
   simp only [decide_eq_true (show (j : Int) < (q.1.length : Int) by omega), cond_true, refWaits_F, hv, getI_nat, hp, Option.bind_some, wrap_succ hj (by omega), wrap_in (p.2.1 + wait) (by omega) (by omega), map_bif, Option.map_some, step_inl]
  ·unfold ref08_Ledger_Due.s0
   simp only [decide_eq_false (show ¬ (q.1.length : Int) < (q.1.length : Int) by omega), cond_false]
   rfl
end Go.Proofs.Ytkchgcefmnbebaa.X
