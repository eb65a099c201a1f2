import Derived.Test.YtkchgcefmnbebaazRxU
import Derived.Laws.IdiomRangeMap
namespace Go.Proofs.YtkchgcefmnbebaaW.Rx
open Go Go.RowKit
set_option linter.unusedVariables false
set_option linter.unusedSimpArgs false
section
variable {P : Program}
theorem next_at (w : World) (ty : TypeId) (r bm since c0 : Nat) (seen : Array Nat) (es : Array MapEntry) (clock : Nat) (hr : w.heap[r]? = some (.mapIter (some bm) since seen c0)) (hb : w.heap[bm]? = some (.map es clock)) (hold : ∀ x ∈ es.toList, x.born < since) (hsc : since ≤ c0) :
  ((leftOf es seen).size = 0 ∧ (Instr.next (.pointer (some ⟨r, 0, none⟩)) false ty).run P w = .ok (.tuple #[.bool false]) w) ∨
  ∃ e ∈ (leftOf es seen).toList, ∃ w1 : World, (w1.Alike w ∧ w1.tape = w.tape) ∧ (Instr.next (.pointer (some ⟨r, 0, none⟩)) false ty).run P w = .ok (.tuple #[.bool true, e.key, e.val]) { w1 with heap := w1.heap.setIfInBounds r (.mapIter (some bm) since (seen.push e.born) clock) } := by
 simp only [Instr.next, getObj, Sem.run_bind, Sem.run, hr, hb, Result.andThen, next_test_false seen es since c0 hold hsc, Bool.false_eq_true, if_false]
 unfold leftOf
 have hmem : ∀ x ∈ (Array.filter (fun e => !seen.contains e.born) es).toList, x.born < since := fun x hx => hold x (by simp at hx ⊢; exact hx.1)
 generalize Array.filter (fun e => !seen.contains e.born) es = L at hmem ⊢
 have e1 : L.filter (fun x => decide (x.born < since)) = L := Array.filter_eq_self.2 (fun x hx => by simpa using hmem x (by simpa using hx))
 have e2 : L.filter (fun x => decide (x.born ≥ since)) = #[] := by
  rw [Array.filter_eq_empty_iff]
  intro x hx
  have := hmem x (by simpa using hx)
  simp
  omega
 simp only [e1, e2, Array.append_empty]
 by_cases h0 : L.size = 0
 ·left
  have : L = #[] := Array.eq_empty_of_size_eq_zero h0
  subst this
  refine ⟨rfl, ?_⟩
  simp [choose, Sem.run, Question.forced]
 ·right
  have hne : L.isEmpty = false := by simp [Array.isEmpty, h0]
  simp only [hne, Bool.false_eq_true, if_false, Array.empty_append, Array.size_map]
  have hch : ∃ (j : Nat) (w1 : World), j < L.size ∧ (w1.Alike w ∧ w1.tape = w.tape) ∧ (choose (Question.mapNext L.size)).run P w = .ok j w1 := by
   by_cases hf : L.size ≤ 1
   ·exact ⟨0, w, by omega, ⟨⟨rfl, rfl, rfl⟩, rfl⟩, by simp [choose, Sem.run, Question.forced, hf]⟩
   ·exact ⟨_, w.drew, Nat.mod_lt _ (by omega), ⟨⟨rfl, rfl, rfl⟩, rfl⟩, by
     simp only [choose, Sem.run, Question.forced, decide_eq_true_eq, hf, if_false, Question.cut]
     rfl⟩
  obtain ⟨j, w1, hj, hal, hrun⟩ := hch
  refine ⟨L[j], by simp, w1, hal, ?_⟩
  have hset : ∀ o' : Obj, (setObj r o').run P w1 = .ok () { w1 with heap := w1.heap.setIfInBounds r o' } := fun o' => by
   simp only [setObj, Sem.run]
   rw [show w1.heap[r]? = some _ from by rw [hal.1.1]; exact hr]
  simp only [hrun, Array.getElem?_map, Array.getElem?_eq_getElem hj, Option.map_some, Sem.run_bind, hset, Result.andThen]
  rfl
theorem entry_at (w : World) (r bm since : Nat) (seen : Array Nat) (es : Array MapEntry) (clock : Nat) (e : MapEntry) (hr : w.heap[r]? = some (.mapIter (some bm) since (seen.push e.born) clock)) (hb : w.heap[bm]? = some (.map es clock)) (he : e ∈ es.toList) (hn : (es.toList.map (·.born)).Nodup) :
  (Instr.entry (.pointer (some ⟨r, 0, none⟩))).run P w = .ok (.tuple #[e.key, e.val]) w := by
 have hf : es.find? (·.born == e.born) = some e := by rw [← Array.find?_toList]; exact find_born e es.toList hn he
 simp only [Instr.entry, getObj, Sem.run_bind, Sem.run, hr, hb, Result.andThen, Array.back?_push, bne_self_eq_false, Bool.false_eq_true, if_false, hf]
 rfl
def got (es : List MapEntry) (seen : Array Nat) : List MapEntry := es.filter fun e => seen.contains e.born
theorem got_push {seen : Array Nat} {e : MapEntry} : ∀ {es : List MapEntry}, (es.map (·.born)).Nodup → e ∈ es → seen.contains e.born = false → (got es (seen.push e.born)).Perm (e :: got es seen)
 | x :: l, hn, he, hs => by
  have hn' : x.born ∉ l.map (·.born) ∧ (l.map (·.born)).Nodup := List.nodup_cons.1 hn
  unfold got
  rcases List.mem_cons.1 he with h | h
  ·subst h
   have h1 : (seen.push e.born).contains e.born = true := by rw [contains_push, beq_self_eq_true, Bool.or_true]
   rw [List.filter_cons_of_pos (by exact h1), List.filter_cons_of_neg (by rw [hs]; exact Bool.false_ne_true)]
   have : l.filter (fun z => (seen.push e.born).contains z.born) = l.filter (fun z => seen.contains z.born) := by
    apply List.filter_congr
    intro z hz
    have : (z.born == e.born) = false := by
     cases hc : z.born == e.born with
     | false => rfl
     | true => exact absurd (List.mem_map.2 ⟨z, hz, beq_iff_eq.1 hc⟩) hn'.1
    rw [contains_push, this, Bool.or_false]
   rw [this]
  ·have ih := got_push hn'.2 h hs
   unfold got at ih
   have hx : (x.born == e.born) = false := by
    cases hc : x.born == e.born with
    | false => rfl
    | true => exact absurd (by rw [beq_iff_eq.1 hc]; exact List.mem_map.2 ⟨e, h, rfl⟩) hn'.1
   have h1 : (seen.push e.born).contains x.born = seen.contains x.born := by rw [contains_push, hx, Bool.or_false]
   cases hc : seen.contains x.born with
   | true =>
    rw [List.filter_cons_of_pos (by rw [h1]; exact hc), List.filter_cons_of_pos (by exact hc)]
    exact (List.Perm.cons x ih).trans (List.Perm.swap e x _)
   | false =>
    rw [List.filter_cons_of_neg (by rw [h1, hc]; exact Bool.false_ne_true), List.filter_cons_of_neg (by rw [hc]; exact Bool.false_ne_true)]
    exact ih
theorem got_none (es : List MapEntry) : got es #[] = [] := by
 unfold got
 simp
theorem got_all {es : Array MapEntry} {seen : Array Nat} (h : (leftOf es seen).size = 0) : got es.toList seen = es.toList := List.filter_eq_self.2 (all_seen es seen h)
end
end Go.Proofs.YtkchgcefmnbebaaW.Rx
