import Derived.Test.YtkchgcefmnbebaazSm4
namespace Go.Proofs.Ytkchgcefmnbebaa.X
open Go Go.RowKit Go.Proofs.YtkchgcefmnbebaaW.Rx
set_option linter.unusedVariables false
set_option linter.unusedSimpArgs false
set_option maxRecDepth 20000
theorem er_map {α β : Type} (f : α → β) : ∀ (l : List α) (j : Nat), (l.map f).eraseIdx j = (l.eraseIdx j).map f
 | [], _ => rfl
 | _ :: _, 0 => rfl
 | x :: l, j + 1 => by simp [List.eraseIdx_cons_succ, er_map f l j]
section
variable {α : Type} {kf : α → Int} {vf : α → Value} {P : Program} {w : World} {bm : Nat} {out : List α} {es : Array MapEntry} {clock : Nat}
theorem find_at (n : Int) : ∀ {es : List MapEntry} {out : List α} (k : Nat), es.map (fun e => (e.key, e.val)) = out.map (fun p => (Value.int .i64 (kf p), vf p)) → (Instr.findNow (.int .i64) (.int .i64 n) es k = some none ∧ ∀ p ∈ out, kf p ≠ n) ∨ ∃ j p, out[j]? = some p ∧ kf p = n ∧ Instr.findNow (.int .i64) (.int .i64 n) es k = some (some (k + j, vf p))
 | [], [], k, _ => Or.inl ⟨rfl, fun p hp => by cases hp⟩
 | e :: es, p :: out, k, h => by
  simp only [List.map_cons, List.cons.injEq, Prod.mk.injEq] at h
  obtain ⟨⟨h1, h2⟩, h3⟩ := h
  by_cases hn : n = kf p
  ·refine Or.inr ⟨0, p, rfl, hn.symm, ?_⟩
   unfold Instr.findNow
   rw [h1, h2, hn]
   simp [Instr.sameNow]
  ·have hf : Instr.findNow (.int .i64) (.int .i64 n) (e :: es) k = Instr.findNow (.int .i64) (.int .i64 n) es (k + 1) := by
    conv => lhs; unfold Instr.findNow
    rw [h1]
    have : (n == kf p) = false := beq_eq_false_iff_ne.2 hn
    simp [Instr.sameNow, this]
   rcases find_at n (k + 1) h3 with ⟨g1, g2⟩ | ⟨j, q, g1, g2, g3⟩
   ·refine Or.inl ⟨by rw [hf, g1], fun z hz => ?_⟩
    rcases List.mem_cons.1 hz with hz | hz
    ·rw [hz]; exact Ne.symm hn
    ·exact g2 z hz
   ·exact Or.inr ⟨j + 1, q, g1, g2, by rw [hf, g3, Nat.add_right_comm, Nat.add_assoc]⟩
 | [], _ :: _, k, h => by simp at h
 | _ :: _, [], k, h => by simp at h
theorem MapG.lt (h : MapG kf vf w bm out es clock) : bm < w.heap.size := (Array.getElem?_eq_some_iff.1 h.heap).1
theorem MapG.len (h : MapG kf vf w bm out es clock) : es.size = out.length := by
 have := congrArg List.length h.ents
 simpa using this
theorem MapG.later {w' : World} (h : MapG kf vf w bm out es clock) (e : w'.heap[bm]? = w.heap[bm]?) : MapG kf vf w' bm out es clock := ⟨e.trans h.heap, h.ents, h.nodup, h.old⟩
def setB (w : World) (bm : Nat) (o : Obj) : World := { w with heap := w.heap.setIfInBounds bm o }
theorem setB_at {o : Obj} (h : bm < w.heap.size) : (setB w bm o).heap[bm]? = some o := by
 show (w.heap.setIfInBounds bm o)[bm]? = _
 simp [h]
theorem setB_other {o : Obj} {b : Nat} (h : b ≠ bm) : (setB w bm o).heap[b]? = w.heap[b]? := by
 show (w.heap.setIfInBounds bm o)[b]? = _
 simp [Array.getElem?_setIfInBounds, Ne.symm h]
theorem setB_size {o : Obj} : (setB w bm o).heap.size = w.heap.size := by
 show (w.heap.setIfInBounds bm o).size = _
 simp
theorem run_find {k : TypeId} (hk : P.underlying k = some (.int .i64)) (n : Int) (es : List MapEntry) (r : Option (Nat × Value)) (h : Instr.findNow (.int .i64) (.int .i64 n) es 0 = some r) (w : World) : (Instr.findKey k (.int .i64 n) es).run P w = .ok r w := by
 simp [Instr.findKey, run_underlying hk, h]
theorem run_check {k : TypeId} (b : Bool) (hk : P.underlying k = some (.int .i64)) (n : Int) (w : World) : (Instr.checkKey b 10000 k (.int .i64 n)).run P w = .ok () w := by
 have : ∀ d, (Instr.checkKey b (d + 1) k (.int .i64 n)).run P w = .ok () w := fun d => by simp [Instr.checkKey, run_underlying hk]
 exact this 9999
theorem set_map {es' : Array MapEntry} {clock' : Nat} (h : w.heap[bm]? = some (.map es clock)) : (setObj bm (.map es' clock')).run P w = .ok () (setB w bm (.map es' clock')) := by
 simp only [setObj, Sem.run, h]
 rfl
theorem get_map (h : w.heap[bm]? = some (.map es clock)) : (getObj bm).run P w = .ok (.map es clock) w := by
 simp only [getObj, Sem.run, h]
theorem MapG.del {t k e ty : TypeId} (h : MapG kf vf w bm out es clock) (ht : P.underlying t = some (.map k e)) (hk : P.underlying k = some (.int .i64)) (hd : out.Pairwise fun x y => kf x < kf y) (n : Int) :
  ∃ es', (Builtin.delete_ #[t, k] ty #[.map (some bm), .int .i64 n]).run P w = .ok (.tuple #[]) (setB w bm (.map es' clock)) ∧ MapG kf vf (setB w bm (.map es' clock)) bm (out.filter fun p => kf p != n) es' clock := by
 rcases find_at n 0 h.ents with ⟨g1, g2⟩ | ⟨j, p, g1, g2, g3⟩
 ·refine ⟨es, ?_, setB_at h.lt, ?_, h.nodup, h.old⟩
  ·simp [Builtin.delete_, run_underlying ht, Sem.run_bind, get_map h.heap, run_check _ hk, run_find hk n _ _ g1, set_map h.heap, Result.andThen]
  ·rw [List.filter_eq_self.2 (fun p hp => by simpa using g2 p hp)]
   exact h.ents
 ·have hj : j < es.toList.length := by
   have := (List.getElem?_eq_some_iff.1 g1).1
   have := h.len
   simpa [this] using (List.getElem?_eq_some_iff.1 g1).1
  have herase : (es.eraseIdxIfInBounds j).toList = es.toList.eraseIdx j := by
   rw [Array.eraseIdxIfInBounds, dif_pos (by simpa using hj), Array.toList_eraseIdx]
  have hfil : ∀ {out : List α} {j : Nat}, out.Pairwise (fun x y => kf x < kf y) → out[j]? = some p → out.eraseIdx j = out.filter fun q => kf q != kf p := by
   intro out
   induction out with
   | nil => intro j _ hq; simp at hq
   | cons x out ih =>
    intro j hp hq
    obtain ⟨h1, h2⟩ := List.pairwise_cons.1 hp
    cases j with
    | zero =>
     simp only [List.getElem?_cons_zero, Option.some.injEq] at hq
     subst hq
     rw [List.eraseIdx_cons_zero, List.filter_cons_of_neg (by simp)]
     exact (List.filter_eq_self.2 (fun z hz => by have := h1 z hz; simp; omega)).symm
    | succ j =>
     simp only [List.getElem?_cons_succ] at hq
     have := h1 p (List.mem_of_getElem? hq)
     rw [List.eraseIdx_cons_succ, List.filter_cons_of_pos (by simp; omega), ih h2 hq]
  refine ⟨es.eraseIdxIfInBounds j, ?_, setB_at h.lt, ?_, ?_, ?_⟩
  ·simp [Builtin.delete_, run_underlying ht, Sem.run_bind, get_map h.heap, run_check _ hk, run_find hk n _ _ g3, set_map h.heap, Result.andThen]
  ·rw [herase, ← g2, ← hfil hd g1, ← er_map, ← er_map, h.ents]
  ·rw [herase]
   exact h.nodup.sublist ((List.eraseIdx_sublist _ _).map _)
  ·intro x hx
   rw [herase] at hx
   exact h.old x ((List.eraseIdx_sublist _ _).subset hx)
theorem MapG.put {t k e : TypeId} (h : MapG kf vf w bm out es clock) (ht : P.underlying t = some (.map k e)) (hk : P.underlying k = some (.int .i64)) (x : α) (hn : ∀ p ∈ out, kf p ≠ kf x) :
  ∃ es', (updSem t (.map (some bm)) (.int .i64 (kf x)) (vf x)).run P w = .ok (.tuple #[]) (setB w bm (.map es' (clock + 1))) ∧ MapG kf vf (setB w bm (.map es' (clock + 1))) bm (out ++ [x]) es' (clock + 1) := by
 rcases find_at (kf x) 0 h.ents with ⟨g1, g2⟩ | ⟨j, p, g1, g2, g3⟩
 ·refine ⟨es.push { key := .int .i64 (kf x), val := vf x, born := clock }, ?_, setB_at h.lt, ?_, ?_, ?_⟩
  ·simp [updSem, Instr.mapUpdate, run_underlying ht, Sem.run_bind, get_map h.heap, run_check _ hk, run_find hk _ _ _ g1, set_map h.heap, Result.andThen]
  ·simp [h.ents]
  ·simp only [Array.toList_push, List.map_append, List.map_cons, List.map_nil]
   rw [List.nodup_append]
   refine ⟨h.nodup, by simp, fun a ha b hb => ?_⟩
   obtain ⟨z, hz, rfl⟩ := List.mem_map.1 ha
   have := h.old z hz
   simp at hb
   omega
  ·intro z hz
   simp only [Array.toList_push, List.mem_append, List.mem_singleton] at hz
   rcases hz with hz | rfl
   ·have := h.old z hz; omega
   ·exact Nat.lt_succ_self _
 ·exact absurd g2 (hn p (List.mem_of_getElem? g1))
theorem MapG.size {t k e ty : TypeId} (h : MapG kf vf w bm out es clock) (ht : P.underlying t = some (.map k e)) : (Builtin.len_ #[t] ty #[.map (some bm)]).run P w = .ok (.int .i64 (out.length : Nat)) w := by
 simp [Builtin.len_, run_underlying ht, Sem.run_bind, get_map h.heap, Result.andThen, h.len, goInt]
theorem map_new (w : World) : MapG kf vf (w.alloc (.map #[] 0)) w.heap.size ([] : List α) #[] 0 := ⟨heap_alloc_new w _, rfl, List.nodup_nil, fun e he => by cases he⟩
end
end Go.Proofs.Ytkchgcefmnbebaa.X
