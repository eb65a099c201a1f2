/- The machine for walks: what is said of one operation holds of it (the rest, and all together). -/
import Derived.Test.YtggemgbkkhpenaaRx4
import Derived.Laws.Tables
namespace Go.Proofs.YtggemgbkkhpenaaW.Rx
open Go
set_option linter.unusedVariables false
set_option linter.unusedSimpArgs false
section
variable {P : Program} {ρ : Nat → Nat} {D : Nat → Bool} {ev : Operand → Option AV} {blks : Nat → Option (List AV × TypeId)} {o : Oper} {a : Act} {w : World} {x y c : Operand} {t : TypeId}
theorem foldl_set (off : Nat) : ∀ (vs : List Value) (k : Nat) (cs : Array Value), off + k + vs.length ≤ cs.size →
    (vs.zipIdx k).foldl (fun cs (p : Value × Nat) => cs.setIfInBounds (off + p.2) p.1) cs = (cs.toList.take (off + k) ++ vs ++ cs.toList.drop (off + k + vs.length)).toArray
  | [], k, cs, h => by simp
  | v :: r, k, cs, h => by
    rw [List.zipIdx_cons, List.foldl_cons, foldl_set off r (k + 1) _ (by simp at h ⊢; omega)]
    have e := list_seg_step cs.toList (off + k) v r (by simp at h ⊢; omega)
    rw [Array.toList_setIfInBounds, show off + (k + 1) = off + k + 1 by omega]
    rw [e]
    simp
theorem fill_ok (place : Nat → Option (Nat × Nat)) : ∀ (parts : List (Nat × AV)) (cells c : List AV), parts.all (fun p => p.2.cells.all AV.one) = true → fillA place cells parts = some c →
    Instr.fill place (AV.gs ρ cells).toArray (parts.map fun p => (p.1, p.2.g ρ)) = some (AV.gs ρ c).toArray
  | [], cells, c, h1, h => by simp only [fillA] at h; cases h; rfl
  | (i, v) :: rest, cells, c, h1, h => by
    simp only [List.all_cons, Bool.and_eq_true] at h1
    simp only [fillA] at h
    split at h
    · cases h
    · rename_i off size hp
      split at h
      · cases h
      · rename_i hc
        simp only [Bool.or_eq_true, decide_eq_true_eq, not_or, Decidable.not_not, Nat.not_lt] at hc
        have ih := fill_ok place rest _ c h1.2 h
        simp only [List.map_cons, Instr.fill, hp, cells_g v h1.1, List.size_toArray, gs_len]
        rw [if_neg (by simp; omega)]
        rw [← ih]
        congr 1
        have := foldl_set off (AV.gs ρ v.cells) 0 (AV.gs ρ cells).toArray (by simp [gs_len]; omega)
        simp only [Nat.add_zero, gs_len] at this
        rw [← Array.foldl_toList, Array.toList_zipIdx]
        rw [this, gs_append, gs_append, gs_take, gs_drop]
theorem fill_wf (place : Nat → Option (Nat × Nat)) : ∀ (parts : List (Nat × AV)) (cells c : List AV), (∀ p ∈ parts, p.2.wf D = true) → AV.wfs D cells = true → fillA place cells parts = some c → AV.wfs D c = true
  | [], cells, c, h1, h2, h => by simp only [fillA] at h; cases h; exact h2
  | (i, v) :: rest, cells, c, h1, h2, h => by
    simp only [fillA] at h
    split at h
    · cases h
    · split at h
      · cases h
      · exact fill_wf place rest _ c (fun p hp => h1 p (by simp [hp])) (wfs_append _ _ (wfs_append _ _ (wfs_take _ _ h2) (wf_cells v (h1 (i, v) (by simp)))) (wfs_drop _ _ h2)) h
theorem built_ok (parts : List (Nat × AV)) (c : List AV) (h1 : parts.all (fun p => p.2.cells.all AV.one) = true) (h : buildA P t parts = some c) (hw : ∀ p ∈ parts, p.2.wf D = true) :
    P.built t (parts.map fun p => (p.1, p.2.g ρ)) = some (AV.gs ρ c).toArray ∧ AV.wfs D c = true := by
  unfold buildA at h
  unfold Program.built
  split at h
  · rename_i it n e hi hu
    split at h
    · rename_i z ie hz hie
      have e1 := fill_ok (ρ := ρ) _ parts _ c h1 h
      rw [gs_v, Array.toArray_toList] at e1
      exact ⟨by simp only [hi, hu, hz, hie]; exact e1, fill_wf _ parts _ c hw (wfs_v _) h⟩
    · cases h
  · rename_i it fields hi hu
    split at h
    · rename_i z places hz hp
      have e1 := fill_ok (ρ := ρ) _ parts _ c h1 h
      rw [gs_v, Array.toArray_toList] at e1
      exact ⟨by simp only [hi, hu, hz, hp]; exact e1, fill_wf _ parts _ c hw (wfs_v _) h⟩
    · cases h
  · cases h
theorem zip_parts (parts : List (Nat × Operand)) (xs : List AV) (h : (parts.map (·.2)).map a.eval = AV.gs ρ xs) : parts.map (fun p => (p.1, a.eval p.2)) = ((parts.map (·.1)).zip xs).map fun p => (p.1, p.2.g ρ) := by
  induction parts generalizing xs with
  | nil => simp
  | cons p r ih =>
    cases xs with
    | nil => simp [AV.gs] at h
    | cons x l =>
      simp only [List.map_cons, AV.gs, List.cons.injEq] at h
      simp [h.1, ih l h.2]
theorem ok_build {parts : Array (Nat × Operand)} (E : Env ρ D ev blks a w) (h : o.op = .build t parts) : CoreOK P ρ D blks o a w (core P ev blks o) := by
  simp only [core, h]
  split
  · rename_i xs hx
    obtain ⟨e1, e2, e3⟩ := evs_ok E _ _ hx
    split
    · rename_i h1
      split
      · rename_i c hc
        have hall : ((parts.toList.map (·.1)).zip xs).all (fun p => p.2.cells.all AV.one) = true := by
          rw [List.all_eq_true] at h1 ⊢
          exact fun p hp => h1 _ (List.of_mem_zip hp).2
        have hwf : ∀ p ∈ (parts.toList.map (·.1)).zip xs, p.2.wf D = true := by
          rw [wfs_eq, List.all_eq_true] at e2
          exact fun p hp => e2 _ (List.of_mem_zip hp).2
        obtain ⟨f1, f2⟩ := built_ok (P := P) (t := t) (ρ := ρ) _ c hall hc hwf
        refine ⟨f2, ?_⟩
        have hz := zip_parts (a := a) (ρ := ρ) parts.toList xs e1
        have hrun := run_build (P := P) w t (parts.map fun (i, x) => (i, a.eval x)) (AV.gs ρ c).toArray (by rw [Array.toList_map, ← f1, ← hz])
        simp only [runs, execOp, h, Sem.run_bind, hrun, Result.andThen_ok, AV.g]
        rfl
      · exact trivial
    · exact trivial
  · exact trivial
mutual
theorem g_none : ∀ x : AV, x.wf (fun _ => false) = true → ∀ σ, x.g ρ = x.g σ
  | x, h, σ => g_congr (D := fun _ => false) (fun k hk => by cases hk) x h
end
theorem gs_none (l : List AV) (h : AV.wfs (fun _ => false) l = true) (σ : Nat → Nat) : AV.gs ρ l = AV.gs σ l := gs_congr (D := fun _ => false) (fun k hk => by cases hk) l h
theorem ok_buildSlice {n : Nat} {parts : Array (Nat × Operand)} (E : Env ρ D ev blks a w) (h : o.op = .buildSlice t n parts) : CoreOK P ρ D blks o a w (core P ev blks o) := by
  simp only [core, h]
  split
  · rename_i xs hx
    obtain ⟨e1, e2, e3⟩ := evs_ok E _ _ hx
    split
    · rename_i hw
      intro v w' hr
      have hz := zip_parts (a := a) (ρ := ρ) parts.toList xs e1
      have e4 : (parts.map fun (i, x) => (i, a.eval x)) = ((parts.toList.map (·.1)).zip (AV.gs id xs)).toArray := by
        apply Array.ext'
        rw [Array.toList_map, gs_none (ρ := id) xs hw ρ, gs_eq, List.zip_map_right]
        have e6 : ∀ l : List (Nat × AV), l.map (Prod.map id (AV.g ρ)) = l.map fun p => (p.1, p.2.g ρ) := fun l => List.map_congr_left fun p _ => rfl
        rw [e6]
        exact hz
      simp only [runs, execOp, h, Sem.run_bind, e4, hr, Result.andThen_ok]
      rfl
    · exact trivial
  · exact trivial
theorem ok_slice {lo hi : Option Operand} (E : Env ρ D ev blks a w) (h : o.op = .slice t x lo hi none) : CoreOK P ρ D blks o a w (core P ev blks o) := by
  simp only [core, h]
  split
  · rename_i e A len cap k l hu hx hl
    split
    · rename_i hi'
      obtain ⟨i, hi'⟩ := Option.isSome_iff_exists.1 hi'
      split
      · rename_i k' hh hhi
        refine ⟨rfl, fun hc => ?_⟩
        simp only [Bool.and_eq_true, decide_eq_true_eq] at hc
        obtain ⟨⟨h0, h1⟩, h2⟩ := hc
        have ex := (E.ev x _ hx).1
        have c1 : P.cellsOf e = i.size := by simp [Program.cellsOf, hi']
        have hb : (Instr.sliceBounds true len cap (lo.map a.eval) (hi.map a.eval) none).run P w = .ok (l.toNat, hh.toNat, cap) w := by
          cases lo with
          | none =>
            simp only [Option.some.injEq, AV.v.injEq, Value.int.injEq] at hl
            obtain ⟨rfl, rfl⟩ := hl
            cases hi with
            | none =>
              simp only [Option.some.injEq, AV.v.injEq, Value.int.injEq] at hhi
              obtain ⟨rfl, rfl⟩ := hhi
              simp [Instr.sliceBounds]
            | some hq =>
              have eh := (E.ev hq _ hhi).1
              simp only [Option.isSome_some, if_true] at h2
              have q1 : 0 ≤ hh ∧ hh ≤ (cap : Int) := ⟨by omega, h2⟩
              simp [Instr.sliceBounds, Instr.sliceBound, eh, AV.g, asIntOf, q1]
          | some lq =>
            have el := (E.ev lq _ hl).1
            cases hi with
            | none =>
              simp only [Option.some.injEq, AV.v.injEq, Value.int.injEq] at hhi
              obtain ⟨rfl, rfl⟩ := hhi
              have q2 : 0 ≤ l ∧ l ≤ (len : Int) := ⟨h0, h1⟩
              simp [Instr.sliceBounds, Instr.sliceBound, el, AV.g, asIntOf, q2]
            | some hq =>
              have eh := (E.ev hq _ hhi).1
              simp only [Option.isSome_some, if_true] at h2
              have q1 : 0 ≤ hh ∧ hh ≤ (cap : Int) := ⟨by omega, h2⟩
              have q2 : 0 ≤ l ∧ l ≤ ((hh.toNat : Nat) : Int) := ⟨h0, by omega⟩
              have q3 : 0 ≤ l ∧ l ≤ max hh 0 := ⟨h0, by omega⟩
              simp [Instr.sliceBounds, Instr.sliceBound, el, eh, AV.g, asIntOf, q1, q3]
        have e5 : ((cap : Int) = l) ↔ (cap = l.toNat) := by omega
        simp only [runs, execOp, h, ex, AV.g, Instr.sliceAt, Instr.slice, Option.map_none, Sem.run_bind, run_underlying hu, Result.andThen_ok, hb, sizeOf, typeInfo, run_program, hi', Sem.run_pure, c1, e5]
      · exact trivial
    · exact trivial
  · exact trivial
theorem run_callFunc {f : FuncId} (args : Array Value) (h : callable P f = true) : (callFunc f args).run P w = .ok (.enter f args) w := by
  unfold callable at h
  split at h
  · rename_i fn hf
    simp only [Bool.and_eq_true, Bool.not_eq_true'] at h
    have h2 : ¬ fn.body = none := by cases hb : fn.body <;> simp [hb] at h ⊢
    have h3 : ¬ (fn.name = "runtime.NumGoroutine") := by simpa using h.1
    simp [callFunc, hf, h2, h3]
  · cases h
theorem ok_call {c : Call} (E : Env ρ D ev blks a w) (h : o.op = .call c) : CoreOK P ρ D blks o a w (core P ev blks o) := by
  simp only [core, h]
  split
  · rename_i fo hc
    split
    · rename_i f first cap args hf hargs
      split
      · rename_i hcall
        obtain ⟨e1, e2⟩ := E.ev fo _ hf
        obtain ⟨e3, e4, _⟩ := evs_ok E _ _ hargs
        simp only [AV.wf, Bool.and_eq_true] at e2
        refine ⟨wfs_append _ _ (wfs_append _ _ e2.1 e4) e2.2, ?_⟩
        have f1 : c.args.map a.eval = (AV.gs ρ args).toArray := by rw [← e3]; apply Array.ext'; simp
        simp only [runs, execOp, h, resolve, hc, f1, e1, AV.g, Deferred.ofValue, Sem.run_bind, Sem.run_pure, Result.andThen_ok, invoke]
        rw [run_callFunc _ hcall]
        simp [gs_append]
      · exact trivial
    · rename_i f first cap args hf hargs
      split
      · rename_i hcall
        obtain ⟨e1, e2⟩ := E.ev fo _ hf
        obtain ⟨e3, e4, _⟩ := evs_ok E _ _ hargs
        refine ⟨wfs_append _ _ (wfs_append _ _ (wfs_v _) e4) (wfs_v _), ?_⟩
        have f1 : c.args.map a.eval = (AV.gs ρ args).toArray := by rw [← e3]; apply Array.ext'; simp
        simp only [runs, execOp, h, resolve, hc, f1, e1, AV.g, Deferred.ofValue, Sem.run_bind, Sem.run_pure, Result.andThen_ok, invoke]
        rw [run_callFunc _ hcall]
        simp [gs_append, gs_v]
      · exact trivial
    · exact trivial
  · rename_i b hc
    split
    · rename_i hp
      have hx : ∀ x ∈ c.args, a.eval x = evv ev x := fun x hx => evv_ok E _ hp x (by simpa using hx)
      have hm : c.args.map a.eval = c.args.map (evv ev) := Array.map_congr_left hx
      have hcg : execOp a.eval o = execOp (evv ev) o := execOp_congr o (by simp [h]) (by simpa [h, Op.operands, Call.operands, hc] using hx)
      split
      · rename_i v hv
        refine ⟨rfl, ?_⟩
        unfold runs
        rw [hcg]
        simpa [AV.g] using pureV_ok _ v hv
      · split
        · intro v w' hr
          simp [runs, execOp, h, resolve, hc, hm, invoke, builtin, hr]
        · intro v w' hr
          simp [runs, execOp, h, resolve, hc, hm, invoke, builtin, hr]
        · intro v w' hr
          simp [runs, execOp, h, resolve, hc, hm, invoke, builtin, hr]
        · intro v w' hr
          simp [runs, execOp, h, resolve, hc, hm, invoke, builtin, hr]
        · exact trivial
    · split
      · rename_i xs hxs
        split
        · rename_i hw
          obtain ⟨e3, e4, _⟩ := evs_ok E _ _ hxs
          intro v w' hr
          have f1 : c.args.map a.eval = (AV.gs id xs).toArray := by rw [gs_none (ρ := id) xs hw ρ, ← e3]; apply Array.ext'; simp
          simp [runs, execOp, h, resolve, hc, f1, invoke, builtin, hr]
        · exact trivial
      · exact trivial
  · exact trivial
/-- WHAT IS SAID OF ONE OPERATION HOLDS OF IT. -/
theorem core_ok (E : Env ρ D ev blks a w) : CoreOK P ρ D blks o a w (core P ev blks o) := by
  cases h : o.op with
  | move x => exact ok_move E h
  | assign x => exact ok_assign E h
  | pick c x y => exact ok_pick E h
  | alloc t => exact ok_alloc E h
  | box t x => exact ok_box E h
  | load t x => exact ok_load E h
  | store t x y => exact ok_store E h
  | nilCheck x => exact ok_nilCheck E h
  | binOp op t x y ty => exact ok_binOp E h
  | unOp op t x => exact ok_unOp E h
  | convert s d x => exact ok_convert E h
  | makeInterface t x => exact ok_makeInterface E h
  | makeFunc fn f c => exact ok_makeFunc E h
  | fieldAddr t x f => exact ok_fieldAddr E h
  | field t x f => exact ok_field E h
  | indexAddr t x y => exact ok_indexAddr E h
  | index t x y => exact ok_index E h
  | slice t x lo hi mx =>
    cases mx with
    | none => exact ok_slice E h
    | some m => simp only [core, h]; exact trivial
  | build t ps => exact ok_build E h
  | buildSlice t n ps => exact ok_buildSlice E h
  | extract x n => exact ok_extract E h
  | makeSlice t x y => exact ok_makeSlice E h
  | call c => exact ok_call E h
  | _ => simp only [core, h]; exact trivial
end
end Go.Proofs.YtggemgbkkhpenaaW.Rx
