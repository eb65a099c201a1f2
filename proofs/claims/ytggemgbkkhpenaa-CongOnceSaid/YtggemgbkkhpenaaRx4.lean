/- The machine for walks: what is said of one operation holds of it (second half). -/
import Derived.Test.YtggemgbkkhpenaaRx3
import Derived.Laws.Pointers
import Derived.Laws.StructEq
namespace Go.Proofs.YtggemgbkkhpenaaW.Rx
open Go
set_option linter.unusedVariables false
set_option linter.unusedSimpArgs false
section
variable {P : Program} {ρ : Nat → Nat} {D : Nat → Bool} {ev : Operand → Option AV} {blks : Nat → Option (List AV × TypeId)} {o : Oper} {a : Act} {w : World} {x y c : Operand} {t : TypeId}
theorem one_g (x : AV) (h : x.one = true) : (x.g ρ).oneCell' = true := by
  cases x <;> simp_all [AV.one, AV.g, Value.oneCell']
theorem ones_g (l : List AV) (h : l.all AV.one = true) : ∀ v ∈ AV.gs ρ l, v.oneCell' = true := by
  intro v hv
  rw [gs_eq, List.mem_map] at hv
  obtain ⟨x, hx, rfl⟩ := hv
  exact one_g x (List.all_eq_true.1 h x hx)
theorem setRow_facts (g : Nat) (cs cur : Array Value) (T : TypeId) (hg : w.heap[g]? = some (.cells cur T (0, 0))) :
    ((w.setRow g cs).os = w.os ∧ (w.setRow g cs).tape = w.tape ∧ (w.setRow g cs).output = w.output) ∧ (w.setRow g cs).heap.size = w.heap.size ∧ (w.setRow g cs).heap[g]? = some (.cells cs T (0, 0)) ∧ ∀ b, b ≠ g → (w.setRow g cs).heap[b]? = w.heap[b]? := by
  refine ⟨⟨rfl, rfl, rfl⟩, by simp [World.setRow], setRow_heap w g cur cs T _ hg, fun b hb => ?_⟩
  simp only [World.setRow, Array.getElem?_modify]
  rw [if_neg (fun e => hb e.symm)]
theorem ok_store (E : Env ρ D ev blks a w) (h : o.op = .store t x y) : CoreOK P ρ D blks o a w (core P ev blks o) := by
  simp only [core, h]
  split
  · rename_i key off v hx hy
    obtain ⟨e1, e2⟩ := E.ev x _ hx
    obtain ⟨e3, e4⟩ := E.ev y _ hy
    split
    · rename_i c T hb
      obtain ⟨hb1, hb2⟩ := E.blk key c T hb
      split
      · rename_i hc
        simp only [Bool.and_eq_true, decide_eq_true_eq] at hc
        obtain ⟨⟨hc1, hc2⟩, hc3⟩ := hc
        have hv := wf_cells v e4
        refine ⟨wfs_append _ _ (wfs_append _ _ (wfs_take _ _ hb2) hv) (wfs_drop _ _ hb2), c, hb, ?_⟩
        have hrun := run_storeCells_at (P := P) (ρ key) off T (AV.gs ρ v.cells) 0 (AV.gs ρ c).toArray w hb1 (by simp only [gs_len, List.size_toArray]; omega) (ones_g _ hc3)
        simp only [Nat.add_zero, gs_len] at hrun
        have hF := setRow_facts (ρ key) (AV.gs ρ (c.take off ++ v.cells ++ c.drop (off + v.cells.length))).toArray _ T hb1
        refine ⟨w.setRow (ρ key) (AV.gs ρ (c.take off ++ v.cells ++ c.drop (off + v.cells.length))).toArray, ?_, hF⟩
        · cases hi : P.info? t with
          | none => simp [hi] at hc1
          | some i =>
            have hz : i.size = v.cells.length := by simpa [hi] using hc1
            simp [runs, execOp, h, e1, e3, AV.g, Instr.storeAt, Instr.sureAddr, storeVar, sizeOf, typeInfo, hi, hz, cells_g v hc3, gs_len, hrun, gs_append, gs_take, gs_drop]
      · exact trivial
    · exact trivial
  · rename_i q v hx hy
    obtain ⟨e1, e2⟩ := E.ev x _ hx
    obtain ⟨e3, e4⟩ := E.ev y _ hy
    split
    · rename_i hc
      simp only [Bool.and_eq_true, decide_eq_true_eq] at hc
      obtain ⟨hc1, hc3⟩ := hc
      refine ⟨wf_cells v e4, fun ad hq hs hcell => ?_⟩
      subst hq
      have had : ad = ⟨ad.block, ad.off, none⟩ := by cases ad; simp_all
      have hrun := run_storeCells_cells (P := P) ad.block ad.off (AV.gs ρ v.cells) 0 w (by simpa [gs_len] using fun j hj => (hcell j hj).1) (by simpa [gs_len] using fun j hj => (hcell j hj).2) (ones_g _ hc3)
      rw [← had] at hrun
      simp only [Nat.add_zero] at hrun
      cases hi : P.info? t with
      | none => simp [hi] at hc1
      | some i =>
        have hz : i.size = v.cells.length := by simpa [hi] using hc1
        simp [runs, execOp, h, e1, e3, AV.g, Instr.storeAt, Instr.sureAddr, storeVar, sizeOf, typeInfo, hi, hz, cells_g v hc3, gs_len, hrun]
    · exact trivial
  · exact trivial
theorem ok_nilCheck (E : Env ρ D ev blks a w) (h : o.op = .nilCheck x) : CoreOK P ρ D blks o a w (core P ev blks o) := by
  simp only [core, h]
  split
  · rename_i k off hx
    obtain ⟨e1, e2⟩ := E.ev x _ hx
    exact ⟨e2, by simp [runs, execOp, h, e1, AV.g]⟩
  · rename_i q hx
    obtain ⟨e1, e2⟩ := E.ev x _ hx
    refine ⟨rfl, fun hq => ?_⟩
    obtain ⟨ad, rfl⟩ := Option.isSome_iff_exists.1 hq
    simp [runs, execOp, h, e1, AV.g]
  · rename_i f p q hx
    obtain ⟨e1, e2⟩ := E.ev x _ hx
    exact ⟨e2, by simp [runs, execOp, h, e1, AV.g]⟩
  · rename_i f p q hx
    obtain ⟨e1, e2⟩ := E.ev x _ hx
    exact ⟨rfl, by simp [runs, execOp, h, e1, AV.g]⟩
  · exact trivial
theorem eqCell_ok {d : TypeDesc} {a b : AV} {r : Bool} {t : TypeId} (n : Nat) (hu : P.underlying t = some d) (h : eqCell d a b = some r) : d.isRow = false ∧ (Op.equalIn (n + 1) t (a.g ρ) (b.g ρ)).run P w = .ok r w := by
  unfold eqCell at h
  split at h
  · split at h
    · rename_i e; cases h; subst e; exact ⟨rfl, by simpa [AV.g] using run_equalIn_int w n t _ _ _ _ hu⟩
    · cases h
  · cases h; exact ⟨rfl, by simpa [AV.g] using run_equalIn_bool' w n t _ _ hu⟩
  · cases h; exact ⟨rfl, by simpa [AV.g] using run_equalIn_string w n t _ _ hu⟩
  · cases h
theorem eqFs_ok (n : Nat) {xs ys : List AV} : ∀ (fs : List Field) (r : Bool), eqFs P xs ys fs = some r → (Op.eqFields (n + 1) (AV.gs ρ xs).toArray (AV.gs ρ ys).toArray fs).run P w = .ok r w
  | [], r, h => by simp only [eqFs, Option.some.injEq] at h; subst h; simp [Op.eqFields]
  | f :: fs, r, h => by
    simp only [eqFs] at h
    split at h
    · cases h
    · rename_i hn
      split at h
      · rename_i d a b q hd ha hb hq
        rw [Option.map_eq_some_iff] at h
        obtain ⟨p, hp, rfl⟩ := h
        obtain ⟨c1, c2⟩ := eqCell_ok (P := P) (ρ := ρ) (w := w) n hd hp
        have ih := eqFs_ok n fs q hq
        have p1 : (part f.type (AV.gs ρ xs).toArray f.offset).run P w = .ok (a.g ρ) w := by
          simp [part, isAgg_run hd, c1, gs_get (ρ := ρ) _ _ _ ha]
        have p2 : (part f.type (AV.gs ρ ys).toArray f.offset).run P w = .ok (b.g ρ) w := by
          simp [part, isAgg_run hd, c1, gs_get (ρ := ρ) _ _ _ hb]
        have hn' : f.name ≠ "_" := by simpa using hn
        rw [Op.eqFields]
        simp only [if_pos hn', Sem.run_bind, p1, p2, c2, Result.andThen_ok]
        cases p
        · simp
        · simpa using ih
      · cases h
theorem eqStruct_ok {xs ys : List AV} {r : Bool} (h : eqStruct P t xs ys = some r) :
    (∀ {op : BinOp} {x y : Operand}, (eqGuard op t x y (.agg (AV.gs ρ xs).toArray) (.agg (AV.gs ρ ys).toArray)).run P w = .ok () w) ∧ (Op.equalIn 10000 t (.agg (AV.gs ρ xs).toArray) (.agg (AV.gs ρ ys).toArray)).run P w = .ok r w := by
  unfold eqStruct at h
  split at h
  · rename_i fs hu
    split at h
    · cases h
    · rename_i hg
      simp only [Bool.or_eq_true, not_or, Bool.not_eq_true] at hg
      refine ⟨fun {op x y} => run_eqGuard_agg w op t x y _ _ hg.2, ?_⟩
      have hf : P.fieldsOf t = fs := by simp [Program.fieldsOf, hu]
      rw [run_equalIn_struct (P := P) w 9999 t _ _ (by rw [hf]; exact hu) hg.1, hf]
      exact eqFs_ok 9998 fs.toList r h
  · cases h
theorem ok_binOp {op : BinOp} {ty : TypeId} (E : Env ρ D ev blks a w) (h : o.op = .binOp op t x y ty) : CoreOK P ρ D blks o a w (core P ev blks o) := by
  simp only [core, h]
  split
  · rename_i k p k' q hx hy
    split
    · rename_i hk
      subst hk
      refine ⟨rfl, fun hb => ?_⟩
      have hb' : ¬ q = 0 := by simpa using hb
      simp [runs, execOp, h, (E.ev x _ hx).1, (E.ev y _ hy).1, AV.g, eqGuard, binOp, Op.intDiv, hb']
    · exact trivial
  · rename_i k p k' q hx hy
    split
    · rename_i hk
      subst hk
      refine ⟨rfl, fun hb => ?_⟩
      have hb' : ¬ q = 0 := by simpa using hb
      simp [runs, execOp, h, (E.ev x _ hx).1, (E.ev y _ hy).1, AV.g, eqGuard, binOp, Op.intDiv, hb']
    · exact trivial
  · rename_i k off hx hy
    split
    · rename_i e hu
      refine ⟨rfl, ?_⟩
      have hp : P.underlying t = some (.pointer (P.pointee t)) := by simp [Program.pointee, hu]
      have := run_eql_pointer_nil w t (some ⟨ρ k, off, none⟩) hp
      simp [runs, execOp, h, (E.ev x _ hx).1, (E.ev y _ hy).1, AV.g, eqGuard, this]
    · exact trivial
  · rename_i k off hx hy
    split
    · rename_i e hu
      refine ⟨rfl, ?_⟩
      have hp : P.underlying t = some (.pointer (P.pointee t)) := by simp [Program.pointee, hu]
      have := run_neq_pointer_nil w t (some ⟨ρ k, off, none⟩) hp
      simp [runs, execOp, h, (E.ev x _ hx).1, (E.ev y _ hy).1, AV.g, eqGuard, this]
    · exact trivial
  · rename_i xs ys hx hy
    split
    · rename_i b hb
      refine ⟨rfl, ?_⟩
      obtain ⟨f1, f2⟩ := eqStruct_ok (P := P) (ρ := ρ) (w := w) hb
      simp only [runs, execOp, h, (E.ev x _ hx).1, (E.ev y _ hy).1, AV.g, Sem.run_bind, f1, Result.andThen_ok, run_eql_struct, f2]
      rfl
    · exact trivial
  · rename_i xs ys hx hy
    split
    · rename_i b hb
      refine ⟨rfl, ?_⟩
      obtain ⟨f1, f2⟩ := eqStruct_ok (P := P) (ρ := ρ) (w := w) hb
      simp only [runs, execOp, h, (E.ev x _ hx).1, (E.ev y _ hy).1, AV.g, Sem.run_bind, f1, Result.andThen_ok, run_neq_struct, f2]
      rfl
    · exact trivial
  · exact pureE_ok E [x, y] (by simp [h]) (by simp [h, Op.operands])
theorem ok_unOp {op : UnOp} (E : Env ρ D ev blks a w) (h : o.op = .unOp op t x) : CoreOK P ρ D blks o a w (core P ev blks o) := by
  simp only [core, h]
  exact pureE_ok E [x] (by simp [h]) (by simp [h, Op.operands])
theorem ok_makeInterface (E : Env ρ D ev blks a w) (h : o.op = .makeInterface t x) : CoreOK P ρ D blks o a w (core P ev blks o) := by
  simp only [core, h]
  exact pureE_ok E [x] (by simp [h]) (by simp [h, Op.operands])
theorem ok_convert {src dst : TypeId} (E : Env ρ D ev blks a w) (h : o.op = .convert src dst x) : CoreOK P ρ D blks o a w (core P ev blks o) := by
  simp only [core, h]
  split
  · exact pureE_ok E [x] (by simp [h]) (by simp [h, Op.operands])
  · exact pureE_ok E [x] (by simp [h]) (by simp [h, Op.operands])
  · split
    · rename_i hp
      intro v w' hr
      have he := evv_ok E [x] hp x (by simp)
      simp [runs, execOp, h, he, hr]
    · exact trivial
theorem ok_makeFunc {fn : Fn} {f c : Array Operand} (E : Env ρ D ev blks a w) (h : o.op = .makeFunc fn f c) : CoreOK P ρ D blks o a w (core P ev blks o) := by
  simp only [core, h]
  split
  · rename_i l m h1 h2
    obtain ⟨e1, e2, _⟩ := evs_ok E _ _ h1
    obtain ⟨e3, e4, _⟩ := evs_ok E _ _ h2
    refine ⟨by simp [AV.wf, e2, e4], ?_⟩
    have f1 : f.map a.eval = (AV.gs ρ l).toArray := by rw [← e1]; apply Array.ext'; simp
    have f2 : c.map a.eval = (AV.gs ρ m).toArray := by rw [← e3]; apply Array.ext'; simp
    simp [runs, execOp, h, Instr.makeFunc, f1, f2, AV.g]
  · exact trivial
theorem add_none (k off n : Nat) : (⟨k, off, none⟩ : Addr).add n = ⟨k, off + n, none⟩ := Addr.add_mid k off n
theorem ok_fieldAddr {f : Nat} (E : Env ρ D ev blks a w) (h : o.op = .fieldAddr t x f) : CoreOK P ρ D blks o a w (core P ev blks o) := by
  simp only [core, h]
  split
  · rename_i fs hu
    split
    · rename_i fd hf
      split
      · rename_i hz
        have hz2 : ∃ i, P.info? fd.type = some i ∧ i.size ≠ 0 := by
          unfold Program.cellsOf at hz
          cases hi : P.info? fd.type with
          | none => simp [hi] at hz
          | some i => exact ⟨i, rfl, by simpa [hi] using hz⟩
        obtain ⟨i, hi, hi0⟩ := hz2
        split
        · rename_i k off hx
          obtain ⟨e1, e2⟩ := E.ev x _ hx
          refine ⟨e2, ?_⟩
          simp [runs, execOp, h, e1, AV.g, Instr.fieldAt, run_underlying hu, hf, Instr.sureAddr, fieldPlace, sizeOf, typeInfo, hi, hi0, add_none]
        · rename_i q hx
          obtain ⟨e1, e2⟩ := E.ev x _ hx
          refine ⟨rfl, fun hq => ?_⟩
          obtain ⟨ad, rfl⟩ := Option.isSome_iff_exists.1 hq
          simp [runs, execOp, h, e1, AV.g, Instr.fieldAt, run_underlying hu, hf, Instr.sureAddr, fieldPlace, sizeOf, typeInfo, hi, hi0]
        · exact trivial
      · exact trivial
    · exact trivial
  · exact trivial
theorem ok_field {f : Nat} (E : Env ρ D ev blks a w) (h : o.op = .field t x f) : CoreOK P ρ D blks o a w (core P ev blks o) := by
  simp only [core, h]
  split
  · rename_i fs cs hu hx
    obtain ⟨e1, e2⟩ := E.ev x _ hx
    simp only [AV.wf] at e2
    split
    · rename_i fd hf
      split
      · rename_i d hd
        split
        · rename_i hr
          split
          · rename_i hl
            simp only [Bool.and_eq_true, decide_eq_true_eq] at hl
            obtain ⟨i, hi⟩ := Option.isSome_iff_exists.1 hl.2
            have hz : P.cellsOf fd.type = i.size := by simp [Program.cellsOf, hi]
            refine ⟨by simp only [AV.wf]; exact wfs_take _ _ (wfs_drop _ _ e2), ?_⟩
            simp [runs, execOp, h, e1, AV.g, Instr.field, run_underlying hu, hf, asAgg, part, isAgg_run hd, hr, sizeOf, typeInfo, hi, gs_take, gs_drop, hz, List.take_drop]
          · exact trivial
        · rename_i hr
          have hr' : d.isRow = false := by simpa using hr
          refine orBad_ok (fun av hav => ⟨wfs_get _ _ _ hav e2, ?_⟩) _
          have hc := gs_get (ρ := ρ) _ _ _ hav
          simp [runs, execOp, h, e1, AV.g, Instr.field, run_underlying hu, hf, asAgg, part, isAgg_run hd, hr', hc]
      · exact trivial
    · exact trivial
  · exact trivial
theorem ok_indexAddr (E : Env ρ D ev blks a w) (h : o.op = .indexAddr t x y) : CoreOK P ρ D blks o a w (core P ev blks o) := by
  simp only [core, h]
  split
  · rename_i e base len cap k n hu hx hy
    split
    · rename_i hi
      obtain ⟨i, hi⟩ := Option.isSome_iff_exists.1 hi
      refine ⟨rfl, fun hc => ?_⟩
      simp only [Bool.and_eq_true, decide_eq_true_eq] at hc
      obtain ⟨⟨h0, h1⟩, h2⟩ := hc
      obtain ⟨ad, rfl⟩ := Option.isSome_iff_exists.1 h2
      simp [runs, execOp, h, (E.ev x _ hx).1, (E.ev y _ hy).1, AV.g, Instr.indexAt, asIntOf, run_underlying hu, h0, h1, sizeOf, typeInfo, hi, Program.cellsOf]
    · exact trivial
  · rename_i m e key off k n hu hx hy
    split
    · rename_i hi
      obtain ⟨i, hi⟩ := Option.isSome_iff_exists.1 hi
      refine ⟨(E.ev x _ hx).2, fun hc => ?_⟩
      simp only [Bool.and_eq_true, decide_eq_true_eq] at hc
      obtain ⟨h0, h1⟩ := hc
      simp [runs, execOp, h, (E.ev x _ hx).1, (E.ev y _ hy).1, AV.g, Instr.indexAt, asIntOf, Instr.sureAddr, run_underlying hu, h0, h1, sizeOf, typeInfo, hi, Program.cellsOf, add_none]
    · exact trivial
  · exact trivial
theorem ok_index (E : Env ρ D ev blks a w) (h : o.op = .index t x y) : CoreOK P ρ D blks o a w (core P ev blks o) := by
  simp only [core, h]
  split
  · rename_i s k n hx hy
    split
    · rename_i hu
      refine ⟨rfl, fun hc => ?_⟩
      simp only [Bool.and_eq_true, decide_eq_true_eq] at hc
      obtain ⟨h0, h1⟩ := hc
      have hlt : n.toNat < s.size := by omega
      simp [runs, execOp, h, (E.ev x _ hx).1, (E.ev y _ hy).1, AV.g, Instr.index, asIntOf, run_underlying hu, h0, hlt]
    · exact trivial
  · exact trivial
theorem ok_extract {n : Nat} (E : Env ρ D ev blks a w) (h : o.op = .extract x n) : CoreOK P ρ D blks o a w (core P ev blks o) := by
  simp only [core, h]
  split
  · rename_i vs hx
    obtain ⟨e1, e2⟩ := E.ev x _ hx
    simp only [AV.wf] at e2
    refine orBad_ok (fun av hav => ⟨wfs_get _ _ _ hav e2, ?_⟩) _
    have hc := gs_get (ρ := ρ) _ _ _ hav
    simp [runs, execOp, h, e1, AV.g, Instr.extract, hc]
  · exact trivial
theorem ok_makeSlice (E : Env ρ D ev blks a w) (h : o.op = .makeSlice t x y) : CoreOK P ρ D blks o a w (core P ev blks o) := by
  simp only [core, h]
  split
  · rename_i hp
    intro v w' hr
    simp [runs, execOp, h, evv_ok E [x, y] hp x (by simp), evv_ok E [x, y] hp y (by simp), hr]
  · exact trivial
end
end Go.Proofs.YtggemgbkkhpenaaW.Rx
