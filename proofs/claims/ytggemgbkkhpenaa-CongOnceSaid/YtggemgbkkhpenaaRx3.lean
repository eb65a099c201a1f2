/- The machine for walks: what is said of one operation holds of it. -/
import Derived.Test.YtggemgbkkhpenaaRx2
namespace Go.Proofs.YtggemgbkkhpenaaW.Rx
open Go
set_option linter.unusedVariables false
set_option linter.unusedSimpArgs false
section
variable {P : Program} {ρ : Nat → Nat} {D : Nat → Bool} {ev : Operand → Option AV} {blks : Nat → Option (List AV × TypeId)} {o : Oper} {a : Act} {w : World} {x y c : Operand} {t : TypeId}
abbrev runs (P : Program) (o : Oper) (a : Act) (w : World) : Result Next := (execOp a.eval o).run P w
def CoreOK (P : Program) (ρ : Nat → Nat) (D : Nat → Bool) (blks : Nat → Option (List AV × TypeId)) (o : Oper) (a : Act) (w : World) : Eff → Prop
  | .val x => x.wf D = true ∧ runs P o a w = .ok (.value (x.g ρ)) w
  | .alloc c T => AV.wfs D c = true ∧ runs P o a w = .ok (.value (.pointer (some ⟨w.heap.size, 0, none⟩))) { w with heap := w.heap.push (.cells (AV.gs ρ c).toArray T) }
  | .stb key c T => AV.wfs D c = true ∧ ∃ c0, blks key = some (c0, T) ∧ ∃ w', runs P o a w = .ok .skip w' ∧ (w'.os = w.os ∧ w'.tape = w.tape ∧ w'.output = w.output) ∧ w'.heap.size = w.heap.size ∧ w'.heap[ρ key]? = some (.cells (AV.gs ρ c).toArray T (0, 0)) ∧ ∀ b, b ≠ ρ key → w'.heap[b]? = w.heap[b]?
  | .chk c x => x.wf D = true ∧ (c = true → runs P o a w = .ok (.value (x.g ρ)) w)
  | .ld q ls row => ∀ ad (x : Tup ls), q = some ad → ad.spot = none → (∀ j v, (Tup.V ls x)[j]? = some v → w.cell? (ad.add j) = some v) → runs P o a w = .ok (.value (if row then .agg (Tup.V ls x).toArray else (Tup.V ls x).headD undef)) w
  | .sto q xs => AV.wfs D xs = true ∧ ∀ ad, q = some ad → ad.spot = none → (∀ j, j < xs.length → (w.cell? ⟨ad.block, ad.off + j, none⟩).isSome = true ∧ w.frozen? ⟨ad.block, ad.off + j, none⟩ = false) → runs P o a w = .ok .skip (w.setCells ad.block ad.off (AV.gs ρ xs))
  | .call f args t => AV.wfs D args = true ∧ runs P o a w = .ok (.enter f (AV.gs ρ args).toArray) w
  | .sem s t => ∀ v w', s.run P w = .ok v w' → runs P o a w = .ok (.value v) w'
  | .bad _ => True
structure Env (ρ : Nat → Nat) (D : Nat → Bool) (ev : Operand → Option AV) (blks : Nat → Option (List AV × TypeId)) (a : Act) (w : World) : Prop where
  ev : ∀ x av, ev x = some av → a.eval x = av.g ρ ∧ av.wf D = true
  blk : ∀ k c T, blks k = some (c, T) → w.heap[ρ k]? = some (.cells (AV.gs ρ c).toArray T (0, 0)) ∧ AV.wfs D c = true

theorem pureV_ok : ∀ (s : Sem Next) (v : Value), pureV P s = some v → s.run P w = .ok (.value v) w
  | .pure n, v, h => by cases n <;> simp only [pureV] at h <;> first | (cases h; rfl) | cases h
  | .program k, v, h => by simp only [pureV] at h; exact pureV_ok (k P) v h
  | .load .., v, h | .store .., v, h | .new .., v, h | .shape .., v, h | .freeze .., v, h | .frozen .., v, h | .getObj .., v, h | .setObj .., v, h | .choose .., v, h | .sys .., v, h | .mark .., v, h | .halt .., v, h => by simp [pureV] at h
theorem evs_ok (E : Env ρ D ev blks a w) : ∀ (xs : List Operand) (l : List AV), evs ev xs = some l → xs.map a.eval = AV.gs ρ l ∧ AV.wfs D l = true ∧ xs.length = l.length
  | [], l, h => by simp only [evs] at h; cases h; simp [AV.gs, AV.wfs]
  | x :: r, l, h => by
    simp only [evs] at h
    split at h
    · rename_i av bs h1 h2
      cases h
      obtain ⟨e1, e2⟩ := E.ev x av h1
      obtain ⟨e3, e4, e5⟩ := evs_ok E r bs h2
      simp [AV.gs, AV.wfs, e1, e2, e3, e4, e5]
    · cases h
theorem evv_ok (E : Env ρ D ev blks a w) : ∀ (xs : List Operand), plains ev xs = true → ∀ x ∈ xs, a.eval x = evv ev x
  | [], _, x, hx => by cases hx
  | y :: r, h, x, hx => by
    simp only [plains] at h
    split at h
    · rename_i av h1
      cases hx with
      | head => have := (E.ev y _ h1).1; simp [evv, h1, this, AV.g]
      | tail _ hx => exact evv_ok E r h x hx
    · cases h
theorem orBad_ok {x : Option AV} (h : ∀ av, x = some av → av.wf D = true ∧ runs P o a w = .ok (.value (av.g ρ)) w) (why : String) : CoreOK P ρ D blks o a w (orBad x why) := by
  cases x with
  | none => exact trivial
  | some av => exact h av rfl
theorem execOp_congr' {ops : List Operand} (hs : ∀ cs b, o.op ≠ .select cs b) (ho : ∀ x ∈ o.op.operands, x ∈ ops) (h : ∀ x ∈ ops, a.eval x = evv ev x) : execOp a.eval o = execOp (evv ev) o :=
  execOp_congr o hs (fun x hx => h x (ho x hx))
theorem pureE_ok (E : Env ρ D ev blks a w) (ops : List Operand) (hs : ∀ cs b, o.op ≠ .select cs b) (ho : ∀ x ∈ o.op.operands, x ∈ ops) : CoreOK P ρ D blks o a w (pureE P ev o ops) := by
  unfold pureE
  split
  · rename_i hp
    refine orBad_ok (fun av hav => ?_) _
    rw [Option.map_eq_some_iff] at hav
    obtain ⟨v, hv, rfl⟩ := hav
    refine ⟨rfl, ?_⟩
    unfold runs
    rw [execOp_congr' (ev := ev) hs ho (evv_ok E ops hp)]
    simpa [AV.g] using pureV_ok _ v hv
  · exact trivial
theorem ok_move (E : Env ρ D ev blks a w) (h : o.op = .move x) : CoreOK P ρ D blks o a w (core P ev blks o) := by
  simp only [core, h]
  exact orBad_ok (fun av hav => ⟨(E.ev x av hav).2, by simp [runs, execOp, h, (E.ev x av hav).1]⟩) _
theorem ok_assign (E : Env ρ D ev blks a w) (h : o.op = .assign x) : CoreOK P ρ D blks o a w (core P ev blks o) := by
  simp only [core, h]
  exact orBad_ok (fun av hav => ⟨(E.ev x av hav).2, by simp [runs, execOp, h, (E.ev x av hav).1]⟩) _
theorem ok_pick (E : Env ρ D ev blks a w) (h : o.op = .pick c x y) : CoreOK P ρ D blks o a w (core P ev blks o) := by
  simp only [core, h]
  split
  · rename_i hc
    exact orBad_ok (fun av hav => ⟨(E.ev x av hav).2, by simp [runs, execOp, h, (E.ev x av hav).1, (E.ev c _ hc).1, AV.g, asBool]⟩) _
  · rename_i hc
    exact orBad_ok (fun av hav => ⟨(E.ev y av hav).2, by simp [runs, execOp, h, (E.ev y av hav).1, (E.ev c _ hc).1, AV.g, asBool]⟩) _
  · exact trivial
theorem gs_v (l : List Value) : AV.gs ρ (l.map .v) = l := by rw [gs_eq, List.map_map]; simp [Function.comp_def, AV.g]
theorem wfs_v (l : List Value) : AV.wfs D (l.map .v) = true := by rw [wfs_eq]; simp [AV.wf]
theorem ok_alloc (E : Env ρ D ev blks a w) (h : o.op = .alloc t) : CoreOK P ρ D blks o a w (core P ev blks o) := by
  simp only [core, h]
  split
  · rename_i z hz
    refine ⟨wfs_v _, ?_⟩
    rw [Option.bind_eq_some_iff] at hz
    obtain ⟨i, hi, hz⟩ := hz
    simp [runs, execOp, h, Instr.alloc, zeroValue, typeInfo, hi, hz, newVar, newRow, gs_v]
  · exact trivial
theorem cells_g (x : AV) (h : x.cells.all AV.one = true) : (x.g ρ).cells = (AV.gs ρ x.cells).toArray := by
  cases x with
  | v x =>
    simp only [AV.cells, List.all_cons, List.all_nil, Bool.and_true, AV.one] at h
    cases x <;> simp [Value.oneCell'] at h <;> simp [AV.g, AV.gs, AV.cells, Value.cells]
  | p k off => simp [AV.g, AV.gs, AV.cells, Value.cells]
  | agg cs => simp [AV.g, AV.cells, Value.cells]
  | tup vs => simp [AV.cells, AV.one] at h
  | fn f x y => simp [AV.g, AV.gs, AV.cells, Value.cells]
theorem wf_cells (x : AV) (h : x.wf D = true) : AV.wfs D x.cells = true := by
  cases x <;> simp_all [AV.cells, AV.wf, AV.wfs]
theorem ok_box (E : Env ρ D ev blks a w) (h : o.op = .box t x) : CoreOK P ρ D blks o a w (core P ev blks o) := by
  simp only [core, h]
  split
  · rename_i av hav
    split
    · rename_i h1
      refine ⟨wf_cells _ (E.ev x av hav).2, ?_⟩
      simp [runs, execOp, h, Instr.box, newVar, newRow, (E.ev x av hav).1, cells_g _ h1]
    · exact trivial
  · exact trivial
theorem gs_drop (n : Nat) (l : List AV) : AV.gs ρ (l.drop n) = (AV.gs ρ l).drop n := by simp [gs_eq]
theorem gs_take (n : Nat) (l : List AV) : AV.gs ρ (l.take n) = (AV.gs ρ l).take n := by simp [gs_eq]
theorem gs_append (l m : List AV) : AV.gs ρ (l ++ m) = AV.gs ρ l ++ AV.gs ρ m := by simp [gs_eq]
theorem wfs_drop (n : Nat) (l : List AV) (h : AV.wfs D l = true) : AV.wfs D (l.drop n) = true := by
  rw [wfs_eq, List.all_eq_true] at *; exact fun x hx => h x (List.mem_of_mem_drop hx)
theorem wfs_take (n : Nat) (l : List AV) (h : AV.wfs D l = true) : AV.wfs D (l.take n) = true := by
  rw [wfs_eq, List.all_eq_true] at *; exact fun x hx => h x (List.mem_of_mem_take hx)
theorem wfs_append (l m : List AV) (h : AV.wfs D l = true) (h' : AV.wfs D m = true) : AV.wfs D (l ++ m) = true := by
  rw [wfs_eq, List.all_append, Bool.and_eq_true, ← wfs_eq, ← wfs_eq]; exact ⟨h, h'⟩
theorem gs_get (l : List AV) (n : Nat) (x : AV) (h : l[n]? = some x) : (AV.gs ρ l)[n]? = some (x.g ρ) := by simp [gs_eq, h]
theorem wfs_get (l : List AV) (n : Nat) (x : AV) (h : l[n]? = some x) (hl : AV.wfs D l = true) : x.wf D = true := by
  rw [wfs_eq, List.all_eq_true] at hl; exact hl x (List.mem_of_getElem? h)
theorem isAgg_run {t : TypeId} {d : TypeDesc} (h : P.underlying t = some d) : (isAgg t).run P w = .ok d.isRow w := by
  unfold isAgg
  rw [Sem.run_bind, run_underlying h w]
  cases d <;> rfl
theorem range_of {g off n : Nat} {c : List Value} {T : TypeId} (h : w.heap[g]? = some (.cells c.toArray T (0, 0))) : w.rangeAt g off ((c.drop off).take n) := by
  intro j v hv
  rw [cell_of_row w g _ _ T (0, 0) h]
  rw [List.getElem?_take, List.getElem?_drop] at hv
  split at hv
  · simpa using hv
  · cases hv
theorem ok_load (E : Env ρ D ev blks a w) (h : o.op = .load t x) : CoreOK P ρ D blks o a w (core P ev blks o) := by
  simp only [core, h]
  split
  · rename_i key off hx
    obtain ⟨e1, e2⟩ := E.ev x _ hx
    split
    · rename_i c T hb
      obtain ⟨hb1, hb2⟩ := E.blk key c T hb
      split
      · rename_i d hd
        split
        · rename_i hr
          split
          · rename_i hl
            simp only [Bool.and_eq_true, decide_eq_true_eq] at hl
            obtain ⟨i, hi⟩ := Option.isSome_iff_exists.1 hl.2
            refine ⟨by simp only [AV.wf]; exact wfs_take _ _ (wfs_drop _ _ hb2), ?_⟩
            have hsz : (P.info? t).map (·.size) = some ((AV.gs ρ c).drop off |>.take (P.cellsOf t)).length := by
              rw [List.length_take, List.length_drop, gs_len, hi, Nat.min_eq_left (by omega)]
              simp [Program.cellsOf, hi]
            have hrun := run_loadVar_mid (P := P) w (ρ key) off t _ d (range_of (n := P.cellsOf t) hb1) hd hr hsz
            simp [runs, execOp, h, e1, AV.g, Instr.loadAt, Instr.sureAddr, hrun, gs_take, gs_drop]
          · exact trivial
        · rename_i hr
          refine orBad_ok (fun av hav => ⟨wfs_get _ _ _ hav hb2, ?_⟩) _
          have hc := gs_get (ρ := ρ) _ _ _ hav
          have hcell : w.cell? ⟨ρ key, off, none⟩ = some (av.g ρ) := by rw [cell_of_row w _ _ _ T (0, 0) hb1]; simpa using hc
          have hr' : d.isRow = false := by simpa using hr
          simp [runs, execOp, h, e1, AV.g, Instr.loadAt, Instr.sureAddr, loadVar, isAgg_run hd, hr', hcell]
      · exact trivial
    · exact trivial
  · rename_i q hx
    obtain ⟨e1, e2⟩ := E.ev x _ hx
    split
    · rename_i d ls hd hls
      split
      · rename_i hr
        split
        · rename_i hsz
          intro ad x hq hs hc
          subst hq
          have hl : (loadCells ad (Tup.V ls x).length).run P w = .ok (Tup.V ls x).toArray w := run_loadCells_list (P := P) w ad _ hc
          have hlen : (Tup.V ls x).length = ls.length := by
            clear hl hc hsz hls hx
            induction ls with
            | nil => rfl
            | cons l r ih => simp [Tup.V, ih]
          cases hi : P.info? t with
          | none => simp [hi] at hsz
          | some i =>
            have hz : i.size = ls.length := by simpa [hi] using hsz
            simp [runs, execOp, h, e1, AV.g, Instr.loadAt, Instr.sureAddr, loadVar, isAgg_run hd, hr, sizeOf, typeInfo, hi, hz, ← hlen, hl]
        · exact trivial
      · rename_i hr
        split
        · rename_i h1
          intro ad x hq hs hc
          subst hq
          have hr' : d.isRow = false := by simpa using hr
          match ls, x, h1 with
          | [l], x, _ =>
            have h0 := hc 0 (l.V x.1) rfl
            rw [show ad.add 0 = ad from rfl] at h0
            simp [runs, execOp, h, e1, AV.g, Instr.loadAt, Instr.sureAddr, loadVar, isAgg_run hd, hr', h0, Tup.V]
        · exact trivial
    · exact trivial
  · exact trivial
end
end Go.Proofs.YtggemgbkkhpenaaW.Rx
