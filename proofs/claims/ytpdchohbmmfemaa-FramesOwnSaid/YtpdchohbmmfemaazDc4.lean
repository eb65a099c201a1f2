import Derived.Test.YtpdchohbmmfemaazDc3
import Derived.WalkKit
import Derived.Laws.Pointers
namespace Go.Proofs.Ytpdchohbmmfemaa.X
open Go Go.RowKit Go.Proofs.YtpdchohbmmfemaaW.Rx
set_option linter.unusedVariables false
set_option linter.unusedSimpArgs false
set_option maxRecDepth 10000
noncomputable def p0 : Code := match Try.f11.body with
 | some (.seq x _) => x
 | _ => .skip
noncomputable def p1 : Code := match Try.f11.body with
 | some (.seq _ (.seq x _)) => x
 | _ => .skip
noncomputable def p3 : Code := match Try.f11.body with
 | some (.seq _ (.seq _ (.seq x _))) => x
 | _ => .skip
theorem f11_body : Try.f11.body = some (.seq p0 (.seq p1 (.seq p3 c11))) := by kernel_rfl
def decO : Except (Int × Int) (List Fr) → List Fr × Int × Int
 | .error z => ([], z.1, z.2)
 | .ok xs => (xs, 0, 0)
def frames_Decode.F (k : Nat) (l0 : List Int) : Option (List Fr × Int × Int) := bif decide ((1200 : Int) < (l0.length : Int)) then some ([], 6, 0) else (iter (dec.s k) k ([], (l0, 0))).map decO
theorem own_cell {w : World} {e : Nat} {R : FRow (Option Addr × Nat × Nat)} {al : Addr} {x : Option Addr × Nat × Nat} (hR : R.enc x = [Lf.V .sl x]) (h : OwnO 0 (fun _ => False) w e R (some al) 1 [x]) : w.cell? al = some (Lf.V .sl x) := by
 obtain ⟨⟨cs, h1, h2⟩, _⟩ := h.sl
 rw [reps_flat] at h2
 simp only [List.flatMap_cons, List.flatMap_nil, List.append_nil, hR] at h2
 subst h2
 obtain ⟨ad, e1, hc, _⟩ := h1 0 _ rfl
 cases e1
 exact hc
theorem u22 : Try.prog.underlying 22 = some (.slice 36) := by kernel_rfl
theorem u29 : (Try.prog.underlying 29).map (·.isRow) = some true := by kernel_rfl
theorem i29 : (Try.prog.info? 29).map (·.size) = some 2 := by kernel_rfl
theorem res11 {tmps : Array Value} {w : World} {al af : Addr} {x : Option Addr × Nat × Nat} {y : Int × Int} (t2 : tmps.getD 2 undef = .pointer (some al)) (t3 : tmps.getD 3 undef = .pointer (some af)) (hl : OwnO 0 (fun _ => False) w 22 RSl (some al) 1 [x]) (hf : OwnO 0 (fun _ => False) w 29 R34 (some af) 1 [y]) :
  (results Try.f11 tmps).run Try.prog w = .ok (.tuple #[Lf.V .sl x, .agg #[.int .i64 y.1, .int .i64 y.2]]) w := by
 have hcl := own_cell (R := RSl) rfl hl
 have e1 : (resV tmps (.cell 2 22)).run Try.prog w = .ok (Lf.V .sl x) w := by
  simp [resV, t2, asAddr, loadVar, isAgg_run u22, TypeDesc.isRow, hcl]
 have e2 : (resV tmps (.cell 3 29)).run Try.prog w = .ok (.agg #[.int .i64 y.1, .int .i64 y.2]) w := by
  rcases hf with ⟨h, _, _⟩ | ⟨g, o, cur, hA, k2, k3, k5, k6, k7, k8, k9⟩
  ·cases h
  cases hA
  obtain ⟨d, hd, hr⟩ : ∃ d, Try.prog.underlying 29 = some d ∧ d.isRow = true := by
   have h := u29
   cases hu : Try.prog.underlying 29 with
   | none => rw [hu] at h; cases h
   | some d => rw [hu] at h; exact ⟨d, rfl, by simpa using h⟩
  have hrg : w.rangeAt g o ((cur.toList.drop o).take 2) := range_of (c := cur.toList) (T := 29) (by simpa using k5)
  simp only [List.length_cons, List.length_nil, Nat.zero_add, Nat.one_mul, List.flatMap_cons, List.flatMap_nil, List.append_nil] at k9
  rw [k9] at hrg
  have hrun := run_loadVar_mid (P := Try.prog) w g o 29 _ d hrg hd hr (by rw [i29]; rfl)
  simp only [resV, t3, asAddr]
  exact hrun
 have er : Try.f11.results = #[.cell 2 22, .cell 3 29] := by kernel_rfl
 have e0 : results Try.f11 tmps = (do let vs ← Try.f11.results.mapM (resV tmps); pure (if h : vs.size = 1 then vs[0] else .tuple vs)) := rfl
 rw [e0, er, Array.mapM_eq_mapM_toList, Sem.run_bind]
 have e3 : ((List.toArray <$> ([ResultVar.cell 2 22, ResultVar.cell 3 29].mapM (resV tmps))) : Sem (Array Value)).run Try.prog w = .ok #[Lf.V .sl x, .agg #[.int .i64 y.1, .int .i64 y.2]] w := by
  rw [← bind_pure_comp, Sem.run_bind, List.mapM_cons, Sem.run_bind, e1, Result.andThen_ok, List.mapM_cons]
  simp [Sem.run_bind, e2]
 rw [e3, Result.andThen_ok]
 rfl
def DecE0 (w : World) (r : List Fr × Int × Int) (e : Ending) (w' : World) : Prop := ∃ (B0 : Option Addr) (d0 : Nat) (ys : List FrR), e = .returned (.tuple #[.slice B0 r.1.length d0, .agg #[.int .i64 r.2.1, .int .i64 r.2.2]]) ∧ Below w.heap.size w w' ∧ OwnF w.heap.size (fun b => b < w.heap.size) w' 36 RF B0 d0 ys ∧ Nests w.heap.size (fun b => b < w.heap.size) w' r.1 ys
def DecE (w : World) (r : List Fr × Int × Int) (e : Ending) (w' : World) : Prop := ∃ (B0 : Option Addr) (d0 : Nat) (ys : List FrR), e = .returned (.tuple #[.slice B0 r.1.length d0, .agg #[.int .i64 r.2.1, .int .i64 r.2.2]]) ∧ Below w.heap.size w w' ∧ OwnF w.heap.size (fun b => b < w.heap.size) w' 36 RF B0 d0 ys ∧ Nests w.heap.size (fun b => b < w.heap.size) w' r.1 ys ∧ Sep ys
theorem dec_below {w w3 w' : World} {al af : Addr} (hb : Below w.heap.size w w3) (ha : al.block = w.heap.size) (hf : af.block = w.heap.size + 1) (g : Fine (fun b => b = al.block ∨ b = af.block) w3 (fun b => b = al.block ∨ b = af.block) w') : Below w.heap.size w w' :=
 ⟨g.os.trans hb.os, g.tape.trans hb.tape, g.output.trans hb.output, Nat.le_trans hb.size g.size, fun b hb' => (g.keep b (Nat.lt_of_lt_of_le hb' hb.size) (by omega)).trans (hb.block b hb')⟩
theorem dec_ok {w w3 w' : World} {al af : Addr} {xs : List Fr} {tmps : Array Value} (hb : Below w.heap.size w w3) (ha : al.block = w.heap.size) (hf : af.block = w.heap.size + 1) (t2 : tmps.getD 2 undef = .pointer (some al)) (t3 : tmps.getD 3 undef = .pointer (some af)) {e : Ending} (hR : DecR w3 al af (.ok xs) e w') :
  Leaves Try.prog Try.f11 tmps (DecE w (xs, 0, 0)) [{ target := Target.fn (Fn.func 24) #[Value.pointer (some al), Value.pointer (some af)], args := #[] }] .returning w' := by
 obtain ⟨_, A, c, ys, h1, h2, h3, h4, hsep, h5⟩ := hR
 refine leaves_cons (f := 24) (args := #[Value.pointer (some al), Value.pointer (some af)]) (by simp) (by simp [go_sem]) ?_
 refine (catch_n al af w').mono ?_
 rintro e u' w'' ⟨rfl, rfl, hF⟩
 have hF3 : Fine (fun b => b < w3.heap.size) w' (fun b => b < w3.heap.size) w'' := ⟨hF.os, hF.tape, hF.output, hF.size, fun b hb' _ => hF.keep b hb' (fun h => h), fun b hb' => Or.inl hb'⟩
 have hk : ∀ b, b < w.heap.size → b < w3.heap.size := fun b h => Nat.lt_of_lt_of_le h hb.size
 have h3' := (OwnF.vis (OwnF.later h3 hF3) (L' := fun b => b < w.heap.size) (fun b hb' hn => by have := OwnF.fresh h3 b hb'; have := hk b hn; omega)).down hb.size
 refine ⟨_, res11 t2 t3 (h1.later hF) (h2.later hF), A, c, ys, rfl, ?_, h3', ?_, hsep⟩
 ·exact dec_below hb ha hf ⟨hF.os.trans h5.os, hF.tape.trans h5.tape, hF.output.trans h5.output, Nat.le_trans h5.size hF.size, fun b hb' hn => (hF.keep b (Nat.lt_of_lt_of_le hb' h5.size) (fun h => h)).trans (h5.keep b hb' hn), fun b hb' => Or.inl hb'⟩
 ·exact Nests.down hb.size ((h4.step hF3).vis hk)
theorem dec_err {w w3 w' : World} {al af : Addr} {z : Int × Int} {tmps : Array Value} (hb : Below w.heap.size w w3) (ha : al.block = w.heap.size) (hf : af.block = w.heap.size + 1) (t2 : tmps.getD 2 undef = .pointer (some al)) (t3 : tmps.getD 3 undef = .pointer (some af)) {ps : List PanicEntry} (hR : DecR w3 al af (.error z) (.panicked ps) w') :
  Leaves Try.prog Try.f11 tmps (DecE w ([], z.1, z.2)) [{ target := Target.fn (Fn.func 24) #[Value.pointer (some al), Value.pointer (some af)], args := #[] }] (.panicking ps) w' := by
 obtain ⟨hp, x, y, h1, h2, h5⟩ := hR
 cases hp
 refine leaves_cons (f := 24) (args := #[Value.pointer (some al), Value.pointer (some af)]) (by simp) (by simp [go_sem]) ?_
 refine (catch_p al af x y z.1 z.2 w' h1 h2 (by omega)).mono ?_
 rintro e u' w'' ⟨rfl, rfl, h1', h2', hF⟩
 refine ⟨_, res11 t2 t3 h1' h2', none, 0, [], rfl, ?_, OwnF.nil _ _ _ _ _, trivial, ⟨fun y hy => (by cases hy), .nil⟩⟩
 exact dec_below hb ha hf ⟨hF.os.trans h5.os, hF.tape.trans h5.tape, hF.output.trans h5.output, Nat.le_trans h5.size hF.size, fun b hb' hn => (hF.keep b (Nat.lt_of_lt_of_le hb' h5.size) hn).trans (h5.keep b hb' hn), fun b hb' => Or.inl hb'⟩
theorem dec_long {w : World} {tmps : Array Value} (t2 : tmps.getD 2 undef = .pointer (some ⟨w.heap.size, 0, none⟩)) (t3 : tmps.getD 3 undef = .pointer (some ⟨w.heap.size + 1, 0, none⟩)) : Leaves Try.prog Try.f11 tmps (DecE w ([], 6, 0)) [] .returning ((w.alloc (Obj.cells #[Value.slice none 0 0] 22)).alloc (Obj.cells #[Value.int IntKind.i64 6, Value.int IntKind.i64 0] 29)) := by
 have hb : Below w.heap.size w ((w.alloc (Obj.cells #[Value.slice none 0 0] 22)).alloc (Obj.cells #[Value.int IntKind.i64 6, Value.int IntKind.i64 0] 29)) := ((Below.refl w.heap.size w).alloc (Nat.le_refl _) _).alloc (by simp) _
 refine ⟨_, res11 (al := ⟨w.heap.size, 0, none⟩) (af := ⟨w.heap.size + 1, 0, none⟩) (x := (none, 0, 0)) (y := (6, 0)) t2 t3 (Or.inr ⟨w.heap.size, 0, #[Value.slice none 0 0], rfl, Nat.zero_le _, ⟨by simp <;> omega, fun h => h⟩, ?_, Nat.le_refl _, by simp [maxLen], Nat.le_refl _, rfl⟩) (Or.inr ⟨w.heap.size + 1, 0, #[Value.int .i64 6, Value.int .i64 0], rfl, Nat.zero_le _, ⟨by simp <;> omega, fun h => h⟩, ?_, Nat.le_refl _, by simp [maxLen], Nat.le_refl _, rfl⟩), none, 0, [], rfl, hb, OwnF.nil _ _ _ _ _, trivial, ⟨fun y hy => (by cases hy), .nil⟩⟩
 ·show ((w.heap.push _).push _)[_]? = _
  rw [Array.getElem?_push, if_neg (by simp), Array.getElem?_push, if_pos rfl]
 ·show ((w.heap.push _).push _)[_]? = _
  rw [Array.getElem?_push, if_pos (by simp)]
end Go.Proofs.Ytpdchohbmmfemaa.X
