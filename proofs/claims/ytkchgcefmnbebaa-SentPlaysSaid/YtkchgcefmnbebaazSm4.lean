import Derived.Test.YtkchgcefmnbebaazSm1
import Derived.Test.YtkchgcefmnbebaazSm3
import Derived.Test.YtkchgcefmnbebaazWWords
import Derived.Test.YtkchgcefmnbebaazWMore
namespace Go.Proofs.Ytkchgcefmnbebaa.X
open Go Go.RowKit Go.Proofs.YtkchgcefmnbebaaW.Rx Go.Proofs.YtkchgcefmnbebaaW.PrintWords Go.Proofs.YtkchgcefmnbebaaW.PrintMore
set_option linter.unusedVariables false
set_option linter.unusedSimpArgs false
set_option maxRecDepth 20000
def pkV (p : Pk) : Value := .agg #[.int .i64 p.1, .int .i64 p.2.1, .int .i64 p.2.2]
def decE (e : MapEntry) : Pk := match e.val with
 | .agg cs => match cs.toList with
  | [.int _ a, .int _ b, .int _ c] => (a, b, c)
  | _ => (0, 0, 0)
 | _ => (0, 0, 0)
structure MapG {α : Type} (kf : α → Int) (vf : α → Value) (w : World) (bm : Nat) (out : List α) (es : Array MapEntry) (clock : Nat) : Prop where
 heap : w.heap[bm]? = some (.map es clock)
 ents : es.toList.map (fun e => (e.key, e.val)) = out.map fun p => (Value.int .i64 (kf p), vf p)
 nodup : (es.toList.map (·.born)).Nodup
 old : ∀ e ∈ es.toList, e.born < clock
abbrev MapAt (w : World) (bm : Nat) (out : List Pk) (es : Array MapEntry) (clock : Nat) : Prop := MapG (fun p : Pk => p.1) pkV w bm out es clock
theorem decE_of {es : List MapEntry} : ∀ {out : List Pk}, es.map (fun e => (e.key, e.val)) = out.map (fun p => (Value.int .i64 p.1, pkV p)) → es.map decE = out ∧ ∀ e ∈ es, e.key = .int .i64 (decE e).1 ∧ e.val = pkV (decE e) ∧ decE e ∈ out := by
 induction es with
 | nil =>
  intro out h
  cases out with
  | nil => exact ⟨rfl, fun e he => by cases he⟩
  | cons p out => simp at h
 | cons e es ih =>
  intro out h
  cases out with
  | nil => simp at h
  | cons p out =>
   simp only [List.map_cons, List.cons.injEq, Prod.mk.injEq] at h
   obtain ⟨⟨h1, h2⟩, h3⟩ := h
   obtain ⟨i1, i2⟩ := ih h3
   have hd : decE e = p := by unfold decE; rw [h2]; rfl
   refine ⟨by rw [List.map_cons, hd, i1], fun z hz => ?_⟩
   rcases List.mem_cons.1 hz with hz | hz
   ·subst hz
    rw [hd]
    exact ⟨h1, h2, List.mem_cons_self⟩
   ·obtain ⟨j1, j2, j3⟩ := i2 z hz
    exact ⟨j1, j2, List.mem_cons_of_mem _ j3⟩
structure ListI (w : World) (bm : Nat) (es : Array MapEntry) (clock : Nat) (holds : Pk → Bool) (B : Option Addr) (c : Nat) (xs : List Pk) (seen : Array Nat) (kq : Nat) (w' : World) : Prop where
 below : Below w.heap.size w w'
 iter : w'.heap[w.heap.size]? = some (.mapIter (some bm) clock seen clock)
 own : OwnF (w.heap.size + 1) (fun _ => False) w' 54 R36 B c xs
 perm : xs.Perm (((got es.toList seen).map decE).filter holds)
 left : kq = (leftOf es seen).size
def Chooses (w : World) (g : Nat) (cb : Array Value) (out : List Pk) (holds : Pk → Bool) : Prop := ∀ p ∈ out, ∀ W, Below w.heap.size w W → Calls Try.prog g (#[pkV p] ++ cb) W fun e W' => e = .returned (.bool (holds p)) ∧ Below W.heap.size W W'
def ListE (w : World) (ys : List Pk) (e : Ending) (w' : World) : Prop := ∃ (B : Option Addr) (d : Nat), e = .returned (.slice B ys.length d) ∧ Below w.heap.size w w' ∧ OwnF w.heap.size (fun b => b < w.heap.size) w' 54 R36 B d ys
theorem wpList_append_run {P : Program} (w : World) {ops : Array Oper} {rest : List Oper} {o : Oper} {a : Act} {Q : Exit → Act → World → Prop} (hg : o.guard = none) (s x : Operand) (t : TypeId) (hop : o.op = Op.call { callee := Callee.builtin Builtin.append, args := #[s, x], argTypes := #[t, t] })
  (vs vx v : Value) (w' : World) (hs : a.eval s = vs) (hx : a.eval x = vx) (hrun : (Builtin.append_ #[t, t] o.type #[vs, vx]).run P w = .ok v w') (hK : wpList P ops Q rest (a.put o.dst v) w') : wpList P ops Q (o :: rest) a w := by
 refine wpList_plain hg fun K hK' => ?_
 unfold Oper.wp
 simp [execOp, hop, resolve, invoke, builtin, hs, hx, hrun, Result.andThen]
 exact hK' _ _ hK
set_option maxHeartbeats 4000000 in
theorem list_c (g : Nat) (cb : Array Value) (holds : Pk → Bool) (eg : ∀ args w, (callFunc g args).run Try.prog w = .ok (.enter g args) w) (ag bm : Nat) (out : List Pk) (es : Array MapEntry) (clock : Nat) (w : World)
  (hcell : w.cell? ⟨ag, 0, none⟩ = some (.map (some bm))) (hm : MapAt w bm out es clock) (hs : out.Pairwise fun x y => x.1 < y.1) (hv : ∀ p ∈ out, 0 ≤ p.1 ∧ p.1 ≤ 4611686018427387903) (hlen : out.length ≤ 512) (hcl : Chooses w g cb out holds) :
  Calls Try.prog 39 #[.pointer (some ⟨ag, 0, none⟩), .func (.func g) #[] cb] w (ListE w (out.filter holds)) := by
 have hrange := run_range_map (P := Try.prog) w 56 3 54 bm es clock rfl hm.heap
 have HM := Aside0.mk hm
 have HCL := Aside0.mk hcl
 clear hm hcl
 go_enter Try.func39, Try.ntmps39
 go_wp2
 go_loopg [5, 7, 13, 14, 15, 16, 17, 18, 19, 20, 21, 22, 23] (leftOf es #[]).size (fun kq v5 v7 v13 v14 v15 v16 v17 v18 v19 v20 v21 v22 v23 w' => ∃ (B : Option Addr) (c : Nat) (xs : List Pk) (seen : Array Nat), v5 = .slice B xs.length c ∧ Aside0 (ListI w bm es clock holds B c xs seen kq w'))
 case atStart =>
  refine ⟨none, 0, [], #[], rfl, ⟨⟨(Below.refl w.heap.size w).alloc (Nat.le_refl _) _, heap_alloc_new w _, OwnF.nil _ _ _ _ _, ?_, rfl⟩⟩⟩
  rw [got_none]
  exact List.Perm.refl _
 case round =>
  obtain ⟨B, c, xs, seen, rfl, HI⟩ := hrel
  have hbm : wr.heap[bm]? = some (.map es clock) := by
   rw [HI.out.below.block bm (Array.getElem?_eq_some_iff.1 HM.out.heap).1]; exact HM.out.heap
  rcases next_at (P := Try.prog) wr 0 w.heap.size bm clock clock seen es clock HI.out.iter hbm HM.out.old (Nat.le_refl _) with ⟨h0, hrun⟩ | ⟨e, he, w1, hal, hrun⟩
  ·have H0 := Aside0.mk h0
   clear h0 hbm
   have hx : ∀ p ∈ xs, p ∈ out := fun p hp => by
    have h1 := (List.mem_filter.1 (HI.out.perm.mem_iff.1 hp)).1
    obtain ⟨z, hz, rfl⟩ := List.mem_map.1 h1
    exact ((decE_of HM.out.ents).2 z (List.mem_filter.1 hz).1).2.2
   have hp0 : xs.Perm (out.filter holds) := by
    have := HI.out.perm
    rw [got_all H0.out, (decE_of HM.out.ents).1] at this
    exact this
   have hxl : xs.length ≤ 512 := by
    have h1 := hp0.length_eq
    have h2 := List.length_filter_le holds out
    omega
   have hcon := sort_own HI.out.own (fun p hp => hv p (hx p hp)) (by omega)
   have HP := Aside0.mk (And.intro hp0 (And.intro hxl hs))
   clear hx hp0 hxl hs hv hlen
   go_wp2_with fail
   refine hcon.mono ?_
   rintro e w5 ⟨rfl, ys, hp, hso, hO, hsame, hsz, hkeep⟩
   have HQ := Aside0.mk (And.intro hp (And.intro hso (And.intro hO (And.intro hsame (And.intro hsz hkeep)))))
   clear hp hso hO hsame hsz hkeep hcon
   go_wp2
   go_ret
   obtain ⟨hp, hso, hO, hsame, hsz, hkeep⟩ := HQ.out
   obtain ⟨hp0, hxl, hs⟩ := HP.out
   have hys : ys = out.filter holds := perm_sorted (hs.filter _) (hp.trans hp0) hso
   have hB := HI.out.below
   have hbB : ∀ b, blk (B, 0, 0) b → w.heap.size + 1 ≤ b := fun b hb => Own.base HI.out.own hb
   refine ⟨B, c, by rw [hp0.length_eq]; rfl, ⟨hsame.1.trans hB.os, hsame.2.1.trans hB.tape, hsame.2.2.trans hB.output, Nat.le_trans hB.size hsz, fun b hb => ?_⟩, ?_⟩
   ·rw [hkeep b (Nat.lt_of_lt_of_le hb hB.size) (fun h => by have := hbB b h; omega)]
    exact hB.block b hb
   ·rw [← hys]
    exact OwnF.vis (hO.down (Nat.le_succ _)) (fun b hb h => by have := hbB b hb; omega)
  ·obtain ⟨hem, hes⟩ := mem_left he
   obtain ⟨hk, hvl, hpo⟩ := (decE_of HM.out.ents).2 e hem
   obtain ⟨p, hp⟩ : ∃ p, p = decE e := ⟨_, rfl⟩
   rw [← hp] at hk hvl hpo
   rw [hk, hvl] at hrun
   obtain ⟨w2, hw2⟩ : ∃ w2 : World, w2 = { w1 with heap := w1.heap.setIfInBounds w.heap.size (.mapIter (some bm) clock (seen.push e.born) clock) } := ⟨_, rfl⟩
   rw [← hw2] at hrun
   have hlt : w.heap.size < wr.heap.size := (Array.getElem?_eq_some_iff.1 HI.out.iter).1
   have hit : w2.heap[w.heap.size]? = some (.mapIter (some bm) clock (seen.push e.born) clock) := by
    rw [hw2]
    show (w1.heap.setIfInBounds _ _)[_]? = _
    rw [hal.1.1]
    simp [hlt]
   have hkeep : ∀ b, b ≠ w.heap.size → w2.heap[b]? = wr.heap[b]? := fun b hb => by
    rw [hw2]
    show (w1.heap.setIfInBounds _ _)[_]? = _
    rw [hal.1.1]
    simp [Array.getElem?_setIfInBounds, Ne.symm hb]
   have hsz : w2.heap.size = wr.heap.size := by
    rw [hw2]
    show (w1.heap.setIfInBounds _ _).size = _
    rw [hal.1.1]
    simp
   have hb2 : Below w.heap.size w w2 := by
    have hB := HI.out.below
    refine ⟨?_, ?_, ?_, by rw [hsz]; exact hB.size, fun b hb => by rw [hkeep b (by omega)]; exact hB.block b hb⟩
    ·rw [hw2]; exact hal.1.2.1.trans hB.os
    ·rw [hw2]; exact hal.2.trans hB.tape
    ·rw [hw2]; exact hal.1.2.2.trans hB.output
   have hbm2 : w2.heap[bm]? = some (.map es clock) := by
    rw [hb2.block bm (Array.getElem?_eq_some_iff.1 HM.out.heap).1]; exact HM.out.heap
   have hent := entry_at (P := Try.prog) w2 w.heap.size bm clock seen es clock e hit hbm2 hem HM.out.nodup
   rw [hk, hvl] at hent
   have HE := Aside0.mk (And.intro hem (And.intro hes (And.intro hp (And.intro hpo (And.intro hit hkeep)))))
   have HB2 := Aside0.mk hb2
   have HS2 := Aside0.mk (And.intro hsz hlt)
   have HLT := Aside0.mk (left_shrinks es seen e he)
   clear hem hes hp hpo hit hkeep hb2 hsz hlt hbm2 hw2 hbm he hk hvl hal
   have hx : ∀ p ∈ xs, p ∈ out := fun p hp => by
    have h1 := (List.mem_filter.1 (HI.out.perm.mem_iff.1 hp)).1
    obtain ⟨z, hz, rfl⟩ := List.mem_map.1 h1
    exact ((decE_of HM.out.ents).2 z (List.mem_filter.1 hz).1).2.2
   have hxl : xs.length ≤ 512 := by
    have h1 := HI.out.perm.length_eq
    have h2 := List.length_filter_le holds ((got es.toList seen).map decE)
    have h3 : (got es.toList seen).length ≤ es.toList.length := List.length_filter_le _ _
    have h4 := congrArg List.length HM.out.ents
    simp only [List.length_map] at h2 h4
    omega
   have HX := Aside0.mk (And.intro hxl (And.intro hs (And.intro hv hlen)))
   clear hx hxl hs hv hlen
   unfold pkV at hrun hent
   go_wp2_with fail
   obtain ⟨w2', hw2'⟩ : ∃ W, W = w2.alloc (Obj.cells #[Value.int IntKind.i64 p.1, Value.int IntKind.i64 p.2.1, Value.int IntKind.i64 p.2.2] 54) := ⟨_, rfl⟩
   rw [← hw2']
   have hb2' : Below w.heap.size w w2' := by rw [hw2']; exact HB2.out.alloc HB2.out.size _
   have hc := HCL.out p HE.out.2.2.2.1 w2' hb2'
   unfold pkV at hc
   refine hc.mono ?_
   rintro e' w3 ⟨rfl, hb3⟩
   have hn2 : w2'.heap[w2.heap.size]? = some (.cells #[Value.int IntKind.i64 p.1, Value.int IntKind.i64 p.2.1, Value.int IntKind.i64 p.2.2] 54 (0, 0)) := by rw [hw2']; exact heap_alloc_new w2 _
   have hs2 : w2'.heap.size = w2.heap.size + 1 := by rw [hw2']; simp
   have hn3 : w3.heap[w2.heap.size]? = some (.cells #[Value.int IntKind.i64 p.1, Value.int IntKind.i64 p.2.1, Value.int IntKind.i64 p.2.2] 54 (0, 0)) := by rw [hb3.block _ (by omega)]; exact hn2
   have c0 : w3.cell? { block := w2.heap.size, off := 0 } = some (.int .i64 p.1) := by unfold World.cell?; rw [hn3]; rfl
   have c1 : w3.cell? { block := w2.heap.size, off := 1 } = some (.int .i64 p.2.1) := by unfold World.cell?; rw [hn3]; rfl
   have c2 : w3.cell? { block := w2.heap.size, off := 2 } = some (.int .i64 p.2.2) := by unfold World.cell?; rw [hn3]; rfl
   have hB0 : ∀ b, blk (B, 0, 0) b → w.heap.size + 1 ≤ b ∧ b < wr.heap.size := fun b hb => ⟨Own.base HI.out.own hb, OwnF.lt HI.out.own b hb⟩
   have hw3 : w2.heap.size ≤ w3.heap.size := by have := hb3.size; omega
   have hk3 : ∀ b, b < wr.heap.size → w3.heap[b]? = w2.heap[b]? := fun b hb => by
    have e2 := HS2.out.1
    rw [hb3.block b (by omega), hw2', heap_alloc_old w2 _ (by omega)]
   have hb3w : Below w.heap.size w w3 := hb2'.trans (hb3.mono hb2'.size)
   have hg3 : Fine (fun b => b = w.heap.size) wr (fun _ => False) w3 := by
    have hbr := HI.out.below
    refine ⟨hb3w.os.trans hbr.os.symm, hb3w.tape.trans hbr.tape.symm, hb3w.output.trans hbr.output.symm, by have := HS2.out.1; omega, fun b hb hn => ?_, fun b h => h.elim⟩
    rw [hk3 b hb]; exact HE.out.2.2.2.2.2 b hn
   have hO3 : OwnF (w.heap.size + 1) (fun _ => False) w3 54 R36 B c xs := OwnF.later (OwnF.vis HI.out.own (fun b hb e => by have := hB0 b hb; omega)) hg3
   have hi3 : w3.heap[w.heap.size]? = some (.mapIter (some bm) clock (seen.push e.born) clock) := by
    rw [hk3 _ HS2.out.2]; exact HE.out.2.2.2.2.1
   have hperm : ((got es.toList (seen.push e.born)).map decE).filter holds = ((got es.toList (seen.push e.born)).map decE).filter holds := rfl
   have hgp := ((got_push HM.out.nodup HE.out.1 HE.out.2.1).map decE).filter holds
   rw [List.map_cons, ← HE.out.2.2.1] at hgp
   obtain ⟨w4, hw4⟩ : ∃ W, W = w3.alloc (Obj.cells #[Value.int IntKind.i64 p.1, Value.int IntKind.i64 p.2.1, Value.int IntKind.i64 p.2.2] 54) := ⟨_, rfl⟩
   have hn4 : w4.heap[w3.heap.size]? = some (.cells #[Value.int IntKind.i64 p.1, Value.int IntKind.i64 p.2.1, Value.int IntKind.i64 p.2.2] 54 (0, 0)) := by rw [hw4]; exact heap_alloc_new w3 _
   have hb4 : Below w3.heap.size w3 w4 := by rw [hw4]; exact (Below.refl _ _).alloc (Nat.le_refl _) _
   have hO4 := hO3.later ((Fine.refl (fun _ => False) w3).step hb4)
   have happ0 := own_app (P := Try.prog) (base := w.heap.size + 1) (t := 36) (ty := 36) (e := 54) (size := 3) (bytes := 24) rfl rfl rfl rfl rfl rfl (by decide) hO4 (fun b h => h.elim) ⟨w3.heap.size, 0, none⟩ 1 1 [Value.int IntKind.i64 p.1, Value.int IntKind.i64 p.2.1, Value.int IntKind.i64 p.2.2] rfl (fun j u hu => by
    match j, hu with
    | 0, hu => cases hu; unfold World.cell?; rw [show ((⟨w3.heap.size, 0, none⟩ : Addr).add 0).block = w3.heap.size from rfl, hn4]; rfl
    | 1, hu => cases hu; unfold World.cell?; rw [show ((⟨w3.heap.size, 0, none⟩ : Addr).add 1).block = w3.heap.size from rfl, hn4]; rfl
    | 2, hu => cases hu; unfold World.cell?; rw [show ((⟨w3.heap.size, 0, none⟩ : Addr).add 2).block = w3.heap.size from rfl, hn4]; rfl
    | j + 3, hu => simp at hu) (fun u hu => by simp at hu; rcases hu with rfl | rfl | rfl <;> rfl) (by have := HX.out.1; show xs.length + 1 ≤ maxLen; simp only [maxLen]; omega) (by have := HX.out.1; show (xs.length + 1) * 24 ≤ 140737488355328; omega) (by have := hb3w.size; have := hb4.size; have := HS2.out; omega)
   obtain ⟨⟨A5, n5, c5⟩, w5, hrun5, hO5, hn5, hK5, hF5, hbl5⟩ := happ0
   dsimp only at hn5
   subst hn5
   simp only [Lf.V] at hrun5
   rw [hw4] at hrun5
   have HA := Aside0.mk hrun5
   have hO5' : OwnF (w.heap.size + 1) (fun _ => False) w5 54 R36 A5 c5 (xs ++ [p]) := by
    have e1 : (xs ++ [p]).flatMap R36.enc = xs.flatMap R36.enc ++ [Value.int IntKind.i64 p.1, Value.int IntKind.i64 p.2.1, Value.int IntKind.i64 p.2.2] := by rw [List.flatMap_append]; rfl
    show Own _ _ _ _ _ (A5, (xs ++ [p]).length, c5) _
    rw [e1, List.length_append]
    exact hO5
   have hnB : ∀ b, b ≤ w.heap.size → ¬ (False ∨ blk (B, xs.length, c) b) := fun b hb h => by
    rcases h with h | h
    ·exact h
    ·have := hB0 b h; omega
   have hk5 : ∀ b, b ≤ w.heap.size → w5.heap[b]? = w3.heap[b]? := fun b hb => by
    have h1 := hF5.keep b (by have := hb3w.size; have := hb4.size; have := HS2.out; omega) (hnB b hb)
    have h2 := hb4.block b (by have := HS2.out; omega)
    exact h1.trans h2
   have hb5w : Below w.heap.size w w5 := ⟨(hF5.os.trans hb4.os).trans hb3w.os, (hF5.tape.trans hb4.tape).trans hb3w.tape, (hF5.output.trans hb4.output).trans hb3w.output, Nat.le_trans (Nat.le_trans hb3w.size hb4.size) hF5.size, fun b hb => (hk5 b (Nat.le_of_lt hb)).trans (hb3w.block b hb)⟩
   have HG3 := Aside0.mk (And.intro hb3w (And.intro hO3 (And.intro hi3 hgp)))
   have HG5 := Aside0.mk (And.intro hb5w (And.intro hO5' ((hk5 _ (Nat.le_refl _)).trans hi3)))
   clear hc hb3 hb2' hs2 hn3 hn2 hB0 hw3 hk3 hb3w hg3 hO3 hi3 hperm hgp hn4 hb4 hO4 hO5 hK5 hF5 hbl5 hrun5 hO5' hnB hk5 hb5w hw4
   go_wp2_with (first | ((with_reducible refine gate_builtin (b := .append) (xs := #[.tmp 20, .tmp 22]) rfl ?_); at_builtin; refine wpList_append_run _ rfl (.tmp 20) (.tmp 22) 36 rfl _ _ _ _ rfl rfl HA.out ?_) | fail)
   ·have hh : holds p = true := by assumption
    go_roundg ((leftOf es (seen.push e.born)).size)
    case measure => have h1 := HLT.out; have h2 := HI.out.left; omega
    case rel =>
     refine ⟨A5, c5, xs ++ [p], seen.push e.born, by rw [List.length_append]; rfl, ⟨⟨HG5.out.1, HG5.out.2.2, HG5.out.2.1, ?_, rfl⟩⟩⟩
     have h1 := HG3.out.2.2.2
     rw [List.filter_cons_of_pos hh] at h1
     exact List.perm_append_comm.trans ((HI.out.perm.cons p).trans h1.symm)
   ·have hh : holds p = false := by first | assumption | (rw [← Bool.not_eq_true]; assumption)
    go_roundg ((leftOf es (seen.push e.born)).size)
    case measure => have h1 := HLT.out; have h2 := HI.out.left; omega
    case rel =>
     refine ⟨B, c, xs, seen.push e.born, rfl, ⟨⟨HG3.out.1, HG3.out.2.2.1, HG3.out.2.1, ?_, rfl⟩⟩⟩
     have h1 := HG3.out.2.2.2
     rw [List.filter_cons_of_neg (by rw [hh]; exact Bool.false_ne_true)] at h1
     exact HI.out.perm.trans h1.symm
end Go.Proofs.Ytkchgcefmnbebaa.X
