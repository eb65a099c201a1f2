import Derived.Test.YtpdchohbmmfemaazOn1
import Derived.Test.YtpdchohbmmfemaazFv1
namespace Go.Proofs.Ytpdchohbmmfemaa.X
open Go Go.RowKit Go.Shelf Go.Proofs.YtpdchohbmmfemaaW.Rx Go.Proofs.Ytpdchohbmmfemaa.Plain
set_option linter.unusedVariables false
set_option linter.unusedSimpArgs false
attribute [local go_sem] Oper.semAt_some
def putP (b : List Int) (n : Int) : List Int := if may n = true then putn b n else []
theorem putP_len (b : List Int) (n : Int) : (putP b n).length ≤ b.length + 8 := by
 unfold putP
 cases hm : may n with
 | true =>
  obtain ⟨g0, g3, gw, gn, gp⟩ := may_mark hm
  have := putw_len b n _ g0 g3
  have := wide_bd g0 g3
  rw [if_pos rfl]
  unfold putn
  omega
 | false => simp
theorem putP_F (k : Nat) (hk : 12 ≤ k) (l : List Int) : ∀ (b : List Int), b.length + 8 * l.length ≤ 140737488351232 → l.foldlM (fun b n => (vint_Put.F k b n).map (·.1)) b = some (l.foldl putP b) := by
 induction l with
 | nil => intro b _; rfl
 | cons n l ih =>
  intro b hb
  simp only [List.length_cons] at hb
  rw [List.foldlM_cons, put_F b (by omega) n k hk]
  have hl := putP_len b n
  have e : ((some (if may n = true then (putn b n, (0 : Int)) else ([], 1))).map (·.1) : Option (List Int)) = some (putP b n) := by unfold putP; split <;> rfl
  rw [e]
  show l.foldlM _ (putP b n) = _
  rw [ih _ (by omega)]
  rfl
theorem puts_F (k : Nat) (hk : 12 ≤ k) (b l : List Int) (hl : l ≠ []) (hb : b.length + 8 * l.length ≤ 140737488351232) : frames_put.F k b l = some (l.foldl putP b) := by
 unfold frames_put.F
 rw [if_neg hl]
 exact putP_F k hk l b hb
theorem put_calls (k : Nat) (hk : 12 ≤ k) {A A1 : Option Addr} {c c1 : Nat} (b l : List Int) (hl : l ≠ []) (hb : b.length + 8 * l.length ≤ 140737488351232) (w : World) (hS : SlR R23.row (fun _ => False) w A c b) (hS1 : SlR R76.row (fun _ => False) w A1 c1 l) :
  Calls Try.prog 41 #[.slice A b.length c, .slice A1 l.length c1] w fun e w' => ∃ (B : Option Addr) (d : Nat), e = .returned (.slice B (l.foldl putP b).length d) ∧ Below w.heap.size w w' ∧ OwnF w.heap.size (fun b => b < w.heap.size) w' 5 R23 B d (l.foldl putP b) :=
 frames_put.c k A _ c b A1 _ c1 l _ (puts_F k hk b l hl hb) rfl rfl w hS hS1
theorem heap4 (w : World) (o0 o1 o2 o3 : Obj) : ((((w.alloc o0).alloc o1).alloc o2).alloc o3).heap[w.heap.size]? = some o0 ∧ ((((w.alloc o0).alloc o1).alloc o2).alloc o3).heap[w.heap.size + 1]? = some o1 ∧ ((((w.alloc o0).alloc o1).alloc o2).alloc o3).heap[w.heap.size + 1 + 1]? = some o2 ∧ ((((w.alloc o0).alloc o1).alloc o2).alloc o3).heap[w.heap.size + 1 + 1 + 1]? = some o3 := by
 show ((((w.heap.push o0).push o1).push o2).push o3)[_]? = _ ∧ ((((w.heap.push o0).push o1).push o2).push o3)[_]? = _ ∧ ((((w.heap.push o0).push o1).push o2).push o3)[_]? = _ ∧ ((((w.heap.push o0).push o1).push o2).push o3)[_]? = _
 refine ⟨?_, ?_, ?_, ?_⟩
 ·rw [Array.getElem?_push, if_neg (by simp <;> omega), Array.getElem?_push, if_neg (by simp <;> omega), Array.getElem?_push, if_neg (by simp <;> omega), Array.getElem?_push, if_pos rfl]
 ·rw [Array.getElem?_push, if_neg (by simp <;> omega), Array.getElem?_push, if_neg (by simp <;> omega), Array.getElem?_push, if_pos (by simp)]
 ·rw [Array.getElem?_push, if_neg (by simp), Array.getElem?_push, if_pos (by simp)]
 ·rw [Array.getElem?_push, if_pos (by simp)]
theorem heap_sl {α : Type} {R : FRow α} {w : World} {g t : Nat} {cells : Array Value} {l : List α} (h : w.heap[g]? = some (.cells cells t (0, 0))) (hc : cells.toList = l.flatMap R.enc) (hm : l.length ≤ maxLen := by simp [maxLen]) : SlR R.row (fun _ => False) w (some ⟨g, 0, none⟩) l.length l := by
 have hsz : cells.size = l.length * R.n := by rw [← Array.length_toList, hc, flatMap_len]
 exact OwnO.sl (base := 0) (e := t) (Or.inr ⟨g, 0, cells, rfl, Nat.zero_le _, ⟨(Array.getElem?_eq_some_iff.1 h).1, fun h => h⟩, h, Nat.le_refl _, hm, by omega, by rw [List.drop_zero, hc]; exact List.take_of_length_le (by rw [flatMap_len]; exact Nat.le_refl _)⟩)
theorem sl_cells {L : Nat → Prop} {w : World} {ad : Addr} {c : Nat} {l : List (Int × Int)} {i : Nat} {x : Int × Int} (h : SlR R34.row L w (some ad) c l) (hx : l[i]? = some x) : w.cell? (ad.add (i * 2)) = some (.int .i64 x.1) ∧ w.cell? ⟨(ad.add (i * 2)).block, (ad.add (i * 2)).off + 1, none⟩ = some (.int .i64 x.2) := by
 obtain ⟨⟨cs, h1, h2⟩, _⟩ := h
 obtain ⟨a, ha, hg⟩ := h2.get hx
 have ha : a = [.int .i64 x.1, .int .i64 x.2] := ha
 subst ha
 obtain ⟨ad1, e1, hc1, _⟩ := h1 _ _ (hg 0 _ rfl)
 obtain ⟨ad2, e2, hc2, _⟩ := h1 _ _ (hg 1 _ rfl)
 cases e1; cases e2
 refine ⟨hc1, ?_⟩
 have e : ad.add (i * 2 + 1) = ⟨(ad.add (i * 2)).block, (ad.add (i * 2)).off + 1, none⟩ := by
  cases ad with
  | mk b off sp =>
   unfold Addr.add
   rw [if_neg (by omega)]
   by_cases hm : i * 2 = 0
   ·rw [if_pos hm, hm]
   ·rw [if_neg hm]; rfl
 rw [← e]; exact hc2
def stepA (m : Nat) (st : List Int × Int) (x : Nat × (Int × Int)) : List Int × Int := (putP (bif decide ((x.1 : Int) < (m : Int)) then putP st.1 (wrap64 (wrap64 (st.2 - 2) - x.2.2)) else st.1) (wrap64 (x.2.2 - x.2.1)), x.2.1)
def accA (b0 : List Int) (low : Int) (m : Nat) (pre : List (Nat × (Int × Int))) : List Int × Int := pre.foldl (stepA m) (b0, low)
theorem accA_snoc (b0 : List Int) (low : Int) (m : Nat) (pre : List (Nat × (Int × Int))) (x : Nat × (Int × Int)) : accA b0 low m (pre ++ [x]) = stepA m (accA b0 low m pre) x := by simp [accA]
theorem stepA_len (m : Nat) (st : List Int × Int) (x : Nat × (Int × Int)) : (stepA m st x).1.length ≤ st.1.length + 16 := by
 unfold stepA
 have h1 := putP_len (bif decide ((x.1 : Int) < (m : Int)) then putP st.1 (wrap64 (wrap64 (st.2 - 2) - x.2.2)) else st.1) (wrap64 (x.2.2 - x.2.1))
 have h2 := putP_len st.1 (wrap64 (wrap64 (st.2 - 2) - x.2.2))
 cases hd : decide ((x.1 : Int) < (m : Int)) with
 | true => rw [hd] at h1; dsimp only [cond_true] at h1 ⊢; omega
 | false => rw [hd] at h1; dsimp only [cond_false] at h1 ⊢; omega
theorem accA_len (b0 : List Int) (low : Int) (m : Nat) (pre : List (Nat × (Int × Int))) : (accA b0 low m pre).1.length ≤ b0.length + 16 * pre.length := by
 unfold accA
 generalize hs : (b0, low) = st
 rw [show b0 = st.1 by rw [← hs]]
 clear hs
 induction pre generalizing st with
 | nil => simp
 | cons x pre ih =>
  rw [List.foldl_cons, List.length_cons]
  have := ih (stepA m st x)
  have := stepA_len m st x
  omega
def ackB (N : Int) (zs : List (Int × Int)) : List Int :=
 (accA ([wrap64 (wrap64 ((zs[zs.length - 1]?.getD (0, 0)).2 + 2) - 2), N, ((zs.length - 1 : Nat) : Int)].foldl putP [2]) (wrap64 ((zs[zs.length - 1]?.getD (0, 0)).2 + 2)) (zs.length - 1) (bk zs zs.length)).1
theorem OwnF.grown {α : Type} {R : FRow α} {base e : Nat} {A : Option Addr} {c : Nat} {xs : List α} {K : Nat → Prop} {W W' : World} {row : Option Nat} (h : OwnF base K W e R A c xs) (hg : W.grownBy W' row) (hr : ∀ r, row = some r → ∃ o : Obj, W.heap[r]? = some o ∧ o.isCells = false) : OwnF base K W' e R A c xs := by
 refine ⟨⟨h.1.1, ?_⟩, fun ad ha => ⟨Nat.lt_of_lt_of_le (h.2 ad ha).1 hg.size, (h.2 ad ha).2⟩⟩
 rcases h.1.2 with h1 | ⟨g, cap, cur, h1, h2, h3, h4⟩
 ·exact Or.inl h1
 ·refine Or.inr ⟨g, cap, cur, h1, h2, ?_, h4⟩
  rw [hg.block g (Array.getElem?_eq_some_iff.1 h3).1 (fun e => ?_)]
  ·exact h3
  ·obtain ⟨o, ho, hc⟩ := hr g e.symm
   rw [h3] at ho
   cases ho
   cases hc
theorem heap_grown {W W' : World} {row : Option Nat} {g t : Nat} {cells : Array Value} (h : W.heap[g]? = some (.cells cells t (0, 0))) (hg : W.grownBy W' row) (hr : ∀ r, row = some r → ∃ o : Obj, W.heap[r]? = some o ∧ o.isCells = false) : W'.heap[g]? = some (.cells cells t (0, 0)) := by
 rw [hg.block g (Array.getElem?_eq_some_iff.1 h).1 (fun e => ?_)]
 ·exact h
 ·obtain ⟨o, ho, hc⟩ := hr g e.symm
  rw [h] at ho
  cases ho
  cases hc
theorem cell_of {W : World} {g t : Nat} {cells : Array Value} (h : W.heap[g]? = some (.cells cells t (0, 0))) (i : Nat) {v : Value} (hv : cells[i]? = some v) : W.cell? ⟨g, i, none⟩ = some v := by
 unfold World.cell?
 dsimp only
 rw [h]
 exact hv
theorem frozen_of {W : World} {g t : Nat} {cells : Array Value} (h : W.heap[g]? = some (.cells cells t (0, 0))) (i : Nat) : W.frozen? ⟨g, i, none⟩ = false := by
 unfold World.frozen?
 dsimp only
 rw [h]
 simp
structure AckI (w : World) (Bb : Nat) (fcells : Array Value) (st : List Int × Int) (A : Option Addr) (c : Nat) (W : World) : Prop where
 hb : W.heap[Bb]? = some (.cells #[.slice A st.1.length c] 23 (0, 0))
 hl : W.heap[w.heap.size + 1]? = some (.cells #[.int .i64 st.2] 3 (0, 0))
 hf : W.heap[w.heap.size]? = some (.cells fcells 36 (0, 0))
 hO : OwnF w.heap.size (fun b => b = Bb ∨ b = w.heap.size + 1) W 5 R23 A c st.1
 hB : Below w.heap.size w W
theorem AckI.grown {w : World} {Bb : Nat} {fcells : Array Value} {st : List Int × Int} {A : Option Addr} {c : Nat} {W W' : World} {row : Option Nat} (h : AckI w Bb fcells st A c W) (hg : W.grownBy W' row) (hr : ∀ r, row = some r → ∃ o : Obj, W.heap[r]? = some o ∧ o.isCells = false) (hr2 : ∀ r, row = some r → w.heap.size ≤ r) : AckI w Bb fcells st A c W' :=
 ⟨heap_grown h.hb hg hr, heap_grown h.hl hg hr, heap_grown h.hf hg hr, OwnF.grown h.hO hg hr, h.hB.grown hg h.hB.size hr2⟩
theorem OwnF.rowed {α : Type} {R : FRow α} {base e : Nat} {A : Option Addr} {c : Nat} {xs : List α} {K : Nat → Prop} {W W' : World} {row : Option Nat} (h : OwnF base K W e R A c xs) (hg : W.grownBy W' row) (hne : ∀ b, blk (A, 0, 0) b → row ≠ some b) : OwnF base K W' e R A c xs := by
 refine ⟨⟨h.1.1, ?_⟩, fun ad ha => ⟨Nat.lt_of_lt_of_le (h.2 ad ha).1 hg.size, (h.2 ad ha).2⟩⟩
 rcases h.1.2 with h1 | ⟨g, cap, cur, h1, h2, h3, h4⟩
 ·exact Or.inl h1
 ·refine Or.inr ⟨g, cap, cur, h1, h2, ?_, h4⟩
  simp only [Lf.V, Value.slice.injEq] at h1
  rw [hg.block g (Array.getElem?_eq_some_iff.1 h3).1 (fun e => hne g ⟨_, h1.1, rfl⟩ e.symm)]
  exact h3
theorem heap_set1 {W : World} {g t : Nat} {v0 : Value} (h : W.heap[g]? = some (.cells #[v0] t (0, 0))) (v : Value) : (W.setCell ⟨g, 0, none⟩ v).heap[g]? = some (.cells #[v] t (0, 0)) := by
 simp [World.setCell, Array.getElem?_modify, h]
theorem heap_set2 {W : World} {g k t : Nat} {cells : Array Value} (h : W.heap[k]? = some (.cells cells t (0, 0))) (hne : k ≠ g) (v : Value) : (W.setCell ⟨g, 0, none⟩ v).heap[k]? = some (.cells cells t (0, 0)) := by
 rw [(grownBy_setCell' W g v).block k (Array.getElem?_eq_some_iff.1 h).1 (fun e => by cases e; exact hne rfl)]
 exact h
theorem heap_call {W w7 : World} {o : Obj} (hb7 : Below (W.alloc o).heap.size (W.alloc o) w7) {g t : Nat} {cells : Array Value} (h : W.heap[g]? = some (.cells cells t (0, 0))) : w7.heap[g]? = some (.cells cells t (0, 0)) := by
 have hlt := (Array.getElem?_eq_some_iff.1 h).1
 rw [hb7.block g (by simp; omega), Below.heap_alloc W o g hlt]
 exact h
theorem AckI.putb {w : World} {Bb : Nat} {fc : Array Value} {s : List Int × Int} {A : Option Addr} {c : Nat} {W w7 : World} {o : Obj} {B1 : Option Addr} {d1 : Nat} {b1 : List Int} (h : AckI w Bb fc s A c W) (hBb : w.heap.size + 1 < Bb) (hb7 : Below (W.alloc o).heap.size (W.alloc o) w7) (hO7 : OwnF (W.alloc o).heap.size (fun b => b < (W.alloc o).heap.size) w7 5 R23 B1 d1 b1) : AckI w Bb fc (b1, s.2) B1 d1 (w7.setCell ⟨Bb, 0, none⟩ (.slice B1 b1.length d1)) := by
 have hsz : (W.alloc o).heap.size = W.heap.size + 1 := by simp
 have l1 := (Array.getElem?_eq_some_iff.1 h.hb).1
 refine ⟨heap_set1 (heap_call hb7 h.hb) _, heap_set2 (heap_call hb7 h.hl) (by omega) _, heap_set2 (heap_call hb7 h.hf) (by omega) _, ?_, ?_⟩
 ·have h1 := hO7.down (base' := w.heap.size) (by have := h.hB.size; omega)
  have h2 : OwnF w.heap.size (fun b => b = Bb ∨ b = w.heap.size + 1) w7 5 R23 B1 d1 b1 := OwnF.vis h1 (fun b hb hk => by
   have := OwnF.fresh hO7 b hb
   rcases hk with rfl | rfl <;> omega)
  exact OwnF.rowed h2 (grownBy_setCell' w7 Bb _) (fun b hb e => by cases e; have := OwnF.fresh hO7 _ hb; omega)
 ·have h3 : Below w.heap.size w w7 := (h.hB.alloc h.hB.size o).trans (hb7.mono (by have := h.hB.size; omega))
  exact h3.setCell (p := ⟨Bb, 0, none⟩) (by dsimp only; omega) _
theorem AckI.low {w : World} {Bb : Nat} {fc : Array Value} {s : List Int × Int} {A : Option Addr} {c : Nat} {W : World} (h : AckI w Bb fc s A c W) (hBb : w.heap.size + 1 < Bb) (n : Int) : AckI w Bb fc (s.1, n) A c (W.setCell ⟨w.heap.size + 1, 0, none⟩ (.int .i64 n)) := by
 refine ⟨heap_set2 h.hb (by omega) _, heap_set1 h.hl _, heap_set2 h.hf (by omega) _, ?_, h.hB.setCell (p := ⟨w.heap.size + 1, 0, none⟩) (by dsimp only; omega) _⟩
 exact OwnF.rowed h.hO (grownBy_setCell' W (w.heap.size + 1) _) (fun b hb e => by
  cases e
  obtain ⟨ad, ha, hb⟩ := hb
  exact (h.hO.2 ad ha).2 (Or.inr hb))
def AckT (n₀ Bs : Nat) (W W' : World) : Prop := KeepsOthers W W' ∧ KpB n₀ Bs W W' ∧ W.heap.size ≤ W'.heap.size
theorem AckT.call {n₀ Bs : Nat} {V W w7 : World} {o : Obj} (h : AckT n₀ Bs V W) (hn : n₀ ≤ W.heap.size) (hs : Bs < W.heap.size) (hb7 : Below (W.alloc o).heap.size (W.alloc o) w7) : AckT n₀ Bs V w7 := by
 have hsz : (W.alloc o).heap.size = W.heap.size + 1 := by simp
 refine ⟨h.1.trans ⟨by have := hb7.size; omega, fun i o' hi ho => ?_⟩, h.2.1.trans ⟨((Below.refl n₀ W).alloc hn o).trans (hb7.mono (by omega)), ?_⟩, by have := hb7.size; have := h.2.2; omega⟩
 ·have hlt := (Array.getElem?_eq_some_iff.1 hi).1
  rw [hb7.block i (by omega), Below.heap_alloc W o i hlt]
  exact hi
 ·rw [hb7.block Bs (by omega), Below.heap_alloc W o Bs hs]
theorem AckT.set {n₀ Bs g : Nat} {V W : World} (h : AckT n₀ Bs V W) (hn : n₀ ≤ g) (hs : Bs ≠ g) (hlt : Bs < W.heap.size) (v : Value) : AckT n₀ Bs V (W.setCell ⟨g, 0, none⟩ v) :=
 ⟨h.1.trans (KeepsOthers.setCell _ _ _), h.2.1.trans ⟨(Below.refl n₀ W).setCell (p := ⟨g, 0, none⟩) hn _, (grownBy_setCell' W g v).block Bs hlt (fun e => by cases e; exact hs rfl)⟩, Nat.le_trans h.2.2 (grownBy_setCell' W g v).size⟩
set_option maxRecDepth 100000 in
set_option maxHeartbeats 4000000 in
theorem one_ack (A6 : Option Addr) (n6 c6 : Nat) (ad : Addr) (cap m : Nat) (st off N code : Int) (fin : Bool) (zs : List (Int × Int)) (hL : zs.length = m + 1) (hm : m ≤ 100) (w : World) (hS : SlR R34.row (fun _ => False) w (some ad) cap zs) :
  CallsIn Fence.wide 6 Try.prog 23 #[.agg #[.int .i64 2, .int .i64 st, .int .i64 off, .int .i64 N, .int .i64 code, .bool fin, .slice A6 n6 c6, .slice (some ad) (m + 1) cap]] w fun e w' => ∃ (B : Option Addr) (d : Nat), e = .returned (.slice B (ackB N zs).length d) ∧ Below w.heap.size w w' ∧ OwnF w.heap.size (fun b => b < w.heap.size) w' 5 R23 B d (ackB N zs) := by
 have h23 : Fence.wide.fn 23 := trivial
 refine callsIn_of_wp_marks Try.func23 rfl h23 ?_ rfl
 simp only [Try.ntmps23, List.size_toArray, List.length_cons, List.length_nil, Nat.reduceAdd, Nat.reduceSub, Array.replicate_succ, Array.replicate_zero, List.push_toArray, List.append_toArray, List.nil_append, List.cons_append]
 have hw1 : wrap64 (((m : Int) + 1) - 1) = (m : Int) := by unfold wrap64; omega
 have hidx : (0 : Int) ≤ (m : Int) ∧ (m : Int) < (m : Int) + 1 := by omega
 obtain ⟨zl, hzl⟩ : ∃ x, zs[m]? = some x := ⟨_, List.getElem?_eq_getElem (by omega)⟩
 obtain ⟨hl1, hl2⟩ := sl_cells hS hzl
 have hadb : ad.block < w.heap.size := by have := (cell_spot hl1).2; rwa [block_add] at this
 have hl2' : (w.alloc (.cells #[.int .i64 2, .int .i64 st, .int .i64 off, .int .i64 N, .int .i64 code, .bool fin, .slice A6 n6 c6, .slice (some ad) (m + 1) cap] 36)).cell? ⟨(ad.add (m * 2)).block, (ad.add (m * 2)).off + 1, none⟩ = some (.int .i64 zl.2) := (World.cell?_alloc_past (w := w) _ _ _ (by rw [block_add]; exact hadb)).trans hl2
 gi_wp2_with fail
 obtain ⟨W4, hW4⟩ : ∃ W4, W4 = ((((w.alloc (Obj.cells #[Value.int IntKind.i64 2, Value.int IntKind.i64 st, Value.int IntKind.i64 off, Value.int IntKind.i64 N, Value.int IntKind.i64 code, Value.bool fin, Value.slice A6 n6 c6, Value.slice (some ad) (m + 1) cap] 36)).alloc (Obj.cells #[Value.int IntKind.i64 (wrap64 (zl.snd + 2))] 3)).alloc (Obj.cells #[Value.int IntKind.u8 2] 5)).alloc (Obj.cells #[Value.int IntKind.i64 (wrap64 (wrap64 (zl.snd + 2) - 2)), Value.int IntKind.i64 N, Value.int IntKind.i64 ↑m] 3)) := ⟨_, rfl⟩
 rw [← hW4]
 have hs4 : W4.heap.size = w.heap.size + 4 := by rw [hW4]; simp
 have hB4 : Below w.heap.size w W4 := by rw [hW4]; exact ((((Below.refl _ w).alloc (Nat.le_refl _) _).alloc (by simp) _).alloc (by simp <;> omega) _).alloc (by simp <;> omega) _
 have h4f : W4.heap[w.heap.size]? = some (.cells #[Value.int IntKind.i64 2, Value.int IntKind.i64 st, Value.int IntKind.i64 off, Value.int IntKind.i64 N, Value.int IntKind.i64 code, Value.bool fin, Value.slice A6 n6 c6, Value.slice (some ad) (m + 1) cap] 36 (0, 0)) := by rw [hW4]; exact (heap4 w _ _ _ _).1
 have h4l : W4.heap[w.heap.size + 1]? = some (.cells #[Value.int IntKind.i64 (wrap64 (zl.snd + 2))] 3 (0, 0)) := by rw [hW4]; exact (heap4 w _ _ _ _).2.1
 have h4a : W4.heap[w.heap.size + 1 + 1]? = some (.cells #[Value.int IntKind.u8 2] 5 (0, 0)) := by rw [hW4]; exact (heap4 w _ _ _ _).2.2.1
 have h4b : W4.heap[w.heap.size + 1 + 1 + 1]? = some (.cells #[Value.int IntKind.i64 (wrap64 (wrap64 (zl.snd + 2) - 2)), Value.int IntKind.i64 N, Value.int IntKind.i64 ↑m] 3 (0, 0)) := by rw [hW4]; exact (heap4 w _ _ _ _).2.2.2
 clear hW4
 refine ⟨trivial, (callsIn_wide.2 (put_calls 12 (Nat.le_refl _) [2] [wrap64 (wrap64 (zl.snd + 2) - 2), N, (m : Int)] (by simp) (by simp) W4 (heap_sl h4a rfl) (heap_sl h4b rfl))).mono ?_⟩
 rintro e w5 ⟨B, d, rfl, hb5, hO5⟩
 obtain ⟨b0, hb0⟩ : ∃ b0, [wrap64 (wrap64 (zl.snd + 2) - 2), N, (m : Int)].foldl putP [2] = b0 := ⟨_, rfl⟩
 rw [hb0] at hO5 ⊢
 have h5f := (hb5.block w.heap.size (by omega)).trans h4f
 have h5l := (hb5.block (w.heap.size + 1) (by omega)).trans h4l
 have hs5 : w.heap.size + 4 ≤ w5.heap.size := by rw [← hs4]; exact hb5.size
 have hB5 : Below w.heap.size w w5 := hB4.trans (hb5.mono (by omega))
 have hc7 : (w5.alloc (Obj.cells #[Value.slice B b0.length d] 23)).cell? ⟨w.heap.size, 7, none⟩ = some (.slice (some ad) (m + 1) cap) := by
  rw [World.cell?_alloc_past (w := w5) _ _ _ (by omega)]
  unfold World.cell?
  dsimp only
  rw [h5f]
  rfl
 gi_wp2_with fail
 refine ⟨trivial, (bw_in Fence.wide 5 trivial rfl _ _ _ _).mono ?_⟩
 rintro e w' ⟨rfl, rfl⟩
 gi_wp2_with fail
 have bN := Boxed.new (w5.alloc (Obj.cells #[Value.slice B b0.length d] 23)) 34 (.slice (some ad) (m + 1) cap)
 have hsz6 : (w5.alloc (Obj.cells #[Value.slice B b0.length d] 23)).heap.size = w5.heap.size + 1 := by simp
 rw [hsz6] at bN
 obtain ⟨fc, hfc⟩ : ∃ fc, fc = #[Value.int IntKind.i64 2, Value.int IntKind.i64 st, Value.int IntKind.i64 off, Value.int IntKind.i64 N, Value.int IntKind.i64 code, Value.bool fin, Value.slice A6 n6 c6, Value.slice (some ad) (m + 1) cap] := ⟨_, rfl⟩
 obtain ⟨W6, hW6⟩ : ∃ W6, W6 = (w5.alloc (Obj.cells #[Value.slice B b0.length d] 23)).alloc (Obj.cells #[Value.slice (some ad) (m + 1) cap] 34) := ⟨_, rfl⟩
 rw [← hW6] at bN ⊢
 have hs6 : W6.heap.size = w5.heap.size + 2 := by rw [hW6]; simp
 have hB56 : Below w5.heap.size w5 W6 := by rw [hW6]; exact ((Below.refl _ w5).alloc (Nat.le_refl _) _).alloc (by simp) _
 have hB6 : Below w.heap.size w W6 := hB5.trans (hB56.mono (by omega))
 have h6b : W6.heap[w5.heap.size]? = some (.cells #[.slice B b0.length d] 23 (0, 0)) := by
  rw [hW6]
  show ((w5.heap.push _).push _)[_]? = _
  rw [Array.getElem?_push, if_neg (by simp), Array.getElem?_push, if_pos rfl]
 have hI0 : AckI w w5.heap.size fc (accA b0 (wrap64 (zl.snd + 2)) m []) B d W6 := by
  refine ⟨h6b, (hB56.block _ (by omega)).trans h5l, by rw [hfc]; exact (hB56.block _ (by omega)).trans h5f, ?_, hB6⟩
  have h1 := hO5.down (base' := w.heap.size) (by omega)
  have g : Fine (fun b => b < W4.heap.size) w5 (fun b => b < W4.heap.size) W6 := ⟨hB56.os, hB56.tape, hB56.output, hB56.size, fun b hb _ => hB56.block b hb, fun b hb => Or.inl hb⟩
  have h2 := OwnF.later h1 g
  refine OwnF.vis h2 (fun b hb hk => ?_)
  have hfr := OwnF.fresh hO5 b hb
  have hlt := OwnF.lt hO5 b hb
  rcases hk with rfl | rfl <;> omega
 clear hW6
 have hcs : ∀ (j : Nat) x, zs[j]? = some x → W6.cell? (ad.add (j * 2)) = some (.int .i64 x.1) ∧ W6.cell? ⟨(ad.add (j * 2)).block, (ad.add (j * 2)).off + 1, none⟩ = some (.int .i64 x.2) := fun j x hx => by
  obtain ⟨c1, c2⟩ := sl_cells hS hx
  exact ⟨(hB6.cell (p := ad.add (j * 2)) (by rw [block_add]; exact hadb)).trans c1, (hB6.cell (p := ⟨(ad.add (j * 2)).block, (ad.add (j * 2)).off + 1, none⟩) (by dsimp only; rw [block_add]; exact hadb)).trans c2⟩
 refine wpIn_rangeFunc_ownH rfl (by omega) (gf := 59) (lb := #[.pointer (some ⟨w5.heap.size + 1, 0, none⟩)]) rfl trivial (enters_of Try.func59 (by kernel_rfl) rfl)
  (bw_stops Fence.wide 5 trivial rfl (by omega) (w5.heap.size + 1) w.heap.size ad cap zs hadb (by omega) W6 (by omega) (by omega) (by rw [hL]; exact bN.cell) hcs) KpB.trans (KpB.put (by omega) (by omega)) (Below.refl _ _) (fun _ => rfl)
  (fun pre W => (∃ A c, AckI w w5.heap.size fc (accA b0 (wrap64 (zl.snd + 2)) m pre) A c W) ∧ W6.heap.size ≤ W.heap.size) (fun _ _ _ => False)
  (fun s X Y row hs hg hr => by obtain ⟨⟨A, c, h⟩, h2⟩ := hs; exact ⟨⟨A, c, h.grown hg (fun r e => (hr r e).2) (fun r e => by have := (hr r e).1; omega)⟩, Nat.le_trans h2 hg.size⟩)
  (fun _ _ _ _ _ hs _ _ => hs)
  ⟨⟨B, d, hI0⟩, Nat.le_refl _⟩
  (fun x a' W => ∃ Bx, W6.heap.size ≤ Bx ∧ W.heap[Bx]? = some (.cells #[.int .i64 x.2.1, .int .i64 x.2.2] 42 (0, 0)) ∧ a' = { tmps := #[Value.agg #[Value.int IntKind.i64 2, Value.int IntKind.i64 st, Value.int IntKind.i64 off, Value.int IntKind.i64 N, Value.int IntKind.i64 code, Value.bool fin, Value.slice A6 n6 c6, Value.slice (some ad) (m + 1) cap], Value.pointer (some ⟨w.heap.size, 0, none⟩), Value.slice none 0 0, Value.pointer (some ⟨w.heap.size + 1, 0, none⟩), Value.pointer (some ⟨w5.heap.size, 0, none⟩), Value.int IntKind.i64 (x.1 : Int), Value.pointer (some ⟨Bx, 0, none⟩), undef, Value.pointer (some ⟨w.heap.size, 0, none⟩), Value.int IntKind.i64 2, Value.bool true, Value.bool true, Value.pointer (some ⟨w.heap.size, 7, none⟩), Value.slice (some ad) (m + 1) cap, Value.pointer (some ⟨w.heap.size, 7, none⟩), Value.slice (some ad) (m + 1) cap, Value.int IntKind.i64 ((m : Int) + 1), Value.int IntKind.i64 (m : Int), Value.pointer (some (ad.add (m * 2))), Value.pointer (some ⟨(ad.add (m * 2)).block, (ad.add (m * 2)).off + 1, none⟩), Value.int IntKind.i64 zl.snd, Value.int IntKind.i64 (wrap64 (zl.snd + 2)), Value.slice (some ⟨w.heap.size + 1 + 1, 0, none⟩) 1 1, Value.int IntKind.i64 (wrap64 (zl.snd + 2)), Value.int IntKind.i64 (wrap64 (wrap64 (zl.snd + 2) - 2)), Value.pointer (some ⟨w.heap.size, 3, none⟩), Value.int IntKind.i64 N, Value.pointer (some ⟨w.heap.size, 7, none⟩), Value.slice (some ad) (m + 1) cap, Value.int IntKind.i64 ((m : Int) + 1), Value.int IntKind.i64 (m : Int), Value.slice (some ⟨w.heap.size + 1 + 1 + 1, 0, none⟩) 3 3, Value.slice B b0.length d, Value.pointer (some ⟨w.heap.size, 7, none⟩), Value.slice (some ad) (m + 1) cap, Value.func (Fn.func 59) #[] #[Value.pointer (some ⟨w5.heap.size + 1, 0, none⟩)], Value.int IntKind.i64 (x.1 : Int), Value.agg #[Value.int IntKind.i64 x.2.1, Value.int IntKind.i64 x.2.2], undef, undef, undef, undef, undef, undef, undef, undef, undef, undef, undef, undef, undef, undef, undef, undef, undef, undef, undef, undef, undef, undef, undef, undef, undef, undef, undef, undef, undef, undef, undef, undef, undef, undef, undef, undef, undef, undef, undef, undef, undef, undef, undef, undef, undef, undef, undef, undef, undef, undef, undef, undef, undef, undef, undef, undef, undef, undef, undef, undef, undef, undef, undef, undef, undef, undef, undef, undef, undef, undef, undef, undef, undef, undef, undef, undef, undef, undef, undef, undef, undef, undef, undef, undef, undef, undef, undef, undef, undef, undef, undef, undef, undef, undef, undef, undef, undef, undef, undef, undef, undef, undef], defers := [] })
  (fun x a' _ X Y row hs hg hr => by obtain ⟨Bx, h1, h2, h3⟩ := hs; exact ⟨Bx, h1, heap_grown h2 hg (fun r e => (hr r e).2), h3⟩)
  ?assign ?body ?done ?stop
 case assign =>
  rintro l pre x W K ⟨⟨A, c, hi⟩, hsz⟩ hK
  gi_wp2
  refine hK _ _ ((KeepsOthers.alloc _ _).from _) ⟨(Below.refl _ W).alloc (by omega) _, Below.heap_alloc W _ _ (by omega)⟩ ⟨⟨A, c, hi.grown (World.grownBy_alloc W _ none) (fun r e => by cases e) (fun r e => by cases e)⟩, by simp; omega⟩ ⟨W.heap.size, hsz, ?_, rfl⟩
  exact Array.getElem?_push_size
 case body =>
  rintro l pre x a' W hl ⟨r, hr⟩ ⟨⟨A, c, hi⟩, hsz⟩ ⟨Bx, hBx, hcx, rfl⟩ hlt
  obtain ⟨s, hs⟩ : ∃ s, accA b0 (wrap64 (zl.snd + 2)) m pre = s := ⟨_, rfl⟩
  have hsl : s.1.length ≤ 100000 := by
   have h1 := accA_len b0 (wrap64 (zl.snd + 2)) m pre
   rw [hs] at h1
   have h2 : b0.length ≤ 1 + 24 := by
    rw [← hb0]
    have a1 := putP_len [2] (wrap64 (wrap64 (zl.snd + 2) - 2))
    have a2 := putP_len (putP [2] (wrap64 (wrap64 (zl.snd + 2) - 2))) N
    have a3 := putP_len (putP (putP [2] (wrap64 (wrap64 (zl.snd + 2) - 2))) N) (m : Int)
    simp only [List.foldl_cons, List.foldl_nil, List.length_cons, List.length_nil] at a1 a2 a3 ⊢
    omega
   omega
  have hstep : accA b0 (wrap64 (zl.snd + 2)) m (pre ++ [x]) = stepA m s x := by rw [accA_snoc, hs]
  rw [hs] at hi
  have cB := cell_of hi.hb 0 rfl
  have cL := cell_of hi.hl 0 rfl
  have c7 := cell_of hi.hf 7 (by rw [hfc]; rfl)
  have cX0 := cell_of hcx 0 rfl
  have cX1 := cell_of hcx 1 rfl
  have fB := frozen_of hi.hb 0
  have fL := frozen_of hi.hl 0
  have hT : AckT w.heap.size (w5.heap.size + 1) W W := ⟨KeepsOthers.refl W, KpB.refl _ _ _, Nat.le_refl _⟩
  by_cases hx : (x.1 : Int) < (m : Int)
  ·gi_wp2_with fail
   refine ⟨trivial, (CallsIn.inRound l (callsIn_wide.2 (put_calls 12 (Nat.le_refl _) s.1 [wrap64 (wrap64 (s.2 - 2) - x.2.2)] (by simp) (by simp only [List.length_cons, List.length_nil]; omega) _ ((SlR.below hi.hO.sl ((Below.refl _ _).alloc (Nat.le_refl _) _)).bare) (heap_sl (g := W.heap.size) (t := 3) Array.getElem?_push_size rfl)))).mono ?_⟩
   rintro e w7 ⟨B1, d1, rfl, hb7, hO7⟩
   obtain ⟨b1, hb1⟩ : ∃ b1, List.foldl putP s.1 [wrap64 (wrap64 (s.2 - 2) - x.2.2)] = b1 := ⟨_, rfl⟩
   rw [hb1] at hO7 ⊢
   have cB7 := cell_of (heap_call hb7 hi.hb) 0 rfl
   have fB7 := frozen_of (heap_call hb7 hi.hb) 0
   obtain ⟨W1, hW1⟩ : ∃ W1, w7.setCell ⟨w5.heap.size, 0, none⟩ (.slice B1 b1.length d1) = W1 := ⟨_, rfl⟩
   have hi1 : AckI w w5.heap.size fc (b1, s.2) B1 d1 W1 := hW1 ▸ hi.putb (by omega) hb7 hO7
   have hcx1 : W1.heap[Bx]? = _ := hW1 ▸ heap_set2 (heap_call hb7 hcx) (show Bx ≠ w5.heap.size by omega) _
   have hT1 : AckT w.heap.size (w5.heap.size + 1) W W1 := hW1 ▸ (hT.call (by omega) (by omega) hb7).set (by omega) (by omega) (by have := hb7.size; simp at this; omega) _
   obtain ⟨s1, hs1⟩ : ∃ s1, (b1, s.2) = s1 := ⟨_, rfl⟩
   have hz1 : W6.heap.size ≤ W1.heap.size := by have := hT1.2.2; omega
   have hl1' : s1.1.length ≤ 100100 := by
    have := putP_len s.1 (wrap64 (wrap64 (s.2 - 2) - x.2.2))
    rw [← hs1, ← hb1]
    simp only [List.foldl_cons, List.foldl_nil]
    omega
   rw [hs1] at hi1
   have cB1 := cell_of hi1.hb 0 rfl
   have fB1 := frozen_of hi1.hb 0
   have cX01 := cell_of hcx1 0 rfl
   have cX11 := cell_of hcx1 1 rfl
   gi_wp2_with fail
   refine ⟨trivial, (CallsIn.inRound l (callsIn_wide.2 (put_calls 12 (Nat.le_refl _) s1.1 [wrap64 (x.2.2 - x.2.1)] (by simp) (by simp only [List.length_cons, List.length_nil]; omega) _ ((SlR.below hi1.hO.sl ((Below.refl _ _).alloc (Nat.le_refl _) _)).bare) (heap_sl (g := W1.heap.size) (t := 3) Array.getElem?_push_size rfl)))).mono ?_⟩
   rintro e w8 ⟨B2, d2, rfl, hb8, hO8⟩
   obtain ⟨b2, hb2⟩ : ∃ b2, List.foldl putP s1.1 [wrap64 (x.2.2 - x.2.1)] = b2 := ⟨_, rfl⟩
   rw [hb2] at hO8 ⊢
   have hz8 : W1.heap.size + 1 ≤ w8.heap.size := by have := hb8.size; simp at this; omega
   have hi8 := hi1.putb (by omega) hb8 hO8
   have hT8 := hT1.call (by omega) (by omega) hb8
   have cB8 := cell_of (heap_call hb8 hi1.hb) 0 rfl
   have fB8 := frozen_of (heap_call hb8 hi1.hb) 0
   have hcx8 := heap_set2 (heap_call hb8 hcx1) (show Bx ≠ w5.heap.size by omega) (.slice B2 b2.length d2)
   have cX8 := cell_of hcx8 0 rfl
   have cL8 := cell_of hi8.hl 0 rfl
   have fL8 := frozen_of hi8.hl 0
   gi_wp2_with fail
   have hT9 := hT8.set (g := w5.heap.size) (by omega) (by omega) (by omega) (.slice B2 b2.length d2)
   have hz9 : w8.heap.size ≤ (w8.setCell ⟨w5.heap.size, 0, none⟩ (.slice B2 b2.length d2)).heap.size := (grownBy_setCell' w8 _ _).size
   have hT10 := hT9.set (g := w.heap.size + 1) (by omega) (by omega) (by omega) (.int .i64 x.2.1)
   have hi10 := hi8.low (by omega) x.2.1
   refine ⟨hT10.1.from _, hT10.2.1, ⟨⟨B2, d2, ?_⟩, ?_⟩⟩
   ·have e : accA b0 (wrap64 (zl.snd + 2)) m (pre ++ [x]) = (b2, x.2.1) := by
     rw [hstep, ← hb2]
     unfold stepA
     rw [decide_eq_true hx, ← hs1, ← hb1]; rfl
    rw [e]
    exact hi10
   ·have := hT10.2.2
    omega
  ·obtain ⟨s1, hs1⟩ : ∃ s1, s = s1 := ⟨_, rfl⟩
   have hl1' : s1.1.length ≤ 100100 := by rw [← hs1]; omega
   rw [hs1] at hi
   have cB := cell_of hi.hb 0 rfl
   have fB := frozen_of hi.hb 0
   have cX0 := cell_of hcx 0 rfl
   have cX1 := cell_of hcx 1 rfl
   gi_wp2_with fail
   refine ⟨trivial, (CallsIn.inRound l (callsIn_wide.2 (put_calls 12 (Nat.le_refl _) s1.1 [wrap64 (x.2.2 - x.2.1)] (by simp) (by simp only [List.length_cons, List.length_nil]; omega) _ ((SlR.below hi.hO.sl ((Below.refl _ _).alloc (Nat.le_refl _) _)).bare) (heap_sl (g := W.heap.size) (t := 3) Array.getElem?_push_size rfl)))).mono ?_⟩
   rintro e w8 ⟨B2, d2, rfl, hb8, hO8⟩
   obtain ⟨b2, hb2⟩ : ∃ b2, List.foldl putP s1.1 [wrap64 (x.2.2 - x.2.1)] = b2 := ⟨_, rfl⟩
   rw [hb2] at hO8 ⊢
   have hz8 : W.heap.size + 1 ≤ w8.heap.size := by have := hb8.size; simp at this; omega
   have hi8 := hi.putb (by omega) hb8 hO8
   have hT8 := hT.call (by omega) (by omega) hb8
   have cB8 := cell_of (heap_call hb8 hi.hb) 0 rfl
   have fB8 := frozen_of (heap_call hb8 hi.hb) 0
   have hcx8 := heap_set2 (heap_call hb8 hcx) (show Bx ≠ w5.heap.size by omega) (.slice B2 b2.length d2)
   have cX8 := cell_of hcx8 0 rfl
   have cL8 := cell_of hi8.hl 0 rfl
   have fL8 := frozen_of hi8.hl 0
   gi_wp2_with fail
   have hT9 := hT8.set (g := w5.heap.size) (by omega) (by omega) (by omega) (.slice B2 b2.length d2)
   have hz9 : w8.heap.size ≤ (w8.setCell ⟨w5.heap.size, 0, none⟩ (.slice B2 b2.length d2)).heap.size := (grownBy_setCell' w8 _ _).size
   have hT10 := hT9.set (g := w.heap.size + 1) (by omega) (by omega) (by omega) (.int .i64 x.2.1)
   have hi10 := hi8.low (by omega) x.2.1
   refine ⟨hT10.1.from _, hT10.2.1, ⟨⟨B2, d2, ?_⟩, ?_⟩⟩
   ·have e : accA b0 (wrap64 (zl.snd + 2)) m (pre ++ [x]) = (b2, x.2.1) := by
     rw [hstep, ← hb2]
     unfold stepA
     rw [decide_eq_false (by omega : ¬ (x.1 : Int) < (m : Int)), hs1]; rfl
    rw [e]
    exact hi10
   ·have := hT10.2.2
    omega
 case done =>
  rintro D ys W hD rfl ⟨⟨A, c, hi⟩, hsz⟩ hK
  have cB : W.cell? ⟨w5.heap.size, 0, none⟩ = some (.slice A (accA b0 (wrap64 (zl.snd + 2)) m (bk zs zs.length)).1.length c) := by
   unfold World.cell?
   dsimp only
   rw [hi.hb]
   rfl
  gi_wp2
  have hK' : W.heap[D]? = some (.deferred (some [])) := hK
  refine ⟨by simp, .inl ⟨_, _, rfl, run_takeDeferred hK', ?_⟩⟩
  have hE : (accA b0 (wrap64 (zl.snd + 2)) m (bk zs (m + 1))).1 = ackB N zs := by
   unfold ackB
   rw [hL, show m + 1 - 1 = m from rfl, hzl, ← hb0]
   rfl
  rw [hL] at hi
  have hiO := hi.hO
  rw [hE] at hiO
  refine ⟨_, results_tmp rfl _ _ _, A, c, by rw [hE]; rfl, hi.hB.trans (belowK_b (w := W6) (by omega) W D _ _ hD hK' rfl rfl), OwnF.ret (OwnF.grown hiO (grownBy_putObj' W D _) (fun r e => by cases e; exact ⟨_, hK', rfl⟩))⟩
 case stop =>
  rintro D c pre W _ _ h _
  exact h.elim
end Go.Proofs.Ytpdchohbmmfemaa.X
