import Derived.Test.YtcbpgbfbffnogaaGreatzEy1
namespace Go.Proofs.YtcbpgbfbffnogaaGreatW.Ex
open Go Go.RowKit Go.Proofs.YtcbpgbfbffnogaaGreatW.Rx
set_option linter.unusedVariables false
set_option linter.unusedSimpArgs false
theorem bif_some {α : Type} {c : Bool} {a b : α} (h : (bif c then some a else none) = some b) : c = true ∧ a = b := by
 cases c
 ·cases h
 ·exact ⟨rfl, Option.some.inj h⟩
theorem map_some' {α σ : Type} {x : Option α} {s s' : σ} {e : α} (h : x.map (s, ·) = some (s', e)) : s = s' ∧ x = some e := by
 obtain ⟨y, hy, he⟩ := Option.map_eq_some_iff.1 h
 cases he
 exact ⟨rfl, hy⟩
theorem blt_lt {a b : Nat} (h : Nat.blt a b = true) : a < b := Nat.le_of_ble_eq_true h
theorem beq_e {a b : Nat} (h : Nat.beq a b = true) : a = b := Nat.eq_of_beq_eq_true h
theorem ble_e {a b : Nat} (h : Nat.ble a b = true) : a ≤ b := Nat.le_of_ble_eq_true h
theorem oneAll_e {l : List Value} (h : oneAll l = true) : ∀ u ∈ l, u.oneCell' = true := List.all_eq_true.1 h
theorem chunk_len {α : Type} (sz : Nat) : ∀ (n : Nat) (l : List α), (chunk sz n l).length = n
 | 0, _ => rfl
 | n + 1, l => by simp [chunk, chunk_len sz n]
theorem chunk_flat {α : Type} (sz : Nat) : ∀ (n : Nat) (l : List α), l.length = n * sz → (chunk sz n l).flatten = l
 | 0, l, h => by
  rw [Nat.zero_mul] at h
  rw [List.eq_nil_of_length_eq_zero h]; rfl
 | n + 1, l, h => by
  rw [Nat.succ_mul] at h
  rw [chunk, List.flatten_cons, chunk_flat sz n _ (by rw [List.length_drop]; omega), List.take_append_drop]
theorem chunk_row (sz : Nat) : ∀ (n : Nat) (l : List Value), l.length = n * sz → (∀ u ∈ l, u.oneCell' = true) → ∀ r ∈ chunk sz n l, r.length = sz ∧ ∀ u ∈ r, u.oneCell' = true
 | 0, l, _, _, r, hr => by cases hr
 | n + 1, l, h, h1, r, hr => by
  rw [Nat.succ_mul] at h
  rw [chunk] at hr
  rcases List.mem_cons.1 hr with rfl | hr
  ·exact ⟨by rw [List.length_take]; omega, fun u hu => h1 u (List.mem_of_mem_take hu)⟩
  ·exact chunk_row sz n _ (by rw [List.length_drop]; omega) (fun u hu => h1 u (List.mem_of_mem_drop hu)) r hr
theorem made_flat (z : Array Value) : ∀ n, (madeCells z (n * z.size)).toList = (List.replicate n z.toList).flatten
 | 0 => by simp [madeCells]
 | n + 1 => by
  rw [List.replicate_succ, List.flatten_cons, ← made_flat z n]
  unfold madeCells
  rw [Nat.succ_mul, Nat.add_comm]
  apply List.ext_getElem
  ·simp
  ·intro i h1 h2
   simp only [Array.getElem_toList, Array.getElem_map, Array.getElem_range]
   rw [List.getElem_append]
   split
   ·rename_i hl
    have hl' : i < z.size := by simpa using hl
    rw [Nat.mod_eq_of_lt hl']
    simp [hl']
   ·rename_i hl
    have hl' : z.size ≤ i := by simpa using hl
    simp only [Array.getElem_toList, Array.getElem_map, Array.getElem_range, Array.length_toList]
    rw [← Nat.mod_eq_sub_mod hl']
def SRes.ls : SRes → List Lf
 | .ptr => [.p]
 | .sl _ => [.sl]
 | .mp => [.m]
 | .int _ => [.i .i64]
 | .str _ => [.s]
 | .unit => []
 | .same _ _ _ => [.sl]
def SRes.tup (m : Nm) (id : Nat) : (r : SRes) → Tup r.ls
 | .ptr => (some ⟨m.r id, m.o id, none⟩, ())
 | .sl n => ((some ⟨m.r id, m.o id, none⟩, n, m.c id + n), ())
 | .mp => (some (m.r id), ())
 | .int n => ((n : Nat), ())
 | .str x => (x, ())
 | .unit => ()
 | .same a n c => ((a, n, c), ())
def SRes.sh : SRes → Sh
 | .unit => .tup []
 | _ => .one
theorem SRes.vals_eq (m : Nm) (id : Nat) (r : SRes) : r.vals m id = vs r.ls (r.tup m id) := by cases r <;> rfl
theorem unLf_V {l l' : Lf} {y : l'.T} {a : l.T} (h : unLf l (.v (l'.V y)) = some a) : l = l' := by
 cases l' <;> cases l <;> simp only [Lf.V, unLf] at h
 all_goals first
  | rfl
  | (cases h; done)
  | skip
 rename_i k k'
 split at h
 ·rename_i e; first | rw [e] | (cases e; rfl)
 ·cases h
theorem unTup_ls : ∀ {ls ls' : List Lf} {y : Tup ls'} {x : Tup ls}, unTup ls (vs ls' y) = some x → ls = ls'
 | [], [], _, _, _ => rfl
 | l :: r, l' :: r', y, x, h => by
  simp only [vs, Tup.V, List.map_cons, unTup] at h
  split at h
  ·rename_i a b h1 h2
   rw [unLf_V h1, unTup_ls (y := y.2) h2]
  ·cases h
 | [], _ :: _, _, _, h => by cases h
 | _ :: _, [], _, _, h => by cases h
section
variable {P : Program} {R : Ending → World → Prop} {pin : List (Nat × Nat)} {J : Jt} {Lu : Nat → Prop} {wu : World} {m : Nm} {h : AH} {e : SEff}
theorem sem_of {o : SOp} {s : Sem Value} {ls : List Lf} {sh : Sh} {k : Tup ls → XT} (e : o.sem = s) (h : (XT.sem (.other s) ls sh k).ok P pin R J Lu wu) : (XT.sem o ls sh k).ok P pin R J Lu wu := by
 subst e; exact h
theorem elem_of {t el : TypeId} {i : TypeInfo} {z : Value} (h : elemOf P t = some (el, i, z)) : (∃ hp : 0 < i.size, True) ∧ Elem P t el i.size i.bytes ∧ P.underlying t = some (.slice el) ∧ P.info? el = some i ∧ i.zero = some z ∧ z.cells.size = i.size ∧ (∀ u ∈ z.cells.toList, u.oneCell' = true) ∧ 0 < i.bytes := by
 unfold elemOf at h
 split at h
 ·rename_i e' hu
  split at h
  ·rename_i i' hi
   split at h
   ·rename_i z' hz
    obtain ⟨hc, he⟩ := bif_some h
    cases he
    simp only [Bool.and_eq_true] at hc
    obtain ⟨⟨⟨h1, h2⟩, h3⟩, h4⟩ := hc
    exact ⟨⟨blt_lt h2, trivial⟩, ⟨hu, _, _, hi, hz, rfl, rfl, beq_e h1⟩, hu, hi, hz, beq_e h1, oneAll_e h3, blt_lt h4⟩
   ·cases h
  ·cases h
 ·cases h
theorem own_name {base el sz cap : Nat} {hp : 0 < sz} {A : Option Addr} {xs : List (RV sz)} {L : Nat → Prop} {w : World} (ho : OwnO base L w el (RN sz hp) A cap xs) (hA : A.isSome = true ∨ 0 < xs.length) : ∃ g o, A = some ⟨g, o, none⟩ ∧ cap - xs.length + xs.length = cap ∧ (g < w.heap.size ∧ ¬ L g) ∧ ObAt L w g o (cap - xs.length) (.blk el sz (xs.map (·.1))) := by
 rcases ho with ⟨rfl, _, rfl⟩ | ⟨g, o, cur, rfl, k2, k3, k5, k6, k7, k8, k9⟩
 ·rcases hA with h | h <;> cases h
 ·refine ⟨g, o, rfl, by omega, k3, hp, xs, rfl, Or.inr ⟨g, o, cur, rfl, Nat.zero_le _, k3, k5, ?_, ?_, ?_, k9⟩⟩
  ·rw [List.length_map]; omega
  ·rw [List.length_map]; omega
  ·rw [List.length_map, Nat.sub_add_cancel k6]; exact k8
theorem tup_ptr (m : Nm) (id b o c : Nat) : SRes.tup (m.set id b o c) id .ptr = (some ⟨b, o, none⟩, ()) := by
 simp [SRes.tup, Nm.set]
 rfl
theorem tup_sl (m : Nm) (id b o c n : Nat) : SRes.tup (m.set id b o c) id (.sl n) = ((some ⟨b, o, none⟩, n, c + n), ()) := by
 simp [SRes.tup, Nm.set]
 rfl
theorem tup_mp (m : Nm) (id b o c : Nat) : SRes.tup (m.set id b o c) id .mp = (some b, ()) := by
 simp [SRes.tup, Nm.set]
 rfl
theorem read_sl (hst : St m h Lu wu) {i off sz n : Nat} (hp : 0 < sz) {ys : List (List Value)} (hr : readSl h i off sz n = some ys) (hn : n ≤ 9223372036854775807) : ∃ xs : List (RV sz), xs.map (·.1) = ys ∧ xs.length = n ∧ SlR (RN sz hp).row Lu wu (some (m.at i off)) n xs ∧ ∃ o, h[i]? = some o ∧ o ≠ .dead := by
 unfold readSl at hr
 split at hr
 ·rename_i sz' rows hg
  obtain ⟨h1, h2, _, h4⟩ := hst.read hg
  obtain ⟨hc, rfl⟩ := bif_some hr
  have hc := beq_e hc
  have hone : ∀ u ∈ (rows.flatten.drop off).take (n * sz), u.oneCell' = true := fun u hu => h2 u (List.mem_of_mem_drop (List.mem_of_mem_take hu))
  obtain ⟨xs, hx⟩ := to_rv sz _ (chunk_row sz n _ hc hone)
  have hl : xs.length = n := by have := congrArg List.length hx; rwa [List.length_map, chunk_len] at this
  refine ⟨xs, hx, hl, ⟨⟨(rows.flatten.drop off).take (n * sz), fun j u hu => ?_, reps_flat.2 ?_⟩, by omega, by omega⟩, h4⟩
  ·rw [List.getElem?_take] at hu
   split at hu
   ·rw [List.getElem?_drop] at hu
    obtain ⟨ad, e1, hc1, hv⟩ := h1 _ u hu
    cases e1
    refine ⟨_, rfl, ?_, hv⟩
    have ea : (m.at i off).add j = (m.at i 0).add (off + j) := by
     unfold Nm.at Addr.add
     by_cases h0 : j = 0
     ·subst h0
      by_cases h1 : off = 0
      ·subst h1; simp
      ·simp [h1]
     ·rw [if_neg h0, if_neg (by omega)]
      simp; omega
    rw [ea]; exact hc1
   ·cases hu
  ·rw [rv_flat, hx, chunk_flat sz n _ hc]
 ·cases hr
theorem box_ok {t : TypeId} {v : Value} (hs : boxX h t v = some e) (hst : St m h Lu wu) {k : Tup e.res.ls → XT} (hk : ∀ m2 L w, Mv m h Lu wu m2 (e.h ++ e.new.toList) L w → (k (e.res.tup m2 h.length)).ok P pin R J L w) : (XT.sem (.other (Instr.box t v)) e.res.ls e.res.sh k).ok P pin R J Lu wu := by
 obtain ⟨hc, rfl⟩ := bif_some hs
 simp only [Bool.and_eq_true] at hc
 have hp := blt_lt hc.2
 refine ok_boxW (R := RN v.cells.size hp) (x := ⟨v.cells.toList, by simp, oneAll_e hc.1⟩) rfl (fun a L w ho hF hlt hb => ?_)
 obtain ⟨g, o, rfl, h1, h2, h3⟩ := own_name ho (Or.inr Nat.one_pos)
 have := hk _ L w (hst.new hF g o _ _ (hb g ⟨_, rfl, rfl⟩) h2 h3)
 rw [tup_ptr] at this
 exact this
theorem lit_ok {t : TypeId} {n : Nat} {parts : Array (Nat × Value)} (hs : litX P h t n parts = some e) (hst : St m h Lu wu) {k : Tup e.res.ls → XT} (hk : ∀ m2 L w, Mv m h Lu wu m2 (e.h ++ e.new.toList) L w → (k (e.res.tup m2 h.length)).ok P pin R J L w) : (XT.sem (.other (Instr.buildSlice t n parts)) e.res.ls e.res.sh k).ok P pin R J Lu wu := by
 unfold litX at hs
 split at hs
 ·rename_i el i z hel
  obtain ⟨⟨hp, _⟩, hE, hu, hi, hz, hzs, hz1, hby⟩ := elem_of hel
  split at hs
  ·obtain ⟨hc, rfl⟩ := bif_some hs
   have hpt : parts = #[] := by
    have := List.isEmpty_iff.1 hc
    exact Array.toList_inj.1 this
   subst hpt
   refine ok_semm (fun L w hF hlt => ⟨((some ⟨w.heap.size, 0, none⟩, 0, 0), ()), w.alloc (.cells #[] el), ?_, keeps_below hlt ((Below.refl w.heap.size w).alloc (Nat.le_refl _) _), ?_⟩)
   ·have hr : (Instr.buildSlice t 0 #[]).run P w = .ok (.slice (some ⟨w.heap.size, 0, none⟩) 0 0) (w.alloc (.cells #[] el)) := by
     simp [Instr.buildSlice, run_underlying hu, sizeOf, typeInfo, zeroValue, hi, hz, Instr.fill, newRow]
     have : (Array.range 0) = #[] := by decide
     rw [this, Array.map_empty]
    exact hr
   ·have hG : Fine Lu wu L (w.alloc (.cells #[] el)) := hF.step ((Below.refl w.heap.size w).alloc (Nat.le_refl _) _)
    have := hk _ L _ (hst.new hG w.heap.size 0 0 (.blk el i.size []) hF.size ⟨by simp, fun hl => Nat.lt_irrefl _ (hlt _ hl)⟩ ⟨hp, [], rfl, Or.inr ⟨w.heap.size, 0, #[], rfl, Nat.zero_le _, ⟨by simp, fun hl => Nat.lt_irrefl _ (hlt _ hl)⟩, Array.getElem?_push_size, Nat.le_refl _, by simp [maxLen], by simp, by simp⟩⟩)
    rw [tup_sl] at this
    exact this
  ·split at hs
   ·rename_i cells hfill
    obtain ⟨hc, rfl⟩ := bif_some hs
    simp only [Bool.and_eq_true] at hc
    obtain ⟨⟨⟨h1, h2⟩, h3⟩, h4⟩ := hc
    have hcl : cells.toList.length = n * i.size := by rw [Array.length_toList]; exact beq_e h3
    obtain ⟨xs, hx⟩ := to_rv i.size _ (chunk_row i.size n _ hcl (oneAll_e h4))
    have hl : xs.length = n := by have := congrArg List.length hx; rwa [List.length_map, chunk_len] at this
    have hn0 := blt_lt h1
    refine ok_lit (R := RN i.size hp) (xs := xs) (base := 0) cells hE hl (by have := ble_e h2; simpa using this) hn0 ⟨i, z, hi, hz, hfill⟩ (by rw [rv_flat, hx, chunk_flat i.size n _ hcl]) (Nat.zero_le _) (fun A c L w ho hF hb => ?_)
    obtain ⟨g, o, rfl, g1, g2, g3⟩ := own_name ho.off (Or.inr (by omega))
    rw [hx] at g3
    have := hk _ L w (hst.new hF g o _ _ (hb g ⟨_, rfl, rfl⟩) g2 g3)
    rw [tup_sl] at this
    rw [← hl] at this
    rw [g1] at this
    exact this
   ·cases hs
 ·cases hs
end
end Go.Proofs.YtcbpgbfbffnogaaGreatW.Ex
