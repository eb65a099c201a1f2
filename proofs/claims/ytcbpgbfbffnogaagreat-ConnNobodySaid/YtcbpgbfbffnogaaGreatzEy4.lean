import Derived.Test.YtcbpgbfbffnogaaGreatzEy3
namespace Go.Proofs.YtcbpgbfbffnogaaGreatW.Ex
open Go Go.RowKit Go.Proofs.YtcbpgbfbffnogaaGreatW.Rx
set_option linter.unusedVariables false
set_option linter.unusedSimpArgs false
def setB (w : World) (bm : Nat) (o : Obj) : World := { w with heap := w.heap.setIfInBounds bm o }
section
variable {P : Program} {R : Ending → World → Prop} {pin : List (Nat × Nat)} {J : Jt} {Lu : Nat → Prop} {wu : World} {m : Nm} {h : AH} {e : SEff}
theorem setB_at {w : World} {bm : Nat} {o : Obj} (h : bm < w.heap.size) : (setB w bm o).heap[bm]? = some o := by
 show (w.heap.setIfInBounds bm o)[bm]? = _
 simp [h]
theorem setB_other {w : World} {bm b : Nat} {o : Obj} (h : b ≠ bm) : (setB w bm o).heap[b]? = w.heap[b]? := by
 show (w.heap.setIfInBounds bm o)[b]? = _
 simp [Array.getElem?_setIfInBounds, Ne.symm h]
theorem setB_size {w : World} {bm : Nat} {o : Obj} : (setB w bm o).heap.size = w.heap.size := by
 show (w.heap.setIfInBounds bm o).size = _
 simp
theorem get_map {w : World} {bm clock : Nat} {es : Array MapEntry} (h : w.heap[bm]? = some (.map es clock)) : (getObj bm).run P w = .ok (.map es clock) w := by
 simp only [getObj, Sem.run, h]
theorem set_map {w : World} {bm clock clock' : Nat} {es es' : Array MapEntry} (h : w.heap[bm]? = some (.map es clock)) : (setObj bm (.map es' clock')).run P w = .ok () (setB w bm (.map es' clock')) := by
 simp only [setObj, Sem.run, h]
 rfl
theorem run_check {k : TypeId} (b : Bool) (hk : P.underlying k = some (.int .i64)) (n : Int) (w : World) : (Instr.checkKey b 10000 k (.int .i64 n)).run P w = .ok () w := by
 have : ∀ d, (Instr.checkKey b (d + 1) k (.int .i64 n)).run P w = .ok () w := fun d => by simp [Instr.checkKey, run_underlying hk]
 exact this 9999
theorem mapT_of {t : TypeId} (h : isMapT P t = true) : ∃ k el, P.underlying t = some (.map k el) ∧ P.underlying k = some (.int .i64) := by
 unfold isMapT at h
 split at h
 ·rename_i k el hu
  split at h
  ·rename_i hk; exact ⟨k, el, hu, hk⟩
  ·cases h
 ·cases h
theorem mmk_ok {t : TypeId} (hst : St m h Lu wu) {k : Tup [Lf.m] → XT} (hk : ∀ m2 L w, Mv m h Lu wu m2 (h ++ [.map 0]) L w → (k (SRes.mp.tup m2 h.length)).ok P pin R J L w) : (XT.sem (.other (Instr.makeMap t none)) [Lf.m] .one k).ok P pin R J Lu wu := by
 refine ok_semm (fun L w hF hlt => ?_)
 have hb : Below w.heap.size w (w.alloc (.map #[] 0)) := (Below.refl _ w).alloc (Nat.le_refl _) _
 refine ⟨(some w.heap.size, ()), w.alloc (.map #[] 0), rfl, keeps_below hlt hb, ?_⟩
 have := hk _ L _ (hst.new (hF.step hb) w.heap.size 0 0 (.map 0) hF.size ⟨by simp, fun hl => Nat.lt_irrefl _ (hlt _ hl)⟩ ⟨#[], 0, heap_alloc_new w _, rfl⟩)
 rw [tup_mp] at this
 exact this
theorem mlen_ok {t ty : TypeId} {q : Option Nat} {i : Nat} (ht : isMapT P t = true) (hs : mlenX h q i = some e) (hst : St m h Lu wu) (how : ∀ x ∈ e.owe, x.ok m) {k : Tup e.res.ls → XT} (hk : ∀ m2 L w, Mv m h Lu wu m2 (e.h ++ e.new.toList) L w → (k (e.res.tup m2 h.length)).ok P pin R J L w) : (XT.sem (.other (Builtin.len_ #[t] ty #[.map q])) e.res.ls e.res.sh k).ok P pin R J Lu wu := by
 obtain ⟨kt, el, hu, _⟩ := mapT_of ht
 unfold mlenX at hs
 split at hs
 ·rename_i n hi
  cases hs
  have hq : q = some (m.r i) := how (.map q i) (by simp)
  subst hq
  refine ok_semm (fun L w hF hlt => ?_)
  have hst2 := hst.later hF
  obtain ⟨es, clock, hm, hn⟩ := hst2.holds i _ hi
  refine ⟨((n : Nat), ()), w, ?_, keeps_below hlt (Below.refl _ _), ?_⟩
  ·have : (Builtin.len_ #[t] ty #[.map (some (m.r i))]).run P w = .ok (.int .i64 (es.size : Nat)) w := by
    simp [Builtin.len_, run_underlying hu, Sem.run_bind, get_map hm, Result.andThen, goInt]
   rw [hn] at this
   exact this
  ·exact hk m L w (by show Mv m h Lu wu m (h ++ []) L w; rw [List.append_nil]; exact hst.stay hF)
 ·cases hs
theorem mset_ok {t : TypeId} {q : Option Nat} {i : Nat} {n : Int} {x : Value} (ht : isMapT P t = true) (hs : msetX h q i = some e) (hst : St m h Lu wu) (how : ∀ x ∈ e.owe, x.ok m) {k : Tup e.res.ls → XT} (hk : ∀ m2 L w, Mv m h Lu wu m2 (e.h ++ e.new.toList) L w → (k (e.res.tup m2 h.length)).ok P pin R J L w) : (XT.sem (.other (updSem t (.map q) (.int .i64 n) x)) e.res.ls e.res.sh k).ok P pin R J Lu wu := by
 obtain ⟨kt, el, hu, hkt⟩ := mapT_of ht
 unfold msetX at hs
 split at hs
 ·rename_i hi
  cases hs
  have hq : q = some (m.r i) := how (.map q i) (by simp)
  subst hq
  refine ok_semm (fun L w hF hlt => ?_)
  have hst2 := hst.later hF
  obtain ⟨es, clock, hm, hn⟩ := hst2.holds i _ hi
  have hv := hst2.vis i (List.getElem?_eq_some_iff.1 hi).1
  have he : es = #[] := Array.eq_empty_of_size_eq_zero hn
  subst he
  have hF2 : Fine (fun c => Lu c ∨ c = m.r i) wu L (setB w (m.r i) (.map (#[].push { key := .int .i64 n, val := x, born := clock }) (clock + 1))) := by
   refine ⟨hF.os, hF.tape, hF.output, by rw [setB_size]; exact hF.size, fun c hc hn => ?_, fun c hc => (hF.hid c hc).imp Or.inl id⟩
   rw [setB_other (fun e => hn (Or.inr e))]
   exact hF.keep c hc (fun h => hn (Or.inl h))
  refine ⟨(), setB w (m.r i) (.map (#[].push { key := .int .i64 n, val := x, born := clock }) (clock + 1)), ?_, ⟨by rw [setB_size]; exact Nat.le_refl _, ⟨rfl, rfl, rfl⟩, fun c hb _ => setB_other (fun e => hv.2 (e ▸ hb))⟩, ?_⟩
  ·have hfk : (Instr.findKey kt (.int .i64 n) []).run P w = .ok none w := by simp [Instr.findKey, run_underlying hkt, Instr.findNow]
   have : (updSem t (.map (some (m.r i))) (.int .i64 n) x).run P w = .ok (.tuple #[]) (setB w (m.r i) (.map (#[].push { key := .int .i64 n, val := x, born := clock }) (clock + 1))) := by
    simp [updSem, Instr.mapUpdate, run_underlying hu, Sem.run_bind, get_map hm, run_check _ hkt, hfk, set_map hm, Result.andThen]
   exact this
  ·exact hk m L _ (by
    show Mv m h Lu wu m (h.set i (.map 1) ++ []) L _
    rw [List.append_nil]
    exact hst.put hi (by simp) (B := fun c => c = m.r i) (fun b hb => hb) hF2 hF.hid (Or.inr ⟨_, _, setB_at hv.1, rfl⟩))
 ·cases hs
theorem isByte_of {t : TypeId} (h : isByteT P t = true) : P.underlying t = some (.int .u8) := by
 unfold isByteT at h
 split at h
 ·assumption
 ·cases h
theorem isStr_of {t : TypeId} (h : isStrT P t = true) : P.underlying t = some .string := by
 unfold isStrT at h
 split at h
 ·assumption
 ·cases h
theorem nums_of : ∀ {ys : List (List Value)} {l : List Int}, numsRow ys = some l → ys = l.map fun n => [Value.int .u8 n]
 | [], l, h => by cases h; rfl
 | [.int .u8 n] :: r, l, h => by
  simp only [numsRow, Option.map_eq_some_iff] at h
  obtain ⟨l', h1, rfl⟩ := h
  rw [nums_of h1]; rfl
 | x :: r, l, h => by
  unfold numsRow at h
  split at h
  ·rename_i h1; cases h1
  ·rename_i n r' h1
   cases h1
   obtain ⟨l', h1, rfl⟩ := Option.map_eq_some_iff.1 h
   rw [nums_of h1]; rfl
  ·cases h
theorem okStr {R' : FRow Int} {t ts e : TypeId} {A : Option Addr} {n c c' : Nat} {l : List Int} {k : Tup [Lf.s] → XT} (hR : ∀ x, R'.enc x = [.int .u8 x]) (hs : P.underlying t = some (.slice e)) (he : P.underlying e = some (.int .u8)) (hd : P.underlying ts = some .string) (hn : n = l.length) (h : SlR R'.row Lu wu A c' l)
  (hk : ∀ L w, Fine Lu wu L w → (k (strOfNums l, ())).ok P pin R J L w) : (XT.sem (convert t ts (.slice A n c)) [Lf.s] Sh.one k).ok P pin R J Lu wu := by
 subst hn
 refine ok_semm (fun L w hF hlt => ⟨(strOfNums l, ()), w, ?_, ⟨Nat.le_refl _, ⟨rfl, rfl, rfl⟩, fun _ _ _ => rfl⟩, hk L w hF⟩)
 obtain ⟨⟨cs, h1, h2⟩, h3, h4⟩ := h.later hF
 have h2 := reps_flat.1 h2
 have hR1 : R'.n = 1 := by have := R'.len 0; rw [hR] at this; exact this.symm
 refine Go.Proofs.YtcbpgbfbffnogaaGreatW.PrintWords.string_of_reads hs he hd ⟨rfl, h4, fun hpos => ?_⟩
 have key : ∀ j (hj : j < l.length), cs[j]? = some (.int .u8 (l.getD j 0)) := fun j hj => by
  obtain ⟨a, ha, hi⟩ := (reps_flat (L := fun _ => False) (w := w) (R := R')).2 h2 |>.get (List.getElem?_eq_getElem hj)
  have ha : a = R'.enc l[j] := ha
  have := hi 0 (.int .u8 l[j]) (by rw [ha, hR]; rfl)
  rw [show R'.row.n = R'.n from rfl, hR1, Nat.mul_one, Nat.add_zero] at this
  rw [this, List.getD_eq_getElem?_getD, List.getElem?_eq_getElem hj]; rfl
 obtain ⟨ad, e0, _⟩ := h1 0 _ (key 0 hpos)
 refine ⟨ad, e0, fun j hj => ?_⟩
 obtain ⟨ad', e1, hc, _⟩ := h1 j _ (key j hj)
 rw [e0] at e1
 cases e1
 exact hc
theorem b2s_ok {t ts : TypeId} {p : Option Addr} {n c j off : Nat} (hts : isStrT P ts = true) (hs : b2sX P h t p n j off = some e) (hst : St m h Lu wu) (how : ∀ x ∈ e.owe, x.ok m) (hn : n ≤ 9223372036854775807) {k : Tup e.res.ls → XT} (hk : ∀ m2 L w, Mv m h Lu wu m2 (e.h ++ e.new.toList) L w → (k (e.res.tup m2 h.length)).ok P pin R J L w) : (XT.sem (.other (convert t ts (.slice p n c))) e.res.ls e.res.sh k).ok P pin R J Lu wu := by
 unfold b2sX at hs
 split at hs
 ·rename_i el i z ys hel hys
  obtain ⟨⟨hp, _⟩, hE, hu, hi, hz, hzs, hz1, hby⟩ := elem_of hel
  split at hs
  ·rename_i l hl
   obtain ⟨hc, rfl⟩ := bif_some hs
   have hpp : p = some (m.at j off) := how (.at p j off) (by simp)
   subst hpp
   obtain ⟨xs, hx, hxl, ⟨⟨cs, h1, h2⟩, h3⟩, _⟩ := read_sl hst Nat.one_pos hys hn
   have h2 := reps_flat.1 h2
   have hll : l.length = n := by
    have := congrArg List.length (hx.trans (nums_of hl))
    rw [List.length_map, List.length_map] at this
    omega
   refine okStr (R' := iRow .u8) (c' := n) (fun _ => rfl) hu (isByte_of hc) (isStr_of hts) hll.symm ⟨⟨cs, h1, reps_flat.2 ?_⟩, by omega, by omega⟩ (fun L w hF => ?_)
   ·rw [h2, rv_flat, hx, nums_of hl, List.flatMap_def]
   ·exact hk m L w (by show Mv m h Lu wu m (h ++ []) L w; rw [List.append_nil]; exact hst.stay hF)
  ·cases hs
 ·cases hs
theorem ok_convO {α : Type} {R' : FRow α} {t e base : Nat} {A : Option Addr} {n c : Nat} {xs : List α} {k : Tup [Lf.sl] → XT} (hu : P.underlying t = some (.slice e)) (hb : P.underlying e = some (.int .u8)) (hn : n = xs.length) (ho : OwnO base Lu wu e R' A c xs) (hl : 0 < xs.length)
  (hk : ∀ L w, SlR R'.row L w A c xs → Fine (fun b => Lu b ∨ blk (A, 0, 0) b) wu L w → (∀ q, L q → Lu q ∨ wu.heap.size ≤ q) → (k ((A, xs.length, c), ())).ok P pin R J L w) :
  (XT.sem (convert t t (.slice A n c)) [Lf.sl] Sh.one k).ok P pin R J Lu wu := by
 subst hn
 intro L w he
 have ho := ho.later he.fine
 have hsl := ho.sl
 rcases ho with ⟨_, _, h⟩ | ⟨g, o, cur, rfl, k2, k3, k5, k6, k7, k8, k9⟩
 ·rw [h] at hl; cases hl
 have hsh : w.shape? g = some (e, cur.size) := by unfold World.shape?; rw [k5]
 have hfz : ∀ f : Nat, ∃ fz, (w.freeze ⟨g, f, none⟩ 1).heap[g]? = some (.cells cur e fz) ∧ (∀ b, b ≠ g → (w.freeze ⟨g, f, none⟩ 1).heap[b]? = w.heap[b]?) ∧ (w.freeze ⟨g, f, none⟩ 1).heap.size = w.heap.size ∧ (w.freeze ⟨g, f, none⟩ 1).os = w.os ∧ (w.freeze ⟨g, f, none⟩ 1).tape = w.tape ∧ (w.freeze ⟨g, f, none⟩ 1).output = w.output := by
  intro f
  unfold World.freeze
  rw [if_neg (by decide)]
  refine ⟨(f, f + 1), ?_, fun b hb => ?_, by simp, rfl, rfl, rfl⟩
  ·simp only [Array.getElem?_modify, if_true]
   rw [k5]
   rfl
  ·simp only [Array.getElem?_modify]
   rw [if_neg (fun h => hb h.symm)]
 obtain ⟨fz, f1, f2, f3, f4, f5, f6⟩ := hfz cur.size
 refine ⟨((some ⟨g, o, none⟩, xs.length, c), ()), w.freeze ⟨g, cur.size, none⟩ 1, ?_, ⟨by rw [f3]; exact Nat.le_refl _, ⟨f4, f5, f6⟩, fun b hb _ => f2 b (fun h => k3.2 (h ▸ hb))⟩, hk L _ ?_ ?_ he.fine.hid⟩
 ·simp [convert, run_underlying hu, run_underlying hb, markStringish, hsh]
  rfl
 ·obtain ⟨⟨cs, h1, h2⟩, h3⟩ := hsl
  refine ⟨⟨cs, fun i u hu => ?_, reps_flat.2 (reps_flat.1 h2)⟩, h3⟩
  obtain ⟨ad, e1, hc, hl⟩ := h1 i u hu
  cases e1
  refine ⟨_, rfl, ?_, hl⟩
  rw [← hc]
  have hbk : ((⟨g, o, none⟩ : Addr).add i).block = g := block_add _ _
  unfold World.cell?
  rw [hbk, f1, k5]
 ·refine ⟨f4.trans he.fine.os, f5.trans he.fine.tape, f6.trans he.fine.output, by rw [f3]; exact he.fine.size, fun b hb hS => ?_, fun b hb => ?_⟩
  ·rw [f2 b (fun h => hS (Or.inr ⟨_, rfl, h.symm⟩))]
   exact he.fine.keep b hb (fun h => hS (Or.inl h))
  ·rcases he.fine.hid b hb with h | h
   ·exact Or.inl (Or.inl h)
   ·exact Or.inr h
theorem b2b_ok {t : TypeId} {p : Option Addr} {n c j : Nat} (hs : b2bX P h t p n c j = some e) (hst : St m h Lu wu) (how : ∀ x ∈ e.owe, x.ok m) {k : Tup e.res.ls → XT} (hk : ∀ m2 L w, Mv m h Lu wu m2 (e.h ++ e.new.toList) L w → (k (e.res.tup m2 h.length)).ok P pin R J L w) : (XT.sem (.other (convert t t (.slice p n c))) e.res.ls e.res.sh k).ok P pin R J Lu wu := by
 unfold b2bX at hs
 split at hs
 ·rename_i el i z e' sz ys hel hgb
  obtain ⟨⟨hp, _⟩, hE, hu, hi, hz, hzs, hz1, hby⟩ := elem_of hel
  obtain ⟨hc, rfl⟩ := bif_some hs
  simp only [Bool.and_eq_true] at hc
  obtain ⟨⟨⟨⟨h1, h2⟩, h3⟩, h4⟩, h5⟩ := hc
  obtain rfl := beq_e h2
  obtain rfl := beq_e h3
  have h4 := blt_lt h4
  have h5 := beq_e h5
  obtain ⟨hgi, hp', xs, hx, ho⟩ := hst.own hgb
  have hxl : xs.length = n := by rw [← h5, ← hx, List.length_map]
  have hpp : p = some (m.at j 0) := how (.at p j 0) (by simp)
  have hcc : c = m.c j + n := how (.cap c j n) (by simp)
  subst hpp hcc
  rw [h5] at ho
  refine ok_convO (R' := RN 1 hp') (base := 0) hu (isByte_of h1) hxl.symm ho (by omega) (fun L w hsl hF hid => ?_)
  have hB : ∀ b, blk ((some (m.at j 0) : Option Addr), 0, 0) b → b = m.r j := fun b ⟨ad, h1, h2⟩ => by cases h1; exact h2.symm
  obtain ⟨⟨cs, g1, g2⟩, g3⟩ := hsl
  have g2 := reps_flat.1 g2
  rw [rv_flat, hx] at g2
  subst g2
  have hv := hst.vis j (List.getElem?_eq_some_iff.1 hgi).1
  have := hk _ L w (hst.turn hgi (by simp) hB hF hid (m.r j) (m.o j) (m.c j) (Or.inl rfl) ⟨Nat.lt_of_lt_of_le hv.1 hF.size, fun hl => by
   rcases hid _ hl with h1 | h1
   ·exact hv.2 h1
   ·omega⟩ (o' := .ro 1 ys) ⟨g1, by rw [← hx]; exact rv_one⟩)
  rw [tup_sl] at this
  rw [hxl]
  exact this
 ·cases hs
end
end Go.Proofs.YtcbpgbfbffnogaaGreatW.Ex
