import Derived.Test.YtcbpgbfbffnogaaGreatzEy2
namespace Go.Proofs.YtcbpgbfbffnogaaGreatW.Ex
open Go Go.RowKit Go.Proofs.YtcbpgbfbffnogaaGreatW.Rx
set_option linter.unusedVariables false
set_option linter.unusedSimpArgs false
section
variable {P : Program} {R : Ending → World → Prop} {pin : List (Nat × Nat)} {J : Jt} {Lu : Nat → Prop} {wu : World} {m : Nm} {h : AH} {e : SEff}
theorem rep_rv {sz : Nat} (z : Array Value) (hz : z.size = sz) (h1 : ∀ u ∈ z.toList, u.oneCell' = true) (n : Nat) : ∃ xs : List (RV sz), xs.map (·.1) = List.replicate n z.toList ∧ xs.length = n :=
 ⟨List.replicate n ⟨z.toList, by simpa using hz, h1⟩, by rw [List.map_replicate], List.length_replicate⟩
theorem mk_ok {t : TypeId} {n n' : Nat} (hs : mkX P h t n n' = some e) (hst : St m h Lu wu) {k : Tup e.res.ls → XT} (hk : ∀ m2 L w, Mv m h Lu wu m2 (e.h ++ e.new.toList) L w → (k (e.res.tup m2 h.length)).ok P pin R J L w) : (XT.sem (.other (Instr.makeSlice t (.int .i64 (.ofNat n)) (.int .i64 (.ofNat n')))) e.res.ls e.res.sh k).ok P pin R J Lu wu := by
 unfold mkX at hs
 split at hs
 ·rename_i el i z hel
  obtain ⟨⟨hp, _⟩, hE, hu, hi, hz, hzs, hz1, hby⟩ := elem_of hel
  obtain ⟨hc, rfl⟩ := bif_some hs
  simp only [Bool.and_eq_true] at hc
  obtain ⟨⟨⟨h1, h2⟩, h3⟩, h4⟩ := hc
  obtain rfl := beq_e h1
  have h2 := blt_lt h2
  have h3 := ble_e h3
  have h4 := ble_e h4
  obtain ⟨xs, hx, hl⟩ := rep_rv z.cells hzs hz1 n
  refine ok_semm (fun L w hF hlt => ?_)
  have hmx : n ≤ maxLen := by simp only [maxLen]; omega
  have hb2 : i.bytes * n ≤ 281474976710656 := by rw [Nat.mul_comm]; omega
  obtain ⟨w', hr, ho, hg⟩ := run_make_full (P := P) w 0 t el i z i.size hu hi hz rfl .i64 .i64 n hb2 hmx (Nat.zero_le _)
  have hF2 : Fine L w L w' := ⟨hg.os, hg.tape, hg.output, hg.size, fun b hb _ => hg.block b hb (by simp), fun b hb => Or.inl hb⟩
  have hv : w.heap.size < w'.heap.size ∧ ¬ L w.heap.size := by
   refine ⟨?_, fun hl' => Nat.lt_irrefl _ (hlt _ hl')⟩
   rcases ho.2 with ⟨h, _⟩ | ⟨g, cap, cur, hv, _, hblk, _⟩
   ·cases h
   ·cases hv; exact (Array.getElem?_eq_some_iff.1 hblk).1
  have hOwn : OwnF 0 L w' el (RN i.size hp) (some ⟨w.heap.size, 0, none⟩) n xs := by
   refine ⟨?_, fun ad ha => by cases ha; exact hv⟩
   show w'.ownsRow 0 el i.size (.slice (some ⟨w.heap.size, 0, none⟩) xs.length n) xs.length (xs.flatMap (RN i.size hp).enc)
   rw [rv_flat, hx, hl, ← made_flat, hzs]
   exact ho
  obtain ⟨g, o, ee, g1, g2, g3⟩ := own_name hOwn.off (Or.inl rfl)
  cases ee
  rw [hx] at g3
  refine ⟨((some ⟨w.heap.size, 0, none⟩, n, n), ()), w', hr, ⟨hg.size, ⟨hg.os, hg.tape, hg.output⟩, fun b hb _ => hg.block b (hlt b hb) (by simp)⟩, ?_⟩
  have := hk _ L w' (hst.new (hF.trans hF2) w.heap.size 0 _ _ hF.size g2 g3)
  rw [tup_sl, hl, show n - n + n = n by omega] at this
  exact this
 ·cases hs
theorem zero_flat (z : Array Value) (n : Nat) : (Builtin.zeroCells z n).toList = (List.replicate n z.toList).flatten := made_flat z n
theorem app0_ok {t ti ty : TypeId} {n : Nat} (hs : app0 P h t ti n = some e) (hst : St m h Lu wu) {k : Tup e.res.ls → XT} (hk : ∀ m2 L w, Mv m h Lu wu m2 (e.h ++ e.new.toList) L w → (k (e.res.tup m2 h.length)).ok P pin R J L w) : (XT.sem (.other (Builtin.append_ #[t, ti] ty #[.slice none 0 0, .int .i64 (.ofNat n)])) e.res.ls e.res.sh k).ok P pin R J Lu wu := by
 unfold app0 at hs
 split at hs
 ·rename_i el i z hel
  obtain ⟨⟨hp, _⟩, hE, hu, hi, hz, hzs, hz1, hby⟩ := elem_of hel
  obtain ⟨hc, rfl⟩ := bif_some hs
  simp only [Bool.and_eq_true] at hc
  obtain ⟨⟨h1, h2⟩, h3⟩ := hc
  have h2 := blt_lt h2
  have h3 := ble_e h3
  obtain ⟨kn, htn⟩ : ∃ kn, P.underlying ti = some (.int kn) := by
   unfold isIntT at h1
   split at h1
   ·rename_i kn hh; exact ⟨kn, hh⟩
   ·cases h1
  obtain ⟨xs, hx, hl⟩ := rep_rv z.cells hzs hz1 n
  have hm : n * 1 ≤ n * i.bytes := Nat.mul_le_mul_left _ hby
  refine ok_semm (fun L w hF hlt => ?_)
  have hcm : grownCap w n 0 el ≤ maxLen := grownCap_le_maxLen w n 0 el (by simp only [maxLen]; omega)
  have hge := grownCap_ge w n 0 el
  have hOwn : OwnO 0 L (w.drew.alloc (.cells (Builtin.zeroCells z.cells n ++ Builtin.zeroCells z.cells (grownCap w n 0 el - n)) el)) el (RN i.size hp) (some ⟨w.heap.size, 0, none⟩) (grownCap w n 0 el) xs := by
   refine Or.inr ⟨w.heap.size, 0, _, rfl, Nat.zero_le _, ⟨by simp, fun hl' => Nat.lt_irrefl _ (hlt _ hl')⟩, heap_alloc_new w.drew _, by omega, hcm, ?_, ?_⟩
   ·simp only [Array.size_append, size_zeroCells, hzs, ← Nat.add_mul]
    rw [Nat.add_sub_cancel' hge]; omega
   ·rw [List.drop_zero, rv_flat, hx, ← zero_flat, hl, Array.toList_append]
    exact List.take_left' (by rw [Array.length_toList, size_zeroCells, hzs])
  have hF2 : Fine Lu wu L (w.drew.alloc (.cells (Builtin.zeroCells z.cells n ++ Builtin.zeroCells z.cells (grownCap w n 0 el - n)) el)) := ⟨hF.os, hF.tape, hF.output, Nat.le_trans hF.size (by simp), fun b hb hS => (heap_alloc_old w.drew _ (Nat.lt_of_lt_of_le hb hF.size)).trans (hF.keep b hb hS), hF.hid⟩
  refine ⟨((some ⟨w.heap.size, 0, none⟩, n, grownCap w n 0 el), ()), _, Lib.run_append_nil_zeros (P := P) w t ti ty el i z .i64 kn hu htn hi hz n h2 hp (by omega) (by omega), ⟨by simp, ⟨rfl, rfl, rfl⟩, fun b hb _ => heap_alloc_old w.drew _ (hlt b hb)⟩, ?_⟩
  obtain ⟨g, o, ee, g1, g2, g3⟩ := own_name hOwn (Or.inl rfl)
  cases ee
  rw [hx] at g3
  have := hk _ L _ (hst.new hF2 w.heap.size 0 _ _ hF.size g2 g3)
  rw [tup_sl, hl, Nat.sub_add_cancel hge] at this
  exact this
 ·cases hs
theorem app_cap {t ty : TypeId} {x : Value} {a : Option Addr} {n c c' : Nat} : Builtin.append_ #[t, t] ty #[x, .slice a n c] = Builtin.append_ #[t, t] ty #[x, .slice a n c'] := by
 cases a <;> rfl
theorem copy_cap {t ty : TypeId} {x : Value} {a : Option Addr} {n c c' : Nat} : Builtin.copy_ #[t, t] ty #[x, .slice a n c] = Builtin.copy_ #[t, t] ty #[x, .slice a n c'] := by
 cases a <;> rfl
theorem own_pos {base el sz cap : Nat} {hp : 0 < sz} {A : Option Addr} {xs : List (RV sz)} {L : Nat → Prop} {w : World} (ho : OwnO base L w el (RN sz hp) A cap xs) (hn : 0 < xs.length) : base ≤ ((A.map (·.block)).getD 0) := by
 rcases ho with ⟨rfl, _, rfl⟩ | ⟨g, o, cur, rfl, k2, _⟩
 ·cases hn
 ·exact k2
theorem app1_ok {t ty : TypeId} {a : Option Addr} {n2 c2 j off : Nat} (hs : app1 P h t a n2 j off = some e) (hst : St m h Lu wu) (how : ∀ x ∈ e.owe, x.ok m) {k : Tup e.res.ls → XT} (hk : ∀ m2 L w, Mv m h Lu wu m2 (e.h ++ e.new.toList) L w → (k (e.res.tup m2 h.length)).ok P pin R J L w) : (XT.sem (.other (Builtin.append_ #[t, t] ty #[.slice none 0 0, .slice a n2 c2])) e.res.ls e.res.sh k).ok P pin R J Lu wu := by
 unfold app1 at hs
 split at hs
 ·rename_i el i z hel
  obtain ⟨⟨hp, _⟩, hE, hu, hi, hz, hzs, hz1, hby⟩ := elem_of hel
  split at hs
  ·rename_i ys hys
   obtain ⟨hc, rfl⟩ := bif_some hs
   simp only [Bool.and_eq_true] at hc
   have h1 := blt_lt hc.1
   have h2 := ble_e hc.2
   have hm : n2 * 1 ≤ n2 * i.bytes := Nat.mul_le_mul_left _ hby
   obtain ⟨xs, hx, hl, hsl, _⟩ := read_sl hst hp hys (by omega)
   have ha : a = some (m.at j off) := how (.at a j off) (by simp)
   subst ha
   rw [app_cap (c' := n2)]
   refine ok_app (R := RN i.size hp) (base := wu.heap.size) (A := none) (c := 0) (xs := []) (ys := xs) rfl hl.symm hE (OwnF.nil _ _ _ _ _) hsl hby (by simpa [hl] using h2) (Nat.le_refl _) (fun A' c' L w ho hF hid hw => ?_)
   rw [List.nil_append] at ho
   have hF : Fine Lu wu L w := fine_up hF (fun b hb => hb.elim id (fun ⟨_, h, _⟩ => by cases h))
   obtain ⟨g, o, rfl, g1, g2, g3⟩ := own_name ho.off (Or.inr (by omega))
   rw [hx] at g3
   have hb : wu.heap.size ≤ g := own_pos ho.off (by omega)
   have := hk _ L w (hst.new hF g o _ _ hb g2 g3)
   rw [tup_sl] at this
   rw [← hl, g1] at this
   exact this
  ·cases hs
 ·cases hs
theorem own_take {base el sz cap n : Nat} {hp : 0 < sz} {A : Option Addr} {xs : List (RV sz)} {L : Nat → Prop} {w : World} (ho : OwnO base L w el (RN sz hp) A cap xs) (hn : n ≤ xs.length) : OwnO base L w el (RN sz hp) A cap (xs.take n) := by
 have := ho.cut 0 n (Nat.zero_le _) hn
 simpa [if_add0] using this
theorem app2_ok {t ty : TypeId} {p a : Option Addr} {n c n2 c2 q j off : Nat} (hs : app2 P h t p a n c n2 q j off = some e) (hst : St m h Lu wu) (how : ∀ x ∈ e.owe, x.ok m) {k : Tup e.res.ls → XT} (hk : ∀ m2 L w, Mv m h Lu wu m2 (e.h ++ e.new.toList) L w → (k (e.res.tup m2 h.length)).ok P pin R J L w) : (XT.sem (.other (Builtin.append_ #[t, t] ty #[.slice p n c, .slice a n2 c2])) e.res.ls e.res.sh k).ok P pin R J Lu wu := by
 unfold app2 at hs
 split at hs
 ·rename_i el i z e' sz' xs0 hel hgb
  obtain ⟨⟨hp, _⟩, hE, hu, hi, hz, hzs, hz1, hby⟩ := elem_of hel
  split at hs
  ·rename_i ys hys
   obtain ⟨hc, rfl⟩ := bif_some hs
   simp only [Bool.and_eq_true] at hc
   obtain ⟨⟨⟨⟨⟨h1, h2⟩, h3⟩, h4⟩, h5⟩, h6⟩ := hc
   obtain rfl := beq_e h1
   obtain rfl := beq_e h2
   have h3 := ble_e h3
   have h4 := blt_lt h4
   have h5 := ble_e h5
   have hm : (n + n2) * 1 ≤ (n + n2) * i.bytes := Nat.mul_le_mul_left _ hby
   obtain ⟨ys', hy, hyl, hsl, _⟩ := read_sl hst hp hys (by omega)
   obtain ⟨hgi, hp', xs, hx, ho⟩ := hst.own hgb
   have hxl : xs.length = xs0.length := by rw [← hx, List.length_map]
   have hp1 : p = some (m.at q 0) := how (.at p q 0) (by simp)
   have ha : a = some (m.at j off) := how (.at a j off) (by simp)
   have hcc : c = m.c q + xs0.length := how (.cap c q xs0.length) (by simp)
   subst hp1 ha hcc
   have htl : (xs.take n).length = n := by rw [List.length_take]; omega
   rw [app_cap (c' := n2)]
   refine ok_appO (R := RN i.size hp) (base := 0) htl.symm hyl.symm hE (own_take ho (by omega)) rfl hsl (by omega) (by rw [htl, hyl]; simp only [maxLen]; omega) (by rw [htl, hyl]; exact h5) (Nat.zero_le _) (fun A' c' L w ho' hF hid hw => ?_)
   have hl2 : (xs.take n ++ ys').length = n + n2 := by rw [List.length_append, htl, hyl]
   obtain ⟨g, o, rfl, g1, g2, g3⟩ := own_name ho' (Or.inr (by omega))
   rw [List.map_append, List.map_take, hx, hy] at g3
   have hB : ∀ b, blk ((some (m.at q 0) : Option Addr), 0, 0) b → b = m.r q := fun b ⟨ad, h1, h2⟩ => by cases h1; exact h2.symm
   have := hk _ L w (hst.turn hgi (by simp) hB hF hid g o _ ((hw g ⟨_, rfl, rfl⟩).imp (hB g) id) g2 g3)
   rw [tup_sl] at this
   rw [← hl2, g1] at this
   exact this
  ·cases hs
 ·cases hs
theorem app3_ok {t ty : TypeId} {p a : Option Addr} {n c c2 q : Nat} (hs : app3 P h t p n c q = some e) (hst : St m h Lu wu) (how : ∀ x ∈ e.owe, x.ok m) {k : Tup e.res.ls → XT} (hk : ∀ m2 L w, Mv m h Lu wu m2 (e.h ++ e.new.toList) L w → (k (e.res.tup m2 h.length)).ok P pin R J L w) : (XT.sem (.other (Builtin.append_ #[t, t] ty #[.slice p n c, .slice a 0 c2])) e.res.ls e.res.sh k).ok P pin R J Lu wu := by
 unfold app3 at hs
 split at hs
 ·rename_i el i z e' sz' xs0 hel hgb
  obtain ⟨⟨hp, _⟩, hE, hu, hi, hz, hzs, hz1, hby⟩ := elem_of hel
  obtain ⟨hc, rfl⟩ := bif_some hs
  simp only [Bool.and_eq_true] at hc
  have h3 := ble_e hc.2
  have hcc : c = m.c q + xs0.length := how (.cap c q xs0.length) (by simp)
  refine ok_semm (fun L w hF hlt => ⟨((p, n, c), ()), w, ?_, keeps_below hlt (Below.refl _ _), ?_⟩)
  ·have hsrc : Src P i.size t (.slice a 0 c2) 0 [] w := by
    cases a with
    | none => exact Src.ofNil w hu c2
    | some ad => exact Src.ofSlice w hu ad 0 c2 [] (by simp) (fun j u h => by simp at h) (fun u h => by cases h)
   exact run_append_nothing w t t ty el i hu hi p n c (by omega) _ hsrc
  ·have := hk m L w (by show Mv m h Lu wu m (h ++ []) L w; rw [List.append_nil]; exact hst.stay hF)
   exact this
 ·cases hs
theorem cpy1_ok {t ty : TypeId} {d a : Option Addr} {dl dc n2 c2 n q ko j off : Nat} (hn : Nat.min n2 dl = n) (hs : cpy1 P h t d a n q ko j off = some e) (hst : St m h Lu wu) (how : ∀ x ∈ e.owe, x.ok m) {k : Tup e.res.ls → XT} (hk : ∀ m2 L w, Mv m h Lu wu m2 (e.h ++ e.new.toList) L w → (k (e.res.tup m2 h.length)).ok P pin R J L w) : (XT.sem (.other (Builtin.copy_ #[t, t] ty #[.slice d dl dc, .slice a n2 c2])) e.res.ls e.res.sh k).ok P pin R J Lu wu := by
 unfold cpy1 at hs
 split at hs
 ·rename_i el i z e' sz' xs0 hel hgb
  obtain ⟨⟨hp, _⟩, hE, hu, hi, hz, hzs, hz1, hby⟩ := elem_of hel
  split at hs
  ·rename_i ys hys
   obtain ⟨hc, rfl⟩ := bif_some hs
   simp only [Bool.and_eq_true] at hc
   obtain ⟨⟨⟨⟨h1, h2⟩, h3⟩, h4⟩, h5⟩ := hc
   obtain rfl := beq_e h1
   obtain rfl := beq_e h2
   have h3 := blt_lt h3
   have h4 := beq_e h4
   have h5 := ble_e h5
   obtain ⟨hgi, hp', xs, hx, ho⟩ := hst.own hgb
   have hxl : xs.length = xs0.length := by rw [← hx, List.length_map]
   have hbig : m.c q + xs0.length ≤ maxLen := by
    rcases ho with ⟨h, _⟩ | ⟨_, _, _, _, _, _, _, _, h, _⟩
    ·cases h
    ·exact h
   obtain ⟨ys', hy, hyl, hsl, _⟩ := read_sl hst hp hys (by have h6 : n ≤ xs0.length := Nat.le_trans (Nat.le_add_left _ _) h5; simp only [maxLen] at hbig; omega)
   have hd : d = some (m.at q ko) := how (.at d q ko) (by simp)
   have ha : a = some (m.at j off) := how (.at a j off) (by simp)
   subst hd ha
   have hmin : min n2 dl = n := hn
   rw [copy_cap (c' := n)]
   have hko : ko / i.size * i.size = ko := Nat.div_mul_cancel (Nat.dvd_of_mod_eq_zero h4)
   refine ok_copyC (R := RN i.size hp) (base := 0) (ko / i.size) hE ho hsl (by rw [hmin, hyl]) (by omega) (by omega) (fun _ => ?_) (fun L w ho' hF hid => ?_)
   ·rw [show (RN i.size hp).n = i.size from rfl, hko]
    show some (m.at q ko) = some ((m.at q 0).add ko)
    unfold Nm.at Addr.add
    by_cases h0 : ko = 0
    ·subst h0; simp
    ·simp [h0]
   ·have hB : ∀ b, blk ((some (m.at q 0) : Option Addr), 0, 0) b → b = m.r q := fun b ⟨ad, h1, h2⟩ => by cases h1; exact h2.symm
    have hlen : (xs.take (ko / i.size) ++ ys' ++ xs.drop (ko / i.size + ys'.length)).length = xs.length := by
     simp only [List.length_append, List.length_take, List.length_drop]; omega
    have hrows : (xs.take (ko / i.size) ++ ys' ++ xs.drop (ko / i.size + ys'.length)).map (·.1) = xs0.take (ko / i.size) ++ ys ++ xs0.drop (ko / i.size + n) := by
     simp only [List.map_append, List.map_take, List.map_drop, hx, hy, hyl]
    have hob : ObAt L w (m.r q) (m.o q) (m.c q) (.blk el i.size (xs0.take (ko / i.size) ++ ys ++ xs0.drop (ko / i.size + n))) := by
     refine ⟨hp, _, hrows, ?_⟩
     rw [← hrows, List.length_map, hlen, hxl]
     exact ho'
    have := hk m L w (by show Mv m h Lu wu m (List.set h q (Ob.blk el i.size (List.take (ko / i.size) xs0 ++ ys ++ List.drop (ko / i.size + n) xs0)) ++ []) L w; rw [List.append_nil]; exact hst.put hgi (by simp) hB hF hid (Or.inr hob))
    rw [hyl]
    exact this
  ·cases hs
 ·cases hs
end
end Go.Proofs.YtcbpgbfbffnogaaGreatW.Ex
