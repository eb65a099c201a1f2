import Derived.Test.YtcbpgbfbffnogaaGreatzEx2
import Derived.Test.YtcbpgbfbffnogaaGreatzRx33
import Derived.Deep.Upon
import Derived.Laws.OwnMore
namespace Go.Proofs.YtcbpgbfbffnogaaGreatW.Ex
open Go Go.RowKit Go.Proofs.YtcbpgbfbffnogaaGreatW.Rx
set_option linter.unusedVariables false
set_option linter.unusedSimpArgs false
abbrev RV (sz : Nat) := {l : List Value // l.length = sz ∧ ∀ u ∈ l, u.oneCell' = true}
@[reducible] def RN (sz : Nat) (h : 0 < sz) : FRow (RV sz) := ⟨sz, h, fun x => x.1, fun x => x.2.1, fun x => x.2.2⟩
theorem rv_flat {sz : Nat} {h : 0 < sz} (xs : List (RV sz)) : xs.flatMap (RN sz h).enc = (xs.map (·.1)).flatten := by rw [List.flatMap_def]
theorem to_rv (sz : Nat) : ∀ rows : List (List Value), (∀ r ∈ rows, r.length = sz ∧ ∀ u ∈ r, u.oneCell' = true) → ∃ xs : List (RV sz), xs.map (·.1) = rows
 | [], _ => ⟨[], rfl⟩
 | r :: rs, h => by
  obtain ⟨xs, e⟩ := to_rv sz rs (fun x hx => h x (List.mem_cons_of_mem _ hx))
  exact ⟨⟨r, h r (by simp)⟩ :: xs, by rw [List.map_cons, e]⟩
theorem rv_one {sz : Nat} {xs : List (RV sz)} : ∀ u ∈ (xs.map (·.1)).flatten, u.oneCell' = true := by
 intro u hu
 obtain ⟨l, hl, hu⟩ := List.mem_flatten.1 hu
 obtain ⟨x, _, rfl⟩ := List.mem_map.1 hl
 exact x.2.2 u hu
def ObAt (L : Nat → Prop) (w : World) (b o c : Nat) : Ob → Prop
 | .blk e sz rows => ∃ (hp : 0 < sz) (xs : List (RV sz)), xs.map (·.1) = rows ∧ OwnO 0 L w e (RN sz hp) (some ⟨b, o, none⟩) (c + rows.length) xs
 | .ro _ rows => Here L w (some ⟨b, o, none⟩) rows.flatten ∧ ∀ u ∈ rows.flatten, u.oneCell' = true
 | .map n => ∃ es clock, w.heap[b]? = some (.map es clock) ∧ es.size = n
 | .dead => True
theorem fine_up {S S' L : Nat → Prop} {w0 w : World} (h : Fine S w0 L w) (hs : ∀ b, S b → S' b) : Fine S' w0 L w := ⟨h.os, h.tape, h.output, h.size, fun b hb hn => h.keep b hb (fun hx => hn (hs b hx)), fun b hb => (h.hid b hb).imp (hs b) id⟩
section
variable {L L' : Nat → Prop} {w w' : World} {b o c : Nat} {ob : Ob}
theorem ObAt.others {B : Nat → Prop} (h : ObAt L w b o c ob) (hd : ¬ B b) (hb : b < w.heap.size ∧ ¬ L b) (g : Fine (fun b => L b ∨ B b) w L' w') : ObAt L' w' b o c ob := by
 cases ob with
 | blk e sz rows =>
  obtain ⟨hp, xs, h1, h2⟩ := h
  exact ⟨hp, xs, h1, h2.others (fun b' ⟨ad, ha, hb'⟩ => by cases ha; exact hb' ▸ hd) g⟩
 | ro sz rows => exact ⟨(h.1.more (B := B) (fun ad ha => by cases ha; exact hd)).later g, h.2⟩
 | map n =>
  obtain ⟨es, clock, h1, h2⟩ := h
  exact ⟨es, clock, by rw [g.keep b hb.1 (fun hx => hx.elim hb.2 hd)]; exact h1, h2⟩
 | dead => trivial
theorem ObAt.vis (h : ObAt L w b o c ob) (hv : ¬ L' b) : ObAt L' w b o c ob := by
 cases ob with
 | blk e sz rows =>
  obtain ⟨hp, xs, h1, h2⟩ := h
  exact ⟨hp, xs, h1, h2.vis (fun b' ⟨ad, ha, hb'⟩ => by cases ha; exact hb' ▸ hv)⟩
 | ro sz rows =>
  refine ⟨fun i u hu => ?_, h.2⟩
  obtain ⟨ad, e, hc, _⟩ := h.1 i u hu
  exact ⟨ad, e, hc, by cases e; exact hv⟩
 | map n => exact h
 | dead => trivial
end
structure St (m : Nm) (h : AH) (L : Nat → Prop) (w : World) : Prop where
 holds : ∀ i o, h[i]? = some o → ObAt L w (m.r i) (m.o i) (m.c i) o
 vis : ∀ i, i < h.length → m.r i < w.heap.size ∧ ¬ L (m.r i)
 sep : ∀ i j a b, h[i]? = some a → h[j]? = some b → a ≠ .dead → b ≠ .dead → m.r i = m.r j → i = j
structure Mv (m : Nm) (h : AH) (L : Nat → Prop) (w : World) (m2 : Nm) (h2 : AH) (L2 : Nat → Prop) (w2 : World) : Prop where
 st : St m2 h2 L2 w2
 len : h.length ≤ h2.length
 agree : Agree h.length m m2
 src : ∀ i, i < h2.length → (∃ j, j < h.length ∧ m.r j = m2.r i) ∨ w.heap.size ≤ m2.r i
 fine : Fine (fun b => L b ∨ ∃ j, j < h.length ∧ m.r j = b) w L2 w2
 hid : ∀ q, L2 q → L q ∨ w.heap.size ≤ q
structure Fr (S : Nat → Prop) (w0 : World) (k0 : Nat) (m0 m : Nm) (h : AH) (L : Nat → Prop) (w : World) : Prop where
 le : k0 ≤ h.length
 agree : Agree k0 m0 m
 home : ∀ i, i < h.length → S (m.r i) ∨ w0.heap.size ≤ m.r i
 fine : Fine S w0 L w
section
variable {m m2 : Nm} {h h2 : AH} {L L' L2 Lu S : Nat → Prop} {w w' w2 w0 wu : World} {m0 : Nm} {k0 : Nat}
theorem Agree.refl (k : Nat) (m : Nm) : Agree k m m := fun i _ => ⟨rfl, rfl, rfl⟩
theorem Agree.trans {k k' : Nat} {a b c : Nm} (h : Agree k a b) (g : Agree k' b c) (hk : k ≤ k') : Agree k a c := fun i hi => by
 obtain ⟨h1, h2, h3⟩ := h i hi
 obtain ⟨g1, g2, g3⟩ := g i (by omega)
 exact ⟨g1.trans h1, g2.trans h2, g3.trans h3⟩
theorem Agree.set (m : Nm) (k b o c : Nat) : Agree k m (m.set k b o c) := fun i hi => by
 have : i ≠ k := by omega
 simp [Nm.set, this]
theorem Fr.mv (f : Fr S w0 k0 m0 m h L w) (g : Mv m h L w m2 h2 L2 w2) : Fr S w0 k0 m0 m2 h2 L2 w2 where
 le := Nat.le_trans f.le g.len
 agree := f.agree.trans g.agree f.le
 home := fun i hi => by
  rcases g.src i hi with ⟨j, hj, e⟩ | h1
  ·rw [← e]; exact f.home j hj
  ·exact Or.inr (Nat.le_trans f.fine.size h1)
 fine := f.fine.own g.fine (fun b ⟨j, hj, e⟩ => e ▸ f.home j hj) g.hid
theorem Fr.later (f : Fr S w0 k0 m0 m h L w) (g : Fine L w L' w') : Fr S w0 k0 m0 m h L' w' := ⟨f.le, f.agree, f.home, f.fine.trans g⟩
theorem St.ne (hst : St m h L w) {i j : Nat} {a b : Ob} (ha : h[i]? = some a) (hb : h[j]? = some b) (ha' : a ≠ .dead) (hb' : b ≠ .dead) (hij : i ≠ j) : m.r i ≠ m.r j := fun e => hij (hst.sep i j a b ha hb ha' hb' e)
theorem St.go {B : Nat → Prop} (hst : St m h L w) (g : Fine (fun b => L b ∨ B b) w L' w') (hid : ∀ q, L' q → L q ∨ w.heap.size ≤ q) (h' : AH) (hl : h'.length = h.length) (hB : ∀ b, B b → ∃ j, j < h.length ∧ m.r j = b)
  (hh : ∀ j ob, h'[j]? = some ob → ob = .dead ∨ ∃ o, h[j]? = some o ∧ o ≠ .dead ∧ ((ob = o ∧ ¬ B (m.r j)) ∨ ObAt L' w' (m.r j) (m.o j) (m.c j) ob)) : Mv m h L w m h' L' w' where
 st := by
  refine ⟨fun i ob hi => ?_, fun i hi => ?_, fun i j a b hi hj ha hb e => ?_⟩
  ·rcases hh i ob hi with rfl | ⟨o, ho, hne, ⟨rfl, hn⟩ | ha⟩
   ·trivial
   ·exact (hst.holds i ob ho).others hn (hst.vis i (List.getElem?_eq_some_iff.1 ho).1) g
   ·exact ha
  ·have hv := hst.vis i (by omega)
   exact ⟨Nat.lt_of_lt_of_le hv.1 g.size, fun hl' => by
    rcases hid _ hl' with h1 | h1
    ·exact hv.2 h1
    ·omega⟩
  ·rcases hh i a hi with rfl | ⟨o, ho, hne, _⟩
   ·exact absurd rfl ha
   rcases hh j b hj with rfl | ⟨o', ho', hne', _⟩
   ·exact absurd rfl hb
   exact hst.sep i j o o' ho ho' hne hne' e
 len := by omega
 agree := Agree.refl _ _
 src := fun i hi => Or.inl ⟨i, by omega, rfl⟩
 fine := fine_up g (fun b hb => hb.imp id (hB b))
 hid := hid
theorem St.stay (hst : St m h L w) (g : Fine L w L' w') : Mv m h L w m h L' w' := by
 refine hst.go (B := fun _ => False) (fine_up g fun b hb => Or.inl hb) g.hid h rfl (fun b hb => hb.elim) (fun j ob hj => ?_)
 by_cases e : ob = .dead
 ·exact Or.inl e
 ·exact Or.inr ⟨ob, hj, e, Or.inl ⟨rfl, fun h => h⟩⟩
theorem Mv.push (hm : Mv m h L w m2 h2 L2 w2) (b off c : Nat) (o : Ob) (hb2 : b < w2.heap.size ∧ ¬ L2 b) (hfresh : ∀ j ob, h2[j]? = some ob → ob ≠ .dead → m2.r j ≠ b) (hsrc : (∃ j, j < h.length ∧ m.r j = b) ∨ w.heap.size ≤ b) (ho : ObAt L2 w2 b off c o) : Mv m h L w (m2.set h2.length b off c) (h2 ++ [o]) L2 w2 where
 st := by
  have old : ∀ i, i < h2.length → (m2.set h2.length b off c).r i = m2.r i ∧ (m2.set h2.length b off c).o i = m2.o i ∧ (m2.set h2.length b off c).c i = m2.c i := fun i hi => Agree.set m2 h2.length b off c i hi
  have new : (m2.set h2.length b off c).r h2.length = b ∧ (m2.set h2.length b off c).o h2.length = off ∧ (m2.set h2.length b off c).c h2.length = c := by simp [Nm.set]
  have cs : ∀ i ob, (h2 ++ [o])[i]? = some ob → (i < h2.length ∧ h2[i]? = some ob) ∨ (i = h2.length ∧ ob = o) := fun i ob hi => by
   rw [List.getElem?_append] at hi
   split at hi
   ·rename_i hlt; exact Or.inl ⟨hlt, hi⟩
   ·have hlt := (List.getElem?_eq_some_iff.1 hi).1
    simp only [List.length_cons, List.length_nil] at hlt
    have e : i = h2.length := by omega
    subst e
    simp at hi
    exact Or.inr ⟨rfl, hi.symm⟩
  refine ⟨fun i ob hi => ?_, fun i hi => ?_, fun i j a a' hi hj ha hb e => ?_⟩
  ·rcases cs i ob hi with ⟨hlt, h1⟩ | ⟨rfl, rfl⟩
   ·obtain ⟨e1, e2, e3⟩ := old i hlt
    rw [e1, e2, e3]; exact hm.st.holds i ob h1
   ·obtain ⟨e1, e2, e3⟩ := new
    rw [e1, e2, e3]; exact ho
  ·rw [List.length_append, List.length_cons, List.length_nil] at hi
   by_cases hlt : i < h2.length
   ·rw [(old i hlt).1]; exact hm.st.vis i hlt
   ·have e : i = h2.length := by omega
    subst e
    rw [new.1]; exact hb2
  ·rcases cs i a hi with ⟨hlt, h1⟩ | ⟨rfl, rfl⟩
   ·rcases cs j a' hj with ⟨hlt', h1'⟩ | ⟨rfl, rfl⟩
    ·rw [(old i hlt).1, (old j hlt').1] at e
     exact hm.st.sep i j a a' h1 h1' ha hb e
    ·rw [(old i hlt).1, new.1] at e
     exact absurd e (hfresh i a h1 ha)
   ·rcases cs j a' hj with ⟨hlt', h1'⟩ | ⟨rfl, rfl⟩
    ·rw [(old j hlt').1, new.1] at e
     exact absurd e.symm (hfresh j a' h1' hb)
    ·rfl
 len := by rw [List.length_append]; have := hm.len; omega
 agree := hm.agree.trans (Agree.set m2 h2.length b off c) hm.len
 src := fun i hi => by
  rw [List.length_append, List.length_cons, List.length_nil] at hi
  by_cases hlt : i < h2.length
  ·rw [(Agree.set m2 h2.length b off c i hlt).1]; exact hm.src i hlt
  ·have e : i = h2.length := by omega
   subst e
   simp only [Nm.set, if_true]
   exact hsrc
 fine := hm.fine
 hid := hm.hid
theorem St.new (hst : St m h L w) (g : Fine L w L' w') (b off c : Nat) (o : Ob) (hb : w.heap.size ≤ b) (hb2 : b < w'.heap.size ∧ ¬ L' b) (ho : ObAt L' w' b off c o) : Mv m h L w (m.set h.length b off c) (h ++ [o]) L' w' :=
 (hst.stay g).push b off c o hb2 (fun j ob hj _ e => by have := (hst.vis j (List.getElem?_eq_some_iff.1 hj).1).1; omega) (Or.inr hb) ho
theorem St.put {B : Nat → Prop} (hst : St m h L w) {i : Nat} {o o' : Ob} (hi : h[i]? = some o) (hne : o ≠ .dead) (hB : ∀ b, B b → b = m.r i) (g : Fine (fun b => L b ∨ B b) w L' w') (hid : ∀ q, L' q → L q ∨ w.heap.size ≤ q) (ho' : o' = .dead ∨ ObAt L' w' (m.r i) (m.o i) (m.c i) o') : Mv m h L w m (h.set i o') L' w' := by
 have hlt := (List.getElem?_eq_some_iff.1 hi).1
 refine hst.go g hid _ (by simp) (fun b hb => ⟨i, hlt, (hB b hb).symm⟩) (fun j ob hj => ?_)
 rw [List.getElem?_set] at hj
 split at hj
 ·rename_i e
  subst e
  simp [hlt] at hj
  subst hj
  exact ho'.imp id (fun h1 => ⟨o, hi, hne, Or.inr h1⟩)
 ·rename_i e
  by_cases hd : ob = .dead
  ·exact Or.inl hd
  ·exact Or.inr ⟨ob, hj, hd, Or.inl ⟨rfl, fun hb => hst.ne hj hi hd hne (fun h => e h.symm) (hB _ hb)⟩⟩
theorem St.turn {B : Nat → Prop} (hst : St m h L w) {i : Nat} {o o' : Ob} (hi : h[i]? = some o) (hne : o ≠ .dead) (hB : ∀ b, B b → b = m.r i) (g : Fine (fun b => L b ∨ B b) w L' w') (hid : ∀ q, L' q → L q ∨ w.heap.size ≤ q) (b off c : Nat) (hb : b = m.r i ∨ w.heap.size ≤ b) (hb2 : b < w'.heap.size ∧ ¬ L' b) (ho' : ObAt L' w' b off c o') : Mv m h L w (m.set h.length b off c) (h.set i .dead ++ [o']) L' w' := by
 have hlt := (List.getElem?_eq_some_iff.1 hi).1
 have h1 := (hst.put hi hne hB g hid (o' := .dead) (Or.inl rfl)).push b off c o' hb2 (fun j ob hj hd e => ?_) (hb.imp (fun e => ⟨i, hlt, e.symm⟩) id) ho'
 ·rwa [List.length_set] at h1
 ·rw [List.getElem?_set] at hj
  split at hj
  ·rename_i e'
   subst e'
   simp [hlt] at hj
   exact hd hj.symm
  ·rename_i e'
   rcases hb with rfl | hb
   ·exact hst.ne hj hi hd hne (fun h => e' h.symm) e
   ·have := (hst.vis j (List.getElem?_eq_some_iff.1 hj).1).1
    omega
theorem St.later (hst : St m h L w) (g : Fine L w L' w') : St m h L' w' := (hst.stay g).st
theorem Mv.after (hm : Mv m h Lu wu m2 h2 L w) (g : Fine L w L' w') (hid : ∀ q, L' q → L q ∨ w.heap.size ≤ q) : Mv m h Lu wu m2 h2 L' w' where
 st := hm.st.later g
 len := hm.len
 agree := hm.agree
 src := hm.src
 fine := hm.fine.trans g
 hid := fun q hq => by
  rcases hid q hq with h1 | h1
  ·exact hm.hid q h1
  ·exact Or.inr (Nat.le_trans hm.fine.size h1)
theorem St.read (hst : St m h L w) {i sz : Nat} {rows : List (List Value)} (hr : getR h i = some (sz, rows)) : Here L w (some (m.at i 0)) rows.flatten ∧ (∀ u ∈ rows.flatten, u.oneCell' = true) ∧ i < h.length ∧ ∃ o, h[i]? = some o ∧ o ≠ .dead := by
 unfold getR at hr
 split at hr
 ·rename_i e sz' rows' hi
  cases hr
  obtain ⟨hp, xs, rfl, ho⟩ := hst.holds i _ hi
  refine ⟨?_, rv_one, (List.getElem?_eq_some_iff.1 hi).1, _, hi, by simp⟩
  obtain ⟨⟨cs, h1, h2⟩, _⟩ := ho.sl
  have := reps_flat.1 h2
  rw [rv_flat] at this
  subst this
  exact h1
 ·rename_i sz' rows' hi
  cases hr
  obtain ⟨h1, h2⟩ := hst.holds i _ hi
  exact ⟨h1, h2, (List.getElem?_eq_some_iff.1 hi).1, _, hi, by simp⟩
 ·cases hr
theorem St.own (hst : St m h L w) {i e sz : Nat} {rows : List (List Value)} (hr : getB h i = some (e, sz, rows)) : h[i]? = some (.blk e sz rows) ∧ ∃ (hp : 0 < sz) (xs : List (RV sz)), xs.map (·.1) = rows ∧ OwnO 0 L w e (RN sz hp) (some (m.at i 0)) (m.c i + rows.length) xs := by
 unfold getB at hr
 split at hr
 ·rename_i e' sz' rows' hi
  cases hr
  obtain ⟨hp, xs, h1, h2⟩ := hst.holds i _ hi
  exact ⟨hi, hp, xs, h1, h2⟩
 ·cases hr
end
end Go.Proofs.YtcbpgbfbffnogaaGreatW.Ex
