/- The machine for walks: a step holds. -/
import Derived.Test.YtggemgbkkhpenaaRx6
namespace Go.Proofs.YtggemgbkkhpenaaW.Rx
open Go
set_option linter.unusedVariables false
set_option linter.unusedSimpArgs false
section
variable {P : Program} {pin : List (Nat × Nat)} {R : Ending → World → Prop} {N : Nat}
variable {ρ : Nat → Nat} {s : ASt} {a : Act} {w : World} {o : Oper} {L Lu : Nat → Prop} {wu : World}
/-- The world goes on, with the blocks known as they are told anew. -/
theorem Rel.set {w' : World} (h : Rel N ρ s a w) {q : Nat} {c c0 : List AV} {T T0 : TypeId} (hc : AV.wfs s.D c = true) (hk : s.blks q = some (c0, T0))
    (h1 : w'.heap[ρ q]? = some (.cells (AV.gs ρ c).toArray T (0, 0))) (h2 : ∀ b, b ≠ ρ q → w'.heap[b]? = w.heap[b]?) : Rel N ρ (s.set q c T) a w' := by
  have hD : (s.set q c T).D = s.D := by
    funext j
    rw [set_D]
    cases e : Nat.beq j q
    · rfl
    · rw [Nat.eq_of_beq_eq_true e]; simp [ASt.D, hk]
  refine ⟨h.size, h.tmps, by rw [hD]; exact h.wft, ?_, ?_, by rw [hD]; exact h.inj, h.defers⟩
  · intro k c' T' hb
    simp only [ASt.set] at hb
    cases e : Nat.beq k q
    · rw [e] at hb
      have hb : s.blks k = some (c', T') := hb
      have hne : ρ k ≠ ρ q := fun he => by
        have := h.inj k q (by simp [ASt.D, hb]) (by simp [ASt.D, hk]) he
        subst this; simp at e
      rw [h2 _ hne]
      exact h.blks k c' T' hb
    · rw [e] at hb
      simp only [cond_true, Option.some.injEq, Prod.mk.injEq] at hb
      obtain ⟨rfl, rfl⟩ := hb
      rw [Nat.eq_of_beq_eq_true e]; exact h1
  · intro k c' T' hb
    rw [hD]
    simp only [ASt.set] at hb
    cases e : Nat.beq k q
    · rw [e] at hb; exact h.wfb k c' T' hb
    · rw [e] at hb
      simp only [cond_true, Option.some.injEq, Prod.mk.injEq] at hb
      obtain ⟨rfl, rfl⟩ := hb
      exact hc
/-- The world goes on where nothing known is touched. -/
theorem Rel.world {w' : World} (h : Rel N ρ s a w) (hw : ∀ k, s.D k = true → w'.heap[ρ k]? = w.heap[ρ k]?) : Rel N ρ s a w' where
  size := h.size
  tmps := h.tmps
  wft := h.wft
  blks := fun k c T hb => by rw [hw k (by simp [ASt.D, hb])]; exact h.blks k c T hb
  wfb := h.wfb
  inj := h.inj
  defers := h.defers
theorem vs_wf (D : Nat → Bool) (ls : List Lf) (x : Tup ls) : AV.wfs D (vs ls x) = true := wfs_v _
theorem wf_undef (D : Nat → Bool) : (AV.v undef).wf D = true := rfl
theorem headD_wf (D : Nat → Bool) (l : List AV) (h : AV.wfs D l = true) : (l.headD (.v undef)).wf D = true := by
  cases l with
  | nil => rfl
  | cons x r => simp only [AV.wfs, Bool.and_eq_true] at h; exact h.1
theorem parts_wf (D : Nat → Bool) : ∀ (ps : List (Bool × Nat)) (l : List AV), AV.wfs D l = true → AV.wfs D (Sh.parts ps l) = true
  | [], l, h => rfl
  | (b, n) :: r, l, h => by
    simp only [Sh.parts, AV.wfs, Bool.and_eq_true]
    refine ⟨?_, parts_wf D r _ (wfs_drop _ _ h)⟩
    split
    · simp only [AV.wf]; exact wfs_take _ _ h
    · exact headD_wf D l h
theorem av_wf (D : Nat → Bool) (sh : Sh) (l : List AV) (h : AV.wfs D l = true) : (sh.av l).wf D = true := by
  cases sh with
  | one => exact headD_wf D l h
  | agg n => simp only [Sh.av, AV.wf]; exact wfs_take _ _ h
  | tup ps => simp only [Sh.av, AV.wf]; exact parts_wf D ps l h
theorem segs_map {α β : Type} (f : α → β) : ∀ (ns : List Nat) (l : List α), segs ns (l.map f) = (segs ns l).map (List.map f)
  | [], l => rfl
  | n :: r, l => by simp only [segs, List.map_cons, ← List.map_take, ← List.map_drop, segs_map f r]
/-- Behind a call: the told blocks anew, the others as they were. -/
theorem Rel.back : ∀ (ex : Out) (cs : List (List Value)) (s : ASt) (w w2 : World), Rel N ρ s a w → (∀ x ∈ ex, s.blks x.1 = some (x.2.1, x.2.2)) → Apart ρ ex → Back ρ w2 ex cs → (∀ k, s.D k = true → (∀ x ∈ ex, ρ x.1 ≠ ρ k) → w2.heap[ρ k]? = w.heap[ρ k]?) →
    Rel N ρ (backS s ex (cs.map (List.map AV.v))) a w2 ∧ (backS s ex (cs.map (List.map AV.v))).D = s.D
  | [], cs, s, w, w2, h, h1, h2, h3, h4 => ⟨h.world (fun k hk => h4 k hk (by simp)), rfl⟩
  | (k, c, T) :: r, [], s, w, w2, h, h1, h2, h3, h4 => h3.elim
  | (k, c, T) :: r, d :: cs, s, w, w2, h, h1, h2, h3, h4 => by
    obtain ⟨b1, b2⟩ := h3
    obtain ⟨a1, a2⟩ := h2
    have hk := h1 (k, c, T) (by simp)
    simp only at hk
    have hlt : ρ k < w.heap.size := (Array.getElem?_eq_some_iff.1 (h.blks k c T hk)).1
    let w1 : World := { w with heap := w.heap.setIfInBounds (ρ k) (.cells d.toArray T (0, 0)) }
    have hw1 : w1.heap[ρ k]? = some (.cells d.toArray T (0, 0)) := by simp [w1, hlt]
    have hw2 : ∀ b, b ≠ ρ k → w1.heap[b]? = w.heap[b]? := fun b hb => by simp [w1, Array.getElem?_setIfInBounds_ne (Ne.symm hb)]
    have hs := h.set (w' := w1) (q := k) (c := d.map AV.v) (T := T) (wfs_v d) hk (by rw [gs_v]; exact hw1) hw2
    have hD : (s.set k (d.map AV.v) T).D = s.D := by
      funext j
      rw [set_D]
      cases e : Nat.beq j k
      · rfl
      · rw [Nat.eq_of_beq_eq_true e]; simp [ASt.D, hk]
    have ih := Rel.back r cs (s.set k (d.map AV.v) T) w1 w2 hs ?_ a2 b2 ?_
    · simp only [List.map_cons, backS]
      exact ⟨ih.1, ih.2.trans hD⟩
    · intro x hx
      have hne : x.1 ≠ k := fun e => a1 x hx (by rw [e])
      simp only [ASt.set, beq_ne hne]
      exact h1 x (by simp [hx])
    · intro j hj hx
      rw [hD] at hj
      by_cases e : j = k
      · subst e; rw [b1, hw1]
      · have hne : ρ j ≠ ρ k := fun he => e (h.inj j k hj (by simp [ASt.D, hk]) he)
        rw [hw2 _ hne]
        exact h4 j hj (fun x hx' => by
          rcases List.mem_cons.1 hx' with rfl | hx'
          · exact Ne.symm hne
          · exact hx x hx')
def Subst (s s' : ASt) : Prop := ∀ k, s.ver k ≤ s'.ver k ∧ (s'.ver k = s.ver k → s'.blks k = s.blks k)
theorem Subst.refl (s : ASt) : Subst s s := fun k => ⟨Nat.le_refl _, fun _ => rfl⟩
theorem Subst.trans {s s' s'' : ASt} (h : Subst s s') (h' : Subst s' s'') : Subst s s'' := fun k => by
  have a := h k
  have b := h' k
  exact ⟨Nat.le_trans a.1 b.1, fun e => by rw [b.2 (by omega), a.2 (by omega)]⟩
theorem Subst.put (d : Option Nat) (x : AV) : Subst s (s.put d x) := by cases d <;> exact Subst.refl s
theorem Subst.set (k : Nat) (c : List AV) (T : TypeId) : Subst s (s.set k c T) := fun j => by
  simp only [ASt.set]
  cases e : Nat.beq j k
  · exact ⟨Nat.le_refl _, fun _ => rfl⟩
  · exact ⟨Nat.le_succ _, fun h => by simp only [cond_true] at h; omega⟩
theorem Subst.back : ∀ (ex : Out) (cs : List (List AV)) (s : ASt), Subst s (backS s ex cs)
  | [], _, s => Subst.refl s
  | _ :: _, [], s => Subst.refl s
  | (k, c, T) :: r, d :: cs, s => (Subst.set k d T).trans (Subst.back r cs _)
/-- Slots but one stay. -/
def Stays (d : Option Nat) (s s' : ASt) : Prop := ∀ j, some j ≠ d → s'.tmps j = s.tmps j
theorem Stays.put (d : Option Nat) (x : AV) : Stays d s (s.put d x) := by
  intro j hj
  cases d with
  | none => rfl
  | some d =>
    have : j ≠ d := fun e => hj (by rw [e])
    simp [ASt.put, beq_ne this]
theorem back_tmps : ∀ (ex : Out) (cs : List (List AV)) (s : ASt), (backS s ex cs).tmps = s.tmps
  | [], _, s => rfl
  | _ :: _, [], s => rfl
  | (k, c, T) :: r, d :: cs, s => back_tmps r cs _
abbrev Goes (s : ASt) (d : Option Nat) (s' : ASt) : Prop := Subst s s' ∧ Stays d s s'
/-- A STEP. -/
theorem step_ok {J : Jt} {key : Nat} {k : ASt → XT} {Q : Exit → Act → World → Prop} (h : Inv P pin R N s (stepX P N key o s (core P s.ev s.blks o) k) J a w) :
    o.wp P a w (fun a' w' => ∃ s', Goes s o.dst s' ∧ Inv P pin R N s' (k s') J a' w') Q := by
  obtain ⟨ρ, L, Lu, wu, hok, hrel, hL, hext, hpin, hpd⟩ := h
  have hc := core_ok (P := P) (o := o) hrel.env
  generalize core P s.ev s.blks o = e at hok hc
  unfold stepX at hok
  by_cases hd : dstOk N o.dst = true
  case neg => rw [if_neg hd] at hok; exact hok.elim
  rw [if_pos hd] at hok
  have hdst := hd
  unfold Oper.wp
  cases e with
  | val x =>
    simp only [split_eq] at hok
    have hr : runs P o a w = _ := hc.2
    unfold runs at hr
    rw [hr]
    exact ⟨_, ⟨Subst.put _ _, Stays.put _ _⟩, ρ, L, Lu, wu, hok, hrel.put o.dst x hc.1 hdst, by rw [put_D]; exact hL, hext, hpin, by rw [put_D]; exact hpd⟩
  | alloc c T =>
    simp only at hok
    split at hok
    · rename_i hn
      have hr : runs P o a w = _ := hc.2
      unfold runs at hr
      rw [hr]
      let ρ' : Nat → Nat := fun j => if j = key then w.heap.size else ρ j
      have hkey : s.D key = false := by simp [ASt.D, hn]
      have hρ : ∀ j, s.D j = true → ρ j = ρ' j := fun j hj => by
        have : j ≠ key := fun e => by rw [e, hkey] at hj; cases hj
        simp [ρ', this]
      have hlt : ∀ j, s.D j = true → ρ j < w.heap.size := fun j hj => by
        obtain ⟨⟨c', T'⟩, hb⟩ := Option.isSome_iff_exists.1 hj
        exact (Array.getElem?_eq_some_iff.1 (hrel.blks j c' T' hb)).1
      have hD : ∀ j, s.D j = true → (s.set key c T).D j = true := fun j hj => by rw [set_D, hj, Bool.or_true]
      have hrel' : Rel N ρ' (s.set key c T) a { w with heap := w.heap.push (.cells (AV.gs ρ c).toArray T) } := by
        refine ⟨hrel.size, ?_, ?_, ?_, ?_, ?_, hrel.defers⟩
        · intro j x hx
          have hx' : s.tmps j = some x := hx
          rw [hrel.tmps j x hx', g_congr (fun k hk => hρ k hk) x (hrel.wft j x hx')]
        · intro j x hx
          exact wf_mono hD x (hrel.wft j x hx)
        · intro j c' T' hb
          simp only [ASt.set] at hb
          cases e : Nat.beq j key
          · rw [e] at hb
            have hb : s.blks j = some (c', T') := hb
            have hDj : s.D j = true := by simp [ASt.D, hb]
            have h1 := hlt j hDj
            rw [← hρ j hDj, ← gs_congr (fun k hk => hρ k hk) c' (hrel.wfb j c' T' hb)]
            have h2 := hrel.blks j c' T' hb
            simp only [Array.getElem?_push]
            rw [if_neg (by omega)]
            exact h2
          · rw [e] at hb
            simp only [cond_true, Option.some.injEq, Prod.mk.injEq] at hb
            obtain ⟨rfl, rfl⟩ := hb
            have e' := Nat.eq_of_beq_eq_true e
            rw [← gs_congr (fun k hk => hρ k hk) c hc.1]
            simp [ρ', e']
        · intro j c' T' hb
          refine wfs_mono hD c' ?_
          simp only [ASt.set] at hb
          cases e : Nat.beq j key
          · rw [e] at hb; exact hrel.wfb j c' T' hb
          · rw [e] at hb
            simp only [cond_true, Option.some.injEq, Prod.mk.injEq] at hb
            obtain ⟨rfl, rfl⟩ := hb
            exact hc.1
        · intro j j' hj hj' he
          rw [set_D] at hj hj'
          by_cases e1 : j = key
          · by_cases e2 : j' = key
            · rw [e1, e2]
            · rw [beq_ne e2, Bool.false_or] at hj'
              have := hlt j' hj'
              simp only [ρ', e1, e2, if_true, if_false] at he
              omega
          · rw [beq_ne e1, Bool.false_or] at hj
            by_cases e2 : j' = key
            · have := hlt j hj
              simp only [ρ', e1, e2, if_true, if_false] at he
              omega
            · rw [beq_ne e2, Bool.false_or] at hj'
              simp only [ρ', e1, e2, if_false] at he
              exact hrel.inj j j' hj hj' he
      have hval : (Value.pointer (some ⟨w.heap.size, 0, none⟩)) = (AV.p key 0).g ρ' := by simp [AV.g, ρ']
      rw [hval]
      refine ⟨_, ⟨(Subst.set key c T).trans (Subst.put _ _), ?_⟩, ρ', fun b => L b ∨ b = w.heap.size, Lu, wu, hok, hrel'.put o.dst _ (by simp only [AV.wf]; rw [set_D]; simp) hdst, ?_, ?_, ?_, ?_⟩
      · intro j hj
        rw [Stays.put (s := s.set key c T) o.dst (.p key 0) j hj]
        rfl
      · rw [put_D]
        intro k hk
        rw [set_D] at hk
        by_cases e : k = key
        · right; simp [ρ', e]
        · rw [beq_ne e, Bool.false_or] at hk
          left; rw [← hρ k hk]; exact hL k hk
      · refine ⟨fun b hb => Or.inl (hext.sub b hb), ?_, ?_, ?_, ?_, hext.same⟩
        · intro b hb hnb
          rcases hb with hb | rfl
          · exact hext.new b hb hnb
          · exact hext.size
        · intro b hb
          simp only [Array.size_push]
          rcases hb with hb | rfl
          · exact Nat.lt_succ_of_lt (hext.lt b hb)
          · exact Nat.lt_succ_self _
        · simp only [Array.size_push]; have := hext.size; omega
        · intro b hb hnb
          have := hext.size
          simp only [Array.getElem?_push]
          rw [if_neg (by omega)]
          exact hext.keep b hb hnb
      · intro q hq
        have hDq := hpd q hq
        rw [← hρ _ hDq]; exact hpin q hq
      · intro q hq
        rw [put_D]
        exact hD _ (hpd q hq)
    · exact hok.elim
  | stb q c T =>
    simp only at hok
    obtain ⟨hc1, c0, hb, w', hr, hsame, hsz, h1, h2⟩ := hc
    unfold runs at hr
    rw [hr]
    have hD : (s.set q c T).D = s.D := by
      funext j
      rw [set_D]
      cases e : Nat.beq j q
      · rfl
      · rw [Nat.eq_of_beq_eq_true e]; simp [ASt.D, hb]
    have hq := hL q (by simp [ASt.D, hb])
    have hrel' := (hrel.set (w' := w') hc1 hb h1 h2).put o.dst (.v undef) rfl hdst
    refine ⟨_, ⟨(Subst.set q c T).trans (Subst.put _ _), ?_⟩, ρ, L, Lu, wu, hok, hrel', ?_, ?_, hpin, ?_⟩
    · intro j hj
      rw [Stays.put (s := s.set q c T) o.dst (.v undef) j hj]
      rfl
    · rw [put_D, hD]; exact hL
    · refine ⟨hext.sub, hext.new, fun b hb => by rw [hsz]; exact hext.lt b hb, by rw [hsz]; exact hext.size, fun b hb' hnb => ?_, ?_⟩
      · have hne : b ≠ ρ q := fun e => by
          subst e
          have := hext.new _ hq hnb
          omega
        rw [h2 b hne]; exact hext.keep b hb' hnb
      · exact ⟨hsame.1.trans hext.same.1, hsame.2.1.trans hext.same.2.1, hsame.2.2.trans hext.same.2.2⟩
    · rw [put_D, hD]; exact hpd
  | chk c x =>
    simp only [split_eq] at hok
    obtain ⟨hct, hok⟩ := hok
    have hr : runs P o a w = _ := hc.2 hct
    unfold runs at hr
    rw [hr]
    exact ⟨_, ⟨Subst.put _ _, Stays.put _ _⟩, ρ, L, Lu, wu, hok, hrel.put o.dst x hc.1 hdst, by rw [put_D]; exact hL, hext, hpin, by rw [put_D]; exact hpd⟩
  | ld q ls row =>
    simp only at hok
    obtain ⟨ad, x, hq, hsp, hlt, hnl, hcell, hok⟩ := hok
    have hblk : w.heap[ad.block]? = wu.heap[ad.block]? := hext.keep _ hlt hnl
    have hcw : ∀ y : Addr, y.block = ad.block → w.cell? y = wu.cell? y := fun y hy => by unfold World.cell?; rw [hy, hblk]
    have hadd : ∀ j, (ad.add j).block = ad.block := fun j => by unfold Addr.add; split <;> rfl
    have hr := hc ad x hq hsp (fun j v hv => by rw [hcw _ (hadd j)]; exact hcell j v hv)
    unfold runs at hr
    rw [hr]
    have hwf : AV.wfs s.D (vs ls x) = true := vs_wf _ _ _
    cases row with
    | true =>
      simp only [if_true] at hok
      have he : Value.agg (Tup.V ls x).toArray = (AV.agg (vs ls x)).g ρ := by simp [AV.g, vs, gs_v]
      simp only [if_true, he]
      exact ⟨_, ⟨Subst.put _ _, Stays.put _ _⟩, ρ, L, Lu, wu, hok, hrel.put o.dst _ (by simp only [AV.wf]; exact hwf) hdst, by rw [put_D]; exact hL, hext, hpin, by rw [put_D]; exact hpd⟩
    | false =>
      simp only [split_eq, Bool.false_eq_true, if_false] at hok
      have he : (Tup.V ls x).headD undef = ((vs ls x).headD (.v undef)).g ρ := by
        unfold vs
        cases Tup.V ls x <;> rfl
      simp only [Bool.false_eq_true, if_false, he]
      exact ⟨_, ⟨Subst.put _ _, Stays.put _ _⟩, ρ, L, Lu, wu, hok, hrel.put o.dst _ (headD_wf _ _ hwf) hdst, by rw [put_D]; exact hL, hext, hpin, by rw [put_D]; exact hpd⟩
  | sto q xs =>
    simp only at hok
    split at hok
    · rename_i ex hex
      obtain ⟨o1, o2, o3⟩ := outOf_ok hrel hL _ ex hex
      obtain ⟨ad, hq, hsp, hnl, hthere, hok⟩ := hok ρ L w hpin hext o1
      have hr := hc.2 ad hq hsp hthere
      unfold runs at hr
      rw [hr]
      have hother : ∀ b, b ≠ ad.block → ∀ (vs : List Value) (i : Nat) (w : World), (w.setCells ad.block i vs).heap[b]? = w.heap[b]? := by
        intro b hb vs
        induction vs with
        | nil => intro i w; rfl
        | cons v r ih => intro i w; rw [World.setCells, ih]; simp only [World.setCell, Array.getElem?_modify]; rw [if_neg (fun e => hb e.symm)]
      have hsize : ∀ (vs : List Value) (i : Nat) (w : World), (w.setCells ad.block i vs).heap.size = w.heap.size := by
        intro vs
        induction vs with
        | nil => intro i w; rfl
        | cons v r ih => intro i w; rw [World.setCells, ih]; simp [World.setCell]
      have hrel' := (hrel.world (w' := w.setCells ad.block ad.off (AV.gs ρ xs)) (fun k hk => hother _ (fun e => hnl (e ▸ hL k hk)) _ _ _)).put o.dst (.v undef) rfl hdst
      refine ⟨_, ⟨Subst.put _ _, Stays.put _ _⟩, ρ, L, L, _, hok, hrel', by rw [put_D]; exact hL, Ext.refl (fun b hb => by rw [hsize]; exact hext.lt b hb), hpin, by rw [put_D]; exact hpd⟩
    · exact hok.elim
  | call f args t =>
    simp only at hok
    split at hok
    · rename_i sh ls ex hsh hex
      split at hok
      · rename_i els ns hles
        obtain ⟨o1, o2, o3⟩ := outOf_ok hrel hL _ ex hex
        have hcall := hok ρ L w hpin hext o1 o2
        have hr : runs P o a w = _ := hc.2
        unfold runs at hr
        rw [hr, Oper.upon_enter]
        refine hcall.mono ?_
        rintro e w2 ⟨x, rfl, hback, hkeep, hok2⟩
        simp only [split_eq] at hok2
        have hm : (segs ns ((vs (ls ++ els) x).drop ((ls ++ els).length - ns.sum))) = (segs ns ((Tup.V (ls ++ els) x).drop ((ls ++ els).length - ns.sum))).map (List.map AV.v) := by
          unfold vs
          rw [← List.map_drop, segs_map]
        rw [hm] at hok2
        obtain ⟨r1, r2⟩ := Rel.back (N := N) (ρ := ρ) (a := a) ex _ s w w2 hrel o3 o2 hback (fun k hk hx => hkeep.2.2 _ (hL k hk) hx)
        have hrel' := r1.put o.dst (sh.av (vs (ls ++ els) x)) (av_wf _ sh _ (vs_wf _ _ _)) hdst
        refine ⟨_, ⟨(Subst.back ex _ s).trans (Subst.put _ _), ?_⟩, ρ, L, L, w2, hok2, hrel', by rw [put_D, r2]; exact hL, Ext.refl (fun b hb => Nat.lt_of_lt_of_le (hext.lt b hb) hkeep.1), hpin, by rw [put_D, r2]; exact hpd⟩
        intro j hj
        rw [Stays.put o.dst _ j hj, back_tmps]
      · exact hok.elim
    · exact hok.elim
  | sem g t =>
    simp only at hok
    split at hok
    · rename_i sh ls hsh
      obtain ⟨x, w2, hrun, hkeep, hok2⟩ := hok L w hext
      have hr := hc _ _ hrun
      unfold runs at hr
      rw [hr]
      simp only [split_eq] at hok2
      have he : (sh.av (vs ls x)).g id = (sh.av (vs ls x)).g ρ := g_congr (D := fun _ => false) (fun k hk => by cases hk) _ (av_wf _ sh _ (vs_wf _ _ _))
      rw [he]
      have hrel' := (hrel.world (w' := w2) (fun k hk => hkeep.2.2 _ (hL k hk) (by simp))).put o.dst (sh.av (vs ls x)) (av_wf _ sh _ (vs_wf _ _ _)) hdst
      exact ⟨_, ⟨Subst.put _ _, Stays.put _ _⟩, ρ, L, L, w2, hok2, hrel', by rw [put_D]; exact hL, Ext.refl (fun b hb => Nat.lt_of_lt_of_le (hext.lt b hb) hkeep.1), hpin, by rw [put_D]; exact hpd⟩
    · exact hok.elim
  | bad why => exact hok.elim
end
end Go.Proofs.YtggemgbkkhpenaaW.Rx
