/- The machine for walks: code holds. -/
import Derived.Test.YtggemgbkkhpenaaRx9
namespace Go.Proofs.YtggemgbkkhpenaaW.Rx
open Go
set_option linter.unusedVariables false
set_option linter.unusedSimpArgs false
section
variable {P : Program} {pin : List (Nat × Nat)} {R : Ending → World → Prop} {N : Nat} {A : Nat → LA} {C : Nat → Option LA} {KS pk : List Nat} {drawX : Nat → Array Oper → ASt → (ASt → XT) → XT}
variable {ρ : Nat → Nat} {s : ASt} {a : Act} {w : World} {L Lu : Nat → Prop} {wu : World} {J : Jt}
theorem unLf_ok (l : Lf) (x : AV) (y : l.T) (h : unLf l x = some y) : x = .v (l.V y) := by
  unfold unLf at h
  split at h <;> try (cases h; done)
  · split at h
    · rename_i k k' n e; cases h; subst e; rfl
    · cases h
  all_goals (cases h; rfl)
theorem unTup_ok : ∀ (ls : List Lf) (xs : List AV) (y : Tup ls), unTup ls xs = some y → xs = vs ls y
  | [], [], y, h => rfl
  | l :: r, x :: xs, y, h => by
    simp only [unTup] at h
    split at h
    · rename_i a b h1 h2
      cases h
      have e1 := unLf_ok l x a h1
      have e2 := unTup_ok r xs b h2
      rw [e1, e2]; rfl
    · cases h
  | [], _ :: _, y, h => by cases h
  | _ :: _, [], y, h => by cases h
theorem giveSlots_ok : ∀ (sl : List (Nat × Bool × List Lf)) (xs rest : List AV) (s : ASt), takeSlots s sl = some xs → ∀ j x, giveSlots sl (xs ++ rest) j = some x → ∃ y, s.tmps j = some y ∧ y = x
  | [], xs, rest, s, h, j, x, hx => by simp [giveSlots] at hx
  | (i, row, lf) :: r, xs, rest, s, h, j, x, hx => by
    simp only [takeSlots] at h
    split at h
    · rename_i z zs hz hzs
      cases row
      · simp only [Bool.false_eq_true, if_false] at h
        split at h
        · rename_i hl
          cases h
          have hl := Nat.eq_of_beq_eq_true hl
          simp only [giveSlots] at hx
          cases e : Nat.beq j i
          · rw [e] at hx
            simp only [cond_false, hl, List.cons_append, List.drop_succ_cons, List.drop_zero] at hx
            exact giveSlots_ok r zs rest s hzs j x hx
          · rw [e] at hx
            simp only [cond_true, Bool.false_eq_true, if_false, List.cons_append, List.headD_cons, Option.some.injEq] at hx
            rw [Nat.eq_of_beq_eq_true e]
            exact ⟨z, hz, hx⟩
        · cases h
      · simp only [if_true] at h
        split at h
        · rename_i cs
          split at h
          · rename_i hl
            cases h
            have hl := Nat.eq_of_beq_eq_true hl
            simp only [giveSlots] at hx
            cases e : Nat.beq j i
            · rw [e] at hx
              simp only [cond_false, ← hl, List.append_assoc, List.drop_left] at hx
              exact giveSlots_ok r zs rest s hzs j x hx
            · rw [e] at hx
              simp only [cond_true, if_true, ← hl, List.append_assoc, List.take_left, Option.some.injEq] at hx
              rw [Nat.eq_of_beq_eq_true e]
              exact ⟨_, hz, hx⟩
          · cases h
        · cases h
    · cases h
theorem giveCells_ok : ∀ (sl : List (Nat × List Lf)) (xs : List AV) (s : ASt), takeCells s sl = some xs → ∀ k c, giveCells sl xs k = some c → ∃ T, s.blks k = some (c, T)
  | [], xs, s, h, j, x, hx => by simp [giveCells] at hx
  | (i, lf) :: r, xs, s, h, j, x, hx => by
    simp only [takeCells] at h
    split at h
    · rename_i cs T zs hz hzs
      split at h
      · rename_i hl
        cases h
        have hl := Nat.eq_of_beq_eq_true hl
        simp only [giveCells] at hx
        cases e : Nat.beq j i
        · rw [e] at hx
          simp only [cond_false, ← hl, List.drop_left] at hx
          exact giveCells_ok r zs s hzs j x hx
        · rw [e] at hx
          simp only [cond_true, ← hl, List.take_left, Option.some.injEq] at hx
          rw [Nat.eq_of_beq_eq_true e, ← hx]
          exact ⟨T, hz⟩
      · cases h
    · cases h
theorem giveCells_some : ∀ (sl : List (Nat × List Lf)) (xs : List AV) (k : Nat), (giveCells sl xs k).isSome = sl.any fun x => Nat.beq x.1 k
  | [], xs, k => rfl
  | (i, lf) :: r, xs, k => by
    simp only [giveCells, List.any_cons]
    have hc : Nat.beq i k = Nat.beq k i := by
      by_cases e : i = k
      · rw [e]
      · rw [beq_ne e, beq_ne (Ne.symm e)]
    rw [hc]
    cases Nat.beq k i
    · simp only [cond_false, Bool.false_or]; exact giveCells_some r _ k
    · rfl
theorem takeSlots_len : ∀ (sl : List (Nat × Bool × List Lf)) (xs : List AV), takeSlots s sl = some xs → xs.length = (sl.flatMap fun x => x.2.2).length
  | [], xs, h => by simp only [takeSlots, Option.some.injEq] at h; subst h; rfl
  | (i, row, lf) :: r, xs, h => by
    simp only [takeSlots] at h
    split at h
    · rename_i z zs hz hzs
      have ih := takeSlots_len r zs hzs
      cases row
      · simp only [Bool.false_eq_true, if_false] at h
        split at h
        · rename_i hl
          cases h
          have hl := Nat.eq_of_beq_eq_true hl
          simp [ih, hl]; omega
        · cases h
      · simp only [if_true] at h
        split at h
        · split at h
          · rename_i hl
            cases h
            have hl := Nat.eq_of_beq_eq_true hl
            simp [ih, hl]
          · cases h
        · cases h
    · cases h
/-- The head of a round, out of a frame that agrees with it. -/
theorem head_rel {la : LA} {W rs : List Nat} {s s' : ASt} {x : Tup la.ls} (hr : Rel N ρ s' a w) (ht : takeS la s' = some x) (hok : headOk KS (headS N la s W rs KS (vs la.ls x)) = true)
    (h1 : ∀ j, j ∉ W → giveSlots la.slots (vs la.ls x) j = none → j < N → ∀ y, s.tmps j = some y → y.wf (fun k => KS.contains k && !dropped rs k && (s.blks k).isSome) = true → s'.tmps j = some y)
    (h2 : ∀ k c T, s.blks k = some (c, T) → KS.contains k = true → dropped rs k = false → ((la.cells.any fun x => Nat.beq x.1 k) = true → ∃ c', s'.blks k = some (c', T)) ∧ ((la.cells.any fun x => Nat.beq x.1 k) = false → s'.blks k = some (c, T))) :
    Rel N ρ (headS N la s W rs KS (vs la.ls x)) a w ∧ ∀ k, (headS N la s W rs KS (vs la.ls x)).D k = true → s'.D k = true := by
  have hx : ∃ p q, takeSlots s' la.slots = some p ∧ takeCells s' la.cells = some q ∧ p ++ q = vs la.ls x := by
    unfold takeS at ht
    split at ht
    · rename_i p q hp hq
      exact ⟨p, q, hp, hq, unTup_ok _ _ _ ht⟩
    · cases ht
  obtain ⟨p, q, hp, hq, hpq⟩ := hx
  have hplen := takeSlots_len _ _ hp
  have hdrop : (vs la.ls x).drop (la.slots.flatMap fun x => x.2.2).length = q := by rw [← hpq, ← hplen]; simp
  have hDeq : ∀ k, (headS N la s W rs KS (vs la.ls x)).D k = (KS.contains k && !dropped rs k && (s.blks k).isSome) := by
    intro k
    simp only [ASt.D, headS]
    cases hk : (KS.contains k && !dropped rs k)
    · simp
    · simp only [if_true, Bool.true_and]
      cases hb : s.blks k with
      | none => rfl
      | some cT =>
        obtain ⟨c, T⟩ := cT
        dsimp only
        split <;> rfl
  have hblk : ∀ k c T, (headS N la s W rs KS (vs la.ls x)).blks k = some (c, T) → s'.blks k = some (c, T) := by
    intro k c T hb
    simp only [headS] at hb
    cases hk : (KS.contains k && !dropped rs k)
    · rw [hk] at hb; simp at hb
    · rw [hk] at hb
      simp only [if_true] at hb
      simp only [Bool.and_eq_true, Bool.not_eq_true'] at hk
      cases hs : s.blks k with
      | none => rw [hs] at hb; cases hb
      | some cT =>
        obtain ⟨c0, T0⟩ := cT
        rw [hs, hdrop] at hb
        obtain ⟨g1, g2⟩ := h2 k c0 T0 hs hk.1 hk.2
        dsimp only at hb
        have hsome := giveCells_some la.cells q k
        cases hg : giveCells la.cells q k with
        | none =>
          rw [hg] at hb hsome
          cases hb
          exact g2 (by rw [← hsome]; rfl)
        | some c' =>
          rw [hg] at hb hsome
          cases hb
          obtain ⟨T', ht'⟩ := giveCells_ok _ _ s' hq k _ hg
          obtain ⟨c'', hc''⟩ := g1 (by rw [← hsome]; rfl)
          rw [ht'] at hc''
          cases hc''
          exact ht'
  have hD : ∀ k, (headS N la s W rs KS (vs la.ls x)).D k = true → s'.D k = true := by
    intro k hk
    obtain ⟨⟨c, T⟩, hb⟩ := Option.isSome_iff_exists.1 hk
    simp [ASt.D, hblk k c T hb]
  refine ⟨⟨hr.size, ?_, ?_, ?_, ?_, ?_, hr.defers⟩, hD⟩
  · intro j y hy
    simp only [headS] at hy
    by_cases hjN' : Nat.blt j N = true
    case neg => rw [if_neg hjN'] at hy; cases hy
    rw [if_pos hjN'] at hy
    have hjN : j < N := by simpa [Nat.blt_eq] using hjN'
    split at hy
    · rename_i z hz
      cases hy
      rw [← hpq] at hz
      obtain ⟨y', h3, rfl⟩ := giveSlots_ok _ _ _ _ hp j _ hz
      exact hr.tmps j _ h3
    · split at hy
      · cases hy
      · rename_i hW
        split at hy
        · rename_i z hz
          split at hy
          · rename_i hwf
            cases hy
            exact hr.tmps j _ (h1 j (by simpa using hW) (by assumption) hjN _ hz hwf)
          · cases hy
        · cases hy
  · intro j y hy
    simp only [headS] at hy
    by_cases hjN' : Nat.blt j N = true
    case neg => rw [if_neg hjN'] at hy; cases hy
    rw [if_pos hjN'] at hy
    split at hy
    · rename_i z hz
      cases hy
      -- a carried slot holds leaves alone
      have : ∀ (sl : List (Nat × Bool × List Lf)) (l : List AV), AV.wfs (headS N la s W rs KS (vs la.ls x)).D l = true → ∀ y, giveSlots sl l j = some y → y.wf (headS N la s W rs KS (vs la.ls x)).D = true := by
        intro sl
        induction sl with
        | nil => intro l _ y hy; simp [giveSlots] at hy
        | cons q r ih =>
          obtain ⟨i, row, lf⟩ := q
          intro l hl y hy
          simp only [giveSlots] at hy
          cases e : Nat.beq j i
          · rw [e] at hy; exact ih _ (wfs_drop _ _ hl) y hy
          · rw [e] at hy
            simp only [cond_true, Option.some.injEq] at hy
            subst hy
            split
            · simp only [AV.wf]; exact wfs_take _ _ hl
            · exact headD_wf _ l hl
      exact this _ _ (vs_wf _ _ _) _ hz
    · split at hy
      · cases hy
      · split at hy
        · split at hy
          · rename_i hwf
            cases hy
            exact wf_mono (fun k hk => by rw [hDeq]; exact hk) _ hwf
          · cases hy
        · cases hy
  · exact fun k c T hb => hr.blks k c T (hblk k c T hb)
  · intro k c T hb
    have hk : KS.contains k = true := by
      have : (headS N la s W rs KS (vs la.ls x)).D k = true := by simp [ASt.D, hb]
      rw [hDeq, Bool.and_eq_true, Bool.and_eq_true] at this
      exact this.1.1
    have := (List.all_eq_true.1 hok) k (by simpa using hk)
    rw [hb] at this
    exact this
  · exact fun k k' hk hk' => hr.inj k k' (hD k hk) (hD k' hk')
theorem giveSlots_none : ∀ (sl : List (Nat × Bool × List Lf)) (xs ys : List AV) (j : Nat), giveSlots sl xs j = none → giveSlots sl ys j = none
  | [], xs, ys, j, h => rfl
  | (i, row, lf) :: r, xs, ys, j, h => by
    simp only [giveSlots] at h ⊢
    cases e : Nat.beq j i
    · rw [e] at h; exact giveSlots_none r _ _ j h
    · rw [e] at h; cases h
theorem giveSlots_mem : ∀ (sl : List (Nat × Bool × List Lf)) (xs : List AV) (j : Nat) (x : AV), giveSlots sl xs j = some x → ∃ q ∈ sl, q.1 = j
  | [], xs, j, x, h => by simp [giveSlots] at h
  | (i, row, lf) :: r, xs, j, x, h => by
    simp only [giveSlots] at h
    cases e : Nat.beq j i
    · rw [e] at h
      obtain ⟨q, hq, he⟩ := giveSlots_mem r _ j x h
      exact ⟨q, List.mem_cons_of_mem _ hq, he⟩
    · exact ⟨_, List.mem_cons_self, (Nat.eq_of_beq_eq_true e).symm⟩
theorem went_head {la : LA} {W rs : List Nat} (y : Tup la.ls) (hsl : la.slots.all (fun x => W.contains x.1 && Nat.blt x.1 N) = true) : Went W s (headS N la s W rs KS (vs la.ls y)) := by
  refine ⟨fun k => ?_, fun j hj => ?_⟩
  · have hv : (headS N la s W rs KS (vs la.ls y)).ver k = if ((la.cells.any fun x => Nat.beq x.1 k) || dropped rs k || !KS.contains k) = true then s.ver k + 1 else s.ver k := rfl
    by_cases hb : ((la.cells.any fun x => Nat.beq x.1 k) || dropped rs k || !KS.contains k) = true
    · rw [hv, if_pos hb]
      exact ⟨Nat.le_succ _, fun e => by omega⟩
    · rw [hv, if_neg hb]
      refine ⟨Nat.le_refl _, fun _ => ?_⟩
      simp only [Bool.not_eq_true, Bool.or_eq_false_iff, Bool.not_eq_false'] at hb
      obtain ⟨⟨b1, b2⟩, b3⟩ := hb
      simp only [headS, b2, b3, Bool.not_false, Bool.and_self, if_true]
      have hsome := giveCells_some la.cells ((vs la.ls y).drop (la.slots.flatMap fun x => x.2.2).length) k
      rw [b1] at hsome
      cases hg : giveCells la.cells ((vs la.ls y).drop (la.slots.flatMap fun x => x.2.2).length) k with
      | some q => rw [hg] at hsome; cases hsome
      | none =>
        cases hb : s.blks k with
        | none => rfl
        | some cT => rfl
  · simp only [headS]
    by_cases hjN' : Nat.blt j N = true
    · rw [if_pos hjN']
      have hW : W.contains j = false := by simpa using hj
      have hns : giveSlots la.slots (vs la.ls y) j = none := by
        cases hg : giveSlots la.slots (vs la.ls y) j with
        | none => rfl
        | some q =>
          obtain ⟨x, hx, hxe⟩ := giveSlots_mem _ _ _ _ hg
          have := (List.all_eq_true.1 hsl) x hx
          rw [Bool.and_eq_true] at this
          rw [hxe, hW] at this
          exact absurd this.1 (by simp)
      rw [hns]
      simp only [hW, Bool.false_eq_true, if_false]
      cases hs : s.tmps j with
      | none => exact Or.inl rfl
      | some u => dsimp only; split; exact Or.inl rfl; exact Or.inr rfl
    · rw [if_neg hjN']; exact Or.inr rfl
/-- A frame behind a piece agrees with what its head says. -/
theorem agrees {la : LA} {W rs : List Nat} {s0 s' : ASt} {y z : Tup la.ls} (hw : Went W (headS N la s0 W rs KS (vs la.ls y)) s' ∨ Went W s0 s') (hback : backOk la rs KS (headS N la s0 W rs KS (vs la.ls y)) s' = true) (htmps : tmpsOk N W (headS N la s0 W rs KS (vs la.ls y)) s' = true) :
    (∀ j, j ∉ W → giveSlots la.slots (vs la.ls z) j = none → j < N → ∀ u, s0.tmps j = some u → u.wf (fun k => KS.contains k && !dropped rs k && (s0.blks k).isSome) = true → s'.tmps j = some u) ∧ (∀ k c' T, s0.blks k = some (c', T) → KS.contains k = true → dropped rs k = false → ((la.cells.any fun x => Nat.beq x.1 k) = true → ∃ c', s'.blks k = some (c', T)) ∧ ((la.cells.any fun x => Nat.beq x.1 k) = false → s'.blks k = some (c', T))) := by
  refine ⟨?_, ?_⟩
  · intro j hj hns hjN u hu hwf
    have hW : W.contains j = false := by simpa using hj
    have hns' : giveSlots la.slots (vs la.ls y) j = none := giveSlots_none _ _ _ _ hns
    have hjb : Nat.blt j N = true := by simpa [Nat.blt_eq] using hjN
    have hhj : (headS N la s0 W rs KS (vs la.ls y)).tmps j = some u := by
      simp only [headS, hns', hjb, hW, Bool.false_eq_true, if_false, hu, hwf, if_true]
    have hto := (List.all_eq_true.1 htmps) j (List.mem_range.2 hjN)
    rw [hhj, hW] at hto
    rcases hw with hw | hw
    · rcases hw.2 j hj with e | e
      · rw [e]; exact hhj
      · rw [e] at hto; simp at hto
    · rcases hw.2 j hj with e | e
      · rw [e]; exact hu
      · rw [e] at hto; simp at hto
  · intro k c' T hb hk hd
    have hmem : k ∈ KS := by simpa using hk
    have hbk := (List.all_eq_true.1 hback) k hmem
    rw [hd, Bool.false_or] at hbk
    have hhb : (headS N la s0 W rs KS (vs la.ls y)).blks k = (match giveCells la.cells ((vs la.ls y).drop (la.slots.flatMap fun x => x.2.2).length) k with | some c' => some (c', T) | none => some (c', T)) := by
      simp only [headS, hk, hd, Bool.not_false, Bool.and_self, if_true, hb]
      rfl
    have hsome := giveCells_some la.cells ((vs la.ls y).drop (la.slots.flatMap fun x => x.2.2).length) k
    refine ⟨fun hcar => ?_, fun hcar => ?_⟩
    · rw [hcar] at hsome
      obtain ⟨c2, hc2⟩ := Option.isSome_iff_exists.1 hsome
      rw [hc2] at hhb
      dsimp only at hhb
      rw [hhb] at hbk
      simp only [hcar, if_true] at hbk
      split at hbk
      · rename_i c3 T3 hs3
        rw [hs3]
        exact ⟨c3, by rw [Nat.eq_of_beq_eq_true hbk]⟩
      · cases hbk
    · rw [hcar] at hsome
      have hnone : giveCells la.cells ((vs la.ls y).drop (la.slots.flatMap fun x => x.2.2).length) k = none := by
        cases hg : giveCells la.cells ((vs la.ls y).drop (la.slots.flatMap fun x => x.2.2).length) k with
        | none => rfl
        | some q => rw [hg] at hsome; cases hsome
      rw [hnone] at hhb
      dsimp only at hhb
      rw [hhb] at hbk
      simp only [hcar, Bool.false_eq_true, if_false] at hbk
      have hv : (headS N la s0 W rs KS (vs la.ls y)).ver k = s0.ver k := by
        show (if ((la.cells.any fun x => Nat.beq x.1 k) || dropped rs k || !KS.contains k) = true then s0.ver k + 1 else s0.ver k) = s0.ver k
        rw [hcar, hd, hk]; rfl
      rcases hw with hw | hw
      · rw [(hw.1 k).2 (Nat.eq_of_beq_eq_true hbk), hhb]
      · rw [(hw.1 k).2 (by rw [Nat.eq_of_beq_eq_true hbk, hv]), hb]
/-- There is a least. -/
theorem exists_least (p : Nat → Prop) (h : ∃ n, p n) : ∃ n, p n ∧ ∀ m, m < n → ¬ p m := by
  obtain ⟨n, hn⟩ := h
  induction n using Nat.strongRecOn with
  | _ n ih =>
    by_cases hm : ∃ m, m < n ∧ p m
    · obtain ⟨m, h1, h2⟩ := hm; exact ih m h1 h2
    · exact ⟨n, hn, fun m h1 h2 => hm ⟨m, h1, h2⟩⟩
theorem ok_cond {b : Bool} {t e : XT} (h : Inv P pin R N s (bif b then t else e) J a w) : (b = true → Inv P pin R N s t J a w) ∧ (b = false → Inv P pin R N s e J a w) := by
  cases b
  · exact ⟨(fun h => by cases h), fun _ => h⟩
  · exact ⟨fun _ => h, (fun h => by cases h)⟩
/-- CODE HOLDS. -/
theorem X_ok (hmix : ∀ id ops s k (J : Jt) a w, Inv P pin R N s (drawX ((id + 1) * 1000) ops s k) J a w → (Code.region id ops true).wp P (fun e a' w' => e = .normal ∧ ∃ s', Went (dsts ops) s s' ∧ Inv P pin R N s' (k s') J a' w') a w)
    (hdraw : ∀ base ops s k (p : Nat → Prop), (∀ s', XT.loc (k s') p) → (drawX base ops s k).loc p) (hpk : ∀ q ∈ pin, q.1 ∈ pk) :
    ∀ (c : Code) (l : Nat) (s : ASt) (κ : XE → ASt → XT) (J : Jt) (a : Act) (w : World), (∀ e s', (κ e s').loc (· < l)) → Inv P pin R N s (X P N A C KS pk drawX c l s κ) J a w →
      c.wp P (fun e a' w' => ∃ e' s', e = e'.c ∧ Went (codeDsts c) s s' ∧ Inv P pin R N s' (κ e' s') J a' w') a w
  | .skip, l, s, κ, J, a, w, hκ, h => wp_skip ⟨.norm, s, rfl, Went.refl _ s, h⟩
  | .region id ops draw, l, s, κ, J, a, w, hκ, h => by
    unfold X at h
    cases draw
    · simp only [cond_false] at h
      exact wp_region (run_ok _ s a w h (fun s' a' w' hw hi => ⟨.norm, s', rfl, hw, hi⟩))
    · simp only [cond_true] at h
      refine wp_mono (hmix _ _ _ _ _ _ _ h) ?_
      rintro e a' w' ⟨rfl, s', hw, hi⟩
      exact ⟨.norm, s', rfl, hw, hi⟩
  | .seq c d, l, s, κ, J, a, w, hκ, h => by
    unfold X at h
    split at h
    · refine wp_seq (wp_mono (X_ok hmix hdraw hpk c l s _ J a w ?_ h) ?_)
      · intro e s'
        cases e
        · exact X_loc hdraw d _ l s' κ hκ
        · exact hκ _ _
        · exact hκ _ _
      · rintro e a' w' ⟨e', s', rfl, hw, hi⟩
        have hw1 : Went (codeDsts (.seq c d)) s s' := hw.mono (fun j hj => by simp only [codeDsts, List.mem_append]; exact Or.inl hj)
        cases e' with
        | norm =>
          refine wp_mono (X_ok hmix hdraw hpk d l s' κ J a' w' hκ hi) ?_
          rintro e a'' w'' ⟨e', s'', rfl, hw', hi'⟩
          exact ⟨e', s'', rfl, hw1.trans (hw'.mono (fun j hj => by simp only [codeDsts, List.mem_append]; exact Or.inr hj)), hi'⟩
        | exit i => exact ⟨.exit i, s', rfl, hw1, hi⟩
        | ret => exact ⟨.ret, s', rfl, hw1, hi⟩
    · rename_i la hla
      dsimp only at h
      split at h
      · rename_i hpins
        rw [Bool.and_eq_true] at hpins
        obtain ⟨ρ0, L0, Lu0, wu0, hok, hrel0, hL0, hext0, hpin0, hpd0⟩ := h
        obtain ⟨I, hbody, hk⟩ := hok
        dsimp only at hk
        have pins : ∀ (y : Tup la.ls), (∀ q ∈ pin, s.D q.1 = true) → ∀ q ∈ pin, (headS N la s (codeDsts c) (codeRegs c) KS (vs la.ls y)).D q.1 = true := by
          intro y hp q hq
          have h1 := (List.all_eq_true.1 hpins.1) q.1 (hpk q hq)
          obtain ⟨⟨c', T⟩, hb⟩ := Option.isSome_iff_exists.1 (hp q hq)
          simp only [ASt.D, headS, h1, if_true, hb]
          split <;> rfl
        refine wp_seq (wp_mono (X_ok hmix hdraw hpk c (l + 1) s _ _ a w ?_ ⟨ρ0, L0, Lu0, wu0, hbody, hrel0, hL0, hext0, hpin0, hpd0⟩) ?_)
        · intro e s'
          cases e
          · dsimp only
            split
            · split
              · exact Nat.lt_succ_self l
              · trivial
            · trivial
          · exact loc_mono _ _ _ (fun m hm => Nat.lt_succ_of_lt hm) (hκ _ _)
          · exact loc_mono _ _ _ (fun m hm => Nat.lt_succ_of_lt hm) (hκ _ _)
        · rintro e a' w' ⟨e', s', rfl, hw, hi⟩
          have hw1 : Went (codeDsts (.seq c d)) s s' := hw.mono (fun j hj => by simp only [codeDsts, List.mem_append]; exact Or.inl hj)
          have out : ∀ e', Inv P pin R N s' (κ e' s') (J.set l fun ls' z L w => ∃ h : ls' = la.ls, I (h ▸ z) L w) a' w' → Inv P pin R N s' (κ e' s') J a' w' := by
            rintro e' ⟨ρ, L, Lu, wu, hok, rest⟩
            refine ⟨ρ, L, Lu, wu, ok_congr _ (· < l) _ _ _ _ (fun m hm => ?_) (hκ _ _) hok, rest⟩
            unfold Jt.set
            rw [if_neg (Nat.ne_of_lt hm)]
          cases e' with
          | exit i => exact ⟨.exit i, s', rfl, hw1, out _ hi⟩
          | ret => exact ⟨.ret, s', rfl, hw1, out _ hi⟩
          | norm =>
            dsimp only at hi
            split at hi
            · rename_i z hz
              split at hi
              · rename_i hback
                rw [Bool.and_eq_true, Bool.and_eq_true] at hback
                obtain ⟨⟨hback, htmps⟩, hokz⟩ := hback
                obtain ⟨ρ', L', Lu', wu', hag, hrel', hL', hext', hpin'', hpd''⟩ := hi
                have hag := hag L' w' hext'
                unfold Jt.set at hag
                rw [if_pos rfl] at hag
                obtain ⟨_, hIz⟩ := hag
                have hh := agrees (z := z) (Or.inr hw) hback htmps
                obtain ⟨r1, r2⟩ := head_rel (la := la) (W := codeDsts c) (rs := codeRegs c) (KS := KS) (s := s) hrel' hz hokz hh.1 hh.2
                refine wp_mono (X_ok hmix hdraw hpk d l _ κ J a' w' hκ ⟨ρ', L', L', w', hk z L' w' hIz, r1, fun k hk => hL' k (r2 k hk), Ext.refl hext'.lt, hpin'', pins z hpd0⟩) ?_
                rintro e a'' w'' ⟨e', s'', rfl, hw', hi'⟩
                refine ⟨e', s'', rfl, Went.trans ((went_head (la := la) z hpins.2).mono (fun j hj => by simp only [codeDsts, List.mem_append]; exact Or.inl hj)) (hw'.mono (fun j hj => by simp only [codeDsts, List.mem_append]; exact Or.inr hj)), hi'⟩
              · obtain ⟨_, _, _, _, hok, _⟩ := hi; exact hok.elim
            · obtain ⟨_, _, _, _, hok, _⟩ := hi; exact hok.elim
      · obtain ⟨_, _, _, _, hok, _⟩ := h; exact hok.elim
  | .cond c x y, l, s, κ, J, a, w, hκ, h => by
    unfold X at h
    split at h
    · rename_i t ht
      have hc : a.eval c = .bool t := by
        obtain ⟨ρ, L, Lu, wu, _, hrel, _⟩ := h
        exact (hrel.env.ev c _ ht).1
      obtain ⟨h1, h2⟩ := ok_cond h
      cases t with
      | true =>
        refine wp_cond_true hc (wp_mono (X_ok hmix hdraw hpk x l s κ J a w hκ (h1 rfl)) ?_)
        rintro e a' w' ⟨e', s', rfl, hw, hi⟩
        exact ⟨e', s', rfl, hw.mono (fun j hj => by simp only [codeDsts, List.mem_append]; exact Or.inl hj), hi⟩
      | false =>
        refine wp_cond_false hc (wp_mono (X_ok hmix hdraw hpk y l s κ J a w hκ (h2 rfl)) ?_)
        rintro e a' w' ⟨e', s', rfl, hw, hi⟩
        exact ⟨e', s', rfl, hw.mono (fun j hj => by simp only [codeDsts, List.mem_append]; exact Or.inr hj), hi⟩
    · obtain ⟨ρ, L, Lu, wu, hok, _⟩ := h; exact hok.elim
  | .block id c, l, s, κ, J, a, w, hκ, h => by
    unfold X at h
    refine wp_block (wp_mono (X_ok hmix hdraw hpk c l s _ J a w ?_ h) ?_)
    · intro e s'
      cases e
      · exact hκ _ _
      · dsimp only; split <;> exact hκ _ _
      · exact hκ _ _
    · rintro e a' w' ⟨e', s', rfl, hw, hi⟩
      have hw1 : Went (codeDsts (.block id c)) s s' := hw
      cases e' with
      | norm => exact ⟨.norm, s', rfl, hw1, hi⟩
      | exit i =>
        dsimp only at hi
        show (if i = id then _ else _)
        split
        · rename_i e
          rw [if_pos e] at hi
          exact ⟨.norm, s', rfl, hw1, hi⟩
        · rename_i e
          rw [if_neg e] at hi
          exact ⟨.exit i, s', rfl, hw1, hi⟩
      | ret => exact ⟨.ret, s', rfl, hw1, hi⟩
  | .exit id, l, s, κ, J, a, w, hκ, h => wp_exit ⟨.exit id, s, rfl, Went.refl _ s, h⟩
  | .ret, l, s, κ, J, a, w, hκ, h => wp_ret ⟨.ret, s, rfl, Went.refl _ s, h⟩
  | .loop c, l, s, κ, J, a, w, hκ, h => by
    unfold X at h
    dsimp only at h
    generalize hla : A (firstReg (codeRegs c)) = la at h
    split at h
    · rename_i x0 hx0
      split at h
      · rename_i hpins
        rw [Bool.and_eq_true] at hpins
        obtain ⟨ρ0, L0, Lu0, wu0, hok, hrel0, hL0, hext0, hpin0, hpd0⟩ := h
        obtain ⟨I, ⟨n0, h0⟩, hround⟩ := hok
        dsimp only at hround
        -- the head of a round, for the frame and the world
        let Hd : Nat → Act → World → Prop := fun n a w => ∃ (y : Tup la.ls) (ρ : Nat → Nat) (L Lu : Nat → Prop) (wu : World), I n y Lu wu ∧ Rel N ρ (headS N la s (codeDsts c) (codeRegs c) KS (vs la.ls y)) a w ∧ (∀ k, (headS N la s (codeDsts c) (codeRegs c) KS (vs la.ls y)).D k = true → L (ρ k)) ∧ Ext Lu wu L w ∧ Pin pin ρ ∧ (∀ q ∈ pin, (headS N la s (codeDsts c) (codeRegs c) KS (vs la.ls y)).D q.1 = true)
        have pins : ∀ (y : Tup la.ls), (∀ q ∈ pin, s.D q.1 = true) → ∀ q ∈ pin, (headS N la s (codeDsts c) (codeRegs c) KS (vs la.ls y)).D q.1 = true := by
          intro y hp q hq
          have h1 := (List.all_eq_true.1 hpins.1) q.1 (hpk q hq)
          obtain ⟨⟨c', T⟩, hb⟩ := Option.isSome_iff_exists.1 (hp q hq)
          simp only [ASt.D, headS, h1, if_true, hb]
          split <;> rfl
        have hok0 : headOk KS (headS N la s (codeDsts c) (codeRegs c) KS (vs la.ls x0)) = true := by
          have := hround n0 x0 Lu0 wu0 h0
          split at this
          · assumption
          · exact this.elim
        have hstart : Hd n0 a w := by
          obtain ⟨r1, r2⟩ := head_rel (la := la) (W := codeDsts c) (rs := codeRegs c) (KS := KS) (s := s) hrel0 hx0 hok0 (fun j hj _ _ y hy hwf => hy) (fun k c' T hb hk hd => ⟨fun _ => ⟨c', hb⟩, fun _ => hb⟩)
          exact ⟨x0, ρ0, L0, Lu0, wu0, h0, r1, fun k hk => hL0 k (r2 k hk), hext0, hpin0, pins x0 hpd0⟩
        have hex : ∀ a w, (∃ n, Hd n a w) → ∃ n, Hd n a w ∧ ∀ m, m < n → ¬ Hd m a w := fun a w h => exists_least _ h
        classical
        let μ : Act → World → Nat := fun a w => if h : ∃ n, Hd n a w then Classical.choose (hex a w h) else 0
        have μ_spec : ∀ a w (h : ∃ n, Hd n a w), Hd (μ a w) a w ∧ ∀ m, m < μ a w → ¬ Hd m a w := by
          intro a w h
          have := Classical.choose_spec (hex a w h)
          simp only [μ, dif_pos h]
          exact this
        refine wp_mono (wp_loop (P := P) (Q := fun e a' w' => ∃ e' s', e = e'.c ∧ (∃ y, Went (codeDsts c) (headS N la s (codeDsts c) (codeRegs c) KS (vs la.ls y)) s') ∧ Inv P pin R N s' (κ e' s') J a' w') (fun a w => ∃ n, Hd n a w) μ ⟨n0, hstart⟩ ?_) ?_
        · intro a w hIw
          obtain ⟨hhd, hmin⟩ := μ_spec a w hIw
          generalize hn : μ a w = n at hhd hmin
          obtain ⟨y, ρ, L, Lu, wu, hI, hrel, hL, hext, hpin', hpd'⟩ := hhd
          have hb := hround n y Lu wu hI
          split at hb
          · rename_i hhead
            have hinv : Inv P pin R N (headS N la s (codeDsts c) (codeRegs c) KS (vs la.ls y)) _ _ a w := ⟨ρ, L, Lu, wu, hb, hrel, hL, hext, hpin', hpd'⟩
            refine wp_mono (X_ok hmix hdraw hpk c (l + 1) _ _ _ a w ?_ hinv) ?_
            · intro e s'
              cases e
              · dsimp only
                split
                · split
                  · exact Nat.lt_succ_self l
                  · trivial
                · trivial
              · exact loc_mono _ _ _ (fun m hm => Nat.lt_succ_of_lt hm) (hκ _ _)
              · exact loc_mono _ _ _ (fun m hm => Nat.lt_succ_of_lt hm) (hκ _ _)
            · rintro e a' w' ⟨e', s', rfl, hw, hi⟩
              have out : ∀ e', Inv P pin R N s' (κ e' s') (J.set l fun ls' z L' w' => ∃ h : ls' = la.ls, ∃ m, m < n ∧ I m (h ▸ z) L' w') a' w' → Inv P pin R N s' (κ e' s') J a' w' := by
                rintro e' ⟨ρ, L, Lu, wu, hok, rest⟩
                refine ⟨ρ, L, Lu, wu, ok_congr _ (· < l) _ _ _ _ (fun m hm => ?_) (hκ _ _) hok, rest⟩
                unfold Jt.set
                rw [if_neg (Nat.ne_of_lt hm)]
              cases e' with
              | exit i => exact ⟨.exit i, s', rfl, ⟨y, hw⟩, out _ hi⟩
              | ret => exact ⟨.ret, s', rfl, ⟨y, hw⟩, out _ hi⟩
              | norm =>
                dsimp only at hi
                split at hi
                · rename_i z hz
                  split at hi
                  · rename_i hback
                    rw [Bool.and_eq_true] at hback
                    obtain ⟨hback, htmps⟩ := hback
                    obtain ⟨ρ', L', Lu', wu', hag, hrel', hL', hext', hpin'', hpd''⟩ := hi
                    have hag := hag L' w' hext'
                    unfold Jt.set at hag
                    rw [if_pos rfl] at hag
                    obtain ⟨_, m, hm, hIm⟩ := hag
                    have hokz : headOk KS (headS N la s (codeDsts c) (codeRegs c) KS (vs la.ls z)) = true := by
                      have := hround m z L' w' hIm
                      split at this
                      · assumption
                      · exact this.elim
                    have hnew : Hd m a' w' := by
                      have hh := agrees (z := z) (Or.inl hw) hback htmps
                      obtain ⟨r1, r2⟩ := head_rel (la := la) (W := codeDsts c) (rs := codeRegs c) (KS := KS) (s := s) hrel' hz hokz hh.1 hh.2
                      exact ⟨z, ρ', L', L', w', hIm, r1, fun k hk => hL' k (r2 k hk), Ext.refl hext'.lt, hpin'', pins z hpd0⟩
                    refine ⟨⟨m, hnew⟩, ?_⟩
                    have := (μ_spec a' w' ⟨m, hnew⟩).2
                    rcases Nat.lt_or_ge (μ a' w') n with h1 | h1
                    · exact h1
                    · exact absurd hnew (this m (by omega))
                  · obtain ⟨_, _, _, _, hok, _⟩ := hi; exact hok.elim
                · obtain ⟨_, _, _, _, hok, _⟩ := hi; exact hok.elim
          · exact hb.elim
        · rintro e a' w' ⟨e', s', rfl, ⟨y, hw⟩, hi⟩
          exact ⟨e', s', rfl, Went.trans (went_head (la := la) y hpins.2) hw, hi⟩
      · obtain ⟨_, _, _, _, hok, _⟩ := h; exact hok.elim
    · obtain ⟨_, _, _, _, hok, _⟩ := h; exact hok.elim
  | .rangeFunc .., l, s, κ, J, a, w, hκ, h => by obtain ⟨_, _, _, _, hok, _⟩ := h; exact hok.elim
  | .scope _, l, s, κ, J, a, w, hκ, h => by obtain ⟨_, _, _, _, hok, _⟩ := h; exact hok.elim
  | .label _, l, s, κ, J, a, w, hκ, h => by obtain ⟨_, _, _, _, hok, _⟩ := h; exact hok.elim
  | .goto _, l, s, κ, J, a, w, hκ, h => by obtain ⟨_, _, _, _, hok, _⟩ := h; exact hok.elim
  | .refuse _, l, s, κ, J, a, w, hκ, h => by obtain ⟨_, _, _, _, hok, _⟩ := h; exact hok.elim
end
end Go.Proofs.YtggemgbkkhpenaaW.Rx
