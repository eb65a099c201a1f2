/- The machine for walks: a region that draws its order comes to what its text comes to. -/
import Derived.Test.YtggemgbkkhpenaaRx12
namespace Go.Proofs.YtggemgbkkhpenaaW.Rx
open Go
set_option linter.unusedVariables false
set_option linter.unusedSimpArgs false
section
variable {P : Program} {pin : List (Nat × Nat)} {R : Ending → World → Prop} {N : Nat} {J : Jt} {Lu : Nat → Prop} {wu : World}
variable {s : ASt} {ops : Array Oper} {ord : List Nat} {base : Nat}
set_option maxHeartbeats 1000000 in
/-- What an operation does hangs on its operands, and on the blocks. -/
theorem core_congr {ev ev' : Operand → Option AV} {blks : Nat → Option (List AV × TypeId)} {o : Oper} (h : ∀ x ∈ o.op.operands, ev x = ev' x) : core P ev blks o = core P ev' blks o := by
  cases ho : o.op with
  | move x => simp only [core, ho]; rw [h x (by simp [ho, Op.operands])]
  | assign x => simp only [core, ho]; rw [h x (by simp [ho, Op.operands])]
  | pick c x y => simp only [core, ho]; rw [h c (by simp [ho, Op.operands]), h x (by simp [ho, Op.operands]), h y (by simp [ho, Op.operands])]
  | alloc t => simp only [core, ho]
  | box t x => simp only [core, ho]; rw [h x (by simp [ho, Op.operands])]
  | load t x => simp only [core, ho]; rw [h x (by simp [ho, Op.operands])]
  | store t x y => simp only [core, ho]; rw [h x (by simp [ho, Op.operands]), h y (by simp [ho, Op.operands])]
  | nilCheck x => simp only [core, ho]; rw [h x (by simp [ho, Op.operands])]
  | binOp op t x y ty =>
    simp only [core, ho]
    rw [h x (by simp [ho, Op.operands]), h y (by simp [ho, Op.operands])]
    rw [pureE_congr (P := P) (o := o) [x, y] (by simp [ho]) h (fun z hz => h z (by simpa [ho, Op.operands] using hz))]
  | unOp op t x =>
    simp only [core, ho]
    rw [pureE_congr (P := P) (o := o) [x] (by simp [ho]) h (fun z hz => h z (by simpa [ho, Op.operands] using hz))]
  | makeInterface t x =>
    simp only [core, ho]
    rw [pureE_congr (P := P) (o := o) [x] (by simp [ho]) h (fun z hz => h z (by simpa [ho, Op.operands] using hz))]
  | convert sr d x =>
    simp only [core, ho]
    rw [pureE_congr (P := P) (o := o) [x] (by simp [ho]) h (fun z hz => h z (by simpa [ho, Op.operands] using hz)), plains_congr [x] (fun z hz => h z (by simpa [ho, Op.operands] using hz)), evv_congr (h x (by simp [ho, Op.operands]))]
  | makeFunc fn f c =>
    simp only [core, ho]
    rw [evs_congr f.toList (fun z hz => h z (by simp [ho, Op.operands]; exact Or.inl (by simpa using hz))), evs_congr c.toList (fun z hz => h z (by simp [ho, Op.operands]; exact Or.inr (by simpa using hz)))]
  | fieldAddr t x f => simp only [core, ho]; rw [h x (by simp [ho, Op.operands])]
  | field t x f => simp only [core, ho]; rw [h x (by simp [ho, Op.operands])]
  | indexAddr t x y => simp only [core, ho]; rw [h x (by simp [ho, Op.operands]), h y (by simp [ho, Op.operands])]
  | index t x y => simp only [core, ho]; rw [h x (by simp [ho, Op.operands]), h y (by simp [ho, Op.operands])]
  | slice t x lo hi mx =>
    cases mx with
    | some m => simp only [core, ho]
    | none =>
      have hx := h x (by simp [ho, Op.operands])
      cases lo with
      | none => cases hi with
        | none => simp only [core, ho]; rw [hx]
        | some b => simp only [core, ho]; rw [hx, h b (by simp [ho, Op.operands])]
      | some a => cases hi with
        | none => simp only [core, ho]; rw [hx, h a (by simp [ho, Op.operands])]
        | some b => simp only [core, ho]; rw [hx, h a (by simp [ho, Op.operands]), h b (by simp [ho, Op.operands])]
  | build t ps =>
    simp only [core, ho]
    rw [evs_congr _ (fun z hz => h z (by simpa [ho, Op.operands] using hz))]
  | buildSlice t n ps =>
    simp only [core, ho]
    rw [evs_congr _ (fun z hz => h z (by simpa [ho, Op.operands] using hz))]
  | extract x n => simp only [core, ho]; rw [h x (by simp [ho, Op.operands])]
  | makeSlice t x y =>
    simp only [core, ho]
    rw [plains_congr [x, y] (fun z hz => h z (by simpa [ho, Op.operands] using hz)), evv_congr (h x (by simp [ho, Op.operands])), evv_congr (h y (by simp [ho, Op.operands]))]
  | call c =>
    have hargs : ∀ z ∈ c.args.toList, ev z = ev' z := fun z hz => h z (by simp [ho, Op.operands, Call.operands]; exact Or.inr (by simpa using hz))
    have hmap : c.args.map (evv ev) = c.args.map (evv ev') := Array.map_congr_left fun z hz => evv_congr (hargs z (by simpa using hz))
    have hx : execOp (evv ev) o = execOp (evv ev') o := execOp_congr o (by simp [ho]) (fun z hz => evv_congr (h z hz))
    simp only [core, ho]
    rw [evs_congr _ hargs, plains_congr _ hargs, hx, hmap]
    cases hc : c.callee with
    | value f => simp only; rw [h f (by simp [ho, Op.operands, Call.operands, hc])]
    | invoke r m => rfl
    | builtin b => rfl
  | _ => simp only [core, ho]
/-- But for loads and stores, an operation doesn't look at blocks. -/
theorem core_blks {ev : Operand → Option AV} {blks blks' : Nat → Option (List AV × TypeId)} {o : Oper} (h1 : ∀ t a, o.op = .load t a → ∀ k off, ev a = some (.p k off) → blks k = blks' k) (h2 : ∀ t a x, o.op = .store t a x → ∀ k off, ev a = some (.p k off) → blks k = blks' k) : core P ev blks o = core P ev blks' o := by
  cases ho : o.op with
  | load t a =>
    have h := h1 t a ho
    simp only [core, ho]
    cases hev : ev a with
    | none => rfl
    | some av =>
      cases av with
      | p k off => simp only [h k off hev]
      | v y => cases y <;> rfl
      | _ => rfl
  | store t a x =>
    have h := h2 t a x ho
    simp only [core, ho]
    cases hev : ev a with
    | none => rfl
    | some av =>
      cases hx : ev x with
      | none =>
        cases av with
        | v y => cases y <;> rfl
        | _ => rfl
      | some z =>
        cases av with
        | p k off => simp only [h k off hev]
        | v y => cases y <;> rfl
        | _ => rfl
  | slice t x lo hi mx => cases mx <;> simp only [core, ho]
  | _ => simp only [core, ho]
/-- A reckoner doesn't look at blocks. -/
theorem core_light {ev : Operand → Option AV} {blks blks' : Nat → Option (List AV × TypeId)} {o : Oper} (hk : kindOf P o = 0 ∨ kindOf P o = 3) : core P ev blks o = core P ev blks' o := by
  unfold kindOf at hk
  cases ho : o.op with
  | load t a => rw [ho] at hk; rcases hk with hk | hk <;> cases hk
  | store t a x => rw [ho] at hk; rcases hk with hk | hk <;> cases hk
  | slice t x lo hi mx => cases mx <;> simp only [core, ho]
  | _ => simp only [core, ho]
theorem looks_ops {o : Oper} {d : Nat} (h : d ∉ o.looksAt ops) : ∀ x ∈ o.op.operands, ∀ (v : AV), (s.put (some d) v).ev x = s.ev x := by
  intro x hx v
  cases x with
  | tmp t =>
    have : t ≠ d := by
      rintro rfl
      apply h
      unfold Oper.looksAt
      rw [List.mem_append]
      left
      rw [List.mem_filterMap]
      exact ⟨.tmp t, by simpa using hx, rfl⟩
    simp [ASt.ev, ASt.put, beq_ne this]
  | _ => rfl
theorem want_put {o : Oper} {d : Nat} (h : d ∉ o.looksAt ops) (v : AV) : wantX ops o (s.put (some d) v) = wantX ops o s := by
  unfold wantX
  cases hg : o.guard with
  | none => rfl
  | some jw =>
    obtain ⟨j, want⟩ := jw
    dsimp only
    cases hd : (ops[j]?).bind (·.dst) with
    | none => rfl
    | some e =>
      have : e ≠ d := by
        rintro rfl
        apply h
        unfold Oper.looksAt
        rw [List.mem_append, hg]
        right
        simp [hd]
      simp [ASt.put, beq_ne this]
theorem keysOf_congr {s s' : ASt} (h : s'.blks = s.blks) : ∀ (n : Nat) (l acc : List Nat), keysOf s' n l acc = keysOf s n l acc
  | 0, l, acc => by cases l <;> rfl
  | n + 1, [], acc => rfl
  | n + 1, k :: r, acc => by
    simp only [keysOf]
    rw [h]
    split
    · exact keysOf_congr h n _ _
    · split
      · exact keysOf_congr h n _ _
      · exact keysOf_congr h n _ _
theorem outOf_congr {s s' : ASt} (h : s'.blks = s.blks) : ∀ l : List Nat, outOf s' l = outOf s l
  | [] => rfl
  | k :: r => by simp only [outOf]; rw [h, outOf_congr h r]
theorem exOf_congr {s s' : ASt} (h : s'.blks = s.blks) (l : List AV) : exOf s' l = exOf s l := by
  unfold exOf
  rw [keysOf_congr h, outOf_congr h]
theorem filt_congr {s s' : ASt} (h : s'.blks = s.blks) (i : Nat) (e : Eff) : filt P ops ord i s' e = filt P ops ord i s e := by
  unfold filt filt2
  simp only [exOf_congr h]
theorem usedOp_congr {s s' : ASt} {o : Oper} (h : ∀ x ∈ o.op.operands, s'.ev x = s.ev x) : usedOp s' o = usedOp s o := by
  unfold usedOp
  cases ho : o.op with
  | load t a => simp only; rw [h a (by simp [ho, Op.operands])]
  | store t a x => simp only; rw [h a (by simp [ho, Op.operands])]
  | _ => rfl
theorem usedE_congr {s s' : ASt} (h : s'.blks = s.blks) (e : Eff) : usedE s' e = usedE s e := by
  unfold usedE
  simp only [keysOf_congr h]
/-- What an operation does is not changed by a slot that it doesn't look at. -/
theorem effD_put {o : Oper} {i : Nat} {d : Option Nat} (h : ∀ e, d = some e → e ∉ o.looksAt ops) (v : AV) : effD P base ops ord i o (s.put d v) = effD P base ops ord i o s := by
  cases d with
  | none => rfl
  | some d =>
    have h' := h d rfl
    unfold effD
    rw [want_put h' v, put_blks, core_congr (looks_ops (s := s) h' · · v), filt_congr (put_blks _ _), usedOp_congr (looks_ops (s := s) h' · · v), usedE_congr (put_blks _ _)]
theorem put_comm {d e : Option Nat} (h : ∀ x, d = some x → e ≠ some x) (u v : AV) : (s.put d u).put e v = (s.put e v).put d u := by
  cases d with
  | none => rfl
  | some d =>
    cases e with
    | none => rfl
    | some e =>
      have hne : d ≠ e := fun x => h d rfl (by rw [x])
      simp only [ASt.put, ASt.mk.injEq, and_true]
      funext j
      by_cases h1 : j = e
      · have : j ≠ d := fun x => hne (by rw [← x, h1])
        simp [h1, beq_ne (Ne.symm hne)]
      · by_cases h2 : j = d
        · simp [h2, beq_ne hne]
        · simp [beq_ne h1, beq_ne h2]
theorem put_set (d : Option Nat) (v : AV) (k : Nat) (c : List AV) (T : TypeId) : (s.put d v).set k c T = (s.set k c T).put d v := by cases d <;> rfl
theorem put_back (d : Option Nat) (v : AV) : ∀ (ex : Out) (cs : List (List AV)) (s : ASt), backS (s.put d v) ex cs = (backS s ex cs).put d v
  | [], _, s => rfl
  | _ :: _, [], s => rfl
  | (k, c, T) :: r, e :: cs, s => by simp only [backS]; rw [put_set, put_back d v r cs]
/-- A slot is written ahead of an operation, or behind it. -/
theorem step_put {o : Oper} {key : Nat} {e : Eff} {d : Option Nat} {v : AV} {k : ASt → XT} (h : ∀ x, d = some x → o.dst ≠ some x) :
    stepX P N key o (s.put d v) e k = stepX P N key o s e (fun s1 => k (s1.put d v)) := by
  unfold stepX
  split
  · cases e with
    | val x => simp only [split_eq]; rw [put_comm h]
    | alloc c T =>
      dsimp only
      rw [put_blks]
      split
      · rw [put_set, put_comm h]
      · rfl
    | stb q c T => dsimp only; rw [put_set, put_comm h]
    | chk c x => simp only [split_eq]; rw [put_comm h]
    | ld q ls row =>
      dsimp only
      congr 1
      funext x
      split
      · rw [put_comm h]
      · simp only [split_eq]; rw [put_comm h]
    | sto q xs =>
      dsimp only
      rw [exOf_congr (put_blks d v)]
      split
      · rw [put_comm h]
      · rfl
    | call f args t =>
      dsimp only
      rw [exOf_congr (put_blks d v)]
      split
      · split
        · congr 1
          funext x
          simp only [split_eq]
          rw [put_back, put_comm h]
        · rfl
      · rfl
    | sem g t =>
      dsimp only
      split
      · congr 1
        funext x
        simp only [split_eq]
        rw [put_comm h]
      · rfl
    | bad why => rfl
  · rfl
/-- The states behind an operation. -/
theorem step_congr {o : Oper} {key : Nat} {e : Eff} {k k' : ASt → XT} (h : ∀ s1, Stays o.dst s s1 → ((∀ c T, e ≠ .alloc c T) → (∀ q c T, e ≠ .stb q c T) → (∀ f args t, e = .call f args t → exOf s args = some []) → s1.blks = s.blks) → k s1 = k' s1) : stepX P N key o s e k = stepX P N key o s e k' := by
  unfold stepX
  split
  · cases e with
    | val x => simp only [split_eq]; exact h _ (Stays.put _ _) (fun _ _ _ => put_blks _ _)
    | alloc c T =>
      dsimp only
      split
      · refine h _ ?_ (fun h1 => absurd rfl (h1 c T))
        intro j hj
        rw [Stays.put (s := s.set key c T) o.dst (.p key 0) j hj]
        rfl
      · rfl
    | stb q c T =>
      refine h _ ?_ (fun _ h2 => absurd rfl (h2 q c T))
      intro j hj
      rw [Stays.put (s := s.set q c T) o.dst (.v undef) j hj]
      rfl
    | chk c x => simp only [split_eq]; rw [h _ (Stays.put _ _) (fun _ _ _ => put_blks _ _)]
    | ld q ls row =>
      dsimp only
      congr 1
      funext x
      split
      · exact h _ (Stays.put _ _) (fun _ _ _ => put_blks _ _)
      · simp only [split_eq]; exact h _ (Stays.put _ _) (fun _ _ _ => put_blks _ _)
    | sto q xs =>
      dsimp only
      split
      · rw [h _ (Stays.put _ _) (fun _ _ _ => put_blks _ _)]
      · rfl
    | call f args t =>
      dsimp only
      split
      · rename_i sh ls ex hsh hex
        split
        · congr 1
          funext x
          simp only [split_eq]
          refine h _ ?_ (fun _ _ h3 => ?_)
          · intro j hj
            rw [Stays.put o.dst _ j hj, back_tmps]
          · have := h3 f args t rfl
            rw [hex] at this
            cases this
            rw [put_blks]
            rfl
        · rfl
      · rfl
    | sem g t =>
      dsimp only
      split
      · congr 1
        funext x
        simp only [split_eq]
        exact h _ (Stays.put _ _) (fun _ _ _ => put_blks _ _)
      · rfl
    | bad why => rfl
  · rfl
/-- More behind an operation, more of it. -/
theorem step_mono {o : Oper} {key : Nat} {e : Eff} {k k' : ASt → XT} (h : ∀ s1 Lu wu, (k s1).ok P pin R J Lu wu → (k' s1).ok P pin R J Lu wu) (hk : (stepX P N key o s e k).ok P pin R J Lu wu) : (stepX P N key o s e k').ok P pin R J Lu wu := by
  unfold stepX at hk ⊢
  split
  · rename_i hd
    rw [if_pos hd] at hk
    cases e with
    | val x => simp only [split_eq] at hk ⊢; exact h _ _ _ hk
    | alloc c T =>
      dsimp only at hk ⊢
      split
      · rename_i hn; rw [hn] at hk; exact h _ _ _ hk
      · rename_i hn; rw [hn] at hk; exact hk.elim
    | stb q c T => exact h _ _ _ hk
    | chk c x => simp only [split_eq] at hk ⊢; exact ⟨hk.1, h _ _ _ hk.2⟩
    | ld q ls row =>
      obtain ⟨ad, x, h1, h2, h3, h4, h5, h6⟩ := hk
      refine ⟨ad, x, h1, h2, h3, h4, h5, ?_⟩
      dsimp only at h6 ⊢
      split
      · rename_i hr; rw [if_pos hr] at h6; exact h _ _ _ h6
      · rename_i hr; rw [if_neg hr] at h6; simp only [split_eq] at h6 ⊢; exact h _ _ _ h6
    | sto q xs =>
      dsimp only at hk ⊢
      split
      · rename_i ex hex
        rw [hex] at hk
        intro ρ L w h1 h2 h3
        obtain ⟨ad, g1, g2, g3, g4, g5⟩ := hk ρ L w h1 h2 h3
        exact ⟨ad, g1, g2, g3, g4, h _ _ _ g5⟩
      · rename_i hex; rw [hex] at hk; exact hk.elim
    | call f args t =>
      dsimp only at hk ⊢
      split
      · rename_i sh ls ex hsh hex
        rw [hsh, hex] at hk
        dsimp only at hk
        split
        · rename_i els ns hles
          rw [hles] at hk
          intro ρ L w h1 h2 h3 h4
          refine (hk ρ L w h1 h2 h3 h4).mono ?_
          rintro e w2 ⟨x, g1, g2, g3, g4⟩
          simp only [split_eq] at g4 ⊢
          exact ⟨x, g1, g2, g3, h _ _ _ g4⟩
        · rename_i hles; rw [hles] at hk; exact hk.elim
      · rename_i hne
        split at hk
        · rename_i a b c h1 h2; exact absurd h2 (hne _ _ _ h1)
        · exact hk.elim
    | sem g t =>
      dsimp only at hk ⊢
      split
      · rename_i sh ls hsh
        rw [hsh] at hk
        intro L w h1
        obtain ⟨x, w2, g1, g2, g3⟩ := hk L w h1
        simp only [split_eq] at g3 ⊢
        exact ⟨x, w2, g1, g2, h _ _ _ g3⟩
      · rename_i hsh; rw [hsh] at hk; exact hk.elim
    | bad why => exact hk.elim
  · rename_i hd; rw [if_neg hd] at hk; exact hk.elim
end
end Go.Proofs.YtggemgbkkhpenaaW.Rx
