/- The machine for walks: a region that draws its order comes to what its text comes to (all together). -/
import Derived.Test.YtggemgbkkhpenaaRx13
namespace Go.Proofs.YtggemgbkkhpenaaW.Rx
open Go
set_option linter.unusedVariables false
set_option linter.unusedSimpArgs false
section
variable {P : Program} {pin : List (Nat × Nat)} {R : Ending → World → Prop} {N : Nat} {J : Jt} {Lu : Nat → Prop} {wu : World}
variable {s : ASt} {ops : Array Oper} {ord : List Nat} {base : Nat} {Q : Exit → Act → World → Prop}
theorem filt_or (i : Nat) (e : Eff) : filt P ops ord i s e = e ∨ ∃ why, filt P ops ord i s e = .bad why := by
  by_cases h0 : kindAt P ops i = 0
  · rw [filt_0 h0]; cases e <;> simp [filt0]
  by_cases h1 : kindAt P ops i = 1
  · rw [filt_1 h1]
    cases e <;> simp only [filt1]
    case ld q ls row => split; exact Or.inr ⟨_, rfl⟩; exact Or.inl rfl
    all_goals simp
  by_cases h3 : kindAt P ops i = 3
  · rw [filt_3 h3]; cases e <;> simp [filt3]
  rw [filt_2 h0 h1 h3]
  unfold filt2
  split
  · cases e with
    | call f args t =>
      dsimp only
      rcases callF_or (exOf s args) f args t with ⟨_, e⟩ | e
      · exact Or.inl e
      · exact Or.inr ⟨_, e⟩
    | _ => simp
  · exact Or.inl rfl
/-- Reckoned, or read. -/
def lightE : Eff → Bool
  | .val _ => true
  | .chk _ _ => true
  | .ld _ _ _ => true
  | .bad _ => true
  | _ => false
theorem guardE_or (ks bs : List Nat) (e : Eff) : guardE ks bs e = e ∨ guardE ks bs e = .bad "region: a block that is made here" := by
  unfold guardE; split; exact Or.inr rfl; exact Or.inl rfl
theorem effD_light {o : Oper} {i : Nat} (hk : kindAt P ops i = 0 ∨ kindAt P ops i = 1) : lightE (effD P base ops ord i o s) = true := by
  unfold effD
  split
  · have key : lightE (filt P ops ord i s (core P s.ev s.blks o)) = true := by
      rcases hk with hk | hk
      · rw [filt_0 hk]; cases core P s.ev s.blks o <;> rfl
      · rw [filt_1 hk]
        cases core P s.ev s.blks o with
        | ld q ls row => simp only [filt1]; split <;> rfl
        | _ => rfl
    rcases guardE_or (usedOp s o ++ usedE s (filt P ops ord i s (core P s.ev s.blks o))) (banned P base ops ord i) (filt P ops ord i s (core P s.ev s.blks o)) with e | e
    · rw [e]; exact key
    · rw [e]; rfl
  · rfl
  · rfl
theorem effD_ld {o : Oper} {i : Nat} {q : Option Addr} {ls : List Lf} {row : Bool} (hk : kindAt P ops i = 1) (h : effD P base ops ord i o s = .ld q ls row) : loose P ops ord 2 i = false := by
  unfold effD at h
  split at h
  · rcases guardE_or (usedOp s o ++ usedE s (filt P ops ord i s (core P s.ev s.blks o))) (banned P base ops ord i) (filt P ops ord i s (core P s.ev s.blks o)) with e | e
    case inr => rw [e] at h; cases h
    rw [e, filt_1 hk] at h
    unfold filt1 at h
    split at h
    · cases h
    · split at h
      · cases h
      · rename_i hl
        simpa using hl
    · cases h
  · cases h
  · cases h
theorem effD_kind0 {o : Oper} {i : Nat} {q : Option Addr} {ls : List Lf} {row : Bool} (hk : kindAt P ops i = 0) : effD P base ops ord i o s ≠ .ld q ls row := by
  intro h
  unfold effD at h
  split at h
  · rcases guardE_or (usedOp s o ++ usedE s (filt P ops ord i s (core P s.ev s.blks o))) (banned P base ops ord i) (filt P ops ord i s (core P s.ev s.blks o)) with e | e
    case inr => rw [e] at h; cases h
    rw [e, filt_0 hk] at h
    unfold filt0 at h
    split at h <;> cases h
  · cases h
  · cases h
/-- Beside a read, what is not light doesn't turn known blocks. -/
theorem effD_keeps {o : Oper} {i : Nat} (h0 : kindAt P ops i ≠ 0) (h1 : kindAt P ops i ≠ 1) (h3 : kindAt P ops i ≠ 3) (hl : loose P ops ord 1 i = true) :
    (∀ c T, effD P base ops ord i o s ≠ .alloc c T) ∧ (∀ f args t, effD P base ops ord i o s = .call f args t → exOf s args = some []) := by
  have key : ∀ e, filt P ops ord i s e = (match e with
      | .call f args t => callF (exOf s args) f args t
      | .sem g t => .sem g t
      | .stb q c T => .stb q c T
      | _ => .bad "region: a store beside a read") := by
    intro e
    rw [filt_2 h0 h1 h3]
    unfold filt2
    rw [if_pos hl]
    rfl
  unfold effD
  split
  · rcases guardE_or (usedOp s o ++ usedE s (filt P ops ord i s (core P s.ev s.blks o))) (banned P base ops ord i) (filt P ops ord i s (core P s.ev s.blks o)) with e | e
    case inr => rw [e]; exact ⟨(fun c T h => by cases h), (fun f' args' t' h => by cases h)⟩
    rw [e, key]
    cases core P s.ev s.blks o with
    | call f args t =>
      dsimp only
      rcases callF_or (exOf s args) f args t with ⟨hex, e⟩ | e
      · rw [e]
        refine ⟨(fun c T h => by cases h), fun f' args' t' h => ?_⟩
        cases h
        exact hex
      · rw [e]; exact ⟨(fun c T h => by cases h), (fun f' args' t' h => by cases h)⟩
    | _ => exact ⟨(fun c T h => by cases h), (fun f' args' t' h => by cases h)⟩
  · exact ⟨(fun c T h => by cases h), (fun f' args' t' h => by cases h)⟩
  · exact ⟨(fun c T h => by cases h), (fun f' args' t' h => by cases h)⟩
theorem stays_ev {o : Oper} {d : Option Nat} {s1 : ASt} (hs : Stays d s s1) (h : ∀ e, d = some e → e ∉ o.looksAt ops) : ∀ x ∈ o.op.operands, s1.ev x = s.ev x := by
  intro x hx
  cases x with
  | tmp t =>
    refine hs t (fun e => h t e.symm ?_)
    unfold Oper.looksAt
    rw [List.mem_append]
    left
    rw [List.mem_filterMap]
    exact ⟨.tmp t, by simpa using hx, rfl⟩
  | _ => rfl
theorem stays_want {o : Oper} {d : Option Nat} {s1 : ASt} (hs : Stays d s s1) (h : ∀ e, d = some e → e ∉ o.looksAt ops) : wantX ops o s1 = wantX ops o s := by
  unfold wantX
  cases hg : o.guard with
  | none => rfl
  | some jw =>
    obtain ⟨j, want⟩ := jw
    dsimp only
    cases hd : (ops[j]?).bind (·.dst) with
    | none => rfl
    | some e =>
      dsimp only
      rw [hs e (fun x => h e x.symm ?_)]
      unfold Oper.looksAt
      rw [List.mem_append, hg]
      right
      simp [hd]
/-- What a light operation does is the same behind another. -/
theorem effD_stays {o : Oper} {i : Nat} {d : Option Nat} {s1 : ASt} (ho : ops[i]? = some o) (hs : Stays d s s1) (h : ∀ e, d = some e → e ∉ o.looksAt ops) (hk : kindAt P ops i = 0 ∨ kindAt P ops i = 3 ∨ (kindAt P ops i = 1 ∧ s1.blks = s.blks)) : effD P base ops ord i o s1 = effD P base ops ord i o s := by
  unfold effD
  rw [stays_want hs h, usedOp_congr (stays_ev hs h)]
  have hc : core P s1.ev s1.blks o = core P s.ev s.blks o := by
    rw [core_congr (stays_ev hs h)]
    rcases hk with hk | hk | ⟨_, hb⟩
    · exact core_light (Or.inl (by unfold kindAt at hk; rw [ho] at hk; exact hk))
    · exact core_light (Or.inr (by unfold kindAt at hk; rw [ho] at hk; exact hk))
    · rw [hb]
  rw [hc]
  have hf : filt P ops ord i s1 (core P s.ev s.blks o) = filt P ops ord i s (core P s.ev s.blks o) := by
    rcases hk with hk | hk | ⟨hk, hb⟩
    · rw [filt_0 hk, filt_0 hk]
    · rw [filt_3 hk, filt_3 hk]
    · exact filt_congr hb i _
  have hu : usedE s1 (filt P ops ord i s (core P s.ev s.blks o)) = usedE s (filt P ops ord i s (core P s.ev s.blks o)) := by
    rcases hk with hk | hk | ⟨hk, hb⟩
    · rw [filt_0 hk]; cases core P s.ev s.blks o <;> rfl
    · rw [filt_3 hk]; cases core P s.ev s.blks o <;> rfl
    · exact usedE_congr hb _
  rw [hf, hu]
theorem keysOf_acc : ∀ (n : Nat) (l acc : List Nat) (k : Nat), k ∈ acc → k ∈ keysOf s n l acc
  | 0, l, acc, k, h => by cases l <;> exact h
  | n + 1, [], acc, k, h => h
  | n + 1, j :: r, acc, k, h => by
    simp only [keysOf]
    split
    · exact keysOf_acc n _ _ _ h
    · split
      · exact keysOf_acc n _ _ _ (by simp [h])
      · exact keysOf_acc n _ _ _ h
/-- Keys that don't come to a new block are the same without it. -/
theorem keysOf_set {key : Nat} {c : List AV} {T : TypeId} (hn : s.blks key = none) : ∀ (n : Nat) (l acc : List Nat), key ∉ keysOf (s.set key c T) n l acc → keysOf (s.set key c T) n l acc = keysOf s n l acc
  | 0, l, acc, h => by cases l <;> rfl
  | n + 1, [], acc, h => rfl
  | n + 1, j :: r, acc, h => by
    simp only [keysOf] at h ⊢
    split
    · rename_i hc
      rw [if_pos hc] at h
      exact keysOf_set hn n _ _ h
    · rename_i hc
      rw [if_neg hc] at h
      by_cases e : j = key
      · subst e
        have : (s.set j c T).blks j = some (c, T) := by simp [ASt.set]
        rw [this] at h
        exact absurd (keysOf_acc n _ _ j (by simp)) h
      · have hb : (s.set key c T).blks j = s.blks j := by simp [ASt.set, beq_ne e]
        rw [hb] at h ⊢
        split
        · rename_i c' T' hc'
          rw [hc'] at h
          exact keysOf_set hn n _ _ h
        · rename_i hc'
          rw [hc'] at h
          exact keysOf_set hn n _ _ h
theorem outOf_set {key : Nat} {c : List AV} {T : TypeId} : ∀ (l : List Nat), key ∉ l → outOf (s.set key c T) l = outOf s l
  | [], _ => rfl
  | k :: r, h => by
    have hk : k ≠ key := fun e => h (by simp [e])
    have hb : (s.set key c T).blks k = s.blks k := by simp [ASt.set, beq_ne hk]
    simp only [outOf]
    rw [hb, outOf_set r (fun hr => h (by simp [hr]))]
theorem exOf_set {key : Nat} {c : List AV} {T : TypeId} (hn : s.blks key = none) (args : List AV) (h : key ∉ keysOf (s.set key c T) 64 (AV.keyss args) []) : exOf (s.set key c T) args = exOf s args := by
  have e := keysOf_set hn _ _ _ h
  unfold exOf
  rw [e] at h ⊢
  exact outOf_set _ h
theorem exOf_mem {args : List AV} {ex : Out} (h : exOf s args = some ex) : ∀ x ∈ ex, s.blks x.1 = some (x.2.1, x.2.2) := by
  unfold exOf at h
  generalize keysOf s 64 (AV.keyss args) [] = l at h
  induction l generalizing ex with
  | nil => simp only [outOf, Option.some.injEq] at h; subst h; simp
  | cons k r ih =>
    simp only [outOf] at h
    split at h
    · rename_i c T o hb ho
      split at h
      · cases h
      · cases h
        intro x hx
        rcases List.mem_cons.1 hx with rfl | hx
        · exact hb
        · exact ih ho x hx
    · cases h
theorem set_comm (s : ASt) {k k' : Nat} (h : k ≠ k') (c c' : List AV) (T T' : TypeId) : (s.set k c T).set k' c' T' = (s.set k' c' T').set k c T := by
  simp only [ASt.set, ASt.mk.injEq, true_and]
  refine ⟨?_, ?_⟩
  · funext j
    by_cases h1 : j = k'
    · by_cases h2 : j = k
      · exact absurd (h2.symm.trans h1) h
      · simp [h1, beq_ne (Ne.symm h)]
    · by_cases h2 : j = k
      · simp [h2, beq_ne h]
      · simp [beq_ne h1, beq_ne h2]
  · funext j
    by_cases h1 : j = k'
    · by_cases h2 : j = k
      · exact absurd (h2.symm.trans h1) h
      · simp [h1, beq_ne (Ne.symm h)]
    · by_cases h2 : j = k
      · simp [h2, beq_ne h]
      · simp [beq_ne h1, beq_ne h2]
theorem set_back {key : Nat} (c : List AV) (T : TypeId) : ∀ (ex : Out) (cs : List (List AV)) (s : ASt), (∀ x ∈ ex, x.1 ≠ key) → backS (s.set key c T) ex cs = (backS s ex cs).set key c T
  | [], _, s, _ => rfl
  | _ :: _, [], s, _ => rfl
  | (k, c', T') :: r, e :: cs, s, h => by
    simp only [backS]
    rw [set_comm s (Ne.symm (h (k, c', T') (by simp))), set_back c T r cs _ (fun x hx => h x (by simp [hx]))]
/-- A new block is made ahead of an operation that doesn't look at it, or behind it. -/
theorem step_set {o : Oper} {key kx : Nat} {e : Eff} {c : List AV} {T : TypeId} {k : ASt → XT} (hn : s.blks key = none) (hne : key ≠ kx) (hu : key ∉ usedE (s.set key c T) e) (hst : ∀ q c' T', e = .stb q c' T' → q ≠ key) :
    stepX P N kx o (s.set key c T) e k = stepX P N kx o s e (fun s1 => k (s1.set key c T)) := by
  have hb : ∀ j, j ≠ key → (s.set key c T).blks j = s.blks j := fun j hj => by simp [ASt.set, beq_ne hj]
  unfold stepX
  split
  · cases e with
    | val x => simp only [split_eq]; rw [put_set]
    | alloc c' T' =>
      dsimp only
      rw [hb kx (Ne.symm hne)]
      split
      · rw [set_comm s hne, put_set]
      · rfl
    | stb q c' T' => dsimp only; rw [set_comm s (Ne.symm (hst q c' T' rfl)), put_set]
    | chk cc x => simp only [split_eq]; rw [put_set]
    | ld q ls row =>
      dsimp only
      congr 1
      funext x
      split
      · rw [put_set]
      · simp only [split_eq]; rw [put_set]
    | sto q xs =>
      dsimp only
      rw [exOf_set hn xs hu]
      split
      · rw [put_set]
      · rfl
    | call f args t =>
      dsimp only
      rw [exOf_set hn args hu]
      split
      · rename_i sh ls ex hsh hex
        split
        · congr 1
          funext x
          simp only [split_eq]
          rw [set_back c T ex _ s (fun y hy e => by have := exOf_mem hex y hy; rw [e, hn] at this; cases this), put_set]
        · rfl
      · rfl
    | sem g t =>
      dsimp only
      split
      · congr 1
        funext x
        simp only [split_eq]
        rw [put_set]
      · rfl
    | bad why => rfl
  · rfl
theorem loose_of {k i j : Nat} (hj : j ∈ ord) (hne : j ≠ i) (hk : kindAt P ops j = k) (h1 : reach ops ops.size i j = false) (h2 : reach ops ops.size j i = false) : loose P ops ord k i = true := by
  unfold loose
  rw [List.any_eq_true]
  exact ⟨j, hj, by simp [beq_ne hne, hk, h1, h2]⟩
/-- Stores alone turn known blocks. -/
theorem core_stb {ev : Operand → Option AV} {blks : Nat → Option (List AV × TypeId)} {o : Oper} {q : Nat} {c : List AV} {T : TypeId} (ho : ∀ t a x, o.op ≠ .store t a x) (h : core P ev blks o = .stb q c T) : False := by
  have orb : ∀ (x : Option AV) (why : String), orBad x why ≠ .stb q c T := by intro x why; cases x <;> exact fun h => by cases h
  have pur : ∀ l, pureE P ev o l ≠ .stb q c T := by
    intro l
    unfold pureE
    split
    · exact orb _ _
    · exact fun h => by cases h
  cases hop : o.op with
  | store t a x => exact ho t a x hop
  | slice t x lo hi mx =>
    cases mx with
    | none => simp only [core, hop] at h; repeat' split at h
              all_goals cases h
    | some m => simp only [core, hop] at h; cases h
  | _ =>
    simp only [core, hop] at h
    first
      | exact orb _ _ h
      | exact pur _ h
      | cases h
      | ((repeat' split at h) <;> first | cases h | exact orb _ _ h | exact pur _ h)
theorem banned_mem {m i : Nat} (hm : m ∈ ord) (hne : m ≠ i) (hk : kindAt P ops m = 3) (h2 : reach ops ops.size i m = false) : base + m ∈ banned P base ops ord i := by
  unfold banned
  rw [List.mem_map]
  exact ⟨m, by rw [List.mem_filter]; exact ⟨hm, by simp [beq_ne hne, hk, h2]⟩, rfl⟩
theorem guardE_no {ks bs : List Nat} {e : Eff} {k : Nat} (hk : k ∈ bs) (h : ¬ ∃ why, guardE ks bs e = .bad why) : k ∉ ks ∧ guardE ks bs e = e := by
  unfold guardE at *
  split
  · rename_i ha
    exact absurd ⟨_, by rw [if_pos ha]⟩ h
  · rename_i ha
    refine ⟨fun hks => ha ?_, rfl⟩
    rw [List.any_eq_true]
    exact ⟨k, hks, by simpa using hk⟩
/-- What an operation does with a new block there that it doesn't look at, it does without it. -/
theorem effD_set {o : Oper} {i key : Nat} {c : List AV} {T : TypeId} (hn : s.blks key = none) (hkey : key ∈ banned P base ops ord i) (h : ¬ ∃ why, effD P base ops ord i o (s.set key c T) = .bad why) :
    effD P base ops ord i o (s.set key c T) = effD P base ops ord i o s ∧ key ∉ usedE (s.set key c T) (effD P base ops ord i o (s.set key c T)) ∧ (∀ q c' T', effD P base ops ord i o (s.set key c T) = .stb q c' T' → q ≠ key) := by
  have hw : wantX ops o (s.set key c T) = wantX ops o s := rfl
  unfold effD at h ⊢
  rw [hw] at h ⊢
  split
  · rename_i hb
    rw [hb] at h
    dsimp only at h
    obtain ⟨g1, g2⟩ := guardE_no hkey h
    have g3 : key ∉ usedOp (s.set key c T) o := fun hx => g1 (List.mem_append_left _ hx)
    have g4 : key ∉ usedE (s.set key c T) (filt P ops ord i (s.set key c T) (core P (s.set key c T).ev (s.set key c T).blks o)) := fun hx => g1 (List.mem_append_right _ hx)
    have hev : (s.set key c T).ev = s.ev := by funext x; cases x <;> rfl
    have hblk : ∀ j, j ≠ key → (s.set key c T).blks j = s.blks j := fun j hj => by simp [ASt.set, beq_ne hj]
    have hld : ∀ t a, o.op = .load t a → ∀ k off, s.ev a = some (.p k off) → k ≠ key := by
      intro t a ho k off hk e
      apply g3
      simp only [usedOp, ho, hev, hk, e, List.mem_singleton]
    have hsto : ∀ t a x, o.op = .store t a x → ∀ k off, s.ev a = some (.p k off) → k ≠ key := by
      intro t a x ho k off hk e
      apply g3
      simp only [usedOp, ho, hev, hk, e, List.mem_singleton]
    have hcore : core P (s.set key c T).ev (s.set key c T).blks o = core P s.ev s.blks o := by
      rw [hev]
      exact core_blks (fun t a ho k off hk => hblk k (hld t a ho k off hk)) (fun t a x ho k off hk => hblk k (hsto t a x ho k off hk))
    rw [hcore] at g2 g4 g1 h ⊢
    have hF : filt P ops ord i (s.set key c T) (core P s.ev s.blks o) = filt P ops ord i s (core P s.ev s.blks o) := by
      by_cases k0 : kindAt P ops i = 0
      · rw [filt_0 k0, filt_0 k0]
      by_cases k1 : kindAt P ops i = 1
      · rw [filt_1 k1, filt_1 k1]
      by_cases k3 : kindAt P ops i = 3
      · rw [filt_3 k3, filt_3 k3]
      rw [filt_2 k0 k1 k3] at g4 ⊢
      rw [filt_2 k0 k1 k3]
      unfold filt2 at g4 ⊢
      split
      · rename_i hl
        rw [if_pos hl] at g4
        cases hcc : core P s.ev s.blks o with
        | call f args t =>
          rw [hcc] at g4
          dsimp only at g4 ⊢
          have hxx : exOf (s.set key c T) args = exOf s args := by
            rcases callF_or (exOf (s.set key c T) args) f args t with ⟨hx, e⟩ | e
            · rw [e] at g4
              exact exOf_set hn args g4
            · exfalso
              apply h
              rw [filt_2 k0 k1 k3]
              unfold filt2
              rw [if_pos hl, hcc]
              dsimp only
              rw [e]
              unfold guardE
              split
              · exact ⟨_, rfl⟩
              · exact ⟨_, rfl⟩
          rw [hxx]
        | _ => rfl
      · rfl
    rw [hF] at g1 g2 g4 h ⊢
    have hU : usedE (s.set key c T) (filt P ops ord i s (core P s.ev s.blks o)) = usedE s (filt P ops ord i s (core P s.ev s.blks o)) := by
      cases hcc : filt P ops ord i s (core P s.ev s.blks o) with
      | call f args t => rw [hcc] at g4; exact keysOf_set hn _ _ _ g4
      | sto q xs => rw [hcc] at g4; exact keysOf_set hn _ _ _ g4
      | _ => rfl
    have hO : usedOp (s.set key c T) o = usedOp s o := usedOp_congr (fun x _ => by rw [hev])
    refine ⟨by rw [hU, hO], ?_, ?_⟩
    · rw [g2]; exact g4
    · intro q c' T' he
      rw [g2] at he
      have hcs : core P s.ev s.blks o = .stb q c' T' := by
        rcases filt_or (P := P) (ops := ops) (ord := ord) (s := s) i (core P s.ev s.blks o) with e | ⟨why, e⟩
        · rw [← e, he]
        · rw [e] at he; cases he
      intro e
      subst e
      -- a store into the new block
      cases ho : o.op with
      | store t a x =>
        have h2 := hsto t a x ho
        simp only [core, ho] at hcs
        split at hcs
        · rename_i key' off v hk' _
          split at hcs
          · split at hcs
            · injection hcs with e1
              exact h2 key' off hk' e1
            · cases hcs
          · cases hcs
        · split at hcs <;> cases hcs
        · cases hcs
      | _ => exact core_stb (by simp [ho]) hcs
  · exact ⟨rfl, by simp [usedE], fun q c' T' he => by cases he⟩
  · rename_i hb
    rw [hb] at h
    exact absurd ⟨_, rfl⟩ h
theorem step_none {o : Oper} {key kx : Nat} {e : Eff} {k k' : ASt → XT} (hn : s.blks key = none) (hne : key ≠ kx) (hst : ∀ q c' T', e = .stb q c' T' → q ≠ key) (h : ∀ s1 : ASt, s1.blks key = none → k s1 = k' s1) : stepX P N kx o s e k = stepX P N kx o s e k' := by
  have hp : ∀ (d : Option Nat) (v : AV) (s : ASt), s.blks key = none → (s.put d v).blks key = none := fun d v s h => by rw [put_blks]; exact h
  have hs : ∀ (q : Nat) (c : List AV) (T : TypeId) (s : ASt), q ≠ key → s.blks key = none → (s.set q c T).blks key = none := fun q c T s hq h => by simp only [ASt.set, beq_ne (Ne.symm hq), cond_false]; exact h
  unfold stepX
  split
  · cases e with
    | val x => simp only [split_eq]; exact h _ (hp _ _ _ hn)
    | alloc c T =>
      dsimp only
      split
      · exact h _ (hp _ _ _ (hs _ _ _ _ (Ne.symm hne) hn))
      · rfl
    | stb q c T => exact h _ (hp _ _ _ (hs _ _ _ _ (hst q c T rfl) hn))
    | chk c x => simp only [split_eq]; rw [h _ (hp _ _ _ hn)]
    | ld q ls row =>
      dsimp only
      congr 1
      funext x
      split
      · exact h _ (hp _ _ _ hn)
      · simp only [split_eq]; exact h _ (hp _ _ _ hn)
    | sto q xs =>
      dsimp only
      split
      · rw [h _ (hp _ _ _ hn)]
      · rfl
    | call f args t =>
      dsimp only
      split
      · rename_i sh ls ex hsh hex
        have hbk : ∀ (ex : Out) (cs : List (List AV)) (s : ASt), (∀ x ∈ ex, x.1 ≠ key) → s.blks key = none → (backS s ex cs).blks key = none := by
          intro ex
          induction ex with
          | nil => intro cs s _ h; exact h
          | cons x r ih =>
            obtain ⟨q, c, T⟩ := x
            intro cs s hx h
            cases cs with
            | nil => exact h
            | cons d cs => exact ih cs _ (fun y hy => hx y (by simp [hy])) (hs _ _ _ _ (hx (q, c, T) (by simp)) h)
        split
        · congr 1
          funext x
          simp only [split_eq]
          exact h _ (hp _ _ _ (hbk ex _ s (fun y hy e => by have := exOf_mem hex y hy; rw [e, hn] at this; cases this) hn))
        · rfl
      · rfl
    | sem g t =>
      dsimp only
      split
      · congr 1
        funext x
        simp only [split_eq]
        exact h _ (hp _ _ _ hn)
      · rfl
    | bad why => rfl
  · rfl
/-- A read beside a block that is made. -/
theorem effD_set1 {o : Oper} {i key : Nat} {c : List AV} {T : TypeId} (hn : s.blks key = none) (hk1 : kindAt P ops i = 1) (hkey : key ∈ banned P base ops ord i) (h : ¬ ∃ why, effD P base ops ord i o s = .bad why) :
    effD P base ops ord i o (s.set key c T) = effD P base ops ord i o s := by
  have hev : (s.set key c T).ev = s.ev := by funext x; cases x <;> rfl
  have hw : wantX ops o (s.set key c T) = wantX ops o s := rfl
  unfold effD at h ⊢
  rw [hw]
  split
  · rename_i hb
    rw [hb] at h
    dsimp only at h
    obtain ⟨g1, g2⟩ := guardE_no hkey h
    have g3 : key ∉ usedOp s o := fun hx => g1 (List.mem_append_left _ hx)
    have hblk : ∀ j, j ≠ key → (s.set key c T).blks j = s.blks j := fun j hj => by simp [ASt.set, beq_ne hj]
    have hcore : core P (s.set key c T).ev (s.set key c T).blks o = core P s.ev s.blks o := by
      rw [hev]
      refine core_blks (fun t a ho k off hk => hblk k (fun e => g3 ?_)) (fun t a x ho k off hk => hblk k (fun e => g3 ?_))
      · simp only [usedOp, ho, hk, e, List.mem_singleton]
      · simp only [usedOp, ho, hk, e, List.mem_singleton]
    have hO : usedOp (s.set key c T) o = usedOp s o := usedOp_congr (fun x _ => by rw [hev])
    rw [hcore, hO]
    have hF : filt P ops ord i (s.set key c T) (core P s.ev s.blks o) = filt P ops ord i s (core P s.ev s.blks o) := by rw [filt_1 hk1, filt_1 hk1]
    rw [hF]
    have hU : ∀ s' : ASt, usedE s' (filt P ops ord i s (core P s.ev s.blks o)) = [] := by
      intro s'
      rw [filt_1 hk1]
      cases core P s.ev s.blks o with
      | ld q ls row => simp only [filt1]; split <;> rfl
      | _ => rfl
    rw [hU, hU]
  · rfl
  · rfl
theorem effD_kind3 {o : Oper} {i : Nat} (hk : kindAt P ops i = 3) : (∃ c T, effD P base ops ord i o s = .alloc c T) ∨ effD P base ops ord i o s = .val (.v undef) ∨ ∃ why, effD P base ops ord i o s = .bad why := by
  unfold effD
  split
  · rcases guardE_or (usedOp s o ++ usedE s (filt P ops ord i s (core P s.ev s.blks o))) (banned P base ops ord i) (filt P ops ord i s (core P s.ev s.blks o)) with e | e
    · rw [e, filt_3 hk]
      cases core P s.ev s.blks o with
      | alloc c T => exact Or.inl ⟨c, T, rfl⟩
      | _ => exact Or.inr (Or.inr ⟨_, rfl⟩)
    · rw [e]; exact Or.inr (Or.inr ⟨_, rfl⟩)
  · exact Or.inr (Or.inl rfl)
  · exact Or.inr (Or.inr ⟨_, rfl⟩)
/-! ### A store beside loads. -/
theorem gate_light {D : List Nat} {i : Nat} (h : kindAt P ops i = 0 ∨ kindAt P ops i = 1 ∨ kindAt P ops i = 3) : gate P ops D i s = true := by
  unfold gate
  cases ho : ops[i]? with
  | none => rfl
  | some o =>
    unfold kindAt at h
    rw [ho] at h
    dsimp only at h ⊢
    cases hop : o.op with
    | store t a x => unfold kindOf at h; rw [hop] at h; simp at h
    | _ => rfl
theorem gate_sub {D : List Nat} {m i : Nat} (h : gate P ops (m :: D) i s = true) : gate P ops D i s = true := by
  unfold gate at h ⊢
  split
  · rename_i o ho
    rw [ho] at h
    dsimp only at h
    split
    · rename_i t a x hop
      rw [hop] at h
      simp only [List.all_cons, Bool.and_eq_true] at h
      exact h.2
    · rfl
  · rfl
theorem notTmp_ev {a : Operand} {d : Option Nat} {s1 : ASt} (hs : Stays d s s1) (h : notTmp a d = true) : s1.ev a = s.ev a := by
  cases a with
  | tmp t =>
    refine hs t (fun e => ?_)
    cases d with
    | none => cases e
    | some d =>
      cases e
      simp [notTmp] at h
  | _ => rfl
theorem offs_stays {om oi : Oper} {d : Option Nat} {s1 : ASt} (hs : Stays d s s1) (h : ∀ e, d = some e → e ∉ oi.looksAt ops) (hn : ∀ t a, om.op = .load t a → notTmp a d = true ∨ notTmp a om.dst = false) : offsApart P s1 om oi = offsApart P s om oi := by
  unfold offsApart
  split
  · rename_i t a hop
    rcases hn t a hop with h1 | h1
    · rw [notTmp_ev hs h1]
      have hev := stays_ev hs h
      cases ho : oi.op with
      | store t' a' x =>
        dsimp only
        rw [hev a' (by simp [ho, Op.operands]), hev x (by simp [ho, Op.operands])]
      | _ => rfl
    · rw [h1]; rfl
  · rfl
theorem gate_stays {D : List Nat} {m i : Nat} {om oi : Oper} {s1 : ASt} (hom : ops[m]? = some om) (hoi : ops[i]? = some oi) (hs : Stays om.dst s s1) (p1 : ∀ e, om.dst = some e → e ∉ oi.looksAt ops) (hcl : ∀ d ∈ D, noClob ops d m = true) : gate P ops (m :: D) i s1 = gate P ops (m :: D) i s := by
  unfold gate
  rw [hoi]
  dsimp only
  split
  · rw [Bool.eq_iff_iff, List.all_eq_true, List.all_eq_true]
    have key : ∀ d ∈ m :: D, ∀ od, ops[d]? = some od → offsApart P s1 od oi = offsApart P s od oi := by
      intro d hd od hod
      · refine offs_stays hs p1 (fun t a hop => ?_)
        rcases List.mem_cons.1 hd with rfl | hd
        · rw [hom] at hod
          cases hod
          cases notTmp a om.dst
          · exact Or.inr rfl
          · exact Or.inl rfl
        · have := hcl d hd
          unfold noClob at this
          rw [hod, hom] at this
          dsimp only at this
          rw [hop] at this
          exact Or.inl this
    constructor
    · intro h d hd
      have h' := h d hd
      revert h'
      cases hod : ops[d]? with
      | none => exact id
      | some od => dsimp only; rw [key d hd od hod]; exact id
    · intro h d hd
      have h' := h d hd
      revert h'
      cases hod : ops[d]? with
      | none => exact id
      | some od => dsimp only; rw [key d hd od hod]; exact id
  · rfl
theorem step_bad {o : Oper} {kx : Nat} {e : Eff} {k : ASt → XT} (he : lightE e = true ∨ ∃ c T, e = .alloc c T) (hk : ∀ s1, Stays o.dst s s1 → ∃ why, k s1 = .bad why) (h : (stepX P N kx o s e k).ok P pin R J Lu wu) : False := by
  have hk' : ∀ s1 Lu wu, Stays o.dst s s1 → (k s1).ok P pin R J Lu wu → False := fun s1 Lu wu h1 h2 => by
    obtain ⟨why, e⟩ := hk s1 h1
    rw [e] at h2
    exact h2.elim
  have hset : ∀ (c : List AV) (T : TypeId) (q : Nat) (v : AV), Stays o.dst s ((s.set q c T).put o.dst v) := fun c T q v j hj => by
    rw [Stays.put (s := s.set q c T) o.dst v j hj]; rfl
  unfold stepX at h
  split at h
  · cases e with
    | val x => simp only [split_eq] at h; exact hk' _ _ _ (Stays.put _ _) h
    | alloc c T =>
      dsimp only at h
      split at h
      · exact hk' _ _ _ (hset _ _ _ _) h
      · exact h.elim
    | chk c x => simp only [split_eq] at h; exact hk' _ _ _ (Stays.put _ _) h.2
    | ld q ls row =>
      obtain ⟨ad, x, _, _, _, _, _, h⟩ := h
      dsimp only at h
      split at h
      · exact hk' _ _ _ (Stays.put _ _) h
      · simp only [split_eq] at h; exact hk' _ _ _ (Stays.put _ _) h
    | bad why => exact h.elim
    | stb a c T => rcases he with he | ⟨_, _, he⟩ <;> cases he
    | sto a xs => rcases he with he | ⟨_, _, he⟩ <;> cases he
    | call f args t => rcases he with he | ⟨_, _, he⟩ <;> cases he
    | sem g t => rcases he with he | ⟨_, _, he⟩ <;> cases he
  · exact h.elim
theorem seg_get {c0 v : List AV} {o : Nat} (h : o + v.length ≤ c0.length) (j : Nat) (hj : j < o ∨ o + v.length ≤ j) : (c0.take o ++ v ++ c0.drop (o + v.length))[j]? = c0[j]? := by
  have ht : (c0.take o).length = o := by simp; omega
  rcases hj with hj | hj
  · rw [List.append_assoc, List.getElem?_append_left (by omega), List.getElem?_take, if_pos hj]
  · rw [List.getElem?_append_right (by rw [List.length_append]; omega), List.getElem?_drop, List.length_append, ht]
    congr 1; omega
theorem seg_length {c0 v : List AV} {o : Nat} (h : o + v.length ≤ c0.length) : (c0.take o ++ v ++ c0.drop (o + v.length)).length = c0.length := by
  simp only [List.length_append, List.length_take, List.length_drop]; omega
theorem kind1_load {m : Nat} {om : Oper} (hom : ops[m]? = some om) (hk : kindAt P ops m = 1) : ∃ t a, om.op = .load t a := by
  unfold kindAt at hk
  rw [hom] at hk
  dsimp only at hk
  unfold kindOf at hk
  split at hk
  all_goals first
    | (exact ⟨_, _, by assumption⟩)
    | (exfalso; revert hk; repeat' split
       all_goals (intro hk; cases hk))
/-- A load beside a store elsewhere. -/
theorem effD_stb1 {m : Nat} {om oi : Oper} {q : Nat} {c : List AV} {T t' : TypeId} {a' x' : Operand} (hom : ops[m]? = some om) (hk1 : kindAt P ops m = 1) (hap : offsApart P s om oi = true) (hst : oi.op = .store t' a' x') (hc : core P s.ev s.blks oi = .stb q c T) :
    effD P base ops ord m om (s.set q c T) = effD P base ops ord m om s := by
  obtain ⟨t, a, hld⟩ := kind1_load hom hk1
  have hev : (s.set q c T).ev = s.ev := by funext x; cases x <;> rfl
  have hw : wantX ops om (s.set q c T) = wantX ops om s := rfl
  have hcore : core P s.ev (s.set q c T).blks om = core P s.ev s.blks om := by
    unfold offsApart at hap
    rw [hld, hst] at hap
    dsimp only at hap
    simp only [core, hst] at hc
    simp only [core, hld]
    split at hap
    case h_2 => simp at hap
    rename_i k off k' off' v e1 e2 e3
    rw [e2, e3] at hc
    dsimp only at hc
    split at hc
    case h_2 => cases hc
    rename_i c0 T0 hb
    split at hc
    case isFalse => cases hc
    rename_i hsz
    simp only [Bool.and_eq_true, decide_eq_true_eq] at hsz
    injection hc with q1 q2 q3
    subst q1 q2 q3
    rw [e1]
    dsimp only
    by_cases hkk : k = k'
    · subst hkk
      have e4 : (s.set k (c0.take off' ++ v.cells ++ c0.drop (off' + v.cells.length)) T0).blks k = some (c0.take off' ++ v.cells ++ c0.drop (off' + v.cells.length), T0) := by simp [ASt.set]
      rw [e4, hb]
      dsimp only
      simp only [Bool.and_eq_true, Bool.or_eq_true] at hap
      have hap : off + cellsAt P t ≤ off' ∨ off' + v.cells.length ≤ off := by
        rcases hap.2 with (h | h) | h
        · simp at h
        · exact Or.inl (Nat.le_of_ble_eq_true h)
        · exact Or.inr (Nat.le_of_ble_eq_true h)
      have hle : off' + v.cells.length ≤ c0.length := hsz.1.2
      cases hu : P.underlying t with
      | none => rfl
      | some d =>
        dsimp only
        have hcell : cellsAt P t = if d.isRow then P.cellsOf t else 1 := by unfold cellsAt; rw [hu]
        rw [hcell] at hap
        split
        · rename_i hr
          rw [if_pos hr] at hap
          rw [seg_length hle]
          have e5 : (((c0.take off' ++ v.cells ++ c0.drop (off' + v.cells.length)).drop off).take (P.cellsOf t)) = ((c0.drop off).take (P.cellsOf t)) := by
            apply List.ext_getElem?
            intro j
            rw [List.getElem?_take, List.getElem?_take]
            split
            · rw [List.getElem?_drop, List.getElem?_drop]
              exact seg_get hle _ (by omega)
            · rfl
          rw [e5]
        · rename_i hr
          rw [if_neg hr] at hap
          rw [seg_get hle _ (by omega)]
    · have e4 : ∀ c, (s.set k' c T0).blks k = s.blks k := fun c => by simp [ASt.set, beq_ne hkk]
      rw [e4]
  unfold effD
  rw [hw, hev, hcore]
  have hO : usedOp (s.set q c T) om = usedOp s om := usedOp_congr (fun x _ => by rw [hev])
  rw [hO, filt_1 hk1, filt_1 hk1]
  have hU : ∀ s' : ASt, usedE s' (filt1 (loose P ops ord 2 m) (core P s.ev s.blks om)) = [] := by
    intro s'
    cases core P s.ev s.blks om with
    | ld q ls row => simp only [filt1]; split <;> rfl
    | _ => rfl
  rw [hU, hU]
/-- A store is one. -/
theorem effD_stb {o : Oper} {i q : Nat} {c : List AV} {T : TypeId} (h : effD P base ops ord i o s = .stb q c T) : core P s.ev s.blks o = .stb q c T ∧ ∃ t a x, o.op = .store t a x := by
  have hc : core P s.ev s.blks o = .stb q c T := by
    unfold effD at h
    split at h
    · rcases guardE_or (usedOp s o ++ usedE s (filt P ops ord i s (core P s.ev s.blks o))) (banned P base ops ord i) (filt P ops ord i s (core P s.ev s.blks o)) with e | e
      · rw [e] at h
        rcases filt_or (P := P) (ops := ops) (ord := ord) (s := s) i (core P s.ev s.blks o) with e | ⟨why, e⟩
        · rw [← e]; exact h
        · rw [e] at h; cases h
      · rw [e] at h; cases h
    · cases h
    · cases h
  refine ⟨hc, ?_⟩
  cases ho : o.op with
  | store t a x => exact ⟨t, a, x, rfl⟩
  | _ => exact (core_stb (by simp [ho]) hc).elim
/-- A light operation, or one that makes a block, and another that is not ordered with it. -/
theorem swap {D : List Nat} {m i : Nat} {k : ASt → XT} (hcl : ∀ d ∈ D, noClob ops d m = true) (hind : indep P ops m i = true) (h2 : reach ops ops.size i m = false) (h3 : reach ops ops.size m i = false) (hm : m ∈ ord) (hi : i ∈ ord) (hne : m ≠ i)
    (h : (opD P N base ops ord D m s (fun s1 => opD P N base ops ord (m :: D) i s1 k)).ok P pin R J Lu wu) : (opD P N base ops ord D i s (fun s1 => opD P N base ops ord D m s1 k)).ok P pin R J Lu wu := by
  unfold indep apartAt at hind
  cases hom : ops[m]? with
  | none => rw [hom] at hind; simp at hind
  | some om =>
  cases hoi : ops[i]? with
  | none => rw [hom, hoi] at hind; simp at hind
  | some oi =>
  rw [hom, hoi] at hind
  simp only [Bool.and_eq_true, Bool.or_eq_true] at hind
  obtain ⟨hap, hkm⟩ := hind
  have hkm : kindAt P ops m = 0 ∨ kindAt P ops m = 1 ∨ kindAt P ops m = 3 := by
    rcases hkm with (h | h) | h
    · exact Or.inl (Nat.eq_of_beq_eq_true h)
    · exact Or.inr (Or.inl (Nat.eq_of_beq_eq_true h))
    · exact Or.inr (Or.inr (Nat.eq_of_beq_eq_true h))
  obtain ⟨p1, p2, p3⟩ := Oper.apart_spec hap
  have e1 : ∀ (s : ASt) (k : ASt → XT), opD P N base ops ord D m s k = stepX P N (base + m) om s (effD P base ops ord m om s) k := fun s k => by unfold opD; rw [hom]; dsimp only; rw [if_pos (gate_light hkm)]
  have hput : ∀ v, effD P base ops ord i oi (s.put om.dst v) = effD P base ops ord i oi s := fun v => effD_put p1 v
  rw [e1] at h
  by_cases hd : dstOk N om.dst = true
  case neg => unfold stepX at h; rw [if_neg hd] at h; exact h.elim
  by_cases hbad : ∃ why, effD P base ops ord m om s = .bad why
  · obtain ⟨why, hbad⟩ := hbad
    rw [hbad] at h
    unfold stepX at h
    rw [if_pos hd] at h
    exact h.elim
  have hshape : lightE (effD P base ops ord m om s) = true ∨ (kindAt P ops m = 3 ∧ ∃ c T, effD P base ops ord m om s = .alloc c T) := by
    rcases hkm with hk | hk | hk
    · exact Or.inl (effD_light (Or.inl hk))
    · exact Or.inl (effD_light (Or.inr hk))
    · rcases effD_kind3 (base := base) (ord := ord) (o := om) (s := s) hk with hc | hv | hw
      · exact Or.inr ⟨hk, hc⟩
      · rw [hv]; exact Or.inl rfl
      · exact absurd hw hbad
  have hgs : ∀ s1, Stays om.dst s s1 → gate P ops (m :: D) i s1 = gate P ops (m :: D) i s := fun s1 hs => gate_stays hom hoi hs p1 hcl
  by_cases hg : gate P ops (m :: D) i s = true
  case neg =>
    refine (step_bad (hshape.imp id (fun h => h.2)) (fun s1 hs => ?_) h).elim
    unfold opD
    rw [hoi]
    dsimp only
    rw [if_neg (by rw [hgs s1 hs]; exact hg)]
    exact ⟨_, rfl⟩
  have e2 : ∀ (s1 : ASt) (k : ASt → XT), Stays om.dst s s1 → opD P N base ops ord (m :: D) i s1 k = stepX P N (base + i) oi s1 (effD P base ops ord i oi s1) k := fun s1 k hs => by unfold opD; rw [hoi]; dsimp only; rw [if_pos (by rw [hgs s1 hs]; exact hg)]
  have e2' : ∀ (k : ASt → XT), opD P N base ops ord D i s k = stepX P N (base + i) oi s (effD P base ops ord i oi s) k := fun k => by unfold opD; rw [hoi]; dsimp only; rw [if_pos (gate_sub hg)]
  -- behind i, m does what it does ahead of it
  have hR : opD P N base ops ord D i s (fun s1 => opD P N base ops ord D m s1 k) = stepX P N (base + i) oi s (effD P base ops ord i oi s) (fun s1 => stepX P N (base + m) om s1 (effD P base ops ord m om s) k) := by
    rw [e2']
    by_cases hk1 : kindAt P ops m = 1
    · by_cases g3 : kindAt P ops i = 3
      · rcases effD_kind3 (base := base) (ord := ord) (o := oi) (s := s) g3 with ⟨c, T, hc⟩ | hv | ⟨why, hw⟩
        · rw [hc]
          have ea : ∀ K : ASt → XT, stepX P N (base + i) oi s (.alloc c T) K = (if dstOk N oi.dst = true then (match s.blks (base + i) with | none => K ((s.set (base + i) c T).put oi.dst (.p (base + i) 0)) | some _ => .bad "alloc: the key is taken") else .bad "slot") := fun K => rfl
          rw [ea, ea]
          split
          · split
            · rename_i hn
              rw [e1, effD_put (fun e he => p3 e he), effD_set1 hn hk1 (banned_mem hi (Ne.symm hne) g3 h3) hbad]
            · rfl
          · rfl
        · rw [hv]
          have ev : ∀ K : ASt → XT, stepX P N (base + i) oi s (.val (.v undef)) K = (if dstOk N oi.dst = true then K (s.put oi.dst (.v undef)) else .bad "slot") := fun K => by unfold stepX; simp only [split_eq]
          rw [ev, ev]
          split
          · rw [e1, effD_put (fun e he => p3 e he)]
          · rfl
        · rw [hw]
          rfl
      · have hblk : (∀ c T, effD P base ops ord i oi s ≠ .alloc c T) ∧ (∀ f args t, effD P base ops ord i oi s = .call f args t → exOf s args = some []) := by
          by_cases g0 : kindAt P ops i = 0 ∨ kindAt P ops i = 1
          · have := effD_light (base := base) (ord := ord) (s := s) (o := oi) g0
            refine ⟨fun c T he => ?_, fun f args t he => ?_⟩ <;> rw [he] at this <;> cases this
          · exact effD_keeps (fun h => g0 (Or.inl h)) (fun h => g0 (Or.inr h)) g3 (loose_of hm hne hk1 h2 h3)
        by_cases hsb : ∃ q c T, effD P base ops ord i oi s = .stb q c T
        · obtain ⟨q, c, T, hsb⟩ := hsb
          obtain ⟨hc, t', a', x', hst⟩ := effD_stb hsb
          have hap' : offsApart P s om oi = true := by
            unfold gate at hg
            rw [hoi] at hg
            dsimp only at hg
            rw [hst] at hg
            dsimp only at hg
            rw [List.all_eq_true] at hg
            have := hg m (by simp)
            rw [h2, hom] at this
            simpa using this
          rw [hsb]
          have ea : ∀ K : ASt → XT, stepX P N (base + i) oi s (.stb q c T) K = (if dstOk N oi.dst = true then K ((s.set q c T).put oi.dst (.v undef)) else .bad "slot") := fun K => rfl
          rw [ea, ea]
          split
          · rw [e1, effD_put (fun e he => p3 e he), effD_stb1 hom hk1 hap' hst hc]
          · rfl
        · refine step_congr (fun s1 hs hb => ?_)
          rw [e1]
          congr 1
          exact effD_stays hom hs p3 (Or.inr (Or.inr ⟨hk1, hb hblk.1 (fun q c T he => hsb ⟨q, c, T, he⟩) hblk.2⟩))
    · refine step_congr (fun s1 hs hb => ?_)
      rw [e1]
      congr 1
      refine effD_stays hom hs p3 ?_
      rcases hkm with hk | hk | hk
      · exact Or.inl hk
      · exact absurd hk hk1
      · exact Or.inr (Or.inl hk)
  rw [hR]
  have hstep : ∀ v, stepX P N (base + i) oi (s.put om.dst v) (effD P base ops ord i oi (s.put om.dst v)) k = stepX P N (base + i) oi s (effD P base ops ord i oi s) (fun s1 => k (s1.put om.dst v)) := fun v => by rw [hput, step_put p2]
  have hput' : ∀ v, Stays om.dst s (s.put om.dst v) := fun v => Stays.put _ _
  generalize hem : effD P base ops ord m om s = em at h hshape hbad ⊢
  cases em with
  | val v =>
    have e3 : ∀ (s : ASt) (k : ASt → XT), stepX P N (base + m) om s (.val v) k = k (s.put om.dst v) := fun s k => by unfold stepX; rw [if_pos hd]; simp only [split_eq]
    rw [e3, e2 _ _ (hput' _), hstep] at h
    simpa only [e3] using h
  | chk c v =>
    have e3 : ∀ (s : ASt) (k : ASt → XT), stepX P N (base + m) om s (.chk c v) k = .need c (k (s.put om.dst v)) := fun s k => by unfold stepX; rw [if_pos hd]; simp only [split_eq]
    rw [e3] at h
    obtain ⟨hc, h⟩ := h
    rw [e2 _ _ (hput' _), hstep] at h
    refine step_mono (fun s1 Lu wu hk => ?_) h
    rw [e3]
    exact ⟨hc, hk⟩
  | alloc c T =>
    have hk3 : kindAt P ops m = 3 := by
      rcases hshape with hl | ⟨hk, _⟩
      · cases hl
      · exact hk
    have e3 : ∀ (s : ASt) (k : ASt → XT), s.blks (base + m) = none → stepX P N (base + m) om s (.alloc c T) k = k ((s.set (base + m) c T).put om.dst (.p (base + m) 0)) := fun s k hn => by unfold stepX; rw [if_pos hd]; dsimp only; rw [hn]
    have hn : s.blks (base + m) = none := by
      cases hb : s.blks (base + m) with
      | none => rfl
      | some cT =>
        unfold stepX at h
        rw [if_pos hd] at h
        dsimp only at h
        rw [hb] at h
        exact h.elim
    rw [e3 s _ hn, e2 _ _ (fun j hj => by rw [Stays.put (s := s.set (base + m) c T) om.dst _ j hj]; rfl)] at h
    rw [effD_put p1, step_put p2] at h
    by_cases hbi : ∃ why, effD P base ops ord i oi (s.set (base + m) c T) = .bad why
    · obtain ⟨why, hbi⟩ := hbi
      rw [hbi] at h
      unfold stepX at h
      split at h <;> exact h.elim
    obtain ⟨g1, g2, g3⟩ := effD_set hn (banned_mem hm hne hk3 h2) hbi
    have hneq : base + m ≠ base + i := by omega
    rw [step_set hn hneq g2 g3] at h
    rw [g1] at h g3
    rw [step_none (k' := fun s1 => k ((s1.set (base + m) c T).put om.dst (.p (base + m) 0))) hn hneq g3 (fun s1 hs1 => e3 s1 k hs1)]
    exact h
  | ld q ls row =>
    have hk1 : kindAt P ops m = 1 := by
      rcases hkm with hk | hk | hk
      · exact absurd hem (effD_kind0 hk)
      · exact hk
      · rcases effD_kind3 (base := base) (ord := ord) (o := om) (s := s) hk with ⟨c, T, hc⟩ | hv | ⟨why, hw⟩
        · rw [hc] at hem; cases hem
        · rw [hv] at hem; cases hem
        · rw [hw] at hem; cases hem
    have hl2 := effD_ld hk1 hem
    have hki : kindAt P ops i = 0 ∨ kindAt P ops i = 1 ∨ kindAt P ops i = 3 := by
      by_cases g0 : kindAt P ops i = 0 ∨ kindAt P ops i = 1 ∨ kindAt P ops i = 3
      · exact g0
      · exfalso
        have hle : kindAt P ops i = 2 := by
          unfold kindAt at g0 ⊢
          rw [hoi] at g0 ⊢
          dsimp only at g0 ⊢
          unfold kindOf at g0 ⊢
          split at g0 <;> simp_all <;> (split at g0 <;> simp_all)
        have := loose_of hi (Ne.symm hne) hle h3 h2
        rw [hl2] at this
        cases this
    have hli : lightE (effD P base ops ord i oi s) = true ∨ ∃ c T, effD P base ops ord i oi s = .alloc c T := by
      rcases hki with hk | hk | hk
      · exact Or.inl (effD_light (Or.inl hk))
      · exact Or.inl (effD_light (Or.inr hk))
      · rcases effD_kind3 (base := base) (ord := ord) (o := oi) (s := s) hk with hc | hv | ⟨why, hw⟩
        · exact Or.inr hc
        · rw [hv]; exact Or.inl rfl
        · rw [hw]; exact Or.inl rfl
    obtain ⟨v, e3⟩ : ∃ v : Tup ls → AV, ∀ (s : ASt) (k : ASt → XT), stepX P N (base + m) om s (.ld q ls row) k = .ld q ls (fun x => k (s.put om.dst (v x))) := by
      refine ⟨fun x => if row then .agg (vs ls x) else (vs ls x).headD (.v undef), fun s k => ?_⟩
      unfold stepX
      rw [if_pos hd]
      dsimp only
      congr 1
      funext x
      split
      · rfl
      · simp only [split_eq]
    rw [e3] at h
    obtain ⟨ad, x, f1, f2, f3, f4, f5, h⟩ := h
    dsimp only at h
    rw [e2 _ _ (hput' _), hstep] at h
    simp only [e3]
    generalize effD P base ops ord i oi s = ei at h hli
    by_cases hdi : dstOk N oi.dst = true
    case neg => unfold stepX at h; rw [if_neg hdi] at h; exact h.elim
    unfold stepX at h ⊢
    rw [if_pos hdi] at h ⊢
    cases ei with
    | val y => simp only [split_eq] at h ⊢; exact ⟨ad, x, f1, f2, f3, f4, f5, h⟩
    | chk c y => simp only [split_eq] at h ⊢; exact ⟨h.1, ad, x, f1, f2, f3, f4, f5, h.2⟩
    | ld q2 ls2 row2 =>
      obtain ⟨ad2, x2, g1, g2, g3, g4, g5, h⟩ := h
      refine ⟨ad2, x2, g1, g2, g3, g4, g5, ?_⟩
      dsimp only at h ⊢
      split
      · rename_i hr; rw [if_pos hr] at h; exact ⟨ad, x, f1, f2, f3, f4, f5, h⟩
      · rename_i hr; rw [if_neg hr] at h; simp only [split_eq] at h ⊢; exact ⟨ad, x, f1, f2, f3, f4, f5, h⟩
    | alloc c T =>
      dsimp only at h ⊢
      split
      · rename_i hn; rw [hn] at h; exact ⟨ad, x, f1, f2, f3, f4, f5, h⟩
      · rename_i hn; rw [hn] at h; exact h.elim
    | bad why => exact h.elim
    | stb a c T => rcases hli with hli | ⟨_, _, hli⟩ <;> cases hli
    | sto a xs => rcases hli with hli | ⟨_, _, hli⟩ <;> cases hli
    | call f args t => rcases hli with hli | ⟨_, _, hli⟩ <;> cases hli
    | sem g t => rcases hli with hli | ⟨_, _, hli⟩ <;> cases hli
  | bad why => exact absurd ⟨why, rfl⟩ hbad
  | stb a c T => rcases hshape with hl | ⟨_, _, _, hl⟩ <;> cases hl
  | sto a xs => rcases hshape with hl | ⟨_, _, _, hl⟩ <;> cases hl
  | call f args t => rcases hshape with hl | ⟨_, _, _, hl⟩ <;> cases hl
  | sem g t => rcases hshape with hl | ⟨_, _, _, hl⟩ <;> cases hl
theorem opD_mono {D : List Nat} {i : Nat} {k k' : ASt → XT} (h : ∀ s1 Lu wu, (k s1).ok P pin R J Lu wu → (k' s1).ok P pin R J Lu wu) (hk : (opD P N base ops ord D i s k).ok P pin R J Lu wu) : (opD P N base ops ord D i s k').ok P pin R J Lu wu := by
  unfold opD at hk ⊢
  split
  · rename_i hn; rw [hn] at hk; exact hk.elim
  · rename_i o ho
    rw [ho] at hk
    dsimp only at hk
    split
    · rename_i hg; rw [if_pos hg] at hk; exact step_mono h hk
    · rename_i hg; rw [if_neg hg] at hk; exact hk.elim
/-- Fewer are done: less is asked. -/
theorem gate_subset {D D' : List Nat} {i : Nat} (hs : ∀ d ∈ D', d ∈ D) (h : gate P ops D i s = true) : gate P ops D' i s = true := by
  unfold gate at h ⊢
  split
  · rename_i o ho
    rw [ho] at h
    dsimp only at h
    split
    · rename_i t a x hop
      rw [hop] at h
      dsimp only at h
      rw [List.all_eq_true] at h ⊢
      exact fun d hd => h d (hs d hd)
    · rfl
  · rfl
theorem run_subset {k : ASt → XT} : ∀ (is D D' : List Nat) (s : ASt) (Lu : Nat → Prop) (wu : World), (∀ d ∈ D', d ∈ D) → (runD P N base ops ord D is s k).ok P pin R J Lu wu → (runD P N base ops ord D' is s k).ok P pin R J Lu wu
  | [], D, D', s, Lu, wu, hs, h => h
  | i :: r, D, D', s, Lu, wu, hs, h => by
    simp only [runD] at h ⊢
    unfold opD at h ⊢
    split
    · rename_i hn; rw [hn] at h; exact h.elim
    · rename_i o ho
      rw [ho] at h
      dsimp only at h
      split at h
      · rename_i hg
        rw [if_pos (gate_subset hs hg)]
        refine step_mono (fun s1 Lu wu hk => run_subset r (i :: D) (i :: D') s1 Lu wu (fun d hd => ?_) hk) h
        rcases List.mem_cons.1 hd with rfl | hd
        · exact List.mem_cons_self
        · exact List.mem_cons_of_mem _ (hs d hd)
      · exact h.elim
theorem bubble {i : Nat} {k : ASt → XT} {r2 : List Nat} (hi : i ∈ ord) : ∀ (r1 D : List Nat) (s : ASt) (Lu : Nat → Prop) (wu : World), (∀ m ∈ r1, m ∈ ord ∧ m ≠ i ∧ reach ops ops.size m i = false ∧ reach ops ops.size i m = false ∧ indep P ops m i = true) → (∀ d ∈ D, ∀ m ∈ r1, noClob ops d m = true) → r1.Pairwise (fun d m => noClob ops d m = true) →
    (runD P N base ops ord D (r1 ++ i :: r2) s k).ok P pin R J Lu wu → (opD P N base ops ord D i s fun s1 => runD P N base ops ord D (r1 ++ r2) s1 k).ok P pin R J Lu wu
  | [], D, s, Lu, wu, _, _, _, h => opD_mono (fun s1 Lu wu hk => run_subset r2 (i :: D) D s1 Lu wu (fun d hd => List.mem_cons_of_mem _ hd) hk) h
  | m :: r1, D, s, Lu, wu, hg, hc, hp, h => by
    obtain ⟨g1, g2, g3, g4, g5⟩ := hg m (by simp)
    rw [List.pairwise_cons] at hp
    have h' : (opD P N base ops ord D m s fun s1 => opD P N base ops ord (m :: D) i s1 fun s2 => runD P N base ops ord (m :: D) (r1 ++ r2) s2 k).ok P pin R J Lu wu :=
      opD_mono (fun s1 Lu wu hk => bubble hi r1 (m :: D) s1 Lu wu (fun m hm => hg m (by simp [hm])) (fun d hd x hx => by
        rcases List.mem_cons.1 hd with rfl | hd
        · exact hp.1 x hx
        · exact hc d hd x (by simp [hx])) hp.2 hk) h
    exact swap (fun d hd => hc d hd m (by simp)) g5 g4 g3 g1 hi g2 h'
theorem opD_ok {D : List Nat} {i : Nat} {k : ASt → XT} {a : Act} {w : World} (h : Inv P pin R N s (opD P N base ops ord D i s k) J a w) :
    wpOp P ops Q i (fun a' w' => ∃ s', Went (dsts ops) s s' ∧ Inv P pin R N s' (k s') J a' w') a w := by
  unfold opD at h
  unfold wpOp
  split at h
  · obtain ⟨_, _, _, _, hok, _⟩ := h; exact hok.elim
  · rename_i o ho
    simp only [ho]
    by_cases hgt : gate P ops D i s = true
    case neg =>
      rw [if_neg hgt] at h
      obtain ⟨_, _, _, _, hok, _⟩ := h; exact hok.elim
    rw [if_pos hgt] at h
    unfold effD at h
    split at h
    · rename_i hb
      have hw : Region.wanted o (yielded ops a.tmps) = true := by
        obtain ⟨ρ, L, Lu, wu, _, hrel, _⟩ := h
        exact want_ok hrel hb
      rw [hw]
      simp only [if_true]
      refine Or.inl ?_
      have hfe : guardE (usedOp s o ++ usedE s (filt P ops ord i s (core P s.ev s.blks o))) (banned P base ops ord i) (filt P ops ord i s (core P s.ev s.blks o)) = core P s.ev s.blks o ∨ ∃ why, guardE (usedOp s o ++ usedE s (filt P ops ord i s (core P s.ev s.blks o))) (banned P base ops ord i) (filt P ops ord i s (core P s.ev s.blks o)) = .bad why := by
        rcases guardE_or (usedOp s o ++ usedE s (filt P ops ord i s (core P s.ev s.blks o))) (banned P base ops ord i) (filt P ops ord i s (core P s.ev s.blks o)) with e | e
        · rw [e]; exact filt_or (P := P) (ops := ops) (ord := ord) (s := s) i (core P s.ev s.blks o)
        · exact Or.inr ⟨_, e⟩
      rcases hfe with e | ⟨why, e⟩
      · rw [e] at h
        exact Oper.wp_mono (fun a' w' ⟨s', h1, h2⟩ => ⟨s', goes_went ho h1, h2⟩) (step_ok h)
      · rw [e] at h
        obtain ⟨_, _, _, _, hok, _⟩ := h
        unfold stepX at hok
        split at hok <;> exact hok.elim
    · rename_i hb
      have hw : Region.wanted o (yielded ops a.tmps) = false := by
        obtain ⟨ρ, L, Lu, wu, _, hrel, _⟩ := h
        exact want_ok hrel hb
      rw [hw]
      simp only [Bool.false_eq_true, if_false]
      obtain ⟨ρ, L, Lu, wu, hok, hrel, hL, hext, hpin, hpd⟩ := h
      by_cases hd : dstOk N o.dst = true
      · unfold stepX at hok
        rw [if_pos hd] at hok
        simp only [split_eq] at hok
        exact ⟨_, goes_went ho ⟨Subst.put _ _, Stays.put _ _⟩, ρ, L, Lu, wu, hok, hrel.put o.dst (.v undef) rfl hd, by rw [put_D]; exact hL, hext, hpin, by rw [put_D]; exact hpd⟩
      · unfold stepX at hok; rw [if_neg hd] at hok; exact hok.elim
    · obtain ⟨_, _, _, _, hok, _⟩ := h
      unfold stepX at hok
      split at hok <;> exact hok.elim
/-- What is done has all that it waits for done. -/
def Closed (ops : Array Oper) (listed : Array Bool) : Prop := ∀ i, listed.getD i false = true → ∀ d ∈ preds ops i, listed.getD d false = true
theorem reach_listed {listed : Array Bool} (hc : Closed ops listed) : ∀ (n i m : Nat), (∀ d ∈ preds ops i, listed.getD d false = true) → reach ops n i m = true → listed.getD m false = true
  | 0, i, m, _, h => by cases h
  | n + 1, i, m, hi, h => by
    simp only [reach, List.any_eq_true, Bool.or_eq_true] at h
    obtain ⟨d, hd, h⟩ := h
    rcases h with h | h
    · rw [← Nat.eq_of_beq_eq_true h]; exact hi d hd
    · exact reach_listed hc n d m (hc d (hi d hd)) h
theorem ready_preds {i : Nat} {listed : Array Bool} (h : i ∈ Region.ready .any ops listed) : listed.getD i true = false ∧ ∀ d ∈ preds ops i, listed.getD d false = true := by
  rw [mem_ready] at h
  obtain ⟨h0, o, ho, hall⟩ := h
  refine ⟨h0, fun d hd => ?_⟩
  unfold preds at hd
  rw [ho] at hd
  simp only [List.mem_map, List.mem_filter] at hd
  obtain ⟨e, ⟨he1, he2⟩, rfl⟩ := hd
  exact hall e (by simpa using he1) he2
/-- The rest, in the order that was chosen. -/
def Rest (P : Program) (ops : Array Oper) (ord : List Nat) (listed : Array Bool) (rem : List Nat) : Prop :=
  (∀ i ∈ rem, i ∈ ord ∧ i < ops.size ∧ listed.getD i true = false) ∧ (∀ i, i < ops.size → i ∉ rem → listed.getD i false = true) ∧ pairsOk P ops rem = true ∧ (∀ done : List Nat, (∀ d, listed.getD d false = true → d ∈ done) → predsOk ops done rem = true) ∧ listed.size = ops.size
theorem pairs_clob : ∀ (r : List Nat), pairsOk P ops r = true → r.Pairwise (fun d m => noClob ops d m = true)
  | [], _ => List.Pairwise.nil
  | m :: r, h => by
    simp only [pairsOk, Bool.and_eq_true, List.all_eq_true] at h
    exact List.Pairwise.cons (fun x hx => (h.1 x hx).1.2) (pairs_clob r h.2)
theorem pairs_split {i : Nat} {r2 : List Nat} : ∀ (r1 : List Nat), pairsOk P ops (r1 ++ i :: r2) = true → (∀ m ∈ r1, m ≠ i ∧ reach ops ops.size m i = false ∧ (reach ops ops.size i m = true ∨ indep P ops m i = true)) ∧ pairsOk P ops (r1 ++ r2) = true ∧ (∀ j ∈ r1 ++ r2, j ≠ i)
  | [], h => by
    simp only [List.nil_append, pairsOk, Bool.and_eq_true, List.all_eq_true] at h
    refine ⟨by simp, h.2, fun j hj e => ?_⟩
    have := (h.1 j (by simpa using hj)).1.1
    subst e; simp at this
  | m :: r1, h => by
    simp only [List.cons_append, pairsOk, Bool.and_eq_true, List.all_eq_true] at h
    obtain ⟨i1, i2, i3⟩ := pairs_split r1 h.2
    have hmi := h.1 i (by simp)
    have hne : m ≠ i := fun e => by have := hmi.1.1.1; subst e; simp at this
    refine ⟨?_, ?_, ?_⟩
    · intro x hx
      rcases List.mem_cons.1 hx with rfl | hx
      · exact ⟨hne, by simpa using hmi.1.1.2, by simpa using hmi.2⟩
      · exact i1 x hx
    · simp only [List.cons_append, pairsOk, Bool.and_eq_true, List.all_eq_true]
      refine ⟨fun x hx => h.1 x ?_, i2⟩
      simp only [List.mem_append, List.mem_cons] at hx ⊢
      rcases hx with hx | hx
      · exact Or.inl hx
      · exact Or.inr (Or.inr hx)
    · intro j hj
      simp only [List.cons_append, List.mem_cons] at hj
      rcases hj with rfl | hj
      · exact hne
      · exact i3 j hj
theorem preds_mono : ∀ (r : List Nat) (done done' : List Nat), (∀ d ∈ done, d ∈ done') → predsOk ops done r = true → predsOk ops done' r = true
  | [], _, _, _, _ => rfl
  | i :: r, done, done', hs, h => by
    simp only [predsOk, Bool.and_eq_true, List.all_eq_true] at h ⊢
    refine ⟨fun d hd => by have := h.1 d hd; simp only [List.contains_iff_mem] at this ⊢; exact hs d this, preds_mono r _ _ ?_ h.2⟩
    intro d hd
    rcases List.mem_cons.1 hd with rfl | hd
    · exact List.mem_cons_self
    · exact List.mem_cons_of_mem _ (hs d hd)
theorem preds_split {i : Nat} {r2 : List Nat} : ∀ (r1 done : List Nat), predsOk ops done (r1 ++ i :: r2) = true → predsOk ops (i :: done) (r1 ++ r2) = true
  | [], done, h => by simp only [List.nil_append, predsOk, Bool.and_eq_true] at h; exact h.2
  | m :: r1, done, h => by
    simp only [List.cons_append, predsOk, Bool.and_eq_true, List.all_eq_true] at h ⊢
    refine ⟨fun d hd => by have := h.1 d hd; simp only [List.contains_iff_mem, List.mem_cons] at this ⊢; exact Or.inr this, ?_⟩
    exact preds_mono _ _ _ (fun d hd => by simp only [List.mem_cons] at hd ⊢; rcases hd with h | h | h <;> simp [h]) (preds_split r1 (m :: done) h.2)
theorem any_ok {k : ASt → XT} (hQ : ∀ s' a' w', Went (dsts ops) s s' → Inv P pin R N s' (k s') J a' w' → Q .normal a' w') :
    ∀ (fuel : Nat) (listed : Array Bool) (rem : List Nat) (s1 : ASt) (a : Act) (w : World), Inv P pin R N s1 (runD P N base ops ord [] rem s1 k) J a w → Went (dsts ops) s s1 → Rest P ops ord listed rem → Closed ops listed → rem.length = fuel →
      wpAny P .any ops Q fuel listed a w
  | 0, listed, rem, s1, a, w, h, hw, hrest, hcl, hlen => by
    have hr : rem = [] := List.eq_nil_of_length_eq_zero hlen
    subst hr
    refine ⟨?_, hQ _ _ _ hw h⟩
    rw [List.eq_nil_iff_forall_not_mem]
    intro i hi
    have hlt : i < ops.size := by
      rw [mem_ready] at hi
      obtain ⟨_, o, ho, _⟩ := hi
      exact (Array.getElem?_eq_some_iff.1 ho).1
    have h1 := hrest.2.1 i hlt (by simp)
    have h2 := (ready_preds hi).1
    have hlt' : i < listed.size := by rw [hrest.2.2.2.2]; exact hlt
    simp [hlt'] at h1 h2
    rw [h1] at h2; cases h2
  | fuel + 1, listed, rem, s1, a, w, h, hw, hrest, hcl, hlen => by
    refine ⟨fun hnil => ?_, fun i hi => ?_⟩
    · exfalso
      cases rem with
      | nil => simp at hlen
      | cons i r =>
        obtain ⟨g1, g2, g3⟩ := hrest.1 i (by simp)
        have hp := hrest.2.2.2.1 ((List.range ops.size).filter fun d => listed.getD d false) (fun d hd => by
          rw [List.mem_filter, List.mem_range]
          refine ⟨?_, hd⟩
          rcases Nat.lt_or_ge d listed.size with h' | h'
          · rw [← hrest.2.2.2.2]; exact h'
          · simp [Array.getElem?_eq_none h'] at hd)
        simp only [predsOk, Bool.and_eq_true, List.all_eq_true] at hp
        have : i ∈ Region.ready .any ops listed := by
          rw [mem_ready]
          cases ho : ops[i]? with
          | none => rw [Array.getElem?_eq_none_iff] at ho; omega
          | some o =>
            refine ⟨g3, o, rfl, fun e he hb => ?_⟩
            have hd := hp.1 e.on (by unfold preds; rw [ho]; simp only [List.mem_map, List.mem_filter]; exact ⟨e, ⟨by simpa using he, hb⟩, rfl⟩)
            simp only [List.contains_iff_mem, List.mem_filter] at hd
            exact hd.2
        rw [hnil] at this
        cases this
    · obtain ⟨g1, g2⟩ := ready_preds hi
      have hlt : i < ops.size := by
        rw [mem_ready] at hi
        obtain ⟨_, o, ho, _⟩ := hi
        exact (Array.getElem?_eq_some_iff.1 ho).1
      have hmem : i ∈ rem := by
        by_cases hm : i ∈ rem
        · exact hm
        · exfalso
          have h1 := hrest.2.1 i hlt hm
          have hlt' : i < listed.size := by rw [hrest.2.2.2.2]; exact hlt
          simp [hlt'] at h1 g1
          rw [h1] at g1; cases g1
      obtain ⟨r1, r2, rfl⟩ := List.append_of_mem hmem
      obtain ⟨p1, p2, p3⟩ := pairs_split r1 hrest.2.2.1
      have hio := (hrest.1 i hmem).1
      have hgood : ∀ m ∈ r1, m ∈ ord ∧ m ≠ i ∧ reach ops ops.size m i = false ∧ reach ops ops.size i m = false ∧ indep P ops m i = true := by
        intro m hm
        obtain ⟨q1, q2, q3⟩ := p1 m hm
        obtain ⟨m1, m2, m3⟩ := hrest.1 m (by simp [hm])
        have hnr : reach ops ops.size i m = false := by
          cases hr : reach ops ops.size i m
          · rfl
          · have := reach_listed hcl _ i m g2 hr
            have hlt' : m < listed.size := by rw [hrest.2.2.2.2]; exact m2
            simp [hlt'] at this m3
            rw [this] at m3; cases m3
        exact ⟨m1, q1, q2, hnr, q3.resolve_left (by rw [hnr]; simp)⟩
      obtain ⟨ρ, L, Lu, wu, hok, hrel, hL, hext, hpin, hpd⟩ := h
      have hb : Inv P pin R N s1 (opD P N base ops ord [] i s1 fun s2 => runD P N base ops ord [] (r1 ++ r2) s2 k) J a w := ⟨ρ, L, Lu, wu, bubble hio r1 [] s1 Lu wu hgood (fun d hd => by cases hd) (List.pairwise_append.1 (pairs_clob _ hrest.2.2.1)).1 hok, hrel, hL, hext, hpin, hpd⟩
      refine wpOp_mono ?_ (opD_ok hb)
      rintro a' w' ⟨s2, hw2, hi2⟩
      have hset : ∀ j, j ≠ i → (listed.setIfInBounds i true).getD j true = listed.getD j true := fun j hj => getD_set_ne true (Ne.symm hj)
      have hset2 : ∀ j, j ≠ i → (listed.setIfInBounds i true).getD j false = listed.getD j false := fun j hj => getD_set_ne false (Ne.symm hj)
      have hlt' : i < listed.size := by rw [hrest.2.2.2.2]; exact hlt
      have hseti : (listed.setIfInBounds i true).getD i false = true := by simp [hlt']
      refine any_ok hQ fuel _ (r1 ++ r2) s2 a' w' hi2 (hw.trans hw2) ⟨?_, ?_, p2, ?_, by simp [hrest.2.2.2.2]⟩ ?_ ?_
      · intro j hj
        obtain ⟨j1, j2, j3⟩ := hrest.1 j (by simp only [List.mem_append, List.mem_cons] at hj ⊢; rcases hj with h | h <;> simp [h])
        exact ⟨j1, j2, by rw [hset j (p3 j hj)]; exact j3⟩
      · intro j hj hnj
        by_cases e : j = i
        · subst e; exact hseti
        · rw [hset2 j e]
          exact hrest.2.1 j hj (by simp only [List.mem_append, List.mem_cons] at hnj ⊢; rintro (h | h | h); exact hnj (Or.inl h); exact e h; exact hnj (Or.inr h))
      · intro done hdone
        have hd1 := hrest.2.2.2.1 (done.filter fun d => listed.getD d false) (fun d hd => by
          rw [List.mem_filter]
          refine ⟨hdone d (getD_set_true hd), hd⟩)
        have := preds_split r1 _ hd1
        refine preds_mono _ _ _ ?_ this
        intro d hd
        rcases List.mem_cons.1 hd with rfl | hd
        · exact hdone _ hseti
        · exact (List.mem_filter.1 hd).1
      · intro j hj d hd
        by_cases e : j = i
        · subst e; exact getD_set_true (g2 d hd)
        · rw [hset2 j e] at hj
          exact getD_set_true (hcl j hj d hd)
      · simp only [List.length_append, List.length_cons] at hlen ⊢
        omega
theorem greedy_lt : ∀ (n : Nat) (done rem : List Nat) (b : Nat), (∀ j ∈ rem, j < b) → ∀ i ∈ greedy P ops n done rem, i < b
  | 0, done, rem, b, h, i, hi => by simp [greedy] at hi
  | n + 1, done, rem, b, h, i, hi => by
    simp only [greedy] at hi
    have hf : ∀ (i : Nat), ∀ j ∈ rem.filter (fun j => !Nat.beq j i), j < b := fun i j hj => h j (List.mem_filter.1 hj).1
    split at hi
    · rename_i x hx
      rcases List.mem_cons.1 hi with rfl | hi
      · exact h _ (List.mem_filter.1 (List.mem_of_find?_eq_some hx)).1
      · exact greedy_lt n _ _ b (hf x) i hi
    · split at hi
      · rename_i x r hx
        rcases List.mem_cons.1 hi with rfl | hi
        · have hin : i ∈ (List.find? (fun i => (kindAt P ops i).beq 3) (List.filter (fun i => (preds ops i).all fun d => done.contains d) rem)).toList ++ List.filter (fun i => (preds ops i).all fun d => done.contains d) rem := by rw [hx]; simp
          rcases List.mem_append.1 hin with hin | hin
          · rw [Option.mem_toList] at hin
            exact h _ (List.mem_filter.1 (List.mem_of_find?_eq_some hin)).1
          · exact h _ (List.mem_filter.1 hin).1
        · exact greedy_lt n _ _ b (hf x) i hi
      · cases hi
/-- A REGION THAT DRAWS ITS ORDER. -/
theorem draw_ok (hm : P.follows .mixedOrders = true) (id : Nat) (ops : Array Oper) (s : ASt) (k : ASt → XT) (J : Jt) (a : Act) (w : World) (h : Inv P pin R N s (drawX P N ((id + 1) * 1000) ops s k) J a w) :
    (Code.region id ops true).wp P (fun e a' w' => e = .normal ∧ ∃ s', Went (dsts ops) s s' ∧ Inv P pin R N s' (k s') J a' w') a w := by
  unfold drawX at h
  split at h
  · rename_i hok
    unfold orderOk at hok
    simp only [Bool.and_eq_true, List.all_eq_true] at hok
    obtain ⟨⟨⟨⟨o1, o2⟩, o3⟩, o4⟩, o5⟩ := hok
    have o3 := Nat.eq_of_beq_eq_true o3
    refine wp_region_any hm ?_
    have h' : Inv P pin R N s (runD P N ((id + 1) * 1000) ops (orderOf P ops) [] (orderOf P ops) s k) J a { w with drawn := w.drawn + 1 } := by
      obtain ⟨ρ, L, Lu, wu, hk, hrel, hL, hext, hpin, hpd⟩ := h
      exact ⟨ρ, L, Lu, wu, hk, ⟨hrel.size, hrel.tmps, hrel.wft, hrel.blks, hrel.wfb, hrel.inj, hrel.defers⟩, hL, ⟨hext.sub, hext.new, hext.lt, hext.size, hext.keep, hext.same⟩, hpin, hpd⟩
    have hrep : ∀ i, (Array.replicate ops.size false).getD i false = false := fun i => by
      rw [Array.getD_eq_getD_getElem?, Array.getElem?_replicate]; split <;> rfl
    refine any_ok (ord := orderOf P ops) (fun s' a' w' h1 h2 => ⟨rfl, s', h1, h2⟩) ops.size _ _ s a _ h' (Went.refl _ s) ⟨?_, ?_, o1, ?_, by simp⟩ ?_ o3
    · intro i hi
      have hlt : i < ops.size := greedy_lt _ _ _ _ (fun j hj => List.mem_range.1 hj) i hi
      exact ⟨hi, hlt, by simp [hlt]⟩
    · intro i hi hni
      have := o4 i (List.mem_range.2 hi)
      simp only [List.contains_iff_mem] at this
      exact absurd this hni
    · intro done hdone
      exact preds_mono _ _ _ (fun d hd => by cases hd) o2
    · intro i hi
      rw [hrep i] at hi; cases hi
  · obtain ⟨_, _, _, _, hk, _⟩ := h; exact hk.elim
end
end Go.Proofs.YtggemgbkkhpenaaW.Rx
