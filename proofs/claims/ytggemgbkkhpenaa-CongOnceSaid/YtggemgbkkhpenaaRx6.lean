/- The machine for walks: one step, and a row of steps. -/
import Derived.Test.YtggemgbkkhpenaaRx5
namespace Go.Proofs.YtggemgbkkhpenaaW.Rx
open Go
set_option linter.unusedVariables false
set_option linter.unusedSimpArgs false
/-- A bool is told apart at once. -/
def split (x : AV) (k : AV → XT) : XT := match x with
  | .v (.bool b) => bif b then k (.v (.bool true)) else k (.v (.bool false))
  | x => k x
theorem split_eq (x : AV) (k : AV → XT) : split x k = k x := by
  unfold split
  split
  · rename_i b; cases b <;> rfl
  · rfl
def keysOf (s : ASt) : Nat → List Nat → List Nat → List Nat
  | 0, _, acc => acc
  | _, [], acc => acc
  | n + 1, k :: r, acc => if acc.contains k then keysOf s n r acc else match s.blks k with
    | some (c, _) => keysOf s n (AV.keyss c ++ r) (acc ++ [k])
    | none => keysOf s n r acc
def outOf (s : ASt) : List Nat → Option Out
  | [] => some []
  | k :: r => match s.blks k, outOf s r with
    | some (c, T), some o => if o.any (fun x => Nat.beq x.1 k) then none else some ((k, c, T) :: o)
    | _, _ => none
def exOf (s : ASt) (args : List AV) : Option Out := outOf s (keysOf s 64 (AV.keyss args) [])
section
variable (P : Program)
def lesOf : Out → Option (List Lf × List Nat)
  | [] => some ([], [])
  | (_, c, T) :: r => match leaves P 8 T, lesOf r with
    | some a, some (b, ns) => if Nat.beq a.length c.length then some (a ++ b, c.length :: ns) else none
    | _, _ => none
def backS (s : ASt) : Out → List (List AV) → ASt
  | (k, _, T) :: r, c :: cs => backS (s.set k c T) r cs
  | _, _ => s
def dstOk (N : Nat) : Option Nat → Bool
  | some d => Nat.blt d N
  | none => true
def stepX (N key : Nat) (o : Oper) (s : ASt) (e : Eff) (k : ASt → XT) : XT :=
  if dstOk N o.dst = true then
    match e with
    | .val x => split x fun x => k (s.put o.dst x)
    | .alloc c T => (match s.blks key with
      | none => k ((s.set key c T).put o.dst (.p key 0))
      | some _ => .bad "alloc: the key is taken")
    | .stb q c T => k ((s.set q c T).put o.dst (.v undef))
    | .chk c x => .need c (split x fun x => k (s.put o.dst x))
    | .ld q ls row => .ld q ls fun x => if row then k (s.put o.dst (.agg (vs ls x))) else split ((vs ls x).headD (.v undef)) fun y => k (s.put o.dst y)
    | .sto q xs => (match exOf s xs with
      | some ex => .sto q xs ex (k (s.put o.dst (.v undef)))
      | none => .bad "sto: what is told")
    | .call f args t => (match shOf P t, exOf s args with
      | some (sh, ls), some ex => (match lesOf P ex with
        | some (els, ns) => .call f args ex sh (ls ++ els) ns fun x => split (sh.av (vs (ls ++ els) x)) fun y => k ((backS s ex (segs ns ((vs (ls ++ els) x).drop ((ls ++ els).length - ns.sum)))).put o.dst y)
        | none => .bad "call: the told blocks")
      | _, _ => .bad "call: shapes")
    | .sem g t => (match shOf P t with
      | some (sh, ls) => .sem g ls sh fun x => split (sh.av (vs ls x)) fun y => k (s.put o.dst y)
      | none => .bad "sem: shape")
    | .bad why => .bad why
  else .bad "slot"
end
theorem beq_ne {j d : Nat} (e : j ≠ d) : Nat.beq j d = false := by
  cases h : Nat.beq j d
  · rfl
  · exact absurd (Nat.eq_of_beq_eq_true h) e
structure Rel (N : Nat) (ρ : Nat → Nat) (s : ASt) (a : Act) (w : World) : Prop where
  size : a.tmps.size = N
  tmps : ∀ j x, s.tmps j = some x → a.tmps.getD j undef = x.g ρ
  wft : ∀ j x, s.tmps j = some x → x.wf s.D = true
  blks : ∀ k c T, s.blks k = some (c, T) → w.heap[ρ k]? = some (.cells (AV.gs ρ c).toArray T (0, 0))
  wfb : ∀ k c T, s.blks k = some (c, T) → AV.wfs s.D c = true
  inj : ∀ k k', s.D k = true → s.D k' = true → ρ k = ρ k' → k = k'
  defers : a.defers = []
section
variable {P : Program} {pin : List (Nat × Nat)} {R : Ending → World → Prop} {N : Nat}
def Inv (P : Program) (pin : List (Nat × Nat)) (R : Ending → World → Prop) (N : Nat) (s : ASt) (t : XT) (J : Jt) (a : Act) (w : World) : Prop :=
  ∃ (ρ : Nat → Nat) (L Lu : Nat → Prop) (wu : World), t.ok P pin R J Lu wu ∧ Rel N ρ s a w ∧ (∀ k, s.D k = true → L (ρ k)) ∧ Ext Lu wu L w ∧ Pin pin ρ ∧ ∀ q ∈ pin, s.D q.1 = true
variable {ρ : Nat → Nat} {s : ASt} {a : Act} {w : World} {o : Oper} {L Lu : Nat → Prop} {wu : World}
theorem Rel.env (h : Rel N ρ s a w) : Env ρ s.D s.ev s.blks a w where
  ev := by
    intro x av hx
    cases x with
    | tmp t => exact ⟨h.tmps t av hx, h.wft t av hx⟩
    | const v => simp only [ASt.ev, Option.some.injEq] at hx; subst hx; exact ⟨rfl, rfl⟩
    | global g => simp only [ASt.ev, Option.some.injEq] at hx; subst hx; exact ⟨rfl, rfl⟩
    | func f => simp only [ASt.ev, Option.some.injEq] at hx; subst hx; exact ⟨by simp [Act.eval, AV.g, AV.gs], rfl⟩
  blk := fun k c T hb => ⟨h.blks k c T hb, h.wfb k c T hb⟩
theorem put_D (d : Option Nat) (x : AV) : (s.put d x).D = s.D := by cases d <;> rfl
theorem put_blks (d : Option Nat) (x : AV) : (s.put d x).blks = s.blks := by cases d <;> rfl
theorem Rel.put (h : Rel N ρ s a w) (d : Option Nat) (x : AV) (hx : x.wf s.D = true) (hd : dstOk N d = true) : Rel N ρ (s.put d x) (a.put d (x.g ρ)) w where
  size := by cases d <;> simp [Act.put, h.size]
  tmps := by
    intro j y hy
    cases d with
    | none => exact h.tmps j y hy
    | some d =>
      simp only [ASt.put] at hy
      have hd' : d < N := by simpa [dstOk, Nat.blt_eq] using hd
      by_cases e : j = d
      · subst e
        simp only [Nat.beq_refl, cond_true, Option.some.injEq] at hy
        subst hy
        simp [Act.put, h.size, hd']
      · have e' : Nat.beq j d = false := beq_ne e
        rw [e'] at hy
        have := h.tmps j y hy
        simp only [Act.put]
        rw [← this]
        simp [Array.getElem?_setIfInBounds_ne (Ne.symm e)]
  wft := by
    intro j y hy
    rw [put_D]
    cases d with
    | none => exact h.wft j y hy
    | some d =>
      simp only [ASt.put] at hy
      cases e : Nat.beq j d
      · rw [e] at hy; exact h.wft j y hy
      · rw [e] at hy; simp only [cond_true, Option.some.injEq] at hy; subst hy; exact hx
  blks := by rw [put_blks]; exact h.blks
  wfb := by rw [put_blks, put_D]; exact h.wfb
  inj := by rw [put_D]; exact h.inj
  defers := by cases d <;> exact h.defers
theorem Ext.refl (h : ∀ b, L b → b < w.heap.size) : Ext L w L w := ⟨fun _ h => h, fun _ h h' => absurd h h', h, Nat.le_refl _, fun _ _ _ => rfl, rfl, rfl, rfl⟩
theorem set_D (k : Nat) (c : List AV) (T : TypeId) (j : Nat) : (s.set k c T).D j = (Nat.beq j k || s.D j) := by
  simp only [ASt.D, ASt.set]
  cases h : Nat.beq j k <;> simp
theorem outOf_ok (h : Rel N ρ s a w) (hL : ∀ k, s.D k = true → L (ρ k)) : ∀ (ks : List Nat) (ex : Out), outOf s ks = some ex → Outs ρ L w ex ∧ Apart ρ ex ∧ (∀ x ∈ ex, s.blks x.1 = some (x.2.1, x.2.2))
  | [], ex, e => by simp only [outOf, Option.some.injEq] at e; subst e; exact ⟨trivial, trivial, by simp⟩
  | k :: r, ex, e => by
    simp only [outOf] at e
    split at e
    · rename_i c T o hb ho
      split at e
      · cases e
      · rename_i hn
        cases e
        obtain ⟨i1, i2, i3⟩ := outOf_ok h hL r o ho
        have hD : s.D k = true := by simp [ASt.D, hb]
        refine ⟨⟨⟨hL k hD, h.blks k c T hb⟩, i1⟩, ⟨fun x hx e => ?_, i2⟩, ?_⟩
        · have hDx : s.D x.1 = true := by simp [ASt.D, i3 x hx]
          have := h.inj _ _ hDx hD e
          apply hn
          rw [List.any_eq_true]
          exact ⟨x, hx, by rw [this]; simp⟩
        · intro x hx
          rcases List.mem_cons.1 hx with rfl | hx
          · exact hb
          · exact i3 x hx
    · cases e
end
end Go.Proofs.YtggemgbkkhpenaaW.Rx
