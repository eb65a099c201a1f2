/- The machine for walks: regions in the order of their text, code, entering a function. -/
import Derived.Test.YtggemgbkkhpenaaRx7
namespace Go.Proofs.YtggemgbkkhpenaaW.Rx
open Go
set_option linter.unusedVariables false
set_option linter.unusedSimpArgs false
section
variable (P : Program) (N : Nat)
def wantX (ops : Array Oper) (o : Oper) (s : ASt) : Option Bool := match o.guard with
  | none => some true
  | some (j, want) => match (ops[j]?).bind (·.dst) with
    | none => some false
    | some d => match s.tmps d with
      | some (.v x) => some (match x with | .bool b => b == want | _ => false)
      | some _ => some false
      | none => none
def opX (base : Nat) (ops : Array Oper) (i : Nat) (s : ASt) (k : ASt → XT) : XT := match ops[i]? with
  | none => k s
  | some o => match wantX ops o s with
    | some b => bif b then stepX P N (base + i) o s (core P s.ev s.blks o) k else (bif dstOk N o.dst then k (s.put o.dst (.v undef)) else .bad "slot")
    | none => .bad "guard"
def runX (base : Nat) (ops : Array Oper) : List Nat → ASt → (ASt → XT) → XT
  | [], s, k => k s
  | i :: r, s, k => opX P N base ops i s fun s' => runX base ops r s' k
end
/-- The slots that operations write. -/
def dsts (ops : Array Oper) : List Nat := ops.toList.filterMap (·.dst)
section
variable {P : Program} {pin : List (Nat × Nat)} {R : Ending → World → Prop} {N : Nat}
variable {ρ : Nat → Nat} {s : ASt} {a : Act} {w : World} {o : Oper} {L Lu : Nat → Prop} {wu : World} {J : Jt} {Q : Exit → Act → World → Prop} {ops : Array Oper} {base : Nat}
theorem want_ok (h : Rel N ρ s a w) {b : Bool} (hb : wantX ops o s = some b) : Region.wanted o (yielded ops a.tmps) = b := by
  unfold wantX at hb
  unfold Region.wanted
  split at hb
  · rename_i hg
    simp only [hg]
    exact Option.some.inj hb
  · rename_i j want hg
    simp only [hg]
    unfold yielded
    split at hb
    · rename_i hd
      have hb := Option.some.inj hb
      subst hb
      rw [hd]; simp
    · rename_i d hd
      have e : ∀ v, a.tmps.getD d undef = v → (a.tmps[d]? = some v ∨ (a.tmps[d]? = none ∧ v = undef)) := by
        intro v hv
        rw [Array.getD_eq_getD_getElem?] at hv
        cases hq : a.tmps[d]? with
        | none => right; rw [hq] at hv; exact ⟨rfl, hv.symm⟩
        | some u => left; rw [hq] at hv; simp only [Option.getD_some] at hv; rw [hv]
      rw [hd, Option.bind_some]
      split at hb
      · rename_i x hx
        have hb := Option.some.inj hb
        subst hb
        have h1 := h.tmps d _ hx
        simp only [AV.g] at h1
        rcases e x h1 with h2 | ⟨h2, rfl⟩
        · rw [h2]
          cases x <;> simp
        · rw [h2]; simp [undef]
      · rename_i x hne hx
        have hb := Option.some.inj hb
        subst hb
        have h1 := h.tmps d _ hx
        cases x with
        | v x => exact (hne x rfl).elim
        | p k off =>
          rcases e _ h1 with h2 | ⟨h2, h3⟩
          · rw [h2]; simp [AV.g]
          · rw [h2]; simp
        | agg cs =>
          rcases e _ h1 with h2 | ⟨h2, h3⟩
          · rw [h2]; simp [AV.g]
          · rw [h2]; simp
        | tup cs =>
          rcases e _ h1 with h2 | ⟨h2, h3⟩
          · rw [h2]; simp [AV.g]
          · rw [h2]; simp
        | fn f x y =>
          rcases e _ h1 with h2 | ⟨h2, h3⟩
          · rw [h2]; simp [AV.g]
          · rw [h2]; simp
      · cases hb
/-- Known blocks change with their version alone; slots that are not among the written ones stay. -/
def Went (W : List Nat) (s s' : ASt) : Prop := Subst s s' ∧ ∀ j, j ∉ W → s'.tmps j = s.tmps j ∨ s'.tmps j = none
theorem Went.refl (W : List Nat) (s : ASt) : Went W s s := ⟨Subst.refl s, fun _ _ => Or.inl rfl⟩
theorem Went.trans {W : List Nat} {s s' s'' : ASt} (h : Went W s s') (h' : Went W s' s'') : Went W s s'' := ⟨h.1.trans h'.1, fun j hj => by
  rcases h'.2 j hj with e | e
  · rw [e]; exact h.2 j hj
  · exact Or.inr e⟩
theorem Went.mono {W W' : List Nat} {s s' : ASt} (h : Went W s s') (hs : ∀ j, j ∈ W → j ∈ W') : Went W' s s' := ⟨h.1, fun j hj => h.2 j (fun h' => hj (hs j h'))⟩
theorem dst_mem {i d : Nat} (h : ops[i]? = some o) (hd : o.dst = some d) : d ∈ dsts ops := by
  unfold dsts
  rw [List.mem_filterMap]
  exact ⟨o, by rw [Array.mem_toList_iff]; exact Array.mem_of_getElem? h, hd⟩
theorem goes_went {i : Nat} {s' : ASt} (ho : ops[i]? = some o) (h : Goes s o.dst s') : Went (dsts ops) s s' :=
  ⟨h.1, fun j hj => Or.inl (h.2 j (fun e => hj (dst_mem ho e.symm)))⟩
theorem op_ok {i : Nat} {k : ASt → XT} (h : Inv P pin R N s (opX P N base ops i s k) J a w) :
    wpOp P ops Q i (fun a' w' => ∃ s', Went (dsts ops) s s' ∧ Inv P pin R N s' (k s') J a' w') a w := by
  unfold opX at h
  unfold wpOp
  split at h
  · rename_i hn
    rw [hn]
    exact ⟨s, Went.refl _ s, h⟩
  · rename_i o ho
    simp only [ho]
    split at h
    · rename_i b hb
      have hw : Region.wanted o (yielded ops a.tmps) = b := by
        obtain ⟨ρ, L, Lu, wu, _, hrel, _⟩ := h
        exact want_ok hrel hb
      rw [hw]
      cases b with
      | true =>
        simp only [cond_true] at h
        simp only [if_true]
        refine Or.inl ?_
        exact Oper.wp_mono (fun a' w' ⟨s', h1, h2⟩ => ⟨s', goes_went ho h1, h2⟩) (step_ok h)
      | false =>
        simp only [cond_false] at h
        simp only [Bool.false_eq_true, if_false]
        obtain ⟨ρ, L, Lu, wu, hok, hrel, hL, hext, hpin, hpd⟩ := h
        cases hd : dstOk N o.dst
        · rw [hd] at hok; exact hok.elim
        · rw [hd] at hok
          exact ⟨_, goes_went ho ⟨Subst.put _ _, Stays.put _ _⟩, ρ, L, Lu, wu, hok, hrel.put o.dst (.v undef) rfl hd, by rw [put_D]; exact hL, hext, hpin, by rw [put_D]; exact hpd⟩
    · obtain ⟨ρ, L, Lu, wu, hok, _⟩ := h
      exact hok.elim
theorem run_ok {k : ASt → XT} : ∀ (is : List Nat) (s : ASt) (a : Act) (w : World), Inv P pin R N s (runX P N base ops is s k) J a w →
    (∀ s' a' w', Went (dsts ops) s s' → Inv P pin R N s' (k s') J a' w' → Q .normal a' w') → wpOps P ops Q is a w
  | [], s, a, w, h, hq => hq s a w (Went.refl _ s) h
  | i :: r, s, a, w, h, hq => by
    rw [wpOps_cons]
    refine wpOp_mono ?_ (op_ok h)
    rintro a' w' ⟨s', hw, hi⟩
    exact run_ok r s' a' w' hi (fun s'' a'' w'' hw' => hq s'' a'' w'' (hw.trans hw'))
end
end Go.Proofs.YtggemgbkkhpenaaW.Rx
