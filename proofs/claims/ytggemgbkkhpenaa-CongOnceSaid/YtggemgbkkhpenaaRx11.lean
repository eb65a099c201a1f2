/- The machine for walks: a function is entered, and left. -/
import Derived.Test.YtggemgbkkhpenaaRx10
namespace Go.Proofs.YtggemgbkkhpenaaW.Rx
open Go
set_option linter.unusedVariables false
set_option linter.unusedSimpArgs false
def resX (P : Program) (s : ASt) : ResultVar → Option AV
  | .tmp t => s.tmps t
  | .cell t ty => match s.tmps t with
    | some (.p key off) => match s.blks key, P.underlying ty with
      | some (c, _), some d => if d.isRow then (if off + P.cellsOf ty ≤ c.length && (P.info? ty).isSome then some (.agg ((c.drop off).take (P.cellsOf ty))) else none) else c[off]?
      | _, _ => none
    | _ => none
def allX (P : Program) (s : ASt) : List ResultVar → Option (List AV)
  | [] => some []
  | r :: rs => match resX P s r, allX P s rs with
    | some a, some l => some (a :: l)
    | _, _ => none
def oneX : List AV → AV
  | [a] => a
  | l => .tup l
def leaveX (P : Program) (fn : Func) (pk : List Nat) (e : XE) (s : ASt) : XT := match e with
  | .exit _ => .bad "exit"
  | _ => match allX P s fn.results.toList, outOf s pk with
    | some l, some out => .done (oneX l) out
    | _, _ => .bad "results"
/-- The frame at the beginning: the arguments, and the blocks that are given. -/
def startX (args : List AV) (N : Nat) (out : Out) : ASt where
  tmps j := match args[j]? with
    | some x => some x
    | none => if Nat.blt j N then some (.v undef) else none
  blks k := (out.find? fun x => Nat.beq x.1 k).map (·.2)
  ver _ := 0
def resV (tmps : Array Value) : ResultVar → Sem Value
  | .tmp t => pure (tmps.getD t undef)
  | .cell a t => do loadVar t (← asAddr (tmps.getD a undef))
def noJ : Jt := fun _ _ _ _ _ => False
section
variable {P : Program} {pin : List (Nat × Nat)} {R : Ending → World → Prop} {N : Nat}
variable {ρ : Nat → Nat} {s : ASt} {a : Act} {w : World}
theorem resX_ok (h : Rel N ρ s a w) (r : ResultVar) (x : AV) (hx : resX P s r = some x) :
    (resV a.tmps r).run P w = .ok (x.g ρ) w := by
  cases r with
  | tmp t =>
    simp only [resX] at hx
    simp only [resV]
    rw [h.tmps t x hx]
    rfl
  | cell q t =>
    simp only [resX] at hx
    split at hx
    · rename_i key off hq
      split at hx
      · rename_i c T d hb hd
        have h1 := h.tmps q _ hq
        have hb1 := h.blks key c T hb
        split at hx
        · rename_i hr
          split at hx
          · rename_i hl
            cases hx
            simp only [Bool.and_eq_true, decide_eq_true_eq] at hl
            obtain ⟨i, hi⟩ := Option.isSome_iff_exists.1 hl.2
            have hsz : (P.info? t).map (·.size) = some ((AV.gs ρ c).drop off |>.take (P.cellsOf t)).length := by
              rw [List.length_take, List.length_drop, gs_len, hi, Nat.min_eq_left (by omega)]
              simp [Program.cellsOf, hi]
            have hrun := run_loadVar_mid (P := P) w (ρ key) off t _ d (range_of (n := P.cellsOf t) hb1) hd hr hsz
            simp [resV, h1, AV.g, asAddr, hrun, gs_take, gs_drop]
          · cases hx
        · rename_i hr
          have hc := gs_get (ρ := ρ) _ _ _ hx
          have hcell : w.cell? ⟨ρ key, off, none⟩ = some (x.g ρ) := by rw [cell_of_row w _ _ _ T (0, 0) hb1]; simpa using hc
          have hr' : d.isRow = false := by simpa using hr
          simp [resV, h1, AV.g, asAddr, loadVar, isAgg_run hd, hr', hcell]
      · cases hx
    · cases hx
theorem allX_ok (h : Rel N ρ s a w) : ∀ (rs : List ResultVar) (l : List AV), allX P s rs = some l →
    (rs.mapM (resV a.tmps)).run P w = .ok (AV.gs ρ l) w
  | [], l, hl => by simp only [allX, Option.some.injEq] at hl; subst hl; simp [AV.gs]
  | r :: rs, l, hl => by
    simp only [allX] at hl
    split at hl
    · rename_i x xs hx hxs
      cases hl
      have e1 := resX_ok (P := P) h r x hx
      have e2 := allX_ok h rs xs hxs
      rw [List.mapM_cons, Sem.run_bind, e1, Result.andThen_ok, Sem.run_bind, e2, Result.andThen_ok]
      simp [AV.gs]
    · cases hl
theorem results_ok (h : Rel N ρ s a w) (fn : Func) (l : List AV) (hl : allX P s fn.results.toList = some l) : (results fn a.tmps).run P w = .ok ((oneX l).g ρ) w := by
  have e := allX_ok (P := P) h _ l hl
  have e0 : results fn a.tmps = (do let vs ← fn.results.mapM (resV a.tmps); pure (if h : vs.size = 1 then vs[0] else .tuple vs)) := rfl
  rw [e0, Array.mapM_eq_mapM_toList, Sem.run_bind]
  have e2 : ((List.toArray <$> (fn.results.toList.mapM (resV a.tmps))) : Sem (Array Value)).run P w = .ok (AV.gs ρ l).toArray w := by
    rw [← bind_pure_comp, Sem.run_bind, e]; rfl
  rw [e2, Result.andThen_ok]
  simp only [Sem.run_pure]
  congr 1
  match l with
  | [] => simp [AV.gs, oneX, AV.g]
  | [x] => simp [AV.gs, oneX]
  | x :: y :: r => simp [AV.gs, oneX, AV.g]
variable {A : Nat → LA} {C : Nat → Option LA} {KS pk : List Nat} {drawX : Nat → Array Oper → ASt → (ASt → XT) → XT}
theorem find_mem {out : Out} {k : Nat} {c : List AV} {T : TypeId} (h : (out.find? fun x => Nat.beq x.1 k).map (·.2) = some (c, T)) : (k, c, T) ∈ out := by
  cases hf : out.find? fun x => Nat.beq x.1 k with
  | none => rw [hf] at h; cases h
  | some y =>
    rw [hf] at h
    have h1 := List.mem_of_find?_eq_some hf
    have h2 := List.find?_some hf
    obtain ⟨k', c', T'⟩ := y
    simp only [Option.map_some, Option.some.injEq] at h
    have := Nat.eq_of_beq_eq_true h2
    simp only at this
    rw [← this, ← h]
    exact h1
/-- A FUNCTION IS ENTERED: the tree of its text says what the call does. -/
theorem calls_of (hmix : ∀ id ops s k (J : Jt) a w, Inv P pin R N s (drawX ((id + 1) * 1000) ops s k) J a w → (Code.region id ops true).wp P (fun e a' w' => e = .normal ∧ ∃ s', Went (dsts ops) s s' ∧ Inv P pin R N s' (k s') J a' w') a w)
    (hdraw : ∀ base ops s k (p : Nat → Prop), (∀ s', XT.loc (k s') p) → (drawX base ops s k).loc p)
    {f : FuncId} {fn : Func} {c : Code} {args : List AV} {out : Out} (ρ : Nat → Nat)
    (hf : P.funcs[f]? = some fn) (hb : fn.body = some c) (hN : N = args.length + (fn.ntmps - args.length)) (hpin : Pin pin ρ) (hpk : ∀ q ∈ pin, q.1 ∈ pk) (hpo : ∀ q ∈ pin, ∃ x ∈ out, x.1 = q.1)
    (hout : ∀ x ∈ out, w.heap[ρ x.1]? = some (.cells (AV.gs ρ x.2.1).toArray x.2.2 (0, 0))) (hapart : ∀ x ∈ out, ∀ y ∈ out, ρ x.1 = ρ y.1 → x.1 = y.1)
    (hwa : AV.wfs (startX args N out).D args = true) (hwo : out.all (fun x => AV.wfs (startX args N out).D x.2.1) = true)
    (h : (X P N A C KS pk drawX c 0 (startX args N out) (leaveX P fn pk)).ok P pin R noJ (fun b => ∃ x ∈ out, ρ x.1 = b) w) :
    Calls P f (AV.gs ρ args).toArray w R := by
  have hD : ∀ k, (startX args N out).D k = true → ∃ c T, (k, c, T) ∈ out := by
    intro k hk
    obtain ⟨⟨c, T⟩, hb⟩ := Option.isSome_iff_exists.1 hk
    exact ⟨c, T, find_mem hb⟩
  refine calls_of_wp hf hb ?_
  have hrel : Rel N ρ (startX args N out) { tmps := (AV.gs ρ args).toArray ++ Array.replicate (fn.ntmps - (AV.gs ρ args).toArray.size) undef, defers := [] } w := by
    refine ⟨by simp [gs_len, hN], ?_, ?_, ?_, ?_, ?_, rfl⟩
    · intro j x hx
      simp only [startX] at hx
      have hget : ∀ y, args[j]? = some y → j < args.length := fun y hy => (List.getElem?_eq_some_iff.1 hy).1
      split at hx
      · rename_i y hy
        cases hx
        have hj := hget _ hy
        have hg := gs_get (ρ := ρ) _ _ _ hy
        have hj' : j < (AV.gs ρ args).length := by rw [gs_len]; exact hj
        rw [Array.getD_eq_getD_getElem?, Array.getElem?_append_left (by simpa using hj')]
        simp [hg]
      · rename_i hn
        split at hx
        · cases hx
          have hj : args.length ≤ j := by simpa using hn
          rw [Array.getD_eq_getD_getElem?, Array.getElem?_append_right (by simpa [gs_len] using hj)]
          simp only [Array.getElem?_replicate, AV.g]
          split <;> rfl
        · cases hx
    · intro j x hx
      simp only [startX] at hx
      split at hx
      · rename_i y hy
        cases hx
        exact wfs_get _ _ _ hy hwa
      · split at hx
        · cases hx; rfl
        · cases hx
    · exact fun k c T hb => hout _ (find_mem hb)
    · exact fun k c T hb => (List.all_eq_true.1 hwo) _ (find_mem hb)
    · intro k k' hk hk' he
      obtain ⟨c, T, h1⟩ := hD k hk
      obtain ⟨c', T', h2⟩ := hD k' hk'
      exact hapart _ h1 _ h2 he
  have hinv : Inv P pin R N (startX args N out) (X P N A C KS pk drawX c 0 (startX args N out) (leaveX P fn pk)) noJ { tmps := (AV.gs ρ args).toArray ++ Array.replicate (fn.ntmps - (AV.gs ρ args).toArray.size) undef, defers := [] } w := by
    refine ⟨ρ, _, _, w, h, hrel, ?_, Ext.refl ?_, hpin, ?_⟩
    · intro k hk
      obtain ⟨c, T, h1⟩ := hD k hk
      exact ⟨_, h1, rfl⟩
    · rintro b ⟨x, hx, rfl⟩
      exact (Array.getElem?_eq_some_iff.1 (hout x hx)).1
    · intro q hq
      obtain ⟨x, hx, he⟩ := hpo q hq
      simp only [ASt.D, startX, Option.isSome_map, List.find?_isSome]
      exact ⟨x, hx, by rw [he]; simp⟩
  refine wp_mono (X_ok hmix hdraw hpk c 0 _ _ _ _ _ ?_ hinv) ?_
  · intro e s'
    unfold leaveX
    split
    · trivial
    · split <;> trivial
  · rintro e a' w' ⟨e', s', rfl, hw, ρ', L, Lu, wu, hok, hrel', hL, hext, hpin', hpd⟩
    have key : (e' = .norm ∨ e' = .ret) → a'.defers = [] ∧ ∃ v, (results fn a'.tmps).run P w' = .ok v w' ∧ R (.returned v) w' := by
      intro he
      have hok' : (match allX P s' fn.results.toList, outOf s' pk with | some l, some out => XT.done (oneX l) out | _, _ => .bad "results").ok P pin R noJ Lu wu := by
        rcases he with rfl | rfl <;> exact hok
      split at hok'
      · rename_i l out' hl ho
        obtain ⟨o1, o2, _⟩ := outOf_ok hrel' hL _ _ ho
        exact ⟨hrel'.defers, _, results_ok hrel' fn l hl, hok' ρ' L w' hpin' hext o1 o2⟩
      · exact hok'.elim
    cases e' with
    | norm => exact key (Or.inl rfl)
    | ret => exact key (Or.inr rfl)
    | exit i => exact hok.elim
end
end Go.Proofs.YtggemgbkkhpenaaW.Rx
