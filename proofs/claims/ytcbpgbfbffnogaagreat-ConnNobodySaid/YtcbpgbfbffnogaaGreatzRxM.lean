import Derived.Test.YtcbpgbfbffnogaaGreatzRxMa
namespace Go.Proofs.YtcbpgbfbffnogaaGreatW.Rx
open Go
set_option linter.unusedVariables false
set_option linter.unusedSimpArgs false
def resX (P : Program) (s : ASt) : ResultVar → Option AV
  | .tmp t => s.tmps t
  | .cell t ty => match s.tmps t with
    | some (.p key off) => match s.blks key, P.underlying ty with
      | some (c, _), some d => if d.isRow then (if off + P.cellsOf ty ≤ c.length && (P.info? ty).isSome then some (.agg ((c.drop off).take (P.cellsOf ty))) else none) else c[off]?
      | _, _ => none
    | _ => none
def allX (P : Program) (s : ASt) : List ResultVar → Option (List AV)
  | [] => some []
  | r :: rs => match resX P s r, allX P s rs with
    | some a, some l => some (a :: l)
    | _, _ => none
def oneX : List AV → AV
  | [a] => a
  | l => .tup l
def leaveX (P : Program) (fn : Func) (pk : List Nat) (e : XE) (s : ASt) : XT := match e with
  | .exit _ => .bad "exit"
  | _ => match allX P s fn.results.toList, outOf s pk with
    | some l, some out => .done (oneX l) out
    | _, _ => .bad "results"
def startX (args : List AV) (N : Nat) (out : Out) : ASt where
  tmps j := match args[j]? with
    | some x => some x
    | none => if Nat.blt j N then some (.v undef) else none
  blks k := (out.find? fun x => Nat.beq x.1 k).map (·.2)
  ver _ := 0
def resV (tmps : Array Value) : ResultVar → Sem Value
  | .tmp t => pure (tmps.getD t undef)
  | .cell a t => do loadVar t (← asAddr (tmps.getD a undef))
def noJ : Jt := fun _ _ _ _ _ => False
section
variable {P : Program} {pin : List (Nat × Nat)} {R : Ending → World → Prop} {N : NL}
variable {ds : Fx}
variable {ρ : Nat → Nat} {s : ASt} {a : Act} {w : World}
theorem resX_ok (h : Rel ds N ρ s a w) (r : ResultVar) (x : AV) (hx : resX P s r = some x) :
    (resV a.tmps r).run P w = .ok (x.g ρ) w := by
  cases r with
  | tmp t =>
    simp only [resX] at hx
    simp only [resV]
    rw [h.tmps t x hx]
    rfl
  | cell q t =>
    simp only [resX] at hx
    split at hx
    · rename_i key off hq
      split at hx
      · rename_i c T d hb hd
        have h1 := h.tmps q _ hq
        have hb1 := h.blks key c T hb
        split at hx
        · rename_i hr
          split at hx
          · rename_i hl
            cases hx
            simp only [Bool.and_eq_true, decide_eq_true_eq] at hl
            obtain ⟨i, hi⟩ := Option.isSome_iff_exists.1 hl.2
            have hsz : (P.info? t).map (·.size) = some ((AV.gs ρ c).drop off |>.take (P.cellsOf t)).length := by
              rw [List.length_take, List.length_drop, gs_len, hi, Nat.min_eq_left (by omega)]
              simp [Program.cellsOf, hi]
            have hrun := run_loadVar_mid (P := P) w (ρ key) off t _ d (range_of (n := P.cellsOf t) hb1) hd hr hsz
            simp [resV, h1, AV.g, asAddr, hrun, gs_take, gs_drop]
          · cases hx
        · rename_i hr
          have hc := gs_get (ρ := ρ) _ _ _ hx
          have hcell : w.cell? ⟨ρ key, off, none⟩ = some (x.g ρ) := by rw [cell_of_row w _ _ _ T (0, 0) hb1]; simpa using hc
          have hr' : d.isRow = false := by simpa using hr
          simp [resV, h1, AV.g, asAddr, loadVar, isAgg_run hd, hr', hcell]
      · cases hx
    · cases hx
theorem allX_ok (h : Rel ds N ρ s a w) : ∀ (rs : List ResultVar) (l : List AV), allX P s rs = some l →
    (rs.mapM (resV a.tmps)).run P w = .ok (AV.gs ρ l) w
  | [], l, hl => by simp only [allX, Option.some.injEq] at hl; subst hl; simp [AV.gs]
  | r :: rs, l, hl => by
    simp only [allX] at hl
    split at hl
    · rename_i x xs hx hxs
      cases hl
      have e1 := resX_ok (P := P) h r x hx
      have e2 := allX_ok h rs xs hxs
      rw [List.mapM_cons, Sem.run_bind, e1, Result.andThen_ok, Sem.run_bind, e2, Result.andThen_ok]
      simp [AV.gs]
    · cases hl
theorem results_ok (h : Rel ds N ρ s a w) (fn : Func) (l : List AV) (hl : allX P s fn.results.toList = some l) : (results fn a.tmps).run P w = .ok ((oneX l).g ρ) w := by
  have e := allX_ok (P := P) h _ l hl
  have e0 : results fn a.tmps = (do let vs ← fn.results.mapM (resV a.tmps); pure (if h : vs.size = 1 then vs[0] else .tuple vs)) := rfl
  rw [e0, Array.mapM_eq_mapM_toList, Sem.run_bind]
  have e2 : ((List.toArray <$> (fn.results.toList.mapM (resV a.tmps))) : Sem (Array Value)).run P w = .ok (AV.gs ρ l).toArray w := by
    rw [← bind_pure_comp, Sem.run_bind, e]; rfl
  rw [e2, Result.andThen_ok]
  simp only [Sem.run_pure]
  congr 1
  match l with
  | [] => simp [AV.gs, oneX, AV.g]
  | [x] => simp [AV.gs, oneX]
  | x :: y :: r => simp [AV.gs, oneX, AV.g]
variable {A : Nat → LA} {C : Nat → Option LA} {KS pk : List Nat} {drawX : Nat → Array Oper → ASt → (ASt → XT) → XT}
theorem find_mem {out : Out} {k : Nat} {c : List AV} {T : TypeId} (h : (out.find? fun x => Nat.beq x.1 k).map (·.2) = some (c, T)) : (k, c, T) ∈ out := by
  cases hf : out.find? fun x => Nat.beq x.1 k with
  | none => rw [hf] at h; cases h
  | some y =>
    rw [hf] at h
    have h1 := List.mem_of_find?_eq_some hf
    have h2 := List.find?_some hf
    obtain ⟨k', c', T'⟩ := y
    simp only [Option.map_some, Option.some.injEq] at h
    have := Nat.eq_of_beq_eq_true h2
    simp only at this
    rw [← this, ← h]
    exact h1
theorem calls_of (hmix : ∀ id ops s k (J : Jt) a w, Inv fx0 P pin R N s (drawX ((id + 1) * 1000) ops s k) J a w → (Code.region id ops true).wp P (fun e a' w' => (e = .normal ∧ ∃ s', Went (dsts ops) s s' ∧ Inv fx0 P pin R N s' (k s') J a' w') ∨ ∃ ps, e = .panic ps ∧ Held fx0 N a' ∧ R (.panicked ps) w') a w)
    (hdraw : ∀ base ops s k (p : Nat → Prop), (∀ s', XT.loc (k s') p) → (drawX base ops s k).loc p)
    {f : FuncId} {fn : Func} {c : Code} {args : List AV} {out : Out} (ρ : Nat → Nat)
    (hf : P.funcs[f]? = some fn) (hb : fn.body = some c) (hN : N = ⟨args.length + (fn.ntmps - args.length), 0⟩) (hpin : Pin pin ρ) (hpk : ∀ q ∈ pin, q.1 ∈ pk) (hpo : ∀ q ∈ pin, ∃ x ∈ out, x.1 = q.1)
    (hout : ∀ x ∈ out, w.heap[ρ x.1]? = some (.cells (AV.gs ρ x.2.1).toArray x.2.2 (0, 0))) (hapart : ∀ x ∈ out, ∀ y ∈ out, ρ x.1 = ρ y.1 → x.1 = y.1)
    (hwa : AV.wfs (startX args N.n out).D args = true) (hwo : out.all (fun x => AV.wfs (startX args N.n out).D x.2.1) = true)
    (h : (X P N A C KS pk drawX c 0 (startX args N.n out) (leaveX P fn pk)).ok P pin R noJ (fun b => ∃ x ∈ out, ρ x.1 = b) w) :
    Calls P f (AV.gs ρ args).toArray w R := by
  have hD : ∀ k, (startX args N.n out).D k = true → ∃ c T, (k, c, T) ∈ out := by
    intro k hk
    obtain ⟨⟨c, T⟩, hb⟩ := Option.isSome_iff_exists.1 hk
    exact ⟨c, T, find_mem hb⟩
  refine calls_of_wp hf hb ?_
  have hrel : Rel fx0 N ρ (startX args N.n out) { tmps := (AV.gs ρ args).toArray ++ Array.replicate (fn.ntmps - (AV.gs ρ args).toArray.size) undef, defers := [] } w := by
    refine ⟨by simp [gs_len, hN], ?_, ?_, ?_, ?_, ?_, rfl, fun j hj => by rw [hN] at hj; exact absurd hj (Nat.not_lt_zero _)⟩
    · intro j x hx
      simp only [startX] at hx
      have hget : ∀ y, args[j]? = some y → j < args.length := fun y hy => (List.getElem?_eq_some_iff.1 hy).1
      split at hx
      · rename_i y hy
        cases hx
        have hj := hget _ hy
        have hg := gs_get (ρ := ρ) _ _ _ hy
        have hj' : j < (AV.gs ρ args).length := by rw [gs_len]; exact hj
        rw [Array.getD_eq_getD_getElem?, Array.getElem?_append_left (by simpa using hj')]
        simp [hg]
      · rename_i hn
        split at hx
        · cases hx
          have hj : args.length ≤ j := by simpa using hn
          rw [Array.getD_eq_getD_getElem?, Array.getElem?_append_right (by simpa [gs_len] using hj)]
          simp only [Array.getElem?_replicate, AV.g]
          split <;> rfl
        · cases hx
    · intro j x hx
      simp only [startX] at hx
      split at hx
      · rename_i y hy
        cases hx
        exact wfs_get _ _ _ hy hwa
      · split at hx
        · cases hx; rfl
        · cases hx
    · exact fun k c T hb => hout _ (find_mem hb)
    · exact fun k c T hb => (List.all_eq_true.1 hwo) _ (find_mem hb)
    · intro k k' hk hk' he
      obtain ⟨c, T, h1⟩ := hD k hk
      obtain ⟨c', T', h2⟩ := hD k' hk'
      exact hapart _ h1 _ h2 he
  have hinv : Inv fx0 P pin R N (startX args N.n out) (X P N A C KS pk drawX c 0 (startX args N.n out) (leaveX P fn pk)) noJ { tmps := (AV.gs ρ args).toArray ++ Array.replicate (fn.ntmps - (AV.gs ρ args).toArray.size) undef, defers := [] } w := by
    refine ⟨ρ, _, _, w, h, hrel, ?_, Ext.refl ?_, hpin, ?_⟩
    · intro k hk
      obtain ⟨c, T, h1⟩ := hD k hk
      exact ⟨_, h1, rfl⟩
    · rintro b ⟨x, hx, rfl⟩
      exact (Array.getElem?_eq_some_iff.1 (hout x hx)).1
    · intro q hq
      obtain ⟨x, hx, he⟩ := hpo q hq
      simp only [ASt.D, startX, Option.isSome_map, List.find?_isSome]
      exact ⟨x, hx, by rw [he]; simp⟩
  refine wp_mono (X_ok hmix hdraw hpk c 0 _ _ _ _ _ ?_ hinv) ?_
  · intro e s'
    unfold leaveX
    split
    · trivial
    · split <;> trivial
  · rintro e a' w' (⟨e', s', rfl, hw, ρ', L, Lu, wu, hok, hrel', hL, hext, hpin', hpd⟩ | ⟨ps, rfl, hR⟩)
    case inr => exact ⟨hR.1.1, hR.2⟩
    have key : (e' = .norm ∨ e' = .ret) → a'.defers = [] ∧ ∃ v, (results fn a'.tmps).run P w' = .ok v w' ∧ R (.returned v) w' := by
      intro he
      have hok' : (match allX P s' fn.results.toList, outOf s' pk with | some l, some out => XT.done (oneX l) out | _, _ => .bad "results").ok P pin R noJ Lu wu := by
        rcases he with rfl | rfl <;> exact hok
      split at hok'
      · rename_i l out' hl ho
        obtain ⟨o1, o2, _⟩ := outOf_ok hrel' hL _ _ ho
        exact ⟨hrel'.defers.1, _, results_ok hrel' fn l hl, hok' ρ' L w' hpin' hext o1 o2⟩
      · exact hok'.elim
    cases e' with
    | norm => exact key (Or.inl rfl)
    | ret => exact key (Or.inr rfl)
    | exit i => exact hok.elim
end
end Go.Proofs.YtcbpgbfbffnogaaGreatW.Rx
namespace Go.Proofs.YtcbpgbfbffnogaaGreatW.Rx
open Go
set_option linter.unusedVariables false
set_option linter.unusedSimpArgs false
def kindOf (P : Program) (o : Oper) : Nat := match o.op with
  | .binOp .add t _ _ _ => match P.underlying t with
    | some .string => 2
    | _ => 0
  | .move _ | .assign _ | .pick .. | .nilCheck _ | .binOp .. | .unOp .. | .makeInterface .. | .makeFunc .. | .fieldAddr .. | .field .. | .indexAddr .. | .index .. | .build .. | .extract .. | .sliceToArrayPointer .. => 0
  | .slice _ _ _ _ none => 0
  | .convert s d _ => match P.underlying s, P.underlying d with
    | some (.int _), some (.int _) => 0
    | some .string, some .string => 0
    | _, _ => 2
  | .load .. => 1
  | .store .. => 4
  | .alloc t => if farArr P t o.dst then 2 else 3
  | .box .. => if Nat.beq o.type 0 then 3 else 2
  | .call c => match c.callee with
    | .builtin .len => 0
    | .builtin .cap => 0
    | .builtin .max => 0
    | .builtin .min => 0
    | _ => 2
  | _ => 2
def preds (ops : Array Oper) (i : Nat) : List Nat := match ops[i]? with
  | some o => (o.after.toList.filter fun e => Region.binds .any e).map (·.on)
  | none => []
def reach (ops : Array Oper) : Nat → Nat → Nat → Bool
  | 0, _, _ => false
  | n + 1, i, m => (preds ops i).any fun d => Nat.beq d m || reach ops n d m
def kindAt (P : Program) (ops : Array Oper) (i : Nat) : Nat := match ops[i]? with
  | some o => kindOf P o
  | none => 2
def apartAt (ops : Array Oper) (m i : Nat) : Bool := match ops[m]?, ops[i]? with
  | some x, some y => Oper.apart ops x y
  | _, _ => false
def indep (P : Program) (ops : Array Oper) (m i : Nat) : Bool := apartAt ops m i && (Nat.beq (kindAt P ops m) 0 || Nat.beq (kindAt P ops m) 1 || Nat.beq (kindAt P ops m) 3)
def notTmp (a : Operand) : Option Nat → Bool
  | none => true
  | some d => (match a with | .tmp t => !Nat.beq t d | _ => true)
def dstNe : Option Nat → Option Nat → Bool
  | some x, some y => !Nat.beq y x
  | _, _ => true
def noClob (ops : Array Oper) (m i : Nat) : Bool := match ops[m]?, ops[i]? with
  | some om, some oi => (match om.op with | .load _ a => notTmp a oi.dst && dstNe om.dst oi.dst | _ => true)
  | _, _ => true
def cellsAt (P : Program) (t : TypeId) : Nat := match P.underlying t with
  | some d => if d.isRow then P.cellsOf t else 1
  | none => 1
def offsApart (P : Program) (s : ASt) (om oi : Oper) : Bool := match om.op with
  | .load t a => notTmp a om.dst && (match oi.op with
    | .store _ a' x => (match s.ev a, s.ev a', s.ev x with
      | some (.p k off), some (.p k' off'), some v => !Nat.beq k k' || Nat.ble (off + cellsAt P t) off' || Nat.ble (off' + v.cells.length) off
      | some (.v _), some (.p _ _), some _ => true
      | some _, some (.v _), some _ => true
      | _, _, _ => false)
    | _ => true)
  | _ => true
def gate (P : Program) (ops : Array Oper) (D : List Nat) (i : Nat) (s : ASt) : Bool := match ops[i]? with
  | some oi => (match oi.op with
    | .store .. => D.all fun m => reach ops ops.size i m || (match ops[m]? with | some om => offsApart P s om oi | none => true)
    | _ => true)
  | none => true
def pairsOk (P : Program) (ops : Array Oper) : List Nat → Bool
  | [] => true
  | m :: r => r.all (fun i => !Nat.beq m i && !reach ops ops.size m i && noClob ops m i && (reach ops ops.size i m || indep P ops m i)) && pairsOk P ops r
def predsOk (ops : Array Oper) : List Nat → List Nat → Bool
  | _, [] => true
  | done, i :: r => (preds ops i).all (fun d => done.contains d) && predsOk ops (i :: done) r
def greedy (P : Program) (ops : Array Oper) : Nat → List Nat → List Nat → List Nat
  | 0, _, _ => []
  | n + 1, done, rem =>
    let rd := rem.filter fun i => (preds ops i).all fun d => done.contains d
    match rd.find? (fun i => Nat.blt (kindAt P ops i) 2) with
    | some i => i :: greedy P ops n (i :: done) (rem.filter fun j => !Nat.beq j i)
    | none => match (rd.find? (fun i => Nat.beq (kindAt P ops i) 3)).toList ++ rd with
      | i :: _ => i :: greedy P ops n (i :: done) (rem.filter fun j => !Nat.beq j i)
      | [] => []
def loose (P : Program) (ops : Array Oper) (ord : List Nat) (k i : Nat) : Bool := ord.any fun j => !Nat.beq j i && Nat.beq (kindAt P ops j) k && !reach ops ops.size i j && !reach ops ops.size j i
def filt0 : Eff → Eff
  | .val x => .val x
  | .chk c x => .chk c x
  | _ => .bad "region: not light"
def filt1 (l : Bool) : Eff → Eff
  | .val x => .val x
  | .ld q ls row => if row || Nat.beq ls.length 1 then .ld q ls row else .bad "region: a far read"
  | _ => .bad "region: not a read"
def callF (x : Option Out) (f : FuncId) (args : List AV) (t : TypeId) : Eff := match x with
  | some [] => .call f args t
  | _ => .bad "region: a call that takes known blocks, beside a read"
theorem callF_or (x : Option Out) (f : FuncId) (args : List AV) (t : TypeId) : (x = some [] ∧ callF x f args t = .call f args t) ∨ callF x f args t = .bad "region: a call that takes known blocks, beside a read" := by
  unfold callF; split; exact Or.inl ⟨rfl, rfl⟩; exact Or.inr rfl
def filt2 (l : Bool) (s : ASt) (e : Eff) : Eff := if l then (match e with
  | .call f args t => callF (exOf s args) f args t
  | .sem g t => .sem g t
  | .stb q c T => .stb q c T
  | .sto q xs => .sto q xs
  | _ => .bad "region: a store beside a read") else e
def filt3 : Eff → Eff
  | .alloc c T => .alloc c T
  | _ => .bad "region: not an alloc"
def filt (P : Program) (ops : Array Oper) (ord : List Nat) (i : Nat) (s : ASt) (e : Eff) : Eff := match kindAt P ops i with
  | 0 => filt0 e
  | 1 => filt1 (loose P ops ord 2 i) e
  | 3 => filt3 e
  | _ => filt2 (loose P ops ord 1 i) s e
theorem filt_0 {P : Program} {ops : Array Oper} {ord : List Nat} {i : Nat} {s : ASt} {e : Eff} (h : kindAt P ops i = 0) : filt P ops ord i s e = filt0 e := by unfold filt; rw [h]; rfl
theorem filt_1 {P : Program} {ops : Array Oper} {ord : List Nat} {i : Nat} {s : ASt} {e : Eff} (h : kindAt P ops i = 1) : filt P ops ord i s e = filt1 (loose P ops ord 2 i) e := by unfold filt; rw [h]; rfl
theorem filt_3 {P : Program} {ops : Array Oper} {ord : List Nat} {i : Nat} {s : ASt} {e : Eff} (h : kindAt P ops i = 3) : filt P ops ord i s e = filt3 e := by unfold filt; rw [h]; rfl
theorem filt_2 {P : Program} {ops : Array Oper} {ord : List Nat} {i : Nat} {s : ASt} {e : Eff} (h0 : kindAt P ops i ≠ 0) (h1 : kindAt P ops i ≠ 1) (h3 : kindAt P ops i ≠ 3) : filt P ops ord i s e = filt2 (loose P ops ord 1 i) s e := by
  unfold filt
  split
  · rename_i h; exact absurd h h0
  · rename_i h; exact absurd h h1
  · rename_i h; exact absurd h h3
  · rfl
def usedOp (s : ASt) (o : Oper) : List Nat := match o.op with
  | .load _ a => (match s.ev a with | some (.p k _) => [k] | _ => [])
  | .store _ a _ => (match s.ev a with | some (.p k _) => [k] | _ => [])
  | _ => []
def usedE (s : ASt) : Eff → List Nat
  | .call _ args _ => keysOf s 64 (AV.keyss args) []
  | .sto _ xs => keysOf s 64 (AV.keyss xs) []
  | _ => []
def banned (P : Program) (base : Nat) (ops : Array Oper) (ord : List Nat) (i : Nat) : List Nat := (ord.filter fun j => !Nat.beq j i && Nat.beq (kindAt P ops j) 3 && !reach ops ops.size i j).map (base + ·)
def guardE (ks bs : List Nat) (e : Eff) : Eff := if ks.any (fun k => bs.contains k) then .bad "region: a block that is made here" else e
def effD (P : Program) (base : Nat) (ops : Array Oper) (ord : List Nat) (i : Nat) (o : Oper) (s : ASt) : Eff := match wantX ops o s with
  | some true => guardE (usedOp s o ++ usedE s (filt P ops ord i s (core P s.ev s.blks o))) (banned P base ops ord i) (filt P ops ord i s (core P s.ev s.blks o))
  | some false => .val (.v undef)
  | none => .bad "guard"
section
variable (P : Program) (N : NL)
def turns : Eff → Bool
  | .call .. => true
  | .sem .. => true
  | .sto .. => true
  | _ => false
def keepOf (ops : Array Oper) (i m : Nat) (s : ASt) : Option (Option (Option Addr × List AV)) :=
  if !reach ops ops.size i m && Nat.beq (kindAt P ops m) 1 then (match ops[m]? with
    | some om => (match om.op with
      | .load _ a => (match om.dst with
        | some d => if notTmp a om.dst then (match s.ev a, s.tmps d with
            | some (.v (.pointer q)), some x => (match x with
              | .v (.int k n) => some (some (q, [.v (.int k n)]))
              | .v (.bool b) => some (some (q, [.v (.bool b)]))
              | .v (.string b) => some (some (q, [.v (.string b)]))
              | .v (.slice a b c) => some (some (q, [.v (.slice a b c)]))
              | .v (.pointer b) => some (some (q, [.v (.pointer b)]))
              | .v (.map b) => some (some (q, [.v (.map b)]))
              | .agg cs => some (some (q, cs))
              | _ => some none)
            | _, _ => some none)
          else none
        | none => none)
      | _ => some none)
    | none => some none)
  else some none
def keepOne (ops : Array Oper) (i m : Nat) (s : ASt) (k : XT) : XT := match keepOf P ops i m s with
  | none => .bad "region: a far read beside a call"
  | some none => k
  | some (some x) => .keep x.1 x.2 k
def keeps (ops : Array Oper) (i : Nat) : List Nat → ASt → XT → XT
  | [], s, k => k
  | m :: r, s, k => keepOne P ops i m s (keeps ops i r s k)
def keepsE (ops : Array Oper) (i : Nat) (D : List Nat) (e : Eff) (k : ASt → XT) : ASt → XT := if turns e then (fun s => keeps P ops i D s (k s)) else k
def opD (base : Nat) (ops : Array Oper) (ord D : List Nat) (i : Nat) (s : ASt) (k : ASt → XT) : XT := match ops[i]? with
  | none => .bad "no operation"
  | some o => if gate P ops D i s then stepX P N (base + i) o s (effD P base ops ord i o s) (keepsE P ops i D (effD P base ops ord i o s) k) else .bad "region: a store beside a read of the same"
def runD (base : Nat) (ops : Array Oper) (ord : List Nat) : List Nat → List Nat → ASt → (ASt → XT) → XT
  | _, [], s, k => k s
  | D, i :: r, s, k => opD P N base ops ord D i s fun s' => runD base ops ord (i :: D) r s' k
def orderOf (ops : Array Oper) : List Nat := greedy P ops ops.size [] (List.range ops.size)
def orderOk (ops : Array Oper) : Bool := pairsOk P ops (orderOf P ops) && predsOk ops [] (orderOf P ops) && Nat.beq (orderOf P ops).length ops.size && (List.range ops.size).all (fun i => (orderOf P ops).contains i) && Region.noSelect ops
def confl (ops : Array Oper) : List Nat → List (Nat × Nat)
  | [] => []
  | m :: r => (r.filter fun i => !(reach ops ops.size i m || indep P ops m i)).map (fun i => (m, i)) ++ confl ops r
def flipOrd (ops : Array Oper) (p q : Nat) (ord : List Nat) : List Nat :=
  let pre := ord.takeWhile fun i => !Nat.beq i p
  let rest := (ord.dropWhile fun i => !Nat.beq i p).drop 1
  let mid := rest.takeWhile fun i => !Nat.beq i q
  let post := (rest.dropWhile fun i => !Nat.beq i q).drop 1
  pre ++ (mid.filter fun m => reach ops ops.size q m) ++ [q, p] ++ (mid.filter fun m => !reach ops ops.size q m) ++ post
def pairsOkX (x y : Nat) (ops : Array Oper) : List Nat → Bool
  | [] => true
  | m :: r => r.all (fun i => !Nat.beq m i && !reach ops ops.size m i && noClob ops m i && (reach ops ops.size i m || indep P ops m i || (Nat.beq m x && Nat.beq i y))) && pairsOkX x y ops r
def lightOp (o : Oper) : Bool := match o.op with
  | .move _ | .assign _ | .pick .. | .binOp .. | .unOp .. | .makeInterface .. | .makeFunc .. | .fieldAddr .. | .field .. | .indexAddr .. | .index .. | .build .. | .extract .. | .load .. | .alloc _ | .box .. | .slice .. | .convert .. => true
  | .call c => match c.callee with
    | .builtin .len => true
    | .builtin .cap => true
    | _ => false
  | _ => false
def lightAt (ops : Array Oper) (i : Nat) : Bool := match ops[i]? with
  | some o => lightOp o
  | none => false
def bothOk (ops : Array Oper) (p q : Nat) (o1 o2 : List Nat) : Bool :=
  pairsOkX P p q ops o1 && pairsOkX P q p ops o2 && predsOk ops [] o1 && predsOk ops [] o2 && Nat.beq o1.length ops.size && Nat.beq o2.length ops.size && (List.range ops.size).all (fun i => o1.contains i && o2.contains i) && o2.all (fun i => o1.contains i) && Region.noSelect ops && o1.contains p && o1.contains q && !Nat.beq p q && o1.all (fun i => Nat.beq i p || Nat.beq i q || lightAt ops i || reach ops ops.size i p || reach ops ops.size i q)
def drawX (base : Nat) (ops : Array Oper) (s : ASt) (k : ASt → XT) : XT :=
  if orderOk P ops then runD P N base ops (orderOf P ops) [] (orderOf P ops) s k else
  match confl P ops (orderOf P ops) with
  | (p, q) :: _ => if bothOk P ops p q (orderOf P ops) (flipOrd ops p q (orderOf P ops)) then .both (runD P N base ops (orderOf P ops) [] (orderOf P ops) s k) (runD P N base ops (orderOf P ops) [] (flipOrd ops p q (orderOf P ops)) s k) else .bad "region: its order"
  | [] => .bad "region: its order"
end
section
variable {P : Program} {pin : List (Nat × Nat)} {R : Ending → World → Prop} {N : NL} {J : Jt}
variable {s : ASt} {ops : Array Oper} {ord : List Nat} {base : Nat} {p : Nat → Prop}
theorem keeps_loc {i : Nat} {s : ASt} {k : XT} (h : k.loc p) : ∀ D : List Nat, (keeps P ops i D s k).loc p
  | [] => h
  | m :: r => by
    simp only [keeps, keepOne]
    split
    · trivial
    · exact keeps_loc h r
    · exact keeps_loc h r
theorem opD_loc {D : List Nat} {i : Nat} {s : ASt} {k : ASt → XT} (h : ∀ s', (k s').loc p) : (opD P N base ops ord D i s k).loc p := by
  unfold opD
  split
  · trivial
  · split
    · refine step_loc (fun s' => ?_)
      unfold keepsE
      split
      · exact keeps_loc (h s') D
      · exact h s'
    · trivial
theorem runD_loc {k : ASt → XT} (h : ∀ s', (k s').loc p) : ∀ (is D : List Nat) (s : ASt), (runD P N base ops ord D is s k).loc p
  | [], D, s => h s
  | i :: r, D, s => opD_loc (fun s' => runD_loc h r (i :: D) s')
theorem drawX_loc (base : Nat) (ops : Array Oper) (s : ASt) (k : ASt → XT) (p : Nat → Prop) (h : ∀ s', XT.loc (k s') p) : (drawX P N base ops s k).loc p := by
  unfold drawX
  split
  · exact runD_loc h _ _ _
  · split
    · split
      · exact ⟨runD_loc h _ _ _, runD_loc h _ _ _⟩
      · trivial
    · trivial
theorem evs_congr {ev ev' : Operand → Option AV} : ∀ (l : List Operand), (∀ x ∈ l, ev x = ev' x) → evs ev l = evs ev' l
  | [], h => rfl
  | x :: r, h => by simp only [evs]; rw [h x (by simp), evs_congr r (fun y hy => h y (by simp [hy]))]
theorem plains_congr {ev ev' : Operand → Option AV} : ∀ (l : List Operand), (∀ x ∈ l, ev x = ev' x) → plains ev l = plains ev' l
  | [], h => rfl
  | x :: r, h => by simp only [plains]; rw [h x (by simp), plains_congr r (fun y hy => h y (by simp [hy]))]
theorem evv_congr {ev ev' : Operand → Option AV} {x : Operand} (h : ev x = ev' x) : evv ev x = evv ev' x := by unfold evv; rw [h]
theorem pureE_congr {ev ev' : Operand → Option AV} {o : Oper} (l : List Operand) (hs : ∀ cs b, o.op ≠ .select cs b) (h : ∀ x ∈ o.op.operands, ev x = ev' x) (hl : ∀ x ∈ l, ev x = ev' x) : pureE P ev o l = pureE P ev' o l := by
  unfold pureE
  rw [plains_congr l hl, execOp_congr o hs (fun x hx => evv_congr (h x hx))]
end
end Go.Proofs.YtcbpgbfbffnogaaGreatW.Rx
namespace Go.Proofs.YtcbpgbfbffnogaaGreatW.Rx
open Go
set_option linter.unusedVariables false
set_option linter.unusedSimpArgs false
section
variable {P : Program} {pin : List (Nat × Nat)} {R : Ending → World → Prop} {N : NL} {J : Jt} {Lu : Nat → Prop} {wu : World}
variable {s : ASt} {ops : Array Oper} {ord : List Nat} {base : Nat}
set_option maxHeartbeats 1000000 in
theorem lenMap_congr {ev ev' : Operand → Option AV} {b : Builtin} : ∀ (l : List Operand), (∀ z ∈ l, ev z = ev' z) → lenMap ev b l = lenMap ev' b l
  | [], _ => rfl
  | [x], h => by
    have e := h x (by simp)
    unfold lenMap
    dsimp only
    rw [e]
  | _ :: _ :: _, _ => rfl
theorem core_congr {ev ev' : Operand → Option AV} {blks : Nat → Option (List AV × TypeId)} {o : Oper} (h : ∀ x ∈ o.op.operands, ev x = ev' x) : core P ev blks o = core P ev' blks o := by
  cases ho : o.op with
  | move x => simp only [core, ho]; rw [h x (by simp [ho, Op.operands])]
  | assign x => simp only [core, ho]; rw [h x (by simp [ho, Op.operands])]
  | pick c x y => simp only [core, ho]; rw [h c (by simp [ho, Op.operands]), h x (by simp [ho, Op.operands]), h y (by simp [ho, Op.operands])]
  | alloc t => simp only [core, ho]
  | sliceToArrayPointer t x => simp only [core, ho]; rw [h x (by simp [ho, Op.operands])]
  | box t x => simp only [core, ho]; rw [h x (by simp [ho, Op.operands])]
  | panic x => simp only [core, ho]; rw [h x (by simp [ho, Op.operands])]
  | load t x => simp only [core, ho]; rw [h x (by simp [ho, Op.operands])]
  | store t x y => simp only [core, ho]; rw [h x (by simp [ho, Op.operands]), h y (by simp [ho, Op.operands])]
  | nilCheck x => simp only [core, ho]; rw [h x (by simp [ho, Op.operands])]
  | binOp op t x y ty =>
    simp only [core, ho]
    rw [h x (by simp [ho, Op.operands]), h y (by simp [ho, Op.operands])]
    rw [pureE_congr (P := P) (o := o) [x, y] (by simp [ho]) h (fun z hz => h z (by simpa [ho, Op.operands] using hz))]
  | unOp op t x =>
    simp only [core, ho]
    rw [pureE_congr (P := P) (o := o) [x] (by simp [ho]) h (fun z hz => h z (by simpa [ho, Op.operands] using hz))]
  | typeAssert x t u c =>
    simp only [core, ho]
    have e1 : plains ev [x] = plains ev' [x] := plains_congr [x] (fun z hz => h z (by simpa [ho, Op.operands] using hz))
    rw [e1]
    split
    · rw [execOp_congr o (by simp [ho]) (fun z hz => evv_congr (h z hz))]
    · rfl
  | makeInterface t x =>
    simp only [core, ho]
    rw [h x (by simp [ho, Op.operands])]
    rw [pureE_congr (P := P) (o := o) [x] (by simp [ho]) h (fun z hz => h z (by simpa [ho, Op.operands] using hz))]
  | convert sr d x =>
    simp only [core, ho]
    rw [pureE_congr (P := P) (o := o) [x] (by simp [ho]) h (fun z hz => h z (by simpa [ho, Op.operands] using hz)), plains_congr [x] (fun z hz => h z (by simpa [ho, Op.operands] using hz)), evv_congr (h x (by simp [ho, Op.operands]))]
  | makeFunc fn f c =>
    simp only [core, ho]
    rw [evs_congr f.toList (fun z hz => h z (by simp [ho, Op.operands]; exact Or.inl (by simpa using hz))), evs_congr c.toList (fun z hz => h z (by simp [ho, Op.operands]; exact Or.inr (by simpa using hz)))]
  | fieldAddr t x f => simp only [core, ho]; rw [h x (by simp [ho, Op.operands])]
  | field t x f => simp only [core, ho]; rw [h x (by simp [ho, Op.operands])]
  | indexAddr t x y => simp only [core, ho]; rw [h x (by simp [ho, Op.operands]), h y (by simp [ho, Op.operands])]
  | index t x y => simp only [core, ho]; rw [h x (by simp [ho, Op.operands]), h y (by simp [ho, Op.operands])]
  | slice t x lo hi mx =>
    cases mx with
    | some m => simp only [core, ho]
    | none =>
      have hx := h x (by simp [ho, Op.operands])
      cases lo with
      | none => cases hi with
        | none => simp only [core, ho]; rw [hx]
        | some b => simp only [core, ho]; rw [hx, h b (by simp [ho, Op.operands])]
      | some a => cases hi with
        | none => simp only [core, ho]; rw [hx, h a (by simp [ho, Op.operands])]
        | some b => simp only [core, ho]; rw [hx, h a (by simp [ho, Op.operands]), h b (by simp [ho, Op.operands])]
  | build t ps =>
    simp only [core, ho]
    rw [evs_congr _ (fun z hz => h z (by simpa [ho, Op.operands] using hz))]
  | buildSlice t n ps =>
    simp only [core, ho]
    rw [evs_congr _ (fun z hz => h z (by simpa [ho, Op.operands] using hz))]
  | extract x n => simp only [core, ho]; rw [h x (by simp [ho, Op.operands])]
  | makeSlice t x y =>
    simp only [core, ho]
    rw [plains_congr [x, y] (fun z hz => h z (by simpa [ho, Op.operands] using hz)), evv_congr (h x (by simp [ho, Op.operands])), evv_congr (h y (by simp [ho, Op.operands]))]
  | call c =>
    have hargs : ∀ z ∈ c.args.toList, ev z = ev' z := fun z hz => h z (by simp [ho, Op.operands, Call.operands]; exact Or.inr (by simpa using hz))
    have hmap : c.args.map (evv ev) = c.args.map (evv ev') := Array.map_congr_left fun z hz => evv_congr (hargs z (by simpa using hz))
    have hx : execOp (evv ev) o = execOp (evv ev') o := execOp_congr o (by simp [ho]) (fun z hz => evv_congr (h z hz))
    simp only [core, ho]
    rw [evs_congr _ hargs, plains_congr _ hargs, hx, hmap]
    have hlm : ∀ b, lenMap ev b c.args.toList = lenMap ev' b c.args.toList := fun b => lenMap_congr _ hargs
    cases hc : c.callee with
    | value f => simp only; rw [h f (by simp [ho, Op.operands, Call.operands, hc])]
    | invoke r m => rfl
    | builtin b => simp only; rw [hlm b]
  | lookup t x y q =>
    simp only [core, ho]
    rw [plains_congr [x, y] (fun z hz => h z (by simpa [ho, Op.operands] using hz)), evv_congr (h x (by simp [ho, Op.operands])), evv_congr (h y (by simp [ho, Op.operands]))]
  | mapUpdate t x y z =>
    simp only [core, ho]
    rw [evs_congr [x, y, z] (fun q hq => h q (by simpa [ho, Op.operands] using hq))]
  | _ => simp only [core, ho]
theorem core_blks {ev : Operand → Option AV} {blks blks' : Nat → Option (List AV × TypeId)} {o : Oper} (h1 : ∀ t a, o.op = .load t a → ∀ k off, ev a = some (.p k off) → blks k = blks' k) (h2 : ∀ t a x, o.op = .store t a x → ∀ k off, ev a = some (.p k off) → blks k = blks' k) : core P ev blks o = core P ev blks' o := by
  cases ho : o.op with
  | load t a =>
    have h := h1 t a ho
    simp only [core, ho]
    cases hev : ev a with
    | none => rfl
    | some av =>
      cases av with
      | p k off => simp only [h k off hev]
      | v y => cases y <;> rfl
      | _ => rfl
  | store t a x =>
    have h := h2 t a x ho
    simp only [core, ho]
    cases hev : ev a with
    | none => rfl
    | some av =>
      cases hx : ev x with
      | none =>
        cases av with
        | v y => cases y <;> rfl
        | _ => rfl
      | some z =>
        cases av with
        | p k off => simp only [h k off hev]
        | v y => cases y <;> rfl
        | _ => rfl
  | slice t x lo hi mx => cases mx <;> simp only [core, ho]
  | _ => simp only [core, ho]
theorem core_light {ev : Operand → Option AV} {blks blks' : Nat → Option (List AV × TypeId)} {o : Oper} (hk : kindOf P o = 0 ∨ kindOf P o = 3) : core P ev blks o = core P ev blks' o := by
  unfold kindOf at hk
  cases ho : o.op with
  | load t a => rw [ho] at hk; rcases hk with hk | hk <;> cases hk
  | store t a x => rw [ho] at hk; rcases hk with hk | hk <;> cases hk
  | slice t x lo hi mx => cases mx <;> simp only [core, ho]
  | _ => simp only [core, ho]
theorem looks_ops {o : Oper} {d : Nat} (h : d ∉ o.looksAt ops) : ∀ x ∈ o.op.operands, ∀ (v : AV), (s.put (some d) v).ev x = s.ev x := by
  intro x hx v
  cases x with
  | tmp t =>
    have : t ≠ d := by
      rintro rfl
      apply h
      unfold Oper.looksAt
      rw [List.mem_append]
      left
      rw [List.mem_filterMap]
      exact ⟨.tmp t, by simpa using hx, rfl⟩
    simp [ASt.ev, ASt.put, beq_ne this]
  | _ => rfl
theorem want_put {o : Oper} {d : Nat} (h : d ∉ o.looksAt ops) (v : AV) : wantX ops o (s.put (some d) v) = wantX ops o s := by
  unfold wantX
  cases hg : o.guard with
  | none => rfl
  | some jw =>
    obtain ⟨j, want⟩ := jw
    dsimp only
    cases hd : (ops[j]?).bind (·.dst) with
    | none => rfl
    | some e =>
      have : e ≠ d := by
        rintro rfl
        apply h
        unfold Oper.looksAt
        rw [List.mem_append, hg]
        right
        simp [hd]
      simp [ASt.put, beq_ne this]
theorem keysOf_congr {s s' : ASt} (h : s'.blks = s.blks) : ∀ (n : Nat) (l acc : List Nat), keysOf s' n l acc = keysOf s n l acc
  | 0, l, acc => by cases l <;> rfl
  | n + 1, [], acc => rfl
  | n + 1, k :: r, acc => by
    simp only [keysOf]
    rw [h]
    split
    · exact keysOf_congr h n _ _
    · split
      · exact keysOf_congr h n _ _
      · exact keysOf_congr h n _ _
theorem outOf_congr {s s' : ASt} (h : s'.blks = s.blks) : ∀ l : List Nat, outOf s' l = outOf s l
  | [] => rfl
  | k :: r => by simp only [outOf]; rw [h, outOf_congr h r]
theorem exOf_congr {s s' : ASt} (h : s'.blks = s.blks) (l : List AV) : exOf s' l = exOf s l := by
  unfold exOf
  rw [keysOf_congr h, outOf_congr h]
theorem filt_congr {s s' : ASt} (h : s'.blks = s.blks) (i : Nat) (e : Eff) : filt P ops ord i s' e = filt P ops ord i s e := by
  unfold filt filt2
  simp only [exOf_congr h]
theorem usedOp_congr {s s' : ASt} {o : Oper} (h : ∀ x ∈ o.op.operands, s'.ev x = s.ev x) : usedOp s' o = usedOp s o := by
  unfold usedOp
  cases ho : o.op with
  | load t a => simp only; rw [h a (by simp [ho, Op.operands])]
  | store t a x => simp only; rw [h a (by simp [ho, Op.operands])]
  | _ => rfl
theorem usedE_congr {s s' : ASt} (h : s'.blks = s.blks) (e : Eff) : usedE s' e = usedE s e := by
  unfold usedE
  simp only [keysOf_congr h]
theorem effD_put {o : Oper} {i : Nat} {d : Option Nat} (h : ∀ e, d = some e → e ∉ o.looksAt ops) (v : AV) : effD P base ops ord i o (s.put d v) = effD P base ops ord i o s := by
  cases d with
  | none => rfl
  | some d =>
    have h' := h d rfl
    unfold effD
    rw [want_put h' v, put_blks, core_congr (looks_ops (s := s) h' · · v), filt_congr (put_blks _ _), usedOp_congr (looks_ops (s := s) h' · · v), usedE_congr (put_blks _ _)]
theorem put_comm {d e : Option Nat} (h : ∀ x, d = some x → e ≠ some x) (u v : AV) : (s.put d u).put e v = (s.put e v).put d u := by
  cases d with
  | none => rfl
  | some d =>
    cases e with
    | none => rfl
    | some e =>
      have hne : d ≠ e := fun x => h d rfl (by rw [x])
      simp only [ASt.put, ASt.mk.injEq, and_true]
      funext j
      by_cases h1 : j = e
      · have : j ≠ d := fun x => hne (by rw [← x, h1])
        simp [h1, beq_ne (Ne.symm hne)]
      · by_cases h2 : j = d
        · simp [h2, beq_ne hne]
        · simp [beq_ne h1, beq_ne h2]
theorem put_set (d : Option Nat) (v : AV) (k : Nat) (c : List AV) (T : TypeId) : (s.put d v).set k c T = (s.set k c T).put d v := by cases d <;> rfl
theorem put_back (d : Option Nat) (v : AV) : ∀ (ex : Out) (cs : List (List AV)) (s : ASt), backS (s.put d v) ex cs = (backS s ex cs).put d v
  | [], _, s => rfl
  | _ :: _, [], s => rfl
  | (k, c, T) :: r, e :: cs, s => by simp only [backS]; rw [put_set, put_back d v r cs]
theorem step_put {o : Oper} {key : Nat} {e : Eff} {d : Option Nat} {v : AV} {k : ASt → XT} (h : ∀ x, d = some x → o.dst ≠ some x) :
    stepX P N key o (s.put d v) e k = stepX P N key o s e (fun s1 => k (s1.put d v)) := by
  unfold stepX
  split
  · cases e with
    | val x => simp only [split_eq]; rw [put_comm h]
    | alloc c T =>
      dsimp only
      rw [put_blks]
      split
      · rw [put_set, put_comm h]
      · rfl
    | stb q c T => dsimp only; rw [put_set, put_comm h]
    | chk c x => simp only [split_eq]; rw [put_comm h]
    | ld q ls row =>
      dsimp only
      congr 1
      funext x
      split
      · rw [put_comm h]
      · simp only [split_eq]; rw [put_comm h]
    | sto q xs =>
      dsimp only
      rw [exOf_congr (put_blks d v)]
      split
      · rw [put_comm h]
      · rfl
    | call f args t =>
      dsimp only
      rw [exOf_congr (put_blks d v)]
      split
      · split
        · congr 1
          funext x
          simp only [split_eq]
          rw [put_back, put_comm h]
        · rfl
      · rfl
    | die x => rfl
    | sem g t =>
      dsimp only
      split
      · congr 1
        funext x
        simp only [split_eq]
        rw [put_comm h]
      · rfl
    | bad why => rfl
  · rfl
theorem step_congr {o : Oper} {key : Nat} {e : Eff} {k k' : ASt → XT} (h : ∀ s1, Stays o.dst s s1 → ((∀ c T, e ≠ .alloc c T) → (∀ q c T, e ≠ .stb q c T) → (∀ f args t, e = .call f args t → exOf s args = some []) → s1.blks = s.blks) → k s1 = k' s1) : stepX P N key o s e k = stepX P N key o s e k' := by
  unfold stepX
  split
  · cases e with
    | val x => simp only [split_eq]; exact h _ (Stays.put _ _) (fun _ _ _ => put_blks _ _)
    | alloc c T =>
      dsimp only
      split
      · refine h _ ?_ (fun h1 => absurd rfl (h1 c T))
        intro j hj
        rw [Stays.put (s := s.set key c T) o.dst (.p key 0) j hj]
        rfl
      · rfl
    | stb q c T =>
      refine h _ ?_ (fun _ h2 => absurd rfl (h2 q c T))
      intro j hj
      rw [Stays.put (s := s.set q c T) o.dst (.v undef) j hj]
      rfl
    | chk c x => simp only [split_eq]; rw [h _ (Stays.put _ _) (fun _ _ _ => put_blks _ _)]
    | ld q ls row =>
      dsimp only
      congr 1
      funext x
      split
      · exact h _ (Stays.put _ _) (fun _ _ _ => put_blks _ _)
      · simp only [split_eq]; exact h _ (Stays.put _ _) (fun _ _ _ => put_blks _ _)
    | sto q xs =>
      dsimp only
      split
      · rw [h _ (Stays.put _ _) (fun _ _ _ => put_blks _ _)]
      · rfl
    | call f args t =>
      dsimp only
      split
      · rename_i sh ls ex hsh hex
        split
        · congr 1
          funext x
          simp only [split_eq]
          refine h _ ?_ (fun _ _ h3 => ?_)
          · intro j hj
            rw [Stays.put o.dst _ j hj, back_tmps]
          · have := h3 f args t rfl
            rw [hex] at this
            cases this
            rw [put_blks]
            rfl
        · rfl
      · rfl
    | die x => rfl
    | sem g t =>
      dsimp only
      split
      · congr 1
        funext x
        simp only [split_eq]
        exact h _ (Stays.put _ _) (fun _ _ _ => put_blks _ _)
      · rfl
    | bad why => rfl
  · rfl
theorem step_mono {o : Oper} {key : Nat} {e : Eff} {k k' : ASt → XT} (h : ∀ s1 Lu wu, (k s1).ok P pin R J Lu wu → (k' s1).ok P pin R J Lu wu) (hk : (stepX P N key o s e k).ok P pin R J Lu wu) : (stepX P N key o s e k').ok P pin R J Lu wu := by
  unfold stepX at hk ⊢
  split
  · rename_i hd
    rw [if_pos hd] at hk
    cases e with
    | val x => simp only [split_eq] at hk ⊢; exact h _ _ _ hk
    | alloc c T =>
      dsimp only at hk ⊢
      split
      · rename_i hn; rw [hn] at hk; exact h _ _ _ hk
      · rename_i hn; rw [hn] at hk; exact hk.elim
    | stb q c T => exact h _ _ _ hk
    | chk c x => simp only [split_eq] at hk ⊢; exact ⟨hk.1, h _ _ _ hk.2⟩
    | ld q ls row =>
      obtain ⟨ad, x, h1, h2, h3, h4, h5, h6⟩ := hk
      refine ⟨ad, x, h1, h2, h3, h4, h5, ?_⟩
      dsimp only at h6 ⊢
      split
      · rename_i hr; rw [if_pos hr] at h6; exact h _ _ _ h6
      · rename_i hr; rw [if_neg hr] at h6; simp only [split_eq] at h6 ⊢; exact h _ _ _ h6
    | sto q xs =>
      dsimp only at hk ⊢
      split
      · rename_i ex hex
        rw [hex] at hk
        intro ρ L w h1 h2 h3
        obtain ⟨ad, g1, g2, g3, g4, g5⟩ := hk ρ L w h1 h2 h3
        exact ⟨ad, g1, g2, g3, g4, h _ _ _ g5⟩
      · rename_i hex; rw [hex] at hk; exact hk.elim
    | call f args t =>
      dsimp only at hk ⊢
      split
      · rename_i sh ls ex hsh hex
        rw [hsh, hex] at hk
        dsimp only at hk
        split
        · rename_i els ns hles
          rw [hles] at hk
          intro ρ L w h1 h2 h3 h4
          refine (hk ρ L w h1 h2 h3 h4).mono ?_
          rintro e w2 (⟨x, g1, g2, g3, g4⟩ | hp)
          case inr => exact Or.inr hp
          left
          simp only [split_eq] at g4 ⊢
          exact ⟨x, g1, g2, g3, h _ _ _ g4⟩
        · rename_i hles; rw [hles] at hk; exact hk.elim
      · rename_i hne
        split at hk
        · rename_i a b c h1 h2; exact absurd h2 (hne _ _ _ h1)
        · exact hk.elim
    | die x => exact hk
    | sem g t =>
      dsimp only at hk ⊢
      split
      · rename_i sh ls hsh
        rw [hsh] at hk
        intro L w h1
        obtain ⟨x, w2, g1, g2, g3⟩ := hk L w h1
        simp only [split_eq] at g3 ⊢
        exact ⟨x, w2, g1, g2, h _ _ _ g3⟩
      · rename_i hsh; rw [hsh] at hk; exact hk.elim
    | bad why => exact hk.elim
  · rename_i hd; rw [if_neg hd] at hk; exact hk.elim
/-! ### Far reads beside what turns far cells -/
def HeldAt (q : Option Addr) (xs : List AV) (w : World) : Prop := ∀ ad, q = some ad → ∀ j v, (AV.gs id xs)[j]? = some v → w.cell? (ad.add j) = some v
def KeepOK (P : Program) (ops : Array Oper) (i m : Nat) (s : ASt) (w : World) : Prop := match keepOf P ops i m s with
  | none => False
  | some none => True
  | some (some x) => HeldAt x.1 x.2 w
theorem keepOne_iff {i m : Nat} {k : XT} : (keepOne P ops i m s k).ok P pin R J Lu wu ↔ KeepOK P ops i m s wu ∧ k.ok P pin R J Lu wu := by
  unfold keepOne KeepOK
  cases keepOf P ops i m s with
  | none => simp [XT.ok]
  | some y => cases y with
    | none => simp
    | some x => exact Iff.rfl
theorem keeps_iff {i : Nat} {k : XT} : ∀ (D : List Nat), (keeps P ops i D s k).ok P pin R J Lu wu ↔ (∀ m ∈ D, KeepOK P ops i m s wu) ∧ k.ok P pin R J Lu wu
  | [] => by simp [keeps]
  | m :: r => by simp only [keeps]; rw [keepOne_iff, keeps_iff r]; simp [and_assoc]
theorem keepsE_off {i : Nat} {D : List Nat} {e : Eff} {k : ASt → XT} (h : turns e = false) : keepsE P ops i D e k = k := by unfold keepsE; rw [if_neg (by rw [h]; simp)]
theorem keepsE_mono {i : Nat} {D : List Nat} {e : Eff} {k k' : ASt → XT} {s1 : ASt} (h : (k s1).ok P pin R J Lu wu → (k' s1).ok P pin R J Lu wu) (hk : (keepsE P ops i D e k s1).ok P pin R J Lu wu) : (keepsE P ops i D e k' s1).ok P pin R J Lu wu := by
  unfold keepsE at hk ⊢
  split
  · rename_i ht
    rw [if_pos ht] at hk
    rw [keeps_iff] at hk ⊢
    exact ⟨hk.1, h hk.2⟩
  · rename_i ht
    rw [if_neg ht] at hk
    exact h hk
theorem keepsE_k {i : Nat} {D : List Nat} {e : Eff} {k : ASt → XT} {s1 : ASt} (hk : (keepsE P ops i D e k s1).ok P pin R J Lu wu) : (k s1).ok P pin R J Lu wu := by
  unfold keepsE at hk
  split at hk
  · exact ((keeps_iff D).1 hk).2
  · exact hk
theorem notTmp_ev0 {a : Operand} {d : Option Nat} {s1 : ASt} (hs : Stays d s s1) (h : notTmp a d = true) : s1.ev a = s.ev a := by
  cases a with
  | tmp t =>
    refine hs t (fun e => ?_)
    cases d with
    | none => cases e
    | some d =>
      cases e
      simp [notTmp] at h
  | _ => rfl
theorem keepOf_put {i m j : Nat} {oj : Oper} (hj : ops[j]? = some oj) (h : noClob ops m j = true) (v : AV) : keepOf P ops i m (s.put oj.dst v) = keepOf P ops i m s := by
  unfold keepOf
  cases hom : ops[m]? with
  | none => rfl
  | some om =>
    unfold noClob at h
    rw [hom, hj] at h
    dsimp only at h ⊢
    cases hop : om.op with
    | load t a =>
      rw [hop] at h
      simp only [Bool.and_eq_true] at h
      dsimp only
      rw [notTmp_ev0 (Stays.put oj.dst v) h.1]
      cases hd : om.dst with
      | none => rfl
      | some d =>
        dsimp only
        have : (s.put oj.dst v).tmps d = s.tmps d := by
          refine Stays.put oj.dst v d (fun e => ?_)
          have h2 := h.2
          rw [hd, ← e] at h2
          simp [dstNe] at h2
        rw [this]
    | _ => rfl
theorem keepOf_set {i m key : Nat} {c : List AV} {T : TypeId} : keepOf P ops i m (s.set key c T) = keepOf P ops i m s := by
  have hev : (s.set key c T).ev = s.ev := by funext x; cases x <;> rfl
  unfold keepOf
  rw [hev]
  rfl
theorem kept_put {i m j : Nat} {oj : Oper} {w : World} (hj : ops[j]? = some oj) (h : noClob ops m j = true) (v : AV) (hk : KeepOK P ops i m (s.put oj.dst v) w) : KeepOK P ops i m s w := by
  unfold KeepOK at hk ⊢
  rw [keepOf_put hj h] at hk
  exact hk
theorem kept_set {i m key : Nat} {c : List AV} {T : TypeId} {w : World} (hk : KeepOK P ops i m (s.set key c T) w) : KeepOK P ops i m s w := by
  unfold KeepOK at hk ⊢
  rw [keepOf_set] at hk
  exact hk
theorem kept_ld {i m : Nat} {om : Oper} {t : TypeId} {a : Operand} {q : Option Addr} {ls : List Lf} {row : Bool} {x : Tup ls} {w : World} (hom : ops[m]? = some om) (hop : om.op = .load t a) (hk1 : kindAt P ops m = 1) (h2 : reach ops ops.size i m = false) (hev : s.ev a = some (.v (.pointer q))) (hrow : row = true ∨ ls.length = 1)
    (h : KeepOK P ops i m (s.put om.dst (if row then .agg (vs ls x) else (vs ls x).headD (.v undef))) w) : ∀ ad, q = some ad → ∀ j v, (Tup.V ls x)[j]? = some v → w.cell? (ad.add j) = some v := by
  unfold KeepOK at h
  have e : keepOf P ops i m (s.put om.dst (if row then .agg (vs ls x) else (vs ls x).headD (.v undef))) = (match om.dst with
        | some d => if notTmp a om.dst then (match (s.put om.dst (if row then .agg (vs ls x) else (vs ls x).headD (.v undef))).ev a, (s.put om.dst (if row then .agg (vs ls x) else (vs ls x).headD (.v undef))).tmps d with
            | some (.v (.pointer q)), some x => (match x with
              | .v (.int k n) => some (some (q, [.v (.int k n)]))
              | .v (.bool b) => some (some (q, [.v (.bool b)]))
              | .v (.string b) => some (some (q, [.v (.string b)]))
              | .v (.slice a b c) => some (some (q, [.v (.slice a b c)]))
              | .v (.pointer b) => some (some (q, [.v (.pointer b)]))
              | .v (.map b) => some (some (q, [.v (.map b)]))
              | .agg cs => some (some (q, cs))
              | _ => some none)
            | _, _ => some none)
          else none
        | none => none) := by
    unfold keepOf
    rw [if_pos (by rw [h2, hk1]; rfl), hom]
    dsimp only
    rw [hop]
    try rfl
  rw [e] at h
  cases hd : om.dst with
  | none => rw [hd] at h; exact h.elim
  | some d =>
    rw [hd] at h
    dsimp only at h
    by_cases hn : notTmp a (some d) = true
    case neg => rw [if_neg hn] at h; exact h.elim
    rw [if_pos hn, notTmp_ev0 (Stays.put (some d) _) hn, hev] at h
    have ht : ∀ v : AV, (s.put (some d) v).tmps d = some v := fun v => by simp [ASt.put]
    rw [ht] at h
    cases row with
    | true =>
      have h' : HeldAt q (vs ls x) w := h
      unfold HeldAt vs at h'
      rw [gs_v] at h'
      exact h'
    | false =>
      have hl : ls.length = 1 := hrow.resolve_left (by simp)
      match ls, hl, x, h with
      | [l], _, x, h =>
        cases l <;> exact h
def Later (Lu : Nat → Prop) (wu : World) (L : Nat → Prop) (w : World) : Prop := wu.heap.size ≤ w.heap.size ∧ ∀ b, b < wu.heap.size → ¬ Lu b → ¬ L b
theorem Later.refl : Later Lu wu Lu wu := ⟨Nat.le_refl _, fun _ _ h => h⟩
theorem Later.of {L : Nat → Prop} {w w2 : World} (h : Ext Lu wu L w) (hs : w.heap.size ≤ w2.heap.size) : Later Lu wu L w2 := ⟨Nat.le_trans h.size hs, fun b hb hn hl => by have := h.new b hl hn; omega⟩
theorem setCells_size (b : Nat) : ∀ (vs : List Value) (i : Nat) (w : World), (w.setCells b i vs).heap.size = w.heap.size
  | [], i, w => rfl
  | v :: r, i, w => by rw [World.setCells, setCells_size b r]; simp [World.setCell]
theorem step_mono2 {o : Oper} {key : Nat} {e : Eff} {k k' : ASt → XT} (h : ∀ s1 L w, Stays o.dst s s1 → Later Lu wu L w → (turns e = false → L = Lu ∧ w = wu) → (k s1).ok P pin R J L w → (k' s1).ok P pin R J L w) (hk : (stepX P N key o s e k).ok P pin R J Lu wu) : (stepX P N key o s e k').ok P pin R J Lu wu := by
  unfold stepX at hk ⊢
  split
  · rename_i hd
    rw [if_pos hd] at hk
    cases e with
    | val x => simp only [split_eq] at hk ⊢; exact h _ _ _ (Stays.put _ _) Later.refl (fun _ => ⟨rfl, rfl⟩) hk
    | alloc c T =>
      dsimp only at hk ⊢
      split
      · rename_i hn; rw [hn] at hk
        refine h _ _ _ (fun j hj => ?_) Later.refl (fun _ => ⟨rfl, rfl⟩) hk
        rw [Stays.put (s := s.set key c T) o.dst (.p key 0) j hj]; rfl
      · rename_i hn; rw [hn] at hk; exact hk.elim
    | stb q c T =>
      refine h _ _ _ (fun j hj => ?_) Later.refl (fun _ => ⟨rfl, rfl⟩) hk
      rw [Stays.put (s := s.set q c T) o.dst (.v undef) j hj]; rfl
    | chk c x => simp only [split_eq] at hk ⊢; exact ⟨hk.1, h _ _ _ (Stays.put _ _) Later.refl (fun _ => ⟨rfl, rfl⟩) hk.2⟩
    | ld q ls row =>
      obtain ⟨ad, x, h1, h2, h3, h4, h5, h6⟩ := hk
      refine ⟨ad, x, h1, h2, h3, h4, h5, ?_⟩
      dsimp only at h6 ⊢
      split
      · rename_i hr; rw [if_pos hr] at h6; exact h _ _ _ (Stays.put _ _) Later.refl (fun _ => ⟨rfl, rfl⟩) h6
      · rename_i hr; rw [if_neg hr] at h6; simp only [split_eq] at h6 ⊢; exact h _ _ _ (Stays.put _ _) Later.refl (fun _ => ⟨rfl, rfl⟩) h6
    | sto q xs =>
      dsimp only at hk ⊢
      split
      · rename_i ex hex
        rw [hex] at hk
        intro ρ L w h1 h2 h3
        obtain ⟨ad, g1, g2, g3, g4, g5⟩ := hk ρ L w h1 h2 h3
        exact ⟨ad, g1, g2, g3, g4, h _ _ _ (Stays.put _ _) (Later.of h2 (by rw [setCells_size]; exact Nat.le_refl _)) (fun h => by cases h) g5⟩
      · rename_i hex; rw [hex] at hk; exact hk.elim
    | call f args t =>
      dsimp only at hk ⊢
      split
      · rename_i sh ls ex hsh hex
        rw [hsh, hex] at hk
        dsimp only at hk
        split
        · rename_i els ns hles
          rw [hles] at hk
          intro ρ L w h1 h2 h3 h4
          refine (hk ρ L w h1 h2 h3 h4).mono ?_
          rintro e w2 (⟨x, g1, g2, g3, g4⟩ | hp)
          case inr => exact Or.inr hp
          left
          simp only [split_eq] at g4 ⊢
          refine ⟨x, g1, g2, g3, h _ _ _ (fun j hj => ?_) (Later.of h2 g3.1) (fun h => by cases h) g4⟩
          rw [Stays.put o.dst _ j hj, back_tmps]
        · rename_i hles; rw [hles] at hk; exact hk.elim
      · rename_i hne
        split at hk
        · rename_i a b c h1 h2; exact absurd h2 (hne _ _ _ h1)
        · exact hk.elim
    | die x => exact hk
    | sem g t =>
      dsimp only at hk ⊢
      split
      · rename_i sh ls hsh
        rw [hsh] at hk
        intro L w h1
        obtain ⟨x, w2, g1, g2, g3⟩ := hk L w h1
        simp only [split_eq] at g3 ⊢
        exact ⟨x, w2, g1, g2, h _ _ _ (Stays.put _ _) (Later.of h1 g2.1) (fun h => by cases h) g3⟩
      · rename_i hsh; rw [hsh] at hk; exact hk.elim
    | bad why => exact hk.elim
  · rename_i hd; rw [if_neg hd] at hk; exact hk.elim
end
end Go.Proofs.YtcbpgbfbffnogaaGreatW.Rx
namespace Go.Proofs.YtcbpgbfbffnogaaGreatW.Rx
open Go
set_option linter.unusedVariables false
set_option linter.unusedSimpArgs false
section
variable {P : Program} {pin : List (Nat × Nat)} {R : Ending → World → Prop} {N : NL} {J : Jt} {Lu : Nat → Prop} {wu : World}
variable {ds : Fx}
variable {s : ASt} {ops : Array Oper} {ord : List Nat} {base : Nat} {Q : Exit → Act → World → Prop}
theorem filt_or (i : Nat) (e : Eff) : filt P ops ord i s e = e ∨ ∃ why, filt P ops ord i s e = .bad why := by
  by_cases h0 : kindAt P ops i = 0
  · rw [filt_0 h0]; cases e <;> simp [filt0]
  by_cases h1 : kindAt P ops i = 1
  · rw [filt_1 h1]
    cases e <;> simp only [filt1]
    case ld q ls row => split; exact Or.inl rfl; exact Or.inr ⟨_, rfl⟩
    all_goals simp
  by_cases h3 : kindAt P ops i = 3
  · rw [filt_3 h3]; cases e <;> simp [filt3]
  rw [filt_2 h0 h1 h3]
  unfold filt2
  split
  · cases e with
    | call f args t =>
      dsimp only
      rcases callF_or (exOf s args) f args t with ⟨_, e⟩ | e
      · exact Or.inl e
      · exact Or.inr ⟨_, e⟩
    | _ => simp
  · exact Or.inl rfl
def lightE : Eff → Bool
  | .val _ => true
  | .chk _ _ => true
  | .ld _ _ _ => true
  | .bad _ => true
  | _ => false
theorem guardE_or (ks bs : List Nat) (e : Eff) : guardE ks bs e = e ∨ guardE ks bs e = .bad "region: a block that is made here" := by
  unfold guardE; split; exact Or.inr rfl; exact Or.inl rfl
theorem effD_light {o : Oper} {i : Nat} (hk : kindAt P ops i = 0 ∨ kindAt P ops i = 1) : lightE (effD P base ops ord i o s) = true := by
  unfold effD
  split
  · have key : lightE (filt P ops ord i s (core P s.ev s.blks o)) = true := by
      rcases hk with hk | hk
      · rw [filt_0 hk]; cases core P s.ev s.blks o <;> rfl
      · rw [filt_1 hk]
        cases core P s.ev s.blks o with
        | ld q ls row => simp only [filt1]; split <;> rfl
        | _ => rfl
    rcases guardE_or (usedOp s o ++ usedE s (filt P ops ord i s (core P s.ev s.blks o))) (banned P base ops ord i) (filt P ops ord i s (core P s.ev s.blks o)) with e | e
    · rw [e]; exact key
    · rw [e]; rfl
  · rfl
  · rfl
theorem effD_core {o : Oper} {i : Nat} {e : Eff} (h : effD P base ops ord i o s = e) (hb : ∀ why, e ≠ .bad why) (hv : e ≠ .val (.v undef)) : core P s.ev s.blks o = e := by
  unfold effD at h
  split at h
  · rcases guardE_or (usedOp s o ++ usedE s (filt P ops ord i s (core P s.ev s.blks o))) (banned P base ops ord i) (filt P ops ord i s (core P s.ev s.blks o)) with e1 | e1
    · rw [e1] at h
      rcases filt_or (P := P) (ops := ops) (ord := ord) (s := s) i (core P s.ev s.blks o) with e2 | ⟨why, e2⟩
      · rw [e2] at h; exact h
      · rw [e2] at h; exact absurd h.symm (hb why)
    · rw [e1] at h; exact absurd h.symm (hb _)
  · exact absurd h.symm hv
  · exact absurd h.symm (hb _)
theorem core_ld {ev : Operand → Option AV} {blks : Nat → Option (List AV × TypeId)} {o : Oper} {q : Option Addr} {ls : List Lf} {row : Bool} {t : TypeId} {a : Operand} (ho : o.op = .load t a) (h : core P ev blks o = .ld q ls row) : ev a = some (.v (.pointer q)) ∧ (row = true ∨ ls.length = 1) := by
  simp only [core, ho] at h
  split at h
  · split at h
    · split at h
      · split at h
        · split at h <;> cases h
        · revert h; unfold orBad; split <;> intro h <;> cases h
      · cases h
    · cases h
  · rename_i q' hev
    split at h
    · split at h
      · split at h
        · cases h; exact ⟨hev, Or.inl rfl⟩
        · cases h
      · split at h
        · rename_i hl; cases h; exact ⟨hev, Or.inr hl⟩
        · cases h
    · cases h
  · cases h
theorem effD_kind0 {o : Oper} {i : Nat} {q : Option Addr} {ls : List Lf} {row : Bool} (hk : kindAt P ops i = 0) : effD P base ops ord i o s ≠ .ld q ls row := by
  intro h
  unfold effD at h
  split at h
  · rcases guardE_or (usedOp s o ++ usedE s (filt P ops ord i s (core P s.ev s.blks o))) (banned P base ops ord i) (filt P ops ord i s (core P s.ev s.blks o)) with e | e
    case inr => rw [e] at h; cases h
    rw [e, filt_0 hk] at h
    unfold filt0 at h
    split at h <;> cases h
  · cases h
  · cases h
theorem effD_keeps {o : Oper} {i : Nat} (h0 : kindAt P ops i ≠ 0) (h1 : kindAt P ops i ≠ 1) (h3 : kindAt P ops i ≠ 3) (hl : loose P ops ord 1 i = true) :
    (∀ c T, effD P base ops ord i o s ≠ .alloc c T) ∧ (∀ f args t, effD P base ops ord i o s = .call f args t → exOf s args = some []) := by
  have key : ∀ e, filt P ops ord i s e = (match e with
      | .call f args t => callF (exOf s args) f args t
      | .sem g t => .sem g t
      | .stb q c T => .stb q c T
      | .sto q xs => .sto q xs
      | _ => .bad "region: a store beside a read") := by
    intro e
    rw [filt_2 h0 h1 h3]
    unfold filt2
    rw [if_pos hl]
    try rfl
  unfold effD
  split
  · rcases guardE_or (usedOp s o ++ usedE s (filt P ops ord i s (core P s.ev s.blks o))) (banned P base ops ord i) (filt P ops ord i s (core P s.ev s.blks o)) with e | e
    case inr => rw [e]; exact ⟨(fun c T h => by cases h), (fun f' args' t' h => by cases h)⟩
    rw [e, key]
    cases core P s.ev s.blks o with
    | call f args t =>
      dsimp only
      rcases callF_or (exOf s args) f args t with ⟨hex, e⟩ | e
      · rw [e]
        refine ⟨(fun c T h => by cases h), fun f' args' t' h => ?_⟩
        cases h
        exact hex
      · rw [e]; exact ⟨(fun c T h => by cases h), (fun f' args' t' h => by cases h)⟩
    | _ => exact ⟨(fun c T h => by cases h), (fun f' args' t' h => by cases h)⟩
  · exact ⟨(fun c T h => by cases h), (fun f' args' t' h => by cases h)⟩
  · exact ⟨(fun c T h => by cases h), (fun f' args' t' h => by cases h)⟩
theorem stays_ev {o : Oper} {d : Option Nat} {s1 : ASt} (hs : Stays d s s1) (h : ∀ e, d = some e → e ∉ o.looksAt ops) : ∀ x ∈ o.op.operands, s1.ev x = s.ev x := by
  intro x hx
  cases x with
  | tmp t =>
    refine hs t (fun e => h t e.symm ?_)
    unfold Oper.looksAt
    rw [List.mem_append]
    left
    rw [List.mem_filterMap]
    exact ⟨.tmp t, by simpa using hx, rfl⟩
  | _ => rfl
theorem stays_want {o : Oper} {d : Option Nat} {s1 : ASt} (hs : Stays d s s1) (h : ∀ e, d = some e → e ∉ o.looksAt ops) : wantX ops o s1 = wantX ops o s := by
  unfold wantX
  cases hg : o.guard with
  | none => rfl
  | some jw =>
    obtain ⟨j, want⟩ := jw
    dsimp only
    cases hd : (ops[j]?).bind (·.dst) with
    | none => rfl
    | some e =>
      dsimp only
      rw [hs e (fun x => h e x.symm ?_)]
      unfold Oper.looksAt
      rw [List.mem_append, hg]
      right
      simp [hd]
theorem effD_stays {o : Oper} {i : Nat} {d : Option Nat} {s1 : ASt} (ho : ops[i]? = some o) (hs : Stays d s s1) (h : ∀ e, d = some e → e ∉ o.looksAt ops) (hk : kindAt P ops i = 0 ∨ kindAt P ops i = 3 ∨ (kindAt P ops i = 1 ∧ s1.blks = s.blks)) : effD P base ops ord i o s1 = effD P base ops ord i o s := by
  unfold effD
  rw [stays_want hs h, usedOp_congr (stays_ev hs h)]
  have hc : core P s1.ev s1.blks o = core P s.ev s.blks o := by
    rw [core_congr (stays_ev hs h)]
    rcases hk with hk | hk | ⟨_, hb⟩
    · exact core_light (Or.inl (by unfold kindAt at hk; rw [ho] at hk; exact hk))
    · exact core_light (Or.inr (by unfold kindAt at hk; rw [ho] at hk; exact hk))
    · rw [hb]
  rw [hc]
  have hf : filt P ops ord i s1 (core P s.ev s.blks o) = filt P ops ord i s (core P s.ev s.blks o) := by
    rcases hk with hk | hk | ⟨hk, hb⟩
    · rw [filt_0 hk, filt_0 hk]
    · rw [filt_3 hk, filt_3 hk]
    · exact filt_congr hb i _
  have hu : usedE s1 (filt P ops ord i s (core P s.ev s.blks o)) = usedE s (filt P ops ord i s (core P s.ev s.blks o)) := by
    rcases hk with hk | hk | ⟨hk, hb⟩
    · rw [filt_0 hk]; cases core P s.ev s.blks o <;> rfl
    · rw [filt_3 hk]; cases core P s.ev s.blks o <;> rfl
    · exact usedE_congr hb _
  rw [hf, hu]
theorem keysOf_acc : ∀ (n : Nat) (l acc : List Nat) (k : Nat), k ∈ acc → k ∈ keysOf s n l acc
  | 0, l, acc, k, h => by cases l <;> exact h
  | n + 1, [], acc, k, h => h
  | n + 1, j :: r, acc, k, h => by
    simp only [keysOf]
    split
    · exact keysOf_acc n _ _ _ h
    · split
      · exact keysOf_acc n _ _ _ (by simp [h])
      · exact keysOf_acc n _ _ _ h
theorem keysOf_set {key : Nat} {c : List AV} {T : TypeId} (hn : s.blks key = none) : ∀ (n : Nat) (l acc : List Nat), key ∉ keysOf (s.set key c T) n l acc → keysOf (s.set key c T) n l acc = keysOf s n l acc
  | 0, l, acc, h => by cases l <;> rfl
  | n + 1, [], acc, h => rfl
  | n + 1, j :: r, acc, h => by
    simp only [keysOf] at h ⊢
    split
    · rename_i hc
      rw [if_pos hc] at h
      exact keysOf_set hn n _ _ h
    · rename_i hc
      rw [if_neg hc] at h
      by_cases e : j = key
      · subst e
        have : (s.set j c T).blks j = some (c, T) := by simp [ASt.set]
        rw [this] at h
        exact absurd (keysOf_acc n _ _ j (by simp)) h
      · have hb : (s.set key c T).blks j = s.blks j := by simp [ASt.set, beq_ne e]
        rw [hb] at h ⊢
        split
        · rename_i c' T' hc'
          rw [hc'] at h
          exact keysOf_set hn n _ _ h
        · rename_i hc'
          rw [hc'] at h
          exact keysOf_set hn n _ _ h
theorem outOf_set {key : Nat} {c : List AV} {T : TypeId} : ∀ (l : List Nat), key ∉ l → outOf (s.set key c T) l = outOf s l
  | [], _ => rfl
  | k :: r, h => by
    have hk : k ≠ key := fun e => h (by simp [e])
    have hb : (s.set key c T).blks k = s.blks k := by simp [ASt.set, beq_ne hk]
    simp only [outOf]
    rw [hb, outOf_set r (fun hr => h (by simp [hr]))]
theorem exOf_set {key : Nat} {c : List AV} {T : TypeId} (hn : s.blks key = none) (args : List AV) (h : key ∉ keysOf (s.set key c T) 64 (AV.keyss args) []) : exOf (s.set key c T) args = exOf s args := by
  have e := keysOf_set hn _ _ _ h
  unfold exOf
  rw [e] at h ⊢
  exact outOf_set _ h
theorem exOf_mem {args : List AV} {ex : Out} (h : exOf s args = some ex) : ∀ x ∈ ex, s.blks x.1 = some (x.2.1, x.2.2) := by
  unfold exOf at h
  generalize keysOf s 64 (AV.keyss args) [] = l at h
  induction l generalizing ex with
  | nil => simp only [outOf, Option.some.injEq] at h; subst h; simp
  | cons k r ih =>
    simp only [outOf] at h
    split at h
    · rename_i c T o hb ho
      split at h
      · cases h
      · cases h
        intro x hx
        rcases List.mem_cons.1 hx with rfl | hx
        · exact hb
        · exact ih ho x hx
    · cases h
theorem set_comm (s : ASt) {k k' : Nat} (h : k ≠ k') (c c' : List AV) (T T' : TypeId) : (s.set k c T).set k' c' T' = (s.set k' c' T').set k c T := by
  simp only [ASt.set, ASt.mk.injEq, true_and]
  refine ⟨?_, ?_⟩
  · funext j
    by_cases h1 : j = k'
    · by_cases h2 : j = k
      · exact absurd (h2.symm.trans h1) h
      · simp [h1, beq_ne (Ne.symm h)]
    · by_cases h2 : j = k
      · simp [h2, beq_ne h]
      · simp [beq_ne h1, beq_ne h2]
  · funext j
    by_cases h1 : j = k'
    · by_cases h2 : j = k
      · exact absurd (h2.symm.trans h1) h
      · simp [h1, beq_ne (Ne.symm h)]
    · by_cases h2 : j = k
      · simp [h2, beq_ne h]
      · simp [beq_ne h1, beq_ne h2]
theorem set_back {key : Nat} (c : List AV) (T : TypeId) : ∀ (ex : Out) (cs : List (List AV)) (s : ASt), (∀ x ∈ ex, x.1 ≠ key) → backS (s.set key c T) ex cs = (backS s ex cs).set key c T
  | [], _, s, _ => rfl
  | _ :: _, [], s, _ => rfl
  | (k, c', T') :: r, e :: cs, s, h => by
    simp only [backS]
    rw [set_comm s (Ne.symm (h (k, c', T') (by simp))), set_back c T r cs _ (fun x hx => h x (by simp [hx]))]
theorem step_set {o : Oper} {key kx : Nat} {e : Eff} {c : List AV} {T : TypeId} {k : ASt → XT} (hn : s.blks key = none) (hne : key ≠ kx) (hu : key ∉ usedE (s.set key c T) e) (hst : ∀ q c' T', e = .stb q c' T' → q ≠ key) :
    stepX P N kx o (s.set key c T) e k = stepX P N kx o s e (fun s1 => k (s1.set key c T)) := by
  have hb : ∀ j, j ≠ key → (s.set key c T).blks j = s.blks j := fun j hj => by simp [ASt.set, beq_ne hj]
  unfold stepX
  split
  · cases e with
    | val x => simp only [split_eq]; rw [put_set]
    | alloc c' T' =>
      dsimp only
      rw [hb kx (Ne.symm hne)]
      split
      · rw [set_comm s hne, put_set]
      · rfl
    | stb q c' T' => dsimp only; rw [set_comm s (Ne.symm (hst q c' T' rfl)), put_set]
    | chk cc x => simp only [split_eq]; rw [put_set]
    | ld q ls row =>
      dsimp only
      congr 1
      funext x
      split
      · rw [put_set]
      · simp only [split_eq]; rw [put_set]
    | sto q xs =>
      dsimp only
      rw [exOf_set hn xs hu]
      split
      · rw [put_set]
      · rfl
    | call f args t =>
      dsimp only
      rw [exOf_set hn args hu]
      split
      · rename_i sh ls ex hsh hex
        split
        · congr 1
          funext x
          simp only [split_eq]
          rw [set_back c T ex _ s (fun y hy e => by have := exOf_mem hex y hy; rw [e, hn] at this; cases this), put_set]
        · rfl
      · rfl
    | die x => rfl
    | sem g t =>
      dsimp only
      split
      · congr 1
        funext x
        simp only [split_eq]
        rw [put_set]
      · rfl
    | bad why => rfl
  · rfl
theorem loose_of {k i j : Nat} (hj : j ∈ ord) (hne : j ≠ i) (hk : kindAt P ops j = k) (h1 : reach ops ops.size i j = false) (h2 : reach ops ops.size j i = false) : loose P ops ord k i = true := by
  unfold loose
  rw [List.any_eq_true]
  exact ⟨j, hj, by simp [beq_ne hne, hk, h1, h2]⟩
theorem core_stb {ev : Operand → Option AV} {blks : Nat → Option (List AV × TypeId)} {o : Oper} {q : Nat} {c : List AV} {T : TypeId} (ho : ∀ t a x, o.op ≠ .store t a x) (h : core P ev blks o = .stb q c T) : False := by
  have orb : ∀ (x : Option AV) (why : String), orBad x why ≠ .stb q c T := by intro x why; cases x <;> exact fun h => by cases h
  have pur : ∀ l, pureE P ev o l ≠ .stb q c T := by
    intro l
    unfold pureE
    split
    · exact orb _ _
    · exact fun h => by cases h
  cases hop : o.op with
  | store t a x => exact ho t a x hop
  | slice t x lo hi mx =>
    cases mx with
    | none => simp only [core, hop] at h; repeat' split at h
              all_goals cases h
    | some m => simp only [core, hop] at h; cases h
  | _ =>
    simp only [core, hop] at h
    first
      | exact orb _ _ h
      | exact pur _ h
      | cases h
      | ((repeat' split at h) <;> first | cases h | exact orb _ _ h | exact pur _ h)
theorem banned_mem {m i : Nat} (hm : m ∈ ord) (hne : m ≠ i) (hk : kindAt P ops m = 3) (h2 : reach ops ops.size i m = false) : base + m ∈ banned P base ops ord i := by
  unfold banned
  rw [List.mem_map]
  exact ⟨m, by rw [List.mem_filter]; exact ⟨hm, by simp [beq_ne hne, hk, h2]⟩, rfl⟩
theorem guardE_no {ks bs : List Nat} {e : Eff} {k : Nat} (hk : k ∈ bs) (h : ¬ ∃ why, guardE ks bs e = .bad why) : k ∉ ks ∧ guardE ks bs e = e := by
  unfold guardE at *
  split
  · rename_i ha
    exact absurd ⟨_, by rw [if_pos ha]⟩ h
  · rename_i ha
    refine ⟨fun hks => ha ?_, rfl⟩
    rw [List.any_eq_true]
    exact ⟨k, hks, by simpa using hk⟩
theorem effD_set {o : Oper} {i key : Nat} {c : List AV} {T : TypeId} (hn : s.blks key = none) (hkey : key ∈ banned P base ops ord i) (h : ¬ ∃ why, effD P base ops ord i o (s.set key c T) = .bad why) :
    effD P base ops ord i o (s.set key c T) = effD P base ops ord i o s ∧ key ∉ usedE (s.set key c T) (effD P base ops ord i o (s.set key c T)) ∧ (∀ q c' T', effD P base ops ord i o (s.set key c T) = .stb q c' T' → q ≠ key) := by
  have hw : wantX ops o (s.set key c T) = wantX ops o s := rfl
  unfold effD at h ⊢
  rw [hw] at h ⊢
  split
  · rename_i hb
    rw [hb] at h
    dsimp only at h
    obtain ⟨g1, g2⟩ := guardE_no hkey h
    have g3 : key ∉ usedOp (s.set key c T) o := fun hx => g1 (List.mem_append_left _ hx)
    have g4 : key ∉ usedE (s.set key c T) (filt P ops ord i (s.set key c T) (core P (s.set key c T).ev (s.set key c T).blks o)) := fun hx => g1 (List.mem_append_right _ hx)
    have hev : (s.set key c T).ev = s.ev := by funext x; cases x <;> rfl
    have hblk : ∀ j, j ≠ key → (s.set key c T).blks j = s.blks j := fun j hj => by simp [ASt.set, beq_ne hj]
    have hld : ∀ t a, o.op = .load t a → ∀ k off, s.ev a = some (.p k off) → k ≠ key := by
      intro t a ho k off hk e
      apply g3
      simp only [usedOp, ho, hev, hk, e, List.mem_singleton]
    have hsto : ∀ t a x, o.op = .store t a x → ∀ k off, s.ev a = some (.p k off) → k ≠ key := by
      intro t a x ho k off hk e
      apply g3
      simp only [usedOp, ho, hev, hk, e, List.mem_singleton]
    have hcore : core P (s.set key c T).ev (s.set key c T).blks o = core P s.ev s.blks o := by
      rw [hev]
      exact core_blks (fun t a ho k off hk => hblk k (hld t a ho k off hk)) (fun t a x ho k off hk => hblk k (hsto t a x ho k off hk))
    rw [hcore] at g2 g4 g1 h ⊢
    have hF : filt P ops ord i (s.set key c T) (core P s.ev s.blks o) = filt P ops ord i s (core P s.ev s.blks o) := by
      by_cases k0 : kindAt P ops i = 0
      · rw [filt_0 k0, filt_0 k0]
      by_cases k1 : kindAt P ops i = 1
      · rw [filt_1 k1, filt_1 k1]
      by_cases k3 : kindAt P ops i = 3
      · rw [filt_3 k3, filt_3 k3]
      rw [filt_2 k0 k1 k3] at g4 ⊢
      rw [filt_2 k0 k1 k3]
      unfold filt2 at g4 ⊢
      split
      · rename_i hl
        rw [if_pos hl] at g4
        cases hcc : core P s.ev s.blks o with
        | call f args t =>
          rw [hcc] at g4
          dsimp only at g4 ⊢
          have hxx : exOf (s.set key c T) args = exOf s args := by
            rcases callF_or (exOf (s.set key c T) args) f args t with ⟨hx, e⟩ | e
            · rw [e] at g4
              exact exOf_set hn args g4
            · exfalso
              apply h
              rw [filt_2 k0 k1 k3]
              unfold filt2
              rw [if_pos hl, hcc]
              dsimp only
              rw [e]
              unfold guardE
              split
              · exact ⟨_, rfl⟩
              · exact ⟨_, rfl⟩
          rw [hxx]
        | _ => rfl
      · rfl
    rw [hF] at g1 g2 g4 h ⊢
    have hU : usedE (s.set key c T) (filt P ops ord i s (core P s.ev s.blks o)) = usedE s (filt P ops ord i s (core P s.ev s.blks o)) := by
      cases hcc : filt P ops ord i s (core P s.ev s.blks o) with
      | call f args t => rw [hcc] at g4; exact keysOf_set hn _ _ _ g4
      | sto q xs => rw [hcc] at g4; exact keysOf_set hn _ _ _ g4
      | _ => rfl
    have hO : usedOp (s.set key c T) o = usedOp s o := usedOp_congr (fun x _ => by rw [hev])
    refine ⟨by rw [hU, hO], ?_, ?_⟩
    · rw [g2]; exact g4
    · intro q c' T' he
      rw [g2] at he
      have hcs : core P s.ev s.blks o = .stb q c' T' := by
        rcases filt_or (P := P) (ops := ops) (ord := ord) (s := s) i (core P s.ev s.blks o) with e | ⟨why, e⟩
        · rw [← e, he]
        · rw [e] at he; cases he
      intro e
      subst e
      -- a store into the new block
      cases ho : o.op with
      | store t a x =>
        have h2 := hsto t a x ho
        simp only [core, ho] at hcs
        split at hcs
        · rename_i key' off v hk' _
          split at hcs
          · split at hcs
            · injection hcs with e1
              exact h2 key' off hk' e1
            · cases hcs
          · cases hcs
        · split at hcs <;> cases hcs
        · cases hcs
      | _ => exact core_stb (by simp [ho]) hcs
  · exact ⟨rfl, by simp [usedE], fun q c' T' he => by cases he⟩
  · rename_i hb
    rw [hb] at h
    exact absurd ⟨_, rfl⟩ h
theorem step_none {o : Oper} {key kx : Nat} {e : Eff} {k k' : ASt → XT} (hn : s.blks key = none) (hne : key ≠ kx) (hst : ∀ q c' T', e = .stb q c' T' → q ≠ key) (h : ∀ s1 : ASt, s1.blks key = none → k s1 = k' s1) : stepX P N kx o s e k = stepX P N kx o s e k' := by
  have hp : ∀ (d : Option Nat) (v : AV) (s : ASt), s.blks key = none → (s.put d v).blks key = none := fun d v s h => by rw [put_blks]; exact h
  have hs : ∀ (q : Nat) (c : List AV) (T : TypeId) (s : ASt), q ≠ key → s.blks key = none → (s.set q c T).blks key = none := fun q c T s hq h => by simp only [ASt.set, beq_ne (Ne.symm hq), cond_false]; exact h
  unfold stepX
  split
  · cases e with
    | val x => simp only [split_eq]; exact h _ (hp _ _ _ hn)
    | alloc c T =>
      dsimp only
      split
      · exact h _ (hp _ _ _ (hs _ _ _ _ (Ne.symm hne) hn))
      · rfl
    | stb q c T => exact h _ (hp _ _ _ (hs _ _ _ _ (hst q c T rfl) hn))
    | chk c x => simp only [split_eq]; rw [h _ (hp _ _ _ hn)]
    | ld q ls row =>
      dsimp only
      congr 1
      funext x
      split
      · exact h _ (hp _ _ _ hn)
      · simp only [split_eq]; exact h _ (hp _ _ _ hn)
    | sto q xs =>
      dsimp only
      split
      · rw [h _ (hp _ _ _ hn)]
      · rfl
    | call f args t =>
      dsimp only
      split
      · rename_i sh ls ex hsh hex
        have hbk : ∀ (ex : Out) (cs : List (List AV)) (s : ASt), (∀ x ∈ ex, x.1 ≠ key) → s.blks key = none → (backS s ex cs).blks key = none := by
          intro ex
          induction ex with
          | nil => intro cs s _ h; exact h
          | cons x r ih =>
            obtain ⟨q, c, T⟩ := x
            intro cs s hx h
            cases cs with
            | nil => exact h
            | cons d cs => exact ih cs _ (fun y hy => hx y (by simp [hy])) (hs _ _ _ _ (hx (q, c, T) (by simp)) h)
        split
        · congr 1
          funext x
          simp only [split_eq]
          exact h _ (hp _ _ _ (hbk ex _ s (fun y hy e => by have := exOf_mem hex y hy; rw [e, hn] at this; cases this) hn))
        · rfl
      · rfl
    | die x => rfl
    | sem g t =>
      dsimp only
      split
      · congr 1
        funext x
        simp only [split_eq]
        exact h _ (hp _ _ _ hn)
      · rfl
    | bad why => rfl
  · rfl
theorem effD_set1 {o : Oper} {i key : Nat} {c : List AV} {T : TypeId} (hn : s.blks key = none) (hk1 : kindAt P ops i = 1) (hkey : key ∈ banned P base ops ord i) (h : ¬ ∃ why, effD P base ops ord i o s = .bad why) :
    effD P base ops ord i o (s.set key c T) = effD P base ops ord i o s := by
  have hev : (s.set key c T).ev = s.ev := by funext x; cases x <;> rfl
  have hw : wantX ops o (s.set key c T) = wantX ops o s := rfl
  unfold effD at h ⊢
  rw [hw]
  split
  · rename_i hb
    rw [hb] at h
    dsimp only at h
    obtain ⟨g1, g2⟩ := guardE_no hkey h
    have g3 : key ∉ usedOp s o := fun hx => g1 (List.mem_append_left _ hx)
    have hblk : ∀ j, j ≠ key → (s.set key c T).blks j = s.blks j := fun j hj => by simp [ASt.set, beq_ne hj]
    have hcore : core P (s.set key c T).ev (s.set key c T).blks o = core P s.ev s.blks o := by
      rw [hev]
      refine core_blks (fun t a ho k off hk => hblk k (fun e => g3 ?_)) (fun t a x ho k off hk => hblk k (fun e => g3 ?_))
      · simp only [usedOp, ho, hk, e, List.mem_singleton]
      · simp only [usedOp, ho, hk, e, List.mem_singleton]
    have hO : usedOp (s.set key c T) o = usedOp s o := usedOp_congr (fun x _ => by rw [hev])
    rw [hcore, hO]
    have hF : filt P ops ord i (s.set key c T) (core P s.ev s.blks o) = filt P ops ord i s (core P s.ev s.blks o) := by rw [filt_1 hk1, filt_1 hk1]
    rw [hF]
    have hU : ∀ s' : ASt, usedE s' (filt P ops ord i s (core P s.ev s.blks o)) = [] := by
      intro s'
      rw [filt_1 hk1]
      cases core P s.ev s.blks o with
      | ld q ls row => simp only [filt1]; split <;> rfl
      | _ => rfl
    rw [hU, hU]
  · rfl
  · rfl
theorem effD_kind3 {o : Oper} {i : Nat} (hk : kindAt P ops i = 3) : (∃ c T, effD P base ops ord i o s = .alloc c T) ∨ effD P base ops ord i o s = .val (.v undef) ∨ ∃ why, effD P base ops ord i o s = .bad why := by
  unfold effD
  split
  · rcases guardE_or (usedOp s o ++ usedE s (filt P ops ord i s (core P s.ev s.blks o))) (banned P base ops ord i) (filt P ops ord i s (core P s.ev s.blks o)) with e | e
    · rw [e, filt_3 hk]
      cases core P s.ev s.blks o with
      | alloc c T => exact Or.inl ⟨c, T, rfl⟩
      | _ => exact Or.inr (Or.inr ⟨_, rfl⟩)
    · rw [e]; exact Or.inr (Or.inr ⟨_, rfl⟩)
  · exact Or.inr (Or.inl rfl)
  · exact Or.inr (Or.inr ⟨_, rfl⟩)
/-! ### A store beside loads. -/
theorem gate_light {D : List Nat} {i : Nat} (h : kindAt P ops i = 0 ∨ kindAt P ops i = 1 ∨ kindAt P ops i = 3) : gate P ops D i s = true := by
  unfold gate
  cases ho : ops[i]? with
  | none => rfl
  | some o =>
    unfold kindAt at h
    rw [ho] at h
    dsimp only at h ⊢
    cases hop : o.op with
    | store t a x => unfold kindOf at h; rw [hop] at h; simp at h
    | _ => rfl
theorem gate_sub {D : List Nat} {m i : Nat} (h : gate P ops (m :: D) i s = true) : gate P ops D i s = true := by
  unfold gate at h ⊢
  split
  · rename_i o ho
    rw [ho] at h
    dsimp only at h
    split
    · rename_i t a x hop
      rw [hop] at h
      simp only [List.all_cons, Bool.and_eq_true] at h
      exact h.2
    · rfl
  · rfl
theorem notTmp_ev {a : Operand} {d : Option Nat} {s1 : ASt} (hs : Stays d s s1) (h : notTmp a d = true) : s1.ev a = s.ev a := by
  cases a with
  | tmp t =>
    refine hs t (fun e => ?_)
    cases d with
    | none => cases e
    | some d =>
      cases e
      simp [notTmp] at h
  | _ => rfl
theorem offs_stays {om oi : Oper} {d : Option Nat} {s1 : ASt} (hs : Stays d s s1) (h : ∀ e, d = some e → e ∉ oi.looksAt ops) (hn : ∀ t a, om.op = .load t a → notTmp a d = true ∨ notTmp a om.dst = false) : offsApart P s1 om oi = offsApart P s om oi := by
  unfold offsApart
  split
  · rename_i t a hop
    rcases hn t a hop with h1 | h1
    · rw [notTmp_ev hs h1]
      have hev := stays_ev hs h
      cases ho : oi.op with
      | store t' a' x =>
        dsimp only
        rw [hev a' (by simp [ho, Op.operands]), hev x (by simp [ho, Op.operands])]
      | _ => rfl
    · rw [h1]; rfl
  · rfl
theorem gate_stays {D : List Nat} {m i : Nat} {om oi : Oper} {s1 : ASt} (hom : ops[m]? = some om) (hoi : ops[i]? = some oi) (hs : Stays om.dst s s1) (p1 : ∀ e, om.dst = some e → e ∉ oi.looksAt ops) (hcl : ∀ d ∈ D, noClob ops d m = true) : gate P ops (m :: D) i s1 = gate P ops (m :: D) i s := by
  unfold gate
  rw [hoi]
  dsimp only
  split
  · rw [Bool.eq_iff_iff, List.all_eq_true, List.all_eq_true]
    have key : ∀ d ∈ m :: D, ∀ od, ops[d]? = some od → offsApart P s1 od oi = offsApart P s od oi := by
      intro d hd od hod
      · refine offs_stays hs p1 (fun t a hop => ?_)
        rcases List.mem_cons.1 hd with rfl | hd
        · rw [hom] at hod
          cases hod
          cases notTmp a om.dst
          · exact Or.inr rfl
          · exact Or.inl rfl
        · have := hcl d hd
          unfold noClob at this
          rw [hod, hom] at this
          dsimp only at this
          rw [hop] at this
          simp only [Bool.and_eq_true] at this
          exact Or.inl this.1
    constructor
    · intro h d hd
      have h' := h d hd
      revert h'
      cases hod : ops[d]? with
      | none => exact id
      | some od => dsimp only; rw [key d hd od hod]; exact id
    · intro h d hd
      have h' := h d hd
      revert h'
      cases hod : ops[d]? with
      | none => exact id
      | some od => dsimp only; rw [key d hd od hod]; exact id
  · rfl
theorem step_bad {o : Oper} {kx : Nat} {e : Eff} {k : ASt → XT} (he : lightE e = true ∨ ∃ c T, e = .alloc c T) (hk : ∀ s1, Stays o.dst s s1 → ∃ why, k s1 = .bad why) (h : (stepX P N kx o s e k).ok P pin R J Lu wu) : False := by
  have hk' : ∀ s1 Lu wu, Stays o.dst s s1 → (k s1).ok P pin R J Lu wu → False := fun s1 Lu wu h1 h2 => by
    obtain ⟨why, e⟩ := hk s1 h1
    rw [e] at h2
    exact h2.elim
  have hset : ∀ (c : List AV) (T : TypeId) (q : Nat) (v : AV), Stays o.dst s ((s.set q c T).put o.dst v) := fun c T q v j hj => by
    rw [Stays.put (s := s.set q c T) o.dst v j hj]; rfl
  unfold stepX at h
  split at h
  · cases e with
    | val x => simp only [split_eq] at h; exact hk' _ _ _ (Stays.put _ _) h
    | alloc c T =>
      dsimp only at h
      split at h
      · exact hk' _ _ _ (hset _ _ _ _) h
      · exact h.elim
    | chk c x => simp only [split_eq] at h; exact hk' _ _ _ (Stays.put _ _) h.2
    | ld q ls row =>
      obtain ⟨ad, x, _, _, _, _, _, h⟩ := h
      dsimp only at h
      split at h
      · exact hk' _ _ _ (Stays.put _ _) h
      · simp only [split_eq] at h; exact hk' _ _ _ (Stays.put _ _) h
    | bad why => exact h.elim
    | stb a c T => rcases he with he | ⟨_, _, he⟩ <;> cases he
    | sto a xs => rcases he with he | ⟨_, _, he⟩ <;> cases he
    | call f args t => rcases he with he | ⟨_, _, he⟩ <;> cases he
    | die x => rcases he with he | ⟨_, _, he⟩ <;> cases he
    | sem g t => rcases he with he | ⟨_, _, he⟩ <;> cases he
  · exact h.elim
theorem seg_get {c0 v : List AV} {o : Nat} (h : o + v.length ≤ c0.length) (j : Nat) (hj : j < o ∨ o + v.length ≤ j) : (c0.take o ++ v ++ c0.drop (o + v.length))[j]? = c0[j]? := by
  have ht : (c0.take o).length = o := by simp; omega
  rcases hj with hj | hj
  · rw [List.append_assoc, List.getElem?_append_left (by omega), List.getElem?_take, if_pos hj]
  · rw [List.getElem?_append_right (by rw [List.length_append]; omega), List.getElem?_drop, List.length_append, ht]
    congr 1; omega
theorem seg_length {c0 v : List AV} {o : Nat} (h : o + v.length ≤ c0.length) : (c0.take o ++ v ++ c0.drop (o + v.length)).length = c0.length := by
  simp only [List.length_append, List.length_take, List.length_drop]; omega
theorem kind1_load {m : Nat} {om : Oper} (hom : ops[m]? = some om) (hk : kindAt P ops m = 1) : ∃ t a, om.op = .load t a := by
  unfold kindAt at hk
  rw [hom] at hk
  dsimp only at hk
  unfold kindOf at hk
  split at hk
  all_goals first
    | (exact ⟨_, _, by assumption⟩)
    | (exfalso; revert hk; repeat' split
       all_goals (intro hk; cases hk))
theorem effD_stb1 {m : Nat} {om oi : Oper} {q : Nat} {c : List AV} {T t' : TypeId} {a' x' : Operand} (hom : ops[m]? = some om) (hk1 : kindAt P ops m = 1) (hap : offsApart P s om oi = true) (hst : oi.op = .store t' a' x') (hc : core P s.ev s.blks oi = .stb q c T) :
    effD P base ops ord m om (s.set q c T) = effD P base ops ord m om s := by
  obtain ⟨t, a, hld⟩ := kind1_load hom hk1
  have hev : (s.set q c T).ev = s.ev := by funext x; cases x <;> rfl
  have hw : wantX ops om (s.set q c T) = wantX ops om s := rfl
  have hcore : core P s.ev (s.set q c T).blks om = core P s.ev s.blks om := by
    unfold offsApart at hap
    rw [hld, hst] at hap
    dsimp only at hap
    simp only [core, hst] at hc
    simp only [core, hld]
    split at hap
    case h_4 => simp at hap
    case h_3 =>
      exfalso
      repeat' split at hc
      all_goals first | (cases hc; done) | simp_all
    case h_2 =>
      rename_i y k' off' v e1 e2 e3
      rw [e1]
      cases y <;> rfl
    rename_i k off k' off' v e1 e2 e3
    rw [e2, e3] at hc
    dsimp only at hc
    split at hc
    case h_2 => cases hc
    rename_i c0 T0 hb
    split at hc
    case isFalse => cases hc
    rename_i hsz
    simp only [Bool.and_eq_true, decide_eq_true_eq] at hsz
    injection hc with q1 q2 q3
    subst q1 q2 q3
    rw [e1]
    dsimp only
    by_cases hkk : k = k'
    · subst hkk
      have e4 : (s.set k (c0.take off' ++ v.cells ++ c0.drop (off' + v.cells.length)) T0).blks k = some (c0.take off' ++ v.cells ++ c0.drop (off' + v.cells.length), T0) := by simp [ASt.set]
      rw [e4, hb]
      dsimp only
      simp only [Bool.and_eq_true, Bool.or_eq_true] at hap
      have hap : off + cellsAt P t ≤ off' ∨ off' + v.cells.length ≤ off := by
        rcases hap.2 with (h | h) | h
        · simp at h
        · exact Or.inl (Nat.le_of_ble_eq_true h)
        · exact Or.inr (Nat.le_of_ble_eq_true h)
      have hle : off' + v.cells.length ≤ c0.length := hsz.1.2
      cases hu : P.underlying t with
      | none => rfl
      | some d =>
        dsimp only
        have hcell : cellsAt P t = if d.isRow then P.cellsOf t else 1 := by unfold cellsAt; rw [hu]
        rw [hcell] at hap
        split
        · rename_i hr
          rw [if_pos hr] at hap
          rw [seg_length hle]
          have e5 : (((c0.take off' ++ v.cells ++ c0.drop (off' + v.cells.length)).drop off).take (P.cellsOf t)) = ((c0.drop off).take (P.cellsOf t)) := by
            apply List.ext_getElem?
            intro j
            rw [List.getElem?_take, List.getElem?_take]
            split
            · rw [List.getElem?_drop, List.getElem?_drop]
              exact seg_get hle _ (by omega)
            · rfl
          rw [e5]
        · rename_i hr
          rw [if_neg hr] at hap
          rw [seg_get hle _ (by omega)]
    · have e4 : ∀ c, (s.set k' c T0).blks k = s.blks k := fun c => by simp [ASt.set, beq_ne hkk]
      rw [e4]
  unfold effD
  rw [hw, hev, hcore]
  have hO : usedOp (s.set q c T) om = usedOp s om := usedOp_congr (fun x _ => by rw [hev])
  rw [hO, filt_1 hk1, filt_1 hk1]
  have hU : ∀ s' : ASt, usedE s' (filt1 (loose P ops ord 2 m) (core P s.ev s.blks om)) = [] := by
    intro s'
    cases core P s.ev s.blks om with
    | ld q ls row => simp only [filt1]; split <;> rfl
    | _ => rfl
  rw [hU, hU]
theorem effD_stb {o : Oper} {i q : Nat} {c : List AV} {T : TypeId} (h : effD P base ops ord i o s = .stb q c T) : core P s.ev s.blks o = .stb q c T ∧ ∃ t a x, o.op = .store t a x := by
  have hc : core P s.ev s.blks o = .stb q c T := by
    unfold effD at h
    split at h
    · rcases guardE_or (usedOp s o ++ usedE s (filt P ops ord i s (core P s.ev s.blks o))) (banned P base ops ord i) (filt P ops ord i s (core P s.ev s.blks o)) with e | e
      · rw [e] at h
        rcases filt_or (P := P) (ops := ops) (ord := ord) (s := s) i (core P s.ev s.blks o) with e | ⟨why, e⟩
        · rw [← e]; exact h
        · rw [e] at h; cases h
      · rw [e] at h; cases h
    · cases h
    · cases h
  refine ⟨hc, ?_⟩
  cases ho : o.op with
  | store t a x => exact ⟨t, a, x, rfl⟩
  | _ => exact (core_stb (by simp [ho]) hc).elim
theorem swap {D : List Nat} {m i : Nat} {k : ASt → XT} (hcl : ∀ d ∈ D, noClob ops d m = true) (hind : indep P ops m i = true) (h2 : reach ops ops.size i m = false) (h3 : reach ops ops.size m i = false) (hm : m ∈ ord) (hi : i ∈ ord) (hne : m ≠ i)
    (h : (opD P N base ops ord D m s (fun s1 => opD P N base ops ord (m :: D) i s1 k)).ok P pin R J Lu wu) : (opD P N base ops ord D i s (fun s1 => opD P N base ops ord D m s1 k)).ok P pin R J Lu wu := by
  unfold indep apartAt at hind
  cases hom : ops[m]? with
  | none => rw [hom] at hind; simp at hind
  | some om =>
  cases hoi : ops[i]? with
  | none => rw [hom, hoi] at hind; simp at hind
  | some oi =>
  rw [hom, hoi] at hind
  simp only [Bool.and_eq_true, Bool.or_eq_true] at hind
  obtain ⟨hap, hkm⟩ := hind
  have hkm : kindAt P ops m = 0 ∨ kindAt P ops m = 1 ∨ kindAt P ops m = 3 := by
    rcases hkm with (h | h) | h
    · exact Or.inl (Nat.eq_of_beq_eq_true h)
    · exact Or.inr (Or.inl (Nat.eq_of_beq_eq_true h))
    · exact Or.inr (Or.inr (Nat.eq_of_beq_eq_true h))
  obtain ⟨p1, p2, p3⟩ := Oper.apart_spec hap
  have hturn : ∀ s : ASt, turns (effD P base ops ord m om s) = false := fun s => by
    rcases hkm with hk | hk | hk
    · have := effD_light (base := base) (ord := ord) (s := s) (o := om) (Or.inl hk)
      revert this; cases effD P base ops ord m om s <;> simp [lightE, turns]
    · have := effD_light (base := base) (ord := ord) (s := s) (o := om) (Or.inr hk)
      revert this; cases effD P base ops ord m om s <;> simp [lightE, turns]
    · rcases effD_kind3 (base := base) (ord := ord) (o := om) (s := s) hk with ⟨c, T, hc⟩ | hv | ⟨why, hw⟩
      · rw [hc]; rfl
      · rw [hv]; rfl
      · rw [hw]; rfl
  have e1 : ∀ (s : ASt) (k : ASt → XT), opD P N base ops ord D m s k = stepX P N (base + m) om s (effD P base ops ord m om s) k := fun s k => by unfold opD; rw [hom]; dsimp only; rw [if_pos (gate_light hkm), keepsE_off (hturn s)]
  have hput : ∀ v, effD P base ops ord i oi (s.put om.dst v) = effD P base ops ord i oi s := fun v => effD_put p1 v
  rw [e1] at h
  by_cases hd : dstOk N om.dst = true
  case neg => unfold stepX at h; rw [if_neg hd] at h; exact h.elim
  by_cases hbad : ∃ why, effD P base ops ord m om s = .bad why
  · obtain ⟨why, hbad⟩ := hbad
    rw [hbad] at h
    unfold stepX at h
    rw [if_pos hd] at h
    exact h.elim
  have hshape : lightE (effD P base ops ord m om s) = true ∨ (kindAt P ops m = 3 ∧ ∃ c T, effD P base ops ord m om s = .alloc c T) := by
    rcases hkm with hk | hk | hk
    · exact Or.inl (effD_light (Or.inl hk))
    · exact Or.inl (effD_light (Or.inr hk))
    · rcases effD_kind3 (base := base) (ord := ord) (o := om) (s := s) hk with hc | hv | hw
      · exact Or.inr ⟨hk, hc⟩
      · rw [hv]; exact Or.inl rfl
      · exact absurd hw hbad
  have hgs : ∀ s1, Stays om.dst s s1 → gate P ops (m :: D) i s1 = gate P ops (m :: D) i s := fun s1 hs => gate_stays hom hoi hs p1 hcl
  by_cases hg : gate P ops (m :: D) i s = true
  case neg =>
    refine (step_bad (hshape.imp id (fun h => h.2)) (fun s1 hs => ?_) h).elim
    unfold opD
    rw [hoi]
    dsimp only
    rw [if_neg (by rw [hgs s1 hs]; exact hg)]
    exact ⟨_, rfl⟩
  have e2 : ∀ (s1 : ASt) (k : ASt → XT), Stays om.dst s s1 → opD P N base ops ord (m :: D) i s1 k = stepX P N (base + i) oi s1 (effD P base ops ord i oi s1) (keepsE P ops i (m :: D) (effD P base ops ord i oi s1) k) := fun s1 k hs => by unfold opD; rw [hoi]; dsimp only; rw [if_pos (by rw [hgs s1 hs]; exact hg)]
  have e2' : ∀ (k : ASt → XT), opD P N base ops ord D i s k = stepX P N (base + i) oi s (effD P base ops ord i oi s) (keepsE P ops i D (effD P base ops ord i oi s) k) := fun k => by unfold opD; rw [hoi]; dsimp only; rw [if_pos (gate_sub hg)]
  -- behind i, m does what it does ahead of it
  have hR : opD P N base ops ord D i s (fun s1 => opD P N base ops ord D m s1 k) = stepX P N (base + i) oi s (effD P base ops ord i oi s) (keepsE P ops i D (effD P base ops ord i oi s) (fun s1 => stepX P N (base + m) om s1 (effD P base ops ord m om s) k)) := by
    rw [e2']
    have wrapK : ∀ s1 : ASt, opD P N base ops ord D m s1 k = stepX P N (base + m) om s1 (effD P base ops ord m om s) k → keepsE P ops i D (effD P base ops ord i oi s) (fun s1 => opD P N base ops ord D m s1 k) s1 = keepsE P ops i D (effD P base ops ord i oi s) (fun s1 => stepX P N (base + m) om s1 (effD P base ops ord m om s) k) s1 := fun s1 he => by
      unfold keepsE
      split
      · dsimp only; rw [he]
      · exact he
    by_cases hk1 : kindAt P ops m = 1
    · by_cases g3 : kindAt P ops i = 3
      · rcases effD_kind3 (base := base) (ord := ord) (o := oi) (s := s) g3 with ⟨c, T, hc⟩ | hv | ⟨why, hw⟩
        · rw [hc, keepsE_off rfl, keepsE_off rfl]
          have ea : ∀ K : ASt → XT, stepX P N (base + i) oi s (.alloc c T) K = (if dstOk N oi.dst = true then (match s.blks (base + i) with | none => K ((s.set (base + i) c T).put oi.dst (.p (base + i) 0)) | some _ => .bad "alloc: the key is taken") else .bad "slot") := fun K => rfl
          rw [ea, ea]
          split
          · split
            · rename_i hn
              rw [e1, effD_put (fun e he => p3 e he), effD_set1 hn hk1 (banned_mem hi (Ne.symm hne) g3 h3) hbad]
            · rfl
          · rfl
        · rw [hv, keepsE_off rfl, keepsE_off rfl]
          have ev : ∀ K : ASt → XT, stepX P N (base + i) oi s (.val (.v undef)) K = (if dstOk N oi.dst = true then K (s.put oi.dst (.v undef)) else .bad "slot") := fun K => by unfold stepX; simp only [split_eq]
          rw [ev, ev]
          split
          · rw [e1, effD_put (fun e he => p3 e he)]
          · rfl
        · rw [hw]
          rfl
      · have hblk : (∀ c T, effD P base ops ord i oi s ≠ .alloc c T) ∧ (∀ f args t, effD P base ops ord i oi s = .call f args t → exOf s args = some []) := by
          by_cases g0 : kindAt P ops i = 0 ∨ kindAt P ops i = 1
          · have := effD_light (base := base) (ord := ord) (s := s) (o := oi) g0
            refine ⟨fun c T he => ?_, fun f args t he => ?_⟩ <;> rw [he] at this <;> cases this
          · exact effD_keeps (fun h => g0 (Or.inl h)) (fun h => g0 (Or.inr h)) g3 (loose_of hm hne hk1 h2 h3)
        by_cases hsb : ∃ q c T, effD P base ops ord i oi s = .stb q c T
        · obtain ⟨q, c, T, hsb⟩ := hsb
          obtain ⟨hc, t', a', x', hst⟩ := effD_stb hsb
          have hap' : offsApart P s om oi = true := by
            unfold gate at hg
            rw [hoi] at hg
            dsimp only at hg
            rw [hst] at hg
            dsimp only at hg
            rw [List.all_eq_true] at hg
            have := hg m (by simp)
            rw [h2, hom] at this
            simpa using this
          rw [hsb, keepsE_off rfl, keepsE_off rfl]
          have ea : ∀ K : ASt → XT, stepX P N (base + i) oi s (.stb q c T) K = (if dstOk N oi.dst = true then K ((s.set q c T).put oi.dst (.v undef)) else .bad "slot") := fun K => rfl
          rw [ea, ea]
          split
          · rw [e1, effD_put (fun e he => p3 e he), effD_stb1 hom hk1 hap' hst hc]
          · rfl
        · refine step_congr (fun s1 hs hb => wrapK s1 ?_)
          rw [e1]
          congr 1
          exact effD_stays hom hs p3 (Or.inr (Or.inr ⟨hk1, hb hblk.1 (fun q c T he => hsb ⟨q, c, T, he⟩) hblk.2⟩))
    · refine step_congr (fun s1 hs hb => wrapK s1 ?_)
      rw [e1]
      congr 1
      refine effD_stays hom hs p3 ?_
      rcases hkm with hk | hk | hk
      · exact Or.inl hk
      · exact absurd hk hk1
      · exact Or.inr (Or.inl hk)
  rw [hR]
  have hstep : ∀ v, stepX P N (base + i) oi (s.put om.dst v) (effD P base ops ord i oi (s.put om.dst v)) (keepsE P ops i (m :: D) (effD P base ops ord i oi (s.put om.dst v)) k) = stepX P N (base + i) oi s (effD P base ops ord i oi s) (fun s1 => keepsE P ops i (m :: D) (effD P base ops ord i oi s) k (s1.put om.dst v)) := fun v => by rw [hput, step_put p2]
  have hput' : ∀ v, Stays om.dst s (s.put om.dst v) := fun v => Stays.put _ _
  have hkk : ∀ (v : AV) (s1 : ASt) (Lu : Nat → Prop) (wu : World), (keepsE P ops i (m :: D) (effD P base ops ord i oi s) k (s1.put om.dst v)).ok P pin R J Lu wu → (keepsE P ops i D (effD P base ops ord i oi s) (fun s1 => k (s1.put om.dst v)) s1).ok P pin R J Lu wu := fun v s1 Lu wu hk => by
    unfold keepsE at hk ⊢
    split
    · rename_i ht
      rw [if_pos ht] at hk
      rw [keeps_iff] at hk ⊢
      exact ⟨fun d hd => kept_put hom (hcl d hd) v (hk.1 d (List.mem_cons_of_mem _ hd)), hk.2⟩
    · rename_i ht
      rw [if_neg ht] at hk
      exact hk
  generalize hem : effD P base ops ord m om s = em at h hshape hbad ⊢
  cases em with
  | val v =>
    have e3 : ∀ (s : ASt) (k : ASt → XT), stepX P N (base + m) om s (.val v) k = k (s.put om.dst v) := fun s k => by unfold stepX; rw [if_pos hd]; simp only [split_eq]
    rw [e3, e2 _ _ (hput' _), hstep] at h
    simp only [e3]
    exact step_mono (hkk v) h
  | chk c v =>
    have e3 : ∀ (s : ASt) (k : ASt → XT), stepX P N (base + m) om s (.chk c v) k = .need c (k (s.put om.dst v)) := fun s k => by unfold stepX; rw [if_pos hd]; simp only [split_eq]
    rw [e3] at h
    obtain ⟨hc, h⟩ := h
    rw [e2 _ _ (hput' _), hstep] at h
    simp only [e3]
    exact step_mono (fun s1 Lu wu hk => keepsE_mono (fun hk => ⟨hc, hk⟩) (hkk v s1 Lu wu hk)) h
  | alloc c T =>
    have hk3 : kindAt P ops m = 3 := by
      rcases hshape with hl | ⟨hk, _⟩
      · cases hl
      · exact hk
    have e3 : ∀ (s : ASt) (k : ASt → XT), s.blks (base + m) = none → stepX P N (base + m) om s (.alloc c T) k = k ((s.set (base + m) c T).put om.dst (.p (base + m) 0)) := fun s k hn => by unfold stepX; rw [if_pos hd]; dsimp only; rw [hn]
    have hn : s.blks (base + m) = none := by
      cases hb : s.blks (base + m) with
      | none => rfl
      | some cT =>
        unfold stepX at h
        rw [if_pos hd] at h
        dsimp only at h
        rw [hb] at h
        exact h.elim
    rw [e3 s _ hn, e2 _ _ (fun j hj => by rw [Stays.put (s := s.set (base + m) c T) om.dst _ j hj]; rfl)] at h
    rw [effD_put p1, step_put p2] at h
    by_cases hbi : ∃ why, effD P base ops ord i oi (s.set (base + m) c T) = .bad why
    · obtain ⟨why, hbi⟩ := hbi
      rw [hbi] at h
      unfold stepX at h
      split at h <;> exact h.elim
    obtain ⟨g1, g2, g3⟩ := effD_set hn (banned_mem hm hne hk3 h2) hbi
    have hneq : base + m ≠ base + i := by omega
    rw [step_set hn hneq g2 g3] at h
    rw [g1] at h g3
    rw [step_none (k' := keepsE P ops i D (effD P base ops ord i oi s) (fun s1 => k ((s1.set (base + m) c T).put om.dst (.p (base + m) 0)))) hn hneq g3 (fun s1 hs1 => by
      unfold keepsE
      split
      · dsimp only; rw [e3 s1 k hs1]
      · exact e3 s1 k hs1)]
    refine step_mono (fun s1 Lu wu hk => ?_) h
    have := hkk _ _ Lu wu hk
    unfold keepsE at this ⊢
    split
    · rename_i ht
      rw [if_pos ht] at this
      rw [keeps_iff] at this ⊢
      exact ⟨fun d hd => kept_set (this.1 d hd), this.2⟩
    · rename_i ht
      rw [if_neg ht] at this
      exact this
  | ld q ls row =>
    have hk1 : kindAt P ops m = 1 := by
      rcases hkm with hk | hk | hk
      · exact absurd hem (effD_kind0 hk)
      · exact hk
      · rcases effD_kind3 (base := base) (ord := ord) (o := om) (s := s) hk with ⟨c, T, hc⟩ | hv | ⟨why, hw⟩
        · rw [hc] at hem; cases hem
        · rw [hv] at hem; cases hem
        · rw [hw] at hem; cases hem
    obtain ⟨tt, aa, hop⟩ := kind1_load hom hk1
    obtain ⟨hev, hrow⟩ := core_ld hop (effD_core hem (fun why h => by cases h) (fun h => by cases h))
    obtain ⟨v, hv, e3⟩ : ∃ v : Tup ls → AV, (∀ x, v x = if row then .agg (vs ls x) else (vs ls x).headD (.v undef)) ∧ ∀ (s : ASt) (k : ASt → XT), stepX P N (base + m) om s (.ld q ls row) k = .ld q ls (fun x => k (s.put om.dst (v x))) := by
      refine ⟨fun x => if row then .agg (vs ls x) else (vs ls x).headD (.v undef), fun x => rfl, fun s k => ?_⟩
      unfold stepX
      rw [if_pos hd]
      dsimp only
      congr 1
      funext x
      split
      · rfl
      · simp only [split_eq]
    rw [e3] at h
    obtain ⟨ad, x, f1, f2, f3, f4, f5, h⟩ := h
    dsimp only at h
    rw [e2 _ _ (hput' _), hstep] at h
    simp only [e3]
    refine step_mono2 (fun s1 L w hs hlat hsame hk => ?_) h
    cases ht : turns (effD P base ops ord i oi s) with
    | false =>
      obtain ⟨rfl, rfl⟩ := hsame ht
      rw [keepsE_off ht] at hk ⊢
      exact ⟨ad, x, f1, f2, f3, f4, f5, hk⟩
    | true =>
      unfold keepsE at hk ⊢
      rw [if_pos ht] at hk ⊢
      rw [keeps_iff] at hk ⊢
      refine ⟨fun d hd => kept_put hom (hcl d hd) _ (hk.1 d (List.mem_cons_of_mem _ hd)), ad, x, f1, f2, Nat.lt_of_lt_of_le f3 hlat.1, hlat.2 _ f3 f4, ?_, hk.2⟩
      have hkm := hk.1 m (by simp)
      rw [hv x] at hkm
      exact kept_ld hom hop hk1 h2 (by rw [stays_ev hs p3 aa (by simp [hop, Op.operands])]; exact hev) hrow hkm ad f1
  | bad why => exact absurd ⟨why, rfl⟩ hbad
  | stb a c T => rcases hshape with hl | ⟨_, _, _, hl⟩ <;> cases hl
  | sto a xs => rcases hshape with hl | ⟨_, _, _, hl⟩ <;> cases hl
  | call f args t => rcases hshape with hl | ⟨_, _, _, hl⟩ <;> cases hl
  | die x => rcases hshape with hl | ⟨_, _, _, hl⟩ <;> cases hl
  | sem g t => rcases hshape with hl | ⟨_, _, _, hl⟩ <;> cases hl
theorem opD_mono {D : List Nat} {i : Nat} {k k' : ASt → XT} (h : ∀ s1 Lu wu, (k s1).ok P pin R J Lu wu → (k' s1).ok P pin R J Lu wu) (hk : (opD P N base ops ord D i s k).ok P pin R J Lu wu) : (opD P N base ops ord D i s k').ok P pin R J Lu wu := by
  unfold opD at hk ⊢
  split
  · rename_i hn; rw [hn] at hk; exact hk.elim
  · rename_i o ho
    rw [ho] at hk
    dsimp only at hk
    split
    · rename_i hg; rw [if_pos hg] at hk; exact step_mono (fun s1 Lu wu => keepsE_mono (h s1 Lu wu)) hk
    · rename_i hg; rw [if_neg hg] at hk; exact hk.elim
theorem gate_subset {D D' : List Nat} {i : Nat} (hs : ∀ d ∈ D', d ∈ D) (h : gate P ops D i s = true) : gate P ops D' i s = true := by
  unfold gate at h ⊢
  split
  · rename_i o ho
    rw [ho] at h
    dsimp only at h
    split
    · rename_i t a x hop
      rw [hop] at h
      dsimp only at h
      rw [List.all_eq_true] at h ⊢
      exact fun d hd => h d (hs d hd)
    · rfl
  · rfl
theorem run_subset {k : ASt → XT} : ∀ (is D D' : List Nat) (s : ASt) (Lu : Nat → Prop) (wu : World), (∀ d ∈ D', d ∈ D) → (runD P N base ops ord D is s k).ok P pin R J Lu wu → (runD P N base ops ord D' is s k).ok P pin R J Lu wu
  | [], D, D', s, Lu, wu, hs, h => h
  | i :: r, D, D', s, Lu, wu, hs, h => by
    simp only [runD] at h ⊢
    unfold opD at h ⊢
    split
    · rename_i hn; rw [hn] at h; exact h.elim
    · rename_i o ho
      rw [ho] at h
      dsimp only at h
      split at h
      · rename_i hg
        rw [if_pos (gate_subset hs hg)]
        refine step_mono (fun s1 Lu wu hk => ?_) h
        have key : ∀ Lu wu, (runD P N base ops ord (i :: D) r s1 k).ok P pin R J Lu wu → (runD P N base ops ord (i :: D') r s1 k).ok P pin R J Lu wu := fun Lu wu hk => run_subset r (i :: D) (i :: D') s1 Lu wu (fun d hd => by
          rcases List.mem_cons.1 hd with rfl | hd
          · exact List.mem_cons_self
          · exact List.mem_cons_of_mem _ (hs d hd)) hk
        unfold keepsE at hk ⊢
        split
        · rename_i ht
          rw [if_pos ht] at hk
          rw [keeps_iff] at hk ⊢
          exact ⟨fun d hd => hk.1 d (hs d hd), key _ _ hk.2⟩
        · rename_i ht
          rw [if_neg ht] at hk
          exact key _ _ hk
      · exact h.elim
theorem bubble {i : Nat} {k : ASt → XT} {r2 : List Nat} (hi : i ∈ ord) : ∀ (r1 D : List Nat) (s : ASt) (Lu : Nat → Prop) (wu : World), (∀ m ∈ r1, m ∈ ord ∧ m ≠ i ∧ reach ops ops.size m i = false ∧ reach ops ops.size i m = false ∧ indep P ops m i = true) → (∀ d ∈ D, ∀ m ∈ r1, noClob ops d m = true) → r1.Pairwise (fun d m => noClob ops d m = true) →
    (runD P N base ops ord D (r1 ++ i :: r2) s k).ok P pin R J Lu wu → (opD P N base ops ord D i s fun s1 => runD P N base ops ord D (r1 ++ r2) s1 k).ok P pin R J Lu wu
  | [], D, s, Lu, wu, _, _, _, h => opD_mono (fun s1 Lu wu hk => run_subset r2 (i :: D) D s1 Lu wu (fun d hd => List.mem_cons_of_mem _ hd) hk) h
  | m :: r1, D, s, Lu, wu, hg, hc, hp, h => by
    obtain ⟨g1, g2, g3, g4, g5⟩ := hg m (by simp)
    rw [List.pairwise_cons] at hp
    have h' : (opD P N base ops ord D m s fun s1 => opD P N base ops ord (m :: D) i s1 fun s2 => runD P N base ops ord (m :: D) (r1 ++ r2) s2 k).ok P pin R J Lu wu :=
      opD_mono (fun s1 Lu wu hk => bubble hi r1 (m :: D) s1 Lu wu (fun m hm => hg m (by simp [hm])) (fun d hd x hx => by
        rcases List.mem_cons.1 hd with rfl | hd
        · exact hp.1 x hx
        · exact hc d hd x (by simp [hx])) hp.2 hk) h
    exact swap (fun d hd => hc d hd m (by simp)) g5 g4 g3 g1 hi g2 h'
theorem opD_ok (hP : PQ ds N R Q) {D : List Nat} {i : Nat} {k : ASt → XT} {a : Act} {w : World} (h : Inv ds P pin R N s (opD P N base ops ord D i s k) J a w) :
    wpOp P ops Q i (fun a' w' => ∃ s', Went (dsts ops) s s' ∧ Inv ds P pin R N s' (k s') J a' w') a w := by
  unfold opD at h
  unfold wpOp
  split at h
  · obtain ⟨_, _, _, _, hok, _⟩ := h; exact hok.elim
  · rename_i o ho
    simp only [ho]
    by_cases hgt : gate P ops D i s = true
    case neg =>
      rw [if_neg hgt] at h
      obtain ⟨_, _, _, _, hok, _⟩ := h; exact hok.elim
    rw [if_pos hgt] at h
    unfold effD at h
    split at h
    · rename_i hb
      have hw : Region.wanted o (yielded ops a.tmps) = true := by
        obtain ⟨ρ, L, Lu, wu, _, hrel, _⟩ := h
        exact want_ok hrel hb
      rw [hw]
      simp only [if_true]
      refine Or.inl ?_
      have hfe : guardE (usedOp s o ++ usedE s (filt P ops ord i s (core P s.ev s.blks o))) (banned P base ops ord i) (filt P ops ord i s (core P s.ev s.blks o)) = core P s.ev s.blks o ∨ ∃ why, guardE (usedOp s o ++ usedE s (filt P ops ord i s (core P s.ev s.blks o))) (banned P base ops ord i) (filt P ops ord i s (core P s.ev s.blks o)) = .bad why := by
        rcases guardE_or (usedOp s o ++ usedE s (filt P ops ord i s (core P s.ev s.blks o))) (banned P base ops ord i) (filt P ops ord i s (core P s.ev s.blks o)) with e | e
        · rw [e]; exact filt_or (P := P) (ops := ops) (ord := ord) (s := s) i (core P s.ev s.blks o)
        · exact Or.inr ⟨_, e⟩
      rcases hfe with e | ⟨why, e⟩
      · rw [e] at h
        exact Oper.wp_mono (fun a' w' ⟨s', h1, ρ, L, Lu, wu, h2, h3⟩ => ⟨s', goes_went ho h1, ρ, L, Lu, wu, keepsE_k h2, h3⟩) (step_ok hP h)
      · rw [e] at h
        obtain ⟨_, _, _, _, hok, _⟩ := h
        unfold stepX at hok
        split at hok <;> exact hok.elim
    · rename_i hb
      have hw : Region.wanted o (yielded ops a.tmps) = false := by
        obtain ⟨ρ, L, Lu, wu, _, hrel, _⟩ := h
        exact want_ok hrel hb
      rw [hw]
      simp only [Bool.false_eq_true, if_false]
      obtain ⟨ρ, L, Lu, wu, hok, hrel, hL, hext, hpin, hpd⟩ := h
      by_cases hd : dstOk N o.dst = true
      · unfold stepX at hok
        rw [if_pos hd] at hok
        simp only [split_eq] at hok
        exact ⟨_, goes_went ho ⟨Subst.put _ _, Stays.put _ _⟩, ρ, L, Lu, wu, hok, hrel.put o.dst (.v undef) rfl hd, by rw [put_D]; exact hL, hext, hpin, by rw [put_D]; exact hpd⟩
      · unfold stepX at hok; rw [if_neg hd] at hok; exact hok.elim
    · obtain ⟨_, _, _, _, hok, _⟩ := h
      unfold stepX at hok
      split at hok <;> exact hok.elim
def Closed (ops : Array Oper) (listed : Array Bool) : Prop := ∀ i, listed.getD i false = true → ∀ d ∈ preds ops i, listed.getD d false = true
theorem reach_listed {listed : Array Bool} (hc : Closed ops listed) : ∀ (n i m : Nat), (∀ d ∈ preds ops i, listed.getD d false = true) → reach ops n i m = true → listed.getD m false = true
  | 0, i, m, _, h => by cases h
  | n + 1, i, m, hi, h => by
    simp only [reach, List.any_eq_true, Bool.or_eq_true] at h
    obtain ⟨d, hd, h⟩ := h
    rcases h with h | h
    · rw [← Nat.eq_of_beq_eq_true h]; exact hi d hd
    · exact reach_listed hc n d m (hc d (hi d hd)) h
theorem ready_preds {i : Nat} {listed : Array Bool} (h : i ∈ Region.ready .any ops listed) : listed.getD i true = false ∧ ∀ d ∈ preds ops i, listed.getD d false = true := by
  rw [mem_ready] at h
  obtain ⟨h0, o, ho, hall⟩ := h
  refine ⟨h0, fun d hd => ?_⟩
  unfold preds at hd
  rw [ho] at hd
  simp only [List.mem_map, List.mem_filter] at hd
  obtain ⟨e, ⟨he1, he2⟩, rfl⟩ := hd
  exact hall e (by simpa using he1) he2
def Rest (P : Program) (ops : Array Oper) (ord : List Nat) (listed : Array Bool) (rem : List Nat) : Prop :=
  (∀ i ∈ rem, i ∈ ord ∧ i < ops.size ∧ listed.getD i true = false) ∧ (∀ i, i < ops.size → i ∉ rem → listed.getD i false = true) ∧ pairsOk P ops rem = true ∧ (∀ done : List Nat, (∀ d, listed.getD d false = true → d ∈ done) → predsOk ops done rem = true) ∧ listed.size = ops.size
theorem pairs_clob : ∀ (r : List Nat), pairsOk P ops r = true → r.Pairwise (fun d m => noClob ops d m = true)
  | [], _ => List.Pairwise.nil
  | m :: r, h => by
    simp only [pairsOk, Bool.and_eq_true, List.all_eq_true] at h
    exact List.Pairwise.cons (fun x hx => (h.1 x hx).1.2) (pairs_clob r h.2)
theorem pairs_split {i : Nat} {r2 : List Nat} : ∀ (r1 : List Nat), pairsOk P ops (r1 ++ i :: r2) = true → (∀ m ∈ r1, m ≠ i ∧ reach ops ops.size m i = false ∧ (reach ops ops.size i m = true ∨ indep P ops m i = true)) ∧ pairsOk P ops (r1 ++ r2) = true ∧ (∀ j ∈ r1 ++ r2, j ≠ i)
  | [], h => by
    simp only [List.nil_append, pairsOk, Bool.and_eq_true, List.all_eq_true] at h
    refine ⟨by simp, h.2, fun j hj e => ?_⟩
    have := (h.1 j (by simpa using hj)).1.1
    subst e; simp at this
  | m :: r1, h => by
    simp only [List.cons_append, pairsOk, Bool.and_eq_true, List.all_eq_true] at h
    obtain ⟨i1, i2, i3⟩ := pairs_split r1 h.2
    have hmi := h.1 i (by simp)
    have hne : m ≠ i := fun e => by have := hmi.1.1.1; subst e; simp at this
    refine ⟨?_, ?_, ?_⟩
    · intro x hx
      rcases List.mem_cons.1 hx with rfl | hx
      · exact ⟨hne, by simpa using hmi.1.1.2, by simpa using hmi.2⟩
      · exact i1 x hx
    · simp only [List.cons_append, pairsOk, Bool.and_eq_true, List.all_eq_true]
      refine ⟨fun x hx => h.1 x ?_, i2⟩
      simp only [List.mem_append, List.mem_cons] at hx ⊢
      rcases hx with hx | hx
      · exact Or.inl hx
      · exact Or.inr (Or.inr hx)
    · intro j hj
      simp only [List.cons_append, List.mem_cons] at hj
      rcases hj with rfl | hj
      · exact hne
      · exact i3 j hj
theorem preds_mono : ∀ (r : List Nat) (done done' : List Nat), (∀ d ∈ done, d ∈ done') → predsOk ops done r = true → predsOk ops done' r = true
  | [], _, _, _, _ => rfl
  | i :: r, done, done', hs, h => by
    simp only [predsOk, Bool.and_eq_true, List.all_eq_true] at h ⊢
    refine ⟨fun d hd => by have := h.1 d hd; simp only [List.contains_iff_mem] at this ⊢; exact hs d this, preds_mono r _ _ ?_ h.2⟩
    intro d hd
    rcases List.mem_cons.1 hd with rfl | hd
    · exact List.mem_cons_self
    · exact List.mem_cons_of_mem _ (hs d hd)
theorem preds_split {i : Nat} {r2 : List Nat} : ∀ (r1 done : List Nat), predsOk ops done (r1 ++ i :: r2) = true → predsOk ops (i :: done) (r1 ++ r2) = true
  | [], done, h => by simp only [List.nil_append, predsOk, Bool.and_eq_true] at h; exact h.2
  | m :: r1, done, h => by
    simp only [List.cons_append, predsOk, Bool.and_eq_true, List.all_eq_true] at h ⊢
    refine ⟨fun d hd => by have := h.1 d hd; simp only [List.contains_iff_mem, List.mem_cons] at this ⊢; exact Or.inr this, ?_⟩
    exact preds_mono _ _ _ (fun d hd => by simp only [List.mem_cons] at hd ⊢; rcases hd with h | h | h <;> simp [h]) (preds_split r1 (m :: done) h.2)
theorem any_ok (hP : PQ ds N R Q) {k : ASt → XT} (hQ : ∀ s' a' w', Went (dsts ops) s s' → Inv ds P pin R N s' (k s') J a' w' → Q .normal a' w') :
    ∀ (fuel : Nat) (listed : Array Bool) (rem : List Nat) (s1 : ASt) (a : Act) (w : World), Inv ds P pin R N s1 (runD P N base ops ord [] rem s1 k) J a w → Went (dsts ops) s s1 → Rest P ops ord listed rem → Closed ops listed → rem.length = fuel →
      wpAny P .any ops Q fuel listed a w
  | 0, listed, rem, s1, a, w, h, hw, hrest, hcl, hlen => by
    have hr : rem = [] := List.eq_nil_of_length_eq_zero hlen
    subst hr
    refine ⟨?_, hQ _ _ _ hw h⟩
    rw [List.eq_nil_iff_forall_not_mem]
    intro i hi
    have hlt : i < ops.size := by
      rw [mem_ready] at hi
      obtain ⟨_, o, ho, _⟩ := hi
      exact (Array.getElem?_eq_some_iff.1 ho).1
    have h1 := hrest.2.1 i hlt (by simp)
    have h2 := (ready_preds hi).1
    have hlt' : i < listed.size := by rw [hrest.2.2.2.2]; exact hlt
    simp [hlt'] at h1 h2
    rw [h1] at h2; cases h2
  | fuel + 1, listed, rem, s1, a, w, h, hw, hrest, hcl, hlen => by
    refine ⟨fun hnil => ?_, fun i hi => ?_⟩
    · exfalso
      cases rem with
      | nil => simp at hlen
      | cons i r =>
        obtain ⟨g1, g2, g3⟩ := hrest.1 i (by simp)
        have hp := hrest.2.2.2.1 ((List.range ops.size).filter fun d => listed.getD d false) (fun d hd => by
          rw [List.mem_filter, List.mem_range]
          refine ⟨?_, hd⟩
          rcases Nat.lt_or_ge d listed.size with h' | h'
          · rw [← hrest.2.2.2.2]; exact h'
          · simp [Array.getElem?_eq_none h'] at hd)
        simp only [predsOk, Bool.and_eq_true, List.all_eq_true] at hp
        have : i ∈ Region.ready .any ops listed := by
          rw [mem_ready]
          cases ho : ops[i]? with
          | none => rw [Array.getElem?_eq_none_iff] at ho; omega
          | some o =>
            refine ⟨g3, o, rfl, fun e he hb => ?_⟩
            have hd := hp.1 e.on (by unfold preds; rw [ho]; simp only [List.mem_map, List.mem_filter]; exact ⟨e, ⟨by simpa using he, hb⟩, rfl⟩)
            simp only [List.contains_iff_mem, List.mem_filter] at hd
            exact hd.2
        rw [hnil] at this
        cases this
    · obtain ⟨g1, g2⟩ := ready_preds hi
      have hlt : i < ops.size := by
        rw [mem_ready] at hi
        obtain ⟨_, o, ho, _⟩ := hi
        exact (Array.getElem?_eq_some_iff.1 ho).1
      have hmem : i ∈ rem := by
        by_cases hm : i ∈ rem
        · exact hm
        · exfalso
          have h1 := hrest.2.1 i hlt hm
          have hlt' : i < listed.size := by rw [hrest.2.2.2.2]; exact hlt
          simp [hlt'] at h1 g1
          rw [h1] at g1; cases g1
      obtain ⟨r1, r2, rfl⟩ := List.append_of_mem hmem
      obtain ⟨p1, p2, p3⟩ := pairs_split r1 hrest.2.2.1
      have hio := (hrest.1 i hmem).1
      have hgood : ∀ m ∈ r1, m ∈ ord ∧ m ≠ i ∧ reach ops ops.size m i = false ∧ reach ops ops.size i m = false ∧ indep P ops m i = true := by
        intro m hm
        obtain ⟨q1, q2, q3⟩ := p1 m hm
        obtain ⟨m1, m2, m3⟩ := hrest.1 m (by simp [hm])
        have hnr : reach ops ops.size i m = false := by
          cases hr : reach ops ops.size i m
          · rfl
          · have := reach_listed hcl _ i m g2 hr
            have hlt' : m < listed.size := by rw [hrest.2.2.2.2]; exact m2
            simp [hlt'] at this m3
            rw [this] at m3; cases m3
        exact ⟨m1, q1, q2, hnr, q3.resolve_left (by rw [hnr]; simp)⟩
      obtain ⟨ρ, L, Lu, wu, hok, hrel, hL, hext, hpin, hpd⟩ := h
      have hb : Inv ds P pin R N s1 (opD P N base ops ord [] i s1 fun s2 => runD P N base ops ord [] (r1 ++ r2) s2 k) J a w := ⟨ρ, L, Lu, wu, bubble hio r1 [] s1 Lu wu hgood (fun d hd => by cases hd) (List.pairwise_append.1 (pairs_clob _ hrest.2.2.1)).1 hok, hrel, hL, hext, hpin, hpd⟩
      refine wpOp_mono ?_ (opD_ok hP hb)
      rintro a' w' ⟨s2, hw2, hi2⟩
      have hset : ∀ j, j ≠ i → (listed.setIfInBounds i true).getD j true = listed.getD j true := fun j hj => getD_set_ne true (Ne.symm hj)
      have hset2 : ∀ j, j ≠ i → (listed.setIfInBounds i true).getD j false = listed.getD j false := fun j hj => getD_set_ne false (Ne.symm hj)
      have hlt' : i < listed.size := by rw [hrest.2.2.2.2]; exact hlt
      have hseti : (listed.setIfInBounds i true).getD i false = true := by simp [hlt']
      refine any_ok hP hQ fuel _ (r1 ++ r2) s2 a' w' hi2 (hw.trans hw2) ⟨?_, ?_, p2, ?_, by simp [hrest.2.2.2.2]⟩ ?_ ?_
      · intro j hj
        obtain ⟨j1, j2, j3⟩ := hrest.1 j (by simp only [List.mem_append, List.mem_cons] at hj ⊢; rcases hj with h | h <;> simp [h])
        exact ⟨j1, j2, by rw [hset j (p3 j hj)]; exact j3⟩
      · intro j hj hnj
        by_cases e : j = i
        · subst e; exact hseti
        · rw [hset2 j e]
          exact hrest.2.1 j hj (by simp only [List.mem_append, List.mem_cons] at hnj ⊢; rintro (h | h | h); exact hnj (Or.inl h); exact e h; exact hnj (Or.inr h))
      · intro done hdone
        have hd1 := hrest.2.2.2.1 (done.filter fun d => listed.getD d false) (fun d hd => by
          rw [List.mem_filter]
          refine ⟨hdone d (getD_set_true hd), hd⟩)
        have := preds_split r1 _ hd1
        refine preds_mono _ _ _ ?_ this
        intro d hd
        rcases List.mem_cons.1 hd with rfl | hd
        · exact hdone _ hseti
        · exact (List.mem_filter.1 hd).1
      · intro j hj d hd
        by_cases e : j = i
        · subst e; exact getD_set_true (g2 d hd)
        · rw [hset2 j e] at hj
          exact getD_set_true (hcl j hj d hd)
      · simp only [List.length_append, List.length_cons] at hlen ⊢
        omega
def Quietly (r : Result Next) : Prop := (∀ f args w, r ≠ .ok (.enter f args) w) ∧ (∀ s args w, r ≠ .ok (.row s args) w)
theorem quiet_v (X : Sem Value) (w : World) : Quietly ((do pure (Next.value (← X)) : Sem Next).run P w) := by
  rw [Sem.run_bind]
  cases X.run P w with
  | ok v w' => exact ⟨fun _ _ _ h => (by cases h), fun _ _ _ h => (by cases h)⟩
  | halt c w' => exact ⟨fun _ _ _ h => (by cases h), fun _ _ _ h => (by cases h)⟩
theorem quiet_light {o : Oper} (h : lightOp o = true) (ev : Operand → Value) (w : World) : Quietly ((execOp ev o).run P w) := by
  have hp : ∀ v : Value, Quietly ((pure (Next.value v) : Sem Next).run P w) := fun v => ⟨fun _ _ _ h => (by cases h), fun _ _ _ h => (by cases h)⟩
  unfold lightOp at h
  unfold execOp
  split at h
  case h_19 c hc =>
    rw [hc]
    dsimp only
    split at h
    · rename_i hb
      simp only [resolve, hb]
      rw [Sem.run_bind]
      exact quiet_v _ w
    · rename_i hb
      simp only [resolve, hb]
      rw [Sem.run_bind]
      exact quiet_v _ w
    · cases h
  case h_20 => cases h
  all_goals
    rename_i ho
    rw [ho]
    first
      | exact hp _
      | exact quiet_v _ w
      | (dsimp only; rw [Sem.run_bind]; cases Sem.run P (asBool (ev _)) w <;> exact ⟨fun _ _ _ h => (by cases h), fun _ _ _ h => (by cases h)⟩)
theorem upon_both {o : Oper} {a : Act} {K1 K2 : Act → World → Prop} {r : Result Next} (hq : Quietly r) (h1 : o.upon P a K1 Q r) (h2 : o.upon P a K2 Q r) : o.upon P a (fun a w => K1 a w ∧ K2 a w) Q r := by
  unfold Oper.upon at h1 h2 ⊢
  split
  · exact ⟨h1, h2⟩
  · exact ⟨h1, h2⟩
  · exact ⟨h1, h2⟩
  · exact absurd rfl (hq.1 _ _ _)
  · exact absurd rfl (hq.2 _ _ _)
  · exact h1
  · rename_i k1 k2 k3 k4 k5 k6
    split at h1
    · exact (k1 _ _ rfl).elim
    · exact (k2 _ rfl).elim
    · exact (k3 _ _ rfl).elim
    · exact (k4 _ _ _ rfl).elim
    · exact (k5 _ _ _ rfl).elim
    · exact (k6 _ _ rfl).elim
    · exact h1
theorem wpOp_both {i : Nat} {K1 K2 : Act → World → Prop} {a : Act} {w : World} (hl : lightAt ops i = true) (h1 : wpOp P ops Q i K1 a w) (h2 : wpOp P ops Q i K2 a w) : wpOp P ops Q i (fun a w => K1 a w ∧ K2 a w) a w := by
  unfold lightAt at hl
  unfold wpOp at h1 h2 ⊢
  split
  · rename_i hn; rw [hn] at h1 h2; exact ⟨h1, h2⟩
  · rename_i o ho
    rw [ho] at h1 h2 hl
    dsimp only at h1 h2 hl
    split
    · rename_i hw
      rw [if_pos hw] at h1 h2
      rcases h1 with h1 | h1
      · rcases h2 with h2 | h2
        · exact Or.inl (upon_both (quiet_light hl _ _) h1 h2)
        · exact Or.inr h2
      · exact Or.inr h1
    · rename_i hw
      rw [if_neg hw] at h1 h2
      exact ⟨h1, h2⟩
theorem pairsX_clob {x y : Nat} : ∀ (r : List Nat), pairsOkX P x y ops r = true → r.Pairwise (fun d m => noClob ops d m = true)
  | [], _ => List.Pairwise.nil
  | m :: r, h => by
    simp only [pairsOkX, Bool.and_eq_true, List.all_eq_true] at h
    exact List.Pairwise.cons (fun x hx => (h.1 x hx).1.2) (pairsX_clob r h.2)
theorem pairsX_split {x y i : Nat} {r2 : List Nat} (hi : i ≠ y) : ∀ (r1 : List Nat), pairsOkX P x y ops (r1 ++ i :: r2) = true → (∀ m ∈ r1, m ≠ i ∧ reach ops ops.size m i = false ∧ (reach ops ops.size i m = true ∨ indep P ops m i = true)) ∧ pairsOkX P x y ops (r1 ++ r2) = true ∧ (∀ j ∈ r1 ++ r2, j ≠ i)
  | [], h => by
    simp only [List.nil_append, pairsOkX, Bool.and_eq_true, List.all_eq_true] at h
    refine ⟨by simp, h.2, fun j hj e => ?_⟩
    have := (h.1 j (by simpa using hj)).1.1
    subst e; simp at this
  | m :: r1, h => by
    simp only [List.cons_append, pairsOkX, Bool.and_eq_true, List.all_eq_true] at h
    obtain ⟨i1, i2, i3⟩ := pairsX_split hi r1 h.2
    have hmi := h.1 i (by simp)
    have hne : m ≠ i := fun e => by have := hmi.1.1.1; subst e; simp at this
    refine ⟨?_, ?_, ?_⟩
    · intro z hz
      rcases List.mem_cons.1 hz with rfl | hz
      · refine ⟨hne, by simpa using hmi.1.1.2, ?_⟩
        have := hmi.2
        simp only [Bool.or_eq_true, Bool.and_eq_true] at this
        rcases this with (h1 | h1) | ⟨_, h1⟩
        · exact Or.inl h1
        · exact Or.inr h1
        · exact absurd (Nat.eq_of_beq_eq_true h1) hi
      · exact i1 z hz
    · simp only [List.cons_append, pairsOkX, Bool.and_eq_true, List.all_eq_true]
      refine ⟨fun z hz => h.1 z ?_, i2⟩
      simp only [List.mem_append, List.mem_cons] at hz ⊢
      rcases hz with hz | hz
      · exact Or.inl hz
      · exact Or.inr (Or.inr hz)
    · intro j hj
      simp only [List.cons_append, List.mem_cons] at hj
      rcases hj with rfl | hj
      · exact hne
      · exact i3 j hj
theorem pairsX_none {x y : Nat} : ∀ (r : List Nat), (x ∉ r) → pairsOkX P x y ops r = true → pairsOk P ops r = true
  | [], _, _ => rfl
  | m :: r, hx, h => by
    simp only [pairsOkX, pairsOk, Bool.and_eq_true, List.all_eq_true] at h ⊢
    refine ⟨fun i hi => ⟨(h.1 i hi).1, ?_⟩, pairsX_none r (fun h' => hx (List.mem_cons_of_mem _ h')) h.2⟩
    have := (h.1 i hi).2
    simp only [Bool.or_eq_true, Bool.and_eq_true] at this ⊢
    rcases this with h1 | ⟨h1, _⟩
    · exact h1
    · exact absurd (by rw [← Nat.eq_of_beq_eq_true h1]; exact List.mem_cons_self) hx
def RestX (P : Program) (ops : Array Oper) (ord : List Nat) (x y : Nat) (listed : Array Bool) (rem : List Nat) : Prop :=
  (∀ i ∈ rem, i ∈ ord ∧ i < ops.size ∧ listed.getD i true = false) ∧ (∀ i, i < ops.size → i ∉ rem → listed.getD i false = true) ∧ pairsOkX P x y ops rem = true ∧ (∀ done : List Nat, (∀ d, listed.getD d false = true → d ∈ done) → predsOk ops done rem = true) ∧ listed.size = ops.size
theorem RestX.start {x y : Nat} {listed : Array Bool} {i : Nat} {r : List Nat} (hrest : RestX P ops ord x y listed (i :: r)) : i ∈ Region.ready .any ops listed := by
  obtain ⟨g1, g2, g3⟩ := hrest.1 i (by simp)
  have hp := hrest.2.2.2.1 ((List.range ops.size).filter fun d => listed.getD d false) (fun d hd => by
    rw [List.mem_filter, List.mem_range]
    refine ⟨?_, hd⟩
    rcases Nat.lt_or_ge d listed.size with h' | h'
    · rw [← hrest.2.2.2.2]; exact h'
    · simp [Array.getElem?_eq_none h'] at hd)
  simp only [predsOk, Bool.and_eq_true, List.all_eq_true] at hp
  rw [mem_ready]
  cases ho : ops[i]? with
  | none => rw [Array.getElem?_eq_none_iff] at ho; omega
  | some o =>
    refine ⟨g3, o, rfl, fun e he hb => ?_⟩
    have hd := hp.1 e.on (by unfold preds; rw [ho]; simp only [List.mem_map, List.mem_filter]; exact ⟨e, ⟨by simpa using he, hb⟩, rfl⟩)
    simp only [List.contains_iff_mem, List.mem_filter] at hd
    exact hd.2
theorem RestX.mem {x y : Nat} {listed : Array Bool} {i : Nat} {rem : List Nat} (hrest : RestX P ops ord x y listed rem) (hi : i ∈ Region.ready .any ops listed) : i ∈ rem := by
  obtain ⟨g1, g2⟩ := ready_preds hi
  have hlt : i < ops.size := by
    rw [mem_ready] at hi
    obtain ⟨_, o, ho, _⟩ := hi
    exact (Array.getElem?_eq_some_iff.1 ho).1
  by_cases hm : i ∈ rem
  · exact hm
  · exfalso
    have h1 := hrest.2.1 i hlt hm
    have hlt' : i < listed.size := by rw [hrest.2.2.2.2]; exact hlt
    simp [hlt'] at h1 g1
    rw [h1] at g1; cases g1
theorem RestX.take {x y : Nat} {listed : Array Bool} {i : Nat} {r1 r2 : List Nat} (hy : i ≠ y) (hrest : RestX P ops ord x y listed (r1 ++ i :: r2)) (hcl : Closed ops listed) (hi : i ∈ Region.ready .any ops listed) :
    RestX P ops ord x y (listed.setIfInBounds i true) (r1 ++ r2) ∧ Closed ops (listed.setIfInBounds i true) ∧ ∀ {k : ASt → XT} {s1 : ASt} {a : Act} {w : World}, Inv ds P pin R N s1 (runD P N base ops ord [] (r1 ++ i :: r2) s1 k) J a w → Inv ds P pin R N s1 (opD P N base ops ord [] i s1 fun s2 => runD P N base ops ord [] (r1 ++ r2) s2 k) J a w := by
  obtain ⟨g1, g2⟩ := ready_preds hi
  obtain ⟨p1, p2, p3⟩ := pairsX_split hy r1 hrest.2.2.1
  have hmem : i ∈ r1 ++ i :: r2 := by simp
  have hlt : i < ops.size := (hrest.1 i hmem).2.1
  have hio := (hrest.1 i hmem).1
  have hgood : ∀ m ∈ r1, m ∈ ord ∧ m ≠ i ∧ reach ops ops.size m i = false ∧ reach ops ops.size i m = false ∧ indep P ops m i = true := by
    intro m hm
    obtain ⟨q1, q2, q3⟩ := p1 m hm
    obtain ⟨m1, m2, m3⟩ := hrest.1 m (by simp [hm])
    have hnr : reach ops ops.size i m = false := by
      cases hr : reach ops ops.size i m
      · rfl
      · have := reach_listed hcl _ i m g2 hr
        have hlt' : m < listed.size := by rw [hrest.2.2.2.2]; exact m2
        simp [hlt'] at this m3
        rw [this] at m3; cases m3
    exact ⟨m1, q1, q2, hnr, q3.resolve_left (by rw [hnr]; simp)⟩
  have hset : ∀ j, j ≠ i → (listed.setIfInBounds i true).getD j true = listed.getD j true := fun j hj => getD_set_ne true (Ne.symm hj)
  have hset2 : ∀ j, j ≠ i → (listed.setIfInBounds i true).getD j false = listed.getD j false := fun j hj => getD_set_ne false (Ne.symm hj)
  have hlt' : i < listed.size := by rw [hrest.2.2.2.2]; exact hlt
  have hseti : (listed.setIfInBounds i true).getD i false = true := by simp [hlt']
  refine ⟨⟨?_, ?_, p2, ?_, by simp [hrest.2.2.2.2]⟩, ?_, ?_⟩
  · intro j hj
    obtain ⟨j1, j2, j3⟩ := hrest.1 j (by simp only [List.mem_append, List.mem_cons] at hj ⊢; rcases hj with h | h <;> simp [h])
    exact ⟨j1, j2, by rw [hset j (p3 j hj)]; exact j3⟩
  · intro j hj hnj
    by_cases e : j = i
    · subst e; exact hseti
    · rw [hset2 j e]
      exact hrest.2.1 j hj (by simp only [List.mem_append, List.mem_cons] at hnj ⊢; rintro (h | h | h); exact hnj (Or.inl h); exact e h; exact hnj (Or.inr h))
  · intro done hdone
    have hd1 := hrest.2.2.2.1 (done.filter fun d => listed.getD d false) (fun d hd => by
      rw [List.mem_filter]
      refine ⟨hdone d (getD_set_true hd), hd⟩)
    have := preds_split r1 _ hd1
    refine preds_mono _ _ _ ?_ this
    intro d hd
    rcases List.mem_cons.1 hd with rfl | hd
    · exact hdone _ hseti
    · exact (List.mem_filter.1 hd).1
  · intro j hj d hd
    by_cases e : j = i
    · subst e; exact getD_set_true (g2 d hd)
    · rw [hset2 j e] at hj
      exact getD_set_true (hcl j hj d hd)
  · rintro k s1 a w ⟨ρ, L, Lu, wu, hok, hrel, hL, hext, hpin, hpd⟩
    exact ⟨ρ, L, Lu, wu, bubble hio r1 [] s1 Lu wu hgood (fun d hd => by cases hd) (List.pairwise_append.1 (pairsX_clob _ hrest.2.2.1)).1 hok, hrel, hL, hext, hpin, hpd⟩
theorem any_ok2 (hP : PQ ds N R Q) {p q : Nat} (hpq : p ≠ q) {k : ASt → XT} (hQ : ∀ s' a' w', Went (dsts ops) s s' → Inv ds P pin R N s' (k s') J a' w' → Q .normal a' w') :
    ∀ (fuel : Nat) (listed : Array Bool) (rem1 rem2 : List Nat) (s1 s2 : ASt) (a : Act) (w : World), Inv ds P pin R N s1 (runD P N base ops ord [] rem1 s1 k) J a w → Inv ds P pin R N s2 (runD P N base ops ord [] rem2 s2 k) J a w → Went (dsts ops) s s1 → Went (dsts ops) s s2 → RestX P ops ord p q listed rem1 → RestX P ops ord q p listed rem2 → Closed ops listed → p ∈ rem1 → q ∈ rem1 →
      (∀ i ∈ rem1, i = p ∨ i = q ∨ lightAt ops i = true ∨ reach ops ops.size i p = true ∨ reach ops ops.size i q = true) → rem1.length = fuel → rem2.length = fuel → wpAny P .any ops Q fuel listed a w
  | 0, listed, rem1, rem2, s1, s2, a, w, h1, h2, hw1, hw2, hr1, hr2, hcl, hp, hq, hlt, hl1, hl2 => by
    have : rem1 = [] := List.eq_nil_of_length_eq_zero hl1
    subst this; cases hp
  | fuel + 1, listed, rem1, rem2, s1, s2, a, w, h1, h2, hw1, hw2, hr1, hr2, hcl, hp, hq, hlt, hl1, hl2 => by
    refine ⟨fun hnil => ?_, fun i hi => ?_⟩
    · exfalso
      cases rem1 with
      | nil => cases hp
      | cons i r => have := hr1.start; rw [hnil] at this; cases this
    · have hm1 := hr1.mem hi
      have hm2 := hr2.mem hi
      obtain ⟨r1, r2, rfl⟩ := List.append_of_mem hm1
      obtain ⟨t1, t2, rfl⟩ := List.append_of_mem hm2
      by_cases hip : i = p
      · subst hip
        obtain ⟨n1, n2, n3⟩ := hr1.take hpq hcl hi
        refine wpOp_mono ?_ (opD_ok hP (n3 h1))
        rintro a' w' ⟨s2', hw', hi'⟩
        have hnot : i ∉ r1 ++ r2 := fun hmem => (pairsX_split hpq r1 hr1.2.2.1).2.2 i hmem rfl
        exact any_ok hP hQ fuel _ (r1 ++ r2) s2' a' w' hi' (hw1.trans hw') ⟨n1.1, n1.2.1, pairsX_none _ hnot n1.2.2.1, n1.2.2.2⟩ n2 (by simp only [List.length_append, List.length_cons] at hl1 ⊢; omega)
      · by_cases hiq : i = q
        · subst hiq
          obtain ⟨n1, n2, n3⟩ := hr2.take (Ne.symm hpq) hcl hi
          refine wpOp_mono ?_ (opD_ok hP (n3 h2))
          rintro a' w' ⟨s2', hw', hi'⟩
          have hnot : i ∉ t1 ++ t2 := fun hmem => (pairsX_split (Ne.symm hpq) t1 hr2.2.2.1).2.2 i hmem rfl
          exact any_ok hP hQ fuel _ (t1 ++ t2) s2' a' w' hi' (hw2.trans hw') ⟨n1.1, n1.2.1, pairsX_none _ hnot n1.2.2.1, n1.2.2.2⟩ n2 (by simp only [List.length_append, List.length_cons] at hl2 ⊢; omega)
        · obtain ⟨n1, n2, n3⟩ := hr1.take hiq hcl hi
          obtain ⟨m1, m2, m3⟩ := hr2.take hip hcl hi
          have hne : ∀ d, (d = p ∨ d = q) → reach ops ops.size i d = true → False := by
            intro d hd hr
            have hdm : d ∈ r1 ++ i :: r2 := by rcases hd with rfl | rfl; exact hp; exact hq
            have := reach_listed hcl _ i d (ready_preds hi).2 hr
            obtain ⟨_, d2, d3⟩ := hr1.1 d hdm
            have hlt' : d < listed.size := by rw [hr1.2.2.2.2]; exact d2
            simp [hlt'] at this d3
            rw [this] at d3; cases d3
          have hli : lightAt ops i = true := by
            rcases hlt i hm1 with h | h | h | h | h
            · exact absurd h hip
            · exact absurd h hiq
            · exact h
            · exact (hne p (Or.inl rfl) h).elim
            · exact (hne q (Or.inr rfl) h).elim
          refine wpOp_mono ?_ (wpOp_both hli (opD_ok hP (n3 h1)) (opD_ok hP (m3 h2)))
          rintro a' w' ⟨⟨u1, v1, x1⟩, ⟨u2, v2, x2⟩⟩
          have sp : p ∈ r1 ++ r2 := by simp only [List.mem_append, List.mem_cons] at hp ⊢; rcases hp with h | h | h; exact Or.inl h; exact absurd h.symm hip; exact Or.inr h
          have sq : q ∈ r1 ++ r2 := by simp only [List.mem_append, List.mem_cons] at hq ⊢; rcases hq with h | h | h; exact Or.inl h; exact absurd h.symm hiq; exact Or.inr h
          exact any_ok2 hP hpq hQ fuel _ (r1 ++ r2) (t1 ++ t2) u1 u2 a' w' x1 x2 (hw1.trans v1) (hw2.trans v2) n1 m1 n2 sp sq (fun j hj => hlt j (by simp only [List.mem_append, List.mem_cons] at hj ⊢; rcases hj with h | h; exact Or.inl h; exact Or.inr (Or.inr h))) (by simp only [List.length_append, List.length_cons] at hl1 ⊢; omega) (by simp only [List.length_append, List.length_cons] at hl2 ⊢; omega)
theorem greedy_lt : ∀ (n : Nat) (done rem : List Nat) (b : Nat), (∀ j ∈ rem, j < b) → ∀ i ∈ greedy P ops n done rem, i < b
  | 0, done, rem, b, h, i, hi => by simp [greedy] at hi
  | n + 1, done, rem, b, h, i, hi => by
    simp only [greedy] at hi
    have hf : ∀ (i : Nat), ∀ j ∈ rem.filter (fun j => !Nat.beq j i), j < b := fun i j hj => h j (List.mem_filter.1 hj).1
    split at hi
    · rename_i x hx
      rcases List.mem_cons.1 hi with rfl | hi
      · exact h _ (List.mem_filter.1 (List.mem_of_find?_eq_some hx)).1
      · exact greedy_lt n _ _ b (hf x) i hi
    · split at hi
      · rename_i x r hx
        rcases List.mem_cons.1 hi with rfl | hi
        · have hin : i ∈ (List.find? (fun i => (kindAt P ops i).beq 3) (List.filter (fun i => (preds ops i).all fun d => done.contains d) rem)).toList ++ List.filter (fun i => (preds ops i).all fun d => done.contains d) rem := by rw [hx]; simp
          rcases List.mem_append.1 hin with hin | hin
          · rw [Option.mem_toList] at hin
            exact h _ (List.mem_filter.1 (List.mem_of_find?_eq_some hin)).1
          · exact h _ (List.mem_filter.1 hin).1
        · exact greedy_lt n _ _ b (hf x) i hi
      · cases hi
theorem draw_ok (hm : P.follows .mixedOrders = true) (id : Nat) (ops : Array Oper) (s : ASt) (k : ASt → XT) (J : Jt) (a : Act) (w : World) (h : Inv ds P pin R N s (drawX P N ((id + 1) * 1000) ops s k) J a w) :
    (Code.region id ops true).wp P (fun e a' w' => (e = .normal ∧ ∃ s', Went (dsts ops) s s' ∧ Inv ds P pin R N s' (k s') J a' w') ∨ ∃ ps, e = .panic ps ∧ Held ds N a' ∧ R (.panicked ps) w') a w := by
  unfold drawX at h
  split at h
  · rename_i hok
    unfold orderOk at hok
    simp only [Bool.and_eq_true, List.all_eq_true] at hok
    obtain ⟨⟨⟨⟨o1, o2⟩, o3⟩, o4⟩, o5⟩ := hok
    have o3 := Nat.eq_of_beq_eq_true o3
    refine wp_region_any hm ?_
    have h' : Inv ds P pin R N s (runD P N ((id + 1) * 1000) ops (orderOf P ops) [] (orderOf P ops) s k) J a { w with drawn := w.drawn + 1 } := by
      obtain ⟨ρ, L, Lu, wu, hk, hrel, hL, hext, hpin, hpd⟩ := h
      exact ⟨ρ, L, Lu, wu, hk, ⟨hrel.size, hrel.tmps, hrel.wft, hrel.blks, hrel.wfb, hrel.inj, hrel.defers⟩, hL, ⟨hext.sub, hext.new, hext.lt, hext.size, hext.keep, hext.same⟩, hpin, hpd⟩
    have hrep : ∀ i, (Array.replicate ops.size false).getD i false = false := fun i => by
      rw [Array.getD_eq_getD_getElem?, Array.getElem?_replicate]; split <;> rfl
    refine any_ok (ord := orderOf P ops) (fun ps a w hd hR => Or.inr ⟨ps, rfl, hd, hR⟩) (fun s' a' w' h1 h2 => Or.inl ⟨rfl, s', h1, h2⟩) ops.size _ _ s a _ h' (Went.refl _ s) ⟨?_, ?_, o1, ?_, by simp⟩ ?_ o3
    · intro i hi
      have hlt : i < ops.size := greedy_lt _ _ _ _ (fun j hj => List.mem_range.1 hj) i hi
      exact ⟨hi, hlt, by simp [hlt]⟩
    · intro i hi hni
      have := o4 i (List.mem_range.2 hi)
      simp only [List.contains_iff_mem] at this
      exact absurd this hni
    · intro done hdone
      exact preds_mono _ _ _ (fun d hd => by cases hd) o2
    · intro i hi
      rw [hrep i] at hi; cases hi
  · split at h
    · rename_i p q rest hconf
      split at h
      · rename_i hok
        unfold bothOk at hok
        simp only [Bool.and_eq_true, List.all_eq_true] at hok
        obtain ⟨⟨⟨⟨⟨⟨⟨⟨⟨⟨⟨⟨b1, b2⟩, b3⟩, b4⟩, b5⟩, b6⟩, b7⟩, b8⟩, b9⟩, b10⟩, b11⟩, b12⟩, b13⟩ := hok
        refine wp_region_any hm ?_
        have hrep : ∀ i, (Array.replicate ops.size false).getD i false = false := fun i => by
          rw [Array.getD_eq_getD_getElem?, Array.getElem?_replicate]; split <;> rfl
        obtain ⟨ρ, L, Lu, wu, hk, hrel, hL, hext, hpin, hpd⟩ := h
        have h1 : Inv ds P pin R N s (runD P N ((id + 1) * 1000) ops (orderOf P ops) [] (orderOf P ops) s k) J a { w with drawn := w.drawn + 1 } := ⟨ρ, L, Lu, wu, hk.1, ⟨hrel.size, hrel.tmps, hrel.wft, hrel.blks, hrel.wfb, hrel.inj, hrel.defers⟩, hL, ⟨hext.sub, hext.new, hext.lt, hext.size, hext.keep, hext.same⟩, hpin, hpd⟩
        have h2 : Inv ds P pin R N s (runD P N ((id + 1) * 1000) ops (orderOf P ops) [] (flipOrd ops p q (orderOf P ops)) s k) J a { w with drawn := w.drawn + 1 } := ⟨ρ, L, Lu, wu, hk.2, ⟨hrel.size, hrel.tmps, hrel.wft, hrel.blks, hrel.wfb, hrel.inj, hrel.defers⟩, hL, ⟨hext.sub, hext.new, hext.lt, hext.size, hext.keep, hext.same⟩, hpin, hpd⟩
        have hlt1 : ∀ i ∈ orderOf P ops, i < ops.size := fun i hi => greedy_lt _ _ _ _ (fun j hj => List.mem_range.1 hj) i hi
        have hsub : ∀ i ∈ flipOrd ops p q (orderOf P ops), i ∈ orderOf P ops := fun i hi => by have := b8 i hi; simpa using this
        refine any_ok2 (ord := orderOf P ops) (p := p) (q := q) (fun ps a w hd hR => Or.inr ⟨ps, rfl, hd, hR⟩) (fun e => by subst e; simp at b12) (fun s' a' w' h1 h2 => Or.inl ⟨rfl, s', h1, h2⟩) ops.size _ _ _ s s a _ h1 h2 (Went.refl _ s) (Went.refl _ s) ⟨?_, ?_, b1, ?_, by simp⟩ ⟨?_, ?_, b2, ?_, by simp⟩ ?_ (by simpa using b10) (by simpa using b11) ?_ (Nat.eq_of_beq_eq_true b5) (Nat.eq_of_beq_eq_true b6)
        · intro i hi
          exact ⟨hi, hlt1 i hi, by simp [hlt1 i hi]⟩
        · intro i hi hni
          have := (b7 i (List.mem_range.2 hi)).1
          simp only [List.contains_iff_mem] at this
          exact absurd this hni
        · intro done hdone
          exact preds_mono _ _ _ (fun d hd => by cases hd) b3
        · intro i hi
          have := hlt1 i (hsub i hi)
          exact ⟨hsub i hi, this, by simp [this]⟩
        · intro i hi hni
          have := (b7 i (List.mem_range.2 hi)).2
          simp only [List.contains_iff_mem] at this
          exact absurd this hni
        · intro done hdone
          exact preds_mono _ _ _ (fun d hd => by cases hd) b4
        · intro i hi
          rw [hrep i] at hi; cases hi
        · intro i hi
          have := b13 i hi
          simp only [Bool.or_eq_true] at this
          rcases this with (((h | h) | h) | h) | h
          · exact Or.inl (Nat.eq_of_beq_eq_true h)
          · exact Or.inr (Or.inl (Nat.eq_of_beq_eq_true h))
          · exact Or.inr (Or.inr (Or.inl h))
          · exact Or.inr (Or.inr (Or.inr (Or.inl h)))
          · exact Or.inr (Or.inr (Or.inr (Or.inr h)))
      · obtain ⟨_, _, _, _, hk, _⟩ := h; exact hk.elim
    · obtain ⟨_, _, _, _, hk, _⟩ := h; exact hk.elim
end
end Go.Proofs.YtcbpgbfbffnogaaGreatW.Rx
