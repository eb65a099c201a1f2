/- The machine for walks: code, and loops. -/
import Derived.Test.YtggemgbkkhpenaaRx8
namespace Go.Proofs.YtggemgbkkhpenaaW.Rx
open Go
set_option linter.unusedVariables false
set_option linter.unusedSimpArgs false
inductive XE where
  | norm | exit (id : Nat) | ret
def XE.c : XE → Exit
  | .norm => .normal
  | .exit i => .exit i
  | .ret => .ret
/-- What a loop carries: slots (whether a struct; its cells), whole known blocks. -/
structure LA where
  slots : List (Nat × Bool × List Lf)
  cells : List (Nat × List Lf)
def LA.ls (la : LA) : List Lf := (la.slots.flatMap fun x => x.2.2) ++ (la.cells.flatMap fun x => x.2)
def codeDsts : Code → List Nat
  | .region _ ops _ => dsts ops
  | .seq a b => codeDsts a ++ codeDsts b
  | .cond _ a b => codeDsts a ++ codeDsts b
  | .block _ c => codeDsts c
  | .loop c => codeDsts c
  | _ => []
def codeRegs : Code → List Nat
  | .region id _ _ => [id]
  | .seq a b => codeRegs a ++ codeRegs b
  | .cond _ a b => codeRegs a ++ codeRegs b
  | .block _ c => codeRegs c
  | .loop c => codeRegs c
  | _ => []
def isAlloc (o : Oper) : Bool := match o.op with
  | .alloc _ => true
  | .box _ _ => true
  | _ => false
def codeKeys : Code → List Nat
  | .region id ops _ => (ops.toList.zipIdx.filter fun x => isAlloc x.1).map fun x => (id + 1) * 1000 + x.2
  | .seq a b => codeKeys a ++ codeKeys b
  | .cond _ a b => codeKeys a ++ codeKeys b
  | .block _ c => codeKeys c
  | .loop c => codeKeys c
  | _ => []
def dropped (rs : List Nat) (k : Nat) : Bool := rs.any fun r => Nat.beq (k / 1000) (r + 1)
def unLf : (l : Lf) → AV → Option l.T
  | .i k, .v (.int k' n) => if k = k' then some n else none
  | .b, .v (.bool x) => some x
  | .s, .v (.string x) => some x
  | .sl, .v (.slice a n c) => some (a, n, c)
  | .p, .v (.pointer a) => some a
  | .m, .v (.map r) => some r
  | _, _ => none
def unTup : (ls : List Lf) → List AV → Option (Tup ls)
  | [], [] => some ()
  | l :: r, x :: xs => match unLf l x, unTup r xs with
    | some a, some b => some (a, b)
    | _, _ => none
  | _, _ => none
def takeSlots (s : ASt) : List (Nat × Bool × List Lf) → Option (List AV)
  | [] => some []
  | (j, row, lf) :: r => match s.tmps j, takeSlots s r with
    | some x, some xs => if row then (match x with | .agg cs => if Nat.beq cs.length lf.length then some (cs ++ xs) else none | _ => none) else (if Nat.beq lf.length 1 then some (x :: xs) else none)
    | _, _ => none
def takeCells (s : ASt) : List (Nat × List Lf) → Option (List AV)
  | [] => some []
  | (k, lf) :: r => match s.blks k, takeCells s r with
    | some (c, _), some xs => if Nat.beq c.length lf.length then some (c ++ xs) else none
    | _, _ => none
def takeS (la : LA) (s : ASt) : Option (Tup la.ls) := match takeSlots s la.slots, takeCells s la.cells with
  | some a, some b => unTup la.ls (a ++ b)
  | _, _ => none
def giveSlots : List (Nat × Bool × List Lf) → List AV → Nat → Option AV
  | [], _, _ => none
  | (j, row, lf) :: r, xs, i => bif Nat.beq i j then some (if row then .agg (xs.take lf.length) else xs.headD (.v undef)) else giveSlots r (xs.drop lf.length) i
def giveCells : List (Nat × List Lf) → List AV → Nat → Option (List AV)
  | [], _, _ => none
  | (k, lf) :: r, xs, i => bif Nat.beq i k then some (xs.take lf.length) else giveCells r (xs.drop lf.length) i
/-- What is known at the head of a round. -/
def headS (N : Nat) (la : LA) (s : ASt) (W rs KS : List Nat) (xs : List AV) : ASt where
  tmps j := if Nat.blt j N then (match giveSlots la.slots xs j with
    | some x => some x
    | none => if W.contains j then none else match s.tmps j with
      | some x => if x.wf (fun k => KS.contains k && !dropped rs k && (s.blks k).isSome) then some x else none
      | none => none) else none
  blks k := if KS.contains k && !dropped rs k then (match s.blks k with
    | some (c, T) => (match giveCells la.cells (xs.drop (la.slots.flatMap fun x => x.2.2).length) k with
      | some c' => some (c', T)
      | none => some (c, T))
    | none => none) else none
  ver k := if (la.cells.any fun x => Nat.beq x.1 k) || dropped rs k || !KS.contains k then s.ver k + 1 else s.ver k
def headOk (KS : List Nat) (s : ASt) : Bool := KS.all fun k => match s.blks k with
  | some (c, _) => AV.wfs s.D c
  | none => true
/-- Behind a round: what is not carried is as it was at its head. -/
def backOk (la : LA) (rs KS : List Nat) (h s : ASt) : Bool := KS.all fun k => dropped rs k || (match h.blks k with
  | none => true
  | some (_, T) => if (la.cells.any fun x => Nat.beq x.1 k) then (match s.blks k with | some (_, T') => Nat.beq T T' | none => false) else Nat.beq (s.ver k) (h.ver k))
def tmpsOk (N : Nat) (W : List Nat) (h s : ASt) : Bool := (List.range N).all fun j => W.contains j || !(h.tmps j).isSome || (s.tmps j).isSome
def firstReg : List Nat → Nat
  | [] => 0
  | r :: _ => r
section
variable (P : Program) (N : Nat) (A : Nat → LA) (C : Nat → Option LA) (KS : List Nat) (pk : List Nat) (drawX : Nat → Array Oper → ASt → (ASt → XT) → XT)
def X : Code → Nat → ASt → (XE → ASt → XT) → XT
  | .skip, _, s, κ => κ .norm s
  | .region id ops draw, _, s, κ => bif draw then drawX ((id + 1) * 1000) ops s (fun s' => κ .norm s') else runX P N ((id + 1) * 1000) ops (List.range ops.size) s (fun s' => κ .norm s')
  | .seq a b, l, s, κ => match C (firstReg (codeRegs b)) with
    | none => X a l s fun e s' => match e with
      | .norm => X b l s' κ
      | .exit i => κ (.exit i) s'
      | .ret => κ .ret s'
    | some la =>
      let hd := fun (y : Tup la.ls) => headS N la s (codeDsts a) (codeRegs a) KS (vs la.ls y)
      if pk.all (fun k => KS.contains k && !dropped (codeRegs a) k) && la.slots.all (fun x => (codeDsts a).contains x.1 && Nat.blt x.1 N) then
        .cut la.ls l (X a (l + 1) s fun e s' => match e with
          | .norm => (match takeS la s' with
            | some z => if backOk la (codeRegs a) KS (hd z) s' && tmpsOk N (codeDsts a) (hd z) s' && headOk KS (hd z) then .again l la.ls z else .bad "cut: a known block turned"
            | none => .bad "cut: what is carried")
          | .exit i => κ (.exit i) s'
          | .ret => κ .ret s') fun y => X b l (hd y) κ
      else .bad "cut: pins"
  | .cond c a b, l, s, κ => match s.ev c with
    | some (.v (.bool t)) => bif t then X a l s κ else X b l s κ
    | _ => .bad "cond"
  | .block id c, l, s, κ => X c l s fun e s' => match e with
    | .exit i => if i = id then κ .norm s' else κ (.exit i) s'
    | .norm => κ .norm s'
    | .ret => κ .ret s'
  | .exit id, _, s, κ => κ (.exit id) s
  | .ret, _, s, κ => κ .ret s
  | .loop c, l, s, κ =>
    let la := A (firstReg (codeRegs c))
    let hd := fun (y : Tup la.ls) => headS N la s (codeDsts c) (codeRegs c) KS (vs la.ls y)
    match takeS la s with
    | some x => if pk.all (fun k => KS.contains k && !dropped (codeRegs c) k) && la.slots.all (fun x => (codeDsts c).contains x.1 && Nat.blt x.1 N) then .loop la.ls x l fun y => if headOk KS (hd y) then X c (l + 1) (hd y) (fun e s' => match e with
        | .norm => (match takeS la s' with
          | some z => if backOk la (codeRegs c) KS (hd y) s' && tmpsOk N (codeDsts c) (hd y) s' then .again l la.ls z else .bad "loop: a known block turned"
          | none => .bad "loop: what is carried (behind a round)")
        | .exit i => κ (.exit i) s'
        | .ret => κ .ret s') else .bad "loop: head" else .bad "loop: pins"
    | none => .bad "loop: what is carried"
  | _, _, _, _ => .bad "code"
end
/-- The levels to which a tree goes back are among p. -/
def XT.loc : XT → (Nat → Prop) → Prop
  | .done _ _, _ => True
  | .bad _, _ => True
  | .need _ k, p => k.loc p
  | .ld _ _ k, p => ∀ x, (k x).loc p
  | .sto _ _ _ k, p => k.loc p
  | .call _ _ _ _ _ _ k, p => ∀ x, (k x).loc p
  | .sem _ _ _ k, p => ∀ x, (k x).loc p
  | .loop _ _ l b, p => ∀ y, (b y).loc fun m => p m ∨ m = l
  | .again l _ _, p => p l
  | .cut _ l b k, p => (b.loc fun m => p m ∨ m = l) ∧ ∀ y, (k y).loc p
theorem loc_mono : ∀ (t : XT) (p q : Nat → Prop), (∀ m, p m → q m) → t.loc p → t.loc q
  | .done _ _, _, _, _, _ => trivial
  | .bad _, _, _, _, _ => trivial
  | .need _ k, p, q, h, ht => loc_mono k p q h ht
  | .ld _ _ k, p, q, h, ht => fun x => loc_mono (k x) p q h (ht x)
  | .sto _ _ _ k, p, q, h, ht => loc_mono k p q h ht
  | .call _ _ _ _ _ _ k, p, q, h, ht => fun x => loc_mono (k x) p q h (ht x)
  | .sem _ _ _ k, p, q, h, ht => fun x => loc_mono (k x) p q h (ht x)
  | .loop _ _ l b, p, q, h, ht => fun y => loc_mono (b y) _ _ (fun m hm => hm.imp (h m) id) (ht y)
  | .again l _ _, p, q, h, ht => h l ht
  | .cut _ l b k, p, q, h, ht => ⟨loc_mono b _ _ (fun m hm => hm.imp (h m) id) ht.1, fun y => loc_mono (k y) p q h (ht.2 y)⟩
section
variable {P : Program} {pin : List (Nat × Nat)} {R : Ending → World → Prop}
theorem ok_congr : ∀ (t : XT) (p : Nat → Prop) (J J' : Jt) (L : Nat → Prop) (w : World), (∀ m, p m → J m = J' m) → t.loc p → t.ok P pin R J L w → t.ok P pin R J' L w
  | .done _ _, p, J, J', L, w, h, hl, ht => ht
  | .bad _, p, J, J', L, w, h, hl, ht => ht
  | .need _ k, p, J, J', L, w, h, hl, ht => ⟨ht.1, ok_congr k p J J' L w h hl ht.2⟩
  | .ld _ _ k, p, J, J', L, w, h, hl, ht => by
    obtain ⟨ad, x, h1, h2, h3, h4, h5, h6⟩ := ht
    exact ⟨ad, x, h1, h2, h3, h4, h5, ok_congr (k x) p J J' L w h (hl x) h6⟩
  | .sto _ _ _ k, p, J, J', L, w, h, hl, ht => fun ρ L1 w1 h1 h2 h3 => by
    obtain ⟨ad, g1, g2, g3, g4, g5⟩ := ht ρ L1 w1 h1 h2 h3
    exact ⟨ad, g1, g2, g3, g4, ok_congr k p J J' _ _ h hl g5⟩
  | .call _ _ _ _ _ _ k, p, J, J', L, w, h, hl, ht => fun ρ L1 w1 h1 h2 h3 h4 => (ht ρ L1 w1 h1 h2 h3 h4).mono (fun e w2 ⟨x, g1, g2, g3, g4⟩ => ⟨x, g1, g2, g3, ok_congr (k x) p J J' _ _ h (hl x) g4⟩)
  | .sem _ _ _ k, p, J, J', L, w, h, hl, ht => fun L1 w1 h1 => by
    obtain ⟨x, w2, g1, g2, g3⟩ := ht L1 w1 h1
    exact ⟨x, w2, g1, g2, ok_congr (k x) p J J' _ _ h (hl x) g3⟩
  | .loop ls x l b, p, J, J', L, w, h, hl, ht => by
    obtain ⟨I, h0, hr⟩ := ht
    refine ⟨I, h0, fun n y L1 w1 hi => ok_congr (b y) _ _ _ _ _ ?_ (hl y) (hr n y L1 w1 hi)⟩
    intro m hm
    unfold Jt.set
    rcases hm with hm | rfl
    · split
      · rfl
      · exact h m hm
    · simp
  | .again l ls x, p, J, J', L, w, h, hl, ht => fun L1 w1 h1 => by
    rw [← h l hl]; exact ht L1 w1 h1
  | .cut ls l b k, p, J, J', L, w, h, hl, ht => by
    obtain ⟨I, h1, h2⟩ := ht
    refine ⟨I, ok_congr b _ _ _ _ _ ?_ hl.1 h1, fun y L1 w1 hi => ok_congr (k y) p J J' _ _ h (hl.2 y) (h2 y L1 w1 hi)⟩
    intro m hm
    unfold Jt.set
    rcases hm with hm | rfl
    · split
      · rfl
      · exact h m hm
    · simp
variable {N : Nat} {A : Nat → LA} {C : Nat → Option LA} {KS pk : List Nat} {drawX : Nat → Array Oper → ASt → (ASt → XT) → XT} {p : Nat → Prop}
theorem split_loc {x : AV} {k : AV → XT} (h : ∀ y, (k y).loc p) : (split x k).loc p := by rw [split_eq]; exact h _
theorem step_loc {key : Nat} {o : Oper} {s : ASt} {e : Eff} {k : ASt → XT} (h : ∀ s', (k s').loc p) : (stepX P N key o s e k).loc p := by
  unfold stepX
  split
  · cases e with
    | val x => exact split_loc (fun _ => h _)
    | alloc c T => dsimp only; split; exact h _; trivial
    | stb q c T => exact h _
    | chk c x => exact split_loc (fun _ => h _)
    | ld q ls row =>
      intro x
      dsimp only
      split
      · exact h _
      · exact split_loc (fun _ => h _)
    | sto q xs => dsimp only; split; exact h _; trivial
    | call f args t =>
      dsimp only
      split
      · split
        · intro x; exact split_loc (fun _ => h _)
        · trivial
      · trivial
    | sem g t => dsimp only; split; (intro x; exact split_loc (fun _ => h _)); trivial
    | bad why => trivial
  · trivial
theorem op_loc {base i : Nat} {ops : Array Oper} {s : ASt} {k : ASt → XT} (h : ∀ s', (k s').loc p) : (opX P N base ops i s k).loc p := by
  unfold opX
  split
  · exact h _
  · split
    · rename_i b hb
      cases b
      · simp only [cond_false]
        cases dstOk N _
        · trivial
        · exact h _
      · exact step_loc h
    · trivial
theorem run_loc {base : Nat} {ops : Array Oper} {k : ASt → XT} (h : ∀ s', (k s').loc p) : ∀ (is : List Nat) (s : ASt), (runX P N base ops is s k).loc p
  | [], s => h s
  | i :: r, s => op_loc (fun s' => run_loc h r s')
theorem X_loc (hdraw : ∀ base ops s k (p : Nat → Prop), (∀ s', XT.loc (k s') p) → (drawX base ops s k).loc p) : ∀ (c : Code) (p : Nat → Prop) (l : Nat) (s : ASt) (κ : XE → ASt → XT), (∀ e s', (κ e s').loc p) → (X P N A C KS pk drawX c l s κ).loc p
  | .skip, p, l, s, κ, h => h _ _
  | .region id ops draw, p, l, s, κ, h => by
    unfold X
    cases draw
    · exact run_loc (fun _ => h _ _) _ _
    · exact hdraw _ _ _ _ _ (fun _ => h _ _)
  | .seq a b, p, l, s, κ, h => by
    unfold X
    split
    · refine X_loc hdraw a p l s _ (fun e s' => ?_)
      cases e
      · exact X_loc hdraw b p l s' κ h
      · exact h _ _
      · exact h _ _
    · rename_i la hla
      dsimp only
      split
      · refine ⟨X_loc hdraw a _ (l + 1) s _ (fun e s' => ?_), fun y => X_loc hdraw b p l _ κ h⟩
        cases e
        · dsimp only
          split
          · split
            · exact Or.inr rfl
            · trivial
          · trivial
        · exact loc_mono _ _ _ (fun m hm => Or.inl hm) (h _ _)
        · exact loc_mono _ _ _ (fun m hm => Or.inl hm) (h _ _)
      · trivial
  | .cond c a b, p, l, s, κ, h => by
    unfold X
    split
    · rename_i t _
      cases t
      · exact X_loc hdraw b p l s κ h
      · exact X_loc hdraw a p l s κ h
    · trivial
  | .block id c, p, l, s, κ, h => by
    unfold X
    refine X_loc hdraw c p l s _ (fun e s' => ?_)
    cases e
    · exact h _ _
    · dsimp only; split <;> exact h _ _
    · exact h _ _
  | .exit id, p, l, s, κ, h => h _ _
  | .ret, p, l, s, κ, h => h _ _
  | .loop c, p, l, s, κ, h => by
    unfold X
    dsimp only
    split
    · split
      · intro y
        show XT.loc (if headOk KS (headS N (A (firstReg (codeRegs c))) s (codeDsts c) (codeRegs c) KS (vs (A (firstReg (codeRegs c))).ls y)) = true then _ else _) _
        by_cases hh : headOk KS (headS N (A (firstReg (codeRegs c))) s (codeDsts c) (codeRegs c) KS (vs (A (firstReg (codeRegs c))).ls y)) = true
        · rw [if_pos hh]
          refine X_loc hdraw c _ (l + 1) _ _ (fun e s' => ?_)
          cases e
          · dsimp only
            split
            · split
              · exact Or.inr rfl
              · trivial
            · trivial
          · exact loc_mono _ _ _ (fun m hm => Or.inl hm) (h _ _)
          · exact loc_mono _ _ _ (fun m hm => Or.inl hm) (h _ _)
        · rw [if_neg hh]; trivial
      · trivial
    · trivial
  | .rangeFunc .., p, l, s, κ, h => trivial
  | .scope _, p, l, s, κ, h => trivial
  | .label _, p, l, s, κ, h => trivial
  | .goto _, p, l, s, κ, h => trivial
  | .refuse _, p, l, s, κ, h => trivial
end
end Go.Proofs.YtggemgbkkhpenaaW.Rx
