/- The machine for walks: a region that draws its order. -/
import Derived.Test.YtggemgbkkhpenaaRx11
namespace Go.Proofs.YtggemgbkkhpenaaW.Rx
open Go
set_option linter.unusedVariables false
set_option linter.unusedSimpArgs false
/-- 0: reckons; 1: reads; 3: makes a known block; 2: all else. -/
def kindOf (P : Program) (o : Oper) : Nat := match o.op with
  | .move _ | .assign _ | .pick .. | .nilCheck _ | .binOp .. | .unOp .. | .makeInterface .. | .makeFunc .. | .fieldAddr .. | .field .. | .indexAddr .. | .index .. | .build .. | .extract .. => 0
  | .slice _ _ _ _ none => 0
  | .convert s d _ => match P.underlying s, P.underlying d with
    | some (.int _), some (.int _) => 0
    | some .string, some .string => 0
    | _, _ => 2
  | .load .. => 1
  | .alloc _ => 3
  | .box .. => 3
  | .call c => match c.callee with
    | .builtin .len => 0
    | .builtin .cap => 0
    | .builtin .max => 0
    | .builtin .min => 0
    | _ => 2
  | _ => 2
def preds (ops : Array Oper) (i : Nat) : List Nat := match ops[i]? with
  | some o => (o.after.toList.filter fun e => Region.binds .any e).map (·.on)
  | none => []
def reach (ops : Array Oper) : Nat → Nat → Nat → Bool
  | 0, _, _ => false
  | n + 1, i, m => (preds ops i).any fun d => Nat.beq d m || reach ops n d m
def kindAt (P : Program) (ops : Array Oper) (i : Nat) : Nat := match ops[i]? with
  | some o => kindOf P o
  | none => 2
def apartAt (ops : Array Oper) (m i : Nat) : Bool := match ops[m]?, ops[i]? with
  | some x, some y => Oper.apart ops x y
  | _, _ => false
/-- m, listed ahead of i, may come up behind it. -/
def indep (P : Program) (ops : Array Oper) (m i : Nat) : Bool := apartAt ops m i && (Nat.beq (kindAt P ops m) 0 || Nat.beq (kindAt P ops m) 1 || Nat.beq (kindAt P ops m) 3)
def notTmp (a : Operand) : Option Nat → Bool
  | none => true
  | some d => (match a with | .tmp t => !Nat.beq t d | _ => true)
/-- i doesn't write the slot at which the load m looks. -/
def noClob (ops : Array Oper) (m i : Nat) : Bool := match ops[m]?, ops[i]? with
  | some om, some oi => (match om.op with | .load _ a => notTmp a oi.dst | _ => true)
  | _, _ => true
def cellsAt (P : Program) (t : TypeId) : Nat := match P.underlying t with
  | some d => if d.isRow then P.cellsOf t else 1
  | none => 1
/-- A load of a known block, and a store elsewhere. -/
def offsApart (P : Program) (s : ASt) (om oi : Oper) : Bool := match om.op with
  | .load t a => notTmp a om.dst && (match oi.op with
    | .store _ a' x => (match s.ev a, s.ev a', s.ev x with
      | some (.p k off), some (.p k' off'), some v => !Nat.beq k k' || Nat.ble (off + cellsAt P t) off' || Nat.ble (off' + v.cells.length) off
      | _, _, _ => false)
    | _ => true)
  | _ => true
/-- A store's cells are not those of the loads that are done, if they are not ordered with it. -/
def gate (P : Program) (ops : Array Oper) (D : List Nat) (i : Nat) (s : ASt) : Bool := match ops[i]? with
  | some oi => (match oi.op with
    | .store .. => D.all fun m => reach ops ops.size i m || (match ops[m]? with | some om => offsApart P s om oi | none => true)
    | _ => true)
  | none => true
def pairsOk (P : Program) (ops : Array Oper) : List Nat → Bool
  | [] => true
  | m :: r => r.all (fun i => !Nat.beq m i && !reach ops ops.size m i && noClob ops m i && (reach ops ops.size i m || indep P ops m i)) && pairsOk P ops r
def predsOk (ops : Array Oper) : List Nat → List Nat → Bool
  | _, [] => true
  | done, i :: r => (preds ops i).all (fun d => done.contains d) && predsOk ops (i :: done) r
/-- Readers and reckoners first. -/
def greedy (P : Program) (ops : Array Oper) : Nat → List Nat → List Nat → List Nat
  | 0, _, _ => []
  | n + 1, done, rem =>
    let rd := rem.filter fun i => (preds ops i).all fun d => done.contains d
    match rd.find? (fun i => Nat.blt (kindAt P ops i) 2) with
    | some i => i :: greedy P ops n (i :: done) (rem.filter fun j => !Nat.beq j i)
    | none => match (rd.find? (fun i => Nat.beq (kindAt P ops i) 3)).toList ++ rd with
      | i :: _ => i :: greedy P ops n (i :: done) (rem.filter fun j => !Nat.beq j i)
      | [] => []
/-- Among the others there is one of a kind that is not ordered with i. -/
def loose (P : Program) (ops : Array Oper) (ord : List Nat) (k i : Nat) : Bool := ord.any fun j => !Nat.beq j i && Nat.beq (kindAt P ops j) k && !reach ops ops.size i j && !reach ops ops.size j i
def filt0 : Eff → Eff
  | .val x => .val x
  | .chk c x => .chk c x
  | _ => .bad "region: not light"
def filt1 (l : Bool) : Eff → Eff
  | .val x => .val x
  | .ld q ls row => if l then .bad "region: a far read beside a call" else .ld q ls row
  | _ => .bad "region: not a read"
def callF (x : Option Out) (f : FuncId) (args : List AV) (t : TypeId) : Eff := match x with
  | some [] => .call f args t
  | _ => .bad "region: a call that takes known blocks, beside a read"
theorem callF_or (x : Option Out) (f : FuncId) (args : List AV) (t : TypeId) : (x = some [] ∧ callF x f args t = .call f args t) ∨ callF x f args t = .bad "region: a call that takes known blocks, beside a read" := by
  unfold callF; split; exact Or.inl ⟨rfl, rfl⟩; exact Or.inr rfl
def filt2 (l : Bool) (s : ASt) (e : Eff) : Eff := if l then (match e with
  | .call f args t => callF (exOf s args) f args t
  | .sem g t => .sem g t
  | .stb q c T => .stb q c T
  | _ => .bad "region: a store beside a read") else e
def filt3 : Eff → Eff
  | .alloc c T => .alloc c T
  | _ => .bad "region: not an alloc"
def filt (P : Program) (ops : Array Oper) (ord : List Nat) (i : Nat) (s : ASt) (e : Eff) : Eff := match kindAt P ops i with
  | 0 => filt0 e
  | 1 => filt1 (loose P ops ord 2 i) e
  | 3 => filt3 e
  | _ => filt2 (loose P ops ord 1 i) s e
theorem filt_0 {P : Program} {ops : Array Oper} {ord : List Nat} {i : Nat} {s : ASt} {e : Eff} (h : kindAt P ops i = 0) : filt P ops ord i s e = filt0 e := by unfold filt; rw [h]; rfl
theorem filt_1 {P : Program} {ops : Array Oper} {ord : List Nat} {i : Nat} {s : ASt} {e : Eff} (h : kindAt P ops i = 1) : filt P ops ord i s e = filt1 (loose P ops ord 2 i) e := by unfold filt; rw [h]; rfl
theorem filt_3 {P : Program} {ops : Array Oper} {ord : List Nat} {i : Nat} {s : ASt} {e : Eff} (h : kindAt P ops i = 3) : filt P ops ord i s e = filt3 e := by unfold filt; rw [h]; rfl
theorem filt_2 {P : Program} {ops : Array Oper} {ord : List Nat} {i : Nat} {s : ASt} {e : Eff} (h0 : kindAt P ops i ≠ 0) (h1 : kindAt P ops i ≠ 1) (h3 : kindAt P ops i ≠ 3) : filt P ops ord i s e = filt2 (loose P ops ord 1 i) s e := by
  unfold filt
  split
  · rename_i h; exact absurd h h0
  · rename_i h; exact absurd h h1
  · rename_i h; exact absurd h h3
  · rfl
/-- The keys at which an operation looks. -/
def usedOp (s : ASt) (o : Oper) : List Nat := match o.op with
  | .load _ a => (match s.ev a with | some (.p k _) => [k] | _ => [])
  | .store _ a _ => (match s.ev a with | some (.p k _) => [k] | _ => [])
  | _ => []
def usedE (s : ASt) : Eff → List Nat
  | .call _ args _ => keysOf s 64 (AV.keyss args) []
  | .sto _ xs => keysOf s 64 (AV.keyss xs) []
  | _ => []
/-- Keys of blocks that are made in this region, not surely ahead of i. -/
def banned (P : Program) (base : Nat) (ops : Array Oper) (ord : List Nat) (i : Nat) : List Nat := (ord.filter fun j => !Nat.beq j i && Nat.beq (kindAt P ops j) 3 && !reach ops ops.size i j).map (base + ·)
def guardE (ks bs : List Nat) (e : Eff) : Eff := if ks.any (fun k => bs.contains k) then .bad "region: a block that is made here" else e
def effD (P : Program) (base : Nat) (ops : Array Oper) (ord : List Nat) (i : Nat) (o : Oper) (s : ASt) : Eff := match wantX ops o s with
  | some true => guardE (usedOp s o ++ usedE s (filt P ops ord i s (core P s.ev s.blks o))) (banned P base ops ord i) (filt P ops ord i s (core P s.ev s.blks o))
  | some false => .val (.v undef)
  | none => .bad "guard"
section
variable (P : Program) (N : Nat)
def opD (base : Nat) (ops : Array Oper) (ord D : List Nat) (i : Nat) (s : ASt) (k : ASt → XT) : XT := match ops[i]? with
  | none => .bad "no operation"
  | some o => if gate P ops D i s then stepX P N (base + i) o s (effD P base ops ord i o s) k else .bad "region: a store beside a read of the same"
def runD (base : Nat) (ops : Array Oper) (ord : List Nat) : List Nat → List Nat → ASt → (ASt → XT) → XT
  | _, [], s, k => k s
  | D, i :: r, s, k => opD P N base ops ord D i s fun s' => runD base ops ord (i :: D) r s' k
def orderOf (ops : Array Oper) : List Nat := greedy P ops ops.size [] (List.range ops.size)
def orderOk (ops : Array Oper) : Bool := pairsOk P ops (orderOf P ops) && predsOk ops [] (orderOf P ops) && Nat.beq (orderOf P ops).length ops.size && (List.range ops.size).all (fun i => (orderOf P ops).contains i) && Region.noSelect ops
def drawX (base : Nat) (ops : Array Oper) (s : ASt) (k : ASt → XT) : XT :=
  if orderOk P ops then runD P N base ops (orderOf P ops) [] (orderOf P ops) s k else .bad "region: its order"
end
section
variable {P : Program} {pin : List (Nat × Nat)} {R : Ending → World → Prop} {N : Nat} {J : Jt}
variable {s : ASt} {ops : Array Oper} {ord : List Nat} {base : Nat} {p : Nat → Prop}
theorem opD_loc {D : List Nat} {i : Nat} {s : ASt} {k : ASt → XT} (h : ∀ s', (k s').loc p) : (opD P N base ops ord D i s k).loc p := by
  unfold opD
  split
  · trivial
  · split
    · exact step_loc h
    · trivial
theorem runD_loc {k : ASt → XT} (h : ∀ s', (k s').loc p) : ∀ (is D : List Nat) (s : ASt), (runD P N base ops ord D is s k).loc p
  | [], D, s => h s
  | i :: r, D, s => opD_loc (fun s' => runD_loc h r (i :: D) s')
theorem drawX_loc (base : Nat) (ops : Array Oper) (s : ASt) (k : ASt → XT) (p : Nat → Prop) (h : ∀ s', XT.loc (k s') p) : (drawX P N base ops s k).loc p := by
  unfold drawX
  split
  · exact runD_loc h _ _ _
  · trivial
/-- What an operation looks at. -/
theorem evs_congr {ev ev' : Operand → Option AV} : ∀ (l : List Operand), (∀ x ∈ l, ev x = ev' x) → evs ev l = evs ev' l
  | [], h => rfl
  | x :: r, h => by simp only [evs]; rw [h x (by simp), evs_congr r (fun y hy => h y (by simp [hy]))]
theorem plains_congr {ev ev' : Operand → Option AV} : ∀ (l : List Operand), (∀ x ∈ l, ev x = ev' x) → plains ev l = plains ev' l
  | [], h => rfl
  | x :: r, h => by simp only [plains]; rw [h x (by simp), plains_congr r (fun y hy => h y (by simp [hy]))]
theorem evv_congr {ev ev' : Operand → Option AV} {x : Operand} (h : ev x = ev' x) : evv ev x = evv ev' x := by unfold evv; rw [h]
theorem pureE_congr {ev ev' : Operand → Option AV} {o : Oper} (l : List Operand) (hs : ∀ cs b, o.op ≠ .select cs b) (h : ∀ x ∈ o.op.operands, ev x = ev' x) (hl : ∀ x ∈ l, ev x = ev' x) : pureE P ev o l = pureE P ev' o l := by
  unfold pureE
  rw [plains_congr l hl, execOp_congr o hs (fun x hx => evv_congr (h x hx))]
end
end Go.Proofs.YtggemgbkkhpenaaW.Rx
