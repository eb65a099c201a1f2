/- A machine for walks: a function's text is reckoned, by the kernel, into a tree of what it asks of memory and of other functions; what the tree says holds of the run. -/
import Derived.Calls
import Derived.Orders
import Derived.Below
import Derived.Laws.Cells
import Derived.Laws.Rows
import Derived.Laws.IdiomCopy
import Derived.Deep.MidRow
import Derived.Laws.Pointers
import Derived.Laws.StructEq
import Derived.ChangeKeysEq
import Derived.Lib.SliceRun
import Derived.WalkSpells
import Derived.Laws.Externs
import Derived.Laws.Tables
namespace Go.Proofs.YtcbpgbfbffnogaaGreatW.Rx
open Go
set_option linter.unusedVariables false

inductive Lf where
  | i (k : IntKind) | b | s | sl | p | m
@[reducible] def Lf.T : Lf → Type
  | .i _ => Int | .b => Bool | .s => ByteArray | .sl => Option Addr × Nat × Nat | .p => Option Addr | .m => Option Nat
def Lf.V : (l : Lf) → l.T → Value
  | .i k, n => .int k n | .b, x => .bool x | .s, x => .string x | .sl, x => .slice x.1 x.2.1 x.2.2 | .p, x => .pointer x | .m, x => .map x
@[reducible] def Tup : List Lf → Type
  | [] => Unit
  | l :: r => l.T × Tup r
def Tup.V : (ls : List Lf) → Tup ls → List Value
  | [], _ => []
  | l :: r, x => l.V x.1 :: Tup.V r x.2

inductive AV where
  | v (x : Value)
  | p (key off : Nat)
  | agg (cs : List AV)
  | tup (vs : List AV)
  | fn (f : Fn) (first cap : List AV)
mutual
def AV.g (ρ : Nat → Nat) : AV → Value
  | .v x => x
  | .p k o => .pointer (some ⟨ρ k, o, none⟩)
  | .agg cs => .agg (AV.gs ρ cs).toArray
  | .tup vs => .tuple (AV.gs ρ vs).toArray
  | .fn f a c => .func f (AV.gs ρ a).toArray (AV.gs ρ c).toArray
def AV.gs (ρ : Nat → Nat) : List AV → List Value
  | [] => []
  | x :: r => x.g ρ :: AV.gs ρ r
end
mutual
def AV.wf (D : Nat → Bool) : AV → Bool
  | .v _ => true
  | .p k _ => D k
  | .agg cs => AV.wfs D cs
  | .tup vs => AV.wfs D vs
  | .fn _ a c => AV.wfs D a && AV.wfs D c
def AV.wfs (D : Nat → Bool) : List AV → Bool
  | [] => true
  | x :: r => x.wf D && AV.wfs D r
end
mutual
def AV.keys : AV → List Nat
  | .v _ => []
  | .p k _ => [k]
  | .agg cs => AV.keyss cs
  | .tup vs => AV.keyss vs
  | .fn _ a c => AV.keyss a ++ AV.keyss c
def AV.keyss : List AV → List Nat
  | [] => []
  | x :: r => x.keys ++ AV.keyss r
end
def AV.one : AV → Bool
  | .v x => x.oneCell'
  | .p _ _ => true
  | .agg _ => false
  | .tup _ => false
  | .fn _ _ _ => true
def AV.cells : AV → List AV
  | .agg cs => cs
  | x => [x]

theorem gs_eq (ρ : Nat → Nat) : ∀ l : List AV, AV.gs ρ l = l.map (AV.g ρ)
  | [] => by simp [AV.gs]
  | x :: r => by rw [AV.gs, gs_eq ρ r]; rfl
theorem gs_len (ρ : Nat → Nat) (l : List AV) : (AV.gs ρ l).length = l.length := by rw [gs_eq]; simp
theorem wfs_eq (D : Nat → Bool) : ∀ l : List AV, AV.wfs D l = l.all (AV.wf D)
  | [] => by simp [AV.wfs]
  | x :: r => by rw [AV.wfs, wfs_eq D r]; rfl
theorem g_congr {D : Nat → Bool} {ρ σ : Nat → Nat} (h : ∀ k, D k = true → ρ k = σ k) : ∀ x : AV, x.wf D = true → x.g ρ = x.g σ := by
  intro x
  refine AV.rec (motive_1 := fun x => x.wf D = true → x.g ρ = x.g σ) (motive_2 := fun l => AV.wfs D l = true → AV.gs ρ l = AV.gs σ l) ?_ ?_ ?_ ?_ ?_ ?_ ?_ x
  · intro x _; simp [AV.g]
  · intro k o hk; simp only [AV.wf] at hk; simp [AV.g, h k hk]
  · intro cs ih hk; simp only [AV.wf] at hk; simp [AV.g, ih hk]
  · intro cs ih hk; simp only [AV.wf] at hk; simp [AV.g, ih hk]
  · intro f a c iha ihc hk; simp only [AV.wf, Bool.and_eq_true] at hk; simp [AV.g, iha hk.1, ihc hk.2]
  · intro _; simp [AV.gs]
  · intro x r ihx ihr hk; simp only [AV.wfs, Bool.and_eq_true] at hk; simp [AV.gs, ihx hk.1, ihr hk.2]
theorem gs_congr {D : Nat → Bool} {ρ σ : Nat → Nat} (h : ∀ k, D k = true → ρ k = σ k) : ∀ l : List AV, AV.wfs D l = true → AV.gs ρ l = AV.gs σ l
  | [], _ => by simp [AV.gs]
  | x :: r, hk => by simp only [AV.wfs, Bool.and_eq_true] at hk; simp [AV.gs, g_congr h x hk.1, gs_congr h r hk.2]
theorem wf_mono {D D' : Nat → Bool} (h : ∀ k, D k = true → D' k = true) : ∀ x : AV, x.wf D = true → x.wf D' = true := by
  intro x
  refine AV.rec (motive_1 := fun x => x.wf D = true → x.wf D' = true) (motive_2 := fun l => AV.wfs D l = true → AV.wfs D' l = true) ?_ ?_ ?_ ?_ ?_ ?_ ?_ x
  · intro x _; simp [AV.wf]
  · intro k o hk; simp only [AV.wf] at *; exact h k hk
  · intro cs ih hk; simp only [AV.wf] at *; exact ih hk
  · intro cs ih hk; simp only [AV.wf] at *; exact ih hk
  · intro f a c iha ihc hk; simp only [AV.wf, Bool.and_eq_true] at *; exact ⟨iha hk.1, ihc hk.2⟩
  · intro _; simp [AV.wfs]
  · intro x r ihx ihr hk; simp only [AV.wfs, Bool.and_eq_true] at *; exact ⟨ihx hk.1, ihr hk.2⟩
theorem wfs_mono {D D' : Nat → Bool} (h : ∀ k, D k = true → D' k = true) (l : List AV) (hl : AV.wfs D l = true) : AV.wfs D' l = true := by
  rw [wfs_eq, List.all_eq_true] at *
  exact fun x hx => wf_mono h x (hl x hx)

structure ASt where
  tmps : Nat → Option AV
  blks : Nat → Option (List AV × TypeId)
  ver : Nat → Nat
def ASt.put (s : ASt) (d : Option Nat) (x : AV) : ASt := match d with
  | none => s
  | some d => { s with tmps := fun j => bif Nat.beq j d then some x else s.tmps j }
def ASt.set (s : ASt) (k : Nat) (c : List AV) (T : TypeId) : ASt := { s with blks := (fun j => bif Nat.beq j k then some (c, T) else s.blks j), ver := fun j => bif Nat.beq j k then s.ver j + 1 else s.ver j }
def ASt.D (s : ASt) : Nat → Bool := fun k => (s.blks k).isSome
def ASt.ev (s : ASt) : Operand → Option AV
  | .tmp t => s.tmps t
  | .const v => some (.v v)
  | .global g => some (.v (.pointer (some ⟨g, 0, none⟩)))
  | .func f => some (.fn (.func f) [] [])

inductive Sh where
  | one | agg (n : Nat) | tup (l : List (Bool × Nat))
def Sh.parts : List (Bool × Nat) → List AV → List AV
  | [], _ => []
  | (a, n) :: r, xs => (if a then .agg (xs.take n) else (xs.headD (.v undef))) :: Sh.parts r (xs.drop n)
def Sh.av : Sh → List AV → AV
  | .one, xs => xs.headD (.v undef)
  | .agg n, xs => .agg (xs.take n)
  | .tup l, xs => .tup (Sh.parts l xs)
def vs (ls : List Lf) (x : Tup ls) : List AV := (Tup.V ls x).map .v

abbrev Out := List (Nat × List AV × TypeId)
def updSem (t : TypeId) (m i x : Value) : Sem Value := do
  Instr.mapUpdate t m i x
  pure (.tuple #[])
inductive SOp where
  | other (s : Sem Value)
  | box (t : TypeId) (v : Value)
  | lit (t : TypeId) (n : Nat) (parts : Array (Nat × Value))
  | mk (t : TypeId) (l c : Value)
  | app (ts : Array TypeId) (ty : TypeId) (xs : Array Value)
  | cpy (ts : Array TypeId) (ty : TypeId) (xs : Array Value)
  | mlen (ts : Array TypeId) (ty : TypeId) (xs : Array Value)
  | mmk (t : TypeId)
  | mset (t : TypeId) (m i x : Value)
  | conv (a b : TypeId) (x : Value)
@[reducible] def SOp.sem : SOp → Sem Value
  | .other s => s
  | .box t v => Instr.box t v
  | .lit t n parts => Instr.buildSlice t n parts
  | .mk t l c => Instr.makeSlice t l c
  | .app ts ty xs => Builtin.append_ ts ty xs
  | .cpy ts ty xs => Builtin.copy_ ts ty xs
  | .mlen ts ty xs => Builtin.len_ ts ty xs
  | .mmk t => Instr.makeMap t none
  | .mset t m i x => updSem t m i x
  | .conv a b x => convert a b x
instance : Coe (Sem Value) SOp := ⟨.other⟩
inductive XT : Type where
  | done (r : AV) (out : Out)
  | bad (why : String)
  | die (v : AV)
  | need (c : Bool) (k : XT)
  | keep (a : Option Addr) (xs : List AV) (k : XT)
  | ld (a : Option Addr) (ls : List Lf) (k : Tup ls → XT)
  | sto (a : Option Addr) (xs : List AV) (ex : Out) (k : XT)
  | call (f : FuncId) (args : List AV) (ex : Out) (sh : Sh) (ls : List Lf) (les : List Nat) (k : Tup ls → XT)
  | sem (s : SOp) (ls : List Lf) (sh : Sh) (k : Tup ls → XT)
  | loop (ls : List Lf) (x : Tup ls) (lvl : Nat) (body : Tup ls → XT)
  | again (lvl : Nat) (ls : List Lf) (x : Tup ls)
  | cut (ls : List Lf) (lvl : Nat) (body : XT) (k : Tup ls → XT)
  | both (a b : XT)

structure Ext (Lu : Nat → Prop) (wu : World) (L : Nat → Prop) (w : World) : Prop where
  sub : ∀ b, Lu b → L b
  new : ∀ b, L b → ¬ Lu b → wu.heap.size ≤ b
  lt : ∀ b, L b → b < w.heap.size
  size : wu.heap.size ≤ w.heap.size
  keep : ∀ b, b < wu.heap.size → ¬ Lu b → w.heap[b]? = wu.heap[b]?
  same : w.os = wu.os ∧ w.tape = wu.tape ∧ w.output = wu.output
def Outs (ρ : Nat → Nat) (L : Nat → Prop) (w : World) : Out → Prop
  | [] => True
  | (k, c, T) :: r => (L (ρ k) ∧ w.heap[ρ k]? = some (.cells (AV.gs ρ c).toArray T (0, 0))) ∧ Outs ρ L w r
def Apart (ρ : Nat → Nat) : Out → Prop
  | [] => True
  | (k, _, _) :: r => (∀ x ∈ r, ρ x.1 ≠ ρ k) ∧ Apart ρ r
def segs {α : Type} : List Nat → List α → List (List α)
  | [], _ => []
  | n :: r, xs => xs.take n :: segs r (xs.drop n)
def Back (ρ : Nat → Nat) (w : World) : Out → List (List Value) → Prop
  | (k, _, T) :: r, c :: cs => w.heap[ρ k]? = some (.cells c.toArray T (0, 0)) ∧ Back ρ w r cs
  | [], _ => True
  | _ :: _, [] => False
def Keeps (ρ : Nat → Nat) (ex : Out) (L : Nat → Prop) (w w2 : World) : Prop :=
  w.heap.size ≤ w2.heap.size ∧ (w2.os = w.os ∧ w2.tape = w.tape ∧ w2.output = w.output) ∧ ∀ b, L b → (∀ x ∈ ex, ρ x.1 ≠ b) → w2.heap[b]? = w.heap[b]?
def Pin (pin : List (Nat × Nat)) (ρ : Nat → Nat) : Prop := ∀ q ∈ pin, ρ q.1 = q.2
abbrev Jt := Nat → (ls : List Lf) → Tup ls → (Nat → Prop) → World → Prop
def Jt.set (J : Jt) (n : Nat) (I : (ls : List Lf) → Tup ls → (Nat → Prop) → World → Prop) : Jt := fun m => if m = n then I else J m

section
variable (P : Program) (pin : List (Nat × Nat)) (R : Ending → World → Prop)
def XT.ok : XT → Jt → (Nat → Prop) → World → Prop
  | .done r out, _, Lu, wu => ∀ ρ L w, Pin pin ρ → Ext Lu wu L w → Outs ρ L w out → Apart ρ out → R (.returned (r.g ρ)) w
  | .bad _, _, _, _ => False
  | .die v, _, Lu, wu => ∀ ρ L w, Pin pin ρ → Ext Lu wu L w → R (.panicked [{ v := v.g ρ, recovered := false }]) w
  | .need c k, J, Lu, wu => c = true ∧ k.ok J Lu wu
  | .keep a xs k, J, Lu, wu => (∀ ad, a = some ad → ∀ j v, (AV.gs id xs)[j]? = some v → wu.cell? (ad.add j) = some v) ∧ k.ok J Lu wu
  | .ld a ls k, J, Lu, wu => ∃ ad x, a = some ad ∧ ad.spot = none ∧ ad.block < wu.heap.size ∧ ¬ Lu ad.block ∧ (∀ j v, (Tup.V ls x)[j]? = some v → wu.cell? (ad.add j) = some v) ∧ (k x).ok J Lu wu
  | .sto a xs ex k, J, Lu, wu => ∀ ρ L w, Pin pin ρ → Ext Lu wu L w → Outs ρ L w ex → ∃ ad, a = some ad ∧ ad.spot = none ∧ ¬ L ad.block ∧ (∀ j, j < xs.length → (w.cell? ⟨ad.block, ad.off + j, none⟩).isSome = true ∧ w.frozen? ⟨ad.block, ad.off + j, none⟩ = false) ∧ k.ok J L (w.setCells ad.block ad.off (AV.gs ρ xs))
  | .call f args ex sh ls les k, J, Lu, wu => ∀ ρ L w, Pin pin ρ → Ext Lu wu L w → Outs ρ L w ex → Apart ρ ex →
      Calls P f (AV.gs ρ args).toArray w fun e w2 => (∃ x, e = .returned ((sh.av (vs ls x)).g ρ) ∧ Back ρ w2 ex (segs les ((Tup.V ls x).drop (ls.length - les.sum))) ∧ Keeps ρ ex L w w2 ∧ (k x).ok J L w2) ∨ ∃ ps, e = .panicked ps ∧ R (.panicked ps) w2
  | .sem s ls sh k, J, Lu, wu => ∀ L w, Ext Lu wu L w → ∃ x w2, s.sem.run P w = .ok ((sh.av (vs ls x)).g id) w2 ∧ Keeps id [] L w w2 ∧ (k x).ok J L w2
  | .loop ls x lvl body, J, Lu, wu => ∃ I : Nat → Tup ls → (Nat → Prop) → World → Prop, (∃ n, I n x Lu wu) ∧ ∀ n y L w, I n y L w → (body y).ok (J.set lvl fun ls' z L' w' => ∃ h : ls' = ls, ∃ m, m < n ∧ I m (h ▸ z) L' w') L w
  | .again lvl ls x, J, Lu, wu => ∀ L w, Ext Lu wu L w → J lvl ls x L w
  | .cut ls lvl body k, J, Lu, wu => ∃ I : Tup ls → (Nat → Prop) → World → Prop, body.ok (J.set lvl fun ls' z L w => ∃ h : ls' = ls, I (h ▸ z) L w) Lu wu ∧ ∀ y L w, I y L w → (k y).ok J L w
  | .both a b, J, Lu, wu => a.ok J Lu wu ∧ b.ok J Lu wu
end
end Go.Proofs.YtcbpgbfbffnogaaGreatW.Rx
namespace Go.Proofs.YtcbpgbfbffnogaaGreatW.Rx
open Go
set_option linter.unusedVariables false
section
variable (P : Program)
def lfOf : TypeDesc → Option Lf
  | .int k => some (.i k) | .bool => some .b | .string => some .s | .slice _ => some .sl | .pointer _ => some .p | .map _ _ => some .m | _ => none
def leaves : Nat → TypeId → Option (List Lf)
  | 0, _ => none
  | n + 1, t => match P.underlying t with
    | some (.struct fs) => fs.toList.foldr (fun f acc => match leaves n f.type, acc with | some a, some b => some (a ++ b) | _, _ => none) (some [])
    | some (.array k e) => (leaves n e).map fun a => (List.replicate k a).flatten
    | some d => (lfOf d).map fun l => [l]
    | none => none
def isRow (t : TypeId) : Bool := match P.underlying t with
  | some d => d.isRow
  | none => false
def shOf (t : TypeId) : Option (Sh × List Lf) := match P.underlying t with
  | some (.tuple ts) => ts.toList.foldr (fun t acc => match leaves P 8 t, acc with
      | some a, some (.tup l, b) => some (.tup ((isRow P t, a.length) :: l), a ++ b)
      | _, _ => none) (some (.tup [], []))
  | some d => (leaves P 8 t).map fun a => (if d.isRow then .agg a.length else .one, a)
  | none => none
def pureV : Sem Next → Option Value
  | .pure (.value v) => some v
  | .program k => pureV (k P)
  | _ => none
def evs (ev : Operand → Option AV) : List Operand → Option (List AV)
  | [] => some []
  | x :: r => match ev x, evs ev r with
    | some a, some b => some (a :: b)
    | _, _ => none
def plains (ev : Operand → Option AV) : List Operand → Bool
  | [] => true
  | x :: r => match ev x with
    | some (.v _) => plains ev r
    | _ => false
def evv (ev : Operand → Option AV) (x : Operand) : Value := match ev x with
  | some (.v a) => a
  | _ => undef
def fillA (place : Nat → Option (Nat × Nat)) (cells : List AV) : List (Nat × AV) → Option (List AV)
  | [] => some cells
  | (i, v) :: rest => match place i with
    | none => none
    | some (off, size) => if v.cells.length ≠ size || off + v.cells.length > cells.length then none
      else fillA place (cells.take off ++ v.cells ++ cells.drop (off + v.cells.length)) rest
def buildA (t : TypeId) (parts : List (Nat × AV)) : Option (List AV) :=
  match P.info? t, P.underlying t with
  | some it, some (.array _ e) => match it.zero, P.info? e with
    | some z, some ie => fillA (fun i => some (i * ie.size, ie.size)) (z.cells.toList.map .v) parts
    | _, _ => none
  | some it, some (.struct fields) => match it.zero, fields.toList.mapM (fun f => (P.info? f.type).map fun i => (f.offset, i.size)) with
    | some z, some places => fillA (places.toArray[·]?) (z.cells.toList.map .v) parts
    | _, _ => none
  | _, _ => none
def eqCell : TypeDesc → AV → AV → Option Bool
  | .int _, .v (.int k a), .v (.int k' b) => if k = k' then some (a == b) else none
  | .bool, .v (.bool a), .v (.bool b) => some (a == b)
  | .string, .v (.string a), .v (.string b) => some (a.toList == b.toList)
  | _, _, _ => none
def eqFs (xs ys : List AV) : List Field → Option Bool
  | [] => some true
  | f :: r => if f.name == "_" then none else match P.underlying f.type, xs[f.offset]?, ys[f.offset]?, eqFs xs ys r with
    | some d, some a, some b, some q => (eqCell d a b).map fun p => p && q
    | _, _, _, _ => none
def eqIs (d : TypeDesc) (c : Nat) (xs ys : List AV) : List Nat → Option Bool
  | [] => some true
  | i :: r => match xs[i * c]?, ys[i * c]?, eqIs d c xs ys r with
    | some a, some b, some q => (eqCell d a b).map fun p => p && q
    | _, _, _ => none
def eqStruct (t : TypeId) (xs ys : List AV) : Option Bool := match P.underlying t with
  | some (.array n e) => if P.eqGuardType P.depth t then none else (match P.underlying e with
    | some d => eqIs d (P.cellsOf e) xs ys (List.range n)
    | none => none)
  | some (.struct fs) => if P.stoodInHeld t || P.eqGuardType P.depth t then none else eqFs P xs ys fs.toList
  | _ => none
inductive Eff where
  | val (x : AV)
  | alloc (c : List AV) (T : TypeId)
  | stb (key : Nat) (c : List AV) (T : TypeId)
  | chk (c : Bool) (x : AV)
  | ld (a : Option Addr) (ls : List Lf) (row : Bool)
  | sto (a : Option Addr) (xs : List AV)
  | call (f : FuncId) (args : List AV) (t : TypeId)
  | sem (s : SOp) (t : TypeId)
  | die (x : AV)
  | bad (why : String)
def callable (f : FuncId) : Bool := match P.funcs[f]? with
  | some fn => !(fn.name == "runtime.NumGoroutine") && fn.body.isSome
  | none => false
def extOf (f : FuncId) : Option (Array Value → Sem Value) := match P.funcs[f]? with
  | some fn => if (fn.name == "runtime.NumGoroutine") = false ∧ fn.body.isNone = true ∧ (Extern.findNext fn).isNone = true then Extern.find fn else none
  | none => none
def extSem (f : FuncId) (args : Array Value) : Sem Value := match extOf P f with
  | some e => e args
  | none => stuck "extern"
def orBad (x : Option AV) (why : String) : Eff := match x with
  | some a => .val a
  | none => .bad why
def pureE (ev : Operand → Option AV) (o : Oper) (ops : List Operand) : Eff :=
  if plains ev ops then orBad ((pureV P (execOp (evv ev) o)).map .v) "not pure" else .bad "not plain"
def lenMap (ev : Operand → Option AV) (b : Builtin) : List Operand → Bool
  | [x] => match b, ev x with
    | .len, some (.v (.map _)) => true
    | _, _ => false
  | _ => false
def liftP : Value → AV
  | .agg cs => .agg (cs.toList.map .v)
  | v => .v v
def liftV : Value → AV
  | .tuple vs => .tup (vs.toList.map liftP)
  | v => .v v
def leCap (h : Int) (cap : Nat) : Bool := match h with
  | .ofNat n => Nat.ble n cap
  | .negSucc _ => true
def cutBase (cap : Nat) (l : Int) (a : Option Addr) (n : Nat) : Option Addr := match l with
  | .ofNat 0 => a
  | .ofNat l => bif Nat.beq cap l then a else a.map (·.add (l * n))
  | .negSucc _ => a.map (·.add 0)
theorem leCap_eq (h : Int) (cap : Nat) : leCap h cap = decide (h ≤ (cap : Int)) := by
  cases h with
  | ofNat n =>
    show Nat.ble n cap = _
    by_cases e : n ≤ cap
    · rw [decide_eq_true (show (Int.ofNat n) ≤ (cap : Int) from Int.ofNat_le.2 e), Nat.ble_eq_true_of_le e]
    · rw [decide_eq_false (show ¬ (Int.ofNat n) ≤ (cap : Int) from fun h => e (Int.ofNat_le.1 h))]
      cases hb : Nat.ble n cap
      · rfl
      · exact absurd (Nat.le_of_ble_eq_true hb) e
  | negSucc n => exact (decide_eq_true (by omega)).symm
theorem cutBase_eq (cap : Nat) (l : Int) (a : Option Addr) (n : Nat) : cutBase cap l a n = if (cap : Int) = l then a else a.map (·.add (l.toNat * n)) := by
  cases l with
  | ofNat m =>
    cases m with
    | zero =>
      show a = _
      have h0 : (fun x : Addr => x.add ((Int.ofNat 0).toNat * n)) = id := by funext x; simp [Addr.add]
      rw [h0, Option.map_id]
      split <;> rfl
    | succ m =>
      show (bif Nat.beq cap (m + 1) then a else a.map (·.add ((m + 1) * n))) = _
      by_cases e : cap = m + 1
      · subst e
        rw [Nat.beq_refl, cond_true]
        exact (if_pos rfl).symm
      · have hb : Nat.beq cap (m + 1) = false := by
          cases h : Nat.beq cap (m + 1)
          · rfl
          · exact absurd (Nat.eq_of_beq_eq_true h) e
        rw [hb, cond_false, if_neg (show ¬ ((cap : Int) = Int.ofNat (m + 1)) from fun h => e (Int.ofNat.inj h))]
        rfl
  | negSucc m =>
    show a.map (·.add 0) = _
    rw [if_neg (by omega)]
    simp
def farArr (t : TypeId) (d : Option Nat) : Bool := match d, P.underlying t with
  | some d, some (.array _ _) => Nat.blt 4 d
  | _, _ => false
def ptrT : TypeId := ((List.range P.types.size).find? fun i => match P.underlying i with
  | some (.pointer _) => true
  | _ => false).getD 0
def core (ev : Operand → Option AV) (blks : Nat → Option (List AV × TypeId)) (o : Oper) : Eff :=
  match o.op with
  | .move x => orBad (ev x) "move"
  | .assign x => orBad (ev x) "assign"
  | .pick c a b => match ev c with
    | some (.v (.bool true)) => orBad (ev a) "pick"
    | some (.v (.bool false)) => orBad (ev b) "pick"
    | _ => .bad "pick"
  | .alloc t => match (P.info? t).bind (·.zero) with
    | some z => if farArr P t o.dst then .sem (.box t z) (ptrT P) else .alloc (z.cells.toList.map .v) t
    | none => .bad "alloc"
  | .box t x => match ev x with
    | some a => if a.cells.all AV.one then (if Nat.beq o.type 0 || !a.wf (fun _ => false) then .alloc a.cells t else .sem (.box t (a.g id)) o.type) else .bad "box"
    | none => .bad "box"
  | .load t a => match ev a with
    | some (.p key off) => match blks key with
      | some (c, _) => match P.underlying t with
        | some d => if d.isRow then (if off + P.cellsOf t ≤ c.length && (P.info? t).isSome then .val (.agg ((c.drop off).take (P.cellsOf t))) else .bad "load row") else orBad c[off]? "load cell"
        | none => .bad "load type"
      | none => .bad "load: no such block"
    | some (.v (.pointer q)) => match P.underlying t, leaves P 8 t with
      | some d, some ls => if d.isRow then (if (P.info? t).map (·.size) = some ls.length then .ld q ls true else .bad "load") else (if ls.length = 1 then .ld q ls false else .bad "load")
      | _, _ => .bad "load far type"
    | _ => .bad "load"
  | .store t a x => match ev a, ev x with
    | some (.p key off), some v => match blks key with
      | some (c, T) => if (P.info? t).map (·.size) = some v.cells.length && off + v.cells.length ≤ c.length && v.cells.all AV.one then .stb key (c.take off ++ v.cells ++ c.drop (off + v.cells.length)) T else .bad "store"
      | none => .bad "store: no such block"
    | some (.v (.pointer q)), some v => if (P.info? t).map (·.size) = some v.cells.length && v.cells.all AV.one then .sto q v.cells else .bad "store"
    | _, _ => .bad "store"
  | .nilCheck x => match ev x with
    | some (.p k o) => .val (.p k o)
    | some (.v (.pointer q)) => .chk q.isSome (.v (.pointer q))
    | some (.fn (.func f) a c) => .val (.fn (.func f) a c)
    | some (.v (.func (.func f) a c)) => .val (.v (.func (.func f) a c))
    | _ => .bad "nilCheck"
  | .binOp op t x y _ => match op, ev x, ev y with
    | .quo, some (.v (.int k a)), some (.v (.int k' b)) => if k = k' then .chk (decide (b ≠ 0)) (.v (.int k (k.wrap (a.tdiv b)))) else .bad "quo"
    | .rem, some (.v (.int k a)), some (.v (.int k' b)) => if k = k' then .chk (decide (b ≠ 0)) (.v (.int k (a.tmod b))) else .bad "rem"
    | .shl, some (.v (.int k a)), some (.v (.int _ b)) => .chk (decide (0 ≤ b)) (.v (.int k (k.wrap (a * 2 ^ (min b.toNat k.bits)))))
    | .shr, some (.v (.int k a)), some (.v (.int _ b)) => .chk (decide (0 ≤ b)) (.v (.int k (a.fdiv (2 ^ (min b.toNat k.bits)))))
    | .eql, some (.p _ _), some (.v (.pointer none)) => (match P.underlying t with | some (.pointer _) => .val (.v (.bool false)) | _ => .bad "eql")
    | .neq, some (.p _ _), some (.v (.pointer none)) => (match P.underlying t with | some (.pointer _) => .val (.v (.bool true)) | _ => .bad "neq")
    | .eql, some (.v (.pointer q)), some (.v (.pointer none)) => (match P.underlying t with | some (.pointer _) => .val (.v (.bool q.isNone)) | _ => .bad "eql")
    | .neq, some (.v (.pointer q)), some (.v (.pointer none)) => (match P.underlying t with | some (.pointer _) => .val (.v (.bool !q.isNone)) | _ => .bad "neq")
    | .eql, some (.v (.slice q _ _)), some (.v (.slice none _ _)) => (match P.underlying t with | some (.slice _) => .val (.v (.bool q.isNone)) | _ => .bad "eql")
    | .neq, some (.v (.slice q _ _)), some (.v (.slice none _ _)) => (match P.underlying t with | some (.slice _) => .val (.v (.bool !q.isNone)) | _ => .bad "neq")
    | .eql, some (.v (.map q)), some (.v (.map none)) => (match P.underlying t with | some (.map _ _) => .val (.v (.bool q.isNone)) | _ => .bad "eql")
    | .neq, some (.v (.map q)), some (.v (.map none)) => (match P.underlying t with | some (.map _ _) => .val (.v (.bool !q.isNone)) | _ => .bad "neq")
    | .eql, some (.agg xs), some (.agg ys) => (match eqStruct P t xs ys with | some b => .val (.v (.bool b)) | none => .bad "eql")
    | .neq, some (.agg xs), some (.agg ys) => (match eqStruct P t xs ys with | some b => .val (.v (.bool !b)) | none => .bad "neq")
    | .add, some (.v (.string a)), some (.v (.string b)) => (match P.underlying t with | some .string => .sem (.other (Op.stringOp .add a b)) o.type | _ => .bad "add")
    | _, _, _ => pureE P ev o [x, y]
  | .unOp _ _ x => pureE P ev o [x]
  | .convert src dst x => match P.underlying src, P.underlying dst with
    | some (.int _), some (.int _) => pureE P ev o [x]
    | some (.string), some (.string) => pureE P ev o [x]
    | _, _ => if plains ev [x] then .sem (.conv src dst (evv ev x)) o.type else .bad "convert"
  | .makeInterface t x => match ev x with
    | some (.agg cs) => if AV.wfs (fun _ => false) cs then (match pureV P (execOp (fun _ => (AV.agg cs).g id) o) with
        | some y => .val (.v y)
        | none => .bad "makeInterface") else .bad "makeInterface: what is told"
    | _ => pureE P ev o [x]
  | .makeFunc fn first cap => match evs ev first.toList, evs ev cap.toList with
    | some a, some c => .val (.fn fn a c)
    | _, _ => .bad "makeFunc"
  | .fieldAddr s x f => match P.underlying s with
    | some (.struct fs) => match fs[f]? with
      | some fd => if P.cellsOf fd.type ≠ 0 then (match ev x with
          | some (.p k off) => .val (.p k (off + fd.offset))
          | some (.v (.pointer q)) => .chk q.isSome (.v (.pointer (q.map (·.add fd.offset))))
          | _ => .bad "fieldAddr") else .bad "fieldAddr size"
      | none => .bad "fieldAddr field"
    | _ => .bad "fieldAddr type"
  | .field t x f => match P.underlying t, ev x with
    | some (.struct fs), some (.agg cs) => match fs[f]? with
      | some fd => match P.underlying fd.type with
        | some d => if d.isRow then (if fd.offset + P.cellsOf fd.type ≤ cs.length && (P.info? fd.type).isSome then .val (.agg ((cs.drop fd.offset).take (P.cellsOf fd.type))) else .bad "field") else orBad cs[fd.offset]? "field"
        | none => .bad "field"
      | none => .bad "field"
    | _, _ => .bad "field"
  | .indexAddr t x ix => match P.underlying t, ev x, ev ix with
    | some (.slice e), some (.v (.slice base len _)), some (.v (.int k n)) => if (P.info? e).isSome then .chk (decide (0 ≤ n) && decide (n < (len : Int)) && base.isSome) (.v (.pointer (base.map (·.add (n.toNat * P.cellsOf e))))) else .bad "indexAddr"
    | some (.array m e), some (.p key off), some (.v (.int k n)) => if (P.info? e).isSome then .chk (decide (0 ≤ n) && decide (n < (m : Int))) (.p key (off + n.toNat * P.cellsOf e)) else .bad "indexAddr"
    | some (.array m e), some (.v (.pointer q)), some (.v (.int k n)) => if (P.info? e).isSome then .chk (decide (0 ≤ n) && decide (n < (m : Int)) && q.isSome) (.v (.pointer (q.map (·.add (n.toNat * P.cellsOf e))))) else .bad "indexAddr"
    | _, _, _ => .bad "indexAddr"
  | .index t x ix => match ev x, ev ix with
    | some (.v (.string s)), some (.v (.int k n)) => (match P.underlying t with | some .string => .chk (decide (0 ≤ n) && decide (n < (s.size : Int))) (.v (.int .u8 ((s[n.toNat]?.getD 0).toNat : Int))) | _ => .bad "index")
    | _, _ => .bad "index"
  | .slice t x lo hi none => match P.underlying t, ev x, (match lo with | none => some (AV.v (.int .i64 0)) | some l => ev l) with
    | some (.slice e), some (.v (.slice a len cap)), some (.v (.int k l)) => if (P.info? e).isSome then (match (match hi with | none => some (AV.v (.int .i64 (len : Int))) | some h => ev h) with
        | some (.v (.int k' h)) => .chk (decide (0 ≤ l) && decide (l ≤ h) && leCap h (if hi.isSome then cap else len)) (.v (.slice (cutBase cap l a (P.cellsOf e)) (h.toNat - l.toNat) (cap - l.toNat)))
        | _ => .bad "slice") else .bad "slice"
    | some (.array n e), some (.v (.pointer q)), _ => if lo.isNone && hi.isNone && (P.info? e).isSome then .chk q.isSome (.v (.slice q n n)) else .bad "slice"
    | _, _, _ => .bad "slice"
  | .build t parts => match evs ev (parts.toList.map (·.2)) with
    | some xs => if xs.all (fun x => x.cells.all AV.one) then (match buildA P t ((parts.toList.map (·.1)).zip xs) with
      | some c => .val (.agg c)
      | none => .bad "build") else .bad "build part"
    | none => .bad "build operand"
  | .buildSlice t len parts => match evs ev (parts.toList.map (·.2)) with
    | some xs => if (AV.wfs (fun _ => false) xs) then .sem (.lit t len ((parts.toList.map (·.1)).zip (AV.gs id xs)).toArray) o.type else .bad "buildSlice"
    | none => .bad "buildSlice"
  | .extract t ix => match ev t with
    | some (.tup vs) => orBad vs[ix]? "extract"
    | _ => .bad "extract"
  | .makeSlice t l c => if plains ev [l, c] then .sem (.mk t (evv ev l) (evv ev c)) o.type else .bad "makeSlice"
  | .call c => match c.callee with
    | .value fo => match ev fo, evs ev c.args.toList with
      | some (.fn (.func f) first cap), some args => if callable P f then .call f (first ++ args ++ cap) o.type else if (extOf P f).isSome && first.isEmpty && cap.isEmpty && plains ev c.args.toList then .sem (.other (extSem P f (c.args.map (evv ev)))) o.type else .bad "call"
      | some (.v (.func (.func f) first cap)), some args => if callable P f then .call f (first.toList.map .v ++ args ++ cap.toList.map .v) o.type else if (extOf P f).isSome && first.toList.isEmpty && cap.toList.isEmpty && plains ev c.args.toList then .sem (.other (extSem P f (c.args.map (evv ev)))) o.type else .bad "call"
      | _, _ => .bad "call"
    | .builtin b => if plains ev c.args.toList then (match b with
        | .append => .sem (.app c.argTypes o.type (c.args.map (evv ev))) o.type
        | .copy => .sem (.cpy c.argTypes o.type (c.args.map (evv ev))) o.type
        | .delete => .sem (.other (Builtin.delete_ c.argTypes o.type (c.args.map (evv ev)))) o.type
        | .clear => .sem (.other (Builtin.clear_ c.argTypes o.type (c.args.map (evv ev)))) o.type
        | _ => if lenMap ev b c.args.toList then .sem (.mlen c.argTypes o.type (c.args.map (evv ev))) o.type else (match pureV P (execOp (evv ev) o) with
          | some v => .val (.v v)
          | none => (match b with
            | .len => .sem (.mlen c.argTypes o.type (c.args.map (evv ev))) o.type
            | _ => .bad "builtin")))
      else (match b, evs ev c.args.toList with
        | .append, some xs => if AV.wfs (fun _ => false) xs then .sem (.app c.argTypes o.type (AV.gs id xs).toArray) o.type else .bad "append"
        | _, _ => .bad "builtin")
    | .invoke _ _ => .bad "invoke"
  | .makeMap t r => (match r with
    | none => .sem (.mmk t) o.type
    | some _ => .bad "makeMap")
  | .lookup t x i ok => if plains ev [x, i] then .sem (.other (Instr.lookup t (evv ev x) (evv ev i) ok)) o.type else .bad "lookup"
  | .mapUpdate t m i x => if o.dst.isNone then (match evs ev [m, i, x] with
    | some [a, b, c] => if AV.wfs (fun _ => false) [a, b, c] then .sem (.mset t (a.g id) (b.g id) (c.g id)) o.type else .bad "mapUpdate: what is told"
    | _ => .bad "mapUpdate") else .bad "mapUpdate"
  | .sliceToArrayPointer t x => match P.underlying t, ev x with
    | some (.array n _), some (.v (.slice a len _)) => .chk (Nat.ble n len) (.v (.pointer a))
    | _, _ => .bad "sliceToArrayPointer"
  | .typeAssert x _ _ _ => if plains ev [x] then (match pureV P (execOp (evv ev) o) with
      | some v => .val (liftV v)
      | none => .bad "typeAssert") else .bad "typeAssert"
  | .panic x => match ev x with
    | some (.v (.iface t y)) => .die (.v (.iface t y))
    | _ => .bad "panic"
  | _ => .bad "operation"
end
end Go.Proofs.YtcbpgbfbffnogaaGreatW.Rx
namespace Go.Proofs.YtcbpgbfbffnogaaGreatW.Rx
open Go
set_option linter.unusedVariables false
set_option linter.unusedSimpArgs false
section
variable {P : Program} {ρ : Nat → Nat} {D : Nat → Bool} {ev : Operand → Option AV} {blks : Nat → Option (List AV × TypeId)} {o : Oper} {a : Act} {w : World} {x y c : Operand} {t : TypeId}
abbrev runs (P : Program) (o : Oper) (a : Act) (w : World) : Result Next := (execOp a.eval o).run P w
def CoreOK (P : Program) (ρ : Nat → Nat) (D : Nat → Bool) (blks : Nat → Option (List AV × TypeId)) (o : Oper) (a : Act) (w : World) : Eff → Prop
  | .val x => x.wf D = true ∧ runs P o a w = .ok (.value (x.g ρ)) w
  | .alloc c T => AV.wfs D c = true ∧ runs P o a w = .ok (.value (.pointer (some ⟨w.heap.size, 0, none⟩))) { w with heap := w.heap.push (.cells (AV.gs ρ c).toArray T) }
  | .stb key c T => AV.wfs D c = true ∧ ∃ c0, blks key = some (c0, T) ∧ ∃ w', runs P o a w = .ok .skip w' ∧ (w'.os = w.os ∧ w'.tape = w.tape ∧ w'.output = w.output) ∧ w'.heap.size = w.heap.size ∧ w'.heap[ρ key]? = some (.cells (AV.gs ρ c).toArray T (0, 0)) ∧ ∀ b, b ≠ ρ key → w'.heap[b]? = w.heap[b]?
  | .chk c x => x.wf D = true ∧ (c = true → runs P o a w = .ok (.value (x.g ρ)) w)
  | .ld q ls row => ∀ ad (x : Tup ls), q = some ad → ad.spot = none → (∀ j v, (Tup.V ls x)[j]? = some v → w.cell? (ad.add j) = some v) → runs P o a w = .ok (.value (if row then .agg (Tup.V ls x).toArray else (Tup.V ls x).headD undef)) w
  | .sto q xs => AV.wfs D xs = true ∧ ∀ ad, q = some ad → ad.spot = none → (∀ j, j < xs.length → (w.cell? ⟨ad.block, ad.off + j, none⟩).isSome = true ∧ w.frozen? ⟨ad.block, ad.off + j, none⟩ = false) → runs P o a w = .ok .skip (w.setCells ad.block ad.off (AV.gs ρ xs))
  | .call f args t => AV.wfs D args = true ∧ runs P o a w = .ok (.enter f (AV.gs ρ args).toArray) w
  | .sem s t => ∀ v w', s.sem.run P w = .ok v w' → runs P o a w = .ok (.value v) w' ∨ o.dst = none ∧ runs P o a w = .ok .skip w'
  | .die x => x.wf D = true ∧ runs P o a w = .halt (.panic (x.g ρ)) w
  | .bad _ => True
structure Env (ρ : Nat → Nat) (D : Nat → Bool) (ev : Operand → Option AV) (blks : Nat → Option (List AV × TypeId)) (a : Act) (w : World) : Prop where
  ev : ∀ x av, ev x = some av → a.eval x = av.g ρ ∧ av.wf D = true
  blk : ∀ k c T, blks k = some (c, T) → w.heap[ρ k]? = some (.cells (AV.gs ρ c).toArray T (0, 0)) ∧ AV.wfs D c = true

theorem pureV_ok : ∀ (s : Sem Next) (v : Value), pureV P s = some v → s.run P w = .ok (.value v) w
  | .pure n, v, h => by cases n <;> simp only [pureV] at h <;> first | (cases h; rfl) | cases h
  | .program k, v, h => by simp only [pureV] at h; exact pureV_ok (k P) v h
  | .load .., v, h | .store .., v, h | .new .., v, h | .shape .., v, h | .freeze .., v, h | .frozen .., v, h | .getObj .., v, h | .setObj .., v, h | .choose .., v, h | .sys .., v, h | .mark .., v, h | .halt .., v, h => by simp [pureV] at h
theorem evs_ok (E : Env ρ D ev blks a w) : ∀ (xs : List Operand) (l : List AV), evs ev xs = some l → xs.map a.eval = AV.gs ρ l ∧ AV.wfs D l = true ∧ xs.length = l.length
  | [], l, h => by simp only [evs] at h; cases h; simp [AV.gs, AV.wfs]
  | x :: r, l, h => by
    simp only [evs] at h
    split at h
    · rename_i av bs h1 h2
      cases h
      obtain ⟨e1, e2⟩ := E.ev x av h1
      obtain ⟨e3, e4, e5⟩ := evs_ok E r bs h2
      simp [AV.gs, AV.wfs, e1, e2, e3, e4, e5]
    · cases h
theorem evv_ok (E : Env ρ D ev blks a w) : ∀ (xs : List Operand), plains ev xs = true → ∀ x ∈ xs, a.eval x = evv ev x
  | [], _, x, hx => by cases hx
  | y :: r, h, x, hx => by
    simp only [plains] at h
    split at h
    · rename_i av h1
      cases hx with
      | head => have := (E.ev y _ h1).1; simp [evv, h1, this, AV.g]
      | tail _ hx => exact evv_ok E r h x hx
    · cases h
theorem orBad_ok {x : Option AV} (h : ∀ av, x = some av → av.wf D = true ∧ runs P o a w = .ok (.value (av.g ρ)) w) (why : String) : CoreOK P ρ D blks o a w (orBad x why) := by
  cases x with
  | none => exact trivial
  | some av => exact h av rfl
theorem execOp_congr' {ops : List Operand} (hs : ∀ cs b, o.op ≠ .select cs b) (ho : ∀ x ∈ o.op.operands, x ∈ ops) (h : ∀ x ∈ ops, a.eval x = evv ev x) : execOp a.eval o = execOp (evv ev) o :=
  execOp_congr o hs (fun x hx => h x (ho x hx))
theorem pureE_ok (E : Env ρ D ev blks a w) (ops : List Operand) (hs : ∀ cs b, o.op ≠ .select cs b) (ho : ∀ x ∈ o.op.operands, x ∈ ops) : CoreOK P ρ D blks o a w (pureE P ev o ops) := by
  unfold pureE
  split
  · rename_i hp
    refine orBad_ok (fun av hav => ?_) _
    rw [Option.map_eq_some_iff] at hav
    obtain ⟨v, hv, rfl⟩ := hav
    refine ⟨rfl, ?_⟩
    unfold runs
    rw [execOp_congr' (ev := ev) hs ho (evv_ok E ops hp)]
    simpa [AV.g] using pureV_ok _ v hv
  · exact trivial
theorem ok_move (E : Env ρ D ev blks a w) (h : o.op = .move x) : CoreOK P ρ D blks o a w (core P ev blks o) := by
  simp only [core, h]
  exact orBad_ok (fun av hav => ⟨(E.ev x av hav).2, by simp [runs, execOp, h, (E.ev x av hav).1]⟩) _
theorem ok_assign (E : Env ρ D ev blks a w) (h : o.op = .assign x) : CoreOK P ρ D blks o a w (core P ev blks o) := by
  simp only [core, h]
  exact orBad_ok (fun av hav => ⟨(E.ev x av hav).2, by simp [runs, execOp, h, (E.ev x av hav).1]⟩) _
theorem ok_pick (E : Env ρ D ev blks a w) (h : o.op = .pick c x y) : CoreOK P ρ D blks o a w (core P ev blks o) := by
  simp only [core, h]
  split
  · rename_i hc
    exact orBad_ok (fun av hav => ⟨(E.ev x av hav).2, by simp [runs, execOp, h, (E.ev x av hav).1, (E.ev c _ hc).1, AV.g, asBool]⟩) _
  · rename_i hc
    exact orBad_ok (fun av hav => ⟨(E.ev y av hav).2, by simp [runs, execOp, h, (E.ev y av hav).1, (E.ev c _ hc).1, AV.g, asBool]⟩) _
  · exact trivial
theorem gs_v (l : List Value) : AV.gs ρ (l.map .v) = l := by rw [gs_eq, List.map_map]; simp [Function.comp_def, AV.g]
theorem wfs_v (l : List Value) : AV.wfs D (l.map .v) = true := by rw [wfs_eq]; simp [AV.wf]
theorem ok_alloc (E : Env ρ D ev blks a w) (h : o.op = .alloc t) : CoreOK P ρ D blks o a w (core P ev blks o) := by
  simp only [core, h]
  split
  · rename_i z hz
    rw [Option.bind_eq_some_iff] at hz
    obtain ⟨i, hi, hz⟩ := hz
    split
    · intro v w' hr
      simp only [SOp.sem] at hr
      left
      simp [Instr.box, newVar, newRow] at hr
      obtain ⟨rfl, rfl⟩ := hr
      simp [runs, execOp, h, Instr.alloc, zeroValue, typeInfo, hi, hz, newVar, newRow]
    · refine ⟨wfs_v _, ?_⟩
      simp [runs, execOp, h, Instr.alloc, zeroValue, typeInfo, hi, hz, newVar, newRow, gs_v]
  · exact trivial
theorem cells_g (x : AV) (h : x.cells.all AV.one = true) : (x.g ρ).cells = (AV.gs ρ x.cells).toArray := by
  cases x with
  | v x =>
    simp only [AV.cells, List.all_cons, List.all_nil, Bool.and_true, AV.one] at h
    cases x <;> simp [Value.oneCell'] at h <;> simp [AV.g, AV.gs, AV.cells, Value.cells]
  | p k off => simp [AV.g, AV.gs, AV.cells, Value.cells]
  | agg cs => simp [AV.g, AV.cells, Value.cells]
  | tup vs => simp [AV.cells, AV.one] at h
  | fn f x y => simp [AV.g, AV.gs, AV.cells, Value.cells]
theorem wf_cells (x : AV) (h : x.wf D = true) : AV.wfs D x.cells = true := by
  cases x <;> simp_all [AV.cells, AV.wf, AV.wfs]
theorem ok_box (E : Env ρ D ev blks a w) (h : o.op = .box t x) : CoreOK P ρ D blks o a w (core P ev blks o) := by
  simp only [core, h]
  split
  · rename_i av hav
    split
    · rename_i h1
      split
      · refine ⟨wf_cells _ (E.ev x av hav).2, ?_⟩
        simp [runs, execOp, h, Instr.box, newVar, newRow, (E.ev x av hav).1, cells_g _ h1]
      · rename_i hw
        have hw : av.wf (fun _ => false) = true := by
          cases hc : av.wf (fun _ => false) with
          | true => rfl
          | false => rw [hc] at hw; simp at hw
        intro v w' hr
        simp only [SOp.sem] at hr
        left
        have e : a.eval x = av.g id := by rw [(E.ev x av hav).1]; exact g_congr (D := fun _ => false) (fun k hk => by cases hk) av hw
        simp only [runs, execOp, h, Sem.run_bind, e, hr, Result.andThen_ok]
        rfl
    · exact trivial
  · exact trivial
theorem ok_panic (E : Env ρ D ev blks a w) (h : o.op = .panic x) : CoreOK P ρ D blks o a w (core P ev blks o) := by
  simp only [core, h]
  split
  · rename_i t y hx
    refine ⟨rfl, ?_⟩
    simp [runs, execOp, h, (E.ev x _ hx).1, AV.g, Instr.panic, goPanic]
  · exact trivial
theorem gs_drop (n : Nat) (l : List AV) : AV.gs ρ (l.drop n) = (AV.gs ρ l).drop n := by simp [gs_eq]
theorem gs_take (n : Nat) (l : List AV) : AV.gs ρ (l.take n) = (AV.gs ρ l).take n := by simp [gs_eq]
theorem gs_append (l m : List AV) : AV.gs ρ (l ++ m) = AV.gs ρ l ++ AV.gs ρ m := by simp [gs_eq]
theorem wfs_drop (n : Nat) (l : List AV) (h : AV.wfs D l = true) : AV.wfs D (l.drop n) = true := by
  rw [wfs_eq, List.all_eq_true] at *; exact fun x hx => h x (List.mem_of_mem_drop hx)
theorem wfs_take (n : Nat) (l : List AV) (h : AV.wfs D l = true) : AV.wfs D (l.take n) = true := by
  rw [wfs_eq, List.all_eq_true] at *; exact fun x hx => h x (List.mem_of_mem_take hx)
theorem wfs_append (l m : List AV) (h : AV.wfs D l = true) (h' : AV.wfs D m = true) : AV.wfs D (l ++ m) = true := by
  rw [wfs_eq, List.all_append, Bool.and_eq_true, ← wfs_eq, ← wfs_eq]; exact ⟨h, h'⟩
theorem gs_get (l : List AV) (n : Nat) (x : AV) (h : l[n]? = some x) : (AV.gs ρ l)[n]? = some (x.g ρ) := by simp [gs_eq, h]
theorem wfs_get (l : List AV) (n : Nat) (x : AV) (h : l[n]? = some x) (hl : AV.wfs D l = true) : x.wf D = true := by
  rw [wfs_eq, List.all_eq_true] at hl; exact hl x (List.mem_of_getElem? h)
theorem isAgg_run {t : TypeId} {d : TypeDesc} (h : P.underlying t = some d) : (isAgg t).run P w = .ok d.isRow w := by
  unfold isAgg
  rw [Sem.run_bind, run_underlying h w]
  cases d <;> rfl
theorem range_of {g off n : Nat} {c : List Value} {T : TypeId} (h : w.heap[g]? = some (.cells c.toArray T (0, 0))) : w.rangeAt g off ((c.drop off).take n) := by
  intro j v hv
  rw [cell_of_row w g _ _ T (0, 0) h]
  rw [List.getElem?_take, List.getElem?_drop] at hv
  split at hv
  · simpa using hv
  · cases hv
theorem ok_load (E : Env ρ D ev blks a w) (h : o.op = .load t x) : CoreOK P ρ D blks o a w (core P ev blks o) := by
  simp only [core, h]
  split
  · rename_i key off hx
    obtain ⟨e1, e2⟩ := E.ev x _ hx
    split
    · rename_i c T hb
      obtain ⟨hb1, hb2⟩ := E.blk key c T hb
      split
      · rename_i d hd
        split
        · rename_i hr
          split
          · rename_i hl
            simp only [Bool.and_eq_true, decide_eq_true_eq] at hl
            obtain ⟨i, hi⟩ := Option.isSome_iff_exists.1 hl.2
            refine ⟨by simp only [AV.wf]; exact wfs_take _ _ (wfs_drop _ _ hb2), ?_⟩
            have hsz : (P.info? t).map (·.size) = some ((AV.gs ρ c).drop off |>.take (P.cellsOf t)).length := by
              rw [List.length_take, List.length_drop, gs_len, hi, Nat.min_eq_left (by omega)]
              simp [Program.cellsOf, hi]
            have hrun := run_loadVar_mid (P := P) w (ρ key) off t _ d (range_of (n := P.cellsOf t) hb1) hd hr hsz
            simp [runs, execOp, h, e1, AV.g, Instr.loadAt, Instr.sureAddr, hrun, gs_take, gs_drop]
          · exact trivial
        · rename_i hr
          refine orBad_ok (fun av hav => ⟨wfs_get _ _ _ hav hb2, ?_⟩) _
          have hc := gs_get (ρ := ρ) _ _ _ hav
          have hcell : w.cell? ⟨ρ key, off, none⟩ = some (av.g ρ) := by rw [cell_of_row w _ _ _ T (0, 0) hb1]; simpa using hc
          have hr' : d.isRow = false := by simpa using hr
          simp [runs, execOp, h, e1, AV.g, Instr.loadAt, Instr.sureAddr, loadVar, isAgg_run hd, hr', hcell]
      · exact trivial
    · exact trivial
  · rename_i q hx
    obtain ⟨e1, e2⟩ := E.ev x _ hx
    split
    · rename_i d ls hd hls
      split
      · rename_i hr
        split
        · rename_i hsz
          intro ad x hq hs hc
          subst hq
          have hl : (loadCells ad (Tup.V ls x).length).run P w = .ok (Tup.V ls x).toArray w := run_loadCells_list (P := P) w ad _ hc
          have hlen : (Tup.V ls x).length = ls.length := by
            clear hl hc hsz hls hx
            induction ls with
            | nil => rfl
            | cons l r ih => simp [Tup.V, ih]
          cases hi : P.info? t with
          | none => simp [hi] at hsz
          | some i =>
            have hz : i.size = ls.length := by simpa [hi] using hsz
            simp [runs, execOp, h, e1, AV.g, Instr.loadAt, Instr.sureAddr, loadVar, isAgg_run hd, hr, sizeOf, typeInfo, hi, hz, ← hlen, hl]
        · exact trivial
      · rename_i hr
        split
        · rename_i h1
          intro ad x hq hs hc
          subst hq
          have hr' : d.isRow = false := by simpa using hr
          match ls, x, h1 with
          | [l], x, _ =>
            have h0 := hc 0 (l.V x.1) rfl
            rw [show ad.add 0 = ad from rfl] at h0
            simp [runs, execOp, h, e1, AV.g, Instr.loadAt, Instr.sureAddr, loadVar, isAgg_run hd, hr', h0, Tup.V]
        · exact trivial
    · exact trivial
  · exact trivial
end
end Go.Proofs.YtcbpgbfbffnogaaGreatW.Rx
namespace Go.Proofs.YtcbpgbfbffnogaaGreatW.Rx
open Go
set_option linter.unusedVariables false
set_option linter.unusedSimpArgs false
section
variable {P : Program} {ρ : Nat → Nat} {D : Nat → Bool} {ev : Operand → Option AV} {blks : Nat → Option (List AV × TypeId)} {o : Oper} {a : Act} {w : World} {x y c : Operand} {t : TypeId}
theorem one_g (x : AV) (h : x.one = true) : (x.g ρ).oneCell' = true := by
  cases x <;> simp_all [AV.one, AV.g, Value.oneCell']
theorem ones_g (l : List AV) (h : l.all AV.one = true) : ∀ v ∈ AV.gs ρ l, v.oneCell' = true := by
  intro v hv
  rw [gs_eq, List.mem_map] at hv
  obtain ⟨x, hx, rfl⟩ := hv
  exact one_g x (List.all_eq_true.1 h x hx)
theorem setRow_facts (g : Nat) (cs cur : Array Value) (T : TypeId) (hg : w.heap[g]? = some (.cells cur T (0, 0))) :
    ((w.setRow g cs).os = w.os ∧ (w.setRow g cs).tape = w.tape ∧ (w.setRow g cs).output = w.output) ∧ (w.setRow g cs).heap.size = w.heap.size ∧ (w.setRow g cs).heap[g]? = some (.cells cs T (0, 0)) ∧ ∀ b, b ≠ g → (w.setRow g cs).heap[b]? = w.heap[b]? := by
  refine ⟨⟨rfl, rfl, rfl⟩, by simp [World.setRow], setRow_heap w g cur cs T _ hg, fun b hb => ?_⟩
  simp only [World.setRow, Array.getElem?_modify]
  rw [if_neg (fun e => hb e.symm)]
theorem ok_store (E : Env ρ D ev blks a w) (h : o.op = .store t x y) : CoreOK P ρ D blks o a w (core P ev blks o) := by
  simp only [core, h]
  split
  · rename_i key off v hx hy
    obtain ⟨e1, e2⟩ := E.ev x _ hx
    obtain ⟨e3, e4⟩ := E.ev y _ hy
    split
    · rename_i c T hb
      obtain ⟨hb1, hb2⟩ := E.blk key c T hb
      split
      · rename_i hc
        simp only [Bool.and_eq_true, decide_eq_true_eq] at hc
        obtain ⟨⟨hc1, hc2⟩, hc3⟩ := hc
        have hv := wf_cells v e4
        refine ⟨wfs_append _ _ (wfs_append _ _ (wfs_take _ _ hb2) hv) (wfs_drop _ _ hb2), c, hb, ?_⟩
        have hrun := run_storeCells_at (P := P) (ρ key) off T (AV.gs ρ v.cells) 0 (AV.gs ρ c).toArray w hb1 (by simp only [gs_len, List.size_toArray]; omega) (ones_g _ hc3)
        simp only [Nat.add_zero, gs_len] at hrun
        have hF := setRow_facts (ρ key) (AV.gs ρ (c.take off ++ v.cells ++ c.drop (off + v.cells.length))).toArray _ T hb1
        refine ⟨w.setRow (ρ key) (AV.gs ρ (c.take off ++ v.cells ++ c.drop (off + v.cells.length))).toArray, ?_, hF⟩
        · cases hi : P.info? t with
          | none => simp [hi] at hc1
          | some i =>
            have hz : i.size = v.cells.length := by simpa [hi] using hc1
            simp [runs, execOp, h, e1, e3, AV.g, Instr.storeAt, Instr.sureAddr, storeVar, sizeOf, typeInfo, hi, hz, cells_g v hc3, gs_len, hrun, gs_append, gs_take, gs_drop]
      · exact trivial
    · exact trivial
  · rename_i q v hx hy
    obtain ⟨e1, e2⟩ := E.ev x _ hx
    obtain ⟨e3, e4⟩ := E.ev y _ hy
    split
    · rename_i hc
      simp only [Bool.and_eq_true, decide_eq_true_eq] at hc
      obtain ⟨hc1, hc3⟩ := hc
      refine ⟨wf_cells v e4, fun ad hq hs hcell => ?_⟩
      subst hq
      have had : ad = ⟨ad.block, ad.off, none⟩ := by cases ad; simp_all
      have hrun := run_storeCells_cells (P := P) ad.block ad.off (AV.gs ρ v.cells) 0 w (by simpa [gs_len] using fun j hj => (hcell j hj).1) (by simpa [gs_len] using fun j hj => (hcell j hj).2) (ones_g _ hc3)
      rw [← had] at hrun
      simp only [Nat.add_zero] at hrun
      cases hi : P.info? t with
      | none => simp [hi] at hc1
      | some i =>
        have hz : i.size = v.cells.length := by simpa [hi] using hc1
        simp [runs, execOp, h, e1, e3, AV.g, Instr.storeAt, Instr.sureAddr, storeVar, sizeOf, typeInfo, hi, hz, cells_g v hc3, gs_len, hrun]
    · exact trivial
  · exact trivial
theorem ok_nilCheck (E : Env ρ D ev blks a w) (h : o.op = .nilCheck x) : CoreOK P ρ D blks o a w (core P ev blks o) := by
  simp only [core, h]
  split
  · rename_i k off hx
    obtain ⟨e1, e2⟩ := E.ev x _ hx
    exact ⟨e2, by simp [runs, execOp, h, e1, AV.g]⟩
  · rename_i q hx
    obtain ⟨e1, e2⟩ := E.ev x _ hx
    refine ⟨rfl, fun hq => ?_⟩
    obtain ⟨ad, rfl⟩ := Option.isSome_iff_exists.1 hq
    simp [runs, execOp, h, e1, AV.g]
  · rename_i f p q hx
    obtain ⟨e1, e2⟩ := E.ev x _ hx
    exact ⟨e2, by simp [runs, execOp, h, e1, AV.g]⟩
  · rename_i f p q hx
    obtain ⟨e1, e2⟩ := E.ev x _ hx
    exact ⟨rfl, by simp [runs, execOp, h, e1, AV.g]⟩
  · exact trivial
theorem eqCell_ok {d : TypeDesc} {a b : AV} {r : Bool} {t : TypeId} (n : Nat) (hu : P.underlying t = some d) (h : eqCell d a b = some r) : d.isRow = false ∧ (Op.equalIn (n + 1) t (a.g ρ) (b.g ρ)).run P w = .ok r w := by
  unfold eqCell at h
  split at h
  · split at h
    · rename_i e; cases h; subst e; exact ⟨rfl, by simpa [AV.g] using run_equalIn_int w n t _ _ _ _ hu⟩
    · cases h
  · cases h; exact ⟨rfl, by simpa [AV.g] using run_equalIn_bool' w n t _ _ hu⟩
  · cases h; exact ⟨rfl, by simpa [AV.g] using run_equalIn_string w n t _ _ hu⟩
  · cases h
theorem eqFs_ok (n : Nat) {xs ys : List AV} : ∀ (fs : List Field) (r : Bool), eqFs P xs ys fs = some r → (Op.eqFields (n + 1) (AV.gs ρ xs).toArray (AV.gs ρ ys).toArray fs).run P w = .ok r w
  | [], r, h => by simp only [eqFs, Option.some.injEq] at h; subst h; simp [Op.eqFields]
  | f :: fs, r, h => by
    simp only [eqFs] at h
    split at h
    · cases h
    · rename_i hn
      split at h
      · rename_i d a b q hd ha hb hq
        rw [Option.map_eq_some_iff] at h
        obtain ⟨p, hp, rfl⟩ := h
        obtain ⟨c1, c2⟩ := eqCell_ok (P := P) (ρ := ρ) (w := w) n hd hp
        have ih := eqFs_ok n fs q hq
        have p1 : (part f.type (AV.gs ρ xs).toArray f.offset).run P w = .ok (a.g ρ) w := by
          simp [part, isAgg_run hd, c1, gs_get (ρ := ρ) _ _ _ ha]
        have p2 : (part f.type (AV.gs ρ ys).toArray f.offset).run P w = .ok (b.g ρ) w := by
          simp [part, isAgg_run hd, c1, gs_get (ρ := ρ) _ _ _ hb]
        have hn' : f.name ≠ "_" := by simpa using hn
        rw [Op.eqFields]
        simp only [if_pos hn', Sem.run_bind, p1, p2, c2, Result.andThen_ok]
        cases p
        · simp
        · simpa using ih
      · cases h
theorem eqIs_ok (n : Nat) {e : TypeId} {d : TypeDesc} {c : Nat} (hd : P.underlying e = some d) {xs ys : List AV} : ∀ (is : List Nat) (r : Bool), eqIs d c xs ys is = some r → (Op.eqItems (n + 1) e c (AV.gs ρ xs).toArray (AV.gs ρ ys).toArray is).run P w = .ok r w
  | [], r, h => by simp only [eqIs, Option.some.injEq] at h; subst h; simp [Op.eqItems]
  | i :: is, r, h => by
    simp only [eqIs] at h
    split at h
    · rename_i a b q ha hb hq
      rw [Option.map_eq_some_iff] at h
      obtain ⟨p, hp, rfl⟩ := h
      obtain ⟨c1, c2⟩ := eqCell_ok (P := P) (ρ := ρ) (w := w) n hd hp
      have ih := eqIs_ok n hd is q hq
      have p1 : (part e (AV.gs ρ xs).toArray (i * c)).run P w = .ok (a.g ρ) w := by
        simp [part, isAgg_run hd, c1, gs_get (ρ := ρ) _ _ _ ha]
      have p2 : (part e (AV.gs ρ ys).toArray (i * c)).run P w = .ok (b.g ρ) w := by
        simp [part, isAgg_run hd, c1, gs_get (ρ := ρ) _ _ _ hb]
      rw [Op.eqItems]
      simp only [Sem.run_bind, p1, p2, c2, Result.andThen_ok]
      cases p
      · simp
      · simpa using ih
    · cases h
theorem eqStruct_ok {xs ys : List AV} {r : Bool} (h : eqStruct P t xs ys = some r) :
    (∀ {op : BinOp} {x y : Operand}, (eqGuard op t x y (.agg (AV.gs ρ xs).toArray) (.agg (AV.gs ρ ys).toArray)).run P w = .ok () w) ∧ (Op.equalIn 10000 t (.agg (AV.gs ρ xs).toArray) (.agg (AV.gs ρ ys).toArray)).run P w = .ok r w := by
  unfold eqStruct at h
  split at h
  · rename_i n e hu
    split at h
    · cases h
    · rename_i hg
      split at h
      · rename_i d hd
        obtain ⟨i, hi⟩ := info_of_underlying hd
        refine ⟨fun {op x y} => run_eqGuard_agg w op t x y _ _ (by simpa using hg), ?_⟩
        rw [run_equalIn_array (P := P) w 9999 _ _ hu hi]
        exact eqIs_ok 9998 hd _ r h
      · cases h
  · rename_i fs hu
    split at h
    · cases h
    · rename_i hg
      simp only [Bool.or_eq_true, not_or, Bool.not_eq_true] at hg
      refine ⟨fun {op x y} => run_eqGuard_agg w op t x y _ _ hg.2, ?_⟩
      have hf : P.fieldsOf t = fs := by simp [Program.fieldsOf, hu]
      rw [run_equalIn_struct (P := P) w 9999 t _ _ (by rw [hf]; exact hu) hg.1, hf]
      exact eqFs_ok 9998 fs.toList r h
  · cases h
theorem run_equal_mapnil (w : World) (t k e : TypeId) (m : Option Nat) (h : P.underlying t = some (.map k e)) : (Op.equal t (.map m) (.map none)).run P w = .ok m.isNone w := by
  have : ∀ d, (Op.equalIn (d + 1) t (.map m) (.map none)).run P w = .ok m.isNone w := fun d => by cases m <;> simp [Op.equalIn, run_underlying h]
  exact this 9999
theorem run_eql_mapnil (w : World) (t k e : TypeId) (m : Option Nat) (h : P.underlying t = some (.map k e)) : (binOp .eql t (.map m) (.map none)).run P w = .ok (.bool m.isNone) w := by
  simp only [binOp]
  simp [run_equal_mapnil w t k e m h]
theorem run_neq_mapnil (w : World) (t k e : TypeId) (m : Option Nat) (h : P.underlying t = some (.map k e)) : (binOp .neq t (.map m) (.map none)).run P w = .ok (.bool (!m.isNone)) w := by
  simp only [binOp]
  simp [run_equal_mapnil w t k e m h]
theorem ok_binOp {op : BinOp} {ty : TypeId} (E : Env ρ D ev blks a w) (h : o.op = .binOp op t x y ty) : CoreOK P ρ D blks o a w (core P ev blks o) := by
  simp only [core, h]
  split
  · rename_i k p k' q hx hy
    split
    · rename_i hk
      subst hk
      refine ⟨rfl, fun hb => ?_⟩
      have hb' : ¬ q = 0 := by simpa using hb
      simp [runs, execOp, h, (E.ev x _ hx).1, (E.ev y _ hy).1, AV.g, eqGuard, binOp, Op.intDiv, hb']
    · exact trivial
  · rename_i k p k' q hx hy
    split
    · rename_i hk
      subst hk
      refine ⟨rfl, fun hb => ?_⟩
      have hb' : ¬ q = 0 := by simpa using hb
      simp [runs, execOp, h, (E.ev x _ hx).1, (E.ev y _ hy).1, AV.g, eqGuard, binOp, Op.intDiv, hb']
    · exact trivial
  · rename_i k p k' q hx hy
    refine ⟨rfl, fun hb => ?_⟩
    have hb' : ¬ q < 0 := by have := of_decide_eq_true hb; omega
    simp [runs, execOp, h, (E.ev x _ hx).1, (E.ev y _ hy).1, AV.g, eqGuard, binOp, Op.shift, hb']
  · rename_i k p k' q hx hy
    refine ⟨rfl, fun hb => ?_⟩
    have hb' : ¬ q < 0 := by have := of_decide_eq_true hb; omega
    simp [runs, execOp, h, (E.ev x _ hx).1, (E.ev y _ hy).1, AV.g, eqGuard, binOp, Op.shift, hb']
  · rename_i k off hx hy
    split
    · rename_i e hu
      refine ⟨rfl, ?_⟩
      have hp : P.underlying t = some (.pointer (P.pointee t)) := by simp [Program.pointee, hu]
      have := run_eql_pointer_nil w t (some ⟨ρ k, off, none⟩) hp
      simp [runs, execOp, h, (E.ev x _ hx).1, (E.ev y _ hy).1, AV.g, eqGuard, this]
    · exact trivial
  · rename_i k off hx hy
    split
    · rename_i e hu
      refine ⟨rfl, ?_⟩
      have hp : P.underlying t = some (.pointer (P.pointee t)) := by simp [Program.pointee, hu]
      have := run_neq_pointer_nil w t (some ⟨ρ k, off, none⟩) hp
      simp [runs, execOp, h, (E.ev x _ hx).1, (E.ev y _ hy).1, AV.g, eqGuard, this]
    · exact trivial
  · rename_i q hx hy
    split
    · rename_i e hu
      refine ⟨rfl, ?_⟩
      have hp : P.underlying t = some (.pointer (P.pointee t)) := by simp [Program.pointee, hu]
      have := run_eql_pointer_nil w t q hp
      simp [runs, execOp, h, (E.ev x _ hx).1, (E.ev y _ hy).1, AV.g, eqGuard, this]
    · exact trivial
  · rename_i q hx hy
    split
    · rename_i e hu
      refine ⟨rfl, ?_⟩
      have hp : P.underlying t = some (.pointer (P.pointee t)) := by simp [Program.pointee, hu]
      have := run_neq_pointer_nil w t q hp
      simp [runs, execOp, h, (E.ev x _ hx).1, (E.ev y _ hy).1, AV.g, eqGuard, this]
    · exact trivial
  · rename_i q l c l' c' hx hy
    split
    · rename_i e hu
      refine ⟨rfl, ?_⟩
      have := Lib.run_eql_slice_nil w t e q l c l' c' hu
      simp [runs, execOp, h, (E.ev x _ hx).1, (E.ev y _ hy).1, AV.g, eqGuard, this]
    · exact trivial
  · rename_i q l c l' c' hx hy
    split
    · rename_i e hu
      refine ⟨rfl, ?_⟩
      have := run_neq_slice_nil_any w t e q l c l' c' hu
      simp [runs, execOp, h, (E.ev x _ hx).1, (E.ev y _ hy).1, AV.g, eqGuard, this]
    · exact trivial
  · rename_i q hx hy
    split
    · rename_i k e hu
      refine ⟨rfl, ?_⟩
      have := run_eql_mapnil w t k e q hu
      simp [runs, execOp, h, (E.ev x _ hx).1, (E.ev y _ hy).1, AV.g, eqGuard, this]
    · exact trivial
  · rename_i q hx hy
    split
    · rename_i k e hu
      refine ⟨rfl, ?_⟩
      have := run_neq_mapnil w t k e q hu
      simp [runs, execOp, h, (E.ev x _ hx).1, (E.ev y _ hy).1, AV.g, eqGuard, this]
    · exact trivial
  · rename_i xs ys hx hy
    split
    · rename_i b hb
      refine ⟨rfl, ?_⟩
      obtain ⟨f1, f2⟩ := eqStruct_ok (P := P) (ρ := ρ) (w := w) hb
      simp only [runs, execOp, h, (E.ev x _ hx).1, (E.ev y _ hy).1, AV.g, Sem.run_bind, f1, Result.andThen_ok, run_eql_struct, f2]
      rfl
    · exact trivial
  · rename_i xs ys hx hy
    split
    · rename_i b hb
      refine ⟨rfl, ?_⟩
      obtain ⟨f1, f2⟩ := eqStruct_ok (P := P) (ρ := ρ) (w := w) hb
      simp only [runs, execOp, h, (E.ev x _ hx).1, (E.ev y _ hy).1, AV.g, Sem.run_bind, f1, Result.andThen_ok, run_neq_struct, f2]
      rfl
    · exact trivial
  · rename_i a b hx hy
    split
    · intro v w' hr
      simp only [SOp.sem] at hr
      left
      simp [runs, execOp, h, (E.ev x _ hx).1, (E.ev y _ hy).1, AV.g, eqGuard, binOp, hr]
    · exact trivial
  · exact pureE_ok E [x, y] (by simp [h]) (by simp [h, Op.operands])
theorem ok_unOp {op : UnOp} (E : Env ρ D ev blks a w) (h : o.op = .unOp op t x) : CoreOK P ρ D blks o a w (core P ev blks o) := by
  simp only [core, h]
  exact pureE_ok E [x] (by simp [h]) (by simp [h, Op.operands])
theorem liftP_g (v : Value) : (liftP v).g ρ = v ∧ (liftP v).wf D = true := by
  cases v with
  | agg cs =>
    refine ⟨?_, ?_⟩
    · simp only [liftP, AV.g, gs_v]
    · simp only [liftP, AV.wf, wfs_v]
  | _ => exact ⟨rfl, rfl⟩
theorem liftV_g (v : Value) : (liftV v).g ρ = v ∧ (liftV v).wf D = true := by
  cases v with
  | tuple vs =>
    have h1 : ∀ l : List Value, AV.gs ρ (l.map liftP) = l ∧ AV.wfs D (l.map liftP) = true := by
      intro l
      induction l with
      | nil => exact ⟨rfl, rfl⟩
      | cons x r ih =>
        have := liftP_g (ρ := ρ) (D := D) x
        refine ⟨?_, ?_⟩
        · simp only [List.map_cons, AV.gs, this.1, ih.1]
        · simp only [List.map_cons, AV.wfs, this.2, ih.2, Bool.and_self]
    refine ⟨?_, ?_⟩
    · simp only [liftV, AV.g, (h1 _).1]
    · simp only [liftV, AV.wf, (h1 _).2]
  | _ => exact ⟨rfl, rfl⟩
theorem ok_typeAssert {u : TypeId} {c : Bool} (E : Env ρ D ev blks a w) (h : o.op = .typeAssert x t u c) : CoreOK P ρ D blks o a w (core P ev blks o) := by
  simp only [core, h]
  split
  · rename_i hp
    split
    · rename_i v hv
      refine ⟨(liftV_g (ρ := ρ) v).2, ?_⟩
      rw [(liftV_g (ρ := ρ) (D := D) v).1]
      have hx := evv_ok E [x] hp
      show (execOp a.eval o).run P w = _
      rw [execOp_congr' (ops := [x]) (by simp [h]) (by simp [h, Op.operands]) hx]
      exact pureV_ok _ _ hv
    · exact trivial
  · exact trivial
theorem ok_makeInterface (E : Env ρ D ev blks a w) (h : o.op = .makeInterface t x) : CoreOK P ρ D blks o a w (core P ev blks o) := by
  simp only [core, h]
  split
  · rename_i cs hx
    split
    · rename_i hw
      split
      · rename_i y hy
        refine ⟨rfl, ?_⟩
        have e : a.eval x = (AV.agg cs).g id := by
          rw [(E.ev x _ hx).1]
          exact g_congr (D := fun _ => false) (fun k hk => by cases hk) _ hw
        have e2 : execOp a.eval o = execOp (fun _ => (AV.agg cs).g id) o := execOp_congr o (by simp [h]) (fun z hz => by
          have : z = x := by simpa [h, Op.operands] using hz
          rw [this]; exact e)
        show (execOp a.eval o).run P w = _
        rw [e2]
        exact pureV_ok _ _ hy
      · exact trivial
    · exact trivial
  · exact pureE_ok E [x] (by simp [h]) (by simp [h, Op.operands])
theorem ok_convert {src dst : TypeId} (E : Env ρ D ev blks a w) (h : o.op = .convert src dst x) : CoreOK P ρ D blks o a w (core P ev blks o) := by
  simp only [core, h]
  split
  · exact pureE_ok E [x] (by simp [h]) (by simp [h, Op.operands])
  · exact pureE_ok E [x] (by simp [h]) (by simp [h, Op.operands])
  · split
    · rename_i hp
      intro v w' hr
      simp only [SOp.sem] at hr
      left
      have he := evv_ok E [x] hp x (by simp)
      simp [runs, execOp, h, he, hr]
    · exact trivial
theorem ok_makeFunc {fn : Fn} {f c : Array Operand} (E : Env ρ D ev blks a w) (h : o.op = .makeFunc fn f c) : CoreOK P ρ D blks o a w (core P ev blks o) := by
  simp only [core, h]
  split
  · rename_i l m h1 h2
    obtain ⟨e1, e2, _⟩ := evs_ok E _ _ h1
    obtain ⟨e3, e4, _⟩ := evs_ok E _ _ h2
    refine ⟨by simp [AV.wf, e2, e4], ?_⟩
    have f1 : f.map a.eval = (AV.gs ρ l).toArray := by rw [← e1]; apply Array.ext'; simp
    have f2 : c.map a.eval = (AV.gs ρ m).toArray := by rw [← e3]; apply Array.ext'; simp
    simp [runs, execOp, h, Instr.makeFunc, f1, f2, AV.g]
  · exact trivial
theorem add_none (k off n : Nat) : (⟨k, off, none⟩ : Addr).add n = ⟨k, off + n, none⟩ := Addr.add_mid k off n
theorem ok_fieldAddr {f : Nat} (E : Env ρ D ev blks a w) (h : o.op = .fieldAddr t x f) : CoreOK P ρ D blks o a w (core P ev blks o) := by
  simp only [core, h]
  split
  · rename_i fs hu
    split
    · rename_i fd hf
      split
      · rename_i hz
        have hz2 : ∃ i, P.info? fd.type = some i ∧ i.size ≠ 0 := by
          unfold Program.cellsOf at hz
          cases hi : P.info? fd.type with
          | none => simp [hi] at hz
          | some i => exact ⟨i, rfl, by simpa [hi] using hz⟩
        obtain ⟨i, hi, hi0⟩ := hz2
        split
        · rename_i k off hx
          obtain ⟨e1, e2⟩ := E.ev x _ hx
          refine ⟨e2, ?_⟩
          simp [runs, execOp, h, e1, AV.g, Instr.fieldAt, run_underlying hu, hf, Instr.sureAddr, fieldPlace, sizeOf, typeInfo, hi, hi0, add_none]
        · rename_i q hx
          obtain ⟨e1, e2⟩ := E.ev x _ hx
          refine ⟨rfl, fun hq => ?_⟩
          obtain ⟨ad, rfl⟩ := Option.isSome_iff_exists.1 hq
          simp [runs, execOp, h, e1, AV.g, Instr.fieldAt, run_underlying hu, hf, Instr.sureAddr, fieldPlace, sizeOf, typeInfo, hi, hi0]
        · exact trivial
      · exact trivial
    · exact trivial
  · exact trivial
theorem ok_field {f : Nat} (E : Env ρ D ev blks a w) (h : o.op = .field t x f) : CoreOK P ρ D blks o a w (core P ev blks o) := by
  simp only [core, h]
  split
  · rename_i fs cs hu hx
    obtain ⟨e1, e2⟩ := E.ev x _ hx
    simp only [AV.wf] at e2
    split
    · rename_i fd hf
      split
      · rename_i d hd
        split
        · rename_i hr
          split
          · rename_i hl
            simp only [Bool.and_eq_true, decide_eq_true_eq] at hl
            obtain ⟨i, hi⟩ := Option.isSome_iff_exists.1 hl.2
            have hz : P.cellsOf fd.type = i.size := by simp [Program.cellsOf, hi]
            refine ⟨by simp only [AV.wf]; exact wfs_take _ _ (wfs_drop _ _ e2), ?_⟩
            simp [runs, execOp, h, e1, AV.g, Instr.field, run_underlying hu, hf, asAgg, part, isAgg_run hd, hr, sizeOf, typeInfo, hi, gs_take, gs_drop, hz, List.take_drop]
          · exact trivial
        · rename_i hr
          have hr' : d.isRow = false := by simpa using hr
          refine orBad_ok (fun av hav => ⟨wfs_get _ _ _ hav e2, ?_⟩) _
          have hc := gs_get (ρ := ρ) _ _ _ hav
          simp [runs, execOp, h, e1, AV.g, Instr.field, run_underlying hu, hf, asAgg, part, isAgg_run hd, hr', hc]
      · exact trivial
    · exact trivial
  · exact trivial
theorem ok_indexAddr (E : Env ρ D ev blks a w) (h : o.op = .indexAddr t x y) : CoreOK P ρ D blks o a w (core P ev blks o) := by
  simp only [core, h]
  split
  · rename_i e base len cap k n hu hx hy
    split
    · rename_i hi
      obtain ⟨i, hi⟩ := Option.isSome_iff_exists.1 hi
      refine ⟨rfl, fun hc => ?_⟩
      simp only [Bool.and_eq_true, decide_eq_true_eq] at hc
      obtain ⟨⟨h0, h1⟩, h2⟩ := hc
      obtain ⟨ad, rfl⟩ := Option.isSome_iff_exists.1 h2
      simp [runs, execOp, h, (E.ev x _ hx).1, (E.ev y _ hy).1, AV.g, Instr.indexAt, asIntOf, run_underlying hu, h0, h1, sizeOf, typeInfo, hi, Program.cellsOf]
    · exact trivial
  · rename_i m e key off k n hu hx hy
    split
    · rename_i hi
      obtain ⟨i, hi⟩ := Option.isSome_iff_exists.1 hi
      refine ⟨(E.ev x _ hx).2, fun hc => ?_⟩
      simp only [Bool.and_eq_true, decide_eq_true_eq] at hc
      obtain ⟨h0, h1⟩ := hc
      simp [runs, execOp, h, (E.ev x _ hx).1, (E.ev y _ hy).1, AV.g, Instr.indexAt, asIntOf, Instr.sureAddr, run_underlying hu, h0, h1, sizeOf, typeInfo, hi, Program.cellsOf, add_none]
    · exact trivial
  · rename_i m e q k n hu hx hy
    split
    · rename_i hi
      obtain ⟨i, hi⟩ := Option.isSome_iff_exists.1 hi
      refine ⟨rfl, fun hc => ?_⟩
      simp only [Bool.and_eq_true, decide_eq_true_eq] at hc
      obtain ⟨⟨h0, h1⟩, h2⟩ := hc
      obtain ⟨ad, rfl⟩ := Option.isSome_iff_exists.1 h2
      simp [runs, execOp, h, (E.ev x _ hx).1, (E.ev y _ hy).1, AV.g, Instr.indexAt, asIntOf, Instr.sureAddr, run_underlying hu, h0, h1, sizeOf, typeInfo, hi, Program.cellsOf]
    · exact trivial
  · exact trivial
theorem ok_index (E : Env ρ D ev blks a w) (h : o.op = .index t x y) : CoreOK P ρ D blks o a w (core P ev blks o) := by
  simp only [core, h]
  split
  · rename_i s k n hx hy
    split
    · rename_i hu
      refine ⟨rfl, fun hc => ?_⟩
      simp only [Bool.and_eq_true, decide_eq_true_eq] at hc
      obtain ⟨h0, h1⟩ := hc
      have hlt : n.toNat < s.size := by omega
      simp [runs, execOp, h, (E.ev x _ hx).1, (E.ev y _ hy).1, AV.g, Instr.index, asIntOf, run_underlying hu, h0, hlt]
    · exact trivial
  · exact trivial
theorem ok_extract {n : Nat} (E : Env ρ D ev blks a w) (h : o.op = .extract x n) : CoreOK P ρ D blks o a w (core P ev blks o) := by
  simp only [core, h]
  split
  · rename_i vs hx
    obtain ⟨e1, e2⟩ := E.ev x _ hx
    simp only [AV.wf] at e2
    refine orBad_ok (fun av hav => ⟨wfs_get _ _ _ hav e2, ?_⟩) _
    have hc := gs_get (ρ := ρ) _ _ _ hav
    simp [runs, execOp, h, e1, AV.g, Instr.extract, hc]
  · exact trivial
theorem ok_makeSlice (E : Env ρ D ev blks a w) (h : o.op = .makeSlice t x y) : CoreOK P ρ D blks o a w (core P ev blks o) := by
  simp only [core, h]
  split
  · rename_i hp
    intro v w' hr
    simp only [SOp.sem] at hr
    left
    simp [runs, execOp, h, evv_ok E [x, y] hp x (by simp), evv_ok E [x, y] hp y (by simp), hr]
  · exact trivial
end
end Go.Proofs.YtcbpgbfbffnogaaGreatW.Rx
namespace Go.Proofs.YtcbpgbfbffnogaaGreatW.Rx
open Go
set_option linter.unusedVariables false
set_option linter.unusedSimpArgs false
section
variable {P : Program} {ρ : Nat → Nat} {D : Nat → Bool} {ev : Operand → Option AV} {blks : Nat → Option (List AV × TypeId)} {o : Oper} {a : Act} {w : World} {x y c : Operand} {t : TypeId}
theorem foldl_set (off : Nat) : ∀ (vs : List Value) (k : Nat) (cs : Array Value), off + k + vs.length ≤ cs.size →
    (vs.zipIdx k).foldl (fun cs (p : Value × Nat) => cs.setIfInBounds (off + p.2) p.1) cs = (cs.toList.take (off + k) ++ vs ++ cs.toList.drop (off + k + vs.length)).toArray
  | [], k, cs, h => by simp
  | v :: r, k, cs, h => by
    rw [List.zipIdx_cons, List.foldl_cons, foldl_set off r (k + 1) _ (by simp at h ⊢; omega)]
    have e := list_seg_step cs.toList (off + k) v r (by simp at h ⊢; omega)
    rw [Array.toList_setIfInBounds, show off + (k + 1) = off + k + 1 by omega]
    rw [e]
    simp
theorem fill_ok (place : Nat → Option (Nat × Nat)) : ∀ (parts : List (Nat × AV)) (cells c : List AV), parts.all (fun p => p.2.cells.all AV.one) = true → fillA place cells parts = some c →
    Instr.fill place (AV.gs ρ cells).toArray (parts.map fun p => (p.1, p.2.g ρ)) = some (AV.gs ρ c).toArray
  | [], cells, c, h1, h => by simp only [fillA] at h; cases h; rfl
  | (i, v) :: rest, cells, c, h1, h => by
    simp only [List.all_cons, Bool.and_eq_true] at h1
    simp only [fillA] at h
    split at h
    · cases h
    · rename_i off size hp
      split at h
      · cases h
      · rename_i hc
        simp only [Bool.or_eq_true, decide_eq_true_eq, not_or, Decidable.not_not, Nat.not_lt] at hc
        have ih := fill_ok place rest _ c h1.2 h
        simp only [List.map_cons, Instr.fill, hp, cells_g v h1.1, List.size_toArray, gs_len]
        rw [if_neg (by simp; omega)]
        rw [← ih]
        congr 1
        have := foldl_set off (AV.gs ρ v.cells) 0 (AV.gs ρ cells).toArray (by simp [gs_len]; omega)
        simp only [Nat.add_zero, gs_len] at this
        rw [← Array.foldl_toList, Array.toList_zipIdx]
        rw [this, gs_append, gs_append, gs_take, gs_drop]
theorem fill_wf (place : Nat → Option (Nat × Nat)) : ∀ (parts : List (Nat × AV)) (cells c : List AV), (∀ p ∈ parts, p.2.wf D = true) → AV.wfs D cells = true → fillA place cells parts = some c → AV.wfs D c = true
  | [], cells, c, h1, h2, h => by simp only [fillA] at h; cases h; exact h2
  | (i, v) :: rest, cells, c, h1, h2, h => by
    simp only [fillA] at h
    split at h
    · cases h
    · split at h
      · cases h
      · exact fill_wf place rest _ c (fun p hp => h1 p (by simp [hp])) (wfs_append _ _ (wfs_append _ _ (wfs_take _ _ h2) (wf_cells v (h1 (i, v) (by simp)))) (wfs_drop _ _ h2)) h
theorem built_ok (parts : List (Nat × AV)) (c : List AV) (h1 : parts.all (fun p => p.2.cells.all AV.one) = true) (h : buildA P t parts = some c) (hw : ∀ p ∈ parts, p.2.wf D = true) :
    P.built t (parts.map fun p => (p.1, p.2.g ρ)) = some (AV.gs ρ c).toArray ∧ AV.wfs D c = true := by
  unfold buildA at h
  unfold Program.built
  split at h
  · rename_i it n e hi hu
    split at h
    · rename_i z ie hz hie
      have e1 := fill_ok (ρ := ρ) _ parts _ c h1 h
      rw [gs_v, Array.toArray_toList] at e1
      exact ⟨by simp only [hi, hu, hz, hie]; exact e1, fill_wf _ parts _ c hw (wfs_v _) h⟩
    · cases h
  · rename_i it fields hi hu
    split at h
    · rename_i z places hz hp
      have e1 := fill_ok (ρ := ρ) _ parts _ c h1 h
      rw [gs_v, Array.toArray_toList] at e1
      exact ⟨by simp only [hi, hu, hz, hp]; exact e1, fill_wf _ parts _ c hw (wfs_v _) h⟩
    · cases h
  · cases h
theorem zip_parts (parts : List (Nat × Operand)) (xs : List AV) (h : (parts.map (·.2)).map a.eval = AV.gs ρ xs) : parts.map (fun p => (p.1, a.eval p.2)) = ((parts.map (·.1)).zip xs).map fun p => (p.1, p.2.g ρ) := by
  induction parts generalizing xs with
  | nil => simp
  | cons p r ih =>
    cases xs with
    | nil => simp [AV.gs] at h
    | cons x l =>
      simp only [List.map_cons, AV.gs, List.cons.injEq] at h
      simp [h.1, ih l h.2]
theorem ok_build {parts : Array (Nat × Operand)} (E : Env ρ D ev blks a w) (h : o.op = .build t parts) : CoreOK P ρ D blks o a w (core P ev blks o) := by
  simp only [core, h]
  split
  · rename_i xs hx
    obtain ⟨e1, e2, e3⟩ := evs_ok E _ _ hx
    split
    · rename_i h1
      split
      · rename_i c hc
        have hall : ((parts.toList.map (·.1)).zip xs).all (fun p => p.2.cells.all AV.one) = true := by
          rw [List.all_eq_true] at h1 ⊢
          exact fun p hp => h1 _ (List.of_mem_zip hp).2
        have hwf : ∀ p ∈ (parts.toList.map (·.1)).zip xs, p.2.wf D = true := by
          rw [wfs_eq, List.all_eq_true] at e2
          exact fun p hp => e2 _ (List.of_mem_zip hp).2
        obtain ⟨f1, f2⟩ := built_ok (P := P) (t := t) (ρ := ρ) _ c hall hc hwf
        refine ⟨f2, ?_⟩
        have hz := zip_parts (a := a) (ρ := ρ) parts.toList xs e1
        have hrun := run_build (P := P) w t (parts.map fun (i, x) => (i, a.eval x)) (AV.gs ρ c).toArray (by rw [Array.toList_map, ← f1, ← hz])
        simp only [runs, execOp, h, Sem.run_bind, hrun, Result.andThen_ok, AV.g]
        rfl
      · exact trivial
    · exact trivial
  · exact trivial
mutual
theorem g_none : ∀ x : AV, x.wf (fun _ => false) = true → ∀ σ, x.g ρ = x.g σ
  | x, h, σ => g_congr (D := fun _ => false) (fun k hk => by cases hk) x h
end
theorem gs_none (l : List AV) (h : AV.wfs (fun _ => false) l = true) (σ : Nat → Nat) : AV.gs ρ l = AV.gs σ l := gs_congr (D := fun _ => false) (fun k hk => by cases hk) l h
theorem ok_buildSlice {n : Nat} {parts : Array (Nat × Operand)} (E : Env ρ D ev blks a w) (h : o.op = .buildSlice t n parts) : CoreOK P ρ D blks o a w (core P ev blks o) := by
  simp only [core, h]
  split
  · rename_i xs hx
    obtain ⟨e1, e2, e3⟩ := evs_ok E _ _ hx
    split
    · rename_i hw
      intro v w' hr
      simp only [SOp.sem] at hr
      left
      have hz := zip_parts (a := a) (ρ := ρ) parts.toList xs e1
      have e4 : (parts.map fun (i, x) => (i, a.eval x)) = ((parts.toList.map (·.1)).zip (AV.gs id xs)).toArray := by
        apply Array.ext'
        rw [Array.toList_map, gs_none (ρ := id) xs hw ρ, gs_eq, List.zip_map_right]
        have e6 : ∀ l : List (Nat × AV), l.map (Prod.map id (AV.g ρ)) = l.map fun p => (p.1, p.2.g ρ) := fun l => List.map_congr_left fun p _ => rfl
        rw [e6]
        exact hz
      simp only [runs, execOp, h, Sem.run_bind, e4, hr, Result.andThen_ok]
      rfl
    · exact trivial
  · exact trivial
theorem ok_slice {lo hi : Option Operand} (E : Env ρ D ev blks a w) (h : o.op = .slice t x lo hi none) : CoreOK P ρ D blks o a w (core P ev blks o) := by
  simp only [core, h]
  split
  · rename_i e A len cap k l hu hx hl
    split
    · rename_i hi'
      obtain ⟨i, hi'⟩ := Option.isSome_iff_exists.1 hi'
      split
      · rename_i k' hh hhi
        refine ⟨rfl, fun hc => ?_⟩
        rw [leCap_eq] at hc
        rw [cutBase_eq]
        simp only [Bool.and_eq_true, decide_eq_true_eq] at hc
        obtain ⟨⟨h0, h1⟩, h2⟩ := hc
        have h2 : hh ≤ (if hi.isSome = true then (cap : Int) else (len : Int)) := by split at h2 <;> simp_all
        have ex := (E.ev x _ hx).1
        have c1 : P.cellsOf e = i.size := by simp [Program.cellsOf, hi']
        have hb : (Instr.sliceBounds true len cap (lo.map a.eval) (hi.map a.eval) none).run P w = .ok (l.toNat, hh.toNat, cap) w := by
          cases lo with
          | none =>
            simp only [Option.some.injEq, AV.v.injEq, Value.int.injEq] at hl
            obtain ⟨rfl, rfl⟩ := hl
            cases hi with
            | none =>
              simp only [Option.some.injEq, AV.v.injEq, Value.int.injEq] at hhi
              obtain ⟨rfl, rfl⟩ := hhi
              simp [Instr.sliceBounds]
            | some hq =>
              have eh := (E.ev hq _ hhi).1
              simp only [Option.isSome_some, if_true] at h2
              have q1 : 0 ≤ hh ∧ hh ≤ (cap : Int) := ⟨by omega, h2⟩
              simp [Instr.sliceBounds, Instr.sliceBound, eh, AV.g, asIntOf, q1]
          | some lq =>
            have el := (E.ev lq _ hl).1
            cases hi with
            | none =>
              simp only [Option.some.injEq, AV.v.injEq, Value.int.injEq] at hhi
              obtain ⟨rfl, rfl⟩ := hhi
              have q2 : 0 ≤ l ∧ l ≤ (len : Int) := ⟨h0, h1⟩
              simp [Instr.sliceBounds, Instr.sliceBound, el, AV.g, asIntOf, q2]
            | some hq =>
              have eh := (E.ev hq _ hhi).1
              simp only [Option.isSome_some, if_true] at h2
              have q1 : 0 ≤ hh ∧ hh ≤ (cap : Int) := ⟨by omega, h2⟩
              have q2 : 0 ≤ l ∧ l ≤ ((hh.toNat : Nat) : Int) := ⟨h0, by omega⟩
              have q3 : 0 ≤ l ∧ l ≤ max hh 0 := ⟨h0, by omega⟩
              simp [Instr.sliceBounds, Instr.sliceBound, el, eh, AV.g, asIntOf, q1, q3]
        have e5 : ((cap : Int) = l) ↔ (cap = l.toNat) := by omega
        simp only [runs, execOp, h, ex, AV.g, Instr.sliceAt, Instr.slice, Option.map_none, Sem.run_bind, run_underlying hu, Result.andThen_ok, hb, sizeOf, typeInfo, run_program, hi', Sem.run_pure, c1, e5]
      · exact trivial
    · exact trivial
  · rename_i n e q hu hx
    split
    · rename_i hc0
      simp only [Bool.and_eq_true] at hc0
      obtain ⟨⟨hlo, hhi⟩, hi'⟩ := hc0
      obtain ⟨i, hi'⟩ := Option.isSome_iff_exists.1 hi'
      refine ⟨rfl, fun hc => ?_⟩
      obtain ⟨ad, rfl⟩ := Option.isSome_iff_exists.1 hc
      have ex := (E.ev x _ hx).1
      cases lo <;> simp at hlo
      cases hi <;> simp at hhi
      simp [runs, execOp, h, ex, AV.g, Instr.sliceAt, Instr.sureAddr, run_underlying hu, Instr.sliceBounds, sizeOf, typeInfo, hi', Addr.add]
    · exact trivial
  · exact trivial
theorem run_callFunc {f : FuncId} (args : Array Value) (h : callable P f = true) : (callFunc f args).run P w = .ok (.enter f args) w := by
  unfold callable at h
  split at h
  · rename_i fn hf
    simp only [Bool.and_eq_true, Bool.not_eq_true'] at h
    have h2 : ¬ fn.body = none := by cases hb : fn.body <;> simp [hb] at h ⊢
    have h3 : ¬ (fn.name = "runtime.NumGoroutine") := by simpa using h.1
    simp [callFunc, hf, h2, h3]
  · cases h
theorem run_callExt {f : FuncId} (args : Array Value) (h : (extOf P f).isSome = true) : (callFunc f args).run P w = ((extSem P f args).run P w).andThen fun v w' => .ok (.value v) w' := by
  obtain ⟨e, he⟩ := Option.isSome_iff_exists.1 h
  have hs : extSem P f args = e args := by unfold extSem; rw [he]
  rw [hs]
  unfold extOf at he
  split at he
  · rename_i fn hf
    split at he
    · rename_i hc
      exact run_callFunc_extern hf hc.1 hc.2.1 (by have := hc.2.2; cases hq : Extern.findNext fn <;> simp_all) he args w
    · cases he
  · cases he
theorem ok_makeMap (E : Env ρ D ev blks a w) (h : o.op = .makeMap t none) : CoreOK P ρ D blks o a w (core P ev blks o) := by
  simp only [core, h]
  intro v w' hr
  simp only [SOp.sem] at hr
  left
  simp [runs, execOp, h, hr]
theorem ok_lookup {c : Bool} (E : Env ρ D ev blks a w) (h : o.op = .lookup t x y c) : CoreOK P ρ D blks o a w (core P ev blks o) := by
  simp only [core, h]
  split
  · rename_i hp
    intro v w' hr
    simp only [SOp.sem] at hr
    left
    simp [runs, execOp, h, evv_ok E [x, y] hp x (by simp), evv_ok E [x, y] hp y (by simp), hr]
  · exact trivial
theorem ok_mapUpdate {z : Operand} (E : Env ρ D ev blks a w) (h : o.op = .mapUpdate t x y z) : CoreOK P ρ D blks o a w (core P ev blks o) := by
  simp only [core, h]
  split
  · rename_i hd
    split
    · rename_i p q r hx
      split
      · rename_i hw
        obtain ⟨e1, e2, e3⟩ := evs_ok E _ _ hx
        have e4 := gs_none (ρ := id) [p, q, r] hw ρ
        simp only [List.map_cons, List.map_nil, AV.gs, List.cons.injEq, and_true] at e1 e4
        intro v w' hr
        simp only [SOp.sem] at hr
        right
        refine ⟨by simpa using hd, ?_⟩
        unfold updSem at hr
        rw [Sem.run_bind] at hr
        simp only [runs, execOp, h, e1, Sem.run_bind]
        rw [← e4.1, ← e4.2.1, ← e4.2.2]
        cases hs : (Instr.mapUpdate t (p.g id) (q.g id) (r.g id)).run P w with
        | ok u w2 =>
          rw [hs] at hr
          simp only [Result.andThen_ok, Sem.run_pure, Result.ok.injEq] at hr ⊢
          exact ⟨trivial, hr.2⟩
        | _ => rw [hs] at hr; cases hr
      · exact trivial
    · exact trivial
  · exact trivial
theorem ok_call {c : Call} (E : Env ρ D ev blks a w) (h : o.op = .call c) : CoreOK P ρ D blks o a w (core P ev blks o) := by
  simp only [core, h]
  split
  · rename_i fo hc
    split
    · rename_i f first cap args hf hargs
      split
      · rename_i hcall
        obtain ⟨e1, e2⟩ := E.ev fo _ hf
        obtain ⟨e3, e4, _⟩ := evs_ok E _ _ hargs
        simp only [AV.wf, Bool.and_eq_true] at e2
        refine ⟨wfs_append _ _ (wfs_append _ _ e2.1 e4) e2.2, ?_⟩
        have f1 : c.args.map a.eval = (AV.gs ρ args).toArray := by rw [← e3]; apply Array.ext'; simp
        simp only [runs, execOp, h, resolve, hc, f1, e1, AV.g, Deferred.ofValue, Sem.run_bind, Sem.run_pure, Result.andThen_ok, invoke]
        rw [run_callFunc _ hcall]
        simp [gs_append]
      · split
        · rename_i hx
          simp only [Bool.and_eq_true, List.isEmpty_iff] at hx
          obtain ⟨⟨⟨hx1, rfl⟩, rfl⟩, hp⟩ := hx
          obtain ⟨e1, e2⟩ := E.ev fo _ hf
          have hm : c.args.map a.eval = c.args.map (evv ev) := Array.map_congr_left fun x hx => evv_ok E _ hp x (by simpa using hx)
          intro v w' hr
          simp only [SOp.sem] at hr
          left
          simp only [runs, execOp, h, resolve, hc, hm, e1, AV.g, Deferred.ofValue, Sem.run_bind, Sem.run_pure, Result.andThen_ok, invoke]
          simp [AV.gs, run_callExt _ hx1, hr]
        · exact trivial
    · rename_i f first cap args hf hargs
      split
      · rename_i hcall
        obtain ⟨e1, e2⟩ := E.ev fo _ hf
        obtain ⟨e3, e4, _⟩ := evs_ok E _ _ hargs
        refine ⟨wfs_append _ _ (wfs_append _ _ (wfs_v _) e4) (wfs_v _), ?_⟩
        have f1 : c.args.map a.eval = (AV.gs ρ args).toArray := by rw [← e3]; apply Array.ext'; simp
        simp only [runs, execOp, h, resolve, hc, f1, e1, AV.g, Deferred.ofValue, Sem.run_bind, Sem.run_pure, Result.andThen_ok, invoke]
        rw [run_callFunc _ hcall]
        simp [gs_append, gs_v]
      · split
        · rename_i hx
          simp only [Bool.and_eq_true, List.isEmpty_iff] at hx
          obtain ⟨⟨⟨hx1, hx2⟩, hx3⟩, hp⟩ := hx
          obtain ⟨e1, e2⟩ := E.ev fo _ hf
          have hm : c.args.map a.eval = c.args.map (evv ev) := Array.map_congr_left fun x hx => evv_ok E _ hp x (by simpa using hx)
          have hx2 : first = #[] := Array.ext' hx2
          have hx3 : cap = #[] := Array.ext' hx3
          subst hx2 hx3
          intro v w' hr
          simp only [SOp.sem] at hr
          left
          simp only [runs, execOp, h, resolve, hc, hm, e1, AV.g, Deferred.ofValue, Sem.run_bind, Sem.run_pure, Result.andThen_ok, invoke]
          simp [run_callExt _ hx1, hr]
        · exact trivial
    · exact trivial
  · rename_i b hc
    split
    · rename_i hp
      have hx : ∀ x ∈ c.args, a.eval x = evv ev x := fun x hx => evv_ok E _ hp x (by simpa using hx)
      have hm : c.args.map a.eval = c.args.map (evv ev) := Array.map_congr_left hx
      have hcg : execOp a.eval o = execOp (evv ev) o := execOp_congr o (by simp [h]) (by simpa [h, Op.operands, Call.operands, hc] using hx)
      split
      · intro v w' hr
        simp only [SOp.sem] at hr
        left
        simp [runs, execOp, h, resolve, hc, hm, invoke, builtin, hr]
      · intro v w' hr
        simp only [SOp.sem] at hr
        left
        simp [runs, execOp, h, resolve, hc, hm, invoke, builtin, hr]
      · intro v w' hr
        simp only [SOp.sem] at hr
        left
        simp [runs, execOp, h, resolve, hc, hm, invoke, builtin, hr]
      · intro v w' hr
        simp only [SOp.sem] at hr
        left
        simp [runs, execOp, h, resolve, hc, hm, invoke, builtin, hr]
      · split
        · rename_i hlm
          have hbl : b = .len := by
            unfold lenMap at hlm
            split at hlm
            · split at hlm
              · rfl
              · cases hlm
            · cases hlm
          subst hbl
          intro v w' hr
          simp only [SOp.sem] at hr
          left
          simp [runs, execOp, h, resolve, hc, hm, invoke, builtin, hr]
        · split
          · rename_i v hv
            refine ⟨rfl, ?_⟩
            unfold runs
            rw [hcg]
            simpa [AV.g] using pureV_ok _ v hv
          · split
            · intro v w' hr
              simp only [SOp.sem] at hr
              left
              simp [runs, execOp, h, resolve, hc, hm, invoke, builtin, hr]
            · exact trivial
    · split
      · rename_i xs hxs
        split
        · rename_i hw
          obtain ⟨e3, e4, _⟩ := evs_ok E _ _ hxs
          intro v w' hr
          simp only [SOp.sem] at hr
          left
          have f1 : c.args.map a.eval = (AV.gs id xs).toArray := by rw [gs_none (ρ := id) xs hw ρ, ← e3]; apply Array.ext'; simp
          simp [runs, execOp, h, resolve, hc, f1, invoke, builtin, hr]
        · exact trivial
      · exact trivial
  · exact trivial
theorem ok_arrayAt (E : Env ρ D ev blks a w) (h : o.op = .sliceToArrayPointer t x) : CoreOK P ρ D blks o a w (core P ev blks o) := by
  simp only [core, h]
  split
  · rename_i n e A len cap hu hx
    refine ⟨rfl, fun hc => ?_⟩
    have hc := Nat.le_of_ble_eq_true hc
    have hn : ¬ len < n := by omega
    simp [runs, execOp, h, (E.ev x _ hx).1, AV.g, Instr.arrayAt, run_underlying hu, hn]
  · exact trivial
theorem core_ok (E : Env ρ D ev blks a w) : CoreOK P ρ D blks o a w (core P ev blks o) := by
  cases h : o.op with
  | move x => exact ok_move E h
  | assign x => exact ok_assign E h
  | pick c x y => exact ok_pick E h
  | alloc t => exact ok_alloc E h
  | box t x => exact ok_box E h
  | panic x => exact ok_panic E h
  | typeAssert x t u c => exact ok_typeAssert E h
  | load t x => exact ok_load E h
  | store t x y => exact ok_store E h
  | nilCheck x => exact ok_nilCheck E h
  | binOp op t x y ty => exact ok_binOp E h
  | unOp op t x => exact ok_unOp E h
  | convert s d x => exact ok_convert E h
  | makeInterface t x => exact ok_makeInterface E h
  | makeFunc fn f c => exact ok_makeFunc E h
  | fieldAddr t x f => exact ok_fieldAddr E h
  | field t x f => exact ok_field E h
  | indexAddr t x y => exact ok_indexAddr E h
  | index t x y => exact ok_index E h
  | slice t x lo hi mx =>
    cases mx with
    | none => exact ok_slice E h
    | some m => simp only [core, h]; exact trivial
  | build t ps => exact ok_build E h
  | buildSlice t n ps => exact ok_buildSlice E h
  | extract x n => exact ok_extract E h
  | makeSlice t x y => exact ok_makeSlice E h
  | sliceToArrayPointer t x => exact ok_arrayAt E h
  | makeMap t r =>
    cases r with
    | none => exact ok_makeMap E h
    | some r => simp only [core, h]; exact trivial
  | lookup t x y c => exact ok_lookup E h
  | mapUpdate t x y z => exact ok_mapUpdate E h
  | call c => exact ok_call E h
  | _ => simp only [core, h]; exact trivial
end
end Go.Proofs.YtcbpgbfbffnogaaGreatW.Rx
namespace Go.Proofs.YtcbpgbfbffnogaaGreatW.Rx
open Go
set_option linter.unusedVariables false
set_option linter.unusedSimpArgs false
def split (x : AV) (k : AV → XT) : XT := match x with
  | .v (.bool b) => bif b then k (.v (.bool true)) else k (.v (.bool false))
  | x => k x
theorem split_eq (x : AV) (k : AV → XT) : split x k = k x := by
  unfold split
  split
  · rename_i b; cases b <;> rfl
  · rfl
def keysOf (s : ASt) : Nat → List Nat → List Nat → List Nat
  | 0, _, acc => acc
  | _, [], acc => acc
  | n + 1, k :: r, acc => if acc.contains k then keysOf s n r acc else match s.blks k with
    | some (c, _) => keysOf s n (AV.keyss c ++ r) (acc ++ [k])
    | none => keysOf s n r acc
def outOf (s : ASt) : List Nat → Option Out
  | [] => some []
  | k :: r => match s.blks k, outOf s r with
    | some (c, T), some o => if o.any (fun x => Nat.beq x.1 k) then none else some ((k, c, T) :: o)
    | _, _ => none
def exOf (s : ASt) (args : List AV) : Option Out := outOf s (keysOf s 64 (AV.keyss args) [])
section
variable (P : Program)
def lesOf : Out → Option (List Lf × List Nat)
  | [] => some ([], [])
  | (_, c, T) :: r => match leaves P 8 T, lesOf r with
    | some a, some (b, ns) => if Nat.beq a.length c.length then some (a ++ b, c.length :: ns) else none
    | _, _ => none
def backS (s : ASt) : Out → List (List AV) → ASt
  | (k, _, T) :: r, c :: cs => backS (s.set k c T) r cs
  | _, _ => s
structure NL where
  n : Nat
  lo : Nat
structure Fx where
  l : List Deferred
  v0 : Nat → Value
abbrev fx0 : Fx := ⟨[], fun _ => undef⟩
def Held (ds : Fx) (N : NL) (a : Act) : Prop := a.defers = ds.l ∧ ∀ j, j < N.lo → a.tmps.getD j undef = ds.v0 j
def dstOk (N : NL) : Option Nat → Bool
  | some d => Nat.blt d N.n && Nat.ble N.lo d
  | none => true
def stepX (N : NL) (key : Nat) (o : Oper) (s : ASt) (e : Eff) (k : ASt → XT) : XT :=
  if dstOk N o.dst = true then
    match e with
    | .val x => split x fun x => k (s.put o.dst x)
    | .alloc c T => (match s.blks key with
      | none => k ((s.set key c T).put o.dst (.p key 0))
      | some _ => .bad "alloc: the key is taken")
    | .stb q c T => k ((s.set q c T).put o.dst (.v undef))
    | .chk c x => .need c (split x fun x => k (s.put o.dst x))
    | .ld q ls row => .ld q ls fun x => if row then k (s.put o.dst (.agg (vs ls x))) else split ((vs ls x).headD (.v undef)) fun y => k (s.put o.dst y)
    | .sto q xs => (match exOf s xs with
      | some ex => .sto q xs ex (k (s.put o.dst (.v undef)))
      | none => .bad "sto: what is told")
    | .call f args t => (match shOf P t, exOf s args with
      | some (sh, ls), some ex => (match lesOf P ex with
        | some (els, ns) => .call f args ex sh (ls ++ els) ns fun x => split (sh.av (vs (ls ++ els) x)) fun y => k ((backS s ex (segs ns ((vs (ls ++ els) x).drop ((ls ++ els).length - ns.sum)))).put o.dst y)
        | none => .bad "call: the told blocks")
      | _, _ => .bad "call: shapes")
    | .sem g t => (match shOf P t with
      | some (sh, ls) => .sem g ls sh fun x => split (sh.av (vs ls x)) fun y => k (s.put o.dst y)
      | none => .bad "sem: shape")
    | .die x => .die x
    | .bad why => .bad why
  else .bad "slot"
end
theorem beq_ne {j d : Nat} (e : j ≠ d) : Nat.beq j d = false := by
  cases h : Nat.beq j d
  · rfl
  · exact absurd (Nat.eq_of_beq_eq_true h) e
structure Rel (ds : Fx) (N : NL) (ρ : Nat → Nat) (s : ASt) (a : Act) (w : World) : Prop where
  size : a.tmps.size = N.n
  tmps : ∀ j x, s.tmps j = some x → a.tmps.getD j undef = x.g ρ
  wft : ∀ j x, s.tmps j = some x → x.wf s.D = true
  blks : ∀ k c T, s.blks k = some (c, T) → w.heap[ρ k]? = some (.cells (AV.gs ρ c).toArray T (0, 0))
  wfb : ∀ k c T, s.blks k = some (c, T) → AV.wfs s.D c = true
  inj : ∀ k k', s.D k = true → s.D k' = true → ρ k = ρ k' → k = k'
  defers : Held ds N a
section
variable {P : Program} {pin : List (Nat × Nat)} {R : Ending → World → Prop} {N : NL}
variable {ds : Fx}
def Inv (ds : Fx) (P : Program) (pin : List (Nat × Nat)) (R : Ending → World → Prop) (N : NL) (s : ASt) (t : XT) (J : Jt) (a : Act) (w : World) : Prop :=
  ∃ (ρ : Nat → Nat) (L Lu : Nat → Prop) (wu : World), t.ok P pin R J Lu wu ∧ Rel ds N ρ s a w ∧ (∀ k, s.D k = true → L (ρ k)) ∧ Ext Lu wu L w ∧ Pin pin ρ ∧ ∀ q ∈ pin, s.D q.1 = true
variable {ρ : Nat → Nat} {s : ASt} {a : Act} {w : World} {o : Oper} {L Lu : Nat → Prop} {wu : World}
theorem Rel.env (h : Rel ds N ρ s a w) : Env ρ s.D s.ev s.blks a w where
  ev := by
    intro x av hx
    cases x with
    | tmp t => exact ⟨h.tmps t av hx, h.wft t av hx⟩
    | const v => simp only [ASt.ev, Option.some.injEq] at hx; subst hx; exact ⟨rfl, rfl⟩
    | global g => simp only [ASt.ev, Option.some.injEq] at hx; subst hx; exact ⟨rfl, rfl⟩
    | func f => simp only [ASt.ev, Option.some.injEq] at hx; subst hx; exact ⟨by simp [Act.eval, AV.g, AV.gs], rfl⟩
  blk := fun k c T hb => ⟨h.blks k c T hb, h.wfb k c T hb⟩
theorem put_D (d : Option Nat) (x : AV) : (s.put d x).D = s.D := by cases d <;> rfl
theorem put_blks (d : Option Nat) (x : AV) : (s.put d x).blks = s.blks := by cases d <;> rfl
theorem Rel.put (h : Rel ds N ρ s a w) (d : Option Nat) (x : AV) (hx : x.wf s.D = true) (hd : dstOk N d = true) : Rel ds N ρ (s.put d x) (a.put d (x.g ρ)) w where
  size := by cases d <;> simp [Act.put, h.size]
  tmps := by
    intro j y hy
    cases d with
    | none => exact h.tmps j y hy
    | some d =>
      simp only [ASt.put] at hy
      have hd' : d < N.n := by simp only [dstOk, Bool.and_eq_true, Nat.blt_eq] at hd; exact hd.1
      by_cases e : j = d
      · subst e
        simp only [Nat.beq_refl, cond_true, Option.some.injEq] at hy
        subst hy
        simp [Act.put, h.size, hd']
      · have e' : Nat.beq j d = false := beq_ne e
        rw [e'] at hy
        have := h.tmps j y hy
        simp only [Act.put]
        rw [← this]
        simp [Array.getElem?_setIfInBounds_ne (Ne.symm e)]
  wft := by
    intro j y hy
    rw [put_D]
    cases d with
    | none => exact h.wft j y hy
    | some d =>
      simp only [ASt.put] at hy
      cases e : Nat.beq j d
      · rw [e] at hy; exact h.wft j y hy
      · rw [e] at hy; simp only [cond_true, Option.some.injEq] at hy; subst hy; exact hx
  blks := by rw [put_blks]; exact h.blks
  wfb := by rw [put_blks, put_D]; exact h.wfb
  inj := by rw [put_D]; exact h.inj
  defers := by
    cases d with
    | none => exact h.defers
    | some d =>
      refine ⟨h.defers.1, fun j hj => ?_⟩
      have hd' : N.lo ≤ d := by simp only [dstOk, Bool.and_eq_true] at hd; exact Nat.le_of_ble_eq_true hd.2
      rw [← h.defers.2 j hj]
      simp only [Act.put]
      simp [Array.getElem?_setIfInBounds_ne (show d ≠ j by omega)]
theorem Ext.refl (h : ∀ b, L b → b < w.heap.size) : Ext L w L w := ⟨fun _ h => h, fun _ h h' => absurd h h', h, Nat.le_refl _, fun _ _ _ => rfl, rfl, rfl, rfl⟩
theorem set_D (k : Nat) (c : List AV) (T : TypeId) (j : Nat) : (s.set k c T).D j = (Nat.beq j k || s.D j) := by
  simp only [ASt.D, ASt.set]
  cases h : Nat.beq j k <;> simp
theorem outOf_ok (h : Rel ds N ρ s a w) (hL : ∀ k, s.D k = true → L (ρ k)) : ∀ (ks : List Nat) (ex : Out), outOf s ks = some ex → Outs ρ L w ex ∧ Apart ρ ex ∧ (∀ x ∈ ex, s.blks x.1 = some (x.2.1, x.2.2))
  | [], ex, e => by simp only [outOf, Option.some.injEq] at e; subst e; exact ⟨trivial, trivial, by simp⟩
  | k :: r, ex, e => by
    simp only [outOf] at e
    split at e
    · rename_i c T o hb ho
      split at e
      · cases e
      · rename_i hn
        cases e
        obtain ⟨i1, i2, i3⟩ := outOf_ok h hL r o ho
        have hD : s.D k = true := by simp [ASt.D, hb]
        refine ⟨⟨⟨hL k hD, h.blks k c T hb⟩, i1⟩, ⟨fun x hx e => ?_, i2⟩, ?_⟩
        · have hDx : s.D x.1 = true := by simp [ASt.D, i3 x hx]
          have := h.inj _ _ hDx hD e
          apply hn
          rw [List.any_eq_true]
          exact ⟨x, hx, by rw [this]; simp⟩
        · intro x hx
          rcases List.mem_cons.1 hx with rfl | hx
          · exact hb
          · exact i3 x hx
    · cases e
end
end Go.Proofs.YtcbpgbfbffnogaaGreatW.Rx
namespace Go.Proofs.YtcbpgbfbffnogaaGreatW.Rx
open Go
set_option linter.unusedVariables false
set_option linter.unusedSimpArgs false
section
variable {P : Program} {pin : List (Nat × Nat)} {R : Ending → World → Prop} {N : NL}
variable {ds : Fx}
variable {ρ : Nat → Nat} {s : ASt} {a : Act} {w : World} {o : Oper} {L Lu : Nat → Prop} {wu : World}
theorem Rel.set {w' : World} (h : Rel ds N ρ s a w) {q : Nat} {c c0 : List AV} {T T0 : TypeId} (hc : AV.wfs s.D c = true) (hk : s.blks q = some (c0, T0))
    (h1 : w'.heap[ρ q]? = some (.cells (AV.gs ρ c).toArray T (0, 0))) (h2 : ∀ b, b ≠ ρ q → w'.heap[b]? = w.heap[b]?) : Rel ds N ρ (s.set q c T) a w' := by
  have hD : (s.set q c T).D = s.D := by
    funext j
    rw [set_D]
    cases e : Nat.beq j q
    · rfl
    · rw [Nat.eq_of_beq_eq_true e]; simp [ASt.D, hk]
  refine ⟨h.size, h.tmps, by rw [hD]; exact h.wft, ?_, ?_, by rw [hD]; exact h.inj, h.defers⟩
  · intro k c' T' hb
    simp only [ASt.set] at hb
    cases e : Nat.beq k q
    · rw [e] at hb
      have hb : s.blks k = some (c', T') := hb
      have hne : ρ k ≠ ρ q := fun he => by
        have := h.inj k q (by simp [ASt.D, hb]) (by simp [ASt.D, hk]) he
        subst this; simp at e
      rw [h2 _ hne]
      exact h.blks k c' T' hb
    · rw [e] at hb
      simp only [cond_true, Option.some.injEq, Prod.mk.injEq] at hb
      obtain ⟨rfl, rfl⟩ := hb
      rw [Nat.eq_of_beq_eq_true e]; exact h1
  · intro k c' T' hb
    rw [hD]
    simp only [ASt.set] at hb
    cases e : Nat.beq k q
    · rw [e] at hb; exact h.wfb k c' T' hb
    · rw [e] at hb
      simp only [cond_true, Option.some.injEq, Prod.mk.injEq] at hb
      obtain ⟨rfl, rfl⟩ := hb
      exact hc
theorem Rel.world {w' : World} (h : Rel ds N ρ s a w) (hw : ∀ k, s.D k = true → w'.heap[ρ k]? = w.heap[ρ k]?) : Rel ds N ρ s a w' where
  size := h.size
  tmps := h.tmps
  wft := h.wft
  blks := fun k c T hb => by rw [hw k (by simp [ASt.D, hb])]; exact h.blks k c T hb
  wfb := h.wfb
  inj := h.inj
  defers := h.defers
theorem vs_wf (D : Nat → Bool) (ls : List Lf) (x : Tup ls) : AV.wfs D (vs ls x) = true := wfs_v _
theorem wf_undef (D : Nat → Bool) : (AV.v undef).wf D = true := rfl
theorem headD_wf (D : Nat → Bool) (l : List AV) (h : AV.wfs D l = true) : (l.headD (.v undef)).wf D = true := by
  cases l with
  | nil => rfl
  | cons x r => simp only [AV.wfs, Bool.and_eq_true] at h; exact h.1
theorem parts_wf (D : Nat → Bool) : ∀ (ps : List (Bool × Nat)) (l : List AV), AV.wfs D l = true → AV.wfs D (Sh.parts ps l) = true
  | [], l, h => rfl
  | (b, n) :: r, l, h => by
    simp only [Sh.parts, AV.wfs, Bool.and_eq_true]
    refine ⟨?_, parts_wf D r _ (wfs_drop _ _ h)⟩
    split
    · simp only [AV.wf]; exact wfs_take _ _ h
    · exact headD_wf D l h
theorem av_wf (D : Nat → Bool) (sh : Sh) (l : List AV) (h : AV.wfs D l = true) : (sh.av l).wf D = true := by
  cases sh with
  | one => exact headD_wf D l h
  | agg n => simp only [Sh.av, AV.wf]; exact wfs_take _ _ h
  | tup ps => simp only [Sh.av, AV.wf]; exact parts_wf D ps l h
theorem segs_map {α β : Type} (f : α → β) : ∀ (ns : List Nat) (l : List α), segs ns (l.map f) = (segs ns l).map (List.map f)
  | [], l => rfl
  | n :: r, l => by simp only [segs, List.map_cons, ← List.map_take, ← List.map_drop, segs_map f r]
theorem Rel.back : ∀ (ex : Out) (cs : List (List Value)) (s : ASt) (w w2 : World), Rel ds N ρ s a w → (∀ x ∈ ex, s.blks x.1 = some (x.2.1, x.2.2)) → Apart ρ ex → Back ρ w2 ex cs → (∀ k, s.D k = true → (∀ x ∈ ex, ρ x.1 ≠ ρ k) → w2.heap[ρ k]? = w.heap[ρ k]?) →
    Rel ds N ρ (backS s ex (cs.map (List.map AV.v))) a w2 ∧ (backS s ex (cs.map (List.map AV.v))).D = s.D
  | [], cs, s, w, w2, h, h1, h2, h3, h4 => ⟨h.world (fun k hk => h4 k hk (by simp)), rfl⟩
  | (k, c, T) :: r, [], s, w, w2, h, h1, h2, h3, h4 => h3.elim
  | (k, c, T) :: r, d :: cs, s, w, w2, h, h1, h2, h3, h4 => by
    obtain ⟨b1, b2⟩ := h3
    obtain ⟨a1, a2⟩ := h2
    have hk := h1 (k, c, T) (by simp)
    simp only at hk
    have hlt : ρ k < w.heap.size := (Array.getElem?_eq_some_iff.1 (h.blks k c T hk)).1
    let w1 : World := { w with heap := w.heap.setIfInBounds (ρ k) (.cells d.toArray T (0, 0)) }
    have hw1 : w1.heap[ρ k]? = some (.cells d.toArray T (0, 0)) := by simp [w1, hlt]
    have hw2 : ∀ b, b ≠ ρ k → w1.heap[b]? = w.heap[b]? := fun b hb => by simp [w1, Array.getElem?_setIfInBounds_ne (Ne.symm hb)]
    have hs := h.set (w' := w1) (q := k) (c := d.map AV.v) (T := T) (wfs_v d) hk (by rw [gs_v]; exact hw1) hw2
    have hD : (s.set k (d.map AV.v) T).D = s.D := by
      funext j
      rw [set_D]
      cases e : Nat.beq j k
      · rfl
      · rw [Nat.eq_of_beq_eq_true e]; simp [ASt.D, hk]
    have ih := Rel.back r cs (s.set k (d.map AV.v) T) w1 w2 hs ?_ a2 b2 ?_
    · simp only [List.map_cons, backS]
      exact ⟨ih.1, ih.2.trans hD⟩
    · intro x hx
      have hne : x.1 ≠ k := fun e => a1 x hx (by rw [e])
      simp only [ASt.set, beq_ne hne]
      exact h1 x (by simp [hx])
    · intro j hj hx
      rw [hD] at hj
      by_cases e : j = k
      · subst e; rw [b1, hw1]
      · have hne : ρ j ≠ ρ k := fun he => e (h.inj j k hj (by simp [ASt.D, hk]) he)
        rw [hw2 _ hne]
        exact h4 j hj (fun x hx' => by
          rcases List.mem_cons.1 hx' with rfl | hx'
          · exact Ne.symm hne
          · exact hx x hx')
def Subst (s s' : ASt) : Prop := ∀ k, s.ver k ≤ s'.ver k ∧ (s'.ver k = s.ver k → s'.blks k = s.blks k)
theorem Subst.refl (s : ASt) : Subst s s := fun k => ⟨Nat.le_refl _, fun _ => rfl⟩
theorem Subst.trans {s s' s'' : ASt} (h : Subst s s') (h' : Subst s' s'') : Subst s s'' := fun k => by
  have a := h k
  have b := h' k
  exact ⟨Nat.le_trans a.1 b.1, fun e => by rw [b.2 (by omega), a.2 (by omega)]⟩
theorem Subst.put (d : Option Nat) (x : AV) : Subst s (s.put d x) := by cases d <;> exact Subst.refl s
theorem Subst.set (k : Nat) (c : List AV) (T : TypeId) : Subst s (s.set k c T) := fun j => by
  simp only [ASt.set]
  cases e : Nat.beq j k
  · exact ⟨Nat.le_refl _, fun _ => rfl⟩
  · exact ⟨Nat.le_succ _, fun h => by simp only [cond_true] at h; omega⟩
theorem Subst.back : ∀ (ex : Out) (cs : List (List AV)) (s : ASt), Subst s (backS s ex cs)
  | [], _, s => Subst.refl s
  | _ :: _, [], s => Subst.refl s
  | (k, c, T) :: r, d :: cs, s => (Subst.set k d T).trans (Subst.back r cs _)
def Stays (d : Option Nat) (s s' : ASt) : Prop := ∀ j, some j ≠ d → s'.tmps j = s.tmps j
theorem Stays.put (d : Option Nat) (x : AV) : Stays d s (s.put d x) := by
  intro j hj
  cases d with
  | none => rfl
  | some d =>
    have : j ≠ d := fun e => hj (by rw [e])
    simp [ASt.put, beq_ne this]
theorem back_tmps : ∀ (ex : Out) (cs : List (List AV)) (s : ASt), (backS s ex cs).tmps = s.tmps
  | [], _, s => rfl
  | _ :: _, [], s => rfl
  | (k, c, T) :: r, d :: cs, s => back_tmps r cs _
abbrev Goes (s : ASt) (d : Option Nat) (s' : ASt) : Prop := Subst s s' ∧ Stays d s s'
def PQ (ds : Fx) (N : NL) (R : Ending → World → Prop) (Q : Exit → Act → World → Prop) : Prop := ∀ ps a w, Held ds N a → R (.panicked ps) w → Q (.panic ps) a w
theorem step_ok {J : Jt} {key : Nat} {k : ASt → XT} {Q : Exit → Act → World → Prop} (hP : PQ ds N R Q) (h : Inv ds P pin R N s (stepX P N key o s (core P s.ev s.blks o) k) J a w) :
    o.wp P a w (fun a' w' => ∃ s', Goes s o.dst s' ∧ Inv ds P pin R N s' (k s') J a' w') Q := by
  obtain ⟨ρ, L, Lu, wu, hok, hrel, hL, hext, hpin, hpd⟩ := h
  have hc := core_ok (P := P) (o := o) hrel.env
  generalize core P s.ev s.blks o = e at hok hc
  unfold stepX at hok
  by_cases hd : dstOk N o.dst = true
  case neg => rw [if_neg hd] at hok; exact hok.elim
  rw [if_pos hd] at hok
  have hdst := hd
  unfold Oper.wp
  cases e with
  | val x =>
    simp only [split_eq] at hok
    have hr : runs P o a w = _ := hc.2
    unfold runs at hr
    rw [hr]
    exact ⟨_, ⟨Subst.put _ _, Stays.put _ _⟩, ρ, L, Lu, wu, hok, hrel.put o.dst x hc.1 hdst, by rw [put_D]; exact hL, hext, hpin, by rw [put_D]; exact hpd⟩
  | alloc c T =>
    simp only at hok
    split at hok
    · rename_i hn
      have hr : runs P o a w = _ := hc.2
      unfold runs at hr
      rw [hr]
      let ρ' : Nat → Nat := fun j => if j = key then w.heap.size else ρ j
      have hkey : s.D key = false := by simp [ASt.D, hn]
      have hρ : ∀ j, s.D j = true → ρ j = ρ' j := fun j hj => by
        have : j ≠ key := fun e => by rw [e, hkey] at hj; cases hj
        simp [ρ', this]
      have hlt : ∀ j, s.D j = true → ρ j < w.heap.size := fun j hj => by
        obtain ⟨⟨c', T'⟩, hb⟩ := Option.isSome_iff_exists.1 hj
        exact (Array.getElem?_eq_some_iff.1 (hrel.blks j c' T' hb)).1
      have hD : ∀ j, s.D j = true → (s.set key c T).D j = true := fun j hj => by rw [set_D, hj, Bool.or_true]
      have hrel' : Rel ds N ρ' (s.set key c T) a { w with heap := w.heap.push (.cells (AV.gs ρ c).toArray T) } := by
        refine ⟨hrel.size, ?_, ?_, ?_, ?_, ?_, hrel.defers⟩
        · intro j x hx
          have hx' : s.tmps j = some x := hx
          rw [hrel.tmps j x hx', g_congr (fun k hk => hρ k hk) x (hrel.wft j x hx')]
        · intro j x hx
          exact wf_mono hD x (hrel.wft j x hx)
        · intro j c' T' hb
          simp only [ASt.set] at hb
          cases e : Nat.beq j key
          · rw [e] at hb
            have hb : s.blks j = some (c', T') := hb
            have hDj : s.D j = true := by simp [ASt.D, hb]
            have h1 := hlt j hDj
            rw [← hρ j hDj, ← gs_congr (fun k hk => hρ k hk) c' (hrel.wfb j c' T' hb)]
            have h2 := hrel.blks j c' T' hb
            simp only [Array.getElem?_push]
            rw [if_neg (by omega)]
            exact h2
          · rw [e] at hb
            simp only [cond_true, Option.some.injEq, Prod.mk.injEq] at hb
            obtain ⟨rfl, rfl⟩ := hb
            have e' := Nat.eq_of_beq_eq_true e
            rw [← gs_congr (fun k hk => hρ k hk) c hc.1]
            simp [ρ', e']
        · intro j c' T' hb
          refine wfs_mono hD c' ?_
          simp only [ASt.set] at hb
          cases e : Nat.beq j key
          · rw [e] at hb; exact hrel.wfb j c' T' hb
          · rw [e] at hb
            simp only [cond_true, Option.some.injEq, Prod.mk.injEq] at hb
            obtain ⟨rfl, rfl⟩ := hb
            exact hc.1
        · intro j j' hj hj' he
          rw [set_D] at hj hj'
          by_cases e1 : j = key
          · by_cases e2 : j' = key
            · rw [e1, e2]
            · rw [beq_ne e2, Bool.false_or] at hj'
              have := hlt j' hj'
              simp only [ρ', e1, e2, if_true, if_false] at he
              omega
          · rw [beq_ne e1, Bool.false_or] at hj
            by_cases e2 : j' = key
            · have := hlt j hj
              simp only [ρ', e1, e2, if_true, if_false] at he
              omega
            · rw [beq_ne e2, Bool.false_or] at hj'
              simp only [ρ', e1, e2, if_false] at he
              exact hrel.inj j j' hj hj' he
      have hval : (Value.pointer (some ⟨w.heap.size, 0, none⟩)) = (AV.p key 0).g ρ' := by simp [AV.g, ρ']
      rw [hval]
      refine ⟨_, ⟨(Subst.set key c T).trans (Subst.put _ _), ?_⟩, ρ', fun b => L b ∨ b = w.heap.size, Lu, wu, hok, hrel'.put o.dst _ (by simp only [AV.wf]; rw [set_D]; simp) hdst, ?_, ?_, ?_, ?_⟩
      · intro j hj
        rw [Stays.put (s := s.set key c T) o.dst (.p key 0) j hj]
        rfl
      · rw [put_D]
        intro k hk
        rw [set_D] at hk
        by_cases e : k = key
        · right; simp [ρ', e]
        · rw [beq_ne e, Bool.false_or] at hk
          left; rw [← hρ k hk]; exact hL k hk
      · refine ⟨fun b hb => Or.inl (hext.sub b hb), ?_, ?_, ?_, ?_, hext.same⟩
        · intro b hb hnb
          rcases hb with hb | rfl
          · exact hext.new b hb hnb
          · exact hext.size
        · intro b hb
          simp only [Array.size_push]
          rcases hb with hb | rfl
          · exact Nat.lt_succ_of_lt (hext.lt b hb)
          · exact Nat.lt_succ_self _
        · simp only [Array.size_push]; have := hext.size; omega
        · intro b hb hnb
          have := hext.size
          simp only [Array.getElem?_push]
          rw [if_neg (by omega)]
          exact hext.keep b hb hnb
      · intro q hq
        have hDq := hpd q hq
        rw [← hρ _ hDq]; exact hpin q hq
      · intro q hq
        rw [put_D]
        exact hD _ (hpd q hq)
    · exact hok.elim
  | stb q c T =>
    simp only at hok
    obtain ⟨hc1, c0, hb, w', hr, hsame, hsz, h1, h2⟩ := hc
    unfold runs at hr
    rw [hr]
    have hD : (s.set q c T).D = s.D := by
      funext j
      rw [set_D]
      cases e : Nat.beq j q
      · rfl
      · rw [Nat.eq_of_beq_eq_true e]; simp [ASt.D, hb]
    have hq := hL q (by simp [ASt.D, hb])
    have hrel' := (hrel.set (w' := w') hc1 hb h1 h2).put o.dst (.v undef) rfl hdst
    refine ⟨_, ⟨(Subst.set q c T).trans (Subst.put _ _), ?_⟩, ρ, L, Lu, wu, hok, hrel', ?_, ?_, hpin, ?_⟩
    · intro j hj
      rw [Stays.put (s := s.set q c T) o.dst (.v undef) j hj]
      rfl
    · rw [put_D, hD]; exact hL
    · refine ⟨hext.sub, hext.new, fun b hb => by rw [hsz]; exact hext.lt b hb, by rw [hsz]; exact hext.size, fun b hb' hnb => ?_, ?_⟩
      · have hne : b ≠ ρ q := fun e => by
          subst e
          have := hext.new _ hq hnb
          omega
        rw [h2 b hne]; exact hext.keep b hb' hnb
      · exact ⟨hsame.1.trans hext.same.1, hsame.2.1.trans hext.same.2.1, hsame.2.2.trans hext.same.2.2⟩
    · rw [put_D, hD]; exact hpd
  | chk c x =>
    simp only [split_eq] at hok
    obtain ⟨hct, hok⟩ := hok
    have hr : runs P o a w = _ := hc.2 hct
    unfold runs at hr
    rw [hr]
    exact ⟨_, ⟨Subst.put _ _, Stays.put _ _⟩, ρ, L, Lu, wu, hok, hrel.put o.dst x hc.1 hdst, by rw [put_D]; exact hL, hext, hpin, by rw [put_D]; exact hpd⟩
  | ld q ls row =>
    simp only at hok
    obtain ⟨ad, x, hq, hsp, hlt, hnl, hcell, hok⟩ := hok
    have hblk : w.heap[ad.block]? = wu.heap[ad.block]? := hext.keep _ hlt hnl
    have hcw : ∀ y : Addr, y.block = ad.block → w.cell? y = wu.cell? y := fun y hy => by unfold World.cell?; rw [hy, hblk]
    have hadd : ∀ j, (ad.add j).block = ad.block := fun j => by unfold Addr.add; split <;> rfl
    have hr := hc ad x hq hsp (fun j v hv => by rw [hcw _ (hadd j)]; exact hcell j v hv)
    unfold runs at hr
    rw [hr]
    have hwf : AV.wfs s.D (vs ls x) = true := vs_wf _ _ _
    cases row with
    | true =>
      simp only [if_true] at hok
      have he : Value.agg (Tup.V ls x).toArray = (AV.agg (vs ls x)).g ρ := by simp [AV.g, vs, gs_v]
      simp only [if_true, he]
      exact ⟨_, ⟨Subst.put _ _, Stays.put _ _⟩, ρ, L, Lu, wu, hok, hrel.put o.dst _ (by simp only [AV.wf]; exact hwf) hdst, by rw [put_D]; exact hL, hext, hpin, by rw [put_D]; exact hpd⟩
    | false =>
      simp only [split_eq, Bool.false_eq_true, if_false] at hok
      have he : (Tup.V ls x).headD undef = ((vs ls x).headD (.v undef)).g ρ := by
        unfold vs
        cases Tup.V ls x <;> rfl
      simp only [Bool.false_eq_true, if_false, he]
      exact ⟨_, ⟨Subst.put _ _, Stays.put _ _⟩, ρ, L, Lu, wu, hok, hrel.put o.dst _ (headD_wf _ _ hwf) hdst, by rw [put_D]; exact hL, hext, hpin, by rw [put_D]; exact hpd⟩
  | sto q xs =>
    simp only at hok
    split at hok
    · rename_i ex hex
      obtain ⟨o1, o2, o3⟩ := outOf_ok hrel hL _ ex hex
      obtain ⟨ad, hq, hsp, hnl, hthere, hok⟩ := hok ρ L w hpin hext o1
      have hr := hc.2 ad hq hsp hthere
      unfold runs at hr
      rw [hr]
      have hother : ∀ b, b ≠ ad.block → ∀ (vs : List Value) (i : Nat) (w : World), (w.setCells ad.block i vs).heap[b]? = w.heap[b]? := by
        intro b hb vs
        induction vs with
        | nil => intro i w; rfl
        | cons v r ih => intro i w; rw [World.setCells, ih]; simp only [World.setCell, Array.getElem?_modify]; rw [if_neg (fun e => hb e.symm)]
      have hsize : ∀ (vs : List Value) (i : Nat) (w : World), (w.setCells ad.block i vs).heap.size = w.heap.size := by
        intro vs
        induction vs with
        | nil => intro i w; rfl
        | cons v r ih => intro i w; rw [World.setCells, ih]; simp [World.setCell]
      have hrel' := (hrel.world (w' := w.setCells ad.block ad.off (AV.gs ρ xs)) (fun k hk => hother _ (fun e => hnl (e ▸ hL k hk)) _ _ _)).put o.dst (.v undef) rfl hdst
      refine ⟨_, ⟨Subst.put _ _, Stays.put _ _⟩, ρ, L, L, _, hok, hrel', by rw [put_D]; exact hL, Ext.refl (fun b hb => by rw [hsize]; exact hext.lt b hb), hpin, by rw [put_D]; exact hpd⟩
    · exact hok.elim
  | call f args t =>
    simp only at hok
    split at hok
    · rename_i sh ls ex hsh hex
      split at hok
      · rename_i els ns hles
        obtain ⟨o1, o2, o3⟩ := outOf_ok hrel hL _ ex hex
        have hcall := hok ρ L w hpin hext o1 o2
        have hr : runs P o a w = _ := hc.2
        unfold runs at hr
        rw [hr, Oper.upon_enter]
        refine hcall.mono ?_
        rintro e w2 (⟨x, rfl, hback, hkeep, hok2⟩ | ⟨ps, rfl, hR⟩)
        case inr => exact hP ps a w2 hrel.defers hR
        simp only [split_eq] at hok2
        have hm : (segs ns ((vs (ls ++ els) x).drop ((ls ++ els).length - ns.sum))) = (segs ns ((Tup.V (ls ++ els) x).drop ((ls ++ els).length - ns.sum))).map (List.map AV.v) := by
          unfold vs
          rw [← List.map_drop, segs_map]
        rw [hm] at hok2
        obtain ⟨r1, r2⟩ := Rel.back (N := N) (ρ := ρ) (a := a) ex _ s w w2 hrel o3 o2 hback (fun k hk hx => hkeep.2.2 _ (hL k hk) hx)
        have hrel' := r1.put o.dst (sh.av (vs (ls ++ els) x)) (av_wf _ sh _ (vs_wf _ _ _)) hdst
        refine ⟨_, ⟨(Subst.back ex _ s).trans (Subst.put _ _), ?_⟩, ρ, L, L, w2, hok2, hrel', by rw [put_D, r2]; exact hL, Ext.refl (fun b hb => Nat.lt_of_lt_of_le (hext.lt b hb) hkeep.1), hpin, by rw [put_D, r2]; exact hpd⟩
        intro j hj
        rw [Stays.put o.dst _ j hj, back_tmps]
      · exact hok.elim
    · exact hok.elim
  | die x =>
    have hr : runs P o a w = _ := hc.2
    unfold runs at hr
    rw [hr, Oper.upon_panic]
    exact hP _ a w hrel.defers (hok ρ L w hpin hext)
  | sem g t =>
    simp only at hok
    split at hok
    · rename_i sh ls hsh
      obtain ⟨x, w2, hrun, hkeep, hok2⟩ := hok L w hext
      simp only [split_eq] at hok2
      rcases hc _ _ hrun with hr | ⟨hdn, hr⟩
      case inr =>
        unfold runs at hr
        rw [hr]
        have e : s.put o.dst (sh.av (vs ls x)) = s.put o.dst (.v undef) := by rw [hdn]; rfl
        rw [e] at hok2
        have hrel' := (hrel.world (w' := w2) (fun k hk => hkeep.2.2 _ (hL k hk) (by simp))).put o.dst (.v undef) rfl hdst
        exact ⟨_, ⟨Subst.put _ _, Stays.put _ _⟩, ρ, L, L, w2, hok2, hrel', by rw [put_D]; exact hL, Ext.refl (fun b hb => Nat.lt_of_lt_of_le (hext.lt b hb) hkeep.1), hpin, by rw [put_D]; exact hpd⟩
      unfold runs at hr
      rw [hr]
      have he : (sh.av (vs ls x)).g id = (sh.av (vs ls x)).g ρ := g_congr (D := fun _ => false) (fun k hk => by cases hk) _ (av_wf _ sh _ (vs_wf _ _ _))
      rw [he]
      have hrel' := (hrel.world (w' := w2) (fun k hk => hkeep.2.2 _ (hL k hk) (by simp))).put o.dst (sh.av (vs ls x)) (av_wf _ sh _ (vs_wf _ _ _)) hdst
      exact ⟨_, ⟨Subst.put _ _, Stays.put _ _⟩, ρ, L, L, w2, hok2, hrel', by rw [put_D]; exact hL, Ext.refl (fun b hb => Nat.lt_of_lt_of_le (hext.lt b hb) hkeep.1), hpin, by rw [put_D]; exact hpd⟩
    · exact hok.elim
  | bad why => exact hok.elim
end
end Go.Proofs.YtcbpgbfbffnogaaGreatW.Rx
namespace Go.Proofs.YtcbpgbfbffnogaaGreatW.Rx
open Go
set_option linter.unusedVariables false
set_option linter.unusedSimpArgs false
section
variable (P : Program) (N : NL)
def wantX (ops : Array Oper) (o : Oper) (s : ASt) : Option Bool := match o.guard with
  | none => some true
  | some (j, want) => match (ops[j]?).bind (·.dst) with
    | none => some false
    | some d => match s.tmps d with
      | some (.v x) => some (match x with | .bool b => b == want | _ => false)
      | some _ => some false
      | none => none
def opX (base : Nat) (ops : Array Oper) (i : Nat) (s : ASt) (k : ASt → XT) : XT := match ops[i]? with
  | none => k s
  | some o => match wantX ops o s with
    | some b => bif b then stepX P N (base + i) o s (core P s.ev s.blks o) k else (bif dstOk N o.dst then k (s.put o.dst (.v undef)) else .bad "slot")
    | none => .bad "guard"
def runX (base : Nat) (ops : Array Oper) : List Nat → ASt → (ASt → XT) → XT
  | [], s, k => k s
  | i :: r, s, k => opX P N base ops i s fun s' => runX base ops r s' k
end
def dsts (ops : Array Oper) : List Nat := ops.toList.filterMap (·.dst)
section
variable {P : Program} {pin : List (Nat × Nat)} {R : Ending → World → Prop} {N : NL}
variable {ds : Fx}
variable {ρ : Nat → Nat} {s : ASt} {a : Act} {w : World} {o : Oper} {L Lu : Nat → Prop} {wu : World} {J : Jt} {Q : Exit → Act → World → Prop} {ops : Array Oper} {base : Nat}
theorem want_ok (h : Rel ds N ρ s a w) {b : Bool} (hb : wantX ops o s = some b) : Region.wanted o (yielded ops a.tmps) = b := by
  unfold wantX at hb
  unfold Region.wanted
  split at hb
  · rename_i hg
    simp only [hg]
    exact Option.some.inj hb
  · rename_i j want hg
    simp only [hg]
    unfold yielded
    split at hb
    · rename_i hd
      have hb := Option.some.inj hb
      subst hb
      rw [hd]; simp
    · rename_i d hd
      have e : ∀ v, a.tmps.getD d undef = v → (a.tmps[d]? = some v ∨ (a.tmps[d]? = none ∧ v = undef)) := by
        intro v hv
        rw [Array.getD_eq_getD_getElem?] at hv
        cases hq : a.tmps[d]? with
        | none => right; rw [hq] at hv; exact ⟨rfl, hv.symm⟩
        | some u => left; rw [hq] at hv; simp only [Option.getD_some] at hv; rw [hv]
      rw [hd, Option.bind_some]
      split at hb
      · rename_i x hx
        have hb := Option.some.inj hb
        subst hb
        have h1 := h.tmps d _ hx
        simp only [AV.g] at h1
        rcases e x h1 with h2 | ⟨h2, rfl⟩
        · rw [h2]
          cases x <;> simp
        · rw [h2]; simp [undef]
      · rename_i x hne hx
        have hb := Option.some.inj hb
        subst hb
        have h1 := h.tmps d _ hx
        cases x with
        | v x => exact (hne x rfl).elim
        | p k off =>
          rcases e _ h1 with h2 | ⟨h2, h3⟩
          · rw [h2]; simp [AV.g]
          · rw [h2]; simp
        | agg cs =>
          rcases e _ h1 with h2 | ⟨h2, h3⟩
          · rw [h2]; simp [AV.g]
          · rw [h2]; simp
        | tup cs =>
          rcases e _ h1 with h2 | ⟨h2, h3⟩
          · rw [h2]; simp [AV.g]
          · rw [h2]; simp
        | fn f x y =>
          rcases e _ h1 with h2 | ⟨h2, h3⟩
          · rw [h2]; simp [AV.g]
          · rw [h2]; simp
      · cases hb
def Went (W : List Nat) (s s' : ASt) : Prop := Subst s s' ∧ ∀ j, j ∉ W → s'.tmps j = s.tmps j ∨ s'.tmps j = none
theorem Went.refl (W : List Nat) (s : ASt) : Went W s s := ⟨Subst.refl s, fun _ _ => Or.inl rfl⟩
theorem Went.trans {W : List Nat} {s s' s'' : ASt} (h : Went W s s') (h' : Went W s' s'') : Went W s s'' := ⟨h.1.trans h'.1, fun j hj => by
  rcases h'.2 j hj with e | e
  · rw [e]; exact h.2 j hj
  · exact Or.inr e⟩
theorem Went.mono {W W' : List Nat} {s s' : ASt} (h : Went W s s') (hs : ∀ j, j ∈ W → j ∈ W') : Went W' s s' := ⟨h.1, fun j hj => h.2 j (fun h' => hj (hs j h'))⟩
theorem dst_mem {i d : Nat} (h : ops[i]? = some o) (hd : o.dst = some d) : d ∈ dsts ops := by
  unfold dsts
  rw [List.mem_filterMap]
  exact ⟨o, by rw [Array.mem_toList_iff]; exact Array.mem_of_getElem? h, hd⟩
theorem goes_went {i : Nat} {s' : ASt} (ho : ops[i]? = some o) (h : Goes s o.dst s') : Went (dsts ops) s s' :=
  ⟨h.1, fun j hj => Or.inl (h.2 j (fun e => hj (dst_mem ho e.symm)))⟩
theorem op_ok (hP : PQ ds N R Q) {i : Nat} {k : ASt → XT} (h : Inv ds P pin R N s (opX P N base ops i s k) J a w) :
    wpOp P ops Q i (fun a' w' => ∃ s', Went (dsts ops) s s' ∧ Inv ds P pin R N s' (k s') J a' w') a w := by
  unfold opX at h
  unfold wpOp
  split at h
  · rename_i hn
    rw [hn]
    exact ⟨s, Went.refl _ s, h⟩
  · rename_i o ho
    simp only [ho]
    split at h
    · rename_i b hb
      have hw : Region.wanted o (yielded ops a.tmps) = b := by
        obtain ⟨ρ, L, Lu, wu, _, hrel, _⟩ := h
        exact want_ok hrel hb
      rw [hw]
      cases b with
      | true =>
        simp only [cond_true] at h
        simp only [if_true]
        refine Or.inl ?_
        exact Oper.wp_mono (fun a' w' ⟨s', h1, h2⟩ => ⟨s', goes_went ho h1, h2⟩) (step_ok hP h)
      | false =>
        simp only [cond_false] at h
        simp only [Bool.false_eq_true, if_false]
        obtain ⟨ρ, L, Lu, wu, hok, hrel, hL, hext, hpin, hpd⟩ := h
        cases hd : dstOk N o.dst
        · rw [hd] at hok; exact hok.elim
        · rw [hd] at hok
          exact ⟨_, goes_went ho ⟨Subst.put _ _, Stays.put _ _⟩, ρ, L, Lu, wu, hok, hrel.put o.dst (.v undef) rfl hd, by rw [put_D]; exact hL, hext, hpin, by rw [put_D]; exact hpd⟩
    · obtain ⟨ρ, L, Lu, wu, hok, _⟩ := h
      exact hok.elim
theorem run_ok (hP : PQ ds N R Q) {k : ASt → XT} : ∀ (is : List Nat) (s : ASt) (a : Act) (w : World), Inv ds P pin R N s (runX P N base ops is s k) J a w →
    (∀ s' a' w', Went (dsts ops) s s' → Inv ds P pin R N s' (k s') J a' w' → Q .normal a' w') → wpOps P ops Q is a w
  | [], s, a, w, h, hq => hq s a w (Went.refl _ s) h
  | i :: r, s, a, w, h, hq => by
    rw [wpOps_cons]
    refine wpOp_mono ?_ (op_ok hP h)
    rintro a' w' ⟨s', hw, hi⟩
    exact run_ok hP r s' a' w' hi (fun s'' a'' w'' hw' => hq s'' a'' w'' (hw.trans hw'))
end
end Go.Proofs.YtcbpgbfbffnogaaGreatW.Rx
namespace Go.Proofs.YtcbpgbfbffnogaaGreatW.Rx
open Go
set_option linter.unusedVariables false
set_option linter.unusedSimpArgs false
inductive XE where
  | norm | exit (id : Nat) | ret
def XE.c : XE → Exit
  | .norm => .normal
  | .exit i => .exit i
  | .ret => .ret
structure LA where
  slots : List (Nat × Bool × List Lf)
  cells : List (Nat × List Lf)
def LA.ls (la : LA) : List Lf := (la.slots.flatMap fun x => x.2.2) ++ (la.cells.flatMap fun x => x.2)
def codeDsts : Code → List Nat
  | .region _ ops _ => dsts ops
  | .seq a b => codeDsts a ++ codeDsts b
  | .cond _ a b => codeDsts a ++ codeDsts b
  | .block _ c => codeDsts c
  | .loop c => codeDsts c
  | _ => []
def codeRegs : Code → List Nat
  | .region id _ _ => [id]
  | .seq a b => codeRegs a ++ codeRegs b
  | .cond _ a b => codeRegs a ++ codeRegs b
  | .block _ c => codeRegs c
  | .loop c => codeRegs c
  | _ => []
def isAlloc (o : Oper) : Bool := match o.op with
  | .alloc _ => true
  | .box _ _ => true
  | _ => false
def codeKeys : Code → List Nat
  | .region id ops _ => (ops.toList.zipIdx.filter fun x => isAlloc x.1).map fun x => (id + 1) * 1000 + x.2
  | .seq a b => codeKeys a ++ codeKeys b
  | .cond _ a b => codeKeys a ++ codeKeys b
  | .block _ c => codeKeys c
  | .loop c => codeKeys c
  | _ => []
def dropped (rs : List Nat) (k : Nat) : Bool := rs.any fun r => Nat.beq (k / 1000) (r + 1)
def unLf : (l : Lf) → AV → Option l.T
  | .i k, .v (.int k' n) => if k = k' then some n else none
  | .b, .v (.bool x) => some x
  | .s, .v (.string x) => some x
  | .sl, .v (.slice a n c) => some (a, n, c)
  | .p, .v (.pointer a) => some a
  | .m, .v (.map r) => some r
  | _, _ => none
def unTup : (ls : List Lf) → List AV → Option (Tup ls)
  | [], [] => some ()
  | l :: r, x :: xs => match unLf l x, unTup r xs with
    | some a, some b => some (a, b)
    | _, _ => none
  | _, _ => none
def takeSlots (s : ASt) : List (Nat × Bool × List Lf) → Option (List AV)
  | [] => some []
  | (j, row, lf) :: r => match s.tmps j, takeSlots s r with
    | some x, some xs => if row then (match x with | .agg cs => if Nat.beq cs.length lf.length then some (cs ++ xs) else none | _ => none) else (if Nat.beq lf.length 1 then some (x :: xs) else none)
    | _, _ => none
def takeCells (s : ASt) : List (Nat × List Lf) → Option (List AV)
  | [] => some []
  | (k, lf) :: r => match s.blks k, takeCells s r with
    | some (c, _), some xs => if Nat.beq c.length lf.length then some (c ++ xs) else none
    | _, _ => none
def takeS (la : LA) (s : ASt) : Option (Tup la.ls) := match takeSlots s la.slots, takeCells s la.cells with
  | some a, some b => unTup la.ls (a ++ b)
  | _, _ => none
def giveSlots : List (Nat × Bool × List Lf) → List AV → Nat → Option AV
  | [], _, _ => none
  | (j, row, lf) :: r, xs, i => bif Nat.beq i j then some (if row then .agg (xs.take lf.length) else xs.headD (.v undef)) else giveSlots r (xs.drop lf.length) i
def giveCells : List (Nat × List Lf) → List AV → Nat → Option (List AV)
  | [], _, _ => none
  | (k, lf) :: r, xs, i => bif Nat.beq i k then some (xs.take lf.length) else giveCells r (xs.drop lf.length) i
def headS (N : NL) (la : LA) (s : ASt) (W rs KS : List Nat) (xs : List AV) : ASt where
  tmps j := if Nat.blt j N.n then (match giveSlots la.slots xs j with
    | some x => some x
    | none => if W.contains j then none else match s.tmps j with
      | some x => if x.wf (fun k => KS.contains k && !dropped rs k && (s.blks k).isSome) then some x else none
      | none => none) else none
  blks k := if KS.contains k && !dropped rs k then (match s.blks k with
    | some (c, T) => (match giveCells la.cells (xs.drop (la.slots.flatMap fun x => x.2.2).length) k with
      | some c' => some (c', T)
      | none => some (c, T))
    | none => none) else none
  ver k := if (la.cells.any fun x => Nat.beq x.1 k) || dropped rs k || !KS.contains k then s.ver k + 1 else s.ver k
def headOk (KS : List Nat) (s : ASt) : Bool := KS.all fun k => match s.blks k with
  | some (c, _) => AV.wfs s.D c
  | none => true
def backOk (la : LA) (rs KS : List Nat) (h s : ASt) : Bool := KS.all fun k => dropped rs k || (match h.blks k with
  | none => true
  | some (_, T) => if (la.cells.any fun x => Nat.beq x.1 k) then (match s.blks k with | some (_, T') => Nat.beq T T' | none => false) else Nat.beq (s.ver k) (h.ver k))
def tmpsOk (N : NL) (W : List Nat) (h s : ASt) : Bool := (List.range N.n).all fun j => W.contains j || !(h.tmps j).isSome || (s.tmps j).isSome
def firstReg : List Nat → Nat
  | [] => 0
  | r :: _ => r
section
variable (P : Program) (N : NL) (A : Nat → LA) (C : Nat → Option LA) (KS : List Nat) (pk : List Nat) (drawX : Nat → Array Oper → ASt → (ASt → XT) → XT)
def X : Code → Nat → ASt → (XE → ASt → XT) → XT
  | .skip, _, s, κ => κ .norm s
  | .region id ops draw, _, s, κ => bif draw then drawX ((id + 1) * 1000) ops s (fun s' => κ .norm s') else runX P N ((id + 1) * 1000) ops (List.range ops.size) s (fun s' => κ .norm s')
  | .seq a b, l, s, κ => match C (firstReg (codeRegs b)) with
    | none => X a l s fun e s' => match e with
      | .norm => X b l s' κ
      | .exit i => κ (.exit i) s'
      | .ret => κ .ret s'
    | some la =>
      let hd := fun (y : Tup la.ls) => headS N la s (codeDsts a) (codeRegs a) KS (vs la.ls y)
      if pk.all (fun k => KS.contains k && !dropped (codeRegs a) k) && la.slots.all (fun x => (codeDsts a).contains x.1 && Nat.blt x.1 N.n) then
        .cut la.ls l (X a (l + 1) s fun e s' => match e with
          | .norm => (match takeS la s' with
            | some z => if backOk la (codeRegs a) KS (hd z) s' && tmpsOk N (codeDsts a) (hd z) s' && headOk KS (hd z) then .again l la.ls z else .bad "cut: a known block turned"
            | none => .bad "cut: what is carried")
          | .exit i => κ (.exit i) s'
          | .ret => κ .ret s') fun y => X b l (hd y) κ
      else .bad "cut: pins"
  | .cond c a b, l, s, κ => match s.ev c with
    | some (.v (.bool t)) => bif t then X a l s κ else X b l s κ
    | _ => .bad "cond"
  | .block id c, l, s, κ => X c l s fun e s' => match e with
    | .exit i => if i = id then κ .norm s' else κ (.exit i) s'
    | .norm => κ .norm s'
    | .ret => κ .ret s'
  | .exit id, _, s, κ => κ (.exit id) s
  | .ret, _, s, κ => κ .ret s
  | .loop c, l, s, κ =>
    let la := A (firstReg (codeRegs c))
    let hd := fun (y : Tup la.ls) => headS N la s (codeDsts c) (codeRegs c) KS (vs la.ls y)
    match takeS la s with
    | some x => if pk.all (fun k => KS.contains k && !dropped (codeRegs c) k) && la.slots.all (fun x => (codeDsts c).contains x.1 && Nat.blt x.1 N.n) then .loop la.ls x l fun y => if headOk KS (hd y) then X c (l + 1) (hd y) (fun e s' => match e with
        | .norm => (match takeS la s' with
          | some z => if backOk la (codeRegs c) KS (hd y) s' && tmpsOk N (codeDsts c) (hd y) s' then .again l la.ls z else .bad "loop: a known block turned"
          | none => .bad "loop: what is carried (behind a round)")
        | .exit i => κ (.exit i) s'
        | .ret => κ .ret s') else .bad "loop: head" else .bad "loop: pins"
    | none => .bad "loop: what is carried"
  | _, _, _, _ => .bad "code"
end
def XT.loc : XT → (Nat → Prop) → Prop
  | .done _ _, _ => True
  | .bad _, _ => True
  | .die _, _ => True
  | .need _ k, p => k.loc p
  | .keep _ _ k, p => k.loc p
  | .ld _ _ k, p => ∀ x, (k x).loc p
  | .sto _ _ _ k, p => k.loc p
  | .call _ _ _ _ _ _ k, p => ∀ x, (k x).loc p
  | .sem _ _ _ k, p => ∀ x, (k x).loc p
  | .loop _ _ l b, p => ∀ y, (b y).loc fun m => p m ∨ m = l
  | .again l _ _, p => p l
  | .cut _ l b k, p => (b.loc fun m => p m ∨ m = l) ∧ ∀ y, (k y).loc p
  | .both a b, p => a.loc p ∧ b.loc p
theorem loc_mono : ∀ (t : XT) (p q : Nat → Prop), (∀ m, p m → q m) → t.loc p → t.loc q
  | .done _ _, _, _, _, _ => trivial
  | .bad _, _, _, _, _ => trivial
  | .need _ k, p, q, h, ht => loc_mono k p q h ht
  | .keep _ _ k, p, q, h, ht => loc_mono k p q h ht
  | .die _, p, q, h, ht => trivial
  | .ld _ _ k, p, q, h, ht => fun x => loc_mono (k x) p q h (ht x)
  | .sto _ _ _ k, p, q, h, ht => loc_mono k p q h ht
  | .call _ _ _ _ _ _ k, p, q, h, ht => fun x => loc_mono (k x) p q h (ht x)
  | .sem _ _ _ k, p, q, h, ht => fun x => loc_mono (k x) p q h (ht x)
  | .loop _ _ l b, p, q, h, ht => fun y => loc_mono (b y) _ _ (fun m hm => hm.imp (h m) id) (ht y)
  | .again l _ _, p, q, h, ht => h l ht
  | .cut _ l b k, p, q, h, ht => ⟨loc_mono b _ _ (fun m hm => hm.imp (h m) id) ht.1, fun y => loc_mono (k y) p q h (ht.2 y)⟩
  | .both a b, p, q, h, ht => ⟨loc_mono a p q h ht.1, loc_mono b p q h ht.2⟩
section
variable {P : Program} {pin : List (Nat × Nat)} {R : Ending → World → Prop}
variable {ds : Fx}
theorem ok_congr : ∀ (t : XT) (p : Nat → Prop) (J J' : Jt) (L : Nat → Prop) (w : World), (∀ m, p m → J m = J' m) → t.loc p → t.ok P pin R J L w → t.ok P pin R J' L w
  | .done _ _, p, J, J', L, w, h, hl, ht => ht
  | .bad _, p, J, J', L, w, h, hl, ht => ht
  | .die _, p, J, J', L, w, h, hl, ht => ht
  | .need _ k, p, J, J', L, w, h, hl, ht => ⟨ht.1, ok_congr k p J J' L w h hl ht.2⟩
  | .both a b, p, J, J', L, w, h, hl, ht => ⟨ok_congr a p J J' L w h hl.1 ht.1, ok_congr b p J J' L w h hl.2 ht.2⟩
  | .keep _ _ k, p, J, J', L, w, h, hl, ht => ⟨ht.1, ok_congr k p J J' L w h hl ht.2⟩
  | .ld _ _ k, p, J, J', L, w, h, hl, ht => by
    obtain ⟨ad, x, h1, h2, h3, h4, h5, h6⟩ := ht
    exact ⟨ad, x, h1, h2, h3, h4, h5, ok_congr (k x) p J J' L w h (hl x) h6⟩
  | .sto _ _ _ k, p, J, J', L, w, h, hl, ht => fun ρ L1 w1 h1 h2 h3 => by
    obtain ⟨ad, g1, g2, g3, g4, g5⟩ := ht ρ L1 w1 h1 h2 h3
    exact ⟨ad, g1, g2, g3, g4, ok_congr k p J J' _ _ h hl g5⟩
  | .call _ _ _ _ _ _ k, p, J, J', L, w, h, hl, ht => fun ρ L1 w1 h1 h2 h3 h4 => (ht ρ L1 w1 h1 h2 h3 h4).mono (fun e w2 h0 => h0.imp (fun ⟨x, g1, g2, g3, g4⟩ => ⟨x, g1, g2, g3, ok_congr (k x) p J J' _ _ h (hl x) g4⟩) id)
  | .sem _ _ _ k, p, J, J', L, w, h, hl, ht => fun L1 w1 h1 => by
    obtain ⟨x, w2, g1, g2, g3⟩ := ht L1 w1 h1
    exact ⟨x, w2, g1, g2, ok_congr (k x) p J J' _ _ h (hl x) g3⟩
  | .loop ls x l b, p, J, J', L, w, h, hl, ht => by
    obtain ⟨I, h0, hr⟩ := ht
    refine ⟨I, h0, fun n y L1 w1 hi => ok_congr (b y) _ _ _ _ _ ?_ (hl y) (hr n y L1 w1 hi)⟩
    intro m hm
    unfold Jt.set
    rcases hm with hm | rfl
    · split
      · rfl
      · exact h m hm
    · simp
  | .again l ls x, p, J, J', L, w, h, hl, ht => fun L1 w1 h1 => by
    rw [← h l hl]; exact ht L1 w1 h1
  | .cut ls l b k, p, J, J', L, w, h, hl, ht => by
    obtain ⟨I, h1, h2⟩ := ht
    refine ⟨I, ok_congr b _ _ _ _ _ ?_ hl.1 h1, fun y L1 w1 hi => ok_congr (k y) p J J' _ _ h (hl.2 y) (h2 y L1 w1 hi)⟩
    intro m hm
    unfold Jt.set
    rcases hm with hm | rfl
    · split
      · rfl
      · exact h m hm
    · simp
variable {N : NL} {A : Nat → LA} {C : Nat → Option LA} {KS pk : List Nat} {drawX : Nat → Array Oper → ASt → (ASt → XT) → XT} {p : Nat → Prop}
theorem split_loc {x : AV} {k : AV → XT} (h : ∀ y, (k y).loc p) : (split x k).loc p := by rw [split_eq]; exact h _
theorem step_loc {key : Nat} {o : Oper} {s : ASt} {e : Eff} {k : ASt → XT} (h : ∀ s', (k s').loc p) : (stepX P N key o s e k).loc p := by
  unfold stepX
  split
  · cases e with
    | val x => exact split_loc (fun _ => h _)
    | alloc c T => dsimp only; split; exact h _; trivial
    | stb q c T => exact h _
    | chk c x => exact split_loc (fun _ => h _)
    | ld q ls row =>
      intro x
      dsimp only
      split
      · exact h _
      · exact split_loc (fun _ => h _)
    | sto q xs => dsimp only; split; exact h _; trivial
    | call f args t =>
      dsimp only
      split
      · split
        · intro x; exact split_loc (fun _ => h _)
        · trivial
      · trivial
    | die x => trivial
    | sem g t => dsimp only; split; (intro x; exact split_loc (fun _ => h _)); trivial
    | bad why => trivial
  · trivial
theorem op_loc {base i : Nat} {ops : Array Oper} {s : ASt} {k : ASt → XT} (h : ∀ s', (k s').loc p) : (opX P N base ops i s k).loc p := by
  unfold opX
  split
  · exact h _
  · split
    · rename_i b hb
      cases b
      · simp only [cond_false]
        cases dstOk N _
        · trivial
        · exact h _
      · exact step_loc h
    · trivial
theorem run_loc {base : Nat} {ops : Array Oper} {k : ASt → XT} (h : ∀ s', (k s').loc p) : ∀ (is : List Nat) (s : ASt), (runX P N base ops is s k).loc p
  | [], s => h s
  | i :: r, s => op_loc (fun s' => run_loc h r s')
theorem X_loc (hdraw : ∀ base ops s k (p : Nat → Prop), (∀ s', XT.loc (k s') p) → (drawX base ops s k).loc p) : ∀ (c : Code) (p : Nat → Prop) (l : Nat) (s : ASt) (κ : XE → ASt → XT), (∀ e s', (κ e s').loc p) → (X P N A C KS pk drawX c l s κ).loc p
  | .skip, p, l, s, κ, h => h _ _
  | .region id ops draw, p, l, s, κ, h => by
    unfold X
    cases draw
    · exact run_loc (fun _ => h _ _) _ _
    · exact hdraw _ _ _ _ _ (fun _ => h _ _)
  | .seq a b, p, l, s, κ, h => by
    unfold X
    split
    · refine X_loc hdraw a p l s _ (fun e s' => ?_)
      cases e
      · exact X_loc hdraw b p l s' κ h
      · exact h _ _
      · exact h _ _
    · rename_i la hla
      dsimp only
      split
      · refine ⟨X_loc hdraw a _ (l + 1) s _ (fun e s' => ?_), fun y => X_loc hdraw b p l _ κ h⟩
        cases e
        · dsimp only
          split
          · split
            · exact Or.inr rfl
            · trivial
          · trivial
        · exact loc_mono _ _ _ (fun m hm => Or.inl hm) (h _ _)
        · exact loc_mono _ _ _ (fun m hm => Or.inl hm) (h _ _)
      · trivial
  | .cond c a b, p, l, s, κ, h => by
    unfold X
    split
    · rename_i t _
      cases t
      · exact X_loc hdraw b p l s κ h
      · exact X_loc hdraw a p l s κ h
    · trivial
  | .block id c, p, l, s, κ, h => by
    unfold X
    refine X_loc hdraw c p l s _ (fun e s' => ?_)
    cases e
    · exact h _ _
    · dsimp only; split <;> exact h _ _
    · exact h _ _
  | .exit id, p, l, s, κ, h => h _ _
  | .ret, p, l, s, κ, h => h _ _
  | .loop c, p, l, s, κ, h => by
    unfold X
    dsimp only
    split
    · split
      · intro y
        show XT.loc (if headOk KS (headS N (A (firstReg (codeRegs c))) s (codeDsts c) (codeRegs c) KS (vs (A (firstReg (codeRegs c))).ls y)) = true then _ else _) _
        by_cases hh : headOk KS (headS N (A (firstReg (codeRegs c))) s (codeDsts c) (codeRegs c) KS (vs (A (firstReg (codeRegs c))).ls y)) = true
        · rw [if_pos hh]
          refine X_loc hdraw c _ (l + 1) _ _ (fun e s' => ?_)
          cases e
          · dsimp only
            split
            · split
              · exact Or.inr rfl
              · trivial
            · trivial
          · exact loc_mono _ _ _ (fun m hm => Or.inl hm) (h _ _)
          · exact loc_mono _ _ _ (fun m hm => Or.inl hm) (h _ _)
        · rw [if_neg hh]; trivial
      · trivial
    · trivial
  | .rangeFunc .., p, l, s, κ, h => trivial
  | .scope _, p, l, s, κ, h => trivial
  | .label _, p, l, s, κ, h => trivial
  | .goto _, p, l, s, κ, h => trivial
  | .refuse _, p, l, s, κ, h => trivial
end
end Go.Proofs.YtcbpgbfbffnogaaGreatW.Rx
namespace Go.Proofs.YtcbpgbfbffnogaaGreatW.Rx
open Go
set_option linter.unusedVariables false
set_option linter.unusedSimpArgs false
section
variable {P : Program} {pin : List (Nat × Nat)} {R : Ending → World → Prop} {N : NL} {A : Nat → LA} {C : Nat → Option LA} {KS pk : List Nat} {drawX : Nat → Array Oper → ASt → (ASt → XT) → XT}
variable {ds : Fx}
variable {ρ : Nat → Nat} {s : ASt} {a : Act} {w : World} {L Lu : Nat → Prop} {wu : World} {J : Jt}
theorem unLf_ok (l : Lf) (x : AV) (y : l.T) (h : unLf l x = some y) : x = .v (l.V y) := by
  unfold unLf at h
  split at h <;> try (cases h; done)
  · split at h
    · rename_i k k' n e; cases h; subst e; rfl
    · cases h
  all_goals (cases h; rfl)
theorem unTup_ok : ∀ (ls : List Lf) (xs : List AV) (y : Tup ls), unTup ls xs = some y → xs = vs ls y
  | [], [], y, h => rfl
  | l :: r, x :: xs, y, h => by
    simp only [unTup] at h
    split at h
    · rename_i a b h1 h2
      cases h
      have e1 := unLf_ok l x a h1
      have e2 := unTup_ok r xs b h2
      rw [e1, e2]; rfl
    · cases h
  | [], _ :: _, y, h => by cases h
  | _ :: _, [], y, h => by cases h
theorem giveSlots_ok : ∀ (sl : List (Nat × Bool × List Lf)) (xs rest : List AV) (s : ASt), takeSlots s sl = some xs → ∀ j x, giveSlots sl (xs ++ rest) j = some x → ∃ y, s.tmps j = some y ∧ y = x
  | [], xs, rest, s, h, j, x, hx => by simp [giveSlots] at hx
  | (i, row, lf) :: r, xs, rest, s, h, j, x, hx => by
    simp only [takeSlots] at h
    split at h
    · rename_i z zs hz hzs
      cases row
      · simp only [Bool.false_eq_true, if_false] at h
        split at h
        · rename_i hl
          cases h
          have hl := Nat.eq_of_beq_eq_true hl
          simp only [giveSlots] at hx
          cases e : Nat.beq j i
          · rw [e] at hx
            simp only [cond_false, hl, List.cons_append, List.drop_succ_cons, List.drop_zero] at hx
            exact giveSlots_ok r zs rest s hzs j x hx
          · rw [e] at hx
            simp only [cond_true, Bool.false_eq_true, if_false, List.cons_append, List.headD_cons, Option.some.injEq] at hx
            rw [Nat.eq_of_beq_eq_true e]
            exact ⟨z, hz, hx⟩
        · cases h
      · simp only [if_true] at h
        split at h
        · rename_i cs
          split at h
          · rename_i hl
            cases h
            have hl := Nat.eq_of_beq_eq_true hl
            simp only [giveSlots] at hx
            cases e : Nat.beq j i
            · rw [e] at hx
              simp only [cond_false, ← hl, List.append_assoc, List.drop_left] at hx
              exact giveSlots_ok r zs rest s hzs j x hx
            · rw [e] at hx
              simp only [cond_true, if_true, ← hl, List.append_assoc, List.take_left, Option.some.injEq] at hx
              rw [Nat.eq_of_beq_eq_true e]
              exact ⟨_, hz, hx⟩
          · cases h
        · cases h
    · cases h
theorem giveCells_ok : ∀ (sl : List (Nat × List Lf)) (xs : List AV) (s : ASt), takeCells s sl = some xs → ∀ k c, giveCells sl xs k = some c → ∃ T, s.blks k = some (c, T)
  | [], xs, s, h, j, x, hx => by simp [giveCells] at hx
  | (i, lf) :: r, xs, s, h, j, x, hx => by
    simp only [takeCells] at h
    split at h
    · rename_i cs T zs hz hzs
      split at h
      · rename_i hl
        cases h
        have hl := Nat.eq_of_beq_eq_true hl
        simp only [giveCells] at hx
        cases e : Nat.beq j i
        · rw [e] at hx
          simp only [cond_false, ← hl, List.drop_left] at hx
          exact giveCells_ok r zs s hzs j x hx
        · rw [e] at hx
          simp only [cond_true, ← hl, List.take_left, Option.some.injEq] at hx
          rw [Nat.eq_of_beq_eq_true e, ← hx]
          exact ⟨T, hz⟩
      · cases h
    · cases h
theorem giveCells_some : ∀ (sl : List (Nat × List Lf)) (xs : List AV) (k : Nat), (giveCells sl xs k).isSome = sl.any fun x => Nat.beq x.1 k
  | [], xs, k => rfl
  | (i, lf) :: r, xs, k => by
    simp only [giveCells, List.any_cons]
    have hc : Nat.beq i k = Nat.beq k i := by
      by_cases e : i = k
      · rw [e]
      · rw [beq_ne e, beq_ne (Ne.symm e)]
    rw [hc]
    cases Nat.beq k i
    · simp only [cond_false, Bool.false_or]; exact giveCells_some r _ k
    · rfl
theorem takeSlots_len : ∀ (sl : List (Nat × Bool × List Lf)) (xs : List AV), takeSlots s sl = some xs → xs.length = (sl.flatMap fun x => x.2.2).length
  | [], xs, h => by simp only [takeSlots, Option.some.injEq] at h; subst h; rfl
  | (i, row, lf) :: r, xs, h => by
    simp only [takeSlots] at h
    split at h
    · rename_i z zs hz hzs
      have ih := takeSlots_len r zs hzs
      cases row
      · simp only [Bool.false_eq_true, if_false] at h
        split at h
        · rename_i hl
          cases h
          have hl := Nat.eq_of_beq_eq_true hl
          simp [ih, hl]; omega
        · cases h
      · simp only [if_true] at h
        split at h
        · split at h
          · rename_i hl
            cases h
            have hl := Nat.eq_of_beq_eq_true hl
            simp [ih, hl]
          · cases h
        · cases h
    · cases h
theorem head_rel {la : LA} {W rs : List Nat} {s s' : ASt} {x : Tup la.ls} (hr : Rel ds N ρ s' a w) (ht : takeS la s' = some x) (hok : headOk KS (headS N la s W rs KS (vs la.ls x)) = true)
    (h1 : ∀ j, j ∉ W → giveSlots la.slots (vs la.ls x) j = none → j < N.n → ∀ y, s.tmps j = some y → y.wf (fun k => KS.contains k && !dropped rs k && (s.blks k).isSome) = true → s'.tmps j = some y)
    (h2 : ∀ k c T, s.blks k = some (c, T) → KS.contains k = true → dropped rs k = false → ((la.cells.any fun x => Nat.beq x.1 k) = true → ∃ c', s'.blks k = some (c', T)) ∧ ((la.cells.any fun x => Nat.beq x.1 k) = false → s'.blks k = some (c, T))) :
    Rel ds N ρ (headS N la s W rs KS (vs la.ls x)) a w ∧ ∀ k, (headS N la s W rs KS (vs la.ls x)).D k = true → s'.D k = true := by
  have hx : ∃ p q, takeSlots s' la.slots = some p ∧ takeCells s' la.cells = some q ∧ p ++ q = vs la.ls x := by
    unfold takeS at ht
    split at ht
    · rename_i p q hp hq
      exact ⟨p, q, hp, hq, unTup_ok _ _ _ ht⟩
    · cases ht
  obtain ⟨p, q, hp, hq, hpq⟩ := hx
  have hplen := takeSlots_len _ _ hp
  have hdrop : (vs la.ls x).drop (la.slots.flatMap fun x => x.2.2).length = q := by rw [← hpq, ← hplen]; simp
  have hDeq : ∀ k, (headS N la s W rs KS (vs la.ls x)).D k = (KS.contains k && !dropped rs k && (s.blks k).isSome) := by
    intro k
    simp only [ASt.D, headS]
    cases hk : (KS.contains k && !dropped rs k)
    · simp
    · simp only [if_true, Bool.true_and]
      cases hb : s.blks k with
      | none => rfl
      | some cT =>
        obtain ⟨c, T⟩ := cT
        dsimp only
        split <;> rfl
  have hblk : ∀ k c T, (headS N la s W rs KS (vs la.ls x)).blks k = some (c, T) → s'.blks k = some (c, T) := by
    intro k c T hb
    simp only [headS] at hb
    cases hk : (KS.contains k && !dropped rs k)
    · rw [hk] at hb; simp at hb
    · rw [hk] at hb
      simp only [if_true] at hb
      simp only [Bool.and_eq_true, Bool.not_eq_true'] at hk
      cases hs : s.blks k with
      | none => rw [hs] at hb; cases hb
      | some cT =>
        obtain ⟨c0, T0⟩ := cT
        rw [hs, hdrop] at hb
        obtain ⟨g1, g2⟩ := h2 k c0 T0 hs hk.1 hk.2
        dsimp only at hb
        have hsome := giveCells_some la.cells q k
        cases hg : giveCells la.cells q k with
        | none =>
          rw [hg] at hb hsome
          cases hb
          exact g2 (by rw [← hsome]; rfl)
        | some c' =>
          rw [hg] at hb hsome
          cases hb
          obtain ⟨T', ht'⟩ := giveCells_ok _ _ s' hq k _ hg
          obtain ⟨c'', hc''⟩ := g1 (by rw [← hsome]; rfl)
          rw [ht'] at hc''
          cases hc''
          exact ht'
  have hD : ∀ k, (headS N la s W rs KS (vs la.ls x)).D k = true → s'.D k = true := by
    intro k hk
    obtain ⟨⟨c, T⟩, hb⟩ := Option.isSome_iff_exists.1 hk
    simp [ASt.D, hblk k c T hb]
  refine ⟨⟨hr.size, ?_, ?_, ?_, ?_, ?_, hr.defers⟩, hD⟩
  · intro j y hy
    simp only [headS] at hy
    by_cases hjN' : Nat.blt j N.n = true
    case neg => rw [if_neg hjN'] at hy; cases hy
    rw [if_pos hjN'] at hy
    have hjN : j < N.n := by simpa [Nat.blt_eq] using hjN'
    split at hy
    · rename_i z hz
      cases hy
      rw [← hpq] at hz
      obtain ⟨y', h3, rfl⟩ := giveSlots_ok _ _ _ _ hp j _ hz
      exact hr.tmps j _ h3
    · split at hy
      · cases hy
      · rename_i hW
        split at hy
        · rename_i z hz
          split at hy
          · rename_i hwf
            cases hy
            exact hr.tmps j _ (h1 j (by simpa using hW) (by assumption) hjN _ hz hwf)
          · cases hy
        · cases hy
  · intro j y hy
    simp only [headS] at hy
    by_cases hjN' : Nat.blt j N.n = true
    case neg => rw [if_neg hjN'] at hy; cases hy
    rw [if_pos hjN'] at hy
    split at hy
    · rename_i z hz
      cases hy
      -- a carried slot holds leaves alone
      have : ∀ (sl : List (Nat × Bool × List Lf)) (l : List AV), AV.wfs (headS N la s W rs KS (vs la.ls x)).D l = true → ∀ y, giveSlots sl l j = some y → y.wf (headS N la s W rs KS (vs la.ls x)).D = true := by
        intro sl
        induction sl with
        | nil => intro l _ y hy; simp [giveSlots] at hy
        | cons q r ih =>
          obtain ⟨i, row, lf⟩ := q
          intro l hl y hy
          simp only [giveSlots] at hy
          cases e : Nat.beq j i
          · rw [e] at hy; exact ih _ (wfs_drop _ _ hl) y hy
          · rw [e] at hy
            simp only [cond_true, Option.some.injEq] at hy
            subst hy
            split
            · simp only [AV.wf]; exact wfs_take _ _ hl
            · exact headD_wf _ l hl
      exact this _ _ (vs_wf _ _ _) _ hz
    · split at hy
      · cases hy
      · split at hy
        · split at hy
          · rename_i hwf
            cases hy
            exact wf_mono (fun k hk => by rw [hDeq]; exact hk) _ hwf
          · cases hy
        · cases hy
  · exact fun k c T hb => hr.blks k c T (hblk k c T hb)
  · intro k c T hb
    have hk : KS.contains k = true := by
      have : (headS N la s W rs KS (vs la.ls x)).D k = true := by simp [ASt.D, hb]
      rw [hDeq, Bool.and_eq_true, Bool.and_eq_true] at this
      exact this.1.1
    have := (List.all_eq_true.1 hok) k (by simpa using hk)
    rw [hb] at this
    exact this
  · exact fun k k' hk hk' => hr.inj k k' (hD k hk) (hD k' hk')
theorem giveSlots_none : ∀ (sl : List (Nat × Bool × List Lf)) (xs ys : List AV) (j : Nat), giveSlots sl xs j = none → giveSlots sl ys j = none
  | [], xs, ys, j, h => rfl
  | (i, row, lf) :: r, xs, ys, j, h => by
    simp only [giveSlots] at h ⊢
    cases e : Nat.beq j i
    · rw [e] at h; exact giveSlots_none r _ _ j h
    · rw [e] at h; cases h
theorem giveSlots_mem : ∀ (sl : List (Nat × Bool × List Lf)) (xs : List AV) (j : Nat) (x : AV), giveSlots sl xs j = some x → ∃ q ∈ sl, q.1 = j
  | [], xs, j, x, h => by simp [giveSlots] at h
  | (i, row, lf) :: r, xs, j, x, h => by
    simp only [giveSlots] at h
    cases e : Nat.beq j i
    · rw [e] at h
      obtain ⟨q, hq, he⟩ := giveSlots_mem r _ j x h
      exact ⟨q, List.mem_cons_of_mem _ hq, he⟩
    · exact ⟨_, List.mem_cons_self, (Nat.eq_of_beq_eq_true e).symm⟩
theorem went_head {la : LA} {W rs : List Nat} (y : Tup la.ls) (hsl : la.slots.all (fun x => W.contains x.1 && Nat.blt x.1 N.n) = true) : Went W s (headS N la s W rs KS (vs la.ls y)) := by
  refine ⟨fun k => ?_, fun j hj => ?_⟩
  · have hv : (headS N la s W rs KS (vs la.ls y)).ver k = if ((la.cells.any fun x => Nat.beq x.1 k) || dropped rs k || !KS.contains k) = true then s.ver k + 1 else s.ver k := rfl
    by_cases hb : ((la.cells.any fun x => Nat.beq x.1 k) || dropped rs k || !KS.contains k) = true
    · rw [hv, if_pos hb]
      exact ⟨Nat.le_succ _, fun e => by omega⟩
    · rw [hv, if_neg hb]
      refine ⟨Nat.le_refl _, fun _ => ?_⟩
      simp only [Bool.not_eq_true, Bool.or_eq_false_iff, Bool.not_eq_false'] at hb
      obtain ⟨⟨b1, b2⟩, b3⟩ := hb
      simp only [headS, b2, b3, Bool.not_false, Bool.and_self, if_true]
      have hsome := giveCells_some la.cells ((vs la.ls y).drop (la.slots.flatMap fun x => x.2.2).length) k
      rw [b1] at hsome
      cases hg : giveCells la.cells ((vs la.ls y).drop (la.slots.flatMap fun x => x.2.2).length) k with
      | some q => rw [hg] at hsome; cases hsome
      | none =>
        cases hb : s.blks k with
        | none => rfl
        | some cT => rfl
  · simp only [headS]
    by_cases hjN' : Nat.blt j N.n = true
    · rw [if_pos hjN']
      have hW : W.contains j = false := by simpa using hj
      have hns : giveSlots la.slots (vs la.ls y) j = none := by
        cases hg : giveSlots la.slots (vs la.ls y) j with
        | none => rfl
        | some q =>
          obtain ⟨x, hx, hxe⟩ := giveSlots_mem _ _ _ _ hg
          have := (List.all_eq_true.1 hsl) x hx
          rw [Bool.and_eq_true] at this
          rw [hxe, hW] at this
          exact absurd this.1 (by simp)
      rw [hns]
      simp only [hW, Bool.false_eq_true, if_false]
      cases hs : s.tmps j with
      | none => exact Or.inl rfl
      | some u => dsimp only; split; exact Or.inl rfl; exact Or.inr rfl
    · rw [if_neg hjN']; exact Or.inr rfl
theorem agrees {la : LA} {W rs : List Nat} {s0 s' : ASt} {y z : Tup la.ls} (hw : Went W (headS N la s0 W rs KS (vs la.ls y)) s' ∨ Went W s0 s') (hback : backOk la rs KS (headS N la s0 W rs KS (vs la.ls y)) s' = true) (htmps : tmpsOk N W (headS N la s0 W rs KS (vs la.ls y)) s' = true) :
    (∀ j, j ∉ W → giveSlots la.slots (vs la.ls z) j = none → j < N.n → ∀ u, s0.tmps j = some u → u.wf (fun k => KS.contains k && !dropped rs k && (s0.blks k).isSome) = true → s'.tmps j = some u) ∧ (∀ k c' T, s0.blks k = some (c', T) → KS.contains k = true → dropped rs k = false → ((la.cells.any fun x => Nat.beq x.1 k) = true → ∃ c', s'.blks k = some (c', T)) ∧ ((la.cells.any fun x => Nat.beq x.1 k) = false → s'.blks k = some (c', T))) := by
  refine ⟨?_, ?_⟩
  · intro j hj hns hjN u hu hwf
    have hW : W.contains j = false := by simpa using hj
    have hns' : giveSlots la.slots (vs la.ls y) j = none := giveSlots_none _ _ _ _ hns
    have hjb : Nat.blt j N.n = true := by simpa [Nat.blt_eq] using hjN
    have hhj : (headS N la s0 W rs KS (vs la.ls y)).tmps j = some u := by
      simp only [headS, hns', hjb, hW, Bool.false_eq_true, if_false, hu, hwf, if_true]
    have hto := (List.all_eq_true.1 htmps) j (List.mem_range.2 hjN)
    rw [hhj, hW] at hto
    rcases hw with hw | hw
    · rcases hw.2 j hj with e | e
      · rw [e]; exact hhj
      · rw [e] at hto; simp at hto
    · rcases hw.2 j hj with e | e
      · rw [e]; exact hu
      · rw [e] at hto; simp at hto
  · intro k c' T hb hk hd
    have hmem : k ∈ KS := by simpa using hk
    have hbk := (List.all_eq_true.1 hback) k hmem
    rw [hd, Bool.false_or] at hbk
    have hhb : (headS N la s0 W rs KS (vs la.ls y)).blks k = (match giveCells la.cells ((vs la.ls y).drop (la.slots.flatMap fun x => x.2.2).length) k with | some c' => some (c', T) | none => some (c', T)) := by
      simp only [headS, hk, hd, Bool.not_false, Bool.and_self, if_true, hb]
      try rfl
    have hsome := giveCells_some la.cells ((vs la.ls y).drop (la.slots.flatMap fun x => x.2.2).length) k
    refine ⟨fun hcar => ?_, fun hcar => ?_⟩
    · rw [hcar] at hsome
      obtain ⟨c2, hc2⟩ := Option.isSome_iff_exists.1 hsome
      rw [hc2] at hhb
      dsimp only at hhb
      rw [hhb] at hbk
      simp only [hcar, if_true] at hbk
      split at hbk
      · rename_i c3 T3 hs3
        rw [hs3]
        exact ⟨c3, by rw [Nat.eq_of_beq_eq_true hbk]⟩
      · cases hbk
    · rw [hcar] at hsome
      have hnone : giveCells la.cells ((vs la.ls y).drop (la.slots.flatMap fun x => x.2.2).length) k = none := by
        cases hg : giveCells la.cells ((vs la.ls y).drop (la.slots.flatMap fun x => x.2.2).length) k with
        | none => rfl
        | some q => rw [hg] at hsome; cases hsome
      rw [hnone] at hhb
      dsimp only at hhb
      rw [hhb] at hbk
      simp only [hcar, Bool.false_eq_true, if_false] at hbk
      have hv : (headS N la s0 W rs KS (vs la.ls y)).ver k = s0.ver k := by
        show (if ((la.cells.any fun x => Nat.beq x.1 k) || dropped rs k || !KS.contains k) = true then s0.ver k + 1 else s0.ver k) = s0.ver k
        rw [hcar, hd, hk]; rfl
      rcases hw with hw | hw
      · rw [(hw.1 k).2 (Nat.eq_of_beq_eq_true hbk), hhb]
      · rw [(hw.1 k).2 (by rw [Nat.eq_of_beq_eq_true hbk, hv]), hb]
theorem exists_least (p : Nat → Prop) (h : ∃ n, p n) : ∃ n, p n ∧ ∀ m, m < n → ¬ p m := by
  obtain ⟨n, hn⟩ := h
  induction n using Nat.strongRecOn with
  | _ n ih =>
    by_cases hm : ∃ m, m < n ∧ p m
    · obtain ⟨m, h1, h2⟩ := hm; exact ih m h1 h2
    · exact ⟨n, hn, fun m h1 h2 => hm ⟨m, h1, h2⟩⟩
theorem ok_cond {b : Bool} {t e : XT} (h : Inv ds P pin R N s (bif b then t else e) J a w) : (b = true → Inv ds P pin R N s t J a w) ∧ (b = false → Inv ds P pin R N s e J a w) := by
  cases b
  · exact ⟨(fun h => by cases h), fun _ => h⟩
  · exact ⟨fun _ => h, (fun h => by cases h)⟩
theorem X_ok (hmix : ∀ id ops s k (J : Jt) a w, Inv ds P pin R N s (drawX ((id + 1) * 1000) ops s k) J a w → (Code.region id ops true).wp P (fun e a' w' => (e = .normal ∧ ∃ s', Went (dsts ops) s s' ∧ Inv ds P pin R N s' (k s') J a' w') ∨ ∃ ps, e = .panic ps ∧ Held ds N a' ∧ R (.panicked ps) w') a w)
    (hdraw : ∀ base ops s k (p : Nat → Prop), (∀ s', XT.loc (k s') p) → (drawX base ops s k).loc p) (hpk : ∀ q ∈ pin, q.1 ∈ pk) :
    ∀ (c : Code) (l : Nat) (s : ASt) (κ : XE → ASt → XT) (J : Jt) (a : Act) (w : World), (∀ e s', (κ e s').loc (· < l)) → Inv ds P pin R N s (X P N A C KS pk drawX c l s κ) J a w →
      c.wp P (fun e a' w' => (∃ e' s', e = e'.c ∧ Went (codeDsts c) s s' ∧ Inv ds P pin R N s' (κ e' s') J a' w') ∨ ∃ ps, e = .panic ps ∧ Held ds N a' ∧ R (.panicked ps) w') a w
  | .skip, l, s, κ, J, a, w, hκ, h => wp_skip (Or.inl ⟨.norm, s, rfl, Went.refl _ s, h⟩)
  | .region id ops draw, l, s, κ, J, a, w, hκ, h => by
    unfold X at h
    cases draw
    · simp only [cond_false] at h
      exact wp_region (run_ok (fun ps a w hd hR => Or.inr ⟨ps, rfl, hd, hR⟩) _ s a w h (fun s' a' w' hw hi => Or.inl ⟨.norm, s', rfl, hw, hi⟩))
    · simp only [cond_true] at h
      refine wp_mono (hmix _ _ _ _ _ _ _ h) ?_
      rintro e a' w' (⟨rfl, s', hw, hi⟩ | ⟨ps, rfl, hR⟩)
      · exact Or.inl ⟨.norm, s', rfl, hw, hi⟩
      · exact Or.inr ⟨ps, rfl, hR⟩
  | .seq c d, l, s, κ, J, a, w, hκ, h => by
    unfold X at h
    split at h
    · refine wp_seq (wp_mono (X_ok hmix hdraw hpk c l s _ J a w ?_ h) ?_)
      · intro e s'
        cases e
        · exact X_loc hdraw d _ l s' κ hκ
        · exact hκ _ _
        · exact hκ _ _
      · rintro e a' w' (⟨e', s', rfl, hw, hi⟩ | ⟨ps, rfl, hR⟩)
        case inr => exact Or.inr ⟨ps, rfl, hR⟩
        have hw1 : Went (codeDsts (.seq c d)) s s' := hw.mono (fun j hj => by simp only [codeDsts, List.mem_append]; exact Or.inl hj)
        cases e' with
        | norm =>
          refine wp_mono (X_ok hmix hdraw hpk d l s' κ J a' w' hκ hi) ?_
          rintro e a'' w'' (⟨e', s'', rfl, hw', hi'⟩ | ⟨ps, rfl, hR⟩)
          case inr => exact Or.inr ⟨ps, rfl, hR⟩
          exact Or.inl ⟨e', s'', rfl, hw1.trans (hw'.mono (fun j hj => by simp only [codeDsts, List.mem_append]; exact Or.inr hj)), hi'⟩
        | exit i => exact Or.inl ⟨.exit i, s', rfl, hw1, hi⟩
        | ret => exact Or.inl ⟨.ret, s', rfl, hw1, hi⟩
    · rename_i la hla
      dsimp only at h
      split at h
      · rename_i hpins
        rw [Bool.and_eq_true] at hpins
        obtain ⟨ρ0, L0, Lu0, wu0, hok, hrel0, hL0, hext0, hpin0, hpd0⟩ := h
        obtain ⟨I, hbody, hk⟩ := hok
        dsimp only at hk
        have pins : ∀ (y : Tup la.ls), (∀ q ∈ pin, s.D q.1 = true) → ∀ q ∈ pin, (headS N la s (codeDsts c) (codeRegs c) KS (vs la.ls y)).D q.1 = true := by
          intro y hp q hq
          have h1 := (List.all_eq_true.1 hpins.1) q.1 (hpk q hq)
          obtain ⟨⟨c', T⟩, hb⟩ := Option.isSome_iff_exists.1 (hp q hq)
          simp only [ASt.D, headS, h1, if_true, hb]
          split <;> rfl
        refine wp_seq (wp_mono (X_ok hmix hdraw hpk c (l + 1) s _ _ a w ?_ ⟨ρ0, L0, Lu0, wu0, hbody, hrel0, hL0, hext0, hpin0, hpd0⟩) ?_)
        · intro e s'
          cases e
          · dsimp only
            split
            · split
              · exact Nat.lt_succ_self l
              · trivial
            · trivial
          · exact loc_mono _ _ _ (fun m hm => Nat.lt_succ_of_lt hm) (hκ _ _)
          · exact loc_mono _ _ _ (fun m hm => Nat.lt_succ_of_lt hm) (hκ _ _)
        · rintro e a' w' (⟨e', s', rfl, hw, hi⟩ | ⟨ps, rfl, hR⟩)
          case inr => exact Or.inr ⟨ps, rfl, hR⟩
          have hw1 : Went (codeDsts (.seq c d)) s s' := hw.mono (fun j hj => by simp only [codeDsts, List.mem_append]; exact Or.inl hj)
          have out : ∀ e', Inv ds P pin R N s' (κ e' s') (J.set l fun ls' z L w => ∃ h : ls' = la.ls, I (h ▸ z) L w) a' w' → Inv ds P pin R N s' (κ e' s') J a' w' := by
            rintro e' ⟨ρ, L, Lu, wu, hok, rest⟩
            refine ⟨ρ, L, Lu, wu, ok_congr _ (· < l) _ _ _ _ (fun m hm => ?_) (hκ _ _) hok, rest⟩
            unfold Jt.set
            rw [if_neg (Nat.ne_of_lt hm)]
          cases e' with
          | exit i => exact Or.inl ⟨.exit i, s', rfl, hw1, out _ hi⟩
          | ret => exact Or.inl ⟨.ret, s', rfl, hw1, out _ hi⟩
          | norm =>
            dsimp only at hi
            split at hi
            · rename_i z hz
              split at hi
              · rename_i hback
                rw [Bool.and_eq_true, Bool.and_eq_true] at hback
                obtain ⟨⟨hback, htmps⟩, hokz⟩ := hback
                obtain ⟨ρ', L', Lu', wu', hag, hrel', hL', hext', hpin'', hpd''⟩ := hi
                have hag := hag L' w' hext'
                unfold Jt.set at hag
                rw [if_pos rfl] at hag
                obtain ⟨_, hIz⟩ := hag
                have hh := agrees (z := z) (Or.inr hw) hback htmps
                obtain ⟨r1, r2⟩ := head_rel (la := la) (W := codeDsts c) (rs := codeRegs c) (KS := KS) (s := s) hrel' hz hokz hh.1 hh.2
                refine wp_mono (X_ok hmix hdraw hpk d l _ κ J a' w' hκ ⟨ρ', L', L', w', hk z L' w' hIz, r1, fun k hk => hL' k (r2 k hk), Ext.refl hext'.lt, hpin'', pins z hpd0⟩) ?_
                rintro e a'' w'' (⟨e', s'', rfl, hw', hi'⟩ | ⟨ps, rfl, hR⟩)
                case inr => exact Or.inr ⟨ps, rfl, hR⟩
                refine Or.inl ⟨e', s'', rfl, Went.trans ((went_head (la := la) z hpins.2).mono (fun j hj => by simp only [codeDsts, List.mem_append]; exact Or.inl hj)) (hw'.mono (fun j hj => by simp only [codeDsts, List.mem_append]; exact Or.inr hj)), hi'⟩
              · obtain ⟨_, _, _, _, hok, _⟩ := hi; exact hok.elim
            · obtain ⟨_, _, _, _, hok, _⟩ := hi; exact hok.elim
      · obtain ⟨_, _, _, _, hok, _⟩ := h; exact hok.elim
  | .cond c x y, l, s, κ, J, a, w, hκ, h => by
    unfold X at h
    split at h
    · rename_i t ht
      have hc : a.eval c = .bool t := by
        obtain ⟨ρ, L, Lu, wu, _, hrel, _⟩ := h
        exact (hrel.env.ev c _ ht).1
      obtain ⟨h1, h2⟩ := ok_cond h
      cases t with
      | true =>
        refine wp_cond_true hc (wp_mono (X_ok hmix hdraw hpk x l s κ J a w hκ (h1 rfl)) ?_)
        rintro e a' w' (⟨e', s', rfl, hw, hi⟩ | ⟨ps, rfl, hR⟩)
        case inr => exact Or.inr ⟨ps, rfl, hR⟩
        exact Or.inl ⟨e', s', rfl, hw.mono (fun j hj => by simp only [codeDsts, List.mem_append]; exact Or.inl hj), hi⟩
      | false =>
        refine wp_cond_false hc (wp_mono (X_ok hmix hdraw hpk y l s κ J a w hκ (h2 rfl)) ?_)
        rintro e a' w' (⟨e', s', rfl, hw, hi⟩ | ⟨ps, rfl, hR⟩)
        case inr => exact Or.inr ⟨ps, rfl, hR⟩
        exact Or.inl ⟨e', s', rfl, hw.mono (fun j hj => by simp only [codeDsts, List.mem_append]; exact Or.inr hj), hi⟩
    · obtain ⟨ρ, L, Lu, wu, hok, _⟩ := h; exact hok.elim
  | .block id c, l, s, κ, J, a, w, hκ, h => by
    unfold X at h
    refine wp_block (wp_mono (X_ok hmix hdraw hpk c l s _ J a w ?_ h) ?_)
    · intro e s'
      cases e
      · exact hκ _ _
      · dsimp only; split <;> exact hκ _ _
      · exact hκ _ _
    · rintro e a' w' (⟨e', s', rfl, hw, hi⟩ | ⟨ps, rfl, hR⟩)
      case inr => exact Or.inr ⟨ps, rfl, hR⟩
      have hw1 : Went (codeDsts (.block id c)) s s' := hw
      cases e' with
      | norm => exact Or.inl ⟨.norm, s', rfl, hw1, hi⟩
      | exit i =>
        dsimp only at hi
        show (if i = id then _ else _)
        split
        · rename_i e
          rw [if_pos e] at hi
          exact Or.inl ⟨.norm, s', rfl, hw1, hi⟩
        · rename_i e
          rw [if_neg e] at hi
          exact Or.inl ⟨.exit i, s', rfl, hw1, hi⟩
      | ret => exact Or.inl ⟨.ret, s', rfl, hw1, hi⟩
  | .exit id, l, s, κ, J, a, w, hκ, h => wp_exit (Or.inl ⟨.exit id, s, rfl, Went.refl _ s, h⟩)
  | .ret, l, s, κ, J, a, w, hκ, h => wp_ret (Or.inl ⟨.ret, s, rfl, Went.refl _ s, h⟩)
  | .loop c, l, s, κ, J, a, w, hκ, h => by
    unfold X at h
    dsimp only at h
    generalize hla : A (firstReg (codeRegs c)) = la at h
    split at h
    · rename_i x0 hx0
      split at h
      · rename_i hpins
        rw [Bool.and_eq_true] at hpins
        obtain ⟨ρ0, L0, Lu0, wu0, hok, hrel0, hL0, hext0, hpin0, hpd0⟩ := h
        obtain ⟨I, ⟨n0, h0⟩, hround⟩ := hok
        dsimp only at hround
        -- the head of a round, for the frame and the world
        let Hd : Nat → Act → World → Prop := fun n a w => ∃ (y : Tup la.ls) (ρ : Nat → Nat) (L Lu : Nat → Prop) (wu : World), I n y Lu wu ∧ Rel ds N ρ (headS N la s (codeDsts c) (codeRegs c) KS (vs la.ls y)) a w ∧ (∀ k, (headS N la s (codeDsts c) (codeRegs c) KS (vs la.ls y)).D k = true → L (ρ k)) ∧ Ext Lu wu L w ∧ Pin pin ρ ∧ (∀ q ∈ pin, (headS N la s (codeDsts c) (codeRegs c) KS (vs la.ls y)).D q.1 = true)
        have pins : ∀ (y : Tup la.ls), (∀ q ∈ pin, s.D q.1 = true) → ∀ q ∈ pin, (headS N la s (codeDsts c) (codeRegs c) KS (vs la.ls y)).D q.1 = true := by
          intro y hp q hq
          have h1 := (List.all_eq_true.1 hpins.1) q.1 (hpk q hq)
          obtain ⟨⟨c', T⟩, hb⟩ := Option.isSome_iff_exists.1 (hp q hq)
          simp only [ASt.D, headS, h1, if_true, hb]
          split <;> rfl
        have hok0 : headOk KS (headS N la s (codeDsts c) (codeRegs c) KS (vs la.ls x0)) = true := by
          have := hround n0 x0 Lu0 wu0 h0
          split at this
          · assumption
          · exact this.elim
        have hstart : Hd n0 a w := by
          obtain ⟨r1, r2⟩ := head_rel (la := la) (W := codeDsts c) (rs := codeRegs c) (KS := KS) (s := s) hrel0 hx0 hok0 (fun j hj _ _ y hy hwf => hy) (fun k c' T hb hk hd => ⟨fun _ => ⟨c', hb⟩, fun _ => hb⟩)
          exact ⟨x0, ρ0, L0, Lu0, wu0, h0, r1, fun k hk => hL0 k (r2 k hk), hext0, hpin0, pins x0 hpd0⟩
        have hex : ∀ a w, (∃ n, Hd n a w) → ∃ n, Hd n a w ∧ ∀ m, m < n → ¬ Hd m a w := fun a w h => exists_least _ h
        classical
        let μ : Act → World → Nat := fun a w => if h : ∃ n, Hd n a w then Classical.choose (hex a w h) else 0
        have μ_spec : ∀ a w (h : ∃ n, Hd n a w), Hd (μ a w) a w ∧ ∀ m, m < μ a w → ¬ Hd m a w := by
          intro a w h
          have := Classical.choose_spec (hex a w h)
          simp only [μ, dif_pos h]
          exact this
        refine wp_mono (wp_loop (P := P) (Q := fun e a' w' => (∃ e' s', e = e'.c ∧ (∃ y, Went (codeDsts c) (headS N la s (codeDsts c) (codeRegs c) KS (vs la.ls y)) s') ∧ Inv ds P pin R N s' (κ e' s') J a' w') ∨ ∃ ps, e = .panic ps ∧ Held ds N a' ∧ R (.panicked ps) w') (fun a w => ∃ n, Hd n a w) μ ⟨n0, hstart⟩ ?_) ?_
        · intro a w hIw
          obtain ⟨hhd, hmin⟩ := μ_spec a w hIw
          generalize hn : μ a w = n at hhd hmin
          obtain ⟨y, ρ, L, Lu, wu, hI, hrel, hL, hext, hpin', hpd'⟩ := hhd
          have hb := hround n y Lu wu hI
          split at hb
          · rename_i hhead
            have hinv : Inv ds P pin R N (headS N la s (codeDsts c) (codeRegs c) KS (vs la.ls y)) _ _ a w := ⟨ρ, L, Lu, wu, hb, hrel, hL, hext, hpin', hpd'⟩
            refine wp_mono (X_ok hmix hdraw hpk c (l + 1) _ _ _ a w ?_ hinv) ?_
            · intro e s'
              cases e
              · dsimp only
                split
                · split
                  · exact Nat.lt_succ_self l
                  · trivial
                · trivial
              · exact loc_mono _ _ _ (fun m hm => Nat.lt_succ_of_lt hm) (hκ _ _)
              · exact loc_mono _ _ _ (fun m hm => Nat.lt_succ_of_lt hm) (hκ _ _)
            · rintro e a' w' (⟨e', s', rfl, hw, hi⟩ | ⟨ps, rfl, hR⟩)
              case inr => exact Or.inr ⟨ps, rfl, hR⟩
              have out : ∀ e', Inv ds P pin R N s' (κ e' s') (J.set l fun ls' z L' w' => ∃ h : ls' = la.ls, ∃ m, m < n ∧ I m (h ▸ z) L' w') a' w' → Inv ds P pin R N s' (κ e' s') J a' w' := by
                rintro e' ⟨ρ, L, Lu, wu, hok, rest⟩
                refine ⟨ρ, L, Lu, wu, ok_congr _ (· < l) _ _ _ _ (fun m hm => ?_) (hκ _ _) hok, rest⟩
                unfold Jt.set
                rw [if_neg (Nat.ne_of_lt hm)]
              cases e' with
              | exit i => exact Or.inl ⟨.exit i, s', rfl, ⟨y, hw⟩, out _ hi⟩
              | ret => exact Or.inl ⟨.ret, s', rfl, ⟨y, hw⟩, out _ hi⟩
              | norm =>
                dsimp only at hi
                split at hi
                · rename_i z hz
                  split at hi
                  · rename_i hback
                    rw [Bool.and_eq_true] at hback
                    obtain ⟨hback, htmps⟩ := hback
                    obtain ⟨ρ', L', Lu', wu', hag, hrel', hL', hext', hpin'', hpd''⟩ := hi
                    have hag := hag L' w' hext'
                    unfold Jt.set at hag
                    rw [if_pos rfl] at hag
                    obtain ⟨_, m, hm, hIm⟩ := hag
                    have hokz : headOk KS (headS N la s (codeDsts c) (codeRegs c) KS (vs la.ls z)) = true := by
                      have := hround m z L' w' hIm
                      split at this
                      · assumption
                      · exact this.elim
                    have hnew : Hd m a' w' := by
                      have hh := agrees (z := z) (Or.inl hw) hback htmps
                      obtain ⟨r1, r2⟩ := head_rel (la := la) (W := codeDsts c) (rs := codeRegs c) (KS := KS) (s := s) hrel' hz hokz hh.1 hh.2
                      exact ⟨z, ρ', L', L', w', hIm, r1, fun k hk => hL' k (r2 k hk), Ext.refl hext'.lt, hpin'', pins z hpd0⟩
                    refine ⟨⟨m, hnew⟩, ?_⟩
                    have := (μ_spec a' w' ⟨m, hnew⟩).2
                    rcases Nat.lt_or_ge (μ a' w') n with h1 | h1
                    · exact h1
                    · exact absurd hnew (this m (by omega))
                  · obtain ⟨_, _, _, _, hok, _⟩ := hi; exact hok.elim
                · obtain ⟨_, _, _, _, hok, _⟩ := hi; exact hok.elim
          · exact hb.elim
        · rintro e a' w' (⟨e', s', rfl, ⟨y, hw⟩, hi⟩ | ⟨ps, rfl, hR⟩)
          case inr => exact Or.inr ⟨ps, rfl, hR⟩
          exact Or.inl ⟨e', s', rfl, Went.trans (went_head (la := la) y hpins.2) hw, hi⟩
      · obtain ⟨_, _, _, _, hok, _⟩ := h; exact hok.elim
    · obtain ⟨_, _, _, _, hok, _⟩ := h; exact hok.elim
  | .rangeFunc .., l, s, κ, J, a, w, hκ, h => by obtain ⟨_, _, _, _, hok, _⟩ := h; exact hok.elim
  | .scope _, l, s, κ, J, a, w, hκ, h => by obtain ⟨_, _, _, _, hok, _⟩ := h; exact hok.elim
  | .label _, l, s, κ, J, a, w, hκ, h => by obtain ⟨_, _, _, _, hok, _⟩ := h; exact hok.elim
  | .goto _, l, s, κ, J, a, w, hκ, h => by obtain ⟨_, _, _, _, hok, _⟩ := h; exact hok.elim
  | .refuse _, l, s, κ, J, a, w, hκ, h => by obtain ⟨_, _, _, _, hok, _⟩ := h; exact hok.elim
end
end Go.Proofs.YtcbpgbfbffnogaaGreatW.Rx
