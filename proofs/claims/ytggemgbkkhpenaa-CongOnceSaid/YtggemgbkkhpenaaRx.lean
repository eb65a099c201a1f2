/- A machine for walks: a function's text is reckoned, by the kernel, into a tree of what it asks of memory and of other functions; what the tree says holds of the run. -/
import Derived.Calls
import Derived.Orders
import Derived.Below
import Derived.Laws.Cells
import Derived.Laws.Rows
import Derived.Laws.IdiomCopy
import Derived.Deep.MidRow
namespace Go.Proofs.YtggemgbkkhpenaaW.Rx
open Go
set_option linter.unusedVariables false

/-- What one cell may hold. -/
inductive Lf where
  | i (k : IntKind) | b | s | sl | p | m
@[reducible] def Lf.T : Lf → Type
  | .i _ => Int | .b => Bool | .s => ByteArray | .sl => Option Addr × Nat × Nat | .p => Option Addr | .m => Option Nat
def Lf.V : (l : Lf) → l.T → Value
  | .i k, n => .int k n | .b, x => .bool x | .s, x => .string x | .sl, x => .slice x.1 x.2.1 x.2.2 | .p, x => .pointer x | .m, x => .map x
@[reducible] def Tup : List Lf → Type
  | [] => Unit
  | l :: r => l.T × Tup r
def Tup.V : (ls : List Lf) → Tup ls → List Value
  | [], _ => []
  | l :: r, x => l.V x.1 :: Tup.V r x.2

/-- A value, with the addresses of known blocks by their keys. -/
inductive AV where
  | v (x : Value)
  | p (key off : Nat)
  | agg (cs : List AV)
  | tup (vs : List AV)
  | fn (f : Fn) (first cap : List AV)
mutual
def AV.g (ρ : Nat → Nat) : AV → Value
  | .v x => x
  | .p k o => .pointer (some ⟨ρ k, o, none⟩)
  | .agg cs => .agg (AV.gs ρ cs).toArray
  | .tup vs => .tuple (AV.gs ρ vs).toArray
  | .fn f a c => .func f (AV.gs ρ a).toArray (AV.gs ρ c).toArray
def AV.gs (ρ : Nat → Nat) : List AV → List Value
  | [] => []
  | x :: r => x.g ρ :: AV.gs ρ r
end
mutual
/-- The keys that a value names are among those known. -/
def AV.wf (D : Nat → Bool) : AV → Bool
  | .v _ => true
  | .p k _ => D k
  | .agg cs => AV.wfs D cs
  | .tup vs => AV.wfs D vs
  | .fn _ a c => AV.wfs D a && AV.wfs D c
def AV.wfs (D : Nat → Bool) : List AV → Bool
  | [] => true
  | x :: r => x.wf D && AV.wfs D r
end
mutual
def AV.keys : AV → List Nat
  | .v _ => []
  | .p k _ => [k]
  | .agg cs => AV.keyss cs
  | .tup vs => AV.keyss vs
  | .fn _ a c => AV.keyss a ++ AV.keyss c
def AV.keyss : List AV → List Nat
  | [] => []
  | x :: r => x.keys ++ AV.keyss r
end
/-- One cell's value. -/
def AV.one : AV → Bool
  | .v x => x.oneCell'
  | .p _ _ => true
  | .agg _ => false
  | .tup _ => false
  | .fn _ _ _ => true
def AV.cells : AV → List AV
  | .agg cs => cs
  | x => [x]

theorem gs_eq (ρ : Nat → Nat) : ∀ l : List AV, AV.gs ρ l = l.map (AV.g ρ)
  | [] => by simp [AV.gs]
  | x :: r => by rw [AV.gs, gs_eq ρ r]; rfl
theorem gs_len (ρ : Nat → Nat) (l : List AV) : (AV.gs ρ l).length = l.length := by rw [gs_eq]; simp
theorem wfs_eq (D : Nat → Bool) : ∀ l : List AV, AV.wfs D l = l.all (AV.wf D)
  | [] => by simp [AV.wfs]
  | x :: r => by rw [AV.wfs, wfs_eq D r]; rfl
/-- Values that name known keys alone do not hang on the others. -/
theorem g_congr {D : Nat → Bool} {ρ σ : Nat → Nat} (h : ∀ k, D k = true → ρ k = σ k) : ∀ x : AV, x.wf D = true → x.g ρ = x.g σ := by
  intro x
  refine AV.rec (motive_1 := fun x => x.wf D = true → x.g ρ = x.g σ) (motive_2 := fun l => AV.wfs D l = true → AV.gs ρ l = AV.gs σ l) ?_ ?_ ?_ ?_ ?_ ?_ ?_ x
  · intro x _; simp [AV.g]
  · intro k o hk; simp only [AV.wf] at hk; simp [AV.g, h k hk]
  · intro cs ih hk; simp only [AV.wf] at hk; simp [AV.g, ih hk]
  · intro cs ih hk; simp only [AV.wf] at hk; simp [AV.g, ih hk]
  · intro f a c iha ihc hk; simp only [AV.wf, Bool.and_eq_true] at hk; simp [AV.g, iha hk.1, ihc hk.2]
  · intro _; simp [AV.gs]
  · intro x r ihx ihr hk; simp only [AV.wfs, Bool.and_eq_true] at hk; simp [AV.gs, ihx hk.1, ihr hk.2]
theorem gs_congr {D : Nat → Bool} {ρ σ : Nat → Nat} (h : ∀ k, D k = true → ρ k = σ k) : ∀ l : List AV, AV.wfs D l = true → AV.gs ρ l = AV.gs σ l
  | [], _ => by simp [AV.gs]
  | x :: r, hk => by simp only [AV.wfs, Bool.and_eq_true] at hk; simp [AV.gs, g_congr h x hk.1, gs_congr h r hk.2]
theorem wf_mono {D D' : Nat → Bool} (h : ∀ k, D k = true → D' k = true) : ∀ x : AV, x.wf D = true → x.wf D' = true := by
  intro x
  refine AV.rec (motive_1 := fun x => x.wf D = true → x.wf D' = true) (motive_2 := fun l => AV.wfs D l = true → AV.wfs D' l = true) ?_ ?_ ?_ ?_ ?_ ?_ ?_ x
  · intro x _; simp [AV.wf]
  · intro k o hk; simp only [AV.wf] at *; exact h k hk
  · intro cs ih hk; simp only [AV.wf] at *; exact ih hk
  · intro cs ih hk; simp only [AV.wf] at *; exact ih hk
  · intro f a c iha ihc hk; simp only [AV.wf, Bool.and_eq_true] at *; exact ⟨iha hk.1, ihc hk.2⟩
  · intro _; simp [AV.wfs]
  · intro x r ihx ihr hk; simp only [AV.wfs, Bool.and_eq_true] at *; exact ⟨ihx hk.1, ihr hk.2⟩
theorem wfs_mono {D D' : Nat → Bool} (h : ∀ k, D k = true → D' k = true) (l : List AV) (hl : AV.wfs D l = true) : AV.wfs D' l = true := by
  rw [wfs_eq, List.all_eq_true] at *
  exact fun x hx => wf_mono h x (hl x hx)

/-- What is known of a frame: slots (none: nothing), and whole blocks by keys. -/
structure ASt where
  tmps : Nat → Option AV
  blks : Nat → Option (List AV × TypeId)
  ver : Nat → Nat
def ASt.put (s : ASt) (d : Option Nat) (x : AV) : ASt := match d with
  | none => s
  | some d => { s with tmps := fun j => bif Nat.beq j d then some x else s.tmps j }
def ASt.set (s : ASt) (k : Nat) (c : List AV) (T : TypeId) : ASt := { s with blks := (fun j => bif Nat.beq j k then some (c, T) else s.blks j), ver := fun j => bif Nat.beq j k then s.ver j + 1 else s.ver j }
def ASt.D (s : ASt) : Nat → Bool := fun k => (s.blks k).isSome
def ASt.ev (s : ASt) : Operand → Option AV
  | .tmp t => s.tmps t
  | .const v => some (.v v)
  | .global g => some (.v (.pointer (some ⟨g, 0, none⟩)))
  | .func f => some (.fn (.func f) [] [])

/-- Of a tuple of results: for each, whether it is a struct or a row, and how many cells it has. -/
inductive Sh where
  | one | agg (n : Nat) | tup (l : List (Bool × Nat))
def Sh.parts : List (Bool × Nat) → List AV → List AV
  | [], _ => []
  | (a, n) :: r, xs => (if a then .agg (xs.take n) else (xs.headD (.v undef))) :: Sh.parts r (xs.drop n)
def Sh.av : Sh → List AV → AV
  | .one, xs => xs.headD (.v undef)
  | .agg n, xs => .agg (xs.take n)
  | .tup l, xs => .tup (Sh.parts l xs)
def vs (ls : List Lf) (x : Tup ls) : List AV := (Tup.V ls x).map .v

abbrev Out := List (Nat × List AV × TypeId)
/-- What the text asks. -/
inductive XT : Type where
  | done (r : AV) (out : Out)
  | bad (why : String)
  | need (c : Bool) (k : XT)
  | ld (a : Option Addr) (ls : List Lf) (k : Tup ls → XT)
  | sto (a : Option Addr) (xs : List AV) (ex : Out) (k : XT)
  | call (f : FuncId) (args : List AV) (ex : Out) (sh : Sh) (ls : List Lf) (les : List Nat) (k : Tup ls → XT)
  | sem (s : Sem Value) (ls : List Lf) (sh : Sh) (k : Tup ls → XT)
  | loop (ls : List Lf) (x : Tup ls) (lvl : Nat) (body : Tup ls → XT)
  | again (lvl : Nat) (ls : List Lf) (x : Tup ls)
  | cut (ls : List Lf) (lvl : Nat) (body : XT) (k : Tup ls → XT)

/-- From the world that was seen last (wu, its hidden blocks Lu) to the world that is (w, L). -/
structure Ext (Lu : Nat → Prop) (wu : World) (L : Nat → Prop) (w : World) : Prop where
  sub : ∀ b, Lu b → L b
  new : ∀ b, L b → ¬ Lu b → wu.heap.size ≤ b
  lt : ∀ b, L b → b < w.heap.size
  size : wu.heap.size ≤ w.heap.size
  keep : ∀ b, b < wu.heap.size → ¬ Lu b → w.heap[b]? = wu.heap[b]?
  same : w.os = wu.os ∧ w.tape = wu.tape ∧ w.output = wu.output
/-- The blocks that are told, each whole. -/
def Outs (ρ : Nat → Nat) (L : Nat → Prop) (w : World) : Out → Prop
  | [] => True
  | (k, c, T) :: r => (L (ρ k) ∧ w.heap[ρ k]? = some (.cells (AV.gs ρ c).toArray T (0, 0))) ∧ Outs ρ L w r
def Apart (ρ : Nat → Nat) : Out → Prop
  | [] => True
  | (k, _, _) :: r => (∀ x ∈ r, ρ x.1 ≠ ρ k) ∧ Apart ρ r
def segs {α : Type} : List Nat → List α → List (List α)
  | [], _ => []
  | n :: r, xs => xs.take n :: segs r (xs.drop n)
/-- The told blocks behind a call: their cells anew. -/
def Back (ρ : Nat → Nat) (w : World) : Out → List (List Value) → Prop
  | (k, _, T) :: r, c :: cs => w.heap[ρ k]? = some (.cells c.toArray T (0, 0)) ∧ Back ρ w r cs
  | [], _ => True
  | _ :: _, [] => False
def Keeps (ρ : Nat → Nat) (ex : Out) (L : Nat → Prop) (w w2 : World) : Prop :=
  w.heap.size ≤ w2.heap.size ∧ (w2.os = w.os ∧ w2.tape = w.tape ∧ w2.output = w.output) ∧ ∀ b, L b → (∀ x ∈ ex, ρ x.1 ≠ b) → w2.heap[b]? = w.heap[b]?
def Pin (pin : List (Nat × Nat)) (ρ : Nat → Nat) : Prop := ∀ q ∈ pin, ρ q.1 = q.2
abbrev Jt := Nat → (ls : List Lf) → Tup ls → (Nat → Prop) → World → Prop
def Jt.set (J : Jt) (n : Nat) (I : (ls : List Lf) → Tup ls → (Nat → Prop) → World → Prop) : Jt := fun m => if m = n then I else J m

section
variable (P : Program) (pin : List (Nat × Nat)) (R : Ending → World → Prop)
/-- What a tree says, from the world seen last. -/
def XT.ok : XT → Jt → (Nat → Prop) → World → Prop
  | .done r out, _, Lu, wu => ∀ ρ L w, Pin pin ρ → Ext Lu wu L w → Outs ρ L w out → Apart ρ out → R (.returned (r.g ρ)) w
  | .bad _, _, _, _ => False
  | .need c k, J, Lu, wu => c = true ∧ k.ok J Lu wu
  | .ld a ls k, J, Lu, wu => ∃ ad x, a = some ad ∧ ad.spot = none ∧ ad.block < wu.heap.size ∧ ¬ Lu ad.block ∧ (∀ j v, (Tup.V ls x)[j]? = some v → wu.cell? (ad.add j) = some v) ∧ (k x).ok J Lu wu
  | .sto a xs ex k, J, Lu, wu => ∀ ρ L w, Pin pin ρ → Ext Lu wu L w → Outs ρ L w ex → ∃ ad, a = some ad ∧ ad.spot = none ∧ ¬ L ad.block ∧ (∀ j, j < xs.length → (w.cell? ⟨ad.block, ad.off + j, none⟩).isSome = true ∧ w.frozen? ⟨ad.block, ad.off + j, none⟩ = false) ∧ k.ok J L (w.setCells ad.block ad.off (AV.gs ρ xs))
  | .call f args ex sh ls les k, J, Lu, wu => ∀ ρ L w, Pin pin ρ → Ext Lu wu L w → Outs ρ L w ex → Apart ρ ex →
      Calls P f (AV.gs ρ args).toArray w fun e w2 => ∃ x, e = .returned ((sh.av (vs ls x)).g ρ) ∧ Back ρ w2 ex (segs les ((Tup.V ls x).drop (ls.length - les.sum))) ∧ Keeps ρ ex L w w2 ∧ (k x).ok J L w2
  | .sem s ls sh k, J, Lu, wu => ∀ L w, Ext Lu wu L w → ∃ x w2, s.run P w = .ok ((sh.av (vs ls x)).g id) w2 ∧ Keeps id [] L w w2 ∧ (k x).ok J L w2
  | .loop ls x lvl body, J, Lu, wu => ∃ I : Nat → Tup ls → (Nat → Prop) → World → Prop, (∃ n, I n x Lu wu) ∧ ∀ n y L w, I n y L w → (body y).ok (J.set lvl fun ls' z L' w' => ∃ h : ls' = ls, ∃ m, m < n ∧ I m (h ▸ z) L' w') L w
  | .again lvl ls x, J, Lu, wu => ∀ L w, Ext Lu wu L w → J lvl ls x L w
  | .cut ls lvl body k, J, Lu, wu => ∃ I : Tup ls → (Nat → Prop) → World → Prop, body.ok (J.set lvl fun ls' z L w => ∃ h : ls' = ls, I (h ▸ z) L w) Lu wu ∧ ∀ y L w, I y L w → (k y).ok J L w
end
end Go.Proofs.YtggemgbkkhpenaaW.Rx
