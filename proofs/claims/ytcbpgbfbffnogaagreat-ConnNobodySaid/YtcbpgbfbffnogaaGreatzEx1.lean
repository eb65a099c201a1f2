import Derived.Test.YtcbpgbfbffnogaaGreatzRxU
namespace Go.Proofs.YtcbpgbfbffnogaaGreatW.Ex
open Go Go.RowKit Go.Proofs.YtcbpgbfbffnogaaGreatW.Rx
set_option linter.unusedVariables false
set_option linter.unusedSimpArgs false
inductive Ob where
 | blk (e : TypeId) (sz : Nat) (rows : List (List Value))
 | ro (sz : Nat) (rows : List (List Value))
 | map (n : Nat)
 | dead
abbrev AH := List Ob
structure Nm where
 r : Nat → Nat
 o : Nat → Nat
 c : Nat → Nat
def Nm.at (m : Nm) (i off : Nat) : Addr := ⟨m.r i, m.o i + off, none⟩
def Nm.set (m : Nm) (i b o c : Nat) : Nm := ⟨fun j => if j = i then b else m.r j, fun j => if j = i then o else m.o j, fun j => if j = i then c else m.c j⟩
def Agree (k : Nat) (m m' : Nm) : Prop := ∀ i, i < k → m'.r i = m.r i ∧ m'.o i = m.o i ∧ m'.c i = m.c i
inductive Owe where
 | at (a : Option Addr) (i off : Nat)
 | cap (c i n : Nat)
 | map (q : Option Nat) (i : Nat)
 | vals (x y : List Value)
def Owe.ok (m : Nm) : Owe → Prop
 | .at a i off => a = some (m.at i off)
 | .cap c i n => c = m.c i + n
 | .map q i => q = some (m.r i)
 | .vals x y => x = y
def Owe.l : Owe → List Value
 | .at a _ _ => [.pointer a]
 | .cap c _ _ => [.slice none 0 c]
 | .map q _ => [.map q]
 | .vals x _ => x
def Owe.rt (m : Nm) : Owe → List Value
 | .at _ i off => [.pointer (some (m.at i off))]
 | .cap _ i n => [.slice none 0 (m.c i + n)]
 | .map _ i => [.map (some (m.r i))]
 | .vals _ y => y
theorem Owe.of {m : Nm} : ∀ {x : Owe}, x.l = x.rt m → x.ok m
 | .at a i off, h => by simpa [Owe.l, Owe.rt, Owe.ok] using h
 | .cap c i n, h => by simpa [Owe.l, Owe.rt, Owe.ok] using h
 | .map q i, h => by simpa [Owe.l, Owe.rt, Owe.ok] using h
 | .vals x y, h => h
theorem owes_of {m : Nm} : ∀ {l : List Owe}, l.map Owe.l = l.map (Owe.rt m) → ∀ x ∈ l, x.ok m
 | [], _, x, h => by cases h
 | y :: r, h, x, hx => by
  simp only [List.map_cons, List.cons.injEq] at h
  rcases List.mem_cons.1 hx with rfl | hx
  ·exact Owe.of h.1
  ·exact owes_of h.2 x hx
inductive HT where
 | nil
 | at (i off : Nat) (r : HT)
 | sub (a r : HT)
def hint : HT → Option Addr → Option ((Nat × Nat) × HT)
 | .at i off r, _ => some ((i, off), r)
 | _, _ => none
structure Way where
 lvl : Nat
 ls : List Lf
 body : Tup ls → XT
 round : Bool
def find : List Way → Nat → Option (Way × List Way)
 | [], _ => none
 | e :: r, l => bif Nat.beq e.lvl l then some (e, bif e.round then e :: r else r) else find r l
def mkHT : Nat → List (Nat × Nat) → HT
 | 0, _ => .nil
 | _, [] => .nil
 | n + 1, (i, o) :: r => bif Nat.ble 1000000 i then .sub (mkHT n (r.take (i - 1000000))) (mkHT n (r.drop (i - 1000000))) else .at i o (mkHT n r)
def lfDec : (a z : Lf) → Decidable (a = z)
 | .i k, .i k' => if h : k = k' then isTrue (by rw [h]) else isFalse (fun e => h (Lf.i.inj e))
 | .b, .b => isTrue rfl
 | .s, .s => isTrue rfl
 | .sl, .sl => isTrue rfl
 | .p, .p => isTrue rfl
 | .m, .m => isTrue rfl
 | .i _, .b | .i _, .s | .i _, .sl | .i _, .p | .i _, .m | .b, .i _ | .b, .s | .b, .sl | .b, .p | .b, .m | .s, .i _ | .s, .b | .s, .sl | .s, .p | .s, .m
 | .sl, .i _ | .sl, .b | .sl, .s | .sl, .p | .sl, .m | .p, .i _ | .p, .b | .p, .s | .p, .sl | .p, .m | .m, .i _ | .m, .b | .m, .s | .m, .sl | .m, .p => isFalse (fun e => by cases e)
def lfsDec : (a z : List Lf) → Decidable (a = z)
 | [], [] => isTrue rfl
 | x :: r, y :: s => match lfDec x y, lfsDec r s with
  | isTrue h, isTrue g => isTrue (by rw [h, g])
  | isFalse h, _ => isFalse (fun e => h (List.cons.inj e).1)
  | _, isFalse h => isFalse (fun e => h (List.cons.inj e).2)
 | [], _ :: _ => isFalse (fun e => by cases e)
 | _ :: _, [] => isFalse (fun e => by cases e)
mutual
def ren (σ : Nat → Nat) : AV → AV
 | .v x => .v x
 | .p k o => .p (σ k) o
 | .agg cs => .agg (rens σ cs)
 | .tup vs => .tup (rens σ vs)
 | .fn f z c => .fn f (rens σ z) (rens σ c)
def rens (σ : Nat → Nat) : List AV → List AV
 | [] => []
 | x :: r => ren σ x :: rens σ r
end
def posOf (ex : Out) (k : Nat) : Nat := match ex with
 | [] => 0
 | x :: r => bif Nat.beq x.1 k then 0 else posOf r k + 1
def renOut (σ : Nat → Nat) : Nat → Out → Out
 | _, [] => []
 | i, (_, c, T) :: r => (i, rens σ c, T) :: renOut σ (i + 1) r
def unParts : List (Bool × Nat) → List AV → Option (List AV)
 | [], [] => some []
 | (true, n) :: r, .agg cs :: xs => bif Nat.beq cs.length n then (unParts r xs).map (cs ++ ·) else none
 | (false, n) :: r, x :: xs => bif Nat.beq n 1 then (unParts r xs).map (x :: ·) else none
 | _, _ => none
def unSh : Sh → AV → Option (List AV)
 | .one, x => some [x]
 | .agg n, .agg cs => bif Nat.beq cs.length n then some cs else none
 | .tup l, .tup xs => unParts l xs
 | _, _ => none
structure Tab where
 A : FuncId → Nat → LA
 C : FuncId → Nat → Option LA
 ext : FuncId → Nat
 mid : FuncId → List AV → Option (List Ob × (List AV → XT))
 epi : FuncId → AH → Nat → Option AV
def intForce {β : Type} (n : Int) (k : Int → β) : β := match n with
 | .ofNat 0 => k 0
 | .ofNat (m + 1) => k (.ofNat (m + 1))
 | .negSucc 0 => k (-1)
 | .negSucc (m + 1) => k (.negSucc (m + 1))
def natForce {β : Type} (n : Nat) (k : Nat → β) : β := match n with
 | 0 => k 0
 | m + 1 => k (m + 1)
theorem natForce_eq {β : Type} (n : Nat) (k : Nat → β) : natForce n k = k n := by
 unfold natForce
 split <;> rfl
theorem intForce_eq {β : Type} (n : Int) (k : Int → β) : intForce n k = k n := by
 unfold intForce
 split <;> rfl
def tupForce {β : Type} : (ls : List Lf) → Tup ls → (Tup ls → β) → β
 | [], x, k => k x
 | .i _ :: r, x, k => intForce x.1 fun n => tupForce r x.2 fun y => k (n, y)
 | .b :: r, x, k => (match x.1 with
  | true => tupForce r x.2 fun y => k (true, y)
  | false => tupForce r x.2 fun y => k (false, y))
 | .sl :: r, x, k => natForce x.1.2.1 fun n => tupForce r x.2 fun y => k ((x.1.1, n, x.1.2.2), y)
 | _ :: r, x, k => tupForce r x.2 fun y => k (x.1, y)
theorem tupForce_eq {β : Type} : ∀ (ls : List Lf) (x : Tup ls) (k : Tup ls → β), tupForce ls x k = k x
 | [], x, k => rfl
 | .i _ :: r, x, k => by simp only [tupForce, intForce_eq]; exact tupForce_eq r x.2 _
 | .b :: r, (true, z), k => by simp only [tupForce]; exact tupForce_eq r z _
 | .b :: r, (false, z), k => by simp only [tupForce]; exact tupForce_eq r z _
 | .s :: r, x, k => by simp only [tupForce]; exact tupForce_eq r x.2 _
 | .sl :: r, x, k => by simp only [tupForce, natForce_eq]; exact tupForce_eq r x.2 _
 | .p :: r, x, k => by simp only [tupForce]; exact tupForce_eq r x.2 _
 | .m :: r, x, k => by simp only [tupForce]; exact tupForce_eq r x.2 _
def valForce {β : Type} (v : Value) (k : Value → β) : β := match v with
 | .int q n => intForce n fun n => k (.int q n)
 | .bool b => (match b with
  | true => k (.bool true)
  | false => k (.bool false))
 | .slice a n c => natForce n fun n => k (.slice a n c)
 | .pointer a => k (.pointer a)
 | .map q => k (.map q)
 | .string s => k (.string s)
 | v => k v
theorem valForce_eq {β : Type} (v : Value) (k : Value → β) : valForce v k = k v := by
 unfold valForce
 split <;> try rfl
 ·rw [intForce_eq]
 ·split <;> rfl
 ·rw [natForce_eq]
def cellsForce {β : Type} : List Value → (List Value → β) → β
 | [], k => k []
 | v :: r, k => valForce v fun v => cellsForce r fun r => k (v :: r)
theorem cellsForce_eq {β : Type} : ∀ (l : List Value) (k : List Value → β), cellsForce l k = k l
 | [], k => rfl
 | v :: r, k => by simp only [cellsForce, valForce_eq]; exact cellsForce_eq r _
def rowsForce {β : Type} : List (List Value) → (List (List Value) → β) → β
 | [], k => k []
 | v :: r, k => cellsForce v fun v => rowsForce r fun r => k (v :: r)
theorem rowsForce_eq {β : Type} : ∀ (l : List (List Value)) (k : List (List Value) → β), rowsForce l k = k l
 | [], k => rfl
 | v :: r, k => by simp only [rowsForce, cellsForce_eq]; exact rowsForce_eq r _
def obForce {β : Type} (o : Ob) (k : Ob → β) : β := match o with
 | .blk e sz rows => rowsForce rows fun rows => k (.blk e sz rows)
 | .ro sz rows => rowsForce rows fun rows => k (.ro sz rows)
 | .map n => natForce n fun n => k (.map n)
 | .dead => k .dead
theorem obForce_eq {β : Type} (o : Ob) (k : Ob → β) : obForce o k = k o := by
 cases o <;> simp [obForce, rowsForce_eq, natForce_eq]
def listForce {α β : Type} : List α → (List α → β) → β
 | [], k => k []
 | x :: r, k => listForce r fun r => k (x :: r)
theorem listForce_eq {α β : Type} : ∀ (l : List α) (k : List α → β), listForce l k = k l
 | [], k => rfl
 | v :: r, k => by simp only [listForce]; exact listForce_eq r _
end Go.Proofs.YtcbpgbfbffnogaaGreatW.Ex
