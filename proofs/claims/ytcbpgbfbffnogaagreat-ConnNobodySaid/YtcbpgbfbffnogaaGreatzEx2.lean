import Derived.Test.YtcbpgbfbffnogaaGreatzEx1
namespace Go.Proofs.YtcbpgbfbffnogaaGreatW.Ex
open Go Go.RowKit Go.Proofs.YtcbpgbfbffnogaaGreatW.Rx
set_option linter.unusedVariables false
set_option linter.unusedSimpArgs false
inductive SRes where
 | ptr | sl (n : Nat) | mp | int (n : Nat) | str (x : ByteArray) | unit | same (a : Option Addr) (n c : Nat)
structure SEff where
 h : AH
 new : Option Ob
 res : SRes
 owe : List Owe
def SRes.vals (m : Nm) (id : Nat) : SRes → List AV
 | .ptr => [.v (.pointer (some ⟨m.r id, m.o id, none⟩))]
 | .sl n => [.v (.slice (some ⟨m.r id, m.o id, none⟩) n (m.c id + n))]
 | .mp => [.v (.map (some (m.r id)))]
 | .int n => [.v (.int .i64 (n : Nat))]
 | .str x => [.v (.string x)]
 | .unit => []
 | .same a n c => [.v (.slice a n c)]
def chunk {α : Type} (sz : Nat) : Nat → List α → List (List α)
 | 0, _ => []
 | n + 1, l => l.take sz :: chunk sz n (l.drop sz)
def oneAll (l : List Value) : Bool := l.all (·.oneCell')
def rowOk (sz : Nat) (l : List Value) : Bool := Nat.beq l.length sz && oneAll l
def getB (h : AH) (i : Nat) : Option (TypeId × Nat × List (List Value)) := match h[i]? with
 | some (.blk e sz rows) => some (e, sz, rows)
 | _ => none
def getR (h : AH) (i : Nat) : Option (Nat × List (List Value)) := match h[i]? with
 | some (.blk e sz rows) => some (sz, rows)
 | some (.ro sz rows) => some (sz, rows)
 | _ => none
def readSl (h : AH) (i off sz n : Nat) : Option (List (List Value)) := match getR h i with
 | some (_, rows) => (match (rows.flatten.drop off).take (n * sz) with
  | cs => bif Nat.beq cs.length (n * sz) then some (chunk sz n cs) else none)
 | none => none
section
variable (P : Program)
def elemOf (t : TypeId) : Option (TypeId × TypeInfo × Value) := match P.underlying t with
 | some (.slice e) => (match P.info? e with
  | some i => (match i.zero with
   | some z => bif Nat.beq z.cells.size i.size && Nat.blt 0 i.size && oneAll z.cells.toList && Nat.blt 0 i.bytes then some (e, i, z) else none
   | none => none)
  | none => none)
 | _ => none
def isIntT (t : TypeId) : Bool := match P.underlying t with
 | some (.int _) => true
 | _ => false
def isByteT (t : TypeId) : Bool := match P.underlying t with
 | some (.int .u8) => true
 | _ => false
def isMapT (t : TypeId) : Bool := match P.underlying t with
 | some (.map k _) => (match P.underlying k with
  | some (.int .i64) => true
  | _ => false)
 | _ => false
def numsRow : List (List Value) → Option (List Int)
 | [] => some []
 | [.int .u8 n] :: r => (numsRow r).map (n :: ·)
 | _ => none
section
variable {σ : Type} (hn : σ → Option Addr → Option ((Nat × Nat) × σ)) (s : σ) (h : AH)
def app0 (t ti : TypeId) (m : Nat) : Option SEff := match elemOf P t with
 | some (e, i, z) => bif isIntT P ti && Nat.blt 0 m && Nat.ble (m * i.bytes) 140737488355328 then some ⟨h, some (.blk e i.size (List.replicate m z.cells.toList)), .sl m, []⟩ else none
 | none => none
def app1 (t : TypeId) (a : Option Addr) (n2 j off : Nat) : Option SEff := match elemOf P t with
 | some (e, i, z) => (match readSl h j off i.size n2 with
  | some ys => bif Nat.blt 0 n2 && Nat.ble (n2 * i.bytes) 140737488355328 then some ⟨h, some (.blk e i.size ys), .sl n2, [.at a j off]⟩ else none
  | none => none)
 | none => none
def app2 (t : TypeId) (p a : Option Addr) (n c n2 k j off : Nat) : Option SEff := match elemOf P t, getB h k with
 | some (e, i, z), some (e', sz', xs) => (match readSl h j off i.size n2 with
  | some ys => bif Nat.beq e e' && Nat.beq sz' i.size && Nat.ble n xs.length && Nat.blt 0 n2 && Nat.ble ((n + n2) * i.bytes) 140737488355328 && !Nat.beq j k then some ⟨h.set k .dead, some (.blk e i.size (xs.take n ++ ys)), .sl (n + n2), [.at p k 0, .cap c k xs.length, .at a j off]⟩ else none
  | none => none)
 | _, _ => none
def app3 (t : TypeId) (p : Option Addr) (n c k : Nat) : Option SEff := match elemOf P t, getB h k with
 | some (e, i, z), some (e', sz', xs) => bif Nat.beq e e' && Nat.beq sz' i.size && Nat.ble n xs.length then some ⟨h, none, .same p n c, [.at p k 0, .cap c k xs.length]⟩ else none
 | _, _ => none
def appX (t ti : TypeId) (x y : Value) : Option (σ × SEff) := match x, y with
 | .slice none 0 0, .int .i64 (.ofNat m) => (app0 P h t ti m).map (s, ·)
 | .slice none 0 0, .slice a 0 _ => none
 | .slice none 0 0, .slice a n2 _ => bif Nat.beq t ti then (match hn s a with
  | some ((j, off), s) => (app1 P h t a n2 j off).map (s, ·)
  | none => none) else none
 | .slice p n c, .slice a 0 _ => bif Nat.beq t ti then (match hn s p with
  | some ((k, 0), s) => (app3 P h t p n c k).map (s, ·)
  | _ => none) else none
 | .slice p n c, .slice a n2 _ => bif Nat.beq t ti then (match hn s p with
  | some ((k, 0), s) => (match hn s a with
   | some ((j, off), s) => (app2 P h t p a n c n2 k j off).map (s, ·)
   | none => none)
  | _ => none) else none
 | _, _ => none
def cpy1 (t : TypeId) (d a : Option Addr) (n k ko j off : Nat) : Option SEff := match elemOf P t, getB h k with
 | some (e, i, z), some (e', sz', xs) => (match readSl h j off i.size n with
  | some ys => bif Nat.beq e e' && Nat.beq sz' i.size && Nat.blt 0 n && Nat.beq (ko % i.size) 0 && Nat.ble (ko / i.size + n) xs.length then some ⟨h.set k (.blk e i.size (xs.take (ko / i.size) ++ ys ++ xs.drop (ko / i.size + n))), none, .int n, [.at d k ko, .at a j off]⟩ else none
  | none => none)
 | _, _ => none
def cpyX (t : TypeId) (x y : Value) : Option (σ × SEff) := match x, y with
 | .slice d dl _, .slice a n2 _ => (match Nat.min n2 dl with
  | 0 => none
  | n + 1 => (match hn s d with
   | some ((k, ko), s) => (match hn s a with
    | some ((j, off), s) => (cpy1 P h t d a (n + 1) k ko j off).map (s, ·)
    | none => none)
   | none => none))
 | _, _ => none
def boxX (t : TypeId) (v : Value) : Option SEff := bif oneAll v.cells.toList && Nat.blt 0 v.cells.size then some ⟨h, some (.blk t v.cells.size [v.cells.toList]), .ptr, []⟩ else none
def litX (t : TypeId) (n : Nat) (parts : Array (Nat × Value)) : Option SEff := match elemOf P t with
 | some (e, i, z) => (match n with
  | 0 => bif parts.toList.isEmpty then some ⟨h, some (.blk e i.size []), .sl 0, []⟩ else none
  | n => (match Instr.fill (fun j => some (j * i.size, i.size)) ((Array.range (n * i.size)).map (z.cells[· % z.cells.size]!)) parts.toList with
   | some cells => bif Nat.blt 0 n && Nat.ble (n * i.size) 16777216 && Nat.beq cells.size (n * i.size) && oneAll cells.toList then some ⟨h, some (.blk e i.size (chunk i.size n cells.toList)), .sl n, []⟩ else none
   | none => none))
 | none => none
def mkX (t : TypeId) (n n' : Nat) : Option SEff := match elemOf P t with
 | some (e, i, z) => bif Nat.beq n n' && Nat.blt 0 n && Nat.ble (n * i.bytes) 1048576 && Nat.ble n 65536 then some ⟨h, some (.blk e i.size (List.replicate n z.cells.toList)), .sl n, []⟩ else none
 | none => none
def b2bX (a : TypeId) (p : Option Addr) (n c j : Nat) : Option SEff := match elemOf P a, getB h j with
 | some (e, i, z), some (e', sz, ys) => bif isByteT P e && Nat.beq e e' && Nat.beq sz 1 && Nat.blt 0 n && Nat.beq ys.length n then some ⟨h.set j .dead, some (.ro 1 ys), .sl n, [.at p j 0, .cap c j n]⟩ else none
 | _, _ => none
def b2sX (a : TypeId) (p : Option Addr) (n j off : Nat) : Option SEff := match elemOf P a, readSl h j off 1 n with
 | some (e, i, z), some ys => (match numsRow ys with
  | some l => bif isByteT P e then some ⟨h, none, .str (strOfNums l), [.at p j off]⟩ else none
  | none => none)
 | _, _ => none
def isStrT (t : TypeId) : Bool := match P.underlying t with
 | some .string => true
 | _ => false
def convX (a b : TypeId) : Value → Option (σ × SEff)
 | .slice p 0 _ => none
 | .slice p n c => bif isStrT P b then (match hn s p with
   | some ((j, off), s) => bif Nat.ble n 9223372036854775807 then (b2sX P h a p n j off).map (s, ·) else none
   | none => none)
  else bif Nat.beq a b then (match hn s p with
   | some ((j, 0), s) => (b2bX P h a p n c j).map (s, ·)
   | _ => none) else none
 | _ => none
def mlenX (q : Option Nat) (i : Nat) : Option SEff := match h[i]? with
 | some (.map n) => some ⟨h, none, .int n, [.map q i]⟩
 | _ => none
def msetX (q : Option Nat) (i : Nat) : Option SEff := match h[i]? with
 | some (.map 0) => some ⟨h.set i (.map 1), none, .unit, [.map q i]⟩
 | _ => none
def ofMap (q : Option Nat) : Option Addr := q.map fun b => ⟨b, 0, none⟩
def semX : SOp → Option (σ × SEff)
 | .box t v => (boxX h t v).map (s, ·)
 | .lit t n parts => (litX P h t n parts).map (s, ·)
 | .mk t (.int .i64 (.ofNat n)) (.int .i64 (.ofNat n')) => (mkX P h t n n').map (s, ·)
 | .app ts ty xs => (match ts.toList, xs.toList with
  | [t, ti], [x, y] => appX P hn s h t ti x y
  | _, _ => none)
 | .cpy ts ty xs => (match ts.toList, xs.toList with
  | [t, ti], [x, y] => bif Nat.beq t ti then cpyX P hn s h t x y else none
  | _, _ => none)
 | .mlen ts ty xs => (match ts.toList, xs.toList with
  | [t], [.map q] => bif isMapT P t then (match hn s (ofMap q) with
   | some ((i, _), s) => (mlenX h q i).map (s, ·)
   | none => none) else none
  | _, _ => none)
 | .mmk t => bif isMapT P t then some (s, ⟨h, some (.map 0), .mp, []⟩) else none
 | .mset t (.map q) (.int .i64 n) x => bif isMapT P t then (match hn s (ofMap q) with
  | some ((i, _), s) => (msetX h q i).map (s, ·)
  | none => none) else none
 | .conv a b x => convX P hn s h a b x
 | _ => none
def extL (a : Option Addr) (i off : Nat) : Option (Option Nat) := match getR h i with
 | some (_, rows) => (match rows.flatten[off]? with
  | some (.map q) => some q
  | _ => none)
 | none => none
def extX : Nat → List AV → Option (σ × AV × List Owe)
 | 1, [.v (.pointer a), g] => (match hn s a with
  | some ((i, off), s) => (match extL h a i off with
   | some q => (match hn s (ofMap q) with
    | some ((j, _), s) => (match h[j]? with
     | some (.map 0) => some (s, .v (.slice none 0 0), [.at a i off, .map q j])
     | _ => none)
    | none => none)
   | none => none)
  | none => none)
 | 3, [] => some (s, .v (.bool true), [])
 | _, _ => none
end
def scal : Value → Bool
 | .int _ _ => true
 | .bool _ => true
 | .string _ => true
 | _ => false
def scals (rows : List (List Value)) : Bool := rows.all fun r => r.all scal
def alike (nw : Bool) : Ob → Ob → Ob × List Owe
 | .blk e sz rows, .blk e' sz' rows' => bif Nat.beq e e' && Nat.beq sz sz' && Nat.beq rows.length rows'.length && rows.all (fun r => Nat.beq r.length sz) && (!nw || scals rows) then (.blk e sz rows, [.vals rows'.flatten rows.flatten]) else (.dead, [])
 | .ro sz rows, .ro sz' rows' => bif Nat.beq sz sz' && Nat.beq rows.length rows'.length && (!nw || scals rows) then (.ro sz rows, [.vals rows'.flatten rows.flatten]) else (.dead, [])
 | .map n, .map n' => bif Nat.beq n n' then (.map n, []) else (.dead, [])
 | _, _ => (.dead, [])
def merge : Nat → AH → AH → AH × List Owe
 | k, x :: r, y :: s => match alike (Nat.beq k 0) x y, merge (k - 1) r s with
  | (z, o), (t, p) => (z :: t, o ++ p)
 | _, [], _ => ([], [])
 | _, _ :: _, [] => ([], [])
def backOk : Nat → Out → Out → List Nat → Bool
 | _, [], [], [] => true
 | i, (_, _, T) :: r, (k, c, T') :: r', n :: les => Nat.beq k i && Nat.beq T T' && Nat.beq c.length n && backOk (i + 1) r r' les
 | _, _, _, _ => false
abbrev Outc := AV × Out × AH
def leavesOf (sh : Sh) (les : List Nat) (ex : Out) (n : Nat) (o : Outc) : Option (List AV) := match unSh sh o.1 with
 | some xs => bif o.1.wf (fun _ => false) && o.2.1.all (fun x => AV.wfs (fun _ => false) x.2.1) && backOk 0 ex o.2.1 les && Nat.beq n (xs.length + les.sum) then some (xs ++ (o.2.1.flatMap fun x => x.2.1)) else none
 | none => none
def joinO (k : Nat) (sh : Sh) (les : List Nat) (ex : Out) (n : Nat) : List Outc → Option (List AV × AH × List Owe)
 | [] => none
 | [o] => (match leavesOf sh les ex n o with
  | some xs => some (xs, o.2.2, [])
  | none => none)
 | o :: r => (match leavesOf sh les ex n o, joinO k sh les ex n r with
  | some xs, some (ys, h, owe) => bif Nat.beq xs.length ys.length && Nat.beq o.2.2.length h.length then (match merge k h o.2.2 with
   | (h2, owe2) => some (ys, h2, .vals (AV.gs id xs) (AV.gs id ys) :: owe2 ++ owe)) else none
  | _, _ => none)
def newForce {β : Type} (o : Option Ob) (k : AH → β) : β := match o with
 | some o => obForce o fun o => k [o]
 | none => k []
theorem newForce_eq {β : Type} (o : Option Ob) (k : AH → β) : newForce o k = k o.toList := by
 cases o <;> simp [newForce, obForce_eq]
def shOk : Sh → Nat → Bool
 | .one, 1 => true
 | .tup [], 0 => true
 | _, _ => false
def effOk (n : Nat) (e : SEff) : Bool := Nat.beq e.h.length n && (match e.new, e.res with
 | some _, _ => true
 | none, .ptr => false
 | none, .sl _ => false
 | none, .mp => false
 | none, _ => true)
def callOk (fn : Func) (args : List AV) (ex : Out) : Bool :=
 fn.body.isSome && Nat.ble (rens (posOf ex) args).length fn.ntmps && AV.wfs (fun q => ex.any fun x => Nat.beq x.1 q) args && ex.all (fun x => AV.wfs (fun q => ex.any fun x => Nat.beq x.1 q) x.2.1) &&
  AV.wfs (startX (rens (posOf ex) args) fn.ntmps (renOut (posOf ex) 0 ex)).D (rens (posOf ex) args) && (renOut (posOf ex) 0 ex).all (fun x => AV.wfs (startX (rens (posOf ex) args) fn.ntmps (renOut (posOf ex) 0 ex)).D x.2.1)
variable (T : Tab)
def epis (f : FuncId) (n : Nat) : List Outc → Option (List Outc)
 | [] => some []
 | (.tup [], [], h) :: r => (match T.epi f h n, epis f n r with
  | some v, some l => some ((v, [], h) :: l)
  | _, _ => none)
 | _ => none
def ptrs (m : Nm) (k : Nat) : List Ob → List AV
 | [] => []
 | _ :: r => .v (.pointer (some (m.at k 0))) :: ptrs m (k + 1) r
def exec (m : Nm) : Nat → List Way → HT → AH → List Owe → XT → Option (List Outc × List Owe)
 | 0, _, _, _, _, _ => none
 | n + 1, env, s, h, ob, t => match t with
  | .done r out => some ([(r, out, h)], ob)
  | .bad _ => none
  | .die _ => none
  | .need c k => bif c then exec m n env s h ob k else none
  | .keep a xs k => (match hint s a with
   | some ((i, off), s) => (match getR h i with
    | some (_, rows) => bif AV.wfs (fun _ => false) xs && Nat.ble (off + xs.length) rows.flatten.length then exec m n env s h (.at a i off :: .vals (AV.gs id xs) ((rows.flatten.drop off).take xs.length) :: ob) k else none
    | none => none)
   | none => none)
  | .ld a ls k => (match hint s a with
   | some ((i, off), s) => (match getR h i with
    | some (_, rows) => (match unTup ls (((rows.flatten.drop off).take ls.length).map AV.v) with
     | some x => bif Nat.blt 0 ls.length then tupForce ls x fun y => exec m n env s h (.at a i off :: ob) (k y) else none
     | none => none)
    | none => none)
   | none => none)
  | .sto a xs ex k => (match hint s a with
   | some ((i, off), s) => (match getB h i with
    | some (e, sz, rows) => (match rows[off / sz]? with
     | some row => bif AV.wfs (fun _ => false) xs && ex.isEmpty && Nat.blt 0 xs.length && Nat.ble (off % sz + xs.length) sz && oneAll (AV.gs id xs) then
       rowsForce (rows.set (off / sz) (row.take (off % sz) ++ AV.gs id xs ++ row.drop (off % sz + xs.length))) fun rows => listForce (h.set i (.blk e sz rows)) fun h => exec m n env s h (.at a i off :: ob) k else none
     | none => none)
    | none => none)
   | none => none)
  | .call f args ex sh ls les k => (match T.ext f with
   | 0 => (match s with
    | .sub sa s => (match P.funcs[f]? with
     | some fn => bif callOk fn args ex then
       (match exec m n [] sa h [] (tree P (T.A f) (T.C f) fn (rens (posOf ex) args) (renOut (posOf ex) 0 ex)) with
       | some (os, ob1) => (match joinO h.length sh les ex ls.length os with
        | some (xs, h, owe) => (match unTup ls xs with
         | some x => tupForce ls x fun y => exec m n env s h (owe ++ (ob1 ++ ob)) (k y)
         | none => none)
        | none => none)
       | none => none) else none
     | none => none)
    | _ => none)
   | 2 => (match s with
    | .sub sa s => (match T.mid f args with
     | some (obs, tr) => (match exec m n [] sa (h ++ obs) [] (tr (ptrs m h.length obs)) with
      | some (os, ob1) => (match epis T f h.length os with
       | some os => (match joinO h.length sh les ex ls.length os with
        | some (xs, h, owe) => (match unTup ls xs with
         | some x => bif ex.isEmpty then tupForce ls x fun y => exec m n env s h (owe ++ (ob1 ++ ob)) (k y) else none
         | none => none)
        | none => none)
       | none => none)
      | none => none)
     | none => none)
    | _ => none)
   | q + 1 => (match extX hint s h (q + 1) args with
    | some (s, r, owe) => (match leavesOf sh les ex ls.length (r, renOut id 0 ex, h) with
     | some xs => (match unTup ls xs with
      | some x => exec m n env s h (owe ++ ob) (k x)
      | none => none)
     | none => none)
    | none => none))
  | .sem o ls sh k => (match semX P hint s h o with
   | some (s, e) => (match unTup ls (natForce h.length fun id => e.res.vals m id) with
    | some x => bif shOk sh ls.length && effOk h.length e then tupForce ls x fun x => newForce e.new fun nw => listForce (e.h ++ nw) fun h => exec m n env s h (e.owe ++ ob) (k x) else none
    | none => none)
   | none => none)
  | .loop ls x lvl body => exec m n (⟨lvl, ls, body, true⟩ :: env) s h ob (body x)
  | .again lvl ls x => (match find env lvl with
   | some (e, env) => (match lfsDec ls e.ls with
    | isTrue q => tupForce e.ls (q ▸ x) fun y => exec m n env s h ob (e.body y)
    | isFalse _ => none)
   | none => none)
  | .cut ls lvl body k => exec m n (⟨lvl, ls, k, false⟩ :: env) s h ob body
  | .both a b => (match s with
   | .sub sa s => (match exec m n env sa h [] a with
    | some (os, ob1) => (match exec m n env s h (ob1 ++ ob) b with
     | some (os2, ob2) => some (os ++ os2, ob2)
     | none => none)
    | none => none)
   | _ => none)
end
end Go.Proofs.YtcbpgbfbffnogaaGreatW.Ex
