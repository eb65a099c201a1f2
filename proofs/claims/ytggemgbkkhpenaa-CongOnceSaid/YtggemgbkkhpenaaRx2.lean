/- The machine for walks: one operation. -/
import Derived.Test.YtggemgbkkhpenaaRx
namespace Go.Proofs.YtggemgbkkhpenaaW.Rx
open Go
set_option linter.unusedVariables false
section
variable (P : Program)
def lfOf : TypeDesc → Option Lf
  | .int k => some (.i k) | .bool => some .b | .string => some .s | .slice _ => some .sl | .pointer _ => some .p | .map _ _ => some .m | _ => none
def leaves : Nat → TypeId → Option (List Lf)
  | 0, _ => none
  | n + 1, t => match P.underlying t with
    | some (.struct fs) => fs.toList.foldr (fun f acc => match leaves n f.type, acc with | some a, some b => some (a ++ b) | _, _ => none) (some [])
    | some (.array k e) => (leaves n e).map fun a => (List.replicate k a).flatten
    | some d => (lfOf d).map fun l => [l]
    | none => none
def isRow (t : TypeId) : Bool := match P.underlying t with
  | some d => d.isRow
  | none => false
def shOf (t : TypeId) : Option (Sh × List Lf) := match P.underlying t with
  | some (.tuple ts) => ts.toList.foldr (fun t acc => match leaves P 8 t, acc with
      | some a, some (.tup l, b) => some (.tup ((isRow P t, a.length) :: l), a ++ b)
      | _, _ => none) (some (.tup [], []))
  | some d => (leaves P 8 t).map fun a => (if d.isRow then .agg a.length else .one, a)
  | none => none
def pureV : Sem Next → Option Value
  | .pure (.value v) => some v
  | .program k => pureV (k P)
  | _ => none
def evs (ev : Operand → Option AV) : List Operand → Option (List AV)
  | [] => some []
  | x :: r => match ev x, evs ev r with
    | some a, some b => some (a :: b)
    | _, _ => none
/-- All operands are plain values. -/
def plains (ev : Operand → Option AV) : List Operand → Bool
  | [] => true
  | x :: r => match ev x with
    | some (.v _) => plains ev r
    | _ => false
def evv (ev : Operand → Option AV) (x : Operand) : Value := match ev x with
  | some (.v a) => a
  | _ => undef
def fillA (place : Nat → Option (Nat × Nat)) (cells : List AV) : List (Nat × AV) → Option (List AV)
  | [] => some cells
  | (i, v) :: rest => match place i with
    | none => none
    | some (off, size) => if v.cells.length ≠ size || off + v.cells.length > cells.length then none
      else fillA place (cells.take off ++ v.cells ++ cells.drop (off + v.cells.length)) rest
def buildA (t : TypeId) (parts : List (Nat × AV)) : Option (List AV) :=
  match P.info? t, P.underlying t with
  | some it, some (.array _ e) => match it.zero, P.info? e with
    | some z, some ie => fillA (fun i => some (i * ie.size, ie.size)) (z.cells.toList.map .v) parts
    | _, _ => none
  | some it, some (.struct fields) => match it.zero, fields.toList.mapM (fun f => (P.info? f.type).map fun i => (f.offset, i.size)) with
    | some z, some places => fillA (places.toArray[·]?) (z.cells.toList.map .v) parts
    | _, _ => none
  | _, _ => none
def eqCell : TypeDesc → AV → AV → Option Bool
  | .int _, .v (.int k a), .v (.int k' b) => if k = k' then some (a == b) else none
  | .bool, .v (.bool a), .v (.bool b) => some (a == b)
  | .string, .v (.string a), .v (.string b) => some (a.toList == b.toList)
  | _, _, _ => none
def eqFs (xs ys : List AV) : List Field → Option Bool
  | [] => some true
  | f :: r => if f.name == "_" then none else match P.underlying f.type, xs[f.offset]?, ys[f.offset]?, eqFs xs ys r with
    | some d, some a, some b, some q => (eqCell d a b).map fun p => p && q
    | _, _, _, _ => none
def eqStruct (t : TypeId) (xs ys : List AV) : Option Bool := match P.underlying t with
  | some (.struct fs) => if P.stoodInHeld t || P.eqGuardType P.depth t then none else eqFs P xs ys fs.toList
  | _ => none
/-- What one operation does. -/
inductive Eff where
  | val (x : AV)
  | alloc (c : List AV) (T : TypeId)
  | stb (key : Nat) (c : List AV) (T : TypeId)
  | chk (c : Bool) (x : AV)
  | ld (a : Option Addr) (ls : List Lf) (row : Bool)
  | sto (a : Option Addr) (xs : List AV)
  | call (f : FuncId) (args : List AV) (t : TypeId)
  | sem (s : Sem Value) (t : TypeId)
  | bad (why : String)
def callable (f : FuncId) : Bool := match P.funcs[f]? with
  | some fn => !(fn.name == "runtime.NumGoroutine") && fn.body.isSome
  | none => false
def orBad (x : Option AV) (why : String) : Eff := match x with
  | some a => .val a
  | none => .bad why
def pureE (ev : Operand → Option AV) (o : Oper) (ops : List Operand) : Eff :=
  if plains ev ops then orBad ((pureV P (execOp (evv ev) o)).map .v) "not pure" else .bad "not plain"
def core (ev : Operand → Option AV) (blks : Nat → Option (List AV × TypeId)) (o : Oper) : Eff :=
  match o.op with
  | .move x => orBad (ev x) "move"
  | .assign x => orBad (ev x) "assign"
  | .pick c a b => match ev c with
    | some (.v (.bool true)) => orBad (ev a) "pick"
    | some (.v (.bool false)) => orBad (ev b) "pick"
    | _ => .bad "pick"
  | .alloc t => match (P.info? t).bind (·.zero) with
    | some z => .alloc (z.cells.toList.map .v) t
    | none => .bad "alloc"
  | .box t x => match ev x with
    | some a => if a.cells.all AV.one then .alloc a.cells t else .bad "box"
    | none => .bad "box"
  | .load t a => match ev a with
    | some (.p key off) => match blks key with
      | some (c, _) => match P.underlying t with
        | some d => if d.isRow then (if off + P.cellsOf t ≤ c.length && (P.info? t).isSome then .val (.agg ((c.drop off).take (P.cellsOf t))) else .bad "load row") else orBad c[off]? "load cell"
        | none => .bad "load type"
      | none => .bad "load: no such block"
    | some (.v (.pointer q)) => match P.underlying t, leaves P 8 t with
      | some d, some ls => if d.isRow then (if (P.info? t).map (·.size) = some ls.length then .ld q ls true else .bad "load") else (if ls.length = 1 then .ld q ls false else .bad "load")
      | _, _ => .bad "load far type"
    | _ => .bad "load"
  | .store t a x => match ev a, ev x with
    | some (.p key off), some v => match blks key with
      | some (c, T) => if (P.info? t).map (·.size) = some v.cells.length && off + v.cells.length ≤ c.length && v.cells.all AV.one then .stb key (c.take off ++ v.cells ++ c.drop (off + v.cells.length)) T else .bad "store"
      | none => .bad "store: no such block"
    | some (.v (.pointer q)), some v => if (P.info? t).map (·.size) = some v.cells.length && v.cells.all AV.one then .sto q v.cells else .bad "store"
    | _, _ => .bad "store"
  | .nilCheck x => match ev x with
    | some (.p k o) => .val (.p k o)
    | some (.v (.pointer q)) => .chk q.isSome (.v (.pointer q))
    | some (.fn (.func f) a c) => .val (.fn (.func f) a c)
    | some (.v (.func (.func f) a c)) => .val (.v (.func (.func f) a c))
    | _ => .bad "nilCheck"
  | .binOp op t x y _ => match op, ev x, ev y with
    | .quo, some (.v (.int k a)), some (.v (.int k' b)) => if k = k' then .chk (decide (b ≠ 0)) (.v (.int k (k.wrap (a.tdiv b)))) else .bad "quo"
    | .rem, some (.v (.int k a)), some (.v (.int k' b)) => if k = k' then .chk (decide (b ≠ 0)) (.v (.int k (a.tmod b))) else .bad "rem"
    | .eql, some (.p _ _), some (.v (.pointer none)) => (match P.underlying t with | some (.pointer _) => .val (.v (.bool false)) | _ => .bad "eql")
    | .neq, some (.p _ _), some (.v (.pointer none)) => (match P.underlying t with | some (.pointer _) => .val (.v (.bool true)) | _ => .bad "neq")
    | .eql, some (.agg xs), some (.agg ys) => (match eqStruct P t xs ys with | some b => .val (.v (.bool b)) | none => .bad "eql")
    | .neq, some (.agg xs), some (.agg ys) => (match eqStruct P t xs ys with | some b => .val (.v (.bool !b)) | none => .bad "neq")
    | _, _, _ => pureE P ev o [x, y]
  | .unOp _ _ x => pureE P ev o [x]
  | .convert src dst x => match P.underlying src, P.underlying dst with
    | some (.int _), some (.int _) => pureE P ev o [x]
    | some (.string), some (.string) => pureE P ev o [x]
    | _, _ => if plains ev [x] then .sem (convert src dst (evv ev x)) o.type else .bad "convert"
  | .makeInterface t x => pureE P ev o [x]
  | .makeFunc fn first cap => match evs ev first.toList, evs ev cap.toList with
    | some a, some c => .val (.fn fn a c)
    | _, _ => .bad "makeFunc"
  | .fieldAddr s x f => match P.underlying s with
    | some (.struct fs) => match fs[f]? with
      | some fd => if P.cellsOf fd.type ≠ 0 then (match ev x with
          | some (.p k off) => .val (.p k (off + fd.offset))
          | some (.v (.pointer q)) => .chk q.isSome (.v (.pointer (q.map (·.add fd.offset))))
          | _ => .bad "fieldAddr") else .bad "fieldAddr size"
      | none => .bad "fieldAddr field"
    | _ => .bad "fieldAddr type"
  | .field t x f => match P.underlying t, ev x with
    | some (.struct fs), some (.agg cs) => match fs[f]? with
      | some fd => match P.underlying fd.type with
        | some d => if d.isRow then (if fd.offset + P.cellsOf fd.type ≤ cs.length && (P.info? fd.type).isSome then .val (.agg ((cs.drop fd.offset).take (P.cellsOf fd.type))) else .bad "field") else orBad cs[fd.offset]? "field"
        | none => .bad "field"
      | none => .bad "field"
    | _, _ => .bad "field"
  | .indexAddr t x ix => match P.underlying t, ev x, ev ix with
    | some (.slice e), some (.v (.slice base len _)), some (.v (.int k n)) => if (P.info? e).isSome then .chk (decide (0 ≤ n) && decide (n < (len : Int)) && base.isSome) (.v (.pointer (base.map (·.add (n.toNat * P.cellsOf e))))) else .bad "indexAddr"
    | some (.array m e), some (.p key off), some (.v (.int k n)) => if (P.info? e).isSome then .chk (decide (0 ≤ n) && decide (n < (m : Int))) (.p key (off + n.toNat * P.cellsOf e)) else .bad "indexAddr"
    | _, _, _ => .bad "indexAddr"
  | .index t x ix => match ev x, ev ix with
    | some (.v (.string s)), some (.v (.int k n)) => (match P.underlying t with | some .string => .chk (decide (0 ≤ n) && decide (n < (s.size : Int))) (.v (.int .u8 ((s[n.toNat]?.getD 0).toNat : Int))) | _ => .bad "index")
    | _, _ => .bad "index"
  | .slice t x lo hi none => match P.underlying t, ev x, (match lo with | none => some (AV.v (.int .i64 0)) | some l => ev l) with
    | some (.slice e), some (.v (.slice a len cap)), some (.v (.int k l)) => if (P.info? e).isSome then (match (match hi with | none => some (AV.v (.int .i64 (len : Int))) | some h => ev h) with
        | some (.v (.int k' h)) => .chk (decide (0 ≤ l) && decide (l ≤ h) && decide (h ≤ (if hi.isSome then (cap : Int) else (len : Int)))) (.v (.slice (if (cap : Int) = l then a else a.map (·.add (l.toNat * P.cellsOf e))) (h.toNat - l.toNat) (cap - l.toNat)))
        | _ => .bad "slice") else .bad "slice"
    | _, _, _ => .bad "slice"
  | .build t parts => match evs ev (parts.toList.map (·.2)) with
    | some xs => if xs.all (fun x => x.cells.all AV.one) then (match buildA P t ((parts.toList.map (·.1)).zip xs) with
      | some c => .val (.agg c)
      | none => .bad "build") else .bad "build part"
    | none => .bad "build operand"
  | .buildSlice t len parts => match evs ev (parts.toList.map (·.2)) with
    | some xs => if (AV.wfs (fun _ => false) xs) then .sem (Instr.buildSlice t len ((parts.toList.map (·.1)).zip (AV.gs id xs)).toArray) o.type else .bad "buildSlice"
    | none => .bad "buildSlice"
  | .extract t ix => match ev t with
    | some (.tup vs) => orBad vs[ix]? "extract"
    | _ => .bad "extract"
  | .makeSlice t l c => if plains ev [l, c] then .sem (Instr.makeSlice t (evv ev l) (evv ev c)) o.type else .bad "makeSlice"
  | .call c => match c.callee with
    | .value fo => match ev fo, evs ev c.args.toList with
      | some (.fn (.func f) first cap), some args => if callable P f then .call f (first ++ args ++ cap) o.type else .bad "call"
      | some (.v (.func (.func f) first cap)), some args => if callable P f then .call f (first.toList.map .v ++ args ++ cap.toList.map .v) o.type else .bad "call"
      | _, _ => .bad "call"
    | .builtin b => if plains ev c.args.toList then (match pureV P (execOp (evv ev) o) with
        | some v => .val (.v v)
        | none => match b with
          | .append => .sem (Builtin.append_ c.argTypes o.type (c.args.map (evv ev))) o.type
          | .copy => .sem (Builtin.copy_ c.argTypes o.type (c.args.map (evv ev))) o.type
          | .len => .sem (Builtin.len_ c.argTypes o.type (c.args.map (evv ev))) o.type
          | .delete => .sem (Builtin.delete_ c.argTypes o.type (c.args.map (evv ev))) o.type
          | _ => .bad "builtin")
      else (match b, evs ev c.args.toList with
        | .append, some xs => if AV.wfs (fun _ => false) xs then .sem (Builtin.append_ c.argTypes o.type (AV.gs id xs).toArray) o.type else .bad "append"
        | _, _ => .bad "builtin")
    | .invoke _ _ => .bad "invoke"
  | _ => .bad "operation"
end
end Go.Proofs.YtggemgbkkhpenaaW.Rx
