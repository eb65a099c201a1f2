import Derived.Test.YtkchgcefmnbebaazWWords
import Derived.Test.YtkchgcefmnbebaazWLast
import Derived.Test.YtkchgcefmnbebaazWWords
import Derived.Test.YtkchgcefmnbebaazWLast
import Derived.Test.YtkchgcefmnbebaazWApart
import Derived.Test.YtkchgcefmnbebaazWApart
import Derived.Test.YtkchgcefmnbebaazWWords
import Derived.Test.YtkchgcefmnbebaazWFoot
import Derived.Test.YtkchgcefmnbebaazWKept
import Derived.Test.YtkchgcefmnbebaazWN
namespace Go.Proofs.YtkchgcefmnbebaaW.PrintMore
open Go.RowKit Go.Proofs.YtkchgcefmnbebaaW.PrintWords
namespace Kd
open Go.Proofs.YtkchgcefmnbebaaW.PrintWords.Kd
end Kd
namespace Kd
open Go.Proofs.YtkchgcefmnbebaaW.PrintWords.Kd
section
variable {α : Type} {d : Kd α} {e base g N : Nat} {ok : Nat → Prop} {W w1 : World} {u v : Value} {xs : List α}
end
end Kd
end Go.Proofs.YtkchgcefmnbebaaW.PrintMore
namespace Go.Proofs.YtkchgcefmnbebaaW.PrintWords
open Go.RowKit
section
variable {P : Program} {ops : Array Oper} {rest : List Oper} {o : Oper} {a : Act} {Q : Exit → Act → World → Prop} {W : World}
theorem gate_builtin {b : Builtin} {xs : Array Operand} {ts : Array TypeId} (_ho : o.op = .call { callee := .builtin b, args := xs, argTypes := ts }) (h : wpList P ops Q (o :: rest) a W) : wpList P ops Q (o :: rest) a W := h
end
def mx (a b : Int) : Int := if a < b then b else a
def shl (k : IntKind) (x y : Int) : Int := k.wrap (x * 2 ^ min y.toNat k.bits)
def shr (k : IntKind) (x y : Int) : Int := x / 2 ^ min y.toNat k.bits
namespace Kd
section
variable {α : Type} {d : Kd α} {e base : Nat} {ok : Nat → Prop} {W w1 : World} {v : Value} {xs : List α}
end
section
variable {α : Type} {d : Kd α} {e base g n cap : Nat} {ok oki okp : Nat → Prop} {W : World} {xs : List α} {i : Int} {c : List Value}
end
section
variable {α : Type} {d : Kd α} {e base b b' g N : Nat} {ok ok1 : Nat → Prop} {W W2 w1 : World} {u v : Value} {xs ys : List α} {S : Nat → Prop}
end
end Kd
end Go.Proofs.YtkchgcefmnbebaaW.PrintWords
namespace Go.Proofs.YtkchgcefmnbebaaW.PrintWords
open Go.RowKit
namespace Kd
def V {α : Type} (d : Kd α) (_e : Nat) (W : World) (_base : Nat) (ok : Nat → Prop) (v : Value) (xs : List α) : Prop := ∃ A c, v = .slice A xs.length c ∧ xs.length ≤ c ∧ F d W ok A xs.length xs
section
variable {α β : Type} {d : Kd α} {e base base' n m c g N' lo hi : Nat} {ok ok' S : Nat → Prop} {w W w1 : World} {A : Option Addr} {ad : Addr} {u v v1 : Value} {xs : List α}
end
end Kd
end Go.Proofs.YtkchgcefmnbebaaW.PrintWords
