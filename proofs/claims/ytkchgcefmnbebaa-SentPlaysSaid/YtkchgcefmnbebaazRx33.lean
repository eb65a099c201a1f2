import Derived.Test.YtkchgcefmnbebaazRx32
import Derived.Defers
import Derived.Recover
namespace Go.Proofs.YtkchgcefmnbebaaW.Rx
open Go Go.RowKit
set_option linter.unusedVariables false
section
variable {α : Type} {P : Program} {Q : Ending → World → Prop} {pin : List (Nat × Nat)} {J : Jt} {Lu : Nat → Prop} {wu : World}
variable {S : Nat → Prop} {w0 : World}
end
section
variable {P : Program} {R : Ending → World → Prop} {w : World}
def endX (e : XE) : XT := match e with
 | .exit _ => .bad "exit"
 | _ => .done (.tup []) []
end
end Go.Proofs.YtkchgcefmnbebaaW.Rx
