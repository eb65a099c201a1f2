import Derived.Test.YtkchgcefmnbebaazRx33
namespace Go.Proofs.YtkchgcefmnbebaaW.Rx
open Go Go.RowKit
set_option linter.unusedVariables false
set_option linter.unusedSimpArgs false
variable {P : Program} {pin : List (Nat × Nat)} {R : Ending → World → Prop} {N : NL}
variable {ρ : Nat → Nat} {s : ASt} {a : Act} {w : World}
variable {A : Nat → LA} {C : Nat → Option LA} {KS pk : List Nat} {drawX : Nat → Array Oper → ASt → (ASt → XT) → XT}
def treeMid (P : Program) (A : Nat → LA) (C : Nat → Option LA) (fn : Func) (c : Code) (args : List AV) (out : Out) : XT :=
 X P ⟨fn.ntmps, 0⟩ A C (out.map (·.1) ++ codeKeys c) (out.map (·.1)) (Rx.drawX P ⟨fn.ntmps, 0⟩) c 0 (startX args fn.ntmps out) (leaveX P fn (out.map (·.1)))
end Go.Proofs.YtkchgcefmnbebaaW.Rx
