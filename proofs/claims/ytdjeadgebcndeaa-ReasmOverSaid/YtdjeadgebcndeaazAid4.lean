import Derived.Test.YtdjeadgebcndeaazAid
import Derived.ArgAppend
import Derived.Laws.MakeOwn
namespace Go.Proofs.YtdjeadgebcndeaaW.Aid
open Go.RowKit Go.Proofs.YtdjeadgebcndeaaW.PrintWords
set_option linter.unusedVariables false
section
variable {P : Program}
theorem madeZeros (n : Nat) : madeCells #[Value.int .u8 0] n = (List.replicate n (Value.int .u8 0)).toArray := by
 apply Array.ext
 ·simp [size_madeCells]
 ·intro i h1 h2
  simp [madeCells, Nat.mod_one]
end
end Go.Proofs.YtdjeadgebcndeaaW.Aid
