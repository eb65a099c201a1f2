import Derived.Test.YtdjeadgebcndeaazWWords
import Derived.Test.YtdjeadgebcndeaazWLast
import Derived.Lib.SlBytesConst
namespace Go.Proofs.YtdjeadgebcndeaaW.Aid
open Go.RowKit Go.Proofs.YtdjeadgebcndeaaW.PrintWords
set_option linter.unusedVariables false
end Go.Proofs.YtdjeadgebcndeaaW.Aid
