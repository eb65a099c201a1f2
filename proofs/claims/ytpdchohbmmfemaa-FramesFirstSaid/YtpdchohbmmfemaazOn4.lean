import Derived.Test.YtpdchohbmmfemaazOn3
import Derived.Test.YtpdchohbmmfemaazDc5
namespace Go.Proofs.Ytpdchohbmmfemaa.X
open Go Go.RowKit Go.Proofs.YtpdchohbmmfemaaW.Rx
set_option linter.unusedVariables false
end Go.Proofs.Ytpdchohbmmfemaa.X
