import Derived.Test.YtpdchohbmmfemaazRxU
import Derived.Test.YtpdchohbmmfemaazRxSeat
import Derived.Test.YtpdchohbmmfemaaProg
import Derived.Test.YtpdchohbmmfemaazFe
namespace Go.Proofs.Ytpdchohbmmfemaa.X
open Go Go.RowKit Go.Proofs.YtpdchohbmmfemaaW.Rx
set_option linter.unusedVariables false
set_option linter.unusedSimpArgs false
set_option maxRecDepth 10000
end Go.Proofs.Ytpdchohbmmfemaa.X
