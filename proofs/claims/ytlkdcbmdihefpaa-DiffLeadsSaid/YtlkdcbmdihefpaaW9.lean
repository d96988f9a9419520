/- Walks of functions that tell whether messages may be. -/
import Derived.Test.YtlkdcbmdihefpaaW3
import Derived.Test.YtlkdcbmdihefpaaW2
namespace Go.Proofs.Ytlkdcbmdihefpaa
open Go Go.Fw Go.RowKit
set_option maxRecDepth 100000
set_option maxHeartbeats 1600000
set_option linter.unusedVariables false
set_option linter.unusedSimpArgs false
set_option linter.unnecessarySimpa false

end Go.Proofs.Ytlkdcbmdihefpaa
