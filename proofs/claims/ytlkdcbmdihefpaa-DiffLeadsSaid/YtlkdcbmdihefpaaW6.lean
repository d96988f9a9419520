/- Walks of functions on rows, by definition. -/
import Derived.Test.YtlkdcbmdihefpaaW5
namespace Go.Proofs.Ytlkdcbmdihefpaa
open Go Go.Fw Go.RowKit
set_option maxRecDepth 100000
set_option maxHeartbeats 1600000
set_option linter.unusedVariables false
set_option linter.unusedSimpArgs false
set_option linter.unnecessarySimpa false

end Go.Proofs.Ytlkdcbmdihefpaa
