/- Walks of what a key has behind messages. -/
import Derived.Test.YthmkpaoolhcibaaDoorW5
namespace Go.Proofs.YthmkpaoolhcibaaDoor
open Go Go.Fw Go.RowKit
set_option maxRecDepth 100000
set_option maxHeartbeats 1600000
set_option linter.unusedVariables false
set_option linter.unusedSimpArgs false
set_option linter.unnecessarySimpa false

end Go.Proofs.YthmkpaoolhcibaaDoor
