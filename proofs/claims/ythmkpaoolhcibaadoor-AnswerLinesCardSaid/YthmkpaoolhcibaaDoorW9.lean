/- Walks of functions that tell whether messages may be. -/
import Derived.Test.YthmkpaoolhcibaaDoorW3
import Derived.Test.YthmkpaoolhcibaaDoorW2
namespace Go.Proofs.YthmkpaoolhcibaaDoor
open Go Go.Fw Go.RowKit
set_option maxRecDepth 100000
set_option maxHeartbeats 1600000
set_option linter.unusedVariables false
set_option linter.unusedSimpArgs false
set_option linter.unnecessarySimpa false

end Go.Proofs.YthmkpaoolhcibaaDoor
