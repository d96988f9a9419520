/- Walks of rows with a bound, and of leaves. -/
import Derived.Test.YthmkpaoolhcibaaDoorWd
namespace Go.Proofs.YthmkpaoolhcibaaDoor
open Go Go.Fw Go.RowKit
set_option maxRecDepth 100000
set_option maxHeartbeats 1600000
set_option linter.unusedVariables false
set_option linter.unusedSimpArgs false
set_option linter.unnecessarySimpa false

end Go.Proofs.YthmkpaoolhcibaaDoor
