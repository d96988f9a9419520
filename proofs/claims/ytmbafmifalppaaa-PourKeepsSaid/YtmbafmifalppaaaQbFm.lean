/- Facts on the types of maps. -/
import Derived.Test.YtmbafmifalppaaaQbNp
set_option maxRecDepth 100000
set_option maxHeartbeats 1600000
set_option linter.unusedVariables false
set_option linter.unusedSimpArgs false
set_option linter.unnecessarySimpa false
namespace Go.Proofs.Ytmbafmifalppaaa
open Go Go.Fw Go.RowKit
theorem mk125 : mapIK Try.prog 125 = some 4 := by kernel_rfl
theorem mz4 : zvK Try.prog 4 = some (.bool false) := by kernel_rfl

end Go.Proofs.Ytmbafmifalppaaa
