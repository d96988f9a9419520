/- Facts on the types of maps. -/
import Derived.Test.YtcngningbcaggaaQgFt
import Derived.Test.YtcngningbcaggaaQgNr
set_option maxRecDepth 100000
set_option maxHeartbeats 1600000
set_option linter.unusedVariables false
set_option linter.unusedSimpArgs false
set_option linter.unnecessarySimpa false
namespace Go.Proofs.Ytcngningbcaggaa
open Go Go.Fw Go.RowKit
theorem mk71 : mapIK Try.prog 71 = some 35 := by kernel_rfl
theorem mz35 : zvK Try.prog 35 = some (.agg #[.int .i64 0, .int .i64 0, .slice none 0 0, .slice none 0 0, .string ⟨#[]⟩, .bool false, .int .i64 0, .int .i64 0, .slice none 0 0, .slice none 0 0]) := by kernel_rfl
theorem mk86 : mapIK Try.prog 86 = some 4 := by kernel_rfl
theorem mz4 : zvK Try.prog 4 = some (.bool false) := by kernel_rfl

end Go.Proofs.Ytcngningbcaggaa
