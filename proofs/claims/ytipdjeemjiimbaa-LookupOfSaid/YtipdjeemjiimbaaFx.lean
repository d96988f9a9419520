/- A number's other form. Nothing of the program is named here. No condition. -/
import Derived.Test.YtipdjeemjiimbaaFv
set_option linter.unusedVariables false
set_option linter.unusedSimpArgs false
set_option linter.unnecessarySimpa false
namespace Go.Fw
open Go
theorem Ok.int {E : Env} {f : Fr} {G : GH} {M : MH} {o : Oper} {k : IntKind} {m n : Int} (h : Ok E f G M o (.int k m)) (e : m = n) : Ok E f G M o (.int k n) := e ▸ h
end Go.Fw
