/- Where the first element stands that meets a test; deletion of elements in place. Plain Lean; nothing of the program is named here. No condition. -/
import Derived.Test.YtebkfinhhpelbaaGreatQuX3
set_option linter.unusedVariables false
set_option linter.unusedSimpArgs false
set_option linter.unnecessarySimpa false
namespace Go.Fw
section
variable {α : Type} {q : α → Bool} {l m : List α}
def idxN (q : α → Bool) (l : List α) : Int := match l.findIdx? q with
  | some i => i
  | none => -1
end
end Go.Fw
