/- Nodes that are laid into a store one behind the other. Plain Lean; nothing of the program is named here. No condition. -/
import Derived.Test.YtcngningbcaggaaQgNh
set_option linter.unusedVariables false
set_option linter.unusedSimpArgs false
set_option linter.unnecessarySimpa false

namespace Go.Fw
open Go Go.RowKit
def placedF (i : Int) : List Nd → Bool
 | [] => true
 | n :: l => decide (n.slot = i) && placedF (i + 1) l
def ldN (l : List Nd) (k : Nat) : List Nd := if k = 0 then [leafN 0] else l.take k
end Go.Fw
