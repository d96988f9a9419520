/- Nodes that are laid into a store one behind the other. Plain Lean; nothing of the program is named here. No condition. -/
import Derived.Test.YtmbafmifalppaaaQaNh
set_option linter.unusedVariables false
set_option linter.unusedSimpArgs false
set_option linter.unnecessarySimpa false

namespace Go.Fw
open Go Go.RowKit
theorem leafN_ok {s : Int} (hs : i64 s) : (leafN s).Ok := ⟨hs, ⟨by show (-9223372036854775808 : Int) ≤ 0; omega, by show (0 : Int) ≤ 9223372036854775807; omega⟩, ⟨by show (-9223372036854775808 : Int) ≤ -1; omega, by show (-1 : Int) ≤ 9223372036854775807; omega⟩, ⟨by show (-9223372036854775808 : Int) ≤ 0; omega, by show (0 : Int) ≤ 9223372036854775807; omega⟩⟩
theorem pick_first {n : Nat} (h : 0 < n) : arOf n [] = arOf n [] ∧ takeL n [] (leafN 0) = ((0, 0), [leafN 0]) := ⟨rfl, by rw [takeL_t (by simpa using h)]; rfl⟩
def placedF (i : Int) : List Nd → Bool
 | [] => true
 | n :: l => decide (n.slot = i) && placedF (i + 1) l
def ldN (l : List Nd) (k : Nat) : List Nd := if k = 0 then [leafN 0] else l.take k
end Go.Fw
