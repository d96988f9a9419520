/- What container/heap asks of a heap, and what it does with it. Nothing of the program is named here. No condition. -/
import Derived.Test.YtcngningbcaggaaQfX3
set_option linter.unusedVariables false
set_option linter.unusedSimpArgs false
set_option linter.unnecessarySimpa false

namespace Go.Fw
open Go Go.RowKit
structure HeapK (P : Program) {α : Type} [Inhabited α] (lt : α → α → Bool) (x : Value) (Rep : GH → List α → MH → Prop) (EV : GH → Value → α → Prop) (pu : Prop := True) : Prop where
 mono : ∀ {G G' l M}, Le G G' → Rep G l M → Rep G' l M
 bound : ∀ {G l M}, Rep G l M → l.length ≤ 140737488355328
 len : ∀ {G l M}, Rep G l M → Inv P x "Len" [] G M (fun v G' M' => v = .int .i64 (l.length : Int) ∧ M' = M)
 less : ∀ {G l M} {i j : Nat}, Rep G l M → i < l.length → j < l.length → Inv P x "Less" [.int .i64 (i : Int), .int .i64 (j : Int)] G M (fun v G' M' => v = .bool (lt (nth l i) (nth l j)) ∧ M' = M)
 swap : ∀ {G l M} {i j : Nat}, Rep G l M → i < l.length → j < l.length → Inv P x "Swap" [.int .i64 (i : Int), .int .i64 (j : Int)] G M (fun v G' M' => v = .tuple #[] ∧ Rep G' (swapL l i j) M')
 push : pu → ∀ {G l M u a}, Rep G l M → l.length < 1000000 → EV G u a → Inv P x "Push" [u] G M (fun v G' M' => v = .tuple #[] ∧ Rep G' (l ++ [a]) M')
 pop : ∀ {G l M}, Rep G l M → 0 < l.length → Inv P x "Pop" [] G M (fun v G' M' => EV G' v (nth l (l.length - 1)) ∧ Rep G' (l.take (l.length - 1)) M')
section
variable {α : Type} [Inhabited α] {lt : α → α → Bool}
end
end Go.Fw
