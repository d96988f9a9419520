/- Two things that container/heap can work with. -/
import Derived.Test.YtcngningbcaggaaQfNd
import Derived.Test.YtcngningbcaggaaQfH9
set_option maxRecDepth 100000
set_option maxHeartbeats 1600000
set_option linter.unusedVariables false
set_option linter.unusedSimpArgs false
set_option linter.unnecessarySimpa false
namespace Go.Proofs.Ytcngningbcaggaa
open Go Go.Fw Go.RowKit
attribute [local irreducible] Ok W WC

abbrev HeadsR (b : Nat) (Tb : TypeId) (G : GH) (l : List Hd) (M : MH) : Prop := (∀ h ∈ l, 0 < h.1.length) ∧ ∃ v Ms, M = (b, ce9 Tb [v]) :: Ms ∧ OwnR eHead 127 G v l Ms
abbrev HeadV (G : GH) (u : Value) (a : Hd) : Prop := (∃ p c, u = .iface 127 (.agg (List.toArray [lV p a.1.length c, iV a.2])) ∧ SlR eMsg G (lV p a.1.length c) a.1 ∧ i64 a.2) ∧ 0 < a.1.length
end Go.Proofs.Ytcngningbcaggaa
