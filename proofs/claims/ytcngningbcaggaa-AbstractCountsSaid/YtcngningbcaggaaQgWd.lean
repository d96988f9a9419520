/- Walks of maps behind messages. -/
import Derived.Test.YtcngningbcaggaaQgWc
set_option maxRecDepth 100000
set_option maxHeartbeats 1600000
set_option linter.unusedVariables false
set_option linter.unusedSimpArgs false
set_option linter.unnecessarySimpa false
namespace Go.Proofs.Ytcngningbcaggaa
open Go Go.Fw Go.RowKit
attribute [local irreducible] Ok W WC
theorem mwithout_fc {G : GH} {v_l : Value} {l : List Pair} (h_l : SlR ePair G v_l l) (slo : Str) (shi : Str) (so : Bool) :
    Fc Try.prog 117 [v_l, .agg #[sV slo.b, sV shi.b, .bool so]] G [] (fun v G' M' => M' = [] ∧ ∃ u0, v = u0 ∧ SlR ePair G' u0 (l.filter (fun p : Pair => !Span.has ⟨slo, shi, so⟩ p.key))) := by
 obtain ⟨sa_l, sc_l, rfl⟩ := h_l.form
 refine Fc.go [.tmp 4] Try.func117 Try.ntmps117 rfl (fun w0 => (g9 2 ?_))
 refine W.box (L := [sV _, sV _, .bool _]) rfl rfl (fun b1 => (g9 6 ?_))
 refine W.call (Mp := []) (clonepo_fc h_l) rfl pr9 ?_
 rintro v3 G2 Ms4 hG2 ho5
 refine W.perm (pmC pr9).symm (W.giveB (b := b1) (L := [sV _, sV _, .bool _]) pr9 (fun G6 hG6 hc6 => (W.ok (ok_makeFn (fst := []) (caps := [.tmp 3]) (vs := []) (ws := [pt9 b1]) rfl rfl) (W.call (Mp := Ms4) (dfp_fc (ho5.mono hG6) _ _ _ hc6) rfl pr9 ?_))))
 rintro v8 G7 Ms9 hG7 ho10
 refine g9 3 ?_
 refine WC.giveO ho10 pr9 (fun G11 hG11 hv11 => (g9 2 ?_))
 refine ⟨rfl, _, rfl, ?_⟩
 · exact hv11

end Go.Proofs.Ytcngningbcaggaa
