/- Walks of functions that change maps. -/
import Derived.Test.YtcngningbcaggaaQgWa
import Derived.Test.YtcngningbcaggaaQgWb
import Derived.Test.YtcngningbcaggaaQgMi
set_option maxRecDepth 100000
set_option maxHeartbeats 1600000
set_option linter.unusedVariables false
set_option linter.unusedSimpArgs false
set_option linter.unnecessarySimpa false
namespace Go.Proofs.Ytcngningbcaggaa
open Go Go.Fw Go.RowKit
attribute [local irreducible] Ok W WC
theorem clonepo_fc {G : GH} {v_a : Value} {a : List Pair} (h_a : SlR ePair G v_a a) :
    Fc Try.prog 97 [v_a] G [] (fun v G' M' => OwnR ePair 68 G' v (a) M') := by
 obtain ⟨sa_a, sc_a, rfl⟩ := h_a.form
 have ha := h_a.bytes
 refine Fc.go [.tmp 2] Try.func97 Try.ntmps97 rfl (fun w0 => (g9 9 ?_))
 refine W.ok (ok_eqlNil sl31 rfl rfl) (g9 2 ?_)
 refine WC.cond rfl (fun h4 => ?_) (fun h4 => ?_)
 ·have hn := SlR.isNone h_a h4
  subst hn
  refine g9 8 ?_
  exact OwnR.nil
 refine g9 4 ?_
 refine W.lit0 (e := ePair) sl31 ty68 zr68 rfl (fun v1 Ms2 ho3 => (W.mv (W.app (e := ePair) sl31 ty68 zr68 rfl by68 rfl rfl (ho3) (h_a) pr9 (by simpa using ha) (fun v4 Ms5 ho6 => (g9 4 ?_)))))
 refine ⟨.inr rfl, [_], ⟨rfl, trivial⟩, Ms5, List.sublist_append_left _ _, ?_⟩
 have h := ho6
 rw [List.nil_append] at h
 exact h

end Go.Proofs.Ytcngningbcaggaa
