/- The example of chapter 25 is walked. -/
import Derived.Test.YtmbafmifalppaaaQaVe
set_option maxRecDepth 100000
set_option maxHeartbeats 1600000
set_option linter.unusedVariables false
set_option linter.unusedSimpArgs false
set_option linter.unnecessarySimpa false
namespace Go.Proofs.Ytmbafmifalppaaa
open Go Go.Fw Go.RowKit
def aw25 : Nd := ⟨0, 3, [], [], Str.nil, false, 0, 0, [], []⟩
theorem aw25_ok : aw25.Ok := ⟨⟨by decide, by decide⟩, ⟨by decide, by decide⟩, ⟨by decide, by decide⟩, ⟨by decide, by decide⟩⟩
theorem awk25_fc {G : GH}  :
    Fc Try.prog 31 [] G [] (fun v _ _ => v = .bool (true)) := by
 refine Fc.intro (rs := [.tmp 0]) cl31 Try.func31 rfl Try.ntmps31 rfl rfl (fun w0 => ?_)
 refine WC.seq (WC.region (W.as (W.nil (thn_n (WC.seq (WC.region (W.ok (ok_build (L := [.int .i64 _, .int .i64 _, .int .i64 _, .int .i64 _, .int .i64 _]) pl23 zr23 rfl rfl rfl) (W.call (Mp := []) (stnew_fc (4) (2) (36) (2) (0)) rfl pr9 ?_))))))))
 intro v4 G1 Ms3 hG1 q2
 refine Or.elim q2 (fun q5 => ?_) (fun q6 => ?_)
 ·refine match q5 with | ⟨hnc, e_7, e_8⟩ => ?_
  subst e_7
  subst e_8
  exact absurd ((by decide : CfgR (⟨4, 2, 36, 2, 0⟩ : Cfg))) hnc
 refine match q6 with | ⟨hC, bSt, e_9, hS9⟩ => ?_
 subst e_9
 refine W.mv (W.ok (ok_extract rfl rfl) (W.ok (ok_extract rfl rfl) (W.as (W.as (W.nil (thn_n (WC.seq (WC.region (W.mv (W.ok (ok_build (L := (nd9 _ _ _ _ _ _ _ _ _ _ _ _ _ _ _ _ _ _)) pl35 zr35 rfl rfl rfl) (W.call (Mp := Ms3) (ptake_fc hS9 (show NodeC _ _ aw25 from ⟨_, _, _, _, _, _, _, _, rfl, SlR.nil, SlR.nil, SlR.nil, SlR.nil, aw25_ok⟩)) rfl pr9 ?_)))))))))))
 intro v13 G10 Ms12 hG10 q11
 refine match q11 with | ⟨e_15, hR14⟩ => ?_
 subst e_15
 refine W.mv (W.ok (ok_extract rfl rfl) (W.ok (ok_extract rfl rfl) (W.as (W.as (W.nil (thn_n (WC.seq (WC.region (W.mv (W.ok (ok_build (L := (nd9 _ _ _ _ _ _ _ _ _ _ _ _ _ _ _ _ _ _)) pl35 zr35 rfl rfl rfl) (W.call (Mp := Ms12) (ptake_fc hR14 (show NodeC _ _ Nd.zero from ⟨_, _, _, _, _, _, _, _, rfl, SlR.nil, SlR.nil, SlR.nil, SlR.nil, Nd.zero_ok⟩)) rfl pr9 ?_)))))))))))
 intro v19 G16 Ms18 hG16 q17
 refine match q17 with | ⟨e_21, hR20⟩ => ?_
 subst e_21
 refine W.mv (W.ok (ok_extract rfl rfl) (W.ok (ok_extract rfl rfl) (W.as (W.as (W.nil (thn_n (WC.seq (WC.region (W.mv (W.call (Mp := Ms18) (pnode_fc hR20 _) rfl pr9 ?_))))))))))
 intro v25 G22 Ms24 hG22 q23
 refine match q23 with | ⟨⟨_, e_27, ⟨_, _, _, _, _, _, _, _, e_28, hp_hR26, hk_hR26, hm_hR26, hr_hR26, hok_hR26⟩⟩, eeq23⟩ => ?_
 subst e_27
 subst e_28
 have eeq23 := eeq23.symm
 subst eeq23
 refine W.mv (W.ok (ok_extract rfl rfl) (W.ok (ok_extract rfl rfl) (W.alloc zr35 (fun b29 => (W.store (i := 0) (vs := (nd9 _ _ _ _ _ _ _ _ _ _ _ _ _ _ _ _ _ _)) (L' := (nd9 _ _ _ _ _ _ _ _ _ _ _ _ _ _ _ _ _ _)) ty35 rfl rfl rfl rfl rfl rfl rfl rfl (W.as (W.nil (thn_n (WC.seq (WC.region (W.mv (W.ok (ok_eql rfl rfl) (W.mv (W.yes (dj := 33) rfl rfl rfl (W.mv ?_)))))))))))))))
 refine W.yes (dj := 33) rfl rfl rfl (W.ok (ok_eql rfl rfl) (W.ok (ok_pick_t rfl rfl) (W.mv ?_)))
 refine W.sp 37 rfl (fun h35 => ?_) (fun h35 => ?_)
 ·have p35 := of_decide_eq_true h35
  refine W.yes (dj := 37) rfl rfl h35 (W.mv (W.yes (dj := 37) rfl rfl h35 (W.ok (ok_eql rfl rfl) (W.ok (ok_pick_t rfl h35) (W.mv ?_)))))
  refine W.sp 41 rfl (fun h39 => ?_) (fun h39 => ?_)
  ·have p39 := of_decide_eq_true h39
   refine W.yes (dj := 41) rfl rfl h39 (W.mv (W.yes (dj := 41) rfl rfl h39 (W.ok (ok_eql rfl rfl) (W.ok (ok_pick_t rfl h39) (W.mv ?_)))))
   refine W.sp 45 rfl (fun h43 => ?_) (fun h43 => ?_)
   ·have p43 := of_decide_eq_true h43
    refine W.yes (dj := 45) rfl rfl h43 (W.mv (W.ok (ok_pick_t rfl h43) (W.mv ?_)))
    refine W.sp 48 rfl (fun hhashR26 => ?_) (fun hhashR26 => ?_)
    ·have phashR26 := of_decide_eq_true hhashR26
     refine W.yes (dj := 48) rfl rfl hhashR26 (W.ok (ok_fieldB fd35_1 rfl) (W.yes (dj := 48) rfl rfl hhashR26 (W.ok (ok_loadB (i := 0) (vs := [.int .i64 _]) ty3 rfl rfl rfl rfl (by simp)) (W.yes (dj := 48) rfl rfl hhashR26 (W.ok (ok_eql rfl rfl) (W.ok (ok_pick_t rfl hhashR26) (W.mv ?_)))))))
     refine W.sp 53 rfl (fun h51 => ?_) (fun h51 => ?_)
     ·have p51 := of_decide_eq_true h51
      refine W.yes (dj := 53) rfl rfl h51 (W.ok (ok_fieldB fd35_0 rfl) (W.yes (dj := 53) rfl rfl h51 (W.ok (ok_loadB (i := 0) (vs := [.int .i64 _]) ty3 rfl rfl rfl rfl (by simp)) (W.yes (dj := 53) rfl rfl h51 (W.ok (ok_eql rfl rfl) (W.ok (ok_pick_t rfl h51) (W.mv ?_)))))))
      refine W.sp 58 rfl (fun h56 => ?_) (fun h56 => ?_)
      ·have p56 := of_decide_eq_true h56
       refine W.yes (dj := 58) rfl rfl h56 (W.mv (W.yes (dj := 58) rfl rfl h56 (W.call (Mp := Ms18) (pused_fc (StR.mono hG22 hR20)) rfl (pmC pr9) ?_)))
       intro v33 G30 Ms32 hG30 q31
       refine match q31 with | ⟨e_35, eeq31⟩ => ?_
       subst e_35
       have eeq31 := eeq31.symm
       subst eeq31
       refine W.perm (pmC pr9).symm (W.yes (dj := 58) rfl rfl h56 (W.ok (ok_eql rfl rfl) (W.ok (ok_pick_t rfl h56) (W.as (W.nil (thn_n (WC.ret ?_)))))))
       refine ⟨.inr rfl, [_], ⟨rfl, trivial⟩, [], sn9, ?_⟩
       rfl
      have p56 := of_decide_eq_false h56
      exact absurd (show (getL (takeL 2 (takeL 2 [leafN 0] aw25).2 Nd.zero).2 1).slot = 1 from rfl) p56
     have p51 := of_decide_eq_false h51
     exact absurd (show (getL (takeL 2 (takeL 2 [leafN 0] aw25).2 Nd.zero).2 1).level = 3 from rfl) p51
    have phashR26 := of_decide_eq_false hhashR26
    exact absurd (show (0 : Int) ≤ 1 ∧ (1 : Int) < 2 from ⟨by decide, by decide⟩) phashR26
   have p43 := of_decide_eq_false h43
   exact absurd (show (takeL 2 (takeL 2 [leafN 0] aw25).2 Nd.zero).1.2 = 4 from rfl) p43
  have p39 := of_decide_eq_false h39
  exact absurd (show (takeL 2 [leafN 0] aw25).1.2 = 0 from rfl) p39
 have p35 := of_decide_eq_false h35
 exact absurd (show (takeL 2 [leafN 0] aw25).1.1 = 1 from rfl) p35

end Go.Proofs.Ytmbafmifalppaaa
