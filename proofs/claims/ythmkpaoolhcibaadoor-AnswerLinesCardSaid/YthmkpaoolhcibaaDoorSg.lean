/- The law AnswerLines is walked. -/
import Derived.Test.YthmkpaoolhcibaaDoorSf
namespace Go.Proofs.YthmkpaoolhcibaaDoor
open Go Go.Fw Go.RowKit
set_option maxRecDepth 100000
set_option maxHeartbeats 1600000
set_option linter.unusedVariables false
set_option linter.unusedSimpArgs false
set_option linter.unnecessarySimpa false
theorem answerLines_fc {G : GH} (pk : Int) (pkey : Str) (phi : Str) (po : Bool) (pv : Str) (pl : Int) {cs_a : List Value} {a : Ans} (h_a : AnsC G cs_a a) {cs_b : List Value} {b : Ans} (h_b : AnsC G cs_b b) (hT : TabG Tryd.prog G) :
    Fc Tryd.prog 3 [.agg #[.int .i64 pk, .string pkey.b, .string phi.b, .bool po, .string pv.b, .int .i64 pl], .agg (List.toArray cs_a), .agg (List.toArray cs_b)] G [] (fun v _ _ => v = .bool (true)) := by
 obtain ⟨pa_a, pc_a, rfl, hw_a, hok_a⟩ := h_a
 obtain ⟨pa_b, pc_b, rfl, hw_b, hok_b⟩ := h_b
 have hla := hw_a.len47
 have hlb := hw_b.len47
 refine Fc.intro (rs := [.tmp 6]) cl3 Tryd.func3 rfl Tryd.ntmps3 rfl rfl (fun w0 => ?_)
 refine WC.seq ?_
 refine WC.region ?_
 refine W.box (L := [.int .i64 _, .string _, .string _, .bool _, .string _, .int .i64 _]) rfl rfl (fun b1 => ?_)
 refine W.box (L := [.int .i64 _, .bool _, .string _, .slice _ _ _]) rfl rfl (fun b2 => ?_)
 refine W.box (L := [.int .i64 _, .bool _, .string _, .slice _ _ _]) rfl rfl (fun b3 => ?_)
 refine W.as ?_
 refine W.nil (thn_n ?_)
 refine WC.seq ?_
 refine WC.seq ?_
 refine WC.region ?_
 refine W.ok (ok_fieldB fd27_3 rfl) ?_
 refine W.ok (ok_loadB (i := 1) (vs := [.slice _ _ _]) ty25 rfl rfl rfl rfl (by simp)) ?_
 refine W.qcall (longp_fc hw_a _ (by omega)) rfl ?_
 refine W.ok (ok_not rfl) ?_
 refine W.mv ?_
 refine W.sp 11 rfl (fun h10 => ?_) (fun h10 => ?_)
 ·refine W.no (dj := 11) rfl rfl h10 ?_
  refine W.no (dj := 11) rfl rfl h10 ?_
  refine W.no (dj := 11) rfl rfl h10 ?_
  refine W.no (dj := 11) rfl rfl h10 ?_
  refine W.ok (ok_pick_t rfl h10) ?_
  refine W.mv ?_
  refine W.no (dj := 17) rfl rfl rfl ?_
  refine W.no (dj := 17) rfl rfl rfl ?_
  refine W.no (dj := 17) rfl rfl rfl ?_
  refine W.no (dj := 17) rfl rfl rfl ?_
  refine W.ok (ok_pick_t rfl rfl) ?_
  refine W.mv ?_
  refine W.no (dj := 23) rfl rfl rfl ?_
  refine W.no (dj := 23) rfl rfl rfl ?_
  refine W.no (dj := 23) rfl rfl rfl ?_
  refine W.no (dj := 23) rfl rfl rfl ?_
  refine W.ok (ok_pick_t rfl rfl) ?_
  refine W.nil (thn_n ?_)
  refine WC.cond_t rfl rfl ?_
  refine WC.seq ?_
  refine WC.region ?_
  refine W.qcall (awake10_fc) rfl ?_
  refine W.as ?_
  refine W.nil (thn_n ?_)
  refine WC.ret (thn_r ?_)
  refine ⟨.inr rfl, [_], ⟨rfl, trivial⟩, [], List.nil_sublist _, ?_⟩
  rfl
 ·refine W.yes (dj := 11) rfl rfl h10 ?_
  refine W.ok (ok_fieldB fd27_3 rfl) ?_
  refine W.yes (dj := 11) rfl rfl h10 ?_
  refine W.ok (ok_loadB (i := 0) (vs := [.slice _ _ _]) ty25 rfl rfl rfl rfl (by simp)) ?_
  refine W.yes (dj := 11) rfl rfl h10 ?_
  refine W.qcall (longp_fc hw_b _ (by omega)) rfl ?_
  refine W.yes (dj := 11) rfl rfl h10 ?_
  refine W.ok (ok_not rfl) ?_
  refine W.ok (ok_pick_f rfl h10) ?_
  refine W.mv ?_
  refine W.sp 17 rfl (fun h15 => ?_) (fun h15 => ?_)
  ·refine W.no (dj := 17) rfl rfl h15 ?_
   refine W.no (dj := 17) rfl rfl h15 ?_
   refine W.no (dj := 17) rfl rfl h15 ?_
   refine W.no (dj := 17) rfl rfl h15 ?_
   refine W.ok (ok_pick_t rfl h15) ?_
   refine W.mv ?_
   refine W.no (dj := 23) rfl rfl rfl ?_
   refine W.no (dj := 23) rfl rfl rfl ?_
   refine W.no (dj := 23) rfl rfl rfl ?_
   refine W.no (dj := 23) rfl rfl rfl ?_
   refine W.ok (ok_pick_t rfl rfl) ?_
   refine W.nil (thn_n ?_)
   refine WC.cond_t rfl rfl ?_
   refine WC.seq ?_
   refine WC.region ?_
   refine W.qcall (awake10_fc) rfl ?_
   refine W.as ?_
   refine W.nil (thn_n ?_)
   refine WC.ret (thn_r ?_)
   refine ⟨.inr rfl, [_], ⟨rfl, trivial⟩, [], List.nil_sublist _, ?_⟩
   rfl
  ·refine W.yes (dj := 17) rfl rfl h15 ?_
   refine W.ok (ok_fieldB fd27_2 rfl) ?_
   refine W.yes (dj := 17) rfl rfl h15 ?_
   refine W.ok (ok_loadB (i := 1) (vs := [.string _]) ty9 rfl rfl rfl rfl (by simp)) ?_
   refine W.yes (dj := 17) rfl rfl h15 ?_
   refine W.ok (ok_lenS st9 rfl) ?_
   refine W.yes (dj := 17) rfl rfl h15 ?_
   refine W.ok (ok_gtr rfl rfl) ?_
   refine W.ok (ok_pick_f rfl h15) ?_
   refine W.mv ?_
   refine W.sp 23 rfl (fun h21 => ?_) (fun h21 => ?_)
   ·have p21 := of_decide_eq_true h21
    refine W.no (dj := 23) rfl rfl h21 ?_
    refine W.no (dj := 23) rfl rfl h21 ?_
    refine W.no (dj := 23) rfl rfl h21 ?_
    refine W.no (dj := 23) rfl rfl h21 ?_
    refine W.ok (ok_pick_t rfl h21) ?_
    refine W.nil (thn_n ?_)
    refine WC.cond_t rfl rfl ?_
    refine WC.seq ?_
    refine WC.region ?_
    refine W.qcall (awake10_fc) rfl ?_
    refine W.as ?_
    refine W.nil (thn_n ?_)
    refine WC.ret (thn_r ?_)
    refine ⟨.inr rfl, [_], ⟨rfl, trivial⟩, [], List.nil_sublist _, ?_⟩
    rfl
   ·have p21 := of_decide_eq_false h21
    refine W.yes (dj := 23) rfl rfl h21 ?_
    refine W.ok (ok_fieldB fd27_2 rfl) ?_
    refine W.yes (dj := 23) rfl rfl h21 ?_
    refine W.ok (ok_loadB (i := 0) (vs := [.string _]) ty9 rfl rfl rfl rfl (by simp)) ?_
    refine W.yes (dj := 23) rfl rfl h21 ?_
    refine W.ok (ok_lenS st9 rfl) ?_
    refine W.yes (dj := 23) rfl rfl h21 ?_
    refine W.ok (ok_gtr rfl rfl) ?_
    refine W.ok (ok_pick_f rfl h21) ?_
    refine W.nil (thn_n ?_)
    refine WC.cond (b := _) rfl (fun h27 => ?_) (fun h27 => ?_)
    ·have p27 := of_decide_eq_true h27
     refine WC.seq ?_
     refine WC.region ?_
     refine W.qcall (awake10_fc) rfl ?_
     refine W.as ?_
     refine W.nil (thn_n ?_)
     refine WC.ret (thn_r ?_)
     refine ⟨.inr rfl, [_], ⟨rfl, trivial⟩, [], List.nil_sublist _, ?_⟩
     rfl
    ·have p27 := of_decide_eq_false h27
     have hza : SzA a := SzA.of (by simpa using h10) (by omega)
     have hzb : SzA b := SzA.of (by simpa using h15) (by omega)
     refine WC.skip (thn_n ?_)
     refine WC.seq ?_
     refine WC.draw mix (by kernel_rfl) ?_
     refine W.ok (ok_loadB (i := 2) (vs := [.int .i64 _, .string _, .string _, .bool _, .string _, .int .i64 _]) ty23 rfl rfl rfl rfl (by simp)) ?_
     refine W.ok (ok_loadB (i := 1) (vs := [.int .i64 _, .bool _, .string _, .slice _ _ _]) ty27 rfl rfl rfl rfl (by simp)) ?_
     refine W.qcall (aline_fc pk pkey phi po pv pl (show AnsC _ _ a from ⟨_, _, rfl, hw_a, hok_a⟩) hT hza) rfl ?_
     refine W.ok (ok_loadB (i := 2) (vs := [.int .i64 _, .string _, .string _, .bool _, .string _, .int .i64 _]) ty23 rfl rfl rfl rfl (by simp)) ?_
     refine W.ok (ok_loadB (i := 1) (vs := [.int .i64 _, .bool _, .string _, .slice _ _ _]) ty27 rfl rfl rfl rfl (by simp)) ?_
     refine W.qcall (rline_fc pk pkey phi po pv pl (show AnsC _ _ a from ⟨_, _, rfl, hw_a, hok_a⟩) hT hza) rfl ?_
     refine W.ok (ok_eqlS rfl rfl) ?_
     refine W.mv ?_
     refine W.sp 37 rfl (fun h36 => ?_) (fun h36 => ?_)
     ·have p36 := of_decide_eq_true h36
      refine W.yes (dj := 37) rfl rfl h36 ?_
      refine W.ok (ok_loadB (i := 1) (vs := [.int .i64 _, .bool _, .string _, .slice _ _ _]) ty27 rfl rfl rfl rfl (by simp)) ?_
      refine W.yes (dj := 37) rfl rfl h36 ?_
      refine W.ok (ok_loadB (i := 0) (vs := [.int .i64 _, .bool _, .string _, .slice _ _ _]) ty27 rfl rfl rfl rfl (by simp)) ?_
      refine W.yes (dj := 37) rfl rfl h36 ?_
      refine W.qcall (asame_fc (show AnsC _ _ a from ⟨_, _, rfl, hw_a, hok_a⟩) (show AnsC _ _ b from ⟨_, _, rfl, hw_b, hok_b⟩)) rfl ?_
      refine W.yes (dj := 37) rfl rfl h36 ?_
      refine W.ok (ok_loadB (i := 1) (vs := [.int .i64 _, .bool _, .string _, .slice _ _ _]) ty27 rfl rfl rfl rfl (by simp)) ?_
      refine W.yes (dj := 37) rfl rfl h36 ?_
      refine W.ok (ok_loadB (i := 0) (vs := [.int .i64 _, .bool _, .string _, .slice _ _ _]) ty27 rfl rfl rfl rfl (by simp)) ?_
      refine W.yes (dj := 37) rfl rfl h36 ?_
      refine W.qcall (ranssame_fc (show AnsC _ _ a from ⟨_, _, rfl, hw_a, hok_a⟩) (show AnsC _ _ b from ⟨_, _, rfl, hw_b, hok_b⟩)) rfl ?_
      refine W.yes (dj := 37) rfl rfl h36 ?_
      refine W.ok (ok_eqlB bo4 rfl rfl) ?_
      refine W.ok (ok_pick_t rfl h36) ?_
      refine W.mv ?_
      refine W.sp 46 rfl (fun h44 => ?_) (fun h44 => ?_)
      ·refine W.yes (dj := 46) rfl rfl h44 ?_
       refine W.ok (ok_loadB (i := 0) (vs := [.int .i64 _, .bool _, .string _, .slice _ _ _]) ty27 rfl rfl rfl rfl (by simp)) ?_
       refine W.yes (dj := 46) rfl rfl h44 ?_
       refine W.ok (ok_loadB (i := 1) (vs := [.int .i64 _, .bool _, .string _, .slice _ _ _]) ty27 rfl rfl rfl rfl (by simp)) ?_
       refine W.yes (dj := 46) rfl rfl h44 ?_
       refine W.qcall (asame_fc (show AnsC _ _ b from ⟨_, _, rfl, hw_b, hok_b⟩) (show AnsC _ _ a from ⟨_, _, rfl, hw_a, hok_a⟩)) rfl ?_
       refine W.yes (dj := 46) rfl rfl h44 ?_
       refine W.ok (ok_loadB (i := 1) (vs := [.int .i64 _, .bool _, .string _, .slice _ _ _]) ty27 rfl rfl rfl rfl (by simp)) ?_
       refine W.yes (dj := 46) rfl rfl h44 ?_
       refine W.ok (ok_loadB (i := 0) (vs := [.int .i64 _, .bool _, .string _, .slice _ _ _]) ty27 rfl rfl rfl rfl (by simp)) ?_
       refine W.yes (dj := 46) rfl rfl h44 ?_
       refine W.qcall (ranssame_fc (show AnsC _ _ a from ⟨_, _, rfl, hw_a, hok_a⟩) (show AnsC _ _ b from ⟨_, _, rfl, hw_b, hok_b⟩)) rfl ?_
       refine W.yes (dj := 46) rfl rfl h44 ?_
       refine W.ok (ok_eqlB bo4 rfl rfl) ?_
       refine W.ok (ok_pick_t rfl h44) ?_
       refine W.mv ?_
       refine W.sp 55 rfl (fun h53 => ?_) (fun h53 => ?_)
       ·refine W.yes (dj := 55) rfl rfl h53 ?_
        refine W.qcall (awake10_fc) rfl ?_
        refine W.ok (ok_pick_t rfl h53) ?_
        refine W.as ?_
        refine W.nil (thn_n ?_)
        refine WC.ret ?_
        refine ⟨.inr rfl, [_], ⟨rfl, trivial⟩, [], List.nil_sublist _, ?_⟩
        rfl
       ·simp [eq_comm] at h53
      ·simp at h44
     ·have p36 := of_decide_eq_false h36
      exact absurd rfl p36

end Go.Proofs.YthmkpaoolhcibaaDoor
