/- Walks of nodes that are one, and of nodes that are loaded. -/
import Derived.Test.YtjbbookmgohamaaU4
import Derived.Test.YtjbbookmgohamaaW9
namespace Go.Proofs.Ytjbbookmgohamaa
open Go Go.Fw Go.RowKit
set_option maxRecDepth 100000
set_option maxHeartbeats 1600000
set_option linter.unusedVariables false
set_option linter.unusedSimpArgs false
set_option linter.unnecessarySimpa false
theorem nsame3_fc {G : GH} {cs_a : List Value} {a : Nd} (h_a : NodeC G cs_a a) {cs_b : List Value} {b : Nd} (h_b : NodeC G cs_b b) :
    Fc Try.prog 54 [.agg (List.toArray cs_a), .agg (List.toArray cs_b)] G [] (fun v _ _ => v = .bool (decide (a = b))) := by
 obtain ⟨pa_a, pc_a, ka_a, kc_a, ma_a, mc_a, ra_a, rc_a, rfl, hp_a, hk_a, hm_a, hr_a, hok_a⟩ := h_a
 obtain ⟨pa_b, pc_b, ka_b, kc_b, ma_b, mc_b, ra_b, rc_b, rfl, hp_b, hk_b, hm_b, hr_b, hok_b⟩ := h_b
 refine Fc.intro (rs := [.tmp 4]) cl54 Try.func54 rfl Try.ntmps54 rfl rfl (fun w0 => ?_)
 refine WC.seq ?_
 refine WC.region ?_
 refine W.box (L := [.int .i64 _, .int .i64 _, .slice _ _ _, .slice _ _ _, .string _, .bool _, .int .i64 _, .int .i64 _, .slice _ _ _, .slice _ _ _]) rfl rfl (fun b1 => ?_)
 refine W.box (L := [.int .i64 _, .int .i64 _, .slice _ _ _, .slice _ _ _, .string _, .bool _, .int .i64 _, .int .i64 _, .slice _ _ _, .slice _ _ _]) rfl rfl (fun b2 => ?_)
 refine W.as ?_
 refine W.nil (thn_n ?_)
 refine WC.seq ?_
 refine WC.seq ?_
 refine WC.region ?_
 refine W.ok (ok_fieldB fd35_0 rfl) ?_
 refine W.ok (ok_loadB (i := 1) (vs := [.int .i64 _]) ty3 rfl rfl rfl rfl (by simp)) ?_
 refine W.ok (ok_fieldB fd35_0 rfl) ?_
 refine W.ok (ok_loadB (i := 0) (vs := [.int .i64 _]) ty3 rfl rfl rfl rfl (by simp)) ?_
 refine W.ok (ok_neq rfl rfl) ?_
 refine W.mv ?_
 refine W.sp 10 rfl (fun h9 => ?_) (fun h9 => ?_)
 ·have p9 := nd_t h9
  refine W.no (dj := 10) rfl rfl h9 ?_
  refine W.no (dj := 10) rfl rfl h9 ?_
  refine W.no (dj := 10) rfl rfl h9 ?_
  refine W.no (dj := 10) rfl rfl h9 ?_
  refine W.no (dj := 10) rfl rfl h9 ?_
  refine W.ok (ok_pick_t rfl h9) ?_
  refine W.mv ?_
  refine W.no (dj := 17) rfl rfl rfl ?_
  refine W.no (dj := 17) rfl rfl rfl ?_
  refine W.no (dj := 17) rfl rfl rfl ?_
  refine W.no (dj := 17) rfl rfl rfl ?_
  refine W.no (dj := 17) rfl rfl rfl ?_
  refine W.ok (ok_pick_t rfl rfl) ?_
  refine W.mv ?_
  refine W.no (dj := 24) rfl rfl rfl ?_
  refine W.no (dj := 24) rfl rfl rfl ?_
  refine W.no (dj := 24) rfl rfl rfl ?_
  refine W.no (dj := 24) rfl rfl rfl ?_
  refine W.no (dj := 24) rfl rfl rfl ?_
  refine W.ok (ok_pick_t rfl rfl) ?_
  refine W.mv ?_
  refine W.no (dj := 31) rfl rfl rfl ?_
  refine W.no (dj := 31) rfl rfl rfl ?_
  refine W.no (dj := 31) rfl rfl rfl ?_
  refine W.no (dj := 31) rfl rfl rfl ?_
  refine W.no (dj := 31) rfl rfl rfl ?_
  refine W.ok (ok_pick_t rfl rfl) ?_
  refine W.mv ?_
  refine W.no (dj := 38) rfl rfl rfl ?_
  refine W.no (dj := 38) rfl rfl rfl ?_
  refine W.no (dj := 38) rfl rfl rfl ?_
  refine W.no (dj := 38) rfl rfl rfl ?_
  refine W.no (dj := 38) rfl rfl rfl ?_
  refine W.ok (ok_pick_t rfl rfl) ?_
  refine W.nil (thn_n ?_)
  refine WC.cond_t rfl rfl ?_
  refine WC.seq ?_
  refine WC.region ?_
  refine W.as ?_
  refine W.nil (thn_n ?_)
  refine WC.ret (thn_r ?_)
  refine ⟨.inr rfl, [_], ⟨rfl, trivial⟩, [], List.nil_sublist _, ?_⟩
  refine congrArg Value.bool ?_
  rw [Bool.eq_iff_iff, decide_eq_true_iff]
  clear hp_a hk_a hm_a hr_a hok_a hp_b hk_b hm_b hr_b hok_b
  cases a; cases b
  simp_all [Str.b_inj]
 ·have p9 := nd_f h9
  refine W.yes (dj := 10) rfl rfl h9 ?_
  refine W.ok (ok_fieldB fd35_1 rfl) ?_
  refine W.yes (dj := 10) rfl rfl h9 ?_
  refine W.ok (ok_loadB (i := 1) (vs := [.int .i64 _]) ty3 rfl rfl rfl rfl (by simp)) ?_
  refine W.yes (dj := 10) rfl rfl h9 ?_
  refine W.ok (ok_fieldB fd35_1 rfl) ?_
  refine W.yes (dj := 10) rfl rfl h9 ?_
  refine W.ok (ok_loadB (i := 0) (vs := [.int .i64 _]) ty3 rfl rfl rfl rfl (by simp)) ?_
  refine W.yes (dj := 10) rfl rfl h9 ?_
  refine W.ok (ok_neq rfl rfl) ?_
  refine W.ok (ok_pick_f rfl h9) ?_
  refine W.mv ?_
  refine W.sp 17 rfl (fun h15 => ?_) (fun h15 => ?_)
  ·have p15 := nd_t h15
   refine W.no (dj := 17) rfl rfl h15 ?_
   refine W.no (dj := 17) rfl rfl h15 ?_
   refine W.no (dj := 17) rfl rfl h15 ?_
   refine W.no (dj := 17) rfl rfl h15 ?_
   refine W.no (dj := 17) rfl rfl h15 ?_
   refine W.ok (ok_pick_t rfl h15) ?_
   refine W.mv ?_
   refine W.no (dj := 24) rfl rfl rfl ?_
   refine W.no (dj := 24) rfl rfl rfl ?_
   refine W.no (dj := 24) rfl rfl rfl ?_
   refine W.no (dj := 24) rfl rfl rfl ?_
   refine W.no (dj := 24) rfl rfl rfl ?_
   refine W.ok (ok_pick_t rfl rfl) ?_
   refine W.mv ?_
   refine W.no (dj := 31) rfl rfl rfl ?_
   refine W.no (dj := 31) rfl rfl rfl ?_
   refine W.no (dj := 31) rfl rfl rfl ?_
   refine W.no (dj := 31) rfl rfl rfl ?_
   refine W.no (dj := 31) rfl rfl rfl ?_
   refine W.ok (ok_pick_t rfl rfl) ?_
   refine W.mv ?_
   refine W.no (dj := 38) rfl rfl rfl ?_
   refine W.no (dj := 38) rfl rfl rfl ?_
   refine W.no (dj := 38) rfl rfl rfl ?_
   refine W.no (dj := 38) rfl rfl rfl ?_
   refine W.no (dj := 38) rfl rfl rfl ?_
   refine W.ok (ok_pick_t rfl rfl) ?_
   refine W.nil (thn_n ?_)
   refine WC.cond_t rfl rfl ?_
   refine WC.seq ?_
   refine WC.region ?_
   refine W.as ?_
   refine W.nil (thn_n ?_)
   refine WC.ret (thn_r ?_)
   refine ⟨.inr rfl, [_], ⟨rfl, trivial⟩, [], List.nil_sublist _, ?_⟩
   refine congrArg Value.bool ?_
   rw [Bool.eq_iff_iff, decide_eq_true_iff]
   clear hp_a hk_a hm_a hr_a hok_a hp_b hk_b hm_b hr_b hok_b
   cases a; cases b
   simp_all [Str.b_inj]
  ·have p15 := nd_f h15
   refine W.yes (dj := 17) rfl rfl h15 ?_
   refine W.ok (ok_fieldB fd35_4 rfl) ?_
   refine W.yes (dj := 17) rfl rfl h15 ?_
   refine W.ok (ok_loadB (i := 1) (vs := [.string _]) ty9 rfl rfl rfl rfl (by simp)) ?_
   refine W.yes (dj := 17) rfl rfl h15 ?_
   refine W.ok (ok_fieldB fd35_4 rfl) ?_
   refine W.yes (dj := 17) rfl rfl h15 ?_
   refine W.ok (ok_loadB (i := 0) (vs := [.string _]) ty9 rfl rfl rfl rfl (by simp)) ?_
   refine W.yes (dj := 17) rfl rfl h15 ?_
   refine W.ok (ok_neqS rfl rfl) ?_
   refine W.ok (ok_pick_f rfl h15) ?_
   refine W.mv ?_
   refine W.sp 24 rfl (fun h22 => ?_) (fun h22 => ?_)
   ·have p22 := nd_t h22
    refine W.no (dj := 24) rfl rfl h22 ?_
    refine W.no (dj := 24) rfl rfl h22 ?_
    refine W.no (dj := 24) rfl rfl h22 ?_
    refine W.no (dj := 24) rfl rfl h22 ?_
    refine W.no (dj := 24) rfl rfl h22 ?_
    refine W.ok (ok_pick_t rfl h22) ?_
    refine W.mv ?_
    refine W.no (dj := 31) rfl rfl rfl ?_
    refine W.no (dj := 31) rfl rfl rfl ?_
    refine W.no (dj := 31) rfl rfl rfl ?_
    refine W.no (dj := 31) rfl rfl rfl ?_
    refine W.no (dj := 31) rfl rfl rfl ?_
    refine W.ok (ok_pick_t rfl rfl) ?_
    refine W.mv ?_
    refine W.no (dj := 38) rfl rfl rfl ?_
    refine W.no (dj := 38) rfl rfl rfl ?_
    refine W.no (dj := 38) rfl rfl rfl ?_
    refine W.no (dj := 38) rfl rfl rfl ?_
    refine W.no (dj := 38) rfl rfl rfl ?_
    refine W.ok (ok_pick_t rfl rfl) ?_
    refine W.nil (thn_n ?_)
    refine WC.cond_t rfl rfl ?_
    refine WC.seq ?_
    refine WC.region ?_
    refine W.as ?_
    refine W.nil (thn_n ?_)
    refine WC.ret (thn_r ?_)
    refine ⟨.inr rfl, [_], ⟨rfl, trivial⟩, [], List.nil_sublist _, ?_⟩
    refine congrArg Value.bool ?_
    rw [Bool.eq_iff_iff, decide_eq_true_iff]
    clear hp_a hk_a hm_a hr_a hok_a hp_b hk_b hm_b hr_b hok_b
    cases a; cases b
    simp_all [Str.b_inj]
   ·have p22 := nd_f h22
    refine W.yes (dj := 24) rfl rfl h22 ?_
    refine W.ok (ok_fieldB fd35_5 rfl) ?_
    refine W.yes (dj := 24) rfl rfl h22 ?_
    refine W.ok (ok_loadB (i := 1) (vs := [.bool _]) ty4 rfl rfl rfl rfl (by simp)) ?_
    refine W.yes (dj := 24) rfl rfl h22 ?_
    refine W.ok (ok_fieldB fd35_5 rfl) ?_
    refine W.yes (dj := 24) rfl rfl h22 ?_
    refine W.ok (ok_loadB (i := 0) (vs := [.bool _]) ty4 rfl rfl rfl rfl (by simp)) ?_
    refine W.yes (dj := 24) rfl rfl h22 ?_
    refine W.ok (ok_neqB bo4 rfl rfl) ?_
    refine W.ok (ok_pick_f rfl h22) ?_
    refine W.mv ?_
    refine W.sp 31 rfl (fun h29 => ?_) (fun h29 => ?_)
    ·refine W.no (dj := 31) rfl rfl h29 ?_
     refine W.no (dj := 31) rfl rfl h29 ?_
     refine W.no (dj := 31) rfl rfl h29 ?_
     refine W.no (dj := 31) rfl rfl h29 ?_
     refine W.no (dj := 31) rfl rfl h29 ?_
     refine W.ok (ok_pick_t rfl h29) ?_
     refine W.mv ?_
     refine W.no (dj := 38) rfl rfl rfl ?_
     refine W.no (dj := 38) rfl rfl rfl ?_
     refine W.no (dj := 38) rfl rfl rfl ?_
     refine W.no (dj := 38) rfl rfl rfl ?_
     refine W.no (dj := 38) rfl rfl rfl ?_
     refine W.ok (ok_pick_t rfl rfl) ?_
     refine W.nil (thn_n ?_)
     refine WC.cond_t rfl rfl ?_
     refine WC.seq ?_
     refine WC.region ?_
     refine W.as ?_
     refine W.nil (thn_n ?_)
     refine WC.ret (thn_r ?_)
     refine ⟨.inr rfl, [_], ⟨rfl, trivial⟩, [], List.nil_sublist _, ?_⟩
     refine congrArg Value.bool ?_
     rw [Bool.eq_iff_iff, decide_eq_true_iff]
     clear hp_a hk_a hm_a hr_a hok_a hp_b hk_b hm_b hr_b hok_b
     cases a; cases b
     simp_all [Str.b_inj]
    ·refine W.yes (dj := 31) rfl rfl h29 ?_
     refine W.ok (ok_fieldB fd35_6 rfl) ?_
     refine W.yes (dj := 31) rfl rfl h29 ?_
     refine W.ok (ok_loadB (i := 1) (vs := [.int .i64 _]) ty3 rfl rfl rfl rfl (by simp)) ?_
     refine W.yes (dj := 31) rfl rfl h29 ?_
     refine W.ok (ok_fieldB fd35_6 rfl) ?_
     refine W.yes (dj := 31) rfl rfl h29 ?_
     refine W.ok (ok_loadB (i := 0) (vs := [.int .i64 _]) ty3 rfl rfl rfl rfl (by simp)) ?_
     refine W.yes (dj := 31) rfl rfl h29 ?_
     refine W.ok (ok_neq rfl rfl) ?_
     refine W.ok (ok_pick_f rfl h29) ?_
     refine W.mv ?_
     refine W.sp 38 rfl (fun h36 => ?_) (fun h36 => ?_)
     ·have p36 := nd_t h36
      refine W.no (dj := 38) rfl rfl h36 ?_
      refine W.no (dj := 38) rfl rfl h36 ?_
      refine W.no (dj := 38) rfl rfl h36 ?_
      refine W.no (dj := 38) rfl rfl h36 ?_
      refine W.no (dj := 38) rfl rfl h36 ?_
      refine W.ok (ok_pick_t rfl h36) ?_
      refine W.nil (thn_n ?_)
      refine WC.cond_t rfl rfl ?_
      refine WC.seq ?_
      refine WC.region ?_
      refine W.as ?_
      refine W.nil (thn_n ?_)
      refine WC.ret (thn_r ?_)
      refine ⟨.inr rfl, [_], ⟨rfl, trivial⟩, [], List.nil_sublist _, ?_⟩
      refine congrArg Value.bool ?_
      rw [Bool.eq_iff_iff, decide_eq_true_iff]
      clear hp_a hk_a hm_a hr_a hok_a hp_b hk_b hm_b hr_b hok_b
      cases a; cases b
      simp_all [Str.b_inj]
     ·have p36 := nd_f h36
      refine W.yes (dj := 38) rfl rfl h36 ?_
      refine W.ok (ok_fieldB fd35_7 rfl) ?_
      refine W.yes (dj := 38) rfl rfl h36 ?_
      refine W.ok (ok_loadB (i := 1) (vs := [.int .i64 _]) ty3 rfl rfl rfl rfl (by simp)) ?_
      refine W.yes (dj := 38) rfl rfl h36 ?_
      refine W.ok (ok_fieldB fd35_7 rfl) ?_
      refine W.yes (dj := 38) rfl rfl h36 ?_
      refine W.ok (ok_loadB (i := 0) (vs := [.int .i64 _]) ty3 rfl rfl rfl rfl (by simp)) ?_
      refine W.yes (dj := 38) rfl rfl h36 ?_
      refine W.ok (ok_neq rfl rfl) ?_
      refine W.ok (ok_pick_f rfl h36) ?_
      refine W.nil (thn_n ?_)
      refine WC.cond (b := _) rfl (fun h43 => ?_) (fun h43 => ?_)
      ·have p43 := nd_t h43
       refine WC.seq ?_
       refine WC.region ?_
       refine W.as ?_
       refine W.nil (thn_n ?_)
       refine WC.ret (thn_r ?_)
       refine ⟨.inr rfl, [_], ⟨rfl, trivial⟩, [], List.nil_sublist _, ?_⟩
       refine congrArg Value.bool ?_
       rw [Bool.eq_iff_iff, decide_eq_true_iff]
       clear hp_a hk_a hm_a hr_a hok_a hp_b hk_b hm_b hr_b hok_b
       cases a; cases b
       simp_all [Str.b_inj]
      ·have p43 := nd_f h43
       refine WC.skip (thn_n ?_)
       refine WC.seq ?_
       refine WC.region ?_
       refine W.ok (ok_fieldB fd35_2 rfl) ?_
       refine W.ok (ok_loadB (i := 1) (vs := [.slice _ _ _]) ty32 rfl rfl rfl rfl (by simp)) ?_
       refine W.ok (ok_fieldB fd35_2 rfl) ?_
       refine W.ok (ok_loadB (i := 0) (vs := [.slice _ _ _]) ty32 rfl rfl rfl rfl (by simp)) ?_
       refine W.qcall (same_fc hp_a hp_b) rfl ?_
       refine W.mv ?_
       refine W.sp 50 rfl (fun h49 => ?_) (fun h49 => ?_)
       ·refine W.yes (dj := 50) rfl rfl h49 ?_
        refine W.ok (ok_fieldB fd35_3 rfl) ?_
        refine W.yes (dj := 50) rfl rfl h49 ?_
        refine W.ok (ok_loadB (i := 1) (vs := [.slice _ _ _]) ty30 rfl rfl rfl rfl (by simp)) ?_
        refine W.yes (dj := 50) rfl rfl h49 ?_
        refine W.ok (ok_fieldB fd35_3 rfl) ?_
        refine W.yes (dj := 50) rfl rfl h49 ?_
        refine W.ok (ok_loadB (i := 0) (vs := [.slice _ _ _]) ty30 rfl rfl rfl rfl (by simp)) ?_
        refine W.yes (dj := 50) rfl rfl h49 ?_
        refine W.qcall (ints_fc hk_a hk_b) rfl ?_
        refine W.ok (ok_pick_t rfl h49) ?_
        refine W.mv ?_
        refine W.sp 57 rfl (fun h55 => ?_) (fun h55 => ?_)
        ·refine W.yes (dj := 57) rfl rfl h55 ?_
         refine W.ok (ok_fieldB fd35_8 rfl) ?_
         refine W.yes (dj := 57) rfl rfl h55 ?_
         refine W.ok (ok_loadB (i := 1) (vs := [.slice _ _ _]) ty33 rfl rfl rfl rfl (by simp)) ?_
         refine W.yes (dj := 57) rfl rfl h55 ?_
         refine W.ok (ok_fieldB fd35_8 rfl) ?_
         refine W.yes (dj := 57) rfl rfl h55 ?_
         refine W.ok (ok_loadB (i := 0) (vs := [.slice _ _ _]) ty33 rfl rfl rfl rfl (by simp)) ?_
         refine W.yes (dj := 57) rfl rfl h55 ?_
         refine W.qcall (samem_fc hm_a hm_b) rfl ?_
         refine W.ok (ok_pick_t rfl h55) ?_
         refine W.mv ?_
         refine W.sp 64 rfl (fun h62 => ?_) (fun h62 => ?_)
         ·refine W.yes (dj := 64) rfl rfl h62 ?_
          refine W.ok (ok_fieldB fd35_9 rfl) ?_
          refine W.yes (dj := 64) rfl rfl h62 ?_
          refine W.ok (ok_loadB (i := 1) (vs := [.slice _ _ _]) ty31 rfl rfl rfl rfl (by simp)) ?_
          refine W.yes (dj := 64) rfl rfl h62 ?_
          refine W.ok (ok_fieldB fd35_9 rfl) ?_
          refine W.yes (dj := 64) rfl rfl h62 ?_
          refine W.ok (ok_loadB (i := 0) (vs := [.slice _ _ _]) ty31 rfl rfl rfl rfl (by simp)) ?_
          refine W.yes (dj := 64) rfl rfl h62 ?_
          refine W.qcall (samep_fc hr_a hr_b) rfl ?_
          refine W.ok (ok_pick_t rfl h62) ?_
          refine W.as ?_
          refine W.nil (thn_n ?_)
          refine WC.ret ?_
          refine ⟨.inr rfl, [_], ⟨rfl, trivial⟩, [], List.nil_sublist _, ?_⟩
          refine congrArg Value.bool ?_
          rw [Bool.eq_iff_iff, decide_eq_true_iff]
          clear hp_a hk_a hm_a hr_a hok_a hp_b hk_b hm_b hr_b hok_b
          cases a; cases b
          simp_all [Str.b_inj]
         ·refine W.no (dj := 64) rfl rfl h62 ?_
          refine W.no (dj := 64) rfl rfl h62 ?_
          refine W.no (dj := 64) rfl rfl h62 ?_
          refine W.no (dj := 64) rfl rfl h62 ?_
          refine W.no (dj := 64) rfl rfl h62 ?_
          refine W.ok (ok_pick_f rfl h62) ?_
          refine W.as ?_
          refine W.nil (thn_n ?_)
          refine WC.ret ?_
          refine ⟨.inr rfl, [_], ⟨rfl, trivial⟩, [], List.nil_sublist _, ?_⟩
          refine congrArg Value.bool ?_
          rw [Bool.eq_iff_iff, decide_eq_true_iff]
          clear hp_a hk_a hm_a hr_a hok_a hp_b hk_b hm_b hr_b hok_b
          cases a; cases b
          simp_all [Str.b_inj]
        ·refine W.no (dj := 57) rfl rfl h55 ?_
         refine W.no (dj := 57) rfl rfl h55 ?_
         refine W.no (dj := 57) rfl rfl h55 ?_
         refine W.no (dj := 57) rfl rfl h55 ?_
         refine W.no (dj := 57) rfl rfl h55 ?_
         refine W.ok (ok_pick_f rfl h55) ?_
         refine W.mv ?_
         refine W.no (dj := 64) rfl rfl rfl ?_
         refine W.no (dj := 64) rfl rfl rfl ?_
         refine W.no (dj := 64) rfl rfl rfl ?_
         refine W.no (dj := 64) rfl rfl rfl ?_
         refine W.no (dj := 64) rfl rfl rfl ?_
         refine W.ok (ok_pick_f rfl rfl) ?_
         refine W.as ?_
         refine W.nil (thn_n ?_)
         refine WC.ret ?_
         refine ⟨.inr rfl, [_], ⟨rfl, trivial⟩, [], List.nil_sublist _, ?_⟩
         refine congrArg Value.bool ?_
         rw [Bool.eq_iff_iff, decide_eq_true_iff]
         clear hp_a hk_a hm_a hr_a hok_a hp_b hk_b hm_b hr_b hok_b
         cases a; cases b
         simp_all [Str.b_inj]
       ·refine W.no (dj := 50) rfl rfl h49 ?_
        refine W.no (dj := 50) rfl rfl h49 ?_
        refine W.no (dj := 50) rfl rfl h49 ?_
        refine W.no (dj := 50) rfl rfl h49 ?_
        refine W.no (dj := 50) rfl rfl h49 ?_
        refine W.ok (ok_pick_f rfl h49) ?_
        refine W.mv ?_
        refine W.no (dj := 57) rfl rfl rfl ?_
        refine W.no (dj := 57) rfl rfl rfl ?_
        refine W.no (dj := 57) rfl rfl rfl ?_
        refine W.no (dj := 57) rfl rfl rfl ?_
        refine W.no (dj := 57) rfl rfl rfl ?_
        refine W.ok (ok_pick_f rfl rfl) ?_
        refine W.mv ?_
        refine W.no (dj := 64) rfl rfl rfl ?_
        refine W.no (dj := 64) rfl rfl rfl ?_
        refine W.no (dj := 64) rfl rfl rfl ?_
        refine W.no (dj := 64) rfl rfl rfl ?_
        refine W.no (dj := 64) rfl rfl rfl ?_
        refine W.ok (ok_pick_f rfl rfl) ?_
        refine W.as ?_
        refine W.nil (thn_n ?_)
        refine WC.ret ?_
        refine ⟨.inr rfl, [_], ⟨rfl, trivial⟩, [], List.nil_sublist _, ?_⟩
        refine congrArg Value.bool ?_
        rw [Bool.eq_iff_iff, decide_eq_true_iff]
        clear hp_a hk_a hm_a hr_a hok_a hp_b hk_b hm_b hr_b hok_b
        cases a; cases b
        simp_all [Str.b_inj]

theorem all21_fc {G : GH} {v_a : Value} {a : List Nd} (h_a : SlR eNode G v_a a) {v_b : Value} {b : List Nd} (h_b : SlR eNode G v_b b) :
    Fc Try.prog 55 [v_a, v_b] G [] (fun v _ _ => v = .bool (decide (a = b))) := by
 obtain ⟨sa_a, sc_a, rfl⟩ := h_a.form
 obtain ⟨sa_b, sc_b, rfl⟩ := h_b.form
 have ha := h_a.len47
 have hb := h_b.len47
 refine Fc.intro (rs := [.tmp 4]) cl55 Try.func55 rfl Try.ntmps55 rfl rfl (fun w0 => ?_)
 refine WC.seq ?_
 refine WC.region ?_
 refine W.as ?_
 refine W.nil (thn_n ?_)
 refine WC.seq ?_
 refine WC.seq ?_
 refine WC.region ?_
 refine W.mv ?_
 refine W.ok (ok_len sl24 h_a rfl) ?_
 refine W.mv ?_
 refine W.ok (ok_len sl24 h_b rfl) ?_
 refine W.ok (ok_neq rfl rfl) ?_
 refine W.nil (thn_n ?_)
 refine WC.cond (b := _) rfl (fun h10 => ?_) (fun h10 => ?_)
 ·have p10 := nd_t h10
  refine WC.seq ?_
  refine WC.region ?_
  refine W.as ?_
  refine W.nil (thn_n ?_)
  refine WC.ret (thn_r ?_)
  refine ⟨.inr rfl, [_], ⟨rfl, trivial⟩, [], List.nil_sublist _, ?_⟩
  refine congrArg Value.bool ?_
  exact (decide_eq_false fun e => by subst e; omega).symm
 ·have p10 := nd_f h10
  have hab : a.length = b.length := by omega
  refine WC.skip (thn_n ?_)
  refine WC.seq ?_
  refine WC.seq ?_
  refine WC.region ?_
  refine W.as ?_
  refine W.nil (thn_n ?_)
  refine WC.block ?_
  refine WC.loop (X := Nat) (fun k => [(5, .int .i64 ((k : Nat) : Int)), (0, .slice sa_a a.length sc_a), (1, .slice sa_b b.length sc_b)]) (fun k _ Ml => Ml = [] ∧ k ≤ a.length ∧ ∀ i (h : i < a.length) (h2 : i < b.length), i < k → a[i] = b[i]) (fun k => a.length - k) 0 ⟨(by first | rfl | exact iv (by dsimp only; omega) | exact iv (by omega)), (by first | rfl | exact iv (by dsimp only; omega) | exact iv (by omega)), (by first | rfl | exact iv (by dsimp only; omega) | exact iv (by omega)), trivial⟩ ?_ ?_
  ·exact ⟨rfl, by omega, fun i _ _ h => by omega⟩
  ·rintro k gG3 G3 _ hG3 ⟨rfl, hk0, hk⟩
   refine WC.seq ?_
   refine WC.seq ?_
   refine WC.region ?_
   refine W.mv ?_
   refine W.mv ?_
   refine W.ok (ok_len sl24 (h_a.mono hG3) rfl) ?_
   refine W.ok (ok_lss rfl rfl) ?_
   refine W.nil (thn_n ?_)
   refine WC.cond (b := _) rfl (fun h14 => ?_) (fun h14 => ?_)
   ·have p14 := of_decide_eq_true h14
    refine WC.skip (thn_n ?_)
    refine WC.seq ?_
    refine WC.block ?_
    refine WC.seq ?_
    refine WC.draw mix (by kernel_rfl) ?_
    refine W.mv ?_
    refine W.mv ?_
    have q8 := (h_a.mono hG3).at (i := k) (by omega)
    refine match q8 with | ⟨_, he4, ⟨_, _, _, _, _, _, _, _, e_7, hp_n5, hk_n5, hm_n5, hr_n5, hok_n5⟩⟩ => ?_
    subst e_7
    refine W.ok (ok_indexAddr (i := k) sl24 ty35 (h_a.mono hG3) rfl rfl ⟨by omega, by omega⟩) ?_
    refine W.ok (ok_loadE (vs := [.int .i64 _, .int .i64 _, .slice _ _ _, .slice _ _ _, .string _, .bool _, .int .i64 _, .int .i64 _, .slice _ _ _, .slice _ _ _]) ty35 he4 rfl rfl rfl (by simp)) ?_
    refine W.mv ?_
    refine W.mv ?_
    have q13 := (h_b.mono hG3).at (i := k) (by omega)
    refine match q13 with | ⟨_, he9, ⟨_, _, _, _, _, _, _, _, e_12, hp_n10, hk_n10, hm_n10, hr_n10, hok_n10⟩⟩ => ?_
    subst e_12
    refine W.ok (ok_indexAddr (i := k) sl24 ty35 (h_b.mono hG3) rfl rfl ⟨by omega, by omega⟩) ?_
    refine W.ok (ok_loadE (vs := [.int .i64 _, .int .i64 _, .slice _ _ _, .slice _ _ _, .string _, .bool _, .int .i64 _, .int .i64 _, .slice _ _ _, .slice _ _ _]) ty35 he9 rfl rfl rfl (by simp)) ?_
    refine W.qcall (nsame3_fc (a := a[k]'(by omega)) (b := b[k]'(by omega)) ⟨_, _, _, _, _, _, _, _, rfl, hp_n5, hk_n5, hm_n5, hr_n5, hok_n5⟩ ⟨_, _, _, _, _, _, _, _, rfl, hp_n10, hk_n10, hm_n10, hr_n10, hok_n10⟩) rfl ?_
    refine W.ok (ok_not rfl) ?_
    refine W.nil (thn_n ?_)
    refine WC.cond (b := _) rfl (fun h26 => ?_) (fun h26 => ?_)
    ·refine WC.seq ?_
     refine WC.region ?_
     refine W.as ?_
     refine W.nil (thn_n ?_)
     refine WC.ret (blk_r (thn_r (thn_r (blk_r (thn_r ?_)))))
     refine ⟨.inr rfl, [_], ⟨rfl, trivial⟩, [], List.nil_sublist _, ?_⟩
     refine congrArg Value.bool ?_
     exact (decide_eq_false fun e => by subst e; simp at h26).symm
    ·refine WC.skip (blk_n (thn_n ?_))
     refine WC.region ?_
     refine W.mv ?_
     refine W.ok (ok_add rfl rfl (by omega)) ?_
     refine W.as ?_
     refine W.nil (thn_n ?_)
     exact ⟨Le.rfl, k + 1, ⟨(by first | rfl | exact iv (by dsimp only; omega) | exact iv (by omega)), (by first | rfl | exact iv (by dsimp only; omega) | exact iv (by omega)), (by first | rfl | exact iv (by dsimp only; omega) | exact iv (by omega)), trivial⟩, ⟨rfl, by omega, fun i h h2 hi => by
      by_cases e : i = k
      · subst e; simpa using h26
      · exact hk i h h2 (by omega)⟩, by omega⟩
   ·have p14 := of_decide_eq_false h14
    refine WC.exit (thn_x (thn_x (blk_h (thn_n ?_))))
    refine WC.seq ?_
    refine WC.region ?_
    refine W.as ?_
    refine W.nil (thn_n ?_)
    refine WC.ret ?_
    refine ⟨.inr rfl, [_], ⟨rfl, trivial⟩, [], List.nil_sublist _, ?_⟩
    refine congrArg Value.bool ?_
    exact (decide_eq_true (List.ext_getElem (by omega) fun i h h2 => hk i h h2 (by omega))).symm

theorem light_fc {G : GH} {v_l : Value} {l : List Nd} (h_l : SlR eNode G v_l l) (n : Int) (m : Int) (hm : 0 ≤ m ∧ m ≤ 1073741824) :
    Fc Try.prog 35 [v_l, .int .i64 n, .int .i64 m] G [] (fun v _ _ => v = .bool (decide (Light l n m))) := by
 obtain ⟨sa_l, sc_l, rfl⟩ := h_l.form
 have hl := h_l.len47
 refine Fc.intro (rs := [.tmp 6]) cl35 Try.func35 rfl Try.ntmps35 rfl rfl (fun w0 => ?_)
 refine WC.seq ?_
 refine WC.region ?_
 refine W.as ?_
 refine W.nil (thn_n ?_)
 refine WC.seq ?_
 refine WC.seq ?_
 refine WC.region ?_
 refine W.mv ?_
 refine W.ok (ok_len sl24 h_l rfl) ?_
 refine W.mv ?_
 refine W.ok (ok_gtr rfl rfl) ?_
 refine W.nil (thn_n ?_)
 refine WC.cond (b := _) rfl (fun h11 => ?_) (fun h11 => ?_)
 ·have p11 := of_decide_eq_true h11
  refine WC.seq ?_
  refine WC.region ?_
  refine W.as ?_
  refine W.nil (thn_n ?_)
  refine WC.ret (thn_r ?_)
  refine ⟨.inr rfl, [_], ⟨rfl, trivial⟩, [], List.nil_sublist _, ?_⟩
  refine congrArg Value.bool ?_
  exact (decide_eq_false fun h => by have := h.1; omega).symm
 ·have p11 := of_decide_eq_false h11
  refine WC.skip (thn_n ?_)
  refine WC.seq ?_
  refine WC.seq ?_
  refine WC.region ?_
  refine W.as ?_
  refine W.nil (thn_n ?_)
  refine WC.block ?_
  refine WC.loop (X := Nat) (fun k => [(7, .int .i64 ((k : Nat) : Int)), (0, .slice sa_l l.length sc_l), (1, .int .i64 n), (2, .int .i64 m)]) (fun k _ Ml => Ml = [] ∧ ∀ i (h : i < l.length), i < k → l[i].light m) (fun k => l.length - k) 0 ⟨(by first | rfl | exact iv (by dsimp only; omega) | exact iv (by omega)), (by first | rfl | exact iv (by dsimp only; omega) | exact iv (by omega)), (by first | rfl | exact iv (by dsimp only; omega) | exact iv (by omega)), (by first | rfl | exact iv (by dsimp only; omega) | exact iv (by omega)), trivial⟩ ?_ ?_
  ·exact ⟨rfl, fun i _ h => by omega⟩
  ·rintro k gG14 G14 _ hG14 ⟨rfl, hk⟩
   refine WC.seq ?_
   refine WC.seq ?_
   refine WC.region ?_
   refine W.mv ?_
   refine W.mv ?_
   refine W.ok (ok_len sl24 (h_l.mono hG14) rfl) ?_
   refine W.ok (ok_lss rfl rfl) ?_
   refine W.nil (thn_n ?_)
   refine WC.cond (b := _) rfl (fun h15 => ?_) (fun h15 => ?_)
   ·have p15 := of_decide_eq_true h15
    refine WC.skip (thn_n ?_)
    refine WC.seq ?_
    refine WC.block ?_
    refine WC.seq ?_
    refine WC.region ?_
    refine W.mv ?_
    refine W.mv ?_
    have q19 := (h_l.mono hG14).at (i := k) (by omega)
    refine match q19 with | ⟨_, he15, ⟨_, _, _, _, _, _, _, _, e_18, hp_n16, hk_n16, hm_n16, hr_n16, hok_n16⟩⟩ => ?_
    subst e_18
    refine W.ok (ok_indexAddr (i := k) sl24 ty35 (h_l.mono hG14) rfl rfl ⟨by omega, by omega⟩) ?_
    refine W.ok (ok_fieldE fd35_9 rfl he15.form) ?_
    refine W.ok (ok_loadE (vs := [.slice _ _ _]) ty31 he15 rfl rfl rfl (by simp)) ?_
    refine W.mv ?_
    refine W.qcall (longp_fc hr_n16 _ (by omega)) rfl ?_
    refine W.ok (ok_not rfl) ?_
    refine W.mv ?_
    refine W.sp 26 rfl (fun h25 => ?_) (fun h25 => ?_)
    ·refine W.no (dj := 26) rfl rfl h25 ?_
     refine W.no (dj := 26) rfl rfl h25 ?_
     refine W.no (dj := 26) rfl rfl h25 ?_
     refine W.no (dj := 26) rfl rfl h25 ?_
     refine W.no (dj := 26) rfl rfl h25 ?_
     refine W.no (dj := 26) rfl rfl h25 ?_
     refine W.no (dj := 26) rfl rfl h25 ?_
     refine W.no (dj := 26) rfl rfl h25 ?_
     refine W.no (dj := 26) rfl rfl h25 ?_
     refine W.ok (ok_pick_t rfl h25) ?_
     refine W.mv ?_
     refine W.no (dj := 37) rfl rfl rfl ?_
     refine W.no (dj := 37) rfl rfl rfl ?_
     refine W.no (dj := 37) rfl rfl rfl ?_
     refine W.no (dj := 37) rfl rfl rfl ?_
     refine W.no (dj := 37) rfl rfl rfl ?_
     refine W.no (dj := 37) rfl rfl rfl ?_
     refine W.no (dj := 37) rfl rfl rfl ?_
     refine W.no (dj := 37) rfl rfl rfl ?_
     refine W.ok (ok_pick_t rfl rfl) ?_
     refine W.mv ?_
     refine W.no (dj := 47) rfl rfl rfl ?_
     refine W.no (dj := 47) rfl rfl rfl ?_
     refine W.no (dj := 47) rfl rfl rfl ?_
     refine W.no (dj := 47) rfl rfl rfl ?_
     refine W.no (dj := 47) rfl rfl rfl ?_
     refine W.no (dj := 47) rfl rfl rfl ?_
     refine W.no (dj := 47) rfl rfl rfl ?_
     refine W.no (dj := 47) rfl rfl rfl ?_
     refine W.ok (ok_pick_t rfl rfl) ?_
     refine W.mv ?_
     refine W.no (dj := 57) rfl rfl rfl ?_
     refine W.no (dj := 57) rfl rfl rfl ?_
     refine W.no (dj := 57) rfl rfl rfl ?_
     refine W.no (dj := 57) rfl rfl rfl ?_
     refine W.no (dj := 57) rfl rfl rfl ?_
     refine W.no (dj := 57) rfl rfl rfl ?_
     refine W.no (dj := 57) rfl rfl rfl ?_
     refine W.no (dj := 57) rfl rfl rfl ?_
     refine W.ok (ok_pick_t rfl rfl) ?_
     refine W.nil (thn_n ?_)
     refine WC.cond_t rfl rfl ?_
     refine WC.seq ?_
     refine WC.region ?_
     refine W.as ?_
     refine W.nil (thn_n ?_)
     refine WC.ret (blk_r (thn_r (thn_r (blk_r (thn_r ?_)))))
     refine ⟨.inr rfl, [_], ⟨rfl, trivial⟩, [], List.nil_sublist _, ?_⟩
     refine congrArg Value.bool ?_
     exact (decide_eq_false fun h => by obtain ⟨q1, q2, q3, q4, q5⟩ := h.2 k (by omega); first | omega | (simp at h25; omega) | (simp at h55; omega)).symm
    ·refine W.yes (dj := 26) rfl rfl h25 ?_
     refine W.mv ?_
     refine W.yes (dj := 26) rfl rfl h25 ?_
     refine W.mv ?_
     refine W.yes (dj := 26) rfl rfl h25 ?_
     have q24 := (h_l.mono hG14).at (i := k) (by omega)
     refine match q24 with | ⟨_, he20, ⟨_, _, _, _, _, _, _, _, e_23, hp_n21, hk_n21, hm_n21, hr_n21, hok_n21⟩⟩ => ?_
     subst e_23
     refine W.ok (ok_indexAddr (i := k) sl24 ty35 (h_l.mono hG14) rfl rfl ⟨by omega, by omega⟩) ?_
     refine W.yes (dj := 26) rfl rfl h25 ?_
     refine W.ok (ok_fieldE fd35_2 rfl he20.form) ?_
     refine W.yes (dj := 26) rfl rfl h25 ?_
     refine W.ok (ok_loadE (vs := [.slice _ _ _]) ty32 he20 rfl rfl rfl (by simp)) ?_
     refine W.yes (dj := 26) rfl rfl h25 ?_
     refine W.mv ?_
     refine W.yes (dj := 26) rfl rfl h25 ?_
     refine W.qcall (rlong_fc hp_n21 _ (by omega)) rfl ?_
     refine W.yes (dj := 26) rfl rfl h25 ?_
     refine W.mv ?_
     refine W.yes (dj := 26) rfl rfl h25 ?_
     refine W.ok (ok_gtr rfl rfl) ?_
     refine W.ok (ok_pick_f rfl h25) ?_
     refine W.mv ?_
     refine W.sp 37 rfl (fun h35 => ?_) (fun h35 => ?_)
     ·have p35 := of_decide_eq_true h35
      refine W.no (dj := 37) rfl rfl h35 ?_
      refine W.no (dj := 37) rfl rfl h35 ?_
      refine W.no (dj := 37) rfl rfl h35 ?_
      refine W.no (dj := 37) rfl rfl h35 ?_
      refine W.no (dj := 37) rfl rfl h35 ?_
      refine W.no (dj := 37) rfl rfl h35 ?_
      refine W.no (dj := 37) rfl rfl h35 ?_
      refine W.no (dj := 37) rfl rfl h35 ?_
      refine W.ok (ok_pick_t rfl h35) ?_
      refine W.mv ?_
      refine W.no (dj := 47) rfl rfl rfl ?_
      refine W.no (dj := 47) rfl rfl rfl ?_
      refine W.no (dj := 47) rfl rfl rfl ?_
      refine W.no (dj := 47) rfl rfl rfl ?_
      refine W.no (dj := 47) rfl rfl rfl ?_
      refine W.no (dj := 47) rfl rfl rfl ?_
      refine W.no (dj := 47) rfl rfl rfl ?_
      refine W.no (dj := 47) rfl rfl rfl ?_
      refine W.ok (ok_pick_t rfl rfl) ?_
      refine W.mv ?_
      refine W.no (dj := 57) rfl rfl rfl ?_
      refine W.no (dj := 57) rfl rfl rfl ?_
      refine W.no (dj := 57) rfl rfl rfl ?_
      refine W.no (dj := 57) rfl rfl rfl ?_
      refine W.no (dj := 57) rfl rfl rfl ?_
      refine W.no (dj := 57) rfl rfl rfl ?_
      refine W.no (dj := 57) rfl rfl rfl ?_
      refine W.no (dj := 57) rfl rfl rfl ?_
      refine W.ok (ok_pick_t rfl rfl) ?_
      refine W.nil (thn_n ?_)
      refine WC.cond_t rfl rfl ?_
      refine WC.seq ?_
      refine WC.region ?_
      refine W.as ?_
      refine W.nil (thn_n ?_)
      refine WC.ret (blk_r (thn_r (thn_r (blk_r (thn_r ?_)))))
      refine ⟨.inr rfl, [_], ⟨rfl, trivial⟩, [], List.nil_sublist _, ?_⟩
      refine congrArg Value.bool ?_
      exact (decide_eq_false fun h => by obtain ⟨q1, q2, q3, q4, q5⟩ := h.2 k (by omega); first | omega | (simp at h25; omega) | (simp at h55; omega)).symm
     ·have p35 := of_decide_eq_false h35
      refine W.yes (dj := 37) rfl rfl h35 ?_
      refine W.mv ?_
      refine W.yes (dj := 37) rfl rfl h35 ?_
      refine W.mv ?_
      refine W.yes (dj := 37) rfl rfl h35 ?_
      have q29 := (h_l.mono hG14).at (i := k) (by omega)
      refine match q29 with | ⟨_, he25, ⟨_, _, _, _, _, _, _, _, e_28, hp_n26, hk_n26, hm_n26, hr_n26, hok_n26⟩⟩ => ?_
      subst e_28
      refine W.ok (ok_indexAddr (i := k) sl24 ty35 (h_l.mono hG14) rfl rfl ⟨by omega, by omega⟩) ?_
      refine W.yes (dj := 37) rfl rfl h35 ?_
      refine W.ok (ok_fieldE fd35_3 rfl he25.form) ?_
      refine W.yes (dj := 37) rfl rfl h35 ?_
      refine W.ok (ok_loadE (vs := [.slice _ _ _]) ty30 he25 rfl rfl rfl (by simp)) ?_
      refine W.yes (dj := 37) rfl rfl h35 ?_
      refine W.ok (ok_len sl30 hk_n26 rfl) ?_
      refine W.yes (dj := 37) rfl rfl h35 ?_
      refine W.mv ?_
      refine W.yes (dj := 37) rfl rfl h35 ?_
      refine W.ok (ok_gtr rfl rfl) ?_
      refine W.ok (ok_pick_f rfl h35) ?_
      refine W.mv ?_
      refine W.sp 47 rfl (fun h45 => ?_) (fun h45 => ?_)
      ·have p45 := of_decide_eq_true h45
       refine W.no (dj := 47) rfl rfl h45 ?_
       refine W.no (dj := 47) rfl rfl h45 ?_
       refine W.no (dj := 47) rfl rfl h45 ?_
       refine W.no (dj := 47) rfl rfl h45 ?_
       refine W.no (dj := 47) rfl rfl h45 ?_
       refine W.no (dj := 47) rfl rfl h45 ?_
       refine W.no (dj := 47) rfl rfl h45 ?_
       refine W.no (dj := 47) rfl rfl h45 ?_
       refine W.ok (ok_pick_t rfl h45) ?_
       refine W.mv ?_
       refine W.no (dj := 57) rfl rfl rfl ?_
       refine W.no (dj := 57) rfl rfl rfl ?_
       refine W.no (dj := 57) rfl rfl rfl ?_
       refine W.no (dj := 57) rfl rfl rfl ?_
       refine W.no (dj := 57) rfl rfl rfl ?_
       refine W.no (dj := 57) rfl rfl rfl ?_
       refine W.no (dj := 57) rfl rfl rfl ?_
       refine W.no (dj := 57) rfl rfl rfl ?_
       refine W.ok (ok_pick_t rfl rfl) ?_
       refine W.nil (thn_n ?_)
       refine WC.cond_t rfl rfl ?_
       refine WC.seq ?_
       refine WC.region ?_
       refine W.as ?_
       refine W.nil (thn_n ?_)
       refine WC.ret (blk_r (thn_r (thn_r (blk_r (thn_r ?_)))))
       refine ⟨.inr rfl, [_], ⟨rfl, trivial⟩, [], List.nil_sublist _, ?_⟩
       refine congrArg Value.bool ?_
       exact (decide_eq_false fun h => by obtain ⟨q1, q2, q3, q4, q5⟩ := h.2 k (by omega); first | omega | (simp at h25; omega) | (simp at h55; omega)).symm
      ·have p45 := of_decide_eq_false h45
       refine W.yes (dj := 47) rfl rfl h45 ?_
       refine W.mv ?_
       refine W.yes (dj := 47) rfl rfl h45 ?_
       refine W.mv ?_
       refine W.yes (dj := 47) rfl rfl h45 ?_
       have q34 := (h_l.mono hG14).at (i := k) (by omega)
       refine match q34 with | ⟨_, he30, ⟨_, _, _, _, _, _, _, _, e_33, hp_n31, hk_n31, hm_n31, hr_n31, hok_n31⟩⟩ => ?_
       subst e_33
       refine W.ok (ok_indexAddr (i := k) sl24 ty35 (h_l.mono hG14) rfl rfl ⟨by omega, by omega⟩) ?_
       refine W.yes (dj := 47) rfl rfl h45 ?_
       refine W.ok (ok_fieldE fd35_8 rfl he30.form) ?_
       refine W.yes (dj := 47) rfl rfl h45 ?_
       refine W.ok (ok_loadE (vs := [.slice _ _ _]) ty33 he30 rfl rfl rfl (by simp)) ?_
       refine W.yes (dj := 47) rfl rfl h45 ?_
       refine W.mv ?_
       refine W.yes (dj := 47) rfl rfl h45 ?_
       refine W.qcall (few_fc hm_n31 _ (by omega)) rfl ?_
       refine W.yes (dj := 47) rfl rfl h45 ?_
       refine W.ok (ok_not rfl) ?_
       refine W.ok (ok_pick_f rfl h45) ?_
       refine W.mv ?_
       refine W.sp 57 rfl (fun h55 => ?_) (fun h55 => ?_)
       ·refine W.no (dj := 57) rfl rfl h55 ?_
        refine W.no (dj := 57) rfl rfl h55 ?_
        refine W.no (dj := 57) rfl rfl h55 ?_
        refine W.no (dj := 57) rfl rfl h55 ?_
        refine W.no (dj := 57) rfl rfl h55 ?_
        refine W.no (dj := 57) rfl rfl h55 ?_
        refine W.no (dj := 57) rfl rfl h55 ?_
        refine W.no (dj := 57) rfl rfl h55 ?_
        refine W.ok (ok_pick_t rfl h55) ?_
        refine W.nil (thn_n ?_)
        refine WC.cond_t rfl rfl ?_
        refine WC.seq ?_
        refine WC.region ?_
        refine W.as ?_
        refine W.nil (thn_n ?_)
        refine WC.ret (blk_r (thn_r (thn_r (blk_r (thn_r ?_)))))
        refine ⟨.inr rfl, [_], ⟨rfl, trivial⟩, [], List.nil_sublist _, ?_⟩
        refine congrArg Value.bool ?_
        exact (decide_eq_false fun h => by obtain ⟨q1, q2, q3, q4, q5⟩ := h.2 k (by omega); first | omega | (simp at h25; omega) | (simp at h55; omega)).symm
       ·refine W.yes (dj := 57) rfl rfl h55 ?_
        refine W.mv ?_
        refine W.yes (dj := 57) rfl rfl h55 ?_
        refine W.mv ?_
        refine W.yes (dj := 57) rfl rfl h55 ?_
        have q39 := (h_l.mono hG14).at (i := k) (by omega)
        refine match q39 with | ⟨_, he35, ⟨_, _, _, _, _, _, _, _, e_38, hp_n36, hk_n36, hm_n36, hr_n36, hok_n36⟩⟩ => ?_
        subst e_38
        refine W.ok (ok_indexAddr (i := k) sl24 ty35 (h_l.mono hG14) rfl rfl ⟨by omega, by omega⟩) ?_
        refine W.yes (dj := 57) rfl rfl h55 ?_
        refine W.ok (ok_fieldE fd35_4 rfl he35.form) ?_
        refine W.yes (dj := 57) rfl rfl h55 ?_
        refine W.ok (ok_loadE (vs := [.string _]) ty9 he35 rfl rfl rfl (by simp)) ?_
        refine W.yes (dj := 57) rfl rfl h55 ?_
        refine W.ok (ok_lenS st9 rfl) ?_
        refine W.yes (dj := 57) rfl rfl h55 ?_
        refine W.mv ?_
        refine W.yes (dj := 57) rfl rfl h55 ?_
        refine W.ok (ok_gtr rfl rfl) ?_
        refine W.ok (ok_pick_f rfl h55) ?_
        refine W.nil (thn_n ?_)
        refine WC.cond (b := _) rfl (fun h65 => ?_) (fun h65 => ?_)
        ·have p65 := of_decide_eq_true h65
         refine WC.seq ?_
         refine WC.region ?_
         refine W.as ?_
         refine W.nil (thn_n ?_)
         refine WC.ret (blk_r (thn_r (thn_r (blk_r (thn_r ?_)))))
         refine ⟨.inr rfl, [_], ⟨rfl, trivial⟩, [], List.nil_sublist _, ?_⟩
         refine congrArg Value.bool ?_
         exact (decide_eq_false fun h => by obtain ⟨q1, q2, q3, q4, q5⟩ := h.2 k (by omega); first | omega | (simp at h25; omega) | (simp at h55; omega)).symm
        ·have p65 := of_decide_eq_false h65
         refine WC.skip (blk_n (thn_n ?_))
         refine WC.region ?_
         refine W.mv ?_
         refine W.ok (ok_add rfl rfl (by omega)) ?_
         refine W.as ?_
         refine W.nil (thn_n ?_)
         exact ⟨Le.rfl, k + 1, ⟨(by first | rfl | exact iv (by dsimp only; omega) | exact iv (by omega)), (by first | rfl | exact iv (by dsimp only; omega) | exact iv (by omega)), (by first | rfl | exact iv (by dsimp only; omega) | exact iv (by omega)), (by first | rfl | exact iv (by dsimp only; omega) | exact iv (by omega)), trivial⟩, ⟨rfl, fun i h hi => by
      by_cases e : i = k
      · subst e; exact ⟨by simpa using h25, by omega, by omega, by simpa using h55, by omega⟩
      · exact hk i h (by omega)⟩, by omega⟩
   ·have p15 := of_decide_eq_false h15
    refine WC.exit (thn_x (thn_x (blk_h (thn_n ?_))))
    refine WC.seq ?_
    refine WC.region ?_
    refine W.as ?_
    refine W.nil (thn_n ?_)
    refine WC.ret ?_
    refine ⟨.inr rfl, [_], ⟨rfl, trivial⟩, [], List.nil_sublist _, ?_⟩
    refine congrArg Value.bool ?_
    exact (decide_eq_true ⟨by omega, fun i h => hk i h (by omega)⟩).symm

theorem gload_fc {G : GH} (cfan : Int) (cleaf : Int) (cbud : Int) (cslots : Int) (crest : Int) {v_l : Value} {l : List Nd} (h_l : SlR eNode G v_l l) :
    Fc Try.prog 69 [.agg #[.int .i64 cfan, .int .i64 cleaf, .int .i64 cbud, .int .i64 cslots, .int .i64 crest], v_l] G [] (fun v G' M' => (¬ (CfgR (⟨cfan, cleaf, cbud, cslots, crest⟩ : Cfg) ∧ 0 < l.length ∧ placedF 0 l = true) ∧ v = .tuple #[.pointer none, .int .i64 2] ∧ M' = []) ∨ ((CfgR (⟨cfan, cleaf, cbud, cslots, crest⟩ : Cfg) ∧ 0 < l.length ∧ placedF 0 l = true) ∧ ((¬ (l.length : Int) ≤ cslots ∧ v = .tuple #[.pointer none, .int .i64 4] ∧ M' = []) ∨ ((l.length : Int) ≤ cslots ∧ ∃ b, v = .tuple #[.pointer (some ⟨b, 0, none⟩), .int .i64 0] ∧ StR 35 4 3 207 155 b (⟨cfan, cleaf, cbud, cslots, crest⟩ : Cfg) G' l M')))) := by
 obtain ⟨sa_l, sc_l, rfl⟩ := h_l.form
 have hl := h_l.len47
 refine Fc.intro (rs := [.tmp 4, .tmp 5]) cl69 Try.func69 rfl Try.ntmps69 rfl rfl (fun w0 => ?_)
 refine WC.seq ?_
 refine WC.region ?_
 refine W.box (L := [.int .i64 _, .int .i64 _, .int .i64 _, .int .i64 _, .int .i64 _]) rfl rfl (fun b40 => ?_)
 refine W.as ?_
 refine W.as ?_
 refine W.nil (thn_n ?_)
 refine WC.seq ?_
 refine WC.region ?_
 refine W.ok (ok_loadB (i := 0) (vs := [.int .i64 _, .int .i64 _, .int .i64 _, .int .i64 _, .int .i64 _]) ty23 rfl rfl rfl rfl (by simp)) ?_
 refine W.call (Mp := []) (stnew_fc (cfan) (cleaf) (cbud) (cslots) (crest)) rfl (List.Perm.refl _) ?_
 intro v44 G41 Ms43 hG41 q42
 refine Or.elim q42 (fun q45 => ?_) (fun q46 => ?_)
 ·refine match q45 with | ⟨hnc, e_47, e_48⟩ => ?_
  subst e_47
  subst e_48
  refine W.mv ?_
  refine W.ok (ok_extract rfl rfl) ?_
  refine W.ok (ok_extract rfl rfl) ?_
  refine W.as ?_
  refine W.as ?_
  refine W.nil (thn_n ?_)
  refine WC.seq ?_
  refine WC.seq ?_
  refine WC.region ?_
  refine W.mv ?_
  refine W.ok (ok_neq rfl rfl) ?_
  refine W.mv ?_
  refine W.no (dj := 21) rfl rfl rfl ?_
  refine W.no (dj := 21) rfl rfl rfl ?_
  refine W.no (dj := 21) rfl rfl rfl ?_
  refine W.ok (ok_pick_t rfl rfl) ?_
  refine W.nil (thn_n ?_)
  refine WC.cond_t rfl rfl ?_
  refine WC.seq ?_
  refine WC.region ?_
  refine W.as ?_
  refine W.as ?_
  refine W.nil (thn_n ?_)
  refine WC.ret (thn_r ?_)
  refine ⟨.inr rfl, [_, _], ⟨rfl, rfl, trivial⟩, [], List.nil_sublist _, ?_⟩
  exact .inl ⟨fun h => hnc h.1, rfl, rfl⟩
 ·refine match q46 with | ⟨hC, bSt, e_49, hS9⟩ => ?_
  subst e_49
  refine W.perm (pmC (List.Perm.refl _)).symm ?_
  refine W.mv ?_
  refine W.ok (ok_extract rfl rfl) ?_
  refine W.ok (ok_extract rfl rfl) ?_
  refine W.as ?_
  refine W.as ?_
  refine W.nil (thn_n ?_)
  refine WC.seq ?_
  refine WC.seq ?_
  refine WC.region ?_
  refine W.mv ?_
  refine W.ok (ok_neq rfl rfl) ?_
  refine W.mv ?_
  refine W.yes (dj := 21) rfl rfl rfl ?_
  refine W.mv ?_
  refine W.yes (dj := 21) rfl rfl rfl ?_
  refine W.ok (ok_len sl24 (h_l.mono hG41) rfl) ?_
  refine W.yes (dj := 21) rfl rfl rfl ?_
  refine W.ok (ok_eql rfl rfl) ?_
  refine W.ok (ok_pick_f rfl rfl) ?_
  refine W.nil (thn_n ?_)
  refine WC.cond (b := _) rfl (fun h24 => ?_) (fun h24 => ?_)
  ·have p24 := of_decide_eq_true h24
   refine WC.seq ?_
   refine WC.region ?_
   refine W.as ?_
   refine W.as ?_
   refine W.nil (thn_n ?_)
   refine WC.ret (thn_r ?_)
   refine ⟨.inr rfl, [_, _], ⟨rfl, rfl, trivial⟩, [], List.nil_sublist _, ?_⟩
   exact .inl ⟨fun h => by have := h.2.1; omega, rfl, rfl⟩
  ·have p24 := of_decide_eq_false h24
   refine WC.skip (thn_n ?_)
   refine WC.seq ?_
   refine WC.seq ?_
   refine WC.region ?_
   refine W.mv ?_
   refine W.ok (ok_len sl24 (h_l.mono hG41) rfl) ?_
   refine W.mv ?_
   refine W.nil (thn_n ?_)
   refine WC.block ?_
   refine WC.loop (X := Nat) (fun k => [(28, .int .i64 ((k : Nat) : Int)), (6, .pointer (some ⟨bSt, 0, none⟩)), (1, .slice sa_l l.length sc_l), (26, .slice sa_l l.length sc_l), (27, .int .i64 (((l).length : Nat) : Int))]) (fun k _ Ml => Ml = ((b40, .cells (List.toArray [.int .i64 cfan, .int .i64 cleaf, .int .i64 cbud, .int .i64 cslots, .int .i64 crest]) 23 (0, 0)) :: (Ms43 ++ [])) ∧ k ≤ l.length ∧ placedF 0 (l.take k) = true) (fun k => l.length - k) 0 ⟨(by first | rfl | exact iv (by dsimp only; omega) | exact iv (by omega)), (by first | rfl | exact iv (by dsimp only; omega) | exact iv (by omega)), (by first | rfl | exact iv (by dsimp only; omega) | exact iv (by omega)), (by first | rfl | exact iv (by dsimp only; omega) | exact iv (by omega)), (by first | rfl | exact iv (by dsimp only; omega) | exact iv (by omega)), trivial⟩ ?_ ?_
   ·exact ⟨rfl, by omega, rfl⟩
   ·rintro k gG50 G50 _ hG50 ⟨rfl, hk, hpk⟩
    refine WC.seq ?_
    refine WC.region ?_
    refine W.ok (ok_lss rfl rfl) ?_
    refine W.nil (thn_n ?_)
    refine WC.seq ?_
    refine WC.cond (b := _) rfl (fun h29 => ?_) (fun h29 => ?_)
    ·have p29 := of_decide_eq_true h29
     refine WC.skip (thn_n ?_)
     refine WC.seq ?_
     refine WC.block ?_
     refine WC.seq ?_
     refine WC.region ?_
     refine W.mv ?_
     have q55 := (h_l.mono (hG41.trans hG50)).at (i := k) (by omega)
     refine match q55 with | ⟨_, he51, ⟨_, _, _, _, _, _, _, _, e_54, hp_n52, hk_n52, hm_n52, hr_n52, hok_n52⟩⟩ => ?_
     subst e_54
     refine W.ok (ok_indexAddr (i := k) sl24 ty35 (h_l.mono (hG41.trans hG50)) rfl rfl ⟨by omega, by omega⟩) ?_
     refine W.ok (ok_loadE (vs := [.int .i64 _, .int .i64 _, .slice _ _ _, .slice _ _ _, .string _, .bool _, .int .i64 _, .int .i64 _, .slice _ _ _, .slice _ _ _]) ty35 he51 rfl rfl rfl (by simp)) ?_
     refine W.alloc zr35 (fun b56 => ?_)
     refine W.as ?_
     refine W.store (i := 0) (vs := [.int .i64 _, .int .i64 _, .slice _ _ _, .slice _ _ _, .string _, .bool _, .int .i64 _, .int .i64 _, .slice _ _ _, .slice _ _ _]) (L' := [.int .i64 _, .int .i64 _, .slice _ _ _, .slice _ _ _, .string _, .bool _, .int .i64 _, .int .i64 _, .slice _ _ _, .slice _ _ _]) ty35 rfl rfl rfl rfl rfl rfl rfl rfl ?_
     refine W.nil (thn_n ?_)
     refine WC.seq ?_
     refine WC.region ?_
     refine W.ok (ok_fieldB fd35_0 rfl) ?_
     refine W.ok (ok_loadB (i := 0) (vs := [.int .i64 _]) ty3 rfl rfl rfl rfl (by simp)) ?_
     refine W.mv ?_
     refine W.ok (ok_neq rfl rfl) ?_
     refine W.nil (thn_n ?_)
     refine WC.cond (b := _) rfl (fun h36 => ?_) (fun h36 => ?_)
     ·have p36 := nd_t h36
      refine WC.seq ?_
      refine WC.region ?_
      refine W.as ?_
      refine W.as ?_
      refine W.nil (thn_n ?_)
      refine WC.ret (blk_r (thn_r (thn_r (blk_r (thn_r ?_)))))
      refine ⟨.inr rfl, [_, _], ⟨rfl, rfl, trivial⟩, [], List.nil_sublist _, ?_⟩
      exact .inl ⟨(fun h => by have := placed_not (l := l) (k := k) (by omega) p36; rw [this] at h; cases h.2.2), rfl, rfl⟩
     ·have p36 := nd_f h36
      refine WC.skip (blk_n (thn_n ?_))
      refine WC.region ?_
      refine W.ok (ok_add rfl rfl (by omega)) ?_
      refine W.mv ?_
      refine W.sub ((List.Sublist.refl _).cons _) ?_
      refine W.nil (thn_n ?_)
      exact ⟨Le.rfl, k + 1, ⟨(by first | rfl | exact iv (by dsimp only; omega) | exact iv (by omega)), (by first | rfl | exact iv (by dsimp only; omega) | exact iv (by omega)), (by first | rfl | exact iv (by dsimp only; omega) | exact iv (by omega)), (by first | rfl | exact iv (by dsimp only; omega) | exact iv (by omega)), (by first | rfl | exact iv (by dsimp only; omega) | exact iv (by omega)), trivial⟩, ⟨rfl, by omega, placed_step (by omega) hpk (by omega)⟩, by omega⟩
    ·have p29 := of_decide_eq_false h29
     have hpl : placedF 0 l = true := by rw [List.take_of_length_le (by omega)] at hpk; exact hpk
     refine WC.exit (thn_x (thn_x (blk_h (thn_n ?_))))
     refine WC.seq ?_
     refine WC.seq ?_
     refine WC.region ?_
     refine W.mv ?_
     refine W.ok (ok_len sl24 (h_l.mono (hG41.trans hG50)) rfl) ?_
     refine W.mv ?_
     refine W.nil (thn_n ?_)
     refine WC.block ?_
     refine WC.loop (X := (Nat) × MH) (fun k2 => [(40, .int .i64 ((k2.1 : Nat) : Int)), (38, .slice sa_l l.length sc_l), (39, .int .i64 (((l).length : Nat) : Int)), (6, .pointer (some ⟨bSt, 0, none⟩))]) (fun k2 G Ml => Ml = ((b40, .cells (List.toArray [.int .i64 cfan, .int .i64 cleaf, .int .i64 cbud, .int .i64 cslots, .int .i64 crest]) 23 (0, 0)) :: (k2.2 ++ [])) ∧ StR 35 4 3 207 155 bSt (⟨cfan, cleaf, cbud, cslots, crest⟩ : Cfg) G (ldN l k2.1) k2.2 ∧ k2.1 ≤ l.length) (fun k2 => l.length - k2.1) (0, Ms43) ⟨(by first | rfl | exact iv (by dsimp only; omega) | exact iv (by omega)), (by first | rfl | exact iv (by dsimp only; omega) | exact iv (by omega)), (by first | rfl | exact iv (by dsimp only; omega) | exact iv (by omega)), (by first | rfl | exact iv (by dsimp only; omega) | exact iv (by omega)), trivial⟩ ?_ ?_
     ·exact ⟨rfl, (by exact (StR.mono hG50 hS9)), by omega⟩
     ·rintro ⟨k2, M_6⟩ gG57 G57 _ hG57 ⟨rfl, ho_6, hk2⟩
      try dsimp only at ho_6 hk2
      refine WC.fr (f := setL gG57 [(40, .int .i64 ((k2 : Nat) : Int)), (38, .slice sa_l l.length sc_l), (39, .int .i64 (((l).length : Nat) : Int)), (6, .pointer (some ⟨bSt, 0, none⟩))]) rfl ?_
      refine WC.seq ?_
      refine WC.region ?_
      refine W.ok (ok_lss rfl rfl) ?_
      refine W.nil (thn_n ?_)
      refine WC.seq ?_
      refine WC.cond (b := _) rfl (fun h41 => ?_) (fun h41 => ?_)
      ·have p41 := of_decide_eq_true h41
       have hsk : (l[k2]'(by omega)).slot = ((k2 : Nat) : Int) := placed_at hpl (by omega)
       refine WC.skip (thn_n ?_)
       refine WC.seq ?_
       refine WC.block ?_
       refine WC.seq ?_
       refine WC.region ?_
       refine W.mv ?_
       have q62 := (h_l.mono ((hG41.trans hG50).trans hG57)).at (i := k2) (by omega)
       refine match q62 with | ⟨_, he58, ⟨_, _, _, _, _, _, _, _, e_61, hp_n59, hk_n59, hm_n59, hr_n59, hok_n59⟩⟩ => ?_
       subst e_61
       refine W.ok (ok_indexAddr (i := k2) sl24 ty35 (h_l.mono ((hG41.trans hG50).trans hG57)) rfl rfl ⟨by omega, by omega⟩) ?_
       refine W.ok (ok_loadE (vs := [.int .i64 _, .int .i64 _, .slice _ _ _, .slice _ _ _, .string _, .bool _, .int .i64 _, .int .i64 _, .slice _ _ _, .slice _ _ _]) ty35 he58 rfl rfl rfl (by simp)) ?_
       refine W.alloc zr35 (fun b63 => ?_)
       refine W.as ?_
       refine W.store (i := 0) (vs := [.int .i64 _, .int .i64 _, .slice _ _ _, .slice _ _ _, .string _, .bool _, .int .i64 _, .int .i64 _, .slice _ _ _, .slice _ _ _]) (L' := [.int .i64 _, .int .i64 _, .slice _ _ _, .slice _ _ _, .string _, .bool _, .int .i64 _, .int .i64 _, .slice _ _ _, .slice _ _ _]) ty35 rfl rfl rfl rfl rfl rfl rfl rfl ?_
       refine W.nil (thn_n ?_)
       refine WC.seq ?_
       refine WC.seq ?_
       refine WC.region ?_
       refine W.mv ?_
       refine W.ok (ok_gtr rfl rfl) ?_
       refine W.nil (thn_n ?_)
       refine WC.cond (b := _) rfl (fun h46 => ?_) (fun h46 => ?_)
       ·have p46 := of_decide_eq_true h46
        refine WC.seq ?_
        refine WC.region ?_
        refine W.mv ?_
        refine W.ok (ok_loadB (i := 0) (vs := [.int .i64 _, .int .i64 _, .slice _ _ _, .slice _ _ _, .string _, .bool _, .int .i64 _, .int .i64 _, .slice _ _ _, .slice _ _ _]) ty35 rfl rfl rfl rfl (by simp)) ?_
        refine W.call (Mp := M_6) (ptake_fc ho_6 ⟨_, _, _, _, _, _, _, _, rfl, hp_n59, hk_n59, hm_n59, hr_n59, hok_n59⟩) rfl (pmC (pmC (List.Perm.refl _))) ?_
        intro v67 G64 Ms66 hG64 q65
        refine match q65 with | ⟨e_69, hR68⟩ => ?_
        subst e_69
        refine W.perm (pmC (pmC (List.Perm.refl _))).symm ?_
        refine W.mv ?_
        refine W.ok (ok_extract rfl rfl) ?_
        refine W.ok (ok_extract rfl rfl) ?_
        refine W.as ?_
        refine W.as ?_
        refine W.nil (thn_n ?_)
        refine WC.seq ?_
        refine WC.region ?_
        refine W.mv ?_
        refine W.ok (ok_neq rfl rfl) ?_
        refine W.nil (thn_n ?_)
        refine WC.cond (b := _) rfl (fun h54 => ?_) (fun h54 => ?_)
        ·have p54 := nd_t h54
         have hns : ¬ k2 < cslots.toNat := fun hh => p54 (by rw [ld_take (by omega) (by omega) hh hsk])
         have hE := ld_full (l := l) (k := k2) (by omega) (by omega) hns (l[k2]'(by omega))
         refine WC.seq ?_
         refine WC.region ?_
         refine W.mv ?_
         refine W.as ?_
         refine W.as ?_
         refine W.nil (thn_n ?_)
         refine WC.ret (thn_r (blk_r (thn_r (thn_r (blk_r (thn_r ?_))))))
         refine ⟨.inr rfl, [_, _], ⟨rfl, rfl, trivial⟩, [], List.nil_sublist _, ?_⟩
         exact .inr ⟨⟨hC, by omega, hpl⟩, .inl ⟨by omega, by rw [hE]; rfl, rfl⟩⟩
        ·have p54 := nd_f h54
         have hns : k2 < cslots.toNat := by
           by_cases hh : k2 < cslots.toNat
           · exact hh
           · rw [ld_full (by omega) (by omega) hh] at p54; exact absurd p54 (by show ¬ (4 : Int) = 0; omega)
         have hE := ld_take (l := l) (k := k2) (by omega) (by omega) hns hsk
         refine WC.skip (thn_n ?_)
         refine WC.region ?_
         refine W.mv ?_
         refine W.ok (ok_loadB (i := 0) (vs := [.int .i64 _, .int .i64 _, .slice _ _ _, .slice _ _ _, .string _, .bool _, .int .i64 _, .int .i64 _, .slice _ _ _, .slice _ _ _]) ty35 rfl rfl rfl rfl (by simp)) ?_
         refine W.call (Mp := Ms66) (pset_fc hR68 ⟨_, _, _, _, _, _, _, _, rfl, (hp_n59.mono hG64), (hk_n59.mono hG64), (hm_n59.mono hG64), (hr_n59.mono hG64), hok_n59⟩) rfl (pmC (pmC (List.Perm.refl _))) ?_
         intro v73 G70 Ms72 hG70 q71
         refine match q71 with | ⟨e_75, hR74⟩ => ?_
         subst e_75
         refine W.perm (pmC (pmC (List.Perm.refl _))).symm ?_
         refine W.nil (blk_n (thn_n ?_))
         refine WC.region ?_
         refine W.ok (ok_add rfl rfl (by omega)) ?_
         refine W.mv ?_
         refine W.sub ((List.Sublist.refl _).cons _) ?_
         refine W.nil (thn_n ?_)
         exact ⟨(hG64.trans hG70), (k2 + 1, Ms72), ⟨(by first | rfl | exact iv (by dsimp only; omega) | exact iv (by omega)), (by first | rfl | exact iv (by dsimp only; omega) | exact iv (by omega)), (by first | rfl | exact iv (by dsimp only; omega) | exact iv (by omega)), (by first | rfl | exact iv (by dsimp only; omega) | exact iv (by omega)), trivial⟩, ⟨rfl, (by have h := hR74; rw [hE] at h; dsimp only at h; rw [ld_put (by omega) hsk] at h; exact h), by omega⟩, by omega⟩
       ·have p46 := of_decide_eq_false h46
        refine WC.skip (thn_n ?_)
        refine WC.region ?_
        refine W.mv ?_
        refine W.ok (ok_loadB (i := 0) (vs := [.int .i64 _, .int .i64 _, .slice _ _ _, .slice _ _ _, .string _, .bool _, .int .i64 _, .int .i64 _, .slice _ _ _, .slice _ _ _]) ty35 rfl rfl rfl rfl (by simp)) ?_
        refine W.call (Mp := M_6) (pset_fc ho_6 ⟨_, _, _, _, _, _, _, _, rfl, hp_n59, hk_n59, hm_n59, hr_n59, hok_n59⟩) rfl (pmC (pmC (List.Perm.refl _))) ?_
        intro v79 G76 Ms78 hG76 q77
        refine match q77 with | ⟨e_81, hR80⟩ => ?_
        subst e_81
        refine W.perm (pmC (pmC (List.Perm.refl _))).symm ?_
        refine W.nil (blk_n (thn_n ?_))
        refine WC.region ?_
        refine W.ok (ok_add rfl rfl (by omega)) ?_
        refine W.mv ?_
        refine W.sub ((List.Sublist.refl _).cons _) ?_
        refine W.nil (thn_n ?_)
        exact ⟨hG76, (k2 + 1, Ms78), ⟨(by first | rfl | exact iv (by dsimp only; omega) | exact iv (by omega)), (by first | rfl | exact iv (by dsimp only; omega) | exact iv (by omega)), (by first | rfl | exact iv (by dsimp only; omega) | exact iv (by omega)), (by first | rfl | exact iv (by dsimp only; omega) | exact iv (by omega)), trivial⟩, ⟨rfl, (by have h := hR80; have hk0 : k2 = 0 := (by omega); subst hk0; rw [ld_0 (by omega) hsk] at h; exact h), by omega⟩, by omega⟩
      ·have p41 := of_decide_eq_false h41
       refine WC.exit (thn_x (thn_x (blk_h (thn_n ?_))))
       refine WC.seq ?_
       refine WC.region ?_
       refine W.mv ?_
       refine W.as ?_
       refine W.as ?_
       refine W.nil (thn_n ?_)
       refine WC.ret ?_
       refine ⟨.inr rfl, [_, _], ⟨rfl, rfl, trivial⟩, (M_6 ++ []), (List.Sublist.refl _).cons _, ?_⟩
       have hS := ho_6
       have hkl : k2 = l.length := by omega
       subst hkl
       rw [ld_all (by omega)] at hS
       have hle := hS.2.1
       dsimp only at hle
       exact .inr ⟨⟨hC, by omega, hpl⟩, .inr ⟨by unfold CfgR at hC; dsimp only at hC; omega, _, rfl, by rw [List.append_nil]; exact hS⟩⟩

end Go.Proofs.Ytjbbookmgohamaa
