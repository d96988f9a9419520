/- Walks of functions on two nodes. -/
import Derived.Test.YtmadhgdplocfbaaWi
namespace Go.Proofs.Ytmadhgdplocfbaa
open Go Go.Fw Go.RowKit
set_option maxRecDepth 100000
set_option maxHeartbeats 1600000
set_option linter.unusedVariables false
theorem nsame_fc {G : GH} {cs_a : List Value} {a : Nd} (h_a : NodeC G cs_a a) {cs_b : List Value} {b : Nd} (h_b : NodeC G cs_b b) :
    Fc Try.prog 55 [.agg (List.toArray cs_a), .agg (List.toArray cs_b)] G [] (fun v _ _ => v = .bool (decide (a = b))) := by
  obtain ⟨_, _, _, _, _, _, _, _, rfl, hp_a, hk_a, hm_a, hr_a, hok_a⟩ := h_a
  obtain ⟨_, _, _, _, _, _, _, _, rfl, hp_b, hk_b, hm_b, hr_b, hok_b⟩ := h_b
  refine Fc.intro (rs := [.tmp 4]) cl55 Try.func55 rfl Try.ntmps55 rfl rfl (fun w0 => ?_)
  refine WC.seq ?_
  refine WC.region ?_
  refine W.box (L := [.int .i64 _, .int .i64 _, .slice _ _ _, .slice _ _ _, .string _, .bool _, .int .i64 _, .int .i64 _, .slice _ _ _, .slice _ _ _]) rfl rfl (fun b301 => ?_)
  refine W.box (L := [.int .i64 _, .int .i64 _, .slice _ _ _, .slice _ _ _, .string _, .bool _, .int .i64 _, .int .i64 _, .slice _ _ _, .slice _ _ _]) rfl rfl (fun b302 => ?_)
  refine W.as ?_
  refine W.nil (thn_n ?_)
  refine WC.seq ?_
  refine WC.seq ?_
  refine WC.region ?_
  refine W.ok (ok_fieldB fd45_0 rfl) ?_
  refine W.ok (ok_loadB (i := 1) (vs := [.int .i64 _]) ty3 rfl rfl rfl rfl (by simp)) ?_
  refine W.ok (ok_fieldB fd45_0 rfl) ?_
  refine W.ok (ok_loadB (i := 0) (vs := [.int .i64 _]) ty3 rfl rfl rfl rfl (by simp)) ?_
  refine W.ok (ok_neq rfl rfl) ?_
  refine W.mv ?_
  refine W.sp 10 rfl (fun h9 => ?_) (fun h9 => ?_)
  · have p9 := nd_t h9
    refine W.no (dj := 10) rfl rfl h9 ?_
    refine W.no (dj := 10) rfl rfl h9 ?_
    refine W.no (dj := 10) rfl rfl h9 ?_
    refine W.no (dj := 10) rfl rfl h9 ?_
    refine W.no (dj := 10) rfl rfl h9 ?_
    refine W.ok (ok_pick_t rfl h9) ?_
    refine W.mv ?_
    refine W.no (dj := 17) rfl rfl rfl ?_
    refine W.no (dj := 17) rfl rfl rfl ?_
    refine W.no (dj := 17) rfl rfl rfl ?_
    refine W.no (dj := 17) rfl rfl rfl ?_
    refine W.no (dj := 17) rfl rfl rfl ?_
    refine W.ok (ok_pick_t rfl rfl) ?_
    refine W.mv ?_
    refine W.no (dj := 24) rfl rfl rfl ?_
    refine W.no (dj := 24) rfl rfl rfl ?_
    refine W.no (dj := 24) rfl rfl rfl ?_
    refine W.no (dj := 24) rfl rfl rfl ?_
    refine W.no (dj := 24) rfl rfl rfl ?_
    refine W.ok (ok_pick_t rfl rfl) ?_
    refine W.mv ?_
    refine W.no (dj := 31) rfl rfl rfl ?_
    refine W.no (dj := 31) rfl rfl rfl ?_
    refine W.no (dj := 31) rfl rfl rfl ?_
    refine W.no (dj := 31) rfl rfl rfl ?_
    refine W.no (dj := 31) rfl rfl rfl ?_
    refine W.ok (ok_pick_t rfl rfl) ?_
    refine W.mv ?_
    refine W.no (dj := 38) rfl rfl rfl ?_
    refine W.no (dj := 38) rfl rfl rfl ?_
    refine W.no (dj := 38) rfl rfl rfl ?_
    refine W.no (dj := 38) rfl rfl rfl ?_
    refine W.no (dj := 38) rfl rfl rfl ?_
    refine W.ok (ok_pick_t rfl rfl) ?_
    refine W.nil (thn_n ?_)
    refine WC.cond_t rfl rfl ?_
    refine WC.seq ?_
    refine WC.region ?_
    refine W.as ?_
    refine W.nil (thn_n ?_)
    refine WC.ret (thn_r ?_)
    refine ⟨.inr rfl, [_], ⟨rfl, trivial⟩, [], List.nil_sublist _, ?_⟩
    refine congrArg Value.bool ?_
    rw [Bool.eq_iff_iff, decide_eq_true_iff]
    clear hp_a hk_a hm_a hr_a hok_a hp_b hk_b hm_b hr_b hok_b
    cases a; cases b
    simp_all [Str.b_inj]
  · have p9 := nd_f h9
    refine W.yes (dj := 10) rfl rfl h9 ?_
    refine W.ok (ok_fieldB fd45_1 rfl) ?_
    refine W.yes (dj := 10) rfl rfl h9 ?_
    refine W.ok (ok_loadB (i := 1) (vs := [.int .i64 _]) ty3 rfl rfl rfl rfl (by simp)) ?_
    refine W.yes (dj := 10) rfl rfl h9 ?_
    refine W.ok (ok_fieldB fd45_1 rfl) ?_
    refine W.yes (dj := 10) rfl rfl h9 ?_
    refine W.ok (ok_loadB (i := 0) (vs := [.int .i64 _]) ty3 rfl rfl rfl rfl (by simp)) ?_
    refine W.yes (dj := 10) rfl rfl h9 ?_
    refine W.ok (ok_neq rfl rfl) ?_
    refine W.ok (ok_pick_f rfl h9) ?_
    refine W.mv ?_
    refine W.sp 17 rfl (fun h15 => ?_) (fun h15 => ?_)
    · have p15 := nd_t h15
      refine W.no (dj := 17) rfl rfl h15 ?_
      refine W.no (dj := 17) rfl rfl h15 ?_
      refine W.no (dj := 17) rfl rfl h15 ?_
      refine W.no (dj := 17) rfl rfl h15 ?_
      refine W.no (dj := 17) rfl rfl h15 ?_
      refine W.ok (ok_pick_t rfl h15) ?_
      refine W.mv ?_
      refine W.no (dj := 24) rfl rfl rfl ?_
      refine W.no (dj := 24) rfl rfl rfl ?_
      refine W.no (dj := 24) rfl rfl rfl ?_
      refine W.no (dj := 24) rfl rfl rfl ?_
      refine W.no (dj := 24) rfl rfl rfl ?_
      refine W.ok (ok_pick_t rfl rfl) ?_
      refine W.mv ?_
      refine W.no (dj := 31) rfl rfl rfl ?_
      refine W.no (dj := 31) rfl rfl rfl ?_
      refine W.no (dj := 31) rfl rfl rfl ?_
      refine W.no (dj := 31) rfl rfl rfl ?_
      refine W.no (dj := 31) rfl rfl rfl ?_
      refine W.ok (ok_pick_t rfl rfl) ?_
      refine W.mv ?_
      refine W.no (dj := 38) rfl rfl rfl ?_
      refine W.no (dj := 38) rfl rfl rfl ?_
      refine W.no (dj := 38) rfl rfl rfl ?_
      refine W.no (dj := 38) rfl rfl rfl ?_
      refine W.no (dj := 38) rfl rfl rfl ?_
      refine W.ok (ok_pick_t rfl rfl) ?_
      refine W.nil (thn_n ?_)
      refine WC.cond_t rfl rfl ?_
      refine WC.seq ?_
      refine WC.region ?_
      refine W.as ?_
      refine W.nil (thn_n ?_)
      refine WC.ret (thn_r ?_)
      refine ⟨.inr rfl, [_], ⟨rfl, trivial⟩, [], List.nil_sublist _, ?_⟩
      refine congrArg Value.bool ?_
      rw [Bool.eq_iff_iff, decide_eq_true_iff]
      clear hp_a hk_a hm_a hr_a hok_a hp_b hk_b hm_b hr_b hok_b
      cases a; cases b
      simp_all [Str.b_inj]
    · have p15 := nd_f h15
      refine W.yes (dj := 17) rfl rfl h15 ?_
      refine W.ok (ok_fieldB fd45_4 rfl) ?_
      refine W.yes (dj := 17) rfl rfl h15 ?_
      refine W.ok (ok_loadB (i := 1) (vs := [.string _]) ty9 rfl rfl rfl rfl (by simp)) ?_
      refine W.yes (dj := 17) rfl rfl h15 ?_
      refine W.ok (ok_fieldB fd45_4 rfl) ?_
      refine W.yes (dj := 17) rfl rfl h15 ?_
      refine W.ok (ok_loadB (i := 0) (vs := [.string _]) ty9 rfl rfl rfl rfl (by simp)) ?_
      refine W.yes (dj := 17) rfl rfl h15 ?_
      refine W.ok (ok_neqS rfl rfl) ?_
      refine W.ok (ok_pick_f rfl h15) ?_
      refine W.mv ?_
      refine W.sp 24 rfl (fun h22 => ?_) (fun h22 => ?_)
      · have p22 := nd_t h22
        refine W.no (dj := 24) rfl rfl h22 ?_
        refine W.no (dj := 24) rfl rfl h22 ?_
        refine W.no (dj := 24) rfl rfl h22 ?_
        refine W.no (dj := 24) rfl rfl h22 ?_
        refine W.no (dj := 24) rfl rfl h22 ?_
        refine W.ok (ok_pick_t rfl h22) ?_
        refine W.mv ?_
        refine W.no (dj := 31) rfl rfl rfl ?_
        refine W.no (dj := 31) rfl rfl rfl ?_
        refine W.no (dj := 31) rfl rfl rfl ?_
        refine W.no (dj := 31) rfl rfl rfl ?_
        refine W.no (dj := 31) rfl rfl rfl ?_
        refine W.ok (ok_pick_t rfl rfl) ?_
        refine W.mv ?_
        refine W.no (dj := 38) rfl rfl rfl ?_
        refine W.no (dj := 38) rfl rfl rfl ?_
        refine W.no (dj := 38) rfl rfl rfl ?_
        refine W.no (dj := 38) rfl rfl rfl ?_
        refine W.no (dj := 38) rfl rfl rfl ?_
        refine W.ok (ok_pick_t rfl rfl) ?_
        refine W.nil (thn_n ?_)
        refine WC.cond_t rfl rfl ?_
        refine WC.seq ?_
        refine WC.region ?_
        refine W.as ?_
        refine W.nil (thn_n ?_)
        refine WC.ret (thn_r ?_)
        refine ⟨.inr rfl, [_], ⟨rfl, trivial⟩, [], List.nil_sublist _, ?_⟩
        refine congrArg Value.bool ?_
        rw [Bool.eq_iff_iff, decide_eq_true_iff]
        clear hp_a hk_a hm_a hr_a hok_a hp_b hk_b hm_b hr_b hok_b
        cases a; cases b
        simp_all [Str.b_inj]
      · have p22 := nd_f h22
        refine W.yes (dj := 24) rfl rfl h22 ?_
        refine W.ok (ok_fieldB fd45_5 rfl) ?_
        refine W.yes (dj := 24) rfl rfl h22 ?_
        refine W.ok (ok_loadB (i := 1) (vs := [.bool _]) ty4 rfl rfl rfl rfl (by simp)) ?_
        refine W.yes (dj := 24) rfl rfl h22 ?_
        refine W.ok (ok_fieldB fd45_5 rfl) ?_
        refine W.yes (dj := 24) rfl rfl h22 ?_
        refine W.ok (ok_loadB (i := 0) (vs := [.bool _]) ty4 rfl rfl rfl rfl (by simp)) ?_
        refine W.yes (dj := 24) rfl rfl h22 ?_
        refine W.ok (ok_neqB bo4 rfl rfl) ?_
        refine W.ok (ok_pick_f rfl h22) ?_
        refine W.mv ?_
        refine W.sp 31 rfl (fun h29 => ?_) (fun h29 => ?_)
        · refine W.no (dj := 31) rfl rfl h29 ?_
          refine W.no (dj := 31) rfl rfl h29 ?_
          refine W.no (dj := 31) rfl rfl h29 ?_
          refine W.no (dj := 31) rfl rfl h29 ?_
          refine W.no (dj := 31) rfl rfl h29 ?_
          refine W.ok (ok_pick_t rfl h29) ?_
          refine W.mv ?_
          refine W.no (dj := 38) rfl rfl rfl ?_
          refine W.no (dj := 38) rfl rfl rfl ?_
          refine W.no (dj := 38) rfl rfl rfl ?_
          refine W.no (dj := 38) rfl rfl rfl ?_
          refine W.no (dj := 38) rfl rfl rfl ?_
          refine W.ok (ok_pick_t rfl rfl) ?_
          refine W.nil (thn_n ?_)
          refine WC.cond_t rfl rfl ?_
          refine WC.seq ?_
          refine WC.region ?_
          refine W.as ?_
          refine W.nil (thn_n ?_)
          refine WC.ret (thn_r ?_)
          refine ⟨.inr rfl, [_], ⟨rfl, trivial⟩, [], List.nil_sublist _, ?_⟩
          refine congrArg Value.bool ?_
          rw [Bool.eq_iff_iff, decide_eq_true_iff]
          clear hp_a hk_a hm_a hr_a hok_a hp_b hk_b hm_b hr_b hok_b
          cases a; cases b
          simp_all [Str.b_inj]
        · refine W.yes (dj := 31) rfl rfl h29 ?_
          refine W.ok (ok_fieldB fd45_6 rfl) ?_
          refine W.yes (dj := 31) rfl rfl h29 ?_
          refine W.ok (ok_loadB (i := 1) (vs := [.int .i64 _]) ty3 rfl rfl rfl rfl (by simp)) ?_
          refine W.yes (dj := 31) rfl rfl h29 ?_
          refine W.ok (ok_fieldB fd45_6 rfl) ?_
          refine W.yes (dj := 31) rfl rfl h29 ?_
          refine W.ok (ok_loadB (i := 0) (vs := [.int .i64 _]) ty3 rfl rfl rfl rfl (by simp)) ?_
          refine W.yes (dj := 31) rfl rfl h29 ?_
          refine W.ok (ok_neq rfl rfl) ?_
          refine W.ok (ok_pick_f rfl h29) ?_
          refine W.mv ?_
          refine W.sp 38 rfl (fun h36 => ?_) (fun h36 => ?_)
          · have p36 := nd_t h36
            refine W.no (dj := 38) rfl rfl h36 ?_
            refine W.no (dj := 38) rfl rfl h36 ?_
            refine W.no (dj := 38) rfl rfl h36 ?_
            refine W.no (dj := 38) rfl rfl h36 ?_
            refine W.no (dj := 38) rfl rfl h36 ?_
            refine W.ok (ok_pick_t rfl h36) ?_
            refine W.nil (thn_n ?_)
            refine WC.cond_t rfl rfl ?_
            refine WC.seq ?_
            refine WC.region ?_
            refine W.as ?_
            refine W.nil (thn_n ?_)
            refine WC.ret (thn_r ?_)
            refine ⟨.inr rfl, [_], ⟨rfl, trivial⟩, [], List.nil_sublist _, ?_⟩
            refine congrArg Value.bool ?_
            rw [Bool.eq_iff_iff, decide_eq_true_iff]
            clear hp_a hk_a hm_a hr_a hok_a hp_b hk_b hm_b hr_b hok_b
            cases a; cases b
            simp_all [Str.b_inj]
          · have p36 := nd_f h36
            refine W.yes (dj := 38) rfl rfl h36 ?_
            refine W.ok (ok_fieldB fd45_7 rfl) ?_
            refine W.yes (dj := 38) rfl rfl h36 ?_
            refine W.ok (ok_loadB (i := 1) (vs := [.int .i64 _]) ty3 rfl rfl rfl rfl (by simp)) ?_
            refine W.yes (dj := 38) rfl rfl h36 ?_
            refine W.ok (ok_fieldB fd45_7 rfl) ?_
            refine W.yes (dj := 38) rfl rfl h36 ?_
            refine W.ok (ok_loadB (i := 0) (vs := [.int .i64 _]) ty3 rfl rfl rfl rfl (by simp)) ?_
            refine W.yes (dj := 38) rfl rfl h36 ?_
            refine W.ok (ok_neq rfl rfl) ?_
            refine W.ok (ok_pick_f rfl h36) ?_
            refine W.nil (thn_n ?_)
            refine WC.cond (b := _) rfl (fun h43 => ?_) (fun h43 => ?_)
            · have p43 := nd_t h43
              refine WC.seq ?_
              refine WC.region ?_
              refine W.as ?_
              refine W.nil (thn_n ?_)
              refine WC.ret (thn_r ?_)
              refine ⟨.inr rfl, [_], ⟨rfl, trivial⟩, [], List.nil_sublist _, ?_⟩
              refine congrArg Value.bool ?_
              rw [Bool.eq_iff_iff, decide_eq_true_iff]
              clear hp_a hk_a hm_a hr_a hok_a hp_b hk_b hm_b hr_b hok_b
              cases a; cases b
              simp_all [Str.b_inj]
            · have p43 := nd_f h43
              refine WC.skip (thn_n ?_)
              refine WC.seq ?_
              refine WC.region ?_
              refine W.ok (ok_fieldB fd45_2 rfl) ?_
              refine W.ok (ok_loadB (i := 1) (vs := [.slice _ _ _]) ty25 rfl rfl rfl rfl (by simp)) ?_
              refine W.ok (ok_fieldB fd45_2 rfl) ?_
              refine W.ok (ok_loadB (i := 0) (vs := [.slice _ _ _]) ty25 rfl rfl rfl rfl (by simp)) ?_
              refine W.qcall (same_fc hp_a hp_b) rfl ?_
              refine W.mv ?_
              refine W.sp 50 rfl (fun h49 => ?_) (fun h49 => ?_)
              · refine W.yes (dj := 50) rfl rfl h49 ?_
                refine W.ok (ok_fieldB fd45_3 rfl) ?_
                refine W.yes (dj := 50) rfl rfl h49 ?_
                refine W.ok (ok_loadB (i := 1) (vs := [.slice _ _ _]) ty26 rfl rfl rfl rfl (by simp)) ?_
                refine W.yes (dj := 50) rfl rfl h49 ?_
                refine W.ok (ok_fieldB fd45_3 rfl) ?_
                refine W.yes (dj := 50) rfl rfl h49 ?_
                refine W.ok (ok_loadB (i := 0) (vs := [.slice _ _ _]) ty26 rfl rfl rfl rfl (by simp)) ?_
                refine W.yes (dj := 50) rfl rfl h49 ?_
                refine W.qcall (ints_fc hk_a hk_b) rfl ?_
                refine W.ok (ok_pick_t rfl h49) ?_
                refine W.mv ?_
                refine W.sp 57 rfl (fun h55 => ?_) (fun h55 => ?_)
                · refine W.yes (dj := 57) rfl rfl h55 ?_
                  refine W.ok (ok_fieldB fd45_8 rfl) ?_
                  refine W.yes (dj := 57) rfl rfl h55 ?_
                  refine W.ok (ok_loadB (i := 1) (vs := [.slice _ _ _]) ty43 rfl rfl rfl rfl (by simp)) ?_
                  refine W.yes (dj := 57) rfl rfl h55 ?_
                  refine W.ok (ok_fieldB fd45_8 rfl) ?_
                  refine W.yes (dj := 57) rfl rfl h55 ?_
                  refine W.ok (ok_loadB (i := 0) (vs := [.slice _ _ _]) ty43 rfl rfl rfl rfl (by simp)) ?_
                  refine W.yes (dj := 57) rfl rfl h55 ?_
                  refine W.qcall (samem_fc hm_a hm_b) rfl ?_
                  refine W.ok (ok_pick_t rfl h55) ?_
                  refine W.mv ?_
                  refine W.sp 64 rfl (fun h62 => ?_) (fun h62 => ?_)
                  · refine W.yes (dj := 64) rfl rfl h62 ?_
                    refine W.ok (ok_fieldB fd45_9 rfl) ?_
                    refine W.yes (dj := 64) rfl rfl h62 ?_
                    refine W.ok (ok_loadB (i := 1) (vs := [.slice _ _ _]) ty42 rfl rfl rfl rfl (by simp)) ?_
                    refine W.yes (dj := 64) rfl rfl h62 ?_
                    refine W.ok (ok_fieldB fd45_9 rfl) ?_
                    refine W.yes (dj := 64) rfl rfl h62 ?_
                    refine W.ok (ok_loadB (i := 0) (vs := [.slice _ _ _]) ty42 rfl rfl rfl rfl (by simp)) ?_
                    refine W.yes (dj := 64) rfl rfl h62 ?_
                    refine W.qcall (samep_fc hr_a hr_b) rfl ?_
                    refine W.ok (ok_pick_t rfl h62) ?_
                    refine W.as ?_
                    refine W.nil (thn_n ?_)
                    refine WC.ret ?_
                    refine ⟨.inr rfl, [_], ⟨rfl, trivial⟩, [], List.nil_sublist _, ?_⟩
                    refine congrArg Value.bool ?_
                    rw [Bool.eq_iff_iff, decide_eq_true_iff]
                    clear hp_a hk_a hm_a hr_a hok_a hp_b hk_b hm_b hr_b hok_b
                    cases a; cases b
                    simp_all [Str.b_inj]
                  · refine W.no (dj := 64) rfl rfl h62 ?_
                    refine W.no (dj := 64) rfl rfl h62 ?_
                    refine W.no (dj := 64) rfl rfl h62 ?_
                    refine W.no (dj := 64) rfl rfl h62 ?_
                    refine W.no (dj := 64) rfl rfl h62 ?_
                    refine W.ok (ok_pick_f rfl h62) ?_
                    refine W.as ?_
                    refine W.nil (thn_n ?_)
                    refine WC.ret ?_
                    refine ⟨.inr rfl, [_], ⟨rfl, trivial⟩, [], List.nil_sublist _, ?_⟩
                    refine congrArg Value.bool ?_
                    rw [Bool.eq_iff_iff, decide_eq_true_iff]
                    clear hp_a hk_a hm_a hr_a hok_a hp_b hk_b hm_b hr_b hok_b
                    cases a; cases b
                    simp_all [Str.b_inj]
                · refine W.no (dj := 57) rfl rfl h55 ?_
                  refine W.no (dj := 57) rfl rfl h55 ?_
                  refine W.no (dj := 57) rfl rfl h55 ?_
                  refine W.no (dj := 57) rfl rfl h55 ?_
                  refine W.no (dj := 57) rfl rfl h55 ?_
                  refine W.ok (ok_pick_f rfl h55) ?_
                  refine W.mv ?_
                  refine W.no (dj := 64) rfl rfl rfl ?_
                  refine W.no (dj := 64) rfl rfl rfl ?_
                  refine W.no (dj := 64) rfl rfl rfl ?_
                  refine W.no (dj := 64) rfl rfl rfl ?_
                  refine W.no (dj := 64) rfl rfl rfl ?_
                  refine W.ok (ok_pick_f rfl rfl) ?_
                  refine W.as ?_
                  refine W.nil (thn_n ?_)
                  refine WC.ret ?_
                  refine ⟨.inr rfl, [_], ⟨rfl, trivial⟩, [], List.nil_sublist _, ?_⟩
                  refine congrArg Value.bool ?_
                  rw [Bool.eq_iff_iff, decide_eq_true_iff]
                  clear hp_a hk_a hm_a hr_a hok_a hp_b hk_b hm_b hr_b hok_b
                  cases a; cases b
                  simp_all [Str.b_inj]
              · refine W.no (dj := 50) rfl rfl h49 ?_
                refine W.no (dj := 50) rfl rfl h49 ?_
                refine W.no (dj := 50) rfl rfl h49 ?_
                refine W.no (dj := 50) rfl rfl h49 ?_
                refine W.no (dj := 50) rfl rfl h49 ?_
                refine W.ok (ok_pick_f rfl h49) ?_
                refine W.mv ?_
                refine W.no (dj := 57) rfl rfl rfl ?_
                refine W.no (dj := 57) rfl rfl rfl ?_
                refine W.no (dj := 57) rfl rfl rfl ?_
                refine W.no (dj := 57) rfl rfl rfl ?_
                refine W.no (dj := 57) rfl rfl rfl ?_
                refine W.ok (ok_pick_f rfl rfl) ?_
                refine W.mv ?_
                refine W.no (dj := 64) rfl rfl rfl ?_
                refine W.no (dj := 64) rfl rfl rfl ?_
                refine W.no (dj := 64) rfl rfl rfl ?_
                refine W.no (dj := 64) rfl rfl rfl ?_
                refine W.no (dj := 64) rfl rfl rfl ?_
                refine W.ok (ok_pick_f rfl rfl) ?_
                refine W.as ?_
                refine W.nil (thn_n ?_)
                refine WC.ret ?_
                refine ⟨.inr rfl, [_], ⟨rfl, trivial⟩, [], List.nil_sublist _, ?_⟩
                refine congrArg Value.bool ?_
                rw [Bool.eq_iff_iff, decide_eq_true_iff]
                clear hp_a hk_a hm_a hr_a hok_a hp_b hk_b hm_b hr_b hok_b
                cases a; cases b
                simp_all [Str.b_inj]

theorem nhas_fc {G : GH} {cs_a : List Value} {a : Nd} (h_a : NodeC G cs_a a) (k : Str) :
    Fc Try.prog 195 [.agg (List.toArray cs_a), .string k.b] G [] (fun v _ _ => v = .bool (a.top || k.lt a.high)) := by
  obtain ⟨_, _, _, _, _, _, _, _, rfl, hp_a, hk_a, hm_a, hr_a, hok_a⟩ := h_a
  refine Fc.intro (rs := [.tmp 4]) cl195 Try.func195 rfl Try.ntmps195 rfl rfl (fun w0 => ?_)
  refine WC.seq ?_
  refine WC.region ?_
  refine W.box (L := [.int .i64 _, .int .i64 _, .slice _ _ _, .slice _ _ _, .string _, .bool _, .int .i64 _, .int .i64 _, .slice _ _ _, .slice _ _ _]) rfl rfl (fun b303 => ?_)
  refine W.as ?_
  refine W.nil (thn_n ?_)
  refine WC.seq ?_
  refine WC.region ?_
  refine W.ok (ok_fieldB fd45_5 rfl) ?_
  refine W.ok (ok_loadB (i := 0) (vs := [.bool _]) ty4 rfl rfl rfl rfl (by simp)) ?_
  refine W.mv ?_
  refine W.sp 7 rfl (fun hb_top_a => ?_) (fun hb_top_a => ?_)
  · refine W.no (dj := 7) rfl rfl hb_top_a ?_
    refine W.no (dj := 7) rfl rfl hb_top_a ?_
    refine W.no (dj := 7) rfl rfl hb_top_a ?_
    refine W.no (dj := 7) rfl rfl hb_top_a ?_
    refine W.ok (ok_pick_t rfl hb_top_a) ?_
    refine W.as ?_
    refine W.nil (thn_n ?_)
    refine WC.ret ?_
    refine ⟨.inr rfl, [_], ⟨rfl, trivial⟩, [], List.nil_sublist _, ?_⟩
    refine congrArg Value.bool ?_
    simp_all
  · refine W.yes (dj := 7) rfl rfl hb_top_a ?_
    refine W.mv ?_
    refine W.yes (dj := 7) rfl rfl hb_top_a ?_
    refine W.ok (ok_fieldB fd45_4 rfl) ?_
    refine W.yes (dj := 7) rfl rfl hb_top_a ?_
    refine W.ok (ok_loadB (i := 0) (vs := [.string _]) ty9 rfl rfl rfl rfl (by simp)) ?_
    refine W.yes (dj := 7) rfl rfl hb_top_a ?_
    refine W.qcall (less_fc _ _) rfl ?_
    refine W.ok (ok_pick_f rfl hb_top_a) ?_
    refine W.as ?_
    refine W.nil (thn_n ?_)
    refine WC.ret ?_
    refine ⟨.inr rfl, [_], ⟨rfl, trivial⟩, [], List.nil_sublist _, ?_⟩
    refine congrArg Value.bool ?_
    simp_all

end Go.Proofs.Ytmadhgdplocfbaa
