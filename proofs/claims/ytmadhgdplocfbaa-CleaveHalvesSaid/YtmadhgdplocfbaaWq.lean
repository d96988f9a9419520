/- The law CleaveHalves is walked. -/
import Derived.Test.YtmadhgdplocfbaaWo
import Derived.Test.YtmadhgdplocfbaaMq
import Derived.Test.YtmadhgdplocfbaaAw
namespace Go.Proofs.Ytmadhgdplocfbaa
open Go Go.Fw Go.RowKit
set_option maxRecDepth 100000
set_option maxHeartbeats 1600000
set_option linter.unusedVariables false
theorem halves22_fc {G : GH} (cf : Int) (cl : Int) (cb : Int) (cs : Int) (cr : Int) {cs_n : List Value} {n : Nd} (h_n : NodeC G cs_n n) (i : Int) (hi : i64 i) :
    Fc Try.prog 8 [.agg #[.int .i64 cf, .int .i64 cl, .int .i64 cb, .int .i64 cs, .int .i64 cr], .agg (List.toArray cs_n), .int .i64 i] G [] (fun v _ _ => v = .bool (true)) := by
  obtain ⟨pa_n, pc_n, ka_n, kc_n, ma_n, mc_n, ra_n, rc_n, rfl, hp_n, hk_n, hm_n, hr_n, hok_n⟩ := h_n
  have h1 := hp_n.len47
  have h2 := hk_n.len47
  have h3 := hm_n.len47
  have h4 := hr_n.len47
  refine Fc.intro (rs := [.tmp 6]) cl8 Try.func8 rfl Try.ntmps8 rfl rfl (fun w0 => ?_)
  refine WC.seq ?_
  refine WC.region ?_
  refine W.box (L := [.int .i64 _, .int .i64 _, .int .i64 _, .int .i64 _, .int .i64 _]) rfl rfl (fun b816 => ?_)
  refine W.box (L := [.int .i64 _, .int .i64 _, .slice _ _ _, .slice _ _ _, .string _, .bool _, .int .i64 _, .int .i64 _, .slice _ _ _, .slice _ _ _]) rfl rfl (fun b817 => ?_)
  refine W.as ?_
  refine W.nil (thn_n ?_)
  refine WC.seq ?_
  refine WC.seq ?_
  refine WC.region ?_
  refine W.ok (ok_loadB (i := 0) (vs := [.int .i64 _, .int .i64 _, .slice _ _ _, .slice _ _ _, .string _, .bool _, .int .i64 _, .int .i64 _, .slice _ _ _, .slice _ _ _]) ty45 rfl rfl rfl rfl (by simp)) ?_
  refine W.qcall (sound22_fc ⟨_, _, _, _, _, _, _, _, rfl, hp_n, hk_n, hm_n, hr_n, hok_n⟩) rfl ?_
  refine W.ok (ok_not rfl) ?_
  refine W.nil (thn_n ?_)
  refine WC.cond (b := _) rfl (fun h17 => ?_) (fun h17 => ?_)
  · refine WC.seq ?_
    refine WC.region ?_
    refine W.qcall (awake22_fc) rfl ?_
    refine W.as ?_
    refine W.nil (thn_n ?_)
    refine WC.ret (thn_r ?_)
    refine ⟨.inr rfl, [_], ⟨rfl, trivial⟩, [], List.nil_sublist _, ?_⟩
    rfl
  · have hsd : n.sound := by simpa using h17
    have hks := sound_keys hsd
    refine WC.skip (thn_n ?_)
    refine WC.seq ?_
    refine WC.region ?_
    refine W.ok (ok_loadB (i := 0) (vs := [.int .i64 _, .int .i64 _, .slice _ _ _, .slice _ _ _, .string _, .bool _, .int .i64 _, .int .i64 _, .slice _ _ _, .slice _ _ _]) ty45 rfl rfl rfl rfl (by simp)) ?_
    refine W.mv ?_
    refine W.call (Mp := []) (ncleave_fc ⟨_, _, _, _, _, _, _, _, rfl, hp_n, hk_n, hm_n, hr_n, hok_n⟩ _ (by assumption) (by assumption)) rfl (List.Perm.refl _) ?_
    intro _ G818 _ hG818 q821
    refine match q821 with | ⟨e_822, _, e_823, _, _, e_824, hv819, hv820⟩ => ?_
    subst e_822
    subst e_823
    subst e_824
    refine match hv819 with | ⟨_, _, _, _, _, _, _, _, e_825, hp_hv819, hk_hv819, hm_hv819, hr_hv819, hok_hv819⟩ => ?_
    subst e_825
    refine match hv820 with | ⟨_, _, _, _, _, _, _, _, e_826, hp_hv820, hk_hv820, hm_hv820, hr_hv820, hok_hv820⟩ => ?_
    subst e_826
    refine W.mv ?_
    refine W.ok (ok_extract rfl rfl) ?_
    refine W.ok (ok_extract rfl rfl) ?_
    refine W.ok (ok_extract rfl rfl) ?_
    refine W.ok (ok_extract rfl rfl) ?_
    refine W.alloc zr45 (fun b827 => ?_)
    refine W.alloc zr45 (fun b828 => ?_)
    refine W.store (i := 1) (vs := [.int .i64 _, .int .i64 _, .slice _ _ _, .slice _ _ _, .string _, .bool _, .int .i64 _, .int .i64 _, .slice _ _ _, .slice _ _ _]) (L' := [.int .i64 _, .int .i64 _, .slice _ _ _, .slice _ _ _, .string _, .bool _, .int .i64 _, .int .i64 _, .slice _ _ _, .slice _ _ _]) ty45 rfl rfl rfl rfl rfl rfl rfl rfl ?_
    refine W.store (i := 0) (vs := [.int .i64 _, .int .i64 _, .slice _ _ _, .slice _ _ _, .string _, .bool _, .int .i64 _, .int .i64 _, .slice _ _ _, .slice _ _ _]) (L' := [.int .i64 _, .int .i64 _, .slice _ _ _, .slice _ _ _, .string _, .bool _, .int .i64 _, .int .i64 _, .slice _ _ _, .slice _ _ _]) ty45 rfl rfl rfl rfl rfl rfl rfl rfl ?_
    refine W.as ?_
    refine W.as ?_
    refine W.nil (thn_n ?_)
    refine WC.seq ?_
    refine WC.region ?_
    refine W.ok (ok_loadB (i := 2) (vs := [.int .i64 _, .int .i64 _, .slice _ _ _, .slice _ _ _, .string _, .bool _, .int .i64 _, .int .i64 _, .slice _ _ _, .slice _ _ _]) ty45 rfl rfl rfl rfl (by simp)) ?_
    refine W.mv ?_
    refine W.call (Mp := []) (rcleave_fc ⟨_, _, _, _, _, _, _, _, rfl, (hp_n.mono hG818), (hk_n.mono hG818), (hm_n.mono hG818), (hr_n.mono hG818), hok_n⟩ _ (by assumption) (by assumption)) rfl (List.Perm.refl _) ?_
    intro _ G829 _ hG829 q832
    refine match q832 with | ⟨e_833, _, e_834, _, _, e_835, hv830, hv831⟩ => ?_
    subst e_833
    subst e_834
    subst e_835
    refine match hv830 with | ⟨_, _, _, _, _, _, _, _, e_836, hp_hv830, hk_hv830, hm_hv830, hr_hv830, hok_hv830⟩ => ?_
    subst e_836
    refine match hv831 with | ⟨_, _, _, _, _, _, _, _, e_837, hp_hv831, hk_hv831, hm_hv831, hr_hv831, hok_hv831⟩ => ?_
    subst e_837
    refine W.mv ?_
    refine W.ok (ok_extract rfl rfl) ?_
    refine W.ok (ok_extract rfl rfl) ?_
    refine W.ok (ok_extract rfl rfl) ?_
    refine W.ok (ok_extract rfl rfl) ?_
    refine W.alloc zr45 (fun b838 => ?_)
    refine W.alloc zr45 (fun b839 => ?_)
    refine W.store (i := 1) (vs := [.int .i64 _, .int .i64 _, .slice _ _ _, .slice _ _ _, .string _, .bool _, .int .i64 _, .int .i64 _, .slice _ _ _, .slice _ _ _]) (L' := [.int .i64 _, .int .i64 _, .slice _ _ _, .slice _ _ _, .string _, .bool _, .int .i64 _, .int .i64 _, .slice _ _ _, .slice _ _ _]) ty45 rfl rfl rfl rfl rfl rfl rfl rfl ?_
    refine W.store (i := 0) (vs := [.int .i64 _, .int .i64 _, .slice _ _ _, .slice _ _ _, .string _, .bool _, .int .i64 _, .int .i64 _, .slice _ _ _, .slice _ _ _]) (L' := [.int .i64 _, .int .i64 _, .slice _ _ _, .slice _ _ _, .string _, .bool _, .int .i64 _, .int .i64 _, .slice _ _ _, .slice _ _ _]) ty45 rfl rfl rfl rfl rfl rfl rfl rfl ?_
    refine W.as ?_
    refine W.as ?_
    refine W.nil (thn_n ?_)
    refine WC.seq ?_
    refine WC.seq ?_
    refine WC.region ?_
    refine W.mv ?_
    refine W.mv ?_
    refine W.ok (ok_neqB bo4 rfl rfl) ?_
    refine W.mv ?_
    refine W.sp 38 rfl (fun h37 => ?_) (fun h37 => ?_)
    · simp at h37
    · refine W.yes (dj := 38) rfl rfl h37 ?_
      refine W.mv ?_
      refine W.yes (dj := 38) rfl rfl h37 ?_
      refine W.mv ?_
      refine W.yes (dj := 38) rfl rfl h37 ?_
      refine W.ok (ok_neqS rfl rfl) ?_
      refine W.ok (ok_pick_f rfl h37) ?_
      refine W.mv ?_
      refine W.sp 43 rfl (fun h41 => ?_) (fun h41 => ?_)
      · have p41 := nd_t h41
        exact absurd rfl p41
      · have p41 := nd_f h41
        refine W.yes (dj := 43) rfl rfl h41 ?_
        refine W.ok (ok_loadB (i := 3) (vs := [.int .i64 _, .int .i64 _, .slice _ _ _, .slice _ _ _, .string _, .bool _, .int .i64 _, .int .i64 _, .slice _ _ _, .slice _ _ _]) ty45 rfl rfl rfl rfl (by simp)) ?_
        refine W.yes (dj := 43) rfl rfl h41 ?_
        refine W.ok (ok_loadB (i := 1) (vs := [.int .i64 _, .int .i64 _, .slice _ _ _, .slice _ _ _, .string _, .bool _, .int .i64 _, .int .i64 _, .slice _ _ _, .slice _ _ _]) ty45 rfl rfl rfl rfl (by simp)) ?_
        refine W.yes (dj := 43) rfl rfl h41 ?_
        refine W.qcall (nsame_fc ⟨_, _, _, _, _, _, _, _, rfl, (hp_hv819.mono hG829), (hk_hv819.mono hG829), (hm_hv819.mono hG829), (hr_hv819.mono hG829), hok_hv819⟩ ⟨_, _, _, _, _, _, _, _, rfl, hp_hv830, hk_hv830, hm_hv830, hr_hv830, hok_hv830⟩) rfl ?_
        refine W.yes (dj := 43) rfl rfl h41 ?_
        refine W.ok (ok_not rfl) ?_
        refine W.ok (ok_pick_f rfl h41) ?_
        refine W.mv ?_
        refine W.sp 49 rfl (fun h47 => ?_) (fun h47 => ?_)
        · simp at h47
        · refine W.yes (dj := 49) rfl rfl h47 ?_
          refine W.ok (ok_loadB (i := 2) (vs := [.int .i64 _, .int .i64 _, .slice _ _ _, .slice _ _ _, .string _, .bool _, .int .i64 _, .int .i64 _, .slice _ _ _, .slice _ _ _]) ty45 rfl rfl rfl rfl (by simp)) ?_
          refine W.yes (dj := 49) rfl rfl h47 ?_
          refine W.ok (ok_loadB (i := 0) (vs := [.int .i64 _, .int .i64 _, .slice _ _ _, .slice _ _ _, .string _, .bool _, .int .i64 _, .int .i64 _, .slice _ _ _, .slice _ _ _]) ty45 rfl rfl rfl rfl (by simp)) ?_
          refine W.yes (dj := 49) rfl rfl h47 ?_
          refine W.qcall (nsame_fc ⟨_, _, _, _, _, _, _, _, rfl, (hp_hv820.mono hG829), (hk_hv820.mono hG829), (hm_hv820.mono hG829), (hr_hv820.mono hG829), hok_hv820⟩ ⟨_, _, _, _, _, _, _, _, rfl, hp_hv831, hk_hv831, hm_hv831, hr_hv831, hok_hv831⟩) rfl ?_
          refine W.yes (dj := 49) rfl rfl h47 ?_
          refine W.ok (ok_not rfl) ?_
          refine W.ok (ok_pick_f rfl h47) ?_
          refine W.nil (thn_n ?_)
          refine WC.cond (b := _) rfl (fun h53 => ?_) (fun h53 => ?_)
          · simp at h53
          · refine WC.skip (thn_n ?_)
            refine WC.seq ?_
            refine WC.seq ?_
            refine WC.region ?_
            refine W.mv ?_
            refine W.ok (ok_not rfl) ?_
            refine W.mv ?_
            refine W.sp 57 rfl (fun h56 => ?_) (fun h56 => ?_)
            · refine W.no (dj := 57) rfl rfl h56 ?_
              refine W.no (dj := 57) rfl rfl h56 ?_
              refine W.ok (ok_pick_t rfl h56) ?_
              refine W.mv ?_
              refine W.no (dj := 61) rfl rfl rfl ?_
              refine W.no (dj := 61) rfl rfl rfl ?_
              refine W.no (dj := 61) rfl rfl rfl ?_
              refine W.no (dj := 61) rfl rfl rfl ?_
              refine W.ok (ok_pick_t rfl rfl) ?_
              refine W.nil (thn_n ?_)
              refine WC.cond_t rfl rfl ?_
              refine WC.seq ?_
              refine WC.region ?_
              refine W.qcall (awake22_fc) rfl ?_
              refine W.as ?_
              refine W.nil (thn_n ?_)
              refine WC.ret (thn_r ?_)
              refine ⟨.inr rfl, [_], ⟨rfl, trivial⟩, [], List.nil_sublist _, ?_⟩
              rfl
            · refine W.yes (dj := 57) rfl rfl h56 ?_
              refine W.mv ?_
              refine W.yes (dj := 57) rfl rfl h56 ?_
              refine W.ok (ok_lss rfl rfl) ?_
              refine W.ok (ok_pick_f rfl h56) ?_
              refine W.mv ?_
              refine W.sp 61 rfl (fun h59 => ?_) (fun h59 => ?_)
              · have p59 := of_decide_eq_true h59
                refine W.no (dj := 61) rfl rfl h59 ?_
                refine W.no (dj := 61) rfl rfl h59 ?_
                refine W.no (dj := 61) rfl rfl h59 ?_
                refine W.no (dj := 61) rfl rfl h59 ?_
                refine W.ok (ok_pick_t rfl h59) ?_
                refine W.nil (thn_n ?_)
                refine WC.cond_t rfl rfl ?_
                refine WC.seq ?_
                refine WC.region ?_
                refine W.qcall (awake22_fc) rfl ?_
                refine W.as ?_
                refine W.nil (thn_n ?_)
                refine WC.ret (thn_r ?_)
                refine ⟨.inr rfl, [_], ⟨rfl, trivial⟩, [], List.nil_sublist _, ?_⟩
                rfl
              · have p59 := of_decide_eq_false h59
                refine W.yes (dj := 61) rfl rfl h59 ?_
                refine W.ok (ok_loadB (i := 5) (vs := [.int .i64 _, .int .i64 _, .int .i64 _, .int .i64 _, .int .i64 _]) ty36 rfl rfl rfl rfl (by simp)) ?_
                refine W.yes (dj := 61) rfl rfl h59 ?_
                refine W.ok (ok_loadB (i := 4) (vs := [.int .i64 _, .int .i64 _, .slice _ _ _, .slice _ _ _, .string _, .bool _, .int .i64 _, .int .i64 _, .slice _ _ _, .slice _ _ _]) ty45 rfl rfl rfl rfl (by simp)) ?_
                refine W.yes (dj := 61) rfl rfl h59 ?_
                refine W.qcall (nright_fc _ _ _ _ _ ⟨_, _, _, _, _, _, _, _, rfl, (hp_n.mono (hG818.trans hG829)), (hk_n.mono (hG818.trans hG829)), (hm_n.mono (hG818.trans hG829)), (hr_n.mono (hG818.trans hG829)), hok_n⟩) rfl ?_
                refine W.yes (dj := 61) rfl rfl h59 ?_
                refine W.ok (ok_not rfl) ?_
                refine W.ok (ok_pick_f rfl h59) ?_
                refine W.nil (thn_n ?_)
                refine WC.cond (b := _) rfl (fun h65 => ?_) (fun h65 => ?_)
                · refine WC.seq ?_
                  refine WC.region ?_
                  refine W.qcall (awake22_fc) rfl ?_
                  refine W.as ?_
                  refine W.nil (thn_n ?_)
                  refine WC.ret (thn_r ?_)
                  refine ⟨.inr rfl, [_], ⟨rfl, trivial⟩, [], List.nil_sublist _, ?_⟩
                  rfl
                · have hx := cleave_R (slot := i) (n := n) (fan := cf) (leaf := cl) (bud := cb) (by simpa using h65) (by omega) (by simpa using h56)
                  refine WC.skip (thn_n ?_)
                  refine WC.seq ?_
                  refine WC.region ?_
                  refine W.ok (ok_loadB (i := 5) (vs := [.int .i64 _, .int .i64 _, .int .i64 _, .int .i64 _, .int .i64 _]) ty36 rfl rfl rfl rfl (by simp)) ?_
                  refine W.ok (ok_loadB (i := 3) (vs := [.int .i64 _, .int .i64 _, .slice _ _ _, .slice _ _ _, .string _, .bool _, .int .i64 _, .int .i64 _, .slice _ _ _, .slice _ _ _]) ty45 rfl rfl rfl rfl (by simp)) ?_
                  refine W.qcall (nright_fc _ _ _ _ _ ⟨_, _, _, _, _, _, _, _, rfl, (hp_hv819.mono hG829), (hk_hv819.mono hG829), (hm_hv819.mono hG829), (hr_hv819.mono hG829), hok_hv819⟩) rfl ?_
                  refine W.mv ?_
                  refine W.sp 71 rfl (fun h70 => ?_) (fun h70 => ?_)
                  · refine W.yes (dj := 71) rfl rfl h70 ?_
                    refine W.ok (ok_loadB (i := 5) (vs := [.int .i64 _, .int .i64 _, .int .i64 _, .int .i64 _, .int .i64 _]) ty36 rfl rfl rfl rfl (by simp)) ?_
                    refine W.yes (dj := 71) rfl rfl h70 ?_
                    refine W.ok (ok_loadB (i := 2) (vs := [.int .i64 _, .int .i64 _, .slice _ _ _, .slice _ _ _, .string _, .bool _, .int .i64 _, .int .i64 _, .slice _ _ _, .slice _ _ _]) ty45 rfl rfl rfl rfl (by simp)) ?_
                    refine W.yes (dj := 71) rfl rfl h70 ?_
                    refine W.qcall (nright_fc _ _ _ _ _ ⟨_, _, _, _, _, _, _, _, rfl, (hp_hv820.mono hG829), (hk_hv820.mono hG829), (hm_hv820.mono hG829), (hr_hv820.mono hG829), hok_hv820⟩) rfl ?_
                    refine W.ok (ok_pick_t rfl h70) ?_
                    refine W.mv ?_
                    refine W.sp 76 rfl (fun h74 => ?_) (fun h74 => ?_)
                    · refine W.yes (dj := 76) rfl rfl h74 ?_
                      refine W.ok (ok_fieldB fd45_3 rfl) ?_
                      refine W.yes (dj := 76) rfl rfl h74 ?_
                      refine W.ok (ok_loadB (i := 3) (vs := [.slice _ _ _]) ty26 rfl rfl rfl rfl (by simp)) ?_
                      refine W.yes (dj := 76) rfl rfl h74 ?_
                      refine W.ok (ok_len sl26 (hk_hv819.mono hG829) rfl) ?_
                      refine W.yes (dj := 76) rfl rfl h74 ?_
                      refine W.ok (ok_fieldB fd45_3 rfl) ?_
                      refine W.yes (dj := 76) rfl rfl h74 ?_
                      refine W.ok (ok_loadB (i := 2) (vs := [.slice _ _ _]) ty26 rfl rfl rfl rfl (by simp)) ?_
                      refine W.yes (dj := 76) rfl rfl h74 ?_
                      refine W.ok (ok_len sl26 (hk_hv820.mono hG829) rfl) ?_
                      refine W.yes (dj := 76) rfl rfl h74 ?_
                      refine W.ok (ok_add rfl rfl (by omega)) ?_
                      refine W.yes (dj := 76) rfl rfl h74 ?_
                      refine W.ok (ok_fieldB fd45_3 rfl) ?_
                      refine W.yes (dj := 76) rfl rfl h74 ?_
                      refine W.ok (ok_loadB (i := 4) (vs := [.slice _ _ _]) ty26 rfl rfl rfl rfl (by simp)) ?_
                      refine W.yes (dj := 76) rfl rfl h74 ?_
                      refine W.ok (ok_len sl26 (hk_n.mono (hG818.trans hG829)) rfl) ?_
                      refine W.yes (dj := 76) rfl rfl h74 ?_
                      refine W.ok (ok_eql rfl rfl) ?_
                      refine W.ok (ok_pick_t rfl h74) ?_
                      refine W.mv ?_
                      refine W.sp 89 rfl (fun h87 => ?_) (fun h87 => ?_)
                      · have p87 := of_decide_eq_true h87
                        refine W.yes (dj := 89) rfl rfl h87 ?_
                        refine W.ok (ok_fieldB fd45_9 rfl) ?_
                        refine W.yes (dj := 89) rfl rfl h87 ?_
                        refine W.ok (ok_loadB (i := 3) (vs := [.slice _ _ _]) ty42 rfl rfl rfl rfl (by simp)) ?_
                        refine W.yes (dj := 89) rfl rfl h87 ?_
                        refine W.ok (ok_len sl42 (hr_hv819.mono hG829) rfl) ?_
                        refine W.yes (dj := 89) rfl rfl h87 ?_
                        refine W.ok (ok_fieldB fd45_9 rfl) ?_
                        refine W.yes (dj := 89) rfl rfl h87 ?_
                        refine W.ok (ok_loadB (i := 2) (vs := [.slice _ _ _]) ty42 rfl rfl rfl rfl (by simp)) ?_
                        refine W.yes (dj := 89) rfl rfl h87 ?_
                        refine W.ok (ok_len sl42 (hr_hv820.mono hG829) rfl) ?_
                        refine W.yes (dj := 89) rfl rfl h87 ?_
                        refine W.ok (ok_add rfl rfl (by omega)) ?_
                        refine W.yes (dj := 89) rfl rfl h87 ?_
                        refine W.ok (ok_fieldB fd45_9 rfl) ?_
                        refine W.yes (dj := 89) rfl rfl h87 ?_
                        refine W.ok (ok_loadB (i := 4) (vs := [.slice _ _ _]) ty42 rfl rfl rfl rfl (by simp)) ?_
                        refine W.yes (dj := 89) rfl rfl h87 ?_
                        refine W.ok (ok_len sl42 (hr_n.mono (hG818.trans hG829)) rfl) ?_
                        refine W.yes (dj := 89) rfl rfl h87 ?_
                        refine W.ok (ok_eql rfl rfl) ?_
                        refine W.ok (ok_pick_t rfl h87) ?_
                        refine W.mv ?_
                        refine W.sp 102 rfl (fun h100 => ?_) (fun h100 => ?_)
                        · have p100 := of_decide_eq_true h100
                          refine W.yes (dj := 102) rfl rfl h100 ?_
                          refine W.qcall (awake22_fc) rfl ?_
                          refine W.ok (ok_pick_t rfl h100) ?_
                          refine W.as ?_
                          refine W.nil (thn_n ?_)
                          refine WC.ret ?_
                          refine ⟨.inr rfl, [_], ⟨rfl, trivial⟩, [], List.nil_sublist _, ?_⟩
                          rfl
                        · have p100 := of_decide_eq_false h100
                          exact absurd (by omega) p100
                      · have p87 := of_decide_eq_false h87
                        exact absurd (by omega) p87
                    · simp [hx.2.1] at h74
                  · simp [hx.1] at h70

end Go.Proofs.Ytmadhgdplocfbaa
