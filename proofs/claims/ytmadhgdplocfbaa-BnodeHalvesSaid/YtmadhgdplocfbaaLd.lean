/- The walk of the law BnodeHalves. -/
import Derived.Test.YtmadhgdplocfbaaLb
import Derived.Test.YtmadhgdplocfbaaWc
import Derived.Test.YtmadhgdplocfbaaSr
namespace Go.Proofs.Ytmadhgdplocfbaa
open Go Go.Fw Go.RowKit
set_option maxRecDepth 100000
set_option maxHeartbeats 1600000
set_option linter.unusedVariables false
theorem halves_fc {G : GH} {v_p : Value} {p : List Str} (h_p : SlR eStr G v_p p) {v_c : Value} {c : List Int} (h_c : SlR eInt G v_c c) :
    Fc Try.prog 6 [v_p, v_c] G [] (fun v _ _ => v = .bool (true)) := by
  obtain ⟨sa_p, sc_p, rfl⟩ := h_p.form
  obtain ⟨sa_c, sc_c, rfl⟩ := h_c.form
  have hl := h_p.len47
  have hc := h_c.len47
  refine Fc.intro (rs := [.tmp 4]) cl6 Try.func6 rfl Try.ntmps6 rfl rfl (fun w0 => ?_)
  refine WC.seq ?_
  refine WC.region ?_
  refine W.as ?_
  refine W.nil (thn_n ?_)
  refine WC.seq ?_
  refine WC.seq ?_
  refine WC.region ?_
  refine W.mv ?_
  refine W.qcall (rlong_fc h_p _ (by omega)) rfl ?_
  refine W.ok (ok_gtr rfl rfl) ?_
  refine W.mv ?_
  refine W.sp 17 rfl (fun h16 => ?_) (fun h16 => ?_)
  · have p16 := of_decide_eq_true h16
    refine W.no (dj := 17) rfl rfl h16 ?_
    refine W.no (dj := 17) rfl rfl h16 ?_
    refine W.no (dj := 17) rfl rfl h16 ?_
    refine W.ok (ok_pick_t rfl h16) ?_
    refine W.mv ?_
    refine W.no (dj := 22) rfl rfl rfl ?_
    refine W.no (dj := 22) rfl rfl rfl ?_
    refine W.no (dj := 22) rfl rfl rfl ?_
    refine W.no (dj := 22) rfl rfl rfl ?_
    refine W.ok (ok_pick_t rfl rfl) ?_
    refine W.nil (thn_n ?_)
    refine WC.cond_t rfl rfl ?_
    refine WC.seq ?_
    refine WC.region ?_
    refine W.qcall (awake15_fc) rfl ?_
    refine W.as ?_
    refine W.nil (thn_n ?_)
    refine WC.ret (thn_r ?_)
    refine ⟨.inr rfl, [_], ⟨rfl, trivial⟩, [], List.nil_sublist _, ?_⟩
    rfl
  · have p16 := of_decide_eq_false h16
    refine W.yes (dj := 17) rfl rfl h16 ?_
    refine W.mv ?_
    refine W.yes (dj := 17) rfl rfl h16 ?_
    refine W.ok (ok_len sl26 h_c rfl) ?_
    refine W.yes (dj := 17) rfl rfl h16 ?_
    refine W.ok (ok_gtr rfl rfl) ?_
    refine W.ok (ok_pick_f rfl h16) ?_
    refine W.mv ?_
    refine W.sp 22 rfl (fun h20 => ?_) (fun h20 => ?_)
    · have p20 := of_decide_eq_true h20
      refine W.no (dj := 22) rfl rfl h20 ?_
      refine W.no (dj := 22) rfl rfl h20 ?_
      refine W.no (dj := 22) rfl rfl h20 ?_
      refine W.no (dj := 22) rfl rfl h20 ?_
      refine W.ok (ok_pick_t rfl h20) ?_
      refine W.nil (thn_n ?_)
      refine WC.cond_t rfl rfl ?_
      refine WC.seq ?_
      refine WC.region ?_
      refine W.qcall (awake15_fc) rfl ?_
      refine W.as ?_
      refine W.nil (thn_n ?_)
      refine WC.ret (thn_r ?_)
      refine ⟨.inr rfl, [_], ⟨rfl, trivial⟩, [], List.nil_sublist _, ?_⟩
      rfl
    · have p20 := of_decide_eq_false h20
      refine W.yes (dj := 22) rfl rfl h20 ?_
      refine W.mv ?_
      refine W.yes (dj := 22) rfl rfl h20 ?_
      refine W.mv ?_
      refine W.yes (dj := 22) rfl rfl h20 ?_
      refine W.qcall (rright_fc h_p h_c) rfl ?_
      refine W.yes (dj := 22) rfl rfl h20 ?_
      refine W.ok (ok_not rfl) ?_
      refine W.ok (ok_pick_f rfl h20) ?_
      refine W.nil (thn_n ?_)
      refine WC.cond (b := _) rfl (fun h26 => ?_) (fun h26 => ?_)
      · refine WC.seq ?_
        refine WC.region ?_
        refine W.qcall (awake15_fc) rfl ?_
        refine W.as ?_
        refine W.nil (thn_n ?_)
        refine WC.ret (thn_r ?_)
        refine ⟨.inr rfl, [_], ⟨rfl, trivial⟩, [], List.nil_sublist _, ?_⟩
        rfl
      · obtain ⟨hr, hcl⟩ := rightN_spec (by simpa using h26)
        refine WC.skip (thn_n ?_)
        refine WC.seq ?_
        refine WC.region ?_
        refine W.mv ?_
        refine W.mv ?_
        refine W.call (Mp := []) (bhalve_fc h_p h_c) rfl (List.Perm.refl _) ?_
        intro _ G86 _ hG86 q91
        refine match q91 with | ⟨e_92, _, e_93, _, _, _, _, e_94, hv87, hv88, hv89, hv90⟩ => ?_
        subst e_92
        subst e_93
        subst e_94
        refine W.mv ?_
        refine W.ok (ok_extract rfl rfl) ?_
        refine W.ok (ok_extract rfl rfl) ?_
        refine W.ok (ok_extract rfl rfl) ?_
        refine W.ok (ok_extract rfl rfl) ?_
        refine W.ok (ok_extract rfl rfl) ?_
        refine W.ok (ok_extract rfl rfl) ?_
        refine W.as ?_
        refine W.as ?_
        refine W.as ?_
        refine W.as ?_
        refine W.as ?_
        refine W.as ?_
        refine W.nil (thn_n ?_)
        refine WC.seq ?_
        refine WC.seq ?_
        refine WC.region ?_
        refine W.mv ?_
        refine W.ok (ok_len sl26 (h_c.mono hG86) rfl) ?_
        refine W.ok (ok_lss rfl rfl) ?_
        refine W.nil (thn_n ?_)
        refine WC.cond (b := _) rfl (fun h41 => ?_) (fun h41 => ?_)
        · have p41 := of_decide_eq_true h41
          have hh := halveN_f (p := p) (c := c) (by omega)
          have l5 : (halveN p c).1.length = 0 := by rw [hh]; rfl
          have l6 : (halveN p c).2.1.length = 0 := by rw [hh]; rfl
          have l8 : (halveN p c).2.2.2.1.length = 0 := by rw [hh]; rfl
          have l9 : (halveN p c).2.2.2.2.1.length = 0 := by rw [hh]; rfl
          have s7 : (halveN p c).2.2.1 = Str.nil := by rw [hh]
          have b10 : (halveN p c).2.2.2.2.2 = false := by rw [hh]
          refine WC.seq ?_
          refine WC.region ?_
          refine W.mv ?_
          refine W.ok (ok_not rfl) ?_
          refine W.mv ?_
          refine W.sp 44 rfl (fun h43 => ?_) (fun h43 => ?_)
          · refine W.yes (dj := 44) rfl rfl h43 ?_
            refine W.mv ?_
            refine W.yes (dj := 44) rfl rfl h43 ?_
            refine W.ok (ok_len sl25 hv87 rfl) ?_
            refine W.yes (dj := 44) rfl rfl h43 ?_
            refine W.mv ?_
            refine W.yes (dj := 44) rfl rfl h43 ?_
            refine W.ok (ok_len sl26 hv88 rfl) ?_
            refine W.yes (dj := 44) rfl rfl h43 ?_
            refine W.ok (ok_add rfl rfl (by omega)) ?_
            refine W.yes (dj := 44) rfl rfl h43 ?_
            refine W.mv ?_
            refine W.yes (dj := 44) rfl rfl h43 ?_
            refine W.ok (ok_len sl25 hv89 rfl) ?_
            refine W.yes (dj := 44) rfl rfl h43 ?_
            refine W.ok (ok_add rfl rfl (by omega)) ?_
            refine W.yes (dj := 44) rfl rfl h43 ?_
            refine W.mv ?_
            refine W.yes (dj := 44) rfl rfl h43 ?_
            refine W.ok (ok_len sl26 hv90 rfl) ?_
            refine W.yes (dj := 44) rfl rfl h43 ?_
            refine W.ok (ok_add rfl rfl (by omega)) ?_
            refine W.yes (dj := 44) rfl rfl h43 ?_
            refine W.ok (ok_eql rfl rfl) ?_
            refine W.ok (ok_pick_t rfl h43) ?_
            refine W.mv ?_
            refine W.sp 58 rfl (fun h56 => ?_) (fun h56 => ?_)
            · have p56 := of_decide_eq_true h56
              refine W.yes (dj := 58) rfl rfl h56 ?_
              refine W.mv ?_
              refine W.yes (dj := 58) rfl rfl h56 ?_
              refine W.ok (ok_eqlS rfl rfl) ?_
              refine W.ok (ok_pick_t rfl h56) ?_
              refine W.mv ?_
              refine W.sp 62 rfl (fun h60 => ?_) (fun h60 => ?_)
              · have p60 := of_decide_eq_true h60
                refine W.yes (dj := 62) rfl rfl h60 ?_
                refine W.qcall (awake15_fc) rfl ?_
                refine W.ok (ok_pick_t rfl h60) ?_
                refine W.as ?_
                refine W.nil (thn_n ?_)
                refine WC.ret (thn_r ?_)
                refine ⟨.inr rfl, [_], ⟨rfl, trivial⟩, [], List.nil_sublist _, ?_⟩
                rfl
              · have p60 := of_decide_eq_false h60
                exact absurd (by rw [s7]; rfl) p60
            · have p56 := of_decide_eq_false h56
              exact absurd (by omega) p56
          · simp [b10] at h43
        · have p41 := of_decide_eq_false h41
          have hh := halveN_t (p := p) (c := c) (by omega)
          have l5 : (halveN p c).1.length = (c.length + 1) / 2 - 1 := by rw [hh]; simp <;> omega
          have l6 : (halveN p c).2.1.length = (c.length + 1) / 2 := by rw [hh]; simp <;> omega
          have l8 : (halveN p c).2.2.2.1.length = p.length - (c.length + 1) / 2 := by rw [hh]; simp <;> omega
          have l9 : (halveN p c).2.2.2.2.1.length = c.length - (c.length + 1) / 2 := by rw [hh]; simp <;> omega
          have s7 : (halveN p c).2.2.1 = p[(c.length + 1) / 2 - 1]'(by omega) := by rw [hh]
          have b10 : (halveN p c).2.2.2.2.2 = true := by rw [hh]
          refine WC.skip (thn_n ?_)
          refine WC.seq ?_
          refine WC.region ?_
          refine W.mv ?_
          refine W.ok (ok_len sl26 (h_c.mono hG86) rfl) ?_
          refine W.ok (ok_add rfl rfl (by omega)) ?_
          refine W.ok (ok_quo' rfl rfl (by omega) (by omega) (by omega)) ?_
          refine W.as ?_
          refine W.nil (thn_n ?_)
          refine WC.seq ?_
          refine WC.region ?_
          refine W.mv ?_
          refine W.mv ?_
          refine W.mv ?_
          refine W.mv ?_
          refine W.mv ?_
          refine W.call (Mp := []) (bjoin_fc hv87 hv88 _ hv89 hv90 (by omega) (by omega)) rfl (List.Perm.refl _) ?_
          intro _ G95 _ hG95 q98
          refine match q98 with | ⟨e_99, _, _, e_100, hv96, hv97⟩ => ?_
          subst e_99
          subst e_100
          refine W.mv ?_
          refine W.ok (ok_extract rfl rfl) ?_
          refine W.ok (ok_extract rfl rfl) ?_
          refine W.as ?_
          refine W.as ?_
          refine W.nil (thn_n ?_)
          refine WC.seq ?_
          refine WC.region ?_
          refine W.mv ?_
          refine W.mv ?_
          refine W.sp 79 rfl (fun h32_5 => ?_) (fun h32_5 => ?_)
          · refine W.yes (dj := 79) rfl rfl h32_5 ?_
            refine W.mv ?_
            refine W.yes (dj := 79) rfl rfl h32_5 ?_
            refine W.ok (ok_len sl26 (hv88.mono hG95) rfl) ?_
            refine W.yes (dj := 79) rfl rfl h32_5 ?_
            refine W.mv ?_
            refine W.yes (dj := 79) rfl rfl h32_5 ?_
            refine W.ok (ok_eql rfl rfl) ?_
            refine W.ok (ok_pick_t rfl h32_5) ?_
            refine W.mv ?_
            refine W.sp 85 rfl (fun h83 => ?_) (fun h83 => ?_)
            · have p83 := of_decide_eq_true h83
              refine W.yes (dj := 85) rfl rfl h83 ?_
              refine W.mv ?_
              refine W.yes (dj := 85) rfl rfl h83 ?_
              refine W.mv ?_
              refine W.yes (dj := 85) rfl rfl h83 ?_
              refine W.qcall (rright_fc (hv87.mono hG95) (hv88.mono hG95)) rfl ?_
              refine W.ok (ok_pick_t rfl h83) ?_
              refine W.mv ?_
              refine W.sp 90 rfl (fun h88 => ?_) (fun h88 => ?_)
              · refine W.yes (dj := 90) rfl rfl h88 ?_
                refine W.mv ?_
                refine W.yes (dj := 90) rfl rfl h88 ?_
                refine W.mv ?_
                refine W.yes (dj := 90) rfl rfl h88 ?_
                refine W.qcall (rright_fc (hv89.mono hG95) (hv90.mono hG95)) rfl ?_
                refine W.ok (ok_pick_t rfl h88) ?_
                refine W.mv ?_
                refine W.sp 95 rfl (fun h93 => ?_) (fun h93 => ?_)
                · refine W.yes (dj := 95) rfl rfl h93 ?_
                  refine W.mv ?_
                  refine W.yes (dj := 95) rfl rfl h93 ?_
                  refine W.mv ?_
                  refine W.yes (dj := 95) rfl rfl h93 ?_
                  refine W.qcall (same_fc hv96 (h_p.mono (hG86.trans hG95))) rfl ?_
                  refine W.ok (ok_pick_t rfl h93) ?_
                  refine W.mv ?_
                  refine W.sp 100 rfl (fun h98 => ?_) (fun h98 => ?_)
                  · refine W.yes (dj := 100) rfl rfl h98 ?_
                    refine W.mv ?_
                    refine W.yes (dj := 100) rfl rfl h98 ?_
                    refine W.mv ?_
                    refine W.yes (dj := 100) rfl rfl h98 ?_
                    refine W.qcall (ints_fc hv97 (h_c.mono (hG86.trans hG95))) rfl ?_
                    refine W.ok (ok_pick_t rfl h98) ?_
                    refine W.mv ?_
                    refine W.sp 105 rfl (fun h103 => ?_) (fun h103 => ?_)
                    · refine W.yes (dj := 105) rfl rfl h103 ?_
                      refine W.mv ?_
                      refine W.yes (dj := 105) rfl rfl h103 ?_
                      refine W.mv ?_
                      refine W.yes (dj := 105) rfl rfl h103 ?_
                      refine W.mv ?_
                      refine W.yes (dj := 105) rfl rfl h103 ?_
                      refine W.ok (ok_sub rfl rfl (by omega)) ?_
                      refine W.yes (dj := 105) rfl rfl h103 ?_
                      have q103 := (h_p.mono (hG86.trans hG95)).at (i := (c.length + 1) / 2 - 1) (by omega)
                      refine match q103 with | ⟨_, he101, e_102⟩ => ?_
                      subst e_102
                      refine W.ok (ok_indexAddr (i := (c.length + 1) / 2 - 1) sl25 ty9 (h_p.mono (hG86.trans hG95)) rfl rfl ⟨by omega, by omega⟩) ?_
                      refine W.yes (dj := 105) rfl rfl h103 ?_
                      refine W.ok (ok_loadE (vs := [.string _]) ty9 he101 rfl rfl rfl (by simp)) ?_
                      refine W.yes (dj := 105) rfl rfl h103 ?_
                      refine W.ok (ok_eqlS rfl rfl) ?_
                      refine W.ok (ok_pick_t rfl h103) ?_
                      refine W.mv ?_
                      refine W.sp 114 rfl (fun h112 => ?_) (fun h112 => ?_)
                      · have p112 := of_decide_eq_true h112
                        refine W.yes (dj := 114) rfl rfl h112 ?_
                        refine W.mv ?_
                        refine W.yes (dj := 114) rfl rfl h112 ?_
                        refine W.ok (ok_len sl25 (hv87.mono hG95) rfl) ?_
                        refine W.yes (dj := 114) rfl rfl h112 ?_
                        refine W.mv ?_
                        refine W.yes (dj := 114) rfl rfl h112 ?_
                        refine W.ok (ok_sub rfl rfl (by omega)) ?_
                        refine W.yes (dj := 114) rfl rfl h112 ?_
                        refine W.ok (ok_eql rfl rfl) ?_
                        refine W.ok (ok_pick_t rfl h112) ?_
                        refine W.mv ?_
                        refine W.sp 121 rfl (fun h119 => ?_) (fun h119 => ?_)
                        · have p119 := of_decide_eq_true h119
                          refine W.yes (dj := 121) rfl rfl h119 ?_
                          refine W.qcall (awake15_fc) rfl ?_
                          refine W.ok (ok_pick_t rfl h119) ?_
                          refine W.as ?_
                          refine W.nil (thn_n ?_)
                          refine WC.ret ?_
                          refine ⟨.inr rfl, [_], ⟨rfl, trivial⟩, [], List.nil_sublist _, ?_⟩
                          rfl
                        · have p119 := of_decide_eq_false h119
                          exact absurd (by omega) p119
                      · have p112 := of_decide_eq_false h112
                        exact absurd (by rw [s7]) p112
                    · exact absurd (by rw [hh]; exact List.take_append_drop _ _) (of_decide_eq_false h103)
                  · exact absurd (by rw [hh]; exact take_get_drop (by omega) (by omega)) (of_decide_eq_false h98)
                · rw [rightN_of (p := (halveN p c).2.2.2.1) (by rw [hh]; exact rising_drop hr _) (by omega)] at h93; cases h93
              · rw [rightN_of (p := (halveN p c).1) (by rw [hh]; exact rising_take hr _) (by omega)] at h88; cases h88
            · have p83 := of_decide_eq_false h83
              exact absurd (by omega) p83
          · simp [b10] at h32_5

end Go.Proofs.Ytmadhgdplocfbaa
