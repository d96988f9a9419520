/- The law RowsHalve is walked. -/
import Derived.Test.YtipdjeemjiimbaaWi
import Derived.Test.YtipdjeemjiimbaaA14
namespace Go.Proofs.Ytipdjeemjiimbaa
open Go Go.Fw Go.RowKit
set_option maxRecDepth 100000
set_option maxHeartbeats 1600000
set_option linter.unusedVariables false
set_option linter.unusedSimpArgs false
set_option linter.unnecessarySimpa false
theorem rowsHalve_fc {G : GH} {v_l : Value} {l : List Pair} (h_l : SlR ePair G v_l l) :
    Fc Try.prog 12 [v_l] G [] (fun v _ _ => v = .bool (true)) := by
  obtain ⟨sa_l, sc_l, rfl⟩ := h_l.form
  have hl := h_l.len47
  refine Fc.intro (rs := [.tmp 2]) cl12 Try.func12 rfl Try.ntmps12 rfl rfl (fun w0 => ?_)
  refine WC.seq ?_
  refine WC.region ?_
  refine W.as ?_
  refine W.nil (thn_n ?_)
  refine WC.seq ?_
  refine WC.seq ?_
  refine WC.region ?_
  refine W.mv ?_
  refine W.qcall (longp_fc h_l _ (by omega)) rfl ?_
  refine W.ok (ok_not rfl) ?_
  refine W.mv ?_
  refine W.sp 12 rfl (fun h11 => ?_) (fun h11 => ?_)
  · refine W.no (dj := 12) rfl rfl h11 ?_
    refine W.no (dj := 12) rfl rfl h11 ?_
    refine W.no (dj := 12) rfl rfl h11 ?_
    refine W.ok (ok_pick_t rfl h11) ?_
    refine W.nil (thn_n ?_)
    refine WC.cond_t rfl rfl ?_
    refine WC.seq ?_
    refine WC.region ?_
    refine W.qcall (awake14_fc) rfl ?_
    refine W.as ?_
    refine W.nil (thn_n ?_)
    refine WC.ret (thn_r ?_)
    refine ⟨.inr rfl, [_], ⟨rfl, trivial⟩, [], List.nil_sublist _, ?_⟩
    rfl
  · refine W.yes (dj := 12) rfl rfl h11 ?_
    refine W.mv ?_
    refine W.yes (dj := 12) rfl rfl h11 ?_
    refine W.qcall (rightp_fc h_l) rfl ?_
    refine W.yes (dj := 12) rfl rfl h11 ?_
    refine W.ok (ok_not rfl) ?_
    refine W.ok (ok_pick_f rfl h11) ?_
    refine W.nil (thn_n ?_)
    refine WC.cond (b := _) rfl (fun h15 => ?_) (fun h15 => ?_)
    · refine WC.seq ?_
      refine WC.region ?_
      refine W.qcall (awake14_fc) rfl ?_
      refine W.as ?_
      refine W.nil (thn_n ?_)
      refine WC.ret (thn_r ?_)
      refine ⟨.inr rfl, [_], ⟨rfl, trivial⟩, [], List.nil_sublist _, ?_⟩
      rfl
    · have hP : PairsR l := by simpa using h15
      have hn9 : longG Pair.w l 0 2000 ≤ 2000 := by simpa using h11
      have q1 := longG_len Pair.w_pos (l := l) (n := 0) (m := 2000) (by simpa using h11)
      have hr := hP.srt
      refine WC.skip (thn_n ?_)
      refine WC.seq ?_
      refine WC.region ?_
      refine W.mv ?_
      refine W.call (Mp := []) (rowsh_fc h_l) rfl (List.Perm.refl _) ?_
      intro _ G1 _ hG1 q4
      refine match q4 with | ⟨e_5, _, e_6, _, _, e_7, hv2, hv3⟩ => ?_
      subst e_5
      subst e_6
      subst e_7
      have q9 := hv2.form
      refine match q9 with | ⟨sa_hv2, sc_hv2, e_8⟩ => ?_
      subst e_8
      have q11 := hv3.form
      refine match q11 with | ⟨sa_hv3, sc_hv3, e_10⟩ => ?_
      subst e_10
      refine W.mv ?_
      refine W.ok (ok_extract rfl rfl) ?_
      refine W.ok (ok_extract rfl rfl) ?_
      refine W.ok (ok_extract rfl rfl) ?_
      refine W.ok (ok_extract rfl rfl) ?_
      refine W.as ?_
      refine W.as ?_
      refine W.as ?_
      refine W.as ?_
      refine W.nil (thn_n ?_)
      refine WC.seq ?_
      refine WC.seq ?_
      refine WC.region ?_
      refine W.mv ?_
      refine W.ok (ok_len sl22 (h_l.mono hG1) rfl) ?_
      refine W.ok (ok_lss rfl rfl) ?_
      refine W.nil (thn_n ?_)
      refine WC.cond (b := _) rfl (fun h27 => ?_) (fun h27 => ?_)
      · have p27 := of_decide_eq_true h27
        have hrl := rowsN_f (l := l) (by omega)
        have hz1 : (rowsN l).1.length = 0 := by rw [hrl]; rfl
        have hz2 : (rowsN l).2.1.length = 0 := by rw [hrl]; rfl
        refine WC.seq ?_
        refine WC.region ?_
        refine W.mv ?_
        refine W.ok (ok_not rfl) ?_
        refine W.mv ?_
        refine W.sp 30 rfl (fun h29 => ?_) (fun h29 => ?_)
        · refine W.yes (dj := 30) rfl rfl h29 ?_
          refine W.mv ?_
          refine W.yes (dj := 30) rfl rfl h29 ?_
          refine W.ok (ok_len sl22 hv2 rfl) ?_
          refine W.yes (dj := 30) rfl rfl h29 ?_
          refine W.mv ?_
          refine W.yes (dj := 30) rfl rfl h29 ?_
          refine W.ok (ok_len sl22 hv3 rfl) ?_
          refine W.yes (dj := 30) rfl rfl h29 ?_
          refine W.ok (ok_add rfl rfl (by omega)) ?_
          refine W.yes (dj := 30) rfl rfl h29 ?_
          refine W.ok (ok_eql rfl rfl) ?_
          refine W.ok (ok_pick_t rfl h29) ?_
          refine W.mv ?_
          refine W.sp 38 rfl (fun h36 => ?_) (fun h36 => ?_)
          · have p36 := of_decide_eq_true h36
            refine W.yes (dj := 38) rfl rfl h36 ?_
            refine W.mv ?_
            refine W.yes (dj := 38) rfl rfl h36 ?_
            refine W.ok (ok_eqlS rfl rfl) ?_
            refine W.ok (ok_pick_t rfl h36) ?_
            refine W.mv ?_
            refine W.sp 42 rfl (fun h40 => ?_) (fun h40 => ?_)
            · have p40 := of_decide_eq_true h40
              refine W.yes (dj := 42) rfl rfl h40 ?_
              refine W.qcall (awake14_fc) rfl ?_
              refine W.ok (ok_pick_t rfl h40) ?_
              refine W.as ?_
              refine W.nil (thn_n ?_)
              refine WC.ret (thn_r ?_)
              refine ⟨.inr rfl, [_], ⟨rfl, trivial⟩, [], List.nil_sublist _, ?_⟩
              rfl
            · have p40 := of_decide_eq_false h40
              refine absurd ?_ p40
              rw [hrl]; rfl
          · have p36 := of_decide_eq_false h36
            refine absurd ?_ p36
            rw [hrl]; rfl
        · rw [hrl] at h29; simp at h29
      · have p27 := of_decide_eq_false h27
        have hrt := rowsN_t (l := l) (by omega)
        have hr1 : (rowsN l).1 = l.take ((l.length + 1) / 2) := by rw [hrt]
        have hr2 : (rowsN l).2.1 = l.drop ((l.length + 1) / 2) := by rw [hrt]
        have hl1 : (rowsN l).1.length = (l.length + 1) / 2 := by rw [hr1, List.length_take]; omega
        have hl2 : (rowsN l).2.1.length = l.length - (l.length + 1) / 2 := by rw [hr2, List.length_drop]
        have hrs : (rowsN l).1 ++ (rowsN l).2.1 = l := by rw [hr1, hr2, List.take_append_drop]
        have hb3 : (rowsN l).2.2.1 = (betweenN (l[(l.length + 1) / 2 - 1]'(by omega)).key (l[(l.length + 1) / 2]'(by omega)).key).1 := by rw [hrt]
        have hK1 : ∀ h, ((rowsN l).1[(rowsN l).1.length - 1]'h).key = (l[(l.length + 1) / 2 - 1]'(by omega)).key := fun h => by rw [List.getElem_of_eq hr1 h, List.getElem_take]; simp only [hl1]
        have hK2 : ∀ h, ((rowsN l).2.1[0]'h).key = (l[(l.length + 1) / 2]'(by omega)).key := fun h => by rw [List.getElem_of_eq hr2 h, List.getElem_drop]; simp only [Nat.add_zero]
        have hbp := between_props (a := (l[(l.length + 1) / 2 - 1]'(by omega)).key) (b := (l[(l.length + 1) / 2]'(by omega)).key) (List.pairwise_iff_getElem.1 hr _ _ (by omega) (by omega) (by omega)) (hP _ (by omega)).1.1
        refine WC.skip (thn_n ?_)
        refine WC.seq ?_
        refine WC.seq ?_
        refine WC.region ?_
        refine W.mv ?_
        refine W.ok (ok_not rfl) ?_
        refine W.mv ?_
        refine W.sp 47 rfl (fun h46 => ?_) (fun h46 => ?_)
        · rw [hrt] at h46; simp at h46
        · refine W.yes (dj := 47) rfl rfl h46 ?_
          refine W.mv ?_
          refine W.yes (dj := 47) rfl rfl h46 ?_
          refine W.ok (ok_len sl22 hv2 rfl) ?_
          refine W.yes (dj := 47) rfl rfl h46 ?_
          refine W.mv ?_
          refine W.yes (dj := 47) rfl rfl h46 ?_
          refine W.ok (ok_len sl22 (h_l.mono hG1) rfl) ?_
          refine W.yes (dj := 47) rfl rfl h46 ?_
          refine W.ok (ok_add rfl rfl (by omega)) ?_
          refine W.yes (dj := 47) rfl rfl h46 ?_
          refine W.ok (ok_quo' rfl rfl (by omega) (by omega) (by omega)) ?_
          refine W.yes (dj := 47) rfl rfl h46 ?_
          refine W.ok (ok_neq rfl rfl) ?_
          refine W.ok (ok_pick_f rfl h46) ?_
          refine W.mv ?_
          refine W.sp 56 rfl (fun h54 => ?_) (fun h54 => ?_)
          · have p54 := nd_t h54
            exfalso; omega
          · have p54 := nd_f h54
            refine W.yes (dj := 56) rfl rfl h54 ?_
            refine W.lit0 (e := ePair) sl22 ty112 zr112 rfl (fun v12 Ms13 ho14 => ?_)
            refine W.yes (dj := 56) rfl rfl h54 ?_
            refine W.mv ?_
            refine W.yes (dj := 56) rfl rfl h54 ?_
            refine W.app (e := ePair) sl22 ty112 zr112 rfl by112 rfl rfl (ho14) (hv2) (List.Perm.refl _) (by show (0 + _) * 32 ≤ _; omega) (fun v15 Ms16 ho17 => ?_)
            refine W.yes (dj := 56) rfl rfl h54 ?_
            refine W.mv ?_
            refine W.yes (dj := 56) rfl rfl h54 ?_
            refine W.app (e := ePair) sl22 ty112 zr112 rfl by112 rfl rfl (ho17) (hv3) (List.Perm.refl _) (by show (([] ++ _ : List Pair).length + _) * 32 ≤ _; simp; omega) (fun v18 Ms19 ho20 => ?_)
            refine W.yes (dj := 56) rfl rfl h54 ?_
            refine W.mv ?_
            refine W.yes (dj := 56) rfl rfl h54 ?_
            refine W.giveO ho20 (List.Perm.refl _) (fun G21 hG21 hv21 => ?_)
            have q23 := hv21.form
            refine match q23 with | ⟨_, _, e_22⟩ => ?_
            subst e_22
            refine W.qcall ((samep_fc hv21 (h_l.mono (hG1.trans hG21))).mono (fun v _ _ _ hv => hv.trans (congrArg Value.bool (decide_eq_true (by simpa using hrs))))) rfl ?_
            refine W.yes (dj := 56) rfl rfl h54 ?_
            refine W.ok (ok_not rfl) ?_
            refine W.ok (ok_pick_f rfl h54) ?_
            refine W.mv ?_
            refine W.yes (dj := 66) rfl rfl rfl ?_
            refine W.mv ?_
            refine W.yes (dj := 66) rfl rfl rfl ?_
            refine W.mv ?_
            refine W.yes (dj := 66) rfl rfl rfl ?_
            refine W.call (Mp := []) (rowsjoin_fc (hv2.mono hG21) (hv3.mono hG21) (by omega)) rfl (List.Perm.refl _) ?_
            intro _ G24 _ hG24 q26
            refine match q26 with | ⟨e_27, _, e_28, hv25⟩ => ?_
            subst e_27
            subst e_28
            have q30 := hv25.form
            refine match q30 with | ⟨sa_hv25, sc_hv25, e_29⟩ => ?_
            subst e_29
            refine W.yes (dj := 66) rfl rfl rfl ?_
            refine W.mv ?_
            refine W.yes (dj := 66) rfl rfl rfl ?_
            refine W.qcall ((samep_fc hv25 (h_l.mono ((hG1.trans hG21).trans hG24))).mono (fun v _ _ _ hv => hv.trans (congrArg Value.bool (decide_eq_true hrs)))) rfl ?_
            refine W.yes (dj := 66) rfl rfl rfl ?_
            refine W.ok (ok_not rfl) ?_
            refine W.ok (ok_pick_f rfl rfl) ?_
            refine W.nil (thn_n ?_)
            refine WC.cond_f rfl rfl ?_
            refine WC.skip (thn_n ?_)
            refine WC.seq ?_
            refine WC.draw mix (by kernel_rfl) ?_
            refine W.mv ?_
            refine W.mv ?_
            refine W.ok (ok_len sl22 (hv2.mono (hG21.trans hG24)) rfl) ?_
            refine W.ok (ok_sub rfl rfl (by omega)) ?_
            have q33 := (hv2.mono (hG21.trans hG24)).at (i := (rowsN l).1.length - 1) (by omega)
            refine match q33 with | ⟨_, he31, e_32⟩ => ?_
            subst e_32
            refine W.ok (ok_indexAddr (i := (rowsN l).1.length - 1) sl22 ty112 (hv2.mono (hG21.trans hG24)) rfl rfl ⟨by omega, by omega⟩) ?_
            refine W.ok (ok_fieldE fd112_0 rfl he31.form) ?_
            refine W.ok (ok_loadE (vs := [.string _]) ty9 he31 rfl rfl rfl (by simp)) ?_
            refine W.mv ?_
            have q36 := (hv3.mono (hG21.trans hG24)).at (i := 0) (by omega)
            refine match q36 with | ⟨_, he34, e_35⟩ => ?_
            subst e_35
            refine W.ok (ok_indexAddr (i := 0) sl22 ty112 (hv3.mono (hG21.trans hG24)) rfl rfl ⟨by omega, by omega⟩) ?_
            refine W.ok (ok_fieldE fd112_0 rfl he34.form) ?_
            refine W.ok (ok_loadE (vs := [.string _]) ty9 he34 rfl rfl rfl (by simp)) ?_
            refine W.qcall (rbetween_fc _ _) rfl ?_
            refine W.mv ?_
            refine W.ok (ok_extract rfl rfl) ?_
            refine W.ok (ok_extract rfl rfl) ?_
            refine W.as ?_
            refine W.as ?_
            refine W.nil (thn_n ?_)
            refine WC.seq ?_
            refine WC.region ?_
            refine W.mv ?_
            refine W.mv ?_
            refine W.ok (ok_eqlS rfl rfl) ?_
            refine W.mv ?_
            refine W.sp 92 rfl (fun h91 => ?_) (fun h91 => ?_)
            · have p91 := of_decide_eq_true h91
              refine W.yes (dj := 92) rfl rfl h91 ?_
              refine W.mv ?_
              refine W.yes (dj := 92) rfl rfl h91 ?_
              refine W.mv ?_
              refine W.yes (dj := 92) rfl rfl h91 ?_
              refine W.ok (ok_len sl22 (hv2.mono (hG21.trans hG24)) rfl) ?_
              refine W.yes (dj := 92) rfl rfl h91 ?_
              refine W.ok (ok_sub rfl rfl (by omega)) ?_
              refine W.yes (dj := 92) rfl rfl h91 ?_
              have q39 := (hv2.mono (hG21.trans hG24)).at (i := (rowsN l).1.length - 1) (by omega)
              refine match q39 with | ⟨_, he37, e_38⟩ => ?_
              subst e_38
              refine W.ok (ok_indexAddr (i := (rowsN l).1.length - 1) sl22 ty112 (hv2.mono (hG21.trans hG24)) rfl rfl ⟨by omega, by omega⟩) ?_
              refine W.yes (dj := 92) rfl rfl h91 ?_
              refine W.ok (ok_fieldE fd112_0 rfl he37.form) ?_
              refine W.yes (dj := 92) rfl rfl h91 ?_
              refine W.ok (ok_loadE (vs := [.string _]) ty9 he37 rfl rfl rfl (by simp)) ?_
              refine W.yes (dj := 92) rfl rfl h91 ?_
              refine W.mv ?_
              refine W.yes (dj := 92) rfl rfl h91 ?_
              refine W.qcall (less_fc _ _) rfl ?_
              refine W.ok (ok_pick_t rfl h91) ?_
              refine W.mv ?_
              refine W.sp 103 rfl (fun h101 => ?_) (fun h101 => ?_)
              · refine W.yes (dj := 103) rfl rfl h101 ?_
                refine W.mv ?_
                refine W.yes (dj := 103) rfl rfl h101 ?_
                have q42 := (hv3.mono (hG21.trans hG24)).at (i := 0) (by omega)
                refine match q42 with | ⟨_, he40, e_41⟩ => ?_
                subst e_41
                refine W.ok (ok_indexAddr (i := 0) sl22 ty112 (hv3.mono (hG21.trans hG24)) rfl rfl ⟨by omega, by omega⟩) ?_
                refine W.yes (dj := 103) rfl rfl h101 ?_
                refine W.ok (ok_fieldE fd112_0 rfl he40.form) ?_
                refine W.yes (dj := 103) rfl rfl h101 ?_
                refine W.ok (ok_loadE (vs := [.string _]) ty9 he40 rfl rfl rfl (by simp)) ?_
                refine W.yes (dj := 103) rfl rfl h101 ?_
                refine W.mv ?_
                refine W.yes (dj := 103) rfl rfl h101 ?_
                refine W.qcall (less_fc _ _) rfl ?_
                refine W.yes (dj := 103) rfl rfl h101 ?_
                refine W.ok (ok_not rfl) ?_
                refine W.ok (ok_pick_t rfl h101) ?_
                refine W.mv ?_
                refine W.sp 112 rfl (fun h110 => ?_) (fun h110 => ?_)
                · refine W.yes (dj := 112) rfl rfl h110 ?_
                  refine W.qcall (awake14_fc) rfl ?_
                  refine W.ok (ok_pick_t rfl h110) ?_
                  refine W.as ?_
                  refine W.nil (thn_n ?_)
                  refine WC.ret ?_
                  refine ⟨.inr rfl, [_], ⟨rfl, trivial⟩, [], List.nil_sublist _, ?_⟩
                  rfl
                · rw [hK2, hb3, hbp.2.2.2] at h110; cases h110
              · rw [hK1, hb3, hbp.2.2.1] at h101; cases h101
            · have p91 := of_decide_eq_false h91
              refine absurd ?_ p91
              rw [hK1, hK2, hb3]

end Go.Proofs.Ytipdjeemjiimbaa
