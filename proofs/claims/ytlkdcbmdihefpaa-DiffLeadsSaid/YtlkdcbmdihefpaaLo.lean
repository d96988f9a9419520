/- The law DiffLeads is walked. -/
import Derived.Test.YtlkdcbmdihefpaaWy
import Derived.Test.YtlkdcbmdihefpaaA53
namespace Go.Proofs.Ytlkdcbmdihefpaa
open Go Go.Fw Go.RowKit
set_option maxRecDepth 100000
set_option maxHeartbeats 1600000
set_option linter.unusedVariables false
set_option linter.unusedSimpArgs false
set_option linter.unnecessarySimpa false
theorem diffLeads_fc {G : GH} {v_a : Value} {a : List Pair} (h_a : SlR ePair G v_a a) {v_b : Value} {b : List Pair} (h_b : SlR ePair G v_b b) (n : Int) :
    Fc Try.prog 3 [v_a, v_b, .int .i64 n] G [] (fun v _ _ => v = .bool (true)) := by
 obtain ⟨sa_a, sc_a, rfl⟩ := h_a.form
 obtain ⟨sa_b, sc_b, rfl⟩ := h_b.form
 have hla := h_a.len47
 have hlb := h_b.len47
 refine Fc.intro (rs := [.tmp 6]) cl3 Try.func3 rfl Try.ntmps3 rfl rfl (fun w0 => ?_)
 refine WC.seq ?_
 refine WC.region ?_
 refine W.as ?_
 refine W.nil (thn_n ?_)
 refine WC.seq ?_
 refine WC.seq ?_
 refine WC.region ?_
 refine W.mv ?_
 refine W.qcall (longp_fc h_a _ (by omega)) rfl ?_
 refine W.ok (ok_not rfl) ?_
 refine W.mv ?_
 refine W.sp 16 rfl (fun h15 => ?_) (fun h15 => ?_)
 ·refine W.no (dj := 16) rfl rfl h15 ?_
  refine W.no (dj := 16) rfl rfl h15 ?_
  refine W.no (dj := 16) rfl rfl h15 ?_
  refine W.ok (ok_pick_t rfl h15) ?_
  refine W.mv ?_
  refine W.no (dj := 21) rfl rfl rfl ?_
  refine W.no (dj := 21) rfl rfl rfl ?_
  refine W.no (dj := 21) rfl rfl rfl ?_
  refine W.ok (ok_pick_t rfl rfl) ?_
  refine W.mv ?_
  refine W.no (dj := 26) rfl rfl rfl ?_
  refine W.no (dj := 26) rfl rfl rfl ?_
  refine W.no (dj := 26) rfl rfl rfl ?_
  refine W.ok (ok_pick_t rfl rfl) ?_
  refine W.nil (thn_n ?_)
  refine WC.cond_t rfl rfl ?_
  refine WC.seq ?_
  refine WC.region ?_
  refine W.qcall (awake53_fc) rfl ?_
  refine W.as ?_
  refine W.nil (thn_n ?_)
  refine WC.ret (thn_r ?_)
  refine ⟨.inr rfl, [_], ⟨rfl, trivial⟩, [], List.nil_sublist _, ?_⟩
  rfl
 ·refine W.yes (dj := 16) rfl rfl h15 ?_
  refine W.mv ?_
  refine W.yes (dj := 16) rfl rfl h15 ?_
  refine W.qcall (rightp_fc h_a) rfl ?_
  refine W.yes (dj := 16) rfl rfl h15 ?_
  refine W.ok (ok_not rfl) ?_
  refine W.ok (ok_pick_f rfl h15) ?_
  refine W.mv ?_
  refine W.sp 21 rfl (fun h19 => ?_) (fun h19 => ?_)
  ·refine W.no (dj := 21) rfl rfl h19 ?_
   refine W.no (dj := 21) rfl rfl h19 ?_
   refine W.no (dj := 21) rfl rfl h19 ?_
   refine W.ok (ok_pick_t rfl h19) ?_
   refine W.mv ?_
   refine W.no (dj := 26) rfl rfl rfl ?_
   refine W.no (dj := 26) rfl rfl rfl ?_
   refine W.no (dj := 26) rfl rfl rfl ?_
   refine W.ok (ok_pick_t rfl rfl) ?_
   refine W.nil (thn_n ?_)
   refine WC.cond_t rfl rfl ?_
   refine WC.seq ?_
   refine WC.region ?_
   refine W.qcall (awake53_fc) rfl ?_
   refine W.as ?_
   refine W.nil (thn_n ?_)
   refine WC.ret (thn_r ?_)
   refine ⟨.inr rfl, [_], ⟨rfl, trivial⟩, [], List.nil_sublist _, ?_⟩
   rfl
  ·refine W.yes (dj := 21) rfl rfl h19 ?_
   refine W.mv ?_
   refine W.yes (dj := 21) rfl rfl h19 ?_
   refine W.qcall (longp_fc h_b _ (by omega)) rfl ?_
   refine W.yes (dj := 21) rfl rfl h19 ?_
   refine W.ok (ok_not rfl) ?_
   refine W.ok (ok_pick_f rfl h19) ?_
   refine W.mv ?_
   refine W.sp 26 rfl (fun h24 => ?_) (fun h24 => ?_)
   ·refine W.no (dj := 26) rfl rfl h24 ?_
    refine W.no (dj := 26) rfl rfl h24 ?_
    refine W.no (dj := 26) rfl rfl h24 ?_
    refine W.ok (ok_pick_t rfl h24) ?_
    refine W.nil (thn_n ?_)
    refine WC.cond_t rfl rfl ?_
    refine WC.seq ?_
    refine WC.region ?_
    refine W.qcall (awake53_fc) rfl ?_
    refine W.as ?_
    refine W.nil (thn_n ?_)
    refine WC.ret (thn_r ?_)
    refine ⟨.inr rfl, [_], ⟨rfl, trivial⟩, [], List.nil_sublist _, ?_⟩
    rfl
   ·refine W.yes (dj := 26) rfl rfl h24 ?_
    refine W.mv ?_
    refine W.yes (dj := 26) rfl rfl h24 ?_
    refine W.qcall (rightp_fc h_b) rfl ?_
    refine W.yes (dj := 26) rfl rfl h24 ?_
    refine W.ok (ok_not rfl) ?_
    refine W.ok (ok_pick_f rfl h24) ?_
    refine W.nil (thn_n ?_)
    refine WC.cond (b := _) rfl (fun h29 => ?_) (fun h29 => ?_)
    ·refine WC.seq ?_
     refine WC.region ?_
     refine W.qcall (awake53_fc) rfl ?_
     refine W.as ?_
     refine W.nil (thn_n ?_)
     refine WC.ret (thn_r ?_)
     refine ⟨.inr rfl, [_], ⟨rfl, trivial⟩, [], List.nil_sublist _, ?_⟩
     rfl
    ·have hPa : PairsR a := by simpa using h19
     have hPb : PairsR b := by simpa using h29
     have n1 : longG Pair.w a 0 1000 ≤ 1000 := by simpa using h15
     have n2 : longG Pair.w b 0 1000 ≤ 1000 := by simpa using h24
     have q1 := longG_len Pair.w_pos (l := a) (n := 0) (m := 1000) (by simpa using h15)
     have q2 := longG_len Pair.w_pos (l := b) (n := 0) (m := 1000) (by simpa using h24)
     have hna : a.length ≤ 1000 := by omega
     have hnb : b.length ≤ 1000 := by omega
     have hra := hPa.srt
     have hrb := hPb.srt
     have hcl : (chgN a b).length ≤ (bothN a b).length := List.length_filterMap_le ..
     have hwl : (wipN n (bothN a b)).length ≤ (chgN a b).length := wip_len n (bothN a b)
     have hbl := both_len a b
     refine WC.skip (thn_n ?_)
     refine WC.seq ?_
     refine WC.region ?_
     refine W.mv ?_
     refine W.mv ?_
     refine W.call (Mp := []) (dchanges_fc h_a h_b (by omega)) rfl (List.Perm.refl _) ?_
     intro _ G1 _ hG1 q3
     refine match q3 with | ⟨e_4, _, e_5, hv2⟩ => ?_
     subst e_4
     subst e_5
     have q7 := hv2.form
     refine match q7 with | ⟨sa_hv2, sc_hv2, e_6⟩ => ?_
     subst e_6
     refine W.mv ?_
     refine W.mv ?_
     refine W.mv ?_
     refine W.call (Mp := []) (dwipes_fc (h_a.mono hG1) (h_b.mono hG1) _ (by omega)) rfl (List.Perm.refl _) ?_
     intro _ G8 _ hG8 q10
     refine match q10 with | ⟨e_11, _, e_12, hv9⟩ => ?_
     subst e_11
     subst e_12
     have q14 := hv9.form
     refine match q14 with | ⟨sa_hv9, sc_hv9, e_13⟩ => ?_
     subst e_13
     refine W.as ?_
     refine W.as ?_
     refine W.nil (thn_n ?_)
     refine WC.seq ?_
     refine WC.seq ?_
     refine WC.region ?_
     refine W.mv ?_
     refine W.mv ?_
     refine W.mv ?_
     refine W.call (Mp := []) (changes53_fc (h_a.mono (hG1.trans hG8)) (h_b.mono (hG1.trans hG8)) (by assumption) (by assumption) (by first | assumption | omega | (simp; omega) | (exact PairsR.fold (by assumption) (by assumption)))) rfl (List.Perm.refl _) ?_
     intro _ G15 _ hG15 q17
     refine match q17 with | ⟨e_18, _, e_19, hv16⟩ => ?_
     subst e_18
     subst e_19
     have q21 := hv16.form
     refine match q21 with | ⟨sa_hv16, sc_hv16, e_20⟩ => ?_
     subst e_20
     refine W.qcall ((ops53_fc (hv2.mono (hG8.trans hG15)) hv16).mono (fun v _ _ _ hv => hv.trans (congrArg Value.bool (decide_eq_true rfl)))) rfl ?_
     refine W.ok (ok_not rfl) ?_
     refine W.mv ?_
     refine W.yes (dj := 45) rfl rfl rfl ?_
     refine W.mv ?_
     refine W.yes (dj := 45) rfl rfl rfl ?_
     refine W.mv ?_
     refine W.yes (dj := 45) rfl rfl rfl ?_
     refine W.mv ?_
     refine W.yes (dj := 45) rfl rfl rfl ?_
     refine W.mv ?_
     refine W.yes (dj := 45) rfl rfl rfl ?_
     refine W.call (Mp := []) (wipes53_fc (h_a.mono ((hG1.trans hG8).trans hG15)) (h_b.mono ((hG1.trans hG8).trans hG15)) _ (by assumption) (by assumption) (by first | assumption | omega | (simp; omega) | (exact PairsR.fold (by assumption) (by assumption)))) rfl (List.Perm.refl _) ?_
     intro _ G22 _ hG22 q24
     refine match q24 with | ⟨e_25, _, e_26, hv23⟩ => ?_
     subst e_25
     subst e_26
     have q28 := hv23.form
     refine match q28 with | ⟨sa_hv23, sc_hv23, e_27⟩ => ?_
     subst e_27
     refine W.yes (dj := 45) rfl rfl rfl ?_
     refine W.qcall ((ops53_fc (hv9.mono (hG15.trans hG22)) hv23).mono (fun v _ _ _ hv => hv.trans (congrArg Value.bool (decide_eq_true rfl)))) rfl ?_
     refine W.yes (dj := 45) rfl rfl rfl ?_
     refine W.ok (ok_not rfl) ?_
     refine W.ok (ok_pick_f rfl rfl) ?_
     refine W.mv ?_
     refine W.yes (dj := 54) rfl rfl rfl ?_
     refine W.mv ?_
     refine W.yes (dj := 54) rfl rfl rfl ?_
     refine W.ok (ok_len sl26 (hv9.mono (hG15.trans hG22)) rfl) ?_
     refine W.yes (dj := 54) rfl rfl rfl ?_
     refine W.mv ?_
     refine W.yes (dj := 54) rfl rfl rfl ?_
     refine W.ok (ok_len sl26 (hv2.mono ((hG8.trans hG15).trans hG22)) rfl) ?_
     refine W.yes (dj := 54) rfl rfl rfl ?_
     refine W.ok (ok_gtr rfl rfl) ?_
     refine W.ok (ok_pick_f rfl rfl) ?_
     refine W.nil (thn_n ?_)
     refine WC.cond (b := _) rfl (fun h59 => ?_) (fun h59 => ?_)
     ·have p59 := of_decide_eq_true h59
      exfalso; omega
     ·have p59 := of_decide_eq_false h59
      refine WC.skip (thn_n ?_)
      refine WC.seq ?_
      refine WC.region ?_
      refine W.mv ?_
      refine W.mv ?_
      refine W.call (Mp := []) (dapply_fc (h_a.mono (((hG1.trans hG8).trans hG15).trans hG22)) (hv2.mono ((hG8.trans hG15).trans hG22)) hPa (by omega)) rfl (List.Perm.refl _) ?_
      intro _ G29 _ hG29 q31
      refine match q31 with | ⟨e_32, _, e_33, _, e_34, hv30⟩ => ?_
      subst e_32
      subst e_33
      subst e_34
      have q36 := hv30.form
      refine match q36 with | ⟨sa_hv30, sc_hv30, e_35⟩ => ?_
      subst e_35
      refine W.mv ?_
      refine W.ok (ok_extract rfl rfl) ?_
      refine W.ok (ok_extract rfl rfl) ?_
      refine W.as ?_
      refine W.as ?_
      refine W.nil (thn_n ?_)
      refine WC.seq ?_
      refine WC.region ?_
      refine W.mv ?_
      refine W.mv ?_
      refine W.call (Mp := []) (dapply_fc (h_a.mono ((((hG1.trans hG8).trans hG15).trans hG22).trans hG29)) (hv9.mono ((hG15.trans hG22).trans hG29)) hPa (by omega)) rfl (List.Perm.refl _) ?_
      intro _ G37 _ hG37 q39
      refine match q39 with | ⟨e_40, _, e_41, _, e_42, hv38⟩ => ?_
      subst e_40
      subst e_41
      subst e_42
      have q44 := hv38.form
      refine match q44 with | ⟨sa_hv38, sc_hv38, e_43⟩ => ?_
      subst e_43
      refine W.mv ?_
      refine W.ok (ok_extract rfl rfl) ?_
      refine W.ok (ok_extract rfl rfl) ?_
      refine W.as ?_
      refine W.as ?_
      refine W.nil (thn_n ?_)
      refine WC.seq ?_
      refine WC.region ?_
      refine W.mv ?_
      refine W.mv ?_
      refine W.sp 74 rfl (fun h64_1 => ?_) (fun h64_1 => ?_)
      ·refine W.yes (dj := 74) rfl rfl h64_1 ?_
       refine W.mv ?_
       refine W.ok (ok_pick_t rfl h64_1) ?_
       refine W.mv ?_
       refine W.sp 77 rfl (fun h70_1 => ?_) (fun h70_1 => ?_)
       ·refine W.yes (dj := 77) rfl rfl h70_1 ?_
        refine W.mv ?_
        refine W.yes (dj := 77) rfl rfl h70_1 ?_
        refine W.mv ?_
        refine W.yes (dj := 77) rfl rfl h70_1 ?_
        refine W.qcall ((samep_fc (hv30.mono hG37) (h_b.mono (((((hG1.trans hG8).trans hG15).trans hG22).trans hG29).trans hG37))).mono (fun v _ _ _ hv => hv.trans (congrArg Value.bool (decide_eq_true (by rw [applyN_t (chg_right hPa hPb)]; exact chg_leads hPa hPb))))) rfl ?_
        refine W.ok (ok_pick_t rfl h70_1) ?_
        refine W.mv ?_
        refine W.yes (dj := 82) rfl rfl rfl ?_
        refine W.mv ?_
        refine W.yes (dj := 82) rfl rfl rfl ?_
        refine W.mv ?_
        refine W.yes (dj := 82) rfl rfl rfl ?_
        refine W.qcall ((samep_fc hv38 (h_b.mono (((((hG1.trans hG8).trans hG15).trans hG22).trans hG29).trans hG37))).mono (fun v _ _ _ hv => hv.trans (congrArg Value.bool (decide_eq_true (by rw [applyN_t (wip_right n hPa hPb)]; exact wip_leads n hPa hPb))))) rfl ?_
        refine W.ok (ok_pick_t rfl rfl) ?_
        refine W.mv ?_
        refine W.yes (dj := 87) rfl rfl rfl ?_
        refine W.mv ?_
        refine W.yes (dj := 87) rfl rfl rfl ?_
        refine W.mv ?_
        refine W.yes (dj := 87) rfl rfl rfl ?_
        refine W.qcall (samep_fc (h_a.mono (((((hG1.trans hG8).trans hG15).trans hG22).trans hG29).trans hG37)) (h_b.mono (((((hG1.trans hG8).trans hG15).trans hG22).trans hG29).trans hG37))) rfl ?_
        refine W.yes (dj := 87) rfl rfl rfl ?_
        refine W.ok (ok_not rfl) ?_
        refine W.yes (dj := 87) rfl rfl rfl ?_
        refine W.mv ?_
        refine W.sp 92 rfl (fun h91 => ?_) (fun h91 => ?_)
        ·refine W.no (dj := 92) rfl rfl h91 ?_
         refine W.no (dj := 92) rfl rfl h91 ?_
         refine W.no (dj := 92) rfl rfl h91 ?_
         refine W.no (dj := 92) rfl rfl h91 ?_
         refine W.no (dj := 92) rfl rfl h91 ?_
         refine W.no (dj := 92) rfl rfl h91 ?_
         refine W.yes (dj := 87) rfl rfl rfl ?_
         refine W.ok (ok_pick_t rfl h91) ?_
         refine W.ok (ok_pick_t rfl rfl) ?_
         refine W.mv ?_
         refine W.yes (dj := 101) rfl rfl rfl ?_
         refine W.qcall (awake53_fc) rfl ?_
         refine W.ok (ok_pick_t rfl rfl) ?_
         refine W.as ?_
         refine W.nil (thn_n ?_)
         refine WC.ret ?_
         refine ⟨.inr rfl, [_], ⟨rfl, trivial⟩, [], List.nil_sublist _, ?_⟩
         rfl
        ·refine W.yes (dj := 92) rfl rfl h91 ?_
         refine W.mv ?_
         refine W.yes (dj := 92) rfl rfl h91 ?_
         refine W.ok (ok_len sl26 (hv2.mono ((((hG8.trans hG15).trans hG22).trans hG29).trans hG37)) rfl) ?_
         refine W.yes (dj := 92) rfl rfl h91 ?_
         refine W.mv ?_
         refine W.yes (dj := 92) rfl rfl h91 ?_
         refine W.ok (ok_len sl26 (hv9.mono (((hG15.trans hG22).trans hG29).trans hG37)) rfl) ?_
         refine W.yes (dj := 92) rfl rfl h91 ?_
         refine W.ok (ok_add rfl rfl (by omega)) ?_
         refine W.yes (dj := 92) rfl rfl h91 ?_
         refine W.ok (ok_eql rfl rfl) ?_
         refine W.yes (dj := 87) rfl rfl rfl ?_
         refine W.ok (ok_pick_f rfl h91) ?_
         refine W.ok (ok_pick_t rfl rfl) ?_
         refine W.mv ?_
         refine W.sp 101 rfl (fun h98 => ?_) (fun h98 => ?_)
         ·have p98 := of_decide_eq_true h98
          refine W.yes (dj := 101) rfl rfl h98 ?_
          refine W.qcall (awake53_fc) rfl ?_
          refine W.ok (ok_pick_t rfl h98) ?_
          refine W.as ?_
          refine W.nil (thn_n ?_)
          refine WC.ret ?_
          refine ⟨.inr rfl, [_], ⟨rfl, trivial⟩, [], List.nil_sublist _, ?_⟩
          rfl
         ·have p98 := of_decide_eq_false h98
          have e : a = b := by simpa using h91
          subst e
          have hz := chg_self a hra
          rw [hz] at p98 hwl
          exact absurd (by simp at hwl; simp [hwl]) p98
       ·rw [applyN_t (wip_right n hPa hPb)] at h70_1; cases h70_1
      ·rw [applyN_t (chg_right hPa hPb)] at h64_1; cases h64_1

end Go.Proofs.Ytlkdcbmdihefpaa
