/- The law BnodeGrows is walked. -/
import Derived.Test.YtipdjeemjiimbaaWj
import Derived.Test.YtipdjeemjiimbaaA15
namespace Go.Proofs.Ytipdjeemjiimbaa
open Go Go.Fw Go.RowKit
set_option maxRecDepth 100000
set_option maxHeartbeats 1600000
set_option linter.unusedVariables false
set_option linter.unusedSimpArgs false
set_option linter.unnecessarySimpa false
theorem bgneg_fc {G : GH} {v_p : Value} {p : List Str} (h_p : SlR eStr G v_p p) {v_c : Value} {c : List Int} (h_c : SlR eInt G v_c c) (i : Int) (k : Str) (nv : Int) (hi : i64 i) (hv : i64 nv) (hn : i < 0) :
    Fc Try.prog 5 [v_p, v_c, .int .i64 i, .string k.b, .int .i64 nv] G [] (fun v _ _ => v = .bool (true)) := by
  obtain ⟨sa_p, sc_p, rfl⟩ := h_p.form
  obtain ⟨sa_c, sc_c, rfl⟩ := h_c.form
  have hp := h_p.len47
  have hc := h_c.len47
  have hk := k.le
  have hv1 := hv.1
  have hv2 := hv.2
  have hi1 := hi.1
  have hi2 := hi.2
  refine Fc.intro (rs := [.tmp 10]) cl5 Try.func5 rfl Try.ntmps5 rfl rfl (fun w0 => ?_)
  refine WC.seq ?_
  refine WC.region ?_
  refine W.as ?_
  refine W.nil (thn_n ?_)
  refine WC.seq ?_
  refine WC.seq ?_
  refine WC.region ?_
  refine W.mv ?_
  refine W.qcall (rlong_fc h_p _ (by omega)) rfl ?_
  refine W.ok (ok_gtr rfl rfl) ?_
  refine W.mv ?_
  refine W.sp 21 rfl (fun h20 => ?_) (fun h20 => ?_)
  · have p20 := of_decide_eq_true h20
    refine W.no (dj := 21) rfl rfl h20 ?_
    refine W.no (dj := 21) rfl rfl h20 ?_
    refine W.no (dj := 21) rfl rfl h20 ?_
    refine W.ok (ok_pick_t rfl h20) ?_
    refine W.mv ?_
    refine W.no (dj := 26) rfl rfl rfl ?_
    refine W.no (dj := 26) rfl rfl rfl ?_
    refine W.no (dj := 26) rfl rfl rfl ?_
    refine W.ok (ok_pick_t rfl rfl) ?_
    refine W.mv ?_
    refine W.no (dj := 31) rfl rfl rfl ?_
    refine W.no (dj := 31) rfl rfl rfl ?_
    refine W.no (dj := 31) rfl rfl rfl ?_
    refine W.no (dj := 31) rfl rfl rfl ?_
    refine W.ok (ok_pick_t rfl rfl) ?_
    refine W.nil (thn_n ?_)
    refine WC.cond_t rfl rfl ?_
    refine WC.seq ?_
    refine WC.region ?_
    refine W.qcall (awake15_fc) rfl ?_
    refine W.as ?_
    refine W.nil (thn_n ?_)
    refine WC.ret (thn_r ?_)
    refine ⟨.inr rfl, [_], ⟨rfl, trivial⟩, [], List.nil_sublist _, ?_⟩
    rfl
  · have p20 := of_decide_eq_false h20
    refine W.yes (dj := 21) rfl rfl h20 ?_
    refine W.mv ?_
    refine W.yes (dj := 21) rfl rfl h20 ?_
    refine W.ok (ok_len sl47 h_c rfl) ?_
    refine W.yes (dj := 21) rfl rfl h20 ?_
    refine W.ok (ok_gtr rfl rfl) ?_
    refine W.ok (ok_pick_f rfl h20) ?_
    refine W.mv ?_
    refine W.sp 26 rfl (fun h24 => ?_) (fun h24 => ?_)
    · have p24 := of_decide_eq_true h24
      refine W.no (dj := 26) rfl rfl h24 ?_
      refine W.no (dj := 26) rfl rfl h24 ?_
      refine W.no (dj := 26) rfl rfl h24 ?_
      refine W.ok (ok_pick_t rfl h24) ?_
      refine W.mv ?_
      refine W.no (dj := 31) rfl rfl rfl ?_
      refine W.no (dj := 31) rfl rfl rfl ?_
      refine W.no (dj := 31) rfl rfl rfl ?_
      refine W.no (dj := 31) rfl rfl rfl ?_
      refine W.ok (ok_pick_t rfl rfl) ?_
      refine W.nil (thn_n ?_)
      refine WC.cond_t rfl rfl ?_
      refine WC.seq ?_
      refine WC.region ?_
      refine W.qcall (awake15_fc) rfl ?_
      refine W.as ?_
      refine W.nil (thn_n ?_)
      refine WC.ret (thn_r ?_)
      refine ⟨.inr rfl, [_], ⟨rfl, trivial⟩, [], List.nil_sublist _, ?_⟩
      rfl
    · have p24 := of_decide_eq_false h24
      refine W.yes (dj := 26) rfl rfl h24 ?_
      refine W.mv ?_
      refine W.yes (dj := 26) rfl rfl h24 ?_
      refine W.ok (ok_lenS st9 rfl) ?_
      refine W.yes (dj := 26) rfl rfl h24 ?_
      refine W.ok (ok_gtr rfl rfl) ?_
      refine W.ok (ok_pick_f rfl h24) ?_
      refine W.mv ?_
      refine W.sp 31 rfl (fun h29 => ?_) (fun h29 => ?_)
      · have p29 := of_decide_eq_true h29
        refine W.no (dj := 31) rfl rfl h29 ?_
        refine W.no (dj := 31) rfl rfl h29 ?_
        refine W.no (dj := 31) rfl rfl h29 ?_
        refine W.no (dj := 31) rfl rfl h29 ?_
        refine W.ok (ok_pick_t rfl h29) ?_
        refine W.nil (thn_n ?_)
        refine WC.cond_t rfl rfl ?_
        refine WC.seq ?_
        refine WC.region ?_
        refine W.qcall (awake15_fc) rfl ?_
        refine W.as ?_
        refine W.nil (thn_n ?_)
        refine WC.ret (thn_r ?_)
        refine ⟨.inr rfl, [_], ⟨rfl, trivial⟩, [], List.nil_sublist _, ?_⟩
        rfl
      · have p29 := of_decide_eq_false h29
        refine W.yes (dj := 31) rfl rfl h29 ?_
        refine W.mv ?_
        refine W.yes (dj := 31) rfl rfl h29 ?_
        refine W.mv ?_
        refine W.yes (dj := 31) rfl rfl h29 ?_
        refine W.qcall (rright_fc h_p h_c) rfl ?_
        refine W.yes (dj := 31) rfl rfl h29 ?_
        refine W.ok (ok_not rfl) ?_
        refine W.ok (ok_pick_f rfl h29) ?_
        refine W.nil (thn_n ?_)
        refine WC.cond (b := _) rfl (fun h35 => ?_) (fun h35 => ?_)
        · refine WC.seq ?_
          refine WC.region ?_
          refine W.qcall (awake15_fc) rfl ?_
          refine W.as ?_
          refine W.nil (thn_n ?_)
          refine WC.ret (thn_r ?_)
          refine ⟨.inr rfl, [_], ⟨rfl, trivial⟩, [], List.nil_sublist _, ?_⟩
          rfl
        · have hR : rightN p c.length = true := by simpa using h35
          obtain ⟨hrs, hcl⟩ := rightN_spec hR
          refine WC.skip (thn_n ?_)
          refine WC.seq ?_
          refine WC.region ?_
          refine W.mv ?_
          refine W.mv ?_
          refine W.mv ?_
          refine W.mv ?_
          refine W.mv ?_
          refine W.call (Mp := []) (binsn_fc h_p h_c _ _ _ (by assumption) (by assumption)) rfl (List.Perm.refl _) ?_
          intro _ G1 _ hG1 q4
          refine match q4 with | ⟨e_5, _, _, e_6, hv2, hv3⟩ => ?_
          subst e_5
          subst e_6
          have q8 := hv2.form
          refine match q8 with | ⟨sa_hv2, sc_hv2, e_7⟩ => ?_
          subst e_7
          have q10 := hv3.form
          refine match q10 with | ⟨sa_hv3, sc_hv3, e_9⟩ => ?_
          subst e_9
          refine W.mv ?_
          refine W.ok (ok_extract rfl rfl) ?_
          refine W.ok (ok_extract rfl rfl) ?_
          refine W.as ?_
          refine W.as ?_
          refine W.nil (thn_n ?_)
          refine WC.seq ?_
          refine WC.region ?_
          refine W.mv ?_
          refine W.mv ?_
          refine W.mv ?_
          refine W.call (Mp := []) (bremn_fc (h_p.mono hG1) (h_c.mono hG1) _ (by assumption) (by assumption)) rfl (List.Perm.refl _) ?_
          intro _ G11 _ hG11 q14
          refine match q14 with | ⟨e_15, _, _, e_16, hv12, hv13⟩ => ?_
          subst e_15
          subst e_16
          have q18 := hv12.form
          refine match q18 with | ⟨sa_hv12, sc_hv12, e_17⟩ => ?_
          subst e_17
          have q20 := hv13.form
          refine match q20 with | ⟨sa_hv13, sc_hv13, e_19⟩ => ?_
          subst e_19
          refine W.mv ?_
          refine W.ok (ok_extract rfl rfl) ?_
          refine W.ok (ok_extract rfl rfl) ?_
          refine W.as ?_
          refine W.as ?_
          refine W.nil (thn_n ?_)
          refine WC.seq ?_
          refine WC.region ?_
          refine W.mv ?_
          refine W.mv ?_
          refine W.qcall (rrange_fc (h_p.mono (hG1.trans hG11)) _ (by first | assumption | exact ⟨by omega, by omega⟩)) rfl ?_
          refine W.alloc zr68 (fun b21 => ?_)
          refine W.store (i := 0) (vs := [.string _, .string _, .bool _]) (L' := [.string _, .string _, .bool _]) ty68 rfl rfl rfl rfl rfl rfl rfl rfl ?_
          refine W.nil (thn_n ?_)
          refine WC.seq ?_
          refine WC.seq ?_
          refine WC.region ?_
          refine W.mv ?_
          refine W.ok (ok_lss rfl rfl) ?_
          refine W.mv ?_
          refine W.sp 59 rfl (fun h58 => ?_) (fun h58 => ?_)
          · have p58 := of_decide_eq_true h58
            refine W.no (dj := 59) rfl rfl h58 ?_
            refine W.no (dj := 59) rfl rfl h58 ?_
            refine W.no (dj := 59) rfl rfl h58 ?_
            refine W.no (dj := 59) rfl rfl h58 ?_
            refine W.ok (ok_pick_t rfl h58) ?_
            refine W.mv ?_
            refine W.no (dj := 65) rfl rfl rfl ?_
            refine W.no (dj := 65) rfl rfl rfl ?_
            refine W.no (dj := 65) rfl rfl rfl ?_
            refine W.no (dj := 65) rfl rfl rfl ?_
            refine W.ok (ok_pick_t rfl rfl) ?_
            refine W.mv ?_
            refine W.no (dj := 71) rfl rfl rfl ?_
            refine W.no (dj := 71) rfl rfl rfl ?_
            refine W.no (dj := 71) rfl rfl rfl ?_
            refine W.no (dj := 71) rfl rfl rfl ?_
            refine W.ok (ok_pick_t rfl rfl) ?_
            refine W.nil (thn_n ?_)
            refine WC.cond_t rfl rfl ?_
            refine WC.seq ?_
            refine WC.region ?_
            refine W.mv ?_
            refine W.ok (ok_len sl61 (hv2.mono hG11) rfl) ?_
            refine W.mv ?_
            refine W.ok (ok_len sl47 (hv3.mono hG11) rfl) ?_
            refine W.ok (ok_add rfl rfl (by simp)) ?_
            refine W.ok (ok_gtr rfl rfl) ?_
            refine W.nil (thn_n ?_)
            refine WC.cond (b := _) rfl (fun h82 => ?_) (fun h82 => ?_)
            · have p82 := of_decide_eq_true h82
              simp at p82
            · have p82 := of_decide_eq_false h82
              refine WC.skip (thn_n ?_)
              refine WC.seq ?_
              refine WC.seq ?_
              refine WC.region ?_
              refine W.mv ?_
              refine W.ok (ok_lss rfl rfl) ?_
              refine W.mv ?_
              refine W.sp 139 rfl (fun h138 => ?_) (fun h138 => ?_)
              · have p138 := of_decide_eq_true h138
                refine W.no (dj := 139) rfl rfl h138 ?_
                refine W.no (dj := 139) rfl rfl h138 ?_
                refine W.no (dj := 139) rfl rfl h138 ?_
                refine W.no (dj := 139) rfl rfl h138 ?_
                refine W.ok (ok_pick_t rfl h138) ?_
                refine W.nil (thn_n ?_)
                refine WC.cond_t rfl rfl ?_
                refine WC.seq ?_
                refine WC.region ?_
                refine W.mv ?_
                refine W.ok (ok_len sl61 hv12 rfl) ?_
                refine W.mv ?_
                refine W.ok (ok_len sl47 hv13 rfl) ?_
                refine W.ok (ok_add rfl rfl (by simp)) ?_
                refine W.ok (ok_eql rfl rfl) ?_
                refine W.mv ?_
                refine W.sp 151 rfl (fun h150 => ?_) (fun h150 => ?_)
                · have p150 := of_decide_eq_true h150
                  refine W.yes (dj := 151) rfl rfl h150 ?_
                  refine W.qcall (awake15_fc) rfl ?_
                  refine W.ok (ok_pick_t rfl h150) ?_
                  refine W.as ?_
                  refine W.nil (thn_n ?_)
                  refine WC.ret (thn_r ?_)
                  refine ⟨.inr rfl, [_], ⟨rfl, trivial⟩, [], List.nil_sublist _, ?_⟩
                  rfl
                · have p150 := of_decide_eq_false h150
                  simp at p150
              · have p138 := of_decide_eq_false h138
                exfalso; omega
          · have p58 := of_decide_eq_false h58
            exact absurd hn p58

theorem bgnat_fc {G : GH} {v_p : Value} {p : List Str} (h_p : SlR eStr G v_p p) {v_c : Value} {c : List Int} (h_c : SlR eInt G v_c c) (i : Nat) (k : Str) (nv : Int) (hi : i64 ((i : Nat) : Int)) (hv : i64 nv) :
    Fc Try.prog 5 [v_p, v_c, .int .i64 ((i : Nat) : Int), .string k.b, .int .i64 nv] G [] (fun v _ _ => v = .bool (true)) := by
  obtain ⟨sa_p, sc_p, rfl⟩ := h_p.form
  obtain ⟨sa_c, sc_c, rfl⟩ := h_c.form
  have hp := h_p.len47
  have hc := h_c.len47
  have hk := k.le
  have hv1 := hv.1
  have hv2 := hv.2
  have hi1 := hi.1
  have hi2 := hi.2
  refine Fc.intro (rs := [.tmp 10]) cl5 Try.func5 rfl Try.ntmps5 rfl rfl (fun w0 => ?_)
  refine WC.seq ?_
  refine WC.region ?_
  refine W.as ?_
  refine W.nil (thn_n ?_)
  refine WC.seq ?_
  refine WC.seq ?_
  refine WC.region ?_
  refine W.mv ?_
  refine W.qcall (rlong_fc h_p _ (by omega)) rfl ?_
  refine W.ok (ok_gtr rfl rfl) ?_
  refine W.mv ?_
  refine W.sp 21 rfl (fun h20 => ?_) (fun h20 => ?_)
  · have p20 := of_decide_eq_true h20
    refine W.no (dj := 21) rfl rfl h20 ?_
    refine W.no (dj := 21) rfl rfl h20 ?_
    refine W.no (dj := 21) rfl rfl h20 ?_
    refine W.ok (ok_pick_t rfl h20) ?_
    refine W.mv ?_
    refine W.no (dj := 26) rfl rfl rfl ?_
    refine W.no (dj := 26) rfl rfl rfl ?_
    refine W.no (dj := 26) rfl rfl rfl ?_
    refine W.ok (ok_pick_t rfl rfl) ?_
    refine W.mv ?_
    refine W.no (dj := 31) rfl rfl rfl ?_
    refine W.no (dj := 31) rfl rfl rfl ?_
    refine W.no (dj := 31) rfl rfl rfl ?_
    refine W.no (dj := 31) rfl rfl rfl ?_
    refine W.ok (ok_pick_t rfl rfl) ?_
    refine W.nil (thn_n ?_)
    refine WC.cond_t rfl rfl ?_
    refine WC.seq ?_
    refine WC.region ?_
    refine W.qcall (awake15_fc) rfl ?_
    refine W.as ?_
    refine W.nil (thn_n ?_)
    refine WC.ret (thn_r ?_)
    refine ⟨.inr rfl, [_], ⟨rfl, trivial⟩, [], List.nil_sublist _, ?_⟩
    rfl
  · have p20 := of_decide_eq_false h20
    refine W.yes (dj := 21) rfl rfl h20 ?_
    refine W.mv ?_
    refine W.yes (dj := 21) rfl rfl h20 ?_
    refine W.ok (ok_len sl47 h_c rfl) ?_
    refine W.yes (dj := 21) rfl rfl h20 ?_
    refine W.ok (ok_gtr rfl rfl) ?_
    refine W.ok (ok_pick_f rfl h20) ?_
    refine W.mv ?_
    refine W.sp 26 rfl (fun h24 => ?_) (fun h24 => ?_)
    · have p24 := of_decide_eq_true h24
      refine W.no (dj := 26) rfl rfl h24 ?_
      refine W.no (dj := 26) rfl rfl h24 ?_
      refine W.no (dj := 26) rfl rfl h24 ?_
      refine W.ok (ok_pick_t rfl h24) ?_
      refine W.mv ?_
      refine W.no (dj := 31) rfl rfl rfl ?_
      refine W.no (dj := 31) rfl rfl rfl ?_
      refine W.no (dj := 31) rfl rfl rfl ?_
      refine W.no (dj := 31) rfl rfl rfl ?_
      refine W.ok (ok_pick_t rfl rfl) ?_
      refine W.nil (thn_n ?_)
      refine WC.cond_t rfl rfl ?_
      refine WC.seq ?_
      refine WC.region ?_
      refine W.qcall (awake15_fc) rfl ?_
      refine W.as ?_
      refine W.nil (thn_n ?_)
      refine WC.ret (thn_r ?_)
      refine ⟨.inr rfl, [_], ⟨rfl, trivial⟩, [], List.nil_sublist _, ?_⟩
      rfl
    · have p24 := of_decide_eq_false h24
      refine W.yes (dj := 26) rfl rfl h24 ?_
      refine W.mv ?_
      refine W.yes (dj := 26) rfl rfl h24 ?_
      refine W.ok (ok_lenS st9 rfl) ?_
      refine W.yes (dj := 26) rfl rfl h24 ?_
      refine W.ok (ok_gtr rfl rfl) ?_
      refine W.ok (ok_pick_f rfl h24) ?_
      refine W.mv ?_
      refine W.sp 31 rfl (fun h29 => ?_) (fun h29 => ?_)
      · have p29 := of_decide_eq_true h29
        refine W.no (dj := 31) rfl rfl h29 ?_
        refine W.no (dj := 31) rfl rfl h29 ?_
        refine W.no (dj := 31) rfl rfl h29 ?_
        refine W.no (dj := 31) rfl rfl h29 ?_
        refine W.ok (ok_pick_t rfl h29) ?_
        refine W.nil (thn_n ?_)
        refine WC.cond_t rfl rfl ?_
        refine WC.seq ?_
        refine WC.region ?_
        refine W.qcall (awake15_fc) rfl ?_
        refine W.as ?_
        refine W.nil (thn_n ?_)
        refine WC.ret (thn_r ?_)
        refine ⟨.inr rfl, [_], ⟨rfl, trivial⟩, [], List.nil_sublist _, ?_⟩
        rfl
      · have p29 := of_decide_eq_false h29
        refine W.yes (dj := 31) rfl rfl h29 ?_
        refine W.mv ?_
        refine W.yes (dj := 31) rfl rfl h29 ?_
        refine W.mv ?_
        refine W.yes (dj := 31) rfl rfl h29 ?_
        refine W.qcall (rright_fc h_p h_c) rfl ?_
        refine W.yes (dj := 31) rfl rfl h29 ?_
        refine W.ok (ok_not rfl) ?_
        refine W.ok (ok_pick_f rfl h29) ?_
        refine W.nil (thn_n ?_)
        refine WC.cond (b := _) rfl (fun h35 => ?_) (fun h35 => ?_)
        · refine WC.seq ?_
          refine WC.region ?_
          refine W.qcall (awake15_fc) rfl ?_
          refine W.as ?_
          refine W.nil (thn_n ?_)
          refine WC.ret (thn_r ?_)
          refine ⟨.inr rfl, [_], ⟨rfl, trivial⟩, [], List.nil_sublist _, ?_⟩
          rfl
        · have hR : rightN p c.length = true := by simpa using h35
          obtain ⟨hrs, hcl⟩ := rightN_spec hR
          obtain ⟨hbl1, hbl2⟩ := bins_len p c i k nv
          obtain ⟨hrl1, hrl2⟩ := brem_len p c i
          refine WC.skip (thn_n ?_)
          refine WC.seq ?_
          refine WC.region ?_
          refine W.mv ?_
          refine W.mv ?_
          refine W.mv ?_
          refine W.mv ?_
          refine W.mv ?_
          refine W.call (Mp := []) (bins_fc h_p h_c _ _ _ (by first | assumption | omega | (simp; omega)) (by first | assumption | omega | (simp; omega)) (by first | assumption | exact ⟨by omega, by omega⟩) (by assumption)) rfl (List.Perm.refl _) ?_
          intro _ G22 _ hG22 q25
          refine match q25 with | ⟨e_26, _, e_27, _, _, e_28, hv23, hv24⟩ => ?_
          subst e_26
          subst e_27
          subst e_28
          have q30 := hv23.form
          refine match q30 with | ⟨sa_hv23, sc_hv23, e_29⟩ => ?_
          subst e_29
          have q32 := hv24.form
          refine match q32 with | ⟨sa_hv24, sc_hv24, e_31⟩ => ?_
          subst e_31
          refine W.mv ?_
          refine W.ok (ok_extract rfl rfl) ?_
          refine W.ok (ok_extract rfl rfl) ?_
          refine W.as ?_
          refine W.as ?_
          refine W.nil (thn_n ?_)
          refine WC.seq ?_
          refine WC.region ?_
          refine W.mv ?_
          refine W.mv ?_
          refine W.mv ?_
          refine W.call (Mp := []) (brem_fc (h_p.mono hG22) (h_c.mono hG22) _ (by first | assumption | exact ⟨by omega, by omega⟩)) rfl (List.Perm.refl _) ?_
          intro _ G33 _ hG33 q36
          refine match q36 with | ⟨e_37, _, e_38, _, _, e_39, hv34, hv35⟩ => ?_
          subst e_37
          subst e_38
          subst e_39
          have q41 := hv34.form
          refine match q41 with | ⟨sa_hv34, sc_hv34, e_40⟩ => ?_
          subst e_40
          have q43 := hv35.form
          refine match q43 with | ⟨sa_hv35, sc_hv35, e_42⟩ => ?_
          subst e_42
          refine W.mv ?_
          refine W.ok (ok_extract rfl rfl) ?_
          refine W.ok (ok_extract rfl rfl) ?_
          refine W.as ?_
          refine W.as ?_
          refine W.nil (thn_n ?_)
          refine WC.seq ?_
          refine WC.region ?_
          refine W.mv ?_
          refine W.mv ?_
          refine W.qcall (rrange_fc (h_p.mono (hG22.trans hG33)) _ (by first | assumption | exact ⟨by omega, by omega⟩)) rfl ?_
          refine W.alloc zr68 (fun b44 => ?_)
          refine W.store (i := 0) (vs := [.string _, .string _, .bool _]) (L' := [.string _, .string _, .bool _]) ty68 rfl rfl rfl rfl rfl rfl rfl rfl ?_
          refine W.nil (thn_n ?_)
          refine WC.seq ?_
          refine WC.seq ?_
          refine WC.region ?_
          refine W.mv ?_
          refine W.ok (ok_lss rfl rfl) ?_
          refine W.mv ?_
          refine W.sp 59 rfl (fun h58 => ?_) (fun h58 => ?_)
          · have p58 := of_decide_eq_true h58
            exfalso; omega
          · have p58 := of_decide_eq_false h58
            refine W.yes (dj := 59) rfl rfl h58 ?_
            refine W.mv ?_
            refine W.yes (dj := 59) rfl rfl h58 ?_
            refine W.mv ?_
            refine W.yes (dj := 59) rfl rfl h58 ?_
            refine W.ok (ok_len sl47 (h_c.mono (hG22.trans hG33)) rfl) ?_
            refine W.yes (dj := 59) rfl rfl h58 ?_
            refine W.ok (ok_geq rfl rfl) ?_
            refine W.ok (ok_pick_f rfl h58) ?_
            refine W.mv ?_
            refine W.sp 65 rfl (fun h63 => ?_) (fun h63 => ?_)
            · have p63 := of_decide_eq_true h63
              refine W.no (dj := 65) rfl rfl h63 ?_
              refine W.no (dj := 65) rfl rfl h63 ?_
              refine W.no (dj := 65) rfl rfl h63 ?_
              refine W.no (dj := 65) rfl rfl h63 ?_
              refine W.ok (ok_pick_t rfl h63) ?_
              refine W.mv ?_
              refine W.no (dj := 71) rfl rfl rfl ?_
              refine W.no (dj := 71) rfl rfl rfl ?_
              refine W.no (dj := 71) rfl rfl rfl ?_
              refine W.no (dj := 71) rfl rfl rfl ?_
              refine W.ok (ok_pick_t rfl rfl) ?_
              refine W.nil (thn_n ?_)
              refine WC.cond_t rfl rfl ?_
              refine WC.seq ?_
              refine WC.region ?_
              refine W.mv ?_
              refine W.ok (ok_len sl61 (hv23.mono hG33) rfl) ?_
              refine W.mv ?_
              refine W.ok (ok_len sl47 (hv24.mono hG33) rfl) ?_
              refine W.ok (ok_add rfl rfl (by omega)) ?_
              refine W.ok (ok_gtr rfl rfl) ?_
              refine W.nil (thn_n ?_)
              refine WC.cond (b := _) rfl (fun h82 => ?_) (fun h82 => ?_)
              · have p82 := of_decide_eq_true h82
                have hz : (binsN p c i k nv) = ([], []) := binsN_0 (by first | exact .inl (by omega) | exact .inr (.inl (by simpa using h69)) | exact .inr (.inr (Str.ext' p75)))
                exfalso
                rw [hz] at p82
                simp at p82
              · have p82 := of_decide_eq_false h82
                refine WC.skip (thn_n ?_)
                refine WC.seq ?_
                refine WC.seq ?_
                refine WC.region ?_
                refine W.mv ?_
                refine W.ok (ok_lss rfl rfl) ?_
                refine W.mv ?_
                refine W.sp 139 rfl (fun h138 => ?_) (fun h138 => ?_)
                · have p138 := of_decide_eq_true h138
                  refine W.no (dj := 139) rfl rfl h138 ?_
                  refine W.no (dj := 139) rfl rfl h138 ?_
                  refine W.no (dj := 139) rfl rfl h138 ?_
                  refine W.no (dj := 139) rfl rfl h138 ?_
                  refine W.ok (ok_pick_t rfl h138) ?_
                  refine W.nil (thn_n ?_)
                  refine WC.cond_t rfl rfl ?_
                  refine WC.seq ?_
                  refine WC.region ?_
                  refine W.mv ?_
                  refine W.ok (ok_len sl61 hv34 rfl) ?_
                  refine W.mv ?_
                  refine W.ok (ok_len sl47 hv35 rfl) ?_
                  refine W.ok (ok_add rfl rfl (by omega)) ?_
                  refine W.ok (ok_eql rfl rfl) ?_
                  refine W.mv ?_
                  refine W.sp 151 rfl (fun h150 => ?_) (fun h150 => ?_)
                  · have p150 := of_decide_eq_true h150
                    refine W.yes (dj := 151) rfl rfl h150 ?_
                    refine W.qcall (awake15_fc) rfl ?_
                    refine W.ok (ok_pick_t rfl h150) ?_
                    refine W.as ?_
                    refine W.nil (thn_n ?_)
                    refine WC.ret (thn_r ?_)
                    refine ⟨.inr rfl, [_], ⟨rfl, trivial⟩, [], List.nil_sublist _, ?_⟩
                    rfl
                  · have p150 := of_decide_eq_false h150
                    refine absurd ?_ p150
                    rw [bremN_0 (by omega)]; rfl
                · have p138 := of_decide_eq_false h138
                  refine W.yes (dj := 139) rfl rfl h138 ?_
                  refine W.mv ?_
                  refine W.yes (dj := 139) rfl rfl h138 ?_
                  refine W.mv ?_
                  refine W.yes (dj := 139) rfl rfl h138 ?_
                  refine W.ok (ok_len sl47 (h_c.mono (hG22.trans hG33)) rfl) ?_
                  refine W.yes (dj := 139) rfl rfl h138 ?_
                  refine W.ok (ok_geq rfl rfl) ?_
                  refine W.ok (ok_pick_f rfl h138) ?_
                  refine W.nil (thn_n ?_)
                  refine WC.cond (b := _) rfl (fun h143 => ?_) (fun h143 => ?_)
                  · have p143 := of_decide_eq_true h143
                    refine WC.seq ?_
                    refine WC.region ?_
                    refine W.mv ?_
                    refine W.ok (ok_len sl61 hv34 rfl) ?_
                    refine W.mv ?_
                    refine W.ok (ok_len sl47 hv35 rfl) ?_
                    refine W.ok (ok_add rfl rfl (by omega)) ?_
                    refine W.ok (ok_eql rfl rfl) ?_
                    refine W.mv ?_
                    refine W.sp 151 rfl (fun h150 => ?_) (fun h150 => ?_)
                    · have p150 := of_decide_eq_true h150
                      refine W.yes (dj := 151) rfl rfl h150 ?_
                      refine W.qcall (awake15_fc) rfl ?_
                      refine W.ok (ok_pick_t rfl h150) ?_
                      refine W.as ?_
                      refine W.nil (thn_n ?_)
                      refine WC.ret (thn_r ?_)
                      refine ⟨.inr rfl, [_], ⟨rfl, trivial⟩, [], List.nil_sublist _, ?_⟩
                      rfl
                    · have p150 := of_decide_eq_false h150
                      refine absurd ?_ p150
                      rw [bremN_0 (by omega)]; rfl
                  · have p143 := of_decide_eq_false h143
                    refine WC.skip (thn_n ?_)
                    refine WC.seq ?_
                    refine WC.drawW _ ((List.Sublist.refl _).cons_cons _) mix (by rintro _ _ _ _ ⟨h | h, _⟩ <;> cases h) ?_
                    refine WD.take 0 rfl rfl rfl (by kernel_rfl) (by kernel_rfl) (by kernel_rfl) (ok_mv) ?_
                    refine WD.take 1 rfl rfl rfl (by kernel_rfl) (by kernel_rfl) (by kernel_rfl) (ok_mv) ?_
                    refine WD.take 2 rfl rfl rfl (by kernel_rfl) (by kernel_rfl) (by kernel_rfl) (ok_mv) ?_
                    refine WD.take 3 rfl rfl rfl (by kernel_rfl) (by kernel_rfl) (by kernel_rfl) (Ok.int (n := ((i - 1 : Nat) : Int)) (ok_sub rfl rfl (by omega)) (by omega)) ?_
                    refine WD.take 5 rfl rfl rfl (by kernel_rfl) (by kernel_rfl) (by kernel_rfl) (ok_mv) ?_
                    refine WD.take 6 rfl rfl rfl (by kernel_rfl) (by kernel_rfl) (by kernel_rfl) (ok_mv) ?_
                    have hs45 := SlR.slice (h_p.mono (hG22.trans hG33)) (lo := i) (hi := p.length) (by omega) (by omega)
                    refine WD.take 7 rfl rfl rfl (by kernel_rfl) (by kernel_rfl) (by kernel_rfl) (ok_slice (i) (p.length) sl61 ty9 (h_p.mono (hG22.trans hG33)) rfl ⟨_, _, rfl, by omega⟩ rfl ⟨by omega, by omega⟩) ?_
                    refine WD.any [4] (by kernel_rfl) rfl ⟨⟨_, rfl, rfl, ?_⟩, trivial⟩
                    refine W.call (Mp := []) (cutO_fc (h_p.mono (hG22.trans hG33)) 0 _ ⟨by omega, by omega⟩) rfl (List.Perm.refl _) ?_
                    rintro v47 G46 Ms48 hG46 ho49
                    refine W.perm (pmC (List.Perm.refl _)).symm ?_
                    refine W.nil ⟨hG46, (List.nil_sublist _).cons_cons _, _, (List.nil_sublist _).cons_cons _, List.Sublist.refl _, ?_⟩
                    refine WD.any [8] (by kernel_rfl) rfl ⟨⟨_, rfl, rfl, ?_⟩, trivial⟩
                    refine W.app (e := eStr) sl61 ty9 zr9 rfl by9 rfl rfl (ho49) ((hs45.mono hG46)) (pmC (List.Perm.refl _)) (by simp only [List.length_append, List.length_drop, List.length_take, List.length_cons, List.length_nil] at *; show (_ + _) * 16 ≤ _; first | omega | (simp; done) | (simp; omega)) (fun v50 Ms51 ho52 => ?_)
                    refine W.perm (pmC (List.Perm.refl _)).symm ?_
                    refine W.nil ⟨Le.rfl, (List.nil_sublist _).cons_cons _, _, (List.nil_sublist _).cons_cons _, List.Sublist.refl _, ?_⟩
                    refine WD.any [9] (by kernel_rfl) rfl ⟨⟨_, rfl, rfl, ?_⟩, trivial⟩
                    refine W.giveO ho52 (pmC (List.Perm.refl _)) (fun G53 hG53 hv53 => ?_)
                    have q55 := hv53.form
                    refine match q55 with | ⟨_, _, e_54⟩ => ?_
                    subst e_54
                    refine W.qcall ((same_fc (hv34.mono (hG46.trans hG53)) hv53).mono (fun v _ _ _ hv => hv.trans (congrArg Value.bool (decide_eq_true (by rw [bremN_1 (by omega) (by omega) (by omega)]; simp))))) rfl ?_
                    refine W.nil ⟨hG53, (List.Sublist.refl _).cons_cons _, _, (List.Sublist.refl _).cons_cons _, List.Sublist.refl _, ?_⟩
                    refine WD.take 10 rfl rfl rfl (by kernel_rfl) (by kernel_rfl) (by kernel_rfl) (ok_mv) ?_
                    refine WD.takeY 11 164 rfl rfl rfl rfl rfl rfl (by kernel_rfl) (by kernel_rfl) (by kernel_rfl) (ok_mv) ?_
                    refine WD.takeY 12 164 rfl rfl rfl rfl rfl rfl (by kernel_rfl) (by kernel_rfl) (by kernel_rfl) (ok_mv) ?_
                    refine WD.takeY 13 164 rfl rfl rfl rfl rfl rfl (by kernel_rfl) (by kernel_rfl) (by kernel_rfl) (ok_mv) ?_
                    refine WD.takeY 15 164 rfl rfl rfl rfl rfl rfl (by kernel_rfl) (by kernel_rfl) (by kernel_rfl) (ok_mv) ?_
                    refine WD.takeY 16 164 rfl rfl rfl rfl rfl rfl (by kernel_rfl) (by kernel_rfl) (by kernel_rfl) (ok_mv) ?_
                    refine WD.takeY 17 164 rfl rfl rfl rfl rfl rfl (by kernel_rfl) (by kernel_rfl) (by kernel_rfl) (Ok.int (n := ((i + 1 : Nat) : Int)) (ok_add rfl rfl (by omega)) (by omega)) ?_
                    have hs56 := SlR.slice (h_c.mono (((hG22.trans hG33).trans hG46).trans hG53)) (lo := i + 1) (hi := c.length) (by omega) (by omega)
                    refine WD.takeY 18 164 rfl rfl rfl rfl rfl rfl (by kernel_rfl) (by kernel_rfl) (by kernel_rfl) (ok_slice (i + 1) (c.length) sl47 ty3 (h_c.mono (((hG22.trans hG33).trans hG46).trans hG53)) rfl ⟨_, _, rfl, by omega⟩ rfl ⟨by omega, by omega⟩) ?_
                    refine WD.anyG [14] (by kernel_rfl) rfl ⟨⟨_, rfl, .inr ⟨_, 164, _, _, rfl, rfl, rfl, rfl, rfl⟩, ?_⟩, trivial⟩
                    refine W.call (Mp := []) (partO_fc (h_c.mono (((hG22.trans hG33).trans hG46).trans hG53)) 0 _ ⟨by omega, by omega⟩) rfl (List.Perm.refl _) ?_
                    rintro v58 G57 Ms59 hG57 ho60
                    refine W.perm (pmC (List.Perm.refl _)).symm ?_
                    refine W.nil ⟨hG57, (List.nil_sublist _).cons_cons _, _, (List.nil_sublist _).cons_cons _, List.Sublist.refl _, ?_⟩
                    refine WD.anyG [19] (by kernel_rfl) rfl ⟨⟨_, rfl, .inr ⟨_, 164, _, _, rfl, rfl, rfl, rfl, rfl⟩, ?_⟩, trivial⟩
                    refine W.app (e := eInt) sl47 ty3 zr3 rfl by3 rfl rfl (ho60) ((hs56.mono hG57)) (pmC (List.Perm.refl _)) (by simp only [List.length_append, List.length_drop, List.length_take, List.length_cons, List.length_nil] at *; show (_ + _) * 8 ≤ _; first | omega | (simp; done) | (simp; omega)) (fun v61 Ms62 ho63 => ?_)
                    refine W.perm (pmC (List.Perm.refl _)).symm ?_
                    refine W.nil ⟨Le.rfl, (List.nil_sublist _).cons_cons _, _, (List.nil_sublist _).cons_cons _, List.Sublist.refl _, ?_⟩
                    refine WD.anyG [20] (by kernel_rfl) rfl ⟨⟨_, rfl, .inr ⟨_, 164, _, _, rfl, rfl, rfl, rfl, rfl⟩, ?_⟩, trivial⟩
                    refine W.giveO ho63 (pmC (List.Perm.refl _)) (fun G64 hG64 hv64 => ?_)
                    have q66 := hv64.form
                    refine match q66 with | ⟨_, _, e_65⟩ => ?_
                    subst e_65
                    refine W.qcall ((ints_fc (hv35.mono (((hG46.trans hG53).trans hG57).trans hG64)) hv64).mono (fun v _ _ _ hv => hv.trans (congrArg Value.bool (decide_eq_true (by rw [bremN_1 (by omega) (by omega) (by omega)]; simp))))) rfl ?_
                    refine W.nil ⟨hG64, (List.Sublist.refl _).cons_cons _, _, (List.Sublist.refl _).cons_cons _, List.Sublist.refl _, ?_⟩
                    refine WD.take 21 rfl rfl rfl (by kernel_rfl) (by kernel_rfl) (by kernel_rfl) (ok_pick_t rfl rfl) ?_
                    refine WD.take 22 rfl rfl rfl (by kernel_rfl) (by kernel_rfl) (by kernel_rfl) (ok_mv) ?_
                    refine WD.anyG [23] (by kernel_rfl) rfl ⟨⟨_, rfl, .inr ⟨_, 176, _, _, rfl, rfl, rfl, rfl, rfl⟩, ?_⟩, trivial⟩
                    refine W.qcall (awake15_fc) rfl ?_
                    refine W.nil ⟨Le.rfl, (List.Sublist.refl _).cons_cons _, _, (List.Sublist.refl _).cons_cons _, List.Sublist.refl _, ?_⟩
                    refine WD.take 24 rfl rfl rfl (by kernel_rfl) (by kernel_rfl) (by kernel_rfl) (ok_pick_t rfl rfl) ?_
                    refine WD.take 25 rfl rfl rfl (by kernel_rfl) (by kernel_rfl) (by kernel_rfl) (ok_as) ?_
                    refine WD.done (by kernel_rfl) (thn_n ?_)
                    refine WC.ret ?_
                    refine ⟨.inr rfl, [_], ⟨rfl, trivial⟩, [], List.nil_sublist _, ?_⟩
                    rfl
            · have p63 := of_decide_eq_false h63
              refine W.yes (dj := 65) rfl rfl h63 ?_
              refine W.ok (ok_loadB (i := 0) (vs := [.string _, .string _, .bool _]) ty68 rfl rfl rfl rfl (by simp)) ?_
              refine W.yes (dj := 65) rfl rfl h63 ?_
              refine W.mv ?_
              refine W.yes (dj := 65) rfl rfl h63 ?_
              refine W.qcall (has_fc _ _ _ _) rfl ?_
              refine W.yes (dj := 65) rfl rfl h63 ?_
              refine W.ok (ok_not rfl) ?_
              refine W.ok (ok_pick_f rfl h63) ?_
              refine W.mv ?_
              refine W.sp 71 rfl (fun h69 => ?_) (fun h69 => ?_)
              · refine W.no (dj := 71) rfl rfl h69 ?_
                refine W.no (dj := 71) rfl rfl h69 ?_
                refine W.no (dj := 71) rfl rfl h69 ?_
                refine W.no (dj := 71) rfl rfl h69 ?_
                refine W.ok (ok_pick_t rfl h69) ?_
                refine W.nil (thn_n ?_)
                refine WC.cond_t rfl rfl ?_
                refine WC.seq ?_
                refine WC.region ?_
                refine W.mv ?_
                refine W.ok (ok_len sl61 (hv23.mono hG33) rfl) ?_
                refine W.mv ?_
                refine W.ok (ok_len sl47 (hv24.mono hG33) rfl) ?_
                refine W.ok (ok_add rfl rfl (by omega)) ?_
                refine W.ok (ok_gtr rfl rfl) ?_
                refine W.nil (thn_n ?_)
                refine WC.cond (b := _) rfl (fun h82 => ?_) (fun h82 => ?_)
                · have p82 := of_decide_eq_true h82
                  have hz : (binsN p c i k nv) = ([], []) := binsN_0 (by first | exact .inl (by omega) | exact .inr (.inl (by simpa using h69)) | exact .inr (.inr (Str.ext' p75)))
                  exfalso
                  rw [hz] at p82
                  simp at p82
                · have p82 := of_decide_eq_false h82
                  refine WC.skip (thn_n ?_)
                  refine WC.seq ?_
                  refine WC.seq ?_
                  refine WC.region ?_
                  refine W.mv ?_
                  refine W.ok (ok_lss rfl rfl) ?_
                  refine W.mv ?_
                  refine W.sp 139 rfl (fun h138 => ?_) (fun h138 => ?_)
                  · have p138 := of_decide_eq_true h138
                    refine W.no (dj := 139) rfl rfl h138 ?_
                    refine W.no (dj := 139) rfl rfl h138 ?_
                    refine W.no (dj := 139) rfl rfl h138 ?_
                    refine W.no (dj := 139) rfl rfl h138 ?_
                    refine W.ok (ok_pick_t rfl h138) ?_
                    refine W.nil (thn_n ?_)
                    refine WC.cond_t rfl rfl ?_
                    refine WC.seq ?_
                    refine WC.region ?_
                    refine W.mv ?_
                    refine W.ok (ok_len sl61 hv34 rfl) ?_
                    refine W.mv ?_
                    refine W.ok (ok_len sl47 hv35 rfl) ?_
                    refine W.ok (ok_add rfl rfl (by omega)) ?_
                    refine W.ok (ok_eql rfl rfl) ?_
                    refine W.mv ?_
                    refine W.sp 151 rfl (fun h150 => ?_) (fun h150 => ?_)
                    · have p150 := of_decide_eq_true h150
                      refine W.yes (dj := 151) rfl rfl h150 ?_
                      refine W.qcall (awake15_fc) rfl ?_
                      refine W.ok (ok_pick_t rfl h150) ?_
                      refine W.as ?_
                      refine W.nil (thn_n ?_)
                      refine WC.ret (thn_r ?_)
                      refine ⟨.inr rfl, [_], ⟨rfl, trivial⟩, [], List.nil_sublist _, ?_⟩
                      rfl
                    · have p150 := of_decide_eq_false h150
                      refine absurd ?_ p150
                      rw [bremN_0 (by omega)]; rfl
                  · have p138 := of_decide_eq_false h138
                    refine W.yes (dj := 139) rfl rfl h138 ?_
                    refine W.mv ?_
                    refine W.yes (dj := 139) rfl rfl h138 ?_
                    refine W.mv ?_
                    refine W.yes (dj := 139) rfl rfl h138 ?_
                    refine W.ok (ok_len sl47 (h_c.mono (hG22.trans hG33)) rfl) ?_
                    refine W.yes (dj := 139) rfl rfl h138 ?_
                    refine W.ok (ok_geq rfl rfl) ?_
                    refine W.ok (ok_pick_f rfl h138) ?_
                    refine W.nil (thn_n ?_)
                    refine WC.cond (b := _) rfl (fun h143 => ?_) (fun h143 => ?_)
                    · have p143 := of_decide_eq_true h143
                      refine WC.seq ?_
                      refine WC.region ?_
                      refine W.mv ?_
                      refine W.ok (ok_len sl61 hv34 rfl) ?_
                      refine W.mv ?_
                      refine W.ok (ok_len sl47 hv35 rfl) ?_
                      refine W.ok (ok_add rfl rfl (by omega)) ?_
                      refine W.ok (ok_eql rfl rfl) ?_
                      refine W.mv ?_
                      refine W.sp 151 rfl (fun h150 => ?_) (fun h150 => ?_)
                      · have p150 := of_decide_eq_true h150
                        refine W.yes (dj := 151) rfl rfl h150 ?_
                        refine W.qcall (awake15_fc) rfl ?_
                        refine W.ok (ok_pick_t rfl h150) ?_
                        refine W.as ?_
                        refine W.nil (thn_n ?_)
                        refine WC.ret (thn_r ?_)
                        refine ⟨.inr rfl, [_], ⟨rfl, trivial⟩, [], List.nil_sublist _, ?_⟩
                        rfl
                      · have p150 := of_decide_eq_false h150
                        refine absurd ?_ p150
                        rw [bremN_0 (by omega)]; rfl
                    · have p143 := of_decide_eq_false h143
                      refine WC.skip (thn_n ?_)
                      refine WC.seq ?_
                      refine WC.drawW _ ((List.Sublist.refl _).cons_cons _) mix (by rintro _ _ _ _ ⟨h | h, _⟩ <;> cases h) ?_
                      refine WD.take 0 rfl rfl rfl (by kernel_rfl) (by kernel_rfl) (by kernel_rfl) (ok_mv) ?_
                      refine WD.take 1 rfl rfl rfl (by kernel_rfl) (by kernel_rfl) (by kernel_rfl) (ok_mv) ?_
                      refine WD.take 2 rfl rfl rfl (by kernel_rfl) (by kernel_rfl) (by kernel_rfl) (ok_mv) ?_
                      refine WD.take 3 rfl rfl rfl (by kernel_rfl) (by kernel_rfl) (by kernel_rfl) (Ok.int (n := ((i - 1 : Nat) : Int)) (ok_sub rfl rfl (by omega)) (by omega)) ?_
                      refine WD.take 5 rfl rfl rfl (by kernel_rfl) (by kernel_rfl) (by kernel_rfl) (ok_mv) ?_
                      refine WD.take 6 rfl rfl rfl (by kernel_rfl) (by kernel_rfl) (by kernel_rfl) (ok_mv) ?_
                      have hs67 := SlR.slice (h_p.mono (hG22.trans hG33)) (lo := i) (hi := p.length) (by omega) (by omega)
                      refine WD.take 7 rfl rfl rfl (by kernel_rfl) (by kernel_rfl) (by kernel_rfl) (ok_slice (i) (p.length) sl61 ty9 (h_p.mono (hG22.trans hG33)) rfl ⟨_, _, rfl, by omega⟩ rfl ⟨by omega, by omega⟩) ?_
                      refine WD.any [4] (by kernel_rfl) rfl ⟨⟨_, rfl, rfl, ?_⟩, trivial⟩
                      refine W.call (Mp := []) (cutO_fc (h_p.mono (hG22.trans hG33)) 0 _ ⟨by omega, by omega⟩) rfl (List.Perm.refl _) ?_
                      rintro v69 G68 Ms70 hG68 ho71
                      refine W.perm (pmC (List.Perm.refl _)).symm ?_
                      refine W.nil ⟨hG68, (List.nil_sublist _).cons_cons _, _, (List.nil_sublist _).cons_cons _, List.Sublist.refl _, ?_⟩
                      refine WD.any [8] (by kernel_rfl) rfl ⟨⟨_, rfl, rfl, ?_⟩, trivial⟩
                      refine W.app (e := eStr) sl61 ty9 zr9 rfl by9 rfl rfl (ho71) ((hs67.mono hG68)) (pmC (List.Perm.refl _)) (by simp only [List.length_append, List.length_drop, List.length_take, List.length_cons, List.length_nil] at *; show (_ + _) * 16 ≤ _; first | omega | (simp; done) | (simp; omega)) (fun v72 Ms73 ho74 => ?_)
                      refine W.perm (pmC (List.Perm.refl _)).symm ?_
                      refine W.nil ⟨Le.rfl, (List.nil_sublist _).cons_cons _, _, (List.nil_sublist _).cons_cons _, List.Sublist.refl _, ?_⟩
                      refine WD.any [9] (by kernel_rfl) rfl ⟨⟨_, rfl, rfl, ?_⟩, trivial⟩
                      refine W.giveO ho74 (pmC (List.Perm.refl _)) (fun G75 hG75 hv75 => ?_)
                      have q77 := hv75.form
                      refine match q77 with | ⟨_, _, e_76⟩ => ?_
                      subst e_76
                      refine W.qcall ((same_fc (hv34.mono (hG68.trans hG75)) hv75).mono (fun v _ _ _ hv => hv.trans (congrArg Value.bool (decide_eq_true (by rw [bremN_1 (by omega) (by omega) (by omega)]; simp))))) rfl ?_
                      refine W.nil ⟨hG75, (List.Sublist.refl _).cons_cons _, _, (List.Sublist.refl _).cons_cons _, List.Sublist.refl _, ?_⟩
                      refine WD.take 10 rfl rfl rfl (by kernel_rfl) (by kernel_rfl) (by kernel_rfl) (ok_mv) ?_
                      refine WD.takeY 11 164 rfl rfl rfl rfl rfl rfl (by kernel_rfl) (by kernel_rfl) (by kernel_rfl) (ok_mv) ?_
                      refine WD.takeY 12 164 rfl rfl rfl rfl rfl rfl (by kernel_rfl) (by kernel_rfl) (by kernel_rfl) (ok_mv) ?_
                      refine WD.takeY 13 164 rfl rfl rfl rfl rfl rfl (by kernel_rfl) (by kernel_rfl) (by kernel_rfl) (ok_mv) ?_
                      refine WD.takeY 15 164 rfl rfl rfl rfl rfl rfl (by kernel_rfl) (by kernel_rfl) (by kernel_rfl) (ok_mv) ?_
                      refine WD.takeY 16 164 rfl rfl rfl rfl rfl rfl (by kernel_rfl) (by kernel_rfl) (by kernel_rfl) (ok_mv) ?_
                      refine WD.takeY 17 164 rfl rfl rfl rfl rfl rfl (by kernel_rfl) (by kernel_rfl) (by kernel_rfl) (Ok.int (n := ((i + 1 : Nat) : Int)) (ok_add rfl rfl (by omega)) (by omega)) ?_
                      have hs78 := SlR.slice (h_c.mono (((hG22.trans hG33).trans hG68).trans hG75)) (lo := i + 1) (hi := c.length) (by omega) (by omega)
                      refine WD.takeY 18 164 rfl rfl rfl rfl rfl rfl (by kernel_rfl) (by kernel_rfl) (by kernel_rfl) (ok_slice (i + 1) (c.length) sl47 ty3 (h_c.mono (((hG22.trans hG33).trans hG68).trans hG75)) rfl ⟨_, _, rfl, by omega⟩ rfl ⟨by omega, by omega⟩) ?_
                      refine WD.anyG [14] (by kernel_rfl) rfl ⟨⟨_, rfl, .inr ⟨_, 164, _, _, rfl, rfl, rfl, rfl, rfl⟩, ?_⟩, trivial⟩
                      refine W.call (Mp := []) (partO_fc (h_c.mono (((hG22.trans hG33).trans hG68).trans hG75)) 0 _ ⟨by omega, by omega⟩) rfl (List.Perm.refl _) ?_
                      rintro v80 G79 Ms81 hG79 ho82
                      refine W.perm (pmC (List.Perm.refl _)).symm ?_
                      refine W.nil ⟨hG79, (List.nil_sublist _).cons_cons _, _, (List.nil_sublist _).cons_cons _, List.Sublist.refl _, ?_⟩
                      refine WD.anyG [19] (by kernel_rfl) rfl ⟨⟨_, rfl, .inr ⟨_, 164, _, _, rfl, rfl, rfl, rfl, rfl⟩, ?_⟩, trivial⟩
                      refine W.app (e := eInt) sl47 ty3 zr3 rfl by3 rfl rfl (ho82) ((hs78.mono hG79)) (pmC (List.Perm.refl _)) (by simp only [List.length_append, List.length_drop, List.length_take, List.length_cons, List.length_nil] at *; show (_ + _) * 8 ≤ _; first | omega | (simp; done) | (simp; omega)) (fun v83 Ms84 ho85 => ?_)
                      refine W.perm (pmC (List.Perm.refl _)).symm ?_
                      refine W.nil ⟨Le.rfl, (List.nil_sublist _).cons_cons _, _, (List.nil_sublist _).cons_cons _, List.Sublist.refl _, ?_⟩
                      refine WD.anyG [20] (by kernel_rfl) rfl ⟨⟨_, rfl, .inr ⟨_, 164, _, _, rfl, rfl, rfl, rfl, rfl⟩, ?_⟩, trivial⟩
                      refine W.giveO ho85 (pmC (List.Perm.refl _)) (fun G86 hG86 hv86 => ?_)
                      have q88 := hv86.form
                      refine match q88 with | ⟨_, _, e_87⟩ => ?_
                      subst e_87
                      refine W.qcall ((ints_fc (hv35.mono (((hG68.trans hG75).trans hG79).trans hG86)) hv86).mono (fun v _ _ _ hv => hv.trans (congrArg Value.bool (decide_eq_true (by rw [bremN_1 (by omega) (by omega) (by omega)]; simp))))) rfl ?_
                      refine W.nil ⟨hG86, (List.Sublist.refl _).cons_cons _, _, (List.Sublist.refl _).cons_cons _, List.Sublist.refl _, ?_⟩
                      refine WD.take 21 rfl rfl rfl (by kernel_rfl) (by kernel_rfl) (by kernel_rfl) (ok_pick_t rfl rfl) ?_
                      refine WD.take 22 rfl rfl rfl (by kernel_rfl) (by kernel_rfl) (by kernel_rfl) (ok_mv) ?_
                      refine WD.anyG [23] (by kernel_rfl) rfl ⟨⟨_, rfl, .inr ⟨_, 176, _, _, rfl, rfl, rfl, rfl, rfl⟩, ?_⟩, trivial⟩
                      refine W.qcall (awake15_fc) rfl ?_
                      refine W.nil ⟨Le.rfl, (List.Sublist.refl _).cons_cons _, _, (List.Sublist.refl _).cons_cons _, List.Sublist.refl _, ?_⟩
                      refine WD.take 24 rfl rfl rfl (by kernel_rfl) (by kernel_rfl) (by kernel_rfl) (ok_pick_t rfl rfl) ?_
                      refine WD.take 25 rfl rfl rfl (by kernel_rfl) (by kernel_rfl) (by kernel_rfl) (ok_as) ?_
                      refine WD.done (by kernel_rfl) (thn_n ?_)
                      refine WC.ret ?_
                      refine ⟨.inr rfl, [_], ⟨rfl, trivial⟩, [], List.nil_sublist _, ?_⟩
                      rfl
              · refine W.yes (dj := 71) rfl rfl h69 ?_
                refine W.mv ?_
                refine W.yes (dj := 71) rfl rfl h69 ?_
                refine W.ok (ok_fieldB fd68_0 rfl) ?_
                refine W.yes (dj := 71) rfl rfl h69 ?_
                refine W.ok (ok_loadB (i := 0) (vs := [.string _]) ty9 rfl rfl rfl rfl (by simp)) ?_
                refine W.yes (dj := 71) rfl rfl h69 ?_
                refine W.ok (ok_eqlS rfl rfl) ?_
                refine W.ok (ok_pick_f rfl h69) ?_
                refine W.nil (thn_n ?_)
                refine WC.cond (b := _) rfl (fun h75 => ?_) (fun h75 => ?_)
                · have p75 := of_decide_eq_true h75
                  refine WC.seq ?_
                  refine WC.region ?_
                  refine W.mv ?_
                  refine W.ok (ok_len sl61 (hv23.mono hG33) rfl) ?_
                  refine W.mv ?_
                  refine W.ok (ok_len sl47 (hv24.mono hG33) rfl) ?_
                  refine W.ok (ok_add rfl rfl (by omega)) ?_
                  refine W.ok (ok_gtr rfl rfl) ?_
                  refine W.nil (thn_n ?_)
                  refine WC.cond (b := _) rfl (fun h82 => ?_) (fun h82 => ?_)
                  · have p82 := of_decide_eq_true h82
                    have hz : (binsN p c i k nv) = ([], []) := binsN_0 (by first | exact .inl (by omega) | exact .inr (.inl (by simpa using h69)) | exact .inr (.inr (Str.ext' p75)))
                    exfalso
                    rw [hz] at p82
                    simp at p82
                  · have p82 := of_decide_eq_false h82
                    refine WC.skip (thn_n ?_)
                    refine WC.seq ?_
                    refine WC.seq ?_
                    refine WC.region ?_
                    refine W.mv ?_
                    refine W.ok (ok_lss rfl rfl) ?_
                    refine W.mv ?_
                    refine W.sp 139 rfl (fun h138 => ?_) (fun h138 => ?_)
                    · have p138 := of_decide_eq_true h138
                      refine W.no (dj := 139) rfl rfl h138 ?_
                      refine W.no (dj := 139) rfl rfl h138 ?_
                      refine W.no (dj := 139) rfl rfl h138 ?_
                      refine W.no (dj := 139) rfl rfl h138 ?_
                      refine W.ok (ok_pick_t rfl h138) ?_
                      refine W.nil (thn_n ?_)
                      refine WC.cond_t rfl rfl ?_
                      refine WC.seq ?_
                      refine WC.region ?_
                      refine W.mv ?_
                      refine W.ok (ok_len sl61 hv34 rfl) ?_
                      refine W.mv ?_
                      refine W.ok (ok_len sl47 hv35 rfl) ?_
                      refine W.ok (ok_add rfl rfl (by omega)) ?_
                      refine W.ok (ok_eql rfl rfl) ?_
                      refine W.mv ?_
                      refine W.sp 151 rfl (fun h150 => ?_) (fun h150 => ?_)
                      · have p150 := of_decide_eq_true h150
                        refine W.yes (dj := 151) rfl rfl h150 ?_
                        refine W.qcall (awake15_fc) rfl ?_
                        refine W.ok (ok_pick_t rfl h150) ?_
                        refine W.as ?_
                        refine W.nil (thn_n ?_)
                        refine WC.ret (thn_r ?_)
                        refine ⟨.inr rfl, [_], ⟨rfl, trivial⟩, [], List.nil_sublist _, ?_⟩
                        rfl
                      · have p150 := of_decide_eq_false h150
                        refine absurd ?_ p150
                        rw [bremN_0 (by omega)]; rfl
                    · have p138 := of_decide_eq_false h138
                      refine W.yes (dj := 139) rfl rfl h138 ?_
                      refine W.mv ?_
                      refine W.yes (dj := 139) rfl rfl h138 ?_
                      refine W.mv ?_
                      refine W.yes (dj := 139) rfl rfl h138 ?_
                      refine W.ok (ok_len sl47 (h_c.mono (hG22.trans hG33)) rfl) ?_
                      refine W.yes (dj := 139) rfl rfl h138 ?_
                      refine W.ok (ok_geq rfl rfl) ?_
                      refine W.ok (ok_pick_f rfl h138) ?_
                      refine W.nil (thn_n ?_)
                      refine WC.cond (b := _) rfl (fun h143 => ?_) (fun h143 => ?_)
                      · have p143 := of_decide_eq_true h143
                        refine WC.seq ?_
                        refine WC.region ?_
                        refine W.mv ?_
                        refine W.ok (ok_len sl61 hv34 rfl) ?_
                        refine W.mv ?_
                        refine W.ok (ok_len sl47 hv35 rfl) ?_
                        refine W.ok (ok_add rfl rfl (by omega)) ?_
                        refine W.ok (ok_eql rfl rfl) ?_
                        refine W.mv ?_
                        refine W.sp 151 rfl (fun h150 => ?_) (fun h150 => ?_)
                        · have p150 := of_decide_eq_true h150
                          refine W.yes (dj := 151) rfl rfl h150 ?_
                          refine W.qcall (awake15_fc) rfl ?_
                          refine W.ok (ok_pick_t rfl h150) ?_
                          refine W.as ?_
                          refine W.nil (thn_n ?_)
                          refine WC.ret (thn_r ?_)
                          refine ⟨.inr rfl, [_], ⟨rfl, trivial⟩, [], List.nil_sublist _, ?_⟩
                          rfl
                        · have p150 := of_decide_eq_false h150
                          refine absurd ?_ p150
                          rw [bremN_0 (by omega)]; rfl
                      · have p143 := of_decide_eq_false h143
                        refine WC.skip (thn_n ?_)
                        refine WC.seq ?_
                        refine WC.drawW _ ((List.Sublist.refl _).cons_cons _) mix (by rintro _ _ _ _ ⟨h | h, _⟩ <;> cases h) ?_
                        refine WD.take 0 rfl rfl rfl (by kernel_rfl) (by kernel_rfl) (by kernel_rfl) (ok_mv) ?_
                        refine WD.take 1 rfl rfl rfl (by kernel_rfl) (by kernel_rfl) (by kernel_rfl) (ok_mv) ?_
                        refine WD.take 2 rfl rfl rfl (by kernel_rfl) (by kernel_rfl) (by kernel_rfl) (ok_mv) ?_
                        refine WD.take 3 rfl rfl rfl (by kernel_rfl) (by kernel_rfl) (by kernel_rfl) (Ok.int (n := ((i - 1 : Nat) : Int)) (ok_sub rfl rfl (by omega)) (by omega)) ?_
                        refine WD.take 5 rfl rfl rfl (by kernel_rfl) (by kernel_rfl) (by kernel_rfl) (ok_mv) ?_
                        refine WD.take 6 rfl rfl rfl (by kernel_rfl) (by kernel_rfl) (by kernel_rfl) (ok_mv) ?_
                        have hs89 := SlR.slice (h_p.mono (hG22.trans hG33)) (lo := i) (hi := p.length) (by omega) (by omega)
                        refine WD.take 7 rfl rfl rfl (by kernel_rfl) (by kernel_rfl) (by kernel_rfl) (ok_slice (i) (p.length) sl61 ty9 (h_p.mono (hG22.trans hG33)) rfl ⟨_, _, rfl, by omega⟩ rfl ⟨by omega, by omega⟩) ?_
                        refine WD.any [4] (by kernel_rfl) rfl ⟨⟨_, rfl, rfl, ?_⟩, trivial⟩
                        refine W.call (Mp := []) (cutO_fc (h_p.mono (hG22.trans hG33)) 0 _ ⟨by omega, by omega⟩) rfl (List.Perm.refl _) ?_
                        rintro v91 G90 Ms92 hG90 ho93
                        refine W.perm (pmC (List.Perm.refl _)).symm ?_
                        refine W.nil ⟨hG90, (List.nil_sublist _).cons_cons _, _, (List.nil_sublist _).cons_cons _, List.Sublist.refl _, ?_⟩
                        refine WD.any [8] (by kernel_rfl) rfl ⟨⟨_, rfl, rfl, ?_⟩, trivial⟩
                        refine W.app (e := eStr) sl61 ty9 zr9 rfl by9 rfl rfl (ho93) ((hs89.mono hG90)) (pmC (List.Perm.refl _)) (by simp only [List.length_append, List.length_drop, List.length_take, List.length_cons, List.length_nil] at *; show (_ + _) * 16 ≤ _; first | omega | (simp; done) | (simp; omega)) (fun v94 Ms95 ho96 => ?_)
                        refine W.perm (pmC (List.Perm.refl _)).symm ?_
                        refine W.nil ⟨Le.rfl, (List.nil_sublist _).cons_cons _, _, (List.nil_sublist _).cons_cons _, List.Sublist.refl _, ?_⟩
                        refine WD.any [9] (by kernel_rfl) rfl ⟨⟨_, rfl, rfl, ?_⟩, trivial⟩
                        refine W.giveO ho96 (pmC (List.Perm.refl _)) (fun G97 hG97 hv97 => ?_)
                        have q99 := hv97.form
                        refine match q99 with | ⟨_, _, e_98⟩ => ?_
                        subst e_98
                        refine W.qcall ((same_fc (hv34.mono (hG90.trans hG97)) hv97).mono (fun v _ _ _ hv => hv.trans (congrArg Value.bool (decide_eq_true (by rw [bremN_1 (by omega) (by omega) (by omega)]; simp))))) rfl ?_
                        refine W.nil ⟨hG97, (List.Sublist.refl _).cons_cons _, _, (List.Sublist.refl _).cons_cons _, List.Sublist.refl _, ?_⟩
                        refine WD.take 10 rfl rfl rfl (by kernel_rfl) (by kernel_rfl) (by kernel_rfl) (ok_mv) ?_
                        refine WD.takeY 11 164 rfl rfl rfl rfl rfl rfl (by kernel_rfl) (by kernel_rfl) (by kernel_rfl) (ok_mv) ?_
                        refine WD.takeY 12 164 rfl rfl rfl rfl rfl rfl (by kernel_rfl) (by kernel_rfl) (by kernel_rfl) (ok_mv) ?_
                        refine WD.takeY 13 164 rfl rfl rfl rfl rfl rfl (by kernel_rfl) (by kernel_rfl) (by kernel_rfl) (ok_mv) ?_
                        refine WD.takeY 15 164 rfl rfl rfl rfl rfl rfl (by kernel_rfl) (by kernel_rfl) (by kernel_rfl) (ok_mv) ?_
                        refine WD.takeY 16 164 rfl rfl rfl rfl rfl rfl (by kernel_rfl) (by kernel_rfl) (by kernel_rfl) (ok_mv) ?_
                        refine WD.takeY 17 164 rfl rfl rfl rfl rfl rfl (by kernel_rfl) (by kernel_rfl) (by kernel_rfl) (Ok.int (n := ((i + 1 : Nat) : Int)) (ok_add rfl rfl (by omega)) (by omega)) ?_
                        have hs100 := SlR.slice (h_c.mono (((hG22.trans hG33).trans hG90).trans hG97)) (lo := i + 1) (hi := c.length) (by omega) (by omega)
                        refine WD.takeY 18 164 rfl rfl rfl rfl rfl rfl (by kernel_rfl) (by kernel_rfl) (by kernel_rfl) (ok_slice (i + 1) (c.length) sl47 ty3 (h_c.mono (((hG22.trans hG33).trans hG90).trans hG97)) rfl ⟨_, _, rfl, by omega⟩ rfl ⟨by omega, by omega⟩) ?_
                        refine WD.anyG [14] (by kernel_rfl) rfl ⟨⟨_, rfl, .inr ⟨_, 164, _, _, rfl, rfl, rfl, rfl, rfl⟩, ?_⟩, trivial⟩
                        refine W.call (Mp := []) (partO_fc (h_c.mono (((hG22.trans hG33).trans hG90).trans hG97)) 0 _ ⟨by omega, by omega⟩) rfl (List.Perm.refl _) ?_
                        rintro v102 G101 Ms103 hG101 ho104
                        refine W.perm (pmC (List.Perm.refl _)).symm ?_
                        refine W.nil ⟨hG101, (List.nil_sublist _).cons_cons _, _, (List.nil_sublist _).cons_cons _, List.Sublist.refl _, ?_⟩
                        refine WD.anyG [19] (by kernel_rfl) rfl ⟨⟨_, rfl, .inr ⟨_, 164, _, _, rfl, rfl, rfl, rfl, rfl⟩, ?_⟩, trivial⟩
                        refine W.app (e := eInt) sl47 ty3 zr3 rfl by3 rfl rfl (ho104) ((hs100.mono hG101)) (pmC (List.Perm.refl _)) (by simp only [List.length_append, List.length_drop, List.length_take, List.length_cons, List.length_nil] at *; show (_ + _) * 8 ≤ _; first | omega | (simp; done) | (simp; omega)) (fun v105 Ms106 ho107 => ?_)
                        refine W.perm (pmC (List.Perm.refl _)).symm ?_
                        refine W.nil ⟨Le.rfl, (List.nil_sublist _).cons_cons _, _, (List.nil_sublist _).cons_cons _, List.Sublist.refl _, ?_⟩
                        refine WD.anyG [20] (by kernel_rfl) rfl ⟨⟨_, rfl, .inr ⟨_, 164, _, _, rfl, rfl, rfl, rfl, rfl⟩, ?_⟩, trivial⟩
                        refine W.giveO ho107 (pmC (List.Perm.refl _)) (fun G108 hG108 hv108 => ?_)
                        have q110 := hv108.form
                        refine match q110 with | ⟨_, _, e_109⟩ => ?_
                        subst e_109
                        refine W.qcall ((ints_fc (hv35.mono (((hG90.trans hG97).trans hG101).trans hG108)) hv108).mono (fun v _ _ _ hv => hv.trans (congrArg Value.bool (decide_eq_true (by rw [bremN_1 (by omega) (by omega) (by omega)]; simp))))) rfl ?_
                        refine W.nil ⟨hG108, (List.Sublist.refl _).cons_cons _, _, (List.Sublist.refl _).cons_cons _, List.Sublist.refl _, ?_⟩
                        refine WD.take 21 rfl rfl rfl (by kernel_rfl) (by kernel_rfl) (by kernel_rfl) (ok_pick_t rfl rfl) ?_
                        refine WD.take 22 rfl rfl rfl (by kernel_rfl) (by kernel_rfl) (by kernel_rfl) (ok_mv) ?_
                        refine WD.anyG [23] (by kernel_rfl) rfl ⟨⟨_, rfl, .inr ⟨_, 176, _, _, rfl, rfl, rfl, rfl, rfl⟩, ?_⟩, trivial⟩
                        refine W.qcall (awake15_fc) rfl ?_
                        refine W.nil ⟨Le.rfl, (List.Sublist.refl _).cons_cons _, _, (List.Sublist.refl _).cons_cons _, List.Sublist.refl _, ?_⟩
                        refine WD.take 24 rfl rfl rfl (by kernel_rfl) (by kernel_rfl) (by kernel_rfl) (ok_pick_t rfl rfl) ?_
                        refine WD.take 25 rfl rfl rfl (by kernel_rfl) (by kernel_rfl) (by kernel_rfl) (ok_as) ?_
                        refine WD.done (by kernel_rfl) (thn_n ?_)
                        refine WC.ret ?_
                        refine ⟨.inr rfl, [_], ⟨rfl, trivial⟩, [], List.nil_sublist _, ?_⟩
                        rfl
                · have p75 := of_decide_eq_false h75
                  have hhas : (rangeN p (i : Int)).has k = true := by simpa using h69
                  have hlo : ¬ k = (rangeN p (i : Int)).lo := fun e => p75 (congrArg Str.b e)
                  have hA := binsN_1 (p := p) (c := c) (i := i) (k := k) (v := nv) (by omega) hhas hlo
                  have hin := range_in hhas
                  have hrem : bremN (binsN p c i k nv).1 (binsN p c i k nv).2 (i + 1) = (p, c) := by rw [hA]; exact bins_back (by omega) hin
                  refine WC.seq ?_
                  refine WC.seq ?_
                  refine WC.drawW _ ((List.Sublist.refl _).cons_cons _) mix (by rintro _ _ _ _ ⟨h | h, _⟩ <;> cases h) ?_
                  refine WD.take 0 rfl rfl rfl (by kernel_rfl) (by kernel_rfl) (by kernel_rfl) (ok_mv) ?_
                  refine WD.take 1 rfl rfl rfl (by kernel_rfl) (by kernel_rfl) (by kernel_rfl) (ok_mv) ?_
                  refine WD.any [2] (by kernel_rfl) rfl ⟨⟨_, rfl, rfl, ?_⟩, trivial⟩
                  refine W.qcall ((rright_fc (hv23.mono hG33) (hv24.mono hG33)).mono (fun v _ _ _ hv => hv.trans (congrArg Value.bool (show _ = true by rw [hA]; exact bins_right hR (by omega) hhas hlo)))) rfl ?_
                  refine W.nil ⟨Le.rfl, (List.Sublist.refl _).cons_cons _, _, (List.Sublist.refl _).cons_cons _, List.Sublist.refl _, ?_⟩
                  refine WD.take 3 rfl rfl rfl (by kernel_rfl) (by kernel_rfl) (by kernel_rfl) (ok_not rfl) ?_
                  refine WD.take 4 rfl rfl rfl (by kernel_rfl) (by kernel_rfl) (by kernel_rfl) (ok_mv) ?_
                  refine WD.takeY 5 87 rfl rfl rfl rfl rfl rfl (by kernel_rfl) (by kernel_rfl) (by kernel_rfl) (ok_mv) ?_
                  refine WD.takeY 6 87 rfl rfl rfl rfl rfl rfl (by kernel_rfl) (by kernel_rfl) (by kernel_rfl) (ok_mv) ?_
                  refine WD.takeY 7 87 rfl rfl rfl rfl rfl rfl (by kernel_rfl) (by kernel_rfl) (by kernel_rfl) (ok_mv) ?_
                  refine WD.takeY 9 87 rfl rfl rfl rfl rfl rfl (by kernel_rfl) (by kernel_rfl) (by kernel_rfl) (ok_mv) ?_
                  refine WD.takeY 12 87 rfl rfl rfl rfl rfl rfl (by kernel_rfl) (by kernel_rfl) (by kernel_rfl) (ok_mv) ?_
                  refine WD.takeY 13 87 rfl rfl rfl rfl rfl rfl (by kernel_rfl) (by kernel_rfl) (by kernel_rfl) (ok_mv) ?_
                  have hs111 := SlR.slice (h_p.mono (hG22.trans hG33)) (lo := i) (hi := p.length) (by omega) (by omega)
                  refine WD.takeY 14 87 rfl rfl rfl rfl rfl rfl (by kernel_rfl) (by kernel_rfl) (by kernel_rfl) (ok_slice (i) (p.length) sl61 ty9 (h_p.mono (hG22.trans hG33)) rfl ⟨_, _, rfl, by omega⟩ rfl ⟨by omega, by omega⟩) ?_
                  refine WD.anyG [8, 10] (by kernel_rfl) rfl ⟨⟨_, rfl, .inr ⟨_, 87, _, _, rfl, rfl, rfl, rfl, rfl⟩, ?_⟩, ⟨_, rfl, .inr ⟨_, 87, _, _, rfl, rfl, rfl, rfl, rfl⟩, ?_⟩, trivial⟩
                  · refine W.call (Mp := []) (cutO_fc (h_p.mono (hG22.trans hG33)) 0 _ ⟨by omega, by omega⟩) rfl (List.Perm.refl _) ?_
                    rintro v113 G112 Ms114 hG112 ho115
                    refine W.perm (pmC (List.Perm.refl _)).symm ?_
                    refine W.nil ⟨hG112, (List.nil_sublist _).cons_cons _, _, (List.nil_sublist _).cons_cons _, List.Sublist.refl _, ?_⟩
                    refine WD.anyG [10] (by kernel_rfl) rfl ⟨⟨_, rfl, .inr ⟨_, 87, _, _, rfl, rfl, rfl, rfl, rfl⟩, ?_⟩, trivial⟩
                    refine W.lit (e := eStr) (l := [_]) (css := [[.string _]]) sl61 ty9 zr9 rfl rfl rfl rfl rfl rfl ⟨rfl, trivial⟩ (fun bl116 G116 hG116 hv116 => ?_)
                    refine W.nil ⟨hG116, (List.nil_sublist _).cons_cons _, _, (List.nil_sublist _).cons_cons _, List.Sublist.refl _, ?_⟩
                    refine WD.anyG [11] (by kernel_rfl) rfl ⟨⟨_, rfl, .inr ⟨_, 87, _, _, rfl, rfl, rfl, rfl, rfl⟩, ?_⟩, trivial⟩
                    refine W.app (e := eStr) sl61 ty9 zr9 rfl by9 rfl rfl ((ho115.mono hG116)) (hv116) (pmC (List.Perm.refl _)) (by simp only [List.length_append, List.length_drop, List.length_take, List.length_cons, List.length_nil] at *; show (_ + _) * 16 ≤ _; first | omega | (simp; done) | (simp; omega)) (fun v117 Ms118 ho119 => ?_)
                    refine W.perm (pmC (List.Perm.refl _)).symm ?_
                    refine W.nil ⟨Le.rfl, (List.nil_sublist _).cons_cons _, _, (List.nil_sublist _).cons_cons _, List.Sublist.refl _, ?_⟩
                    refine WD.anyG [15] (by kernel_rfl) rfl ⟨⟨_, rfl, .inr ⟨_, 87, _, _, rfl, rfl, rfl, rfl, rfl⟩, ?_⟩, trivial⟩
                    refine W.app (e := eStr) sl61 ty9 zr9 rfl by9 rfl rfl (ho119) ((hs111.mono (hG112.trans hG116))) (pmC (List.Perm.refl _)) (by simp only [List.length_append, List.length_drop, List.length_take, List.length_cons, List.length_nil] at *; show (_ + _) * 16 ≤ _; first | omega | (simp; done) | (simp; omega)) (fun v120 Ms121 ho122 => ?_)
                    refine W.perm (pmC (List.Perm.refl _)).symm ?_
                    refine W.nil ⟨Le.rfl, (List.nil_sublist _).cons_cons _, _, (List.nil_sublist _).cons_cons _, List.Sublist.refl _, ?_⟩
                    refine WD.anyG [16] (by kernel_rfl) rfl ⟨⟨_, rfl, .inr ⟨_, 87, _, _, rfl, rfl, rfl, rfl, rfl⟩, ?_⟩, trivial⟩
                    refine W.giveO ho122 (pmC (List.Perm.refl _)) (fun G123 hG123 hv123 => ?_)
                    have q125 := hv123.form
                    refine match q125 with | ⟨_, _, e_124⟩ => ?_
                    subst e_124
                    refine W.qcall ((same_fc (hv23.mono (((hG33.trans hG112).trans hG116).trans hG123)) hv123).mono (fun v _ _ _ hv => hv.trans (congrArg Value.bool (decide_eq_true (by rw [hA]; simp))))) rfl ?_
                    refine W.nil ⟨hG123, (List.Sublist.refl _).cons_cons _, _, (List.Sublist.refl _).cons_cons _, List.Sublist.refl _, ?_⟩
                    refine WD.takeY 17 87 rfl rfl rfl rfl rfl rfl (by kernel_rfl) (by kernel_rfl) (by kernel_rfl) (ok_not rfl) ?_
                    refine WD.take 18 rfl rfl rfl (by kernel_rfl) (by kernel_rfl) (by kernel_rfl) (ok_pick_f rfl rfl) ?_
                    refine WD.take 19 rfl rfl rfl (by kernel_rfl) (by kernel_rfl) (by kernel_rfl) (ok_mv) ?_
                    refine WD.takeY 20 102 rfl rfl rfl rfl rfl rfl (by kernel_rfl) (by kernel_rfl) (by kernel_rfl) (ok_mv) ?_
                    refine WD.takeY 21 102 rfl rfl rfl rfl rfl rfl (by kernel_rfl) (by kernel_rfl) (by kernel_rfl) (ok_mv) ?_
                    refine WD.takeY 22 102 rfl rfl rfl rfl rfl rfl (by kernel_rfl) (by kernel_rfl) (by kernel_rfl) (ok_mv) ?_
                    refine WD.takeY 23 102 rfl rfl rfl rfl rfl rfl (by kernel_rfl) (by kernel_rfl) (by kernel_rfl) (Ok.int (n := ((i + 1 : Nat) : Int)) (ok_add rfl rfl (by omega)) (by omega)) ?_
                    refine WD.takeY 25 102 rfl rfl rfl rfl rfl rfl (by kernel_rfl) (by kernel_rfl) (by kernel_rfl) (ok_mv) ?_
                    refine WD.takeY 28 102 rfl rfl rfl rfl rfl rfl (by kernel_rfl) (by kernel_rfl) (by kernel_rfl) (ok_mv) ?_
                    refine WD.takeY 29 102 rfl rfl rfl rfl rfl rfl (by kernel_rfl) (by kernel_rfl) (by kernel_rfl) (ok_mv) ?_
                    refine WD.takeY 30 102 rfl rfl rfl rfl rfl rfl (by kernel_rfl) (by kernel_rfl) (by kernel_rfl) (Ok.int (n := ((i + 1 : Nat) : Int)) (ok_add rfl rfl (by omega)) (by omega)) ?_
                    have hs126 := SlR.slice (h_c.mono ((((hG22.trans hG33).trans hG112).trans hG116).trans hG123)) (lo := i + 1) (hi := c.length) (by omega) (by omega)
                    refine WD.takeY 31 102 rfl rfl rfl rfl rfl rfl (by kernel_rfl) (by kernel_rfl) (by kernel_rfl) (ok_slice (i + 1) (c.length) sl47 ty3 (h_c.mono ((((hG22.trans hG33).trans hG112).trans hG116).trans hG123)) rfl ⟨_, _, rfl, by omega⟩ rfl ⟨by omega, by omega⟩) ?_
                    refine WD.anyG [24, 26] (by kernel_rfl) rfl ⟨⟨_, rfl, .inr ⟨_, 102, _, _, rfl, rfl, rfl, rfl, rfl⟩, ?_⟩, ⟨_, rfl, .inr ⟨_, 102, _, _, rfl, rfl, rfl, rfl, rfl⟩, ?_⟩, trivial⟩
                    · refine W.call (Mp := []) (partO_fc (h_c.mono ((((hG22.trans hG33).trans hG112).trans hG116).trans hG123)) 0 _ ⟨by omega, by omega⟩) rfl (List.Perm.refl _) ?_
                      rintro v128 G127 Ms129 hG127 ho130
                      refine W.perm (pmC (List.Perm.refl _)).symm ?_
                      refine W.nil ⟨hG127, (List.nil_sublist _).cons_cons _, _, (List.nil_sublist _).cons_cons _, List.Sublist.refl _, ?_⟩
                      refine WD.anyG [26] (by kernel_rfl) rfl ⟨⟨_, rfl, .inr ⟨_, 102, _, _, rfl, rfl, rfl, rfl, rfl⟩, ?_⟩, trivial⟩
                      refine W.lit (e := eInt) (l := [_]) (css := [[.int .i64 _]]) sl47 ty3 zr3 rfl rfl rfl rfl rfl rfl ⟨⟨rfl, by omega, by omega⟩, trivial⟩ (fun bl131 G131 hG131 hv131 => ?_)
                      refine W.nil ⟨hG131, (List.nil_sublist _).cons_cons _, _, (List.nil_sublist _).cons_cons _, List.Sublist.refl _, ?_⟩
                      refine WD.anyG [27] (by kernel_rfl) rfl ⟨⟨_, rfl, .inr ⟨_, 102, _, _, rfl, rfl, rfl, rfl, rfl⟩, ?_⟩, trivial⟩
                      refine W.app (e := eInt) sl47 ty3 zr3 rfl by3 rfl rfl ((ho130.mono hG131)) (hv131) (pmC (List.Perm.refl _)) (by simp only [List.length_append, List.length_drop, List.length_take, List.length_cons, List.length_nil] at *; show (_ + _) * 8 ≤ _; first | omega | (simp; done) | (simp; omega)) (fun v132 Ms133 ho134 => ?_)
                      refine W.perm (pmC (List.Perm.refl _)).symm ?_
                      refine W.nil ⟨Le.rfl, (List.nil_sublist _).cons_cons _, _, (List.nil_sublist _).cons_cons _, List.Sublist.refl _, ?_⟩
                      refine WD.anyG [32] (by kernel_rfl) rfl ⟨⟨_, rfl, .inr ⟨_, 102, _, _, rfl, rfl, rfl, rfl, rfl⟩, ?_⟩, trivial⟩
                      refine W.app (e := eInt) sl47 ty3 zr3 rfl by3 rfl rfl (ho134) ((hs126.mono (hG127.trans hG131))) (pmC (List.Perm.refl _)) (by simp only [List.length_append, List.length_drop, List.length_take, List.length_cons, List.length_nil] at *; show (_ + _) * 8 ≤ _; first | omega | (simp; done) | (simp; omega)) (fun v135 Ms136 ho137 => ?_)
                      refine W.perm (pmC (List.Perm.refl _)).symm ?_
                      refine W.nil ⟨Le.rfl, (List.nil_sublist _).cons_cons _, _, (List.nil_sublist _).cons_cons _, List.Sublist.refl _, ?_⟩
                      refine WD.anyG [33] (by kernel_rfl) rfl ⟨⟨_, rfl, .inr ⟨_, 102, _, _, rfl, rfl, rfl, rfl, rfl⟩, ?_⟩, trivial⟩
                      refine W.giveO ho137 (pmC (List.Perm.refl _)) (fun G138 hG138 hv138 => ?_)
                      have q140 := hv138.form
                      refine match q140 with | ⟨_, _, e_139⟩ => ?_
                      subst e_139
                      refine W.qcall ((ints_fc (hv24.mono ((((((hG33.trans hG112).trans hG116).trans hG123).trans hG127).trans hG131).trans hG138)) hv138).mono (fun v _ _ _ hv => hv.trans (congrArg Value.bool (decide_eq_true (by rw [hA]; simp))))) rfl ?_
                      refine W.nil ⟨hG138, (List.Sublist.refl _).cons_cons _, _, (List.Sublist.refl _).cons_cons _, List.Sublist.refl _, ?_⟩
                      refine WD.takeY 34 102 rfl rfl rfl rfl rfl rfl (by kernel_rfl) (by kernel_rfl) (by kernel_rfl) (ok_not rfl) ?_
                      refine WD.take 35 rfl rfl rfl (by kernel_rfl) (by kernel_rfl) (by kernel_rfl) (ok_pick_f rfl rfl) ?_
                      refine WD.done (by kernel_rfl) (thn_n ?_)
                      refine WC.cond_f rfl rfl ?_
                      refine WC.skip (thn_n ?_)
                      refine WC.seq ?_
                      refine WC.region ?_
                      refine W.mv ?_
                      refine W.mv ?_
                      refine W.mv ?_
                      refine W.ok (Ok.int (n := ((i + 1 : Nat) : Int)) (ok_add rfl rfl (by omega)) (by omega)) ?_
                      refine W.call (Mp := []) (brem_fc (hv23.mono ((((((hG33.trans hG112).trans hG116).trans hG123).trans hG127).trans hG131).trans hG138)) (hv24.mono ((((((hG33.trans hG112).trans hG116).trans hG123).trans hG127).trans hG131).trans hG138)) _ (by first | assumption | exact ⟨by omega, by omega⟩)) rfl (List.Perm.refl _) ?_
                      intro _ G141 _ hG141 q144
                      refine match q144 with | ⟨e_145, _, e_146, _, _, e_147, hv142, hv143⟩ => ?_
                      subst e_145
                      subst e_146
                      subst e_147
                      have q149 := hv142.form
                      refine match q149 with | ⟨sa_hv142, sc_hv142, e_148⟩ => ?_
                      subst e_148
                      have q151 := hv143.form
                      refine match q151 with | ⟨sa_hv143, sc_hv143, e_150⟩ => ?_
                      subst e_150
                      refine W.mv ?_
                      refine W.ok (ok_extract rfl rfl) ?_
                      refine W.ok (ok_extract rfl rfl) ?_
                      refine W.as ?_
                      refine W.as ?_
                      refine W.nil (thn_n ?_)
                      refine WC.seq ?_
                      refine WC.region ?_
                      refine W.mv ?_
                      refine W.mv ?_
                      refine W.qcall ((same_fc hv142 (h_p.mono ((((((((hG22.trans hG33).trans hG112).trans hG116).trans hG123).trans hG127).trans hG131).trans hG138).trans hG141))).mono (fun v _ _ _ hv => hv.trans (congrArg Value.bool (decide_eq_true (by rw [hrem]))))) rfl ?_
                      refine W.ok (ok_not rfl) ?_
                      refine W.mv ?_
                      refine W.yes (dj := 131) rfl rfl rfl ?_
                      refine W.mv ?_
                      refine W.yes (dj := 131) rfl rfl rfl ?_
                      refine W.mv ?_
                      refine W.yes (dj := 131) rfl rfl rfl ?_
                      refine W.qcall ((ints_fc hv143 (h_c.mono ((((((((hG22.trans hG33).trans hG112).trans hG116).trans hG123).trans hG127).trans hG131).trans hG138).trans hG141))).mono (fun v _ _ _ hv => hv.trans (congrArg Value.bool (decide_eq_true (by rw [hrem]))))) rfl ?_
                      refine W.yes (dj := 131) rfl rfl rfl ?_
                      refine W.ok (ok_not rfl) ?_
                      refine W.ok (ok_pick_f rfl rfl) ?_
                      refine W.nil (thn_n ?_)
                      refine WC.cond_f rfl rfl ?_
                      refine WC.skip (thn_n ?_)
                      refine WC.seq ?_
                      refine WC.seq ?_
                      refine WC.region ?_
                      refine W.mv ?_
                      refine W.ok (ok_lss rfl rfl) ?_
                      refine W.mv ?_
                      refine W.sp 139 rfl (fun h138 => ?_) (fun h138 => ?_)
                      · have p138 := of_decide_eq_true h138
                        refine W.no (dj := 139) rfl rfl h138 ?_
                        refine W.no (dj := 139) rfl rfl h138 ?_
                        refine W.no (dj := 139) rfl rfl h138 ?_
                        refine W.no (dj := 139) rfl rfl h138 ?_
                        refine W.ok (ok_pick_t rfl h138) ?_
                        refine W.nil (thn_n ?_)
                        refine WC.cond_t rfl rfl ?_
                        refine WC.seq ?_
                        refine WC.region ?_
                        refine W.mv ?_
                        refine W.ok (ok_len sl61 (hv34.mono ((((((hG112.trans hG116).trans hG123).trans hG127).trans hG131).trans hG138).trans hG141)) rfl) ?_
                        refine W.mv ?_
                        refine W.ok (ok_len sl47 (hv35.mono ((((((hG112.trans hG116).trans hG123).trans hG127).trans hG131).trans hG138).trans hG141)) rfl) ?_
                        refine W.ok (ok_add rfl rfl (by omega)) ?_
                        refine W.ok (ok_eql rfl rfl) ?_
                        refine W.mv ?_
                        refine W.sp 151 rfl (fun h150 => ?_) (fun h150 => ?_)
                        · have p150 := of_decide_eq_true h150
                          refine W.yes (dj := 151) rfl rfl h150 ?_
                          refine W.qcall (awake15_fc) rfl ?_
                          refine W.ok (ok_pick_t rfl h150) ?_
                          refine W.as ?_
                          refine W.nil (thn_n ?_)
                          refine WC.ret (thn_r ?_)
                          refine ⟨.inr rfl, [_], ⟨rfl, trivial⟩, [], List.nil_sublist _, ?_⟩
                          rfl
                        · have p150 := of_decide_eq_false h150
                          refine absurd ?_ p150
                          rw [bremN_0 (by omega)]; rfl
                      · have p138 := of_decide_eq_false h138
                        refine W.yes (dj := 139) rfl rfl h138 ?_
                        refine W.mv ?_
                        refine W.yes (dj := 139) rfl rfl h138 ?_
                        refine W.mv ?_
                        refine W.yes (dj := 139) rfl rfl h138 ?_
                        refine W.ok (ok_len sl47 (h_c.mono ((((((((hG22.trans hG33).trans hG112).trans hG116).trans hG123).trans hG127).trans hG131).trans hG138).trans hG141)) rfl) ?_
                        refine W.yes (dj := 139) rfl rfl h138 ?_
                        refine W.ok (ok_geq rfl rfl) ?_
                        refine W.ok (ok_pick_f rfl h138) ?_
                        refine W.nil (thn_n ?_)
                        refine WC.cond (b := _) rfl (fun h143 => ?_) (fun h143 => ?_)
                        · have p143 := of_decide_eq_true h143
                          refine WC.seq ?_
                          refine WC.region ?_
                          refine W.mv ?_
                          refine W.ok (ok_len sl61 (hv34.mono ((((((hG112.trans hG116).trans hG123).trans hG127).trans hG131).trans hG138).trans hG141)) rfl) ?_
                          refine W.mv ?_
                          refine W.ok (ok_len sl47 (hv35.mono ((((((hG112.trans hG116).trans hG123).trans hG127).trans hG131).trans hG138).trans hG141)) rfl) ?_
                          refine W.ok (ok_add rfl rfl (by omega)) ?_
                          refine W.ok (ok_eql rfl rfl) ?_
                          refine W.mv ?_
                          refine W.sp 151 rfl (fun h150 => ?_) (fun h150 => ?_)
                          · have p150 := of_decide_eq_true h150
                            refine W.yes (dj := 151) rfl rfl h150 ?_
                            refine W.qcall (awake15_fc) rfl ?_
                            refine W.ok (ok_pick_t rfl h150) ?_
                            refine W.as ?_
                            refine W.nil (thn_n ?_)
                            refine WC.ret (thn_r ?_)
                            refine ⟨.inr rfl, [_], ⟨rfl, trivial⟩, [], List.nil_sublist _, ?_⟩
                            rfl
                          · have p150 := of_decide_eq_false h150
                            refine absurd ?_ p150
                            rw [bremN_0 (by omega)]; rfl
                        · have p143 := of_decide_eq_false h143
                          refine WC.skip (thn_n ?_)
                          refine WC.seq ?_
                          refine WC.drawW _ ((List.Sublist.refl _).cons_cons _) mix (by rintro _ _ _ _ ⟨h | h, _⟩ <;> cases h) ?_
                          refine WD.take 0 rfl rfl rfl (by kernel_rfl) (by kernel_rfl) (by kernel_rfl) (ok_mv) ?_
                          refine WD.take 1 rfl rfl rfl (by kernel_rfl) (by kernel_rfl) (by kernel_rfl) (ok_mv) ?_
                          refine WD.take 2 rfl rfl rfl (by kernel_rfl) (by kernel_rfl) (by kernel_rfl) (ok_mv) ?_
                          refine WD.take 3 rfl rfl rfl (by kernel_rfl) (by kernel_rfl) (by kernel_rfl) (Ok.int (n := ((i - 1 : Nat) : Int)) (ok_sub rfl rfl (by omega)) (by omega)) ?_
                          refine WD.take 5 rfl rfl rfl (by kernel_rfl) (by kernel_rfl) (by kernel_rfl) (ok_mv) ?_
                          refine WD.take 6 rfl rfl rfl (by kernel_rfl) (by kernel_rfl) (by kernel_rfl) (ok_mv) ?_
                          have hs152 := SlR.slice (h_p.mono ((((((((hG22.trans hG33).trans hG112).trans hG116).trans hG123).trans hG127).trans hG131).trans hG138).trans hG141)) (lo := i) (hi := p.length) (by omega) (by omega)
                          refine WD.take 7 rfl rfl rfl (by kernel_rfl) (by kernel_rfl) (by kernel_rfl) (ok_slice (i) (p.length) sl61 ty9 (h_p.mono ((((((((hG22.trans hG33).trans hG112).trans hG116).trans hG123).trans hG127).trans hG131).trans hG138).trans hG141)) rfl ⟨_, _, rfl, by omega⟩ rfl ⟨by omega, by omega⟩) ?_
                          refine WD.any [4] (by kernel_rfl) rfl ⟨⟨_, rfl, rfl, ?_⟩, trivial⟩
                          refine W.call (Mp := []) (cutO_fc (h_p.mono ((((((((hG22.trans hG33).trans hG112).trans hG116).trans hG123).trans hG127).trans hG131).trans hG138).trans hG141)) 0 _ ⟨by omega, by omega⟩) rfl (List.Perm.refl _) ?_
                          rintro v154 G153 Ms155 hG153 ho156
                          refine W.perm (pmC (List.Perm.refl _)).symm ?_
                          refine W.nil ⟨hG153, (List.nil_sublist _).cons_cons _, _, (List.nil_sublist _).cons_cons _, List.Sublist.refl _, ?_⟩
                          refine WD.any [8] (by kernel_rfl) rfl ⟨⟨_, rfl, rfl, ?_⟩, trivial⟩
                          refine W.app (e := eStr) sl61 ty9 zr9 rfl by9 rfl rfl (ho156) ((hs152.mono hG153)) (pmC (List.Perm.refl _)) (by simp only [List.length_append, List.length_drop, List.length_take, List.length_cons, List.length_nil] at *; show (_ + _) * 16 ≤ _; first | omega | (simp; done) | (simp; omega)) (fun v157 Ms158 ho159 => ?_)
                          refine W.perm (pmC (List.Perm.refl _)).symm ?_
                          refine W.nil ⟨Le.rfl, (List.nil_sublist _).cons_cons _, _, (List.nil_sublist _).cons_cons _, List.Sublist.refl _, ?_⟩
                          refine WD.any [9] (by kernel_rfl) rfl ⟨⟨_, rfl, rfl, ?_⟩, trivial⟩
                          refine W.giveO ho159 (pmC (List.Perm.refl _)) (fun G160 hG160 hv160 => ?_)
                          have q162 := hv160.form
                          refine match q162 with | ⟨_, _, e_161⟩ => ?_
                          subst e_161
                          refine W.qcall ((same_fc (hv34.mono ((((((((hG112.trans hG116).trans hG123).trans hG127).trans hG131).trans hG138).trans hG141).trans hG153).trans hG160)) hv160).mono (fun v _ _ _ hv => hv.trans (congrArg Value.bool (decide_eq_true (by rw [bremN_1 (by omega) (by omega) (by omega)]; simp))))) rfl ?_
                          refine W.nil ⟨hG160, (List.Sublist.refl _).cons_cons _, _, (List.Sublist.refl _).cons_cons _, List.Sublist.refl _, ?_⟩
                          refine WD.take 10 rfl rfl rfl (by kernel_rfl) (by kernel_rfl) (by kernel_rfl) (ok_mv) ?_
                          refine WD.takeY 11 164 rfl rfl rfl rfl rfl rfl (by kernel_rfl) (by kernel_rfl) (by kernel_rfl) (ok_mv) ?_
                          refine WD.takeY 12 164 rfl rfl rfl rfl rfl rfl (by kernel_rfl) (by kernel_rfl) (by kernel_rfl) (ok_mv) ?_
                          refine WD.takeY 13 164 rfl rfl rfl rfl rfl rfl (by kernel_rfl) (by kernel_rfl) (by kernel_rfl) (ok_mv) ?_
                          refine WD.takeY 15 164 rfl rfl rfl rfl rfl rfl (by kernel_rfl) (by kernel_rfl) (by kernel_rfl) (ok_mv) ?_
                          refine WD.takeY 16 164 rfl rfl rfl rfl rfl rfl (by kernel_rfl) (by kernel_rfl) (by kernel_rfl) (ok_mv) ?_
                          refine WD.takeY 17 164 rfl rfl rfl rfl rfl rfl (by kernel_rfl) (by kernel_rfl) (by kernel_rfl) (Ok.int (n := ((i + 1 : Nat) : Int)) (ok_add rfl rfl (by omega)) (by omega)) ?_
                          have hs163 := SlR.slice (h_c.mono ((((((((((hG22.trans hG33).trans hG112).trans hG116).trans hG123).trans hG127).trans hG131).trans hG138).trans hG141).trans hG153).trans hG160)) (lo := i + 1) (hi := c.length) (by omega) (by omega)
                          refine WD.takeY 18 164 rfl rfl rfl rfl rfl rfl (by kernel_rfl) (by kernel_rfl) (by kernel_rfl) (ok_slice (i + 1) (c.length) sl47 ty3 (h_c.mono ((((((((((hG22.trans hG33).trans hG112).trans hG116).trans hG123).trans hG127).trans hG131).trans hG138).trans hG141).trans hG153).trans hG160)) rfl ⟨_, _, rfl, by omega⟩ rfl ⟨by omega, by omega⟩) ?_
                          refine WD.anyG [14] (by kernel_rfl) rfl ⟨⟨_, rfl, .inr ⟨_, 164, _, _, rfl, rfl, rfl, rfl, rfl⟩, ?_⟩, trivial⟩
                          refine W.call (Mp := []) (partO_fc (h_c.mono ((((((((((hG22.trans hG33).trans hG112).trans hG116).trans hG123).trans hG127).trans hG131).trans hG138).trans hG141).trans hG153).trans hG160)) 0 _ ⟨by omega, by omega⟩) rfl (List.Perm.refl _) ?_
                          rintro v165 G164 Ms166 hG164 ho167
                          refine W.perm (pmC (List.Perm.refl _)).symm ?_
                          refine W.nil ⟨hG164, (List.nil_sublist _).cons_cons _, _, (List.nil_sublist _).cons_cons _, List.Sublist.refl _, ?_⟩
                          refine WD.anyG [19] (by kernel_rfl) rfl ⟨⟨_, rfl, .inr ⟨_, 164, _, _, rfl, rfl, rfl, rfl, rfl⟩, ?_⟩, trivial⟩
                          refine W.app (e := eInt) sl47 ty3 zr3 rfl by3 rfl rfl (ho167) ((hs163.mono hG164)) (pmC (List.Perm.refl _)) (by simp only [List.length_append, List.length_drop, List.length_take, List.length_cons, List.length_nil] at *; show (_ + _) * 8 ≤ _; first | omega | (simp; done) | (simp; omega)) (fun v168 Ms169 ho170 => ?_)
                          refine W.perm (pmC (List.Perm.refl _)).symm ?_
                          refine W.nil ⟨Le.rfl, (List.nil_sublist _).cons_cons _, _, (List.nil_sublist _).cons_cons _, List.Sublist.refl _, ?_⟩
                          refine WD.anyG [20] (by kernel_rfl) rfl ⟨⟨_, rfl, .inr ⟨_, 164, _, _, rfl, rfl, rfl, rfl, rfl⟩, ?_⟩, trivial⟩
                          refine W.giveO ho170 (pmC (List.Perm.refl _)) (fun G171 hG171 hv171 => ?_)
                          have q173 := hv171.form
                          refine match q173 with | ⟨_, _, e_172⟩ => ?_
                          subst e_172
                          refine W.qcall ((ints_fc (hv35.mono ((((((((((hG112.trans hG116).trans hG123).trans hG127).trans hG131).trans hG138).trans hG141).trans hG153).trans hG160).trans hG164).trans hG171)) hv171).mono (fun v _ _ _ hv => hv.trans (congrArg Value.bool (decide_eq_true (by rw [bremN_1 (by omega) (by omega) (by omega)]; simp))))) rfl ?_
                          refine W.nil ⟨hG171, (List.Sublist.refl _).cons_cons _, _, (List.Sublist.refl _).cons_cons _, List.Sublist.refl _, ?_⟩
                          refine WD.take 21 rfl rfl rfl (by kernel_rfl) (by kernel_rfl) (by kernel_rfl) (ok_pick_t rfl rfl) ?_
                          refine WD.take 22 rfl rfl rfl (by kernel_rfl) (by kernel_rfl) (by kernel_rfl) (ok_mv) ?_
                          refine WD.anyG [23] (by kernel_rfl) rfl ⟨⟨_, rfl, .inr ⟨_, 176, _, _, rfl, rfl, rfl, rfl, rfl⟩, ?_⟩, trivial⟩
                          refine W.qcall (awake15_fc) rfl ?_
                          refine W.nil ⟨Le.rfl, (List.Sublist.refl _).cons_cons _, _, (List.Sublist.refl _).cons_cons _, List.Sublist.refl _, ?_⟩
                          refine WD.take 24 rfl rfl rfl (by kernel_rfl) (by kernel_rfl) (by kernel_rfl) (ok_pick_t rfl rfl) ?_
                          refine WD.take 25 rfl rfl rfl (by kernel_rfl) (by kernel_rfl) (by kernel_rfl) (ok_as) ?_
                          refine WD.done (by kernel_rfl) (thn_n ?_)
                          refine WC.ret ?_
                          refine ⟨.inr rfl, [_], ⟨rfl, trivial⟩, [], List.nil_sublist _, ?_⟩
                          rfl
                    · refine W.lit (e := eInt) (l := [_]) (css := [[.int .i64 _]]) sl47 ty3 zr3 rfl rfl rfl rfl rfl rfl ⟨⟨rfl, by omega, by omega⟩, trivial⟩ (fun bl174 G174 hG174 hv174 => ?_)
                      refine W.nil ⟨hG174, (List.Sublist.refl _).cons_cons _, _, (List.Sublist.refl _).cons_cons _, List.Sublist.refl _, ?_⟩
                      refine WD.anyG [24] (by kernel_rfl) rfl ⟨⟨_, rfl, .inr ⟨_, 102, _, _, rfl, rfl, rfl, rfl, rfl⟩, ?_⟩, trivial⟩
                      refine W.call (Mp := []) (partO_fc (h_c.mono (((((hG22.trans hG33).trans hG112).trans hG116).trans hG123).trans hG174)) 0 _ ⟨by omega, by omega⟩) rfl (List.Perm.refl _) ?_
                      rintro v176 G175 Ms177 hG175 ho178
                      refine W.perm (pmC (List.Perm.refl _)).symm ?_
                      refine W.nil ⟨hG175, (List.nil_sublist _).cons_cons _, _, (List.nil_sublist _).cons_cons _, List.Sublist.refl _, ?_⟩
                      refine WD.anyG [27] (by kernel_rfl) rfl ⟨⟨_, rfl, .inr ⟨_, 102, _, _, rfl, rfl, rfl, rfl, rfl⟩, ?_⟩, trivial⟩
                      refine W.app (e := eInt) sl47 ty3 zr3 rfl by3 rfl rfl (ho178) ((hv174.mono hG175)) (pmC (List.Perm.refl _)) (by simp only [List.length_append, List.length_drop, List.length_take, List.length_cons, List.length_nil] at *; show (_ + _) * 8 ≤ _; first | omega | (simp; done) | (simp; omega)) (fun v179 Ms180 ho181 => ?_)
                      refine W.perm (pmC (List.Perm.refl _)).symm ?_
                      refine W.nil ⟨Le.rfl, (List.nil_sublist _).cons_cons _, _, (List.nil_sublist _).cons_cons _, List.Sublist.refl _, ?_⟩
                      refine WD.anyG [32] (by kernel_rfl) rfl ⟨⟨_, rfl, .inr ⟨_, 102, _, _, rfl, rfl, rfl, rfl, rfl⟩, ?_⟩, trivial⟩
                      refine W.app (e := eInt) sl47 ty3 zr3 rfl by3 rfl rfl (ho181) ((hs126.mono (hG174.trans hG175))) (pmC (List.Perm.refl _)) (by simp only [List.length_append, List.length_drop, List.length_take, List.length_cons, List.length_nil] at *; show (_ + _) * 8 ≤ _; first | omega | (simp; done) | (simp; omega)) (fun v182 Ms183 ho184 => ?_)
                      refine W.perm (pmC (List.Perm.refl _)).symm ?_
                      refine W.nil ⟨Le.rfl, (List.nil_sublist _).cons_cons _, _, (List.nil_sublist _).cons_cons _, List.Sublist.refl _, ?_⟩
                      refine WD.anyG [33] (by kernel_rfl) rfl ⟨⟨_, rfl, .inr ⟨_, 102, _, _, rfl, rfl, rfl, rfl, rfl⟩, ?_⟩, trivial⟩
                      refine W.giveO ho184 (pmC (List.Perm.refl _)) (fun G185 hG185 hv185 => ?_)
                      have q187 := hv185.form
                      refine match q187 with | ⟨_, _, e_186⟩ => ?_
                      subst e_186
                      refine W.qcall ((ints_fc (hv24.mono ((((((hG33.trans hG112).trans hG116).trans hG123).trans hG174).trans hG175).trans hG185)) hv185).mono (fun v _ _ _ hv => hv.trans (congrArg Value.bool (decide_eq_true (by rw [hA]; simp))))) rfl ?_
                      refine W.nil ⟨hG185, (List.Sublist.refl _).cons_cons _, _, (List.Sublist.refl _).cons_cons _, List.Sublist.refl _, ?_⟩
                      refine WD.takeY 34 102 rfl rfl rfl rfl rfl rfl (by kernel_rfl) (by kernel_rfl) (by kernel_rfl) (ok_not rfl) ?_
                      refine WD.take 35 rfl rfl rfl (by kernel_rfl) (by kernel_rfl) (by kernel_rfl) (ok_pick_f rfl rfl) ?_
                      refine WD.done (by kernel_rfl) (thn_n ?_)
                      refine WC.cond_f rfl rfl ?_
                      refine WC.skip (thn_n ?_)
                      refine WC.seq ?_
                      refine WC.region ?_
                      refine W.mv ?_
                      refine W.mv ?_
                      refine W.mv ?_
                      refine W.ok (Ok.int (n := ((i + 1 : Nat) : Int)) (ok_add rfl rfl (by omega)) (by omega)) ?_
                      refine W.call (Mp := []) (brem_fc (hv23.mono ((((((hG33.trans hG112).trans hG116).trans hG123).trans hG174).trans hG175).trans hG185)) (hv24.mono ((((((hG33.trans hG112).trans hG116).trans hG123).trans hG174).trans hG175).trans hG185)) _ (by first | assumption | exact ⟨by omega, by omega⟩)) rfl (List.Perm.refl _) ?_
                      intro _ G188 _ hG188 q191
                      refine match q191 with | ⟨e_192, _, e_193, _, _, e_194, hv189, hv190⟩ => ?_
                      subst e_192
                      subst e_193
                      subst e_194
                      have q196 := hv189.form
                      refine match q196 with | ⟨sa_hv189, sc_hv189, e_195⟩ => ?_
                      subst e_195
                      have q198 := hv190.form
                      refine match q198 with | ⟨sa_hv190, sc_hv190, e_197⟩ => ?_
                      subst e_197
                      refine W.mv ?_
                      refine W.ok (ok_extract rfl rfl) ?_
                      refine W.ok (ok_extract rfl rfl) ?_
                      refine W.as ?_
                      refine W.as ?_
                      refine W.nil (thn_n ?_)
                      refine WC.seq ?_
                      refine WC.region ?_
                      refine W.mv ?_
                      refine W.mv ?_
                      refine W.qcall ((same_fc hv189 (h_p.mono ((((((((hG22.trans hG33).trans hG112).trans hG116).trans hG123).trans hG174).trans hG175).trans hG185).trans hG188))).mono (fun v _ _ _ hv => hv.trans (congrArg Value.bool (decide_eq_true (by rw [hrem]))))) rfl ?_
                      refine W.ok (ok_not rfl) ?_
                      refine W.mv ?_
                      refine W.yes (dj := 131) rfl rfl rfl ?_
                      refine W.mv ?_
                      refine W.yes (dj := 131) rfl rfl rfl ?_
                      refine W.mv ?_
                      refine W.yes (dj := 131) rfl rfl rfl ?_
                      refine W.qcall ((ints_fc hv190 (h_c.mono ((((((((hG22.trans hG33).trans hG112).trans hG116).trans hG123).trans hG174).trans hG175).trans hG185).trans hG188))).mono (fun v _ _ _ hv => hv.trans (congrArg Value.bool (decide_eq_true (by rw [hrem]))))) rfl ?_
                      refine W.yes (dj := 131) rfl rfl rfl ?_
                      refine W.ok (ok_not rfl) ?_
                      refine W.ok (ok_pick_f rfl rfl) ?_
                      refine W.nil (thn_n ?_)
                      refine WC.cond_f rfl rfl ?_
                      refine WC.skip (thn_n ?_)
                      refine WC.seq ?_
                      refine WC.seq ?_
                      refine WC.region ?_
                      refine W.mv ?_
                      refine W.ok (ok_lss rfl rfl) ?_
                      refine W.mv ?_
                      refine W.sp 139 rfl (fun h138 => ?_) (fun h138 => ?_)
                      · have p138 := of_decide_eq_true h138
                        refine W.no (dj := 139) rfl rfl h138 ?_
                        refine W.no (dj := 139) rfl rfl h138 ?_
                        refine W.no (dj := 139) rfl rfl h138 ?_
                        refine W.no (dj := 139) rfl rfl h138 ?_
                        refine W.ok (ok_pick_t rfl h138) ?_
                        refine W.nil (thn_n ?_)
                        refine WC.cond_t rfl rfl ?_
                        refine WC.seq ?_
                        refine WC.region ?_
                        refine W.mv ?_
                        refine W.ok (ok_len sl61 (hv34.mono ((((((hG112.trans hG116).trans hG123).trans hG174).trans hG175).trans hG185).trans hG188)) rfl) ?_
                        refine W.mv ?_
                        refine W.ok (ok_len sl47 (hv35.mono ((((((hG112.trans hG116).trans hG123).trans hG174).trans hG175).trans hG185).trans hG188)) rfl) ?_
                        refine W.ok (ok_add rfl rfl (by omega)) ?_
                        refine W.ok (ok_eql rfl rfl) ?_
                        refine W.mv ?_
                        refine W.sp 151 rfl (fun h150 => ?_) (fun h150 => ?_)
                        · have p150 := of_decide_eq_true h150
                          refine W.yes (dj := 151) rfl rfl h150 ?_
                          refine W.qcall (awake15_fc) rfl ?_
                          refine W.ok (ok_pick_t rfl h150) ?_
                          refine W.as ?_
                          refine W.nil (thn_n ?_)
                          refine WC.ret (thn_r ?_)
                          refine ⟨.inr rfl, [_], ⟨rfl, trivial⟩, [], List.nil_sublist _, ?_⟩
                          rfl
                        · have p150 := of_decide_eq_false h150
                          refine absurd ?_ p150
                          rw [bremN_0 (by omega)]; rfl
                      · have p138 := of_decide_eq_false h138
                        refine W.yes (dj := 139) rfl rfl h138 ?_
                        refine W.mv ?_
                        refine W.yes (dj := 139) rfl rfl h138 ?_
                        refine W.mv ?_
                        refine W.yes (dj := 139) rfl rfl h138 ?_
                        refine W.ok (ok_len sl47 (h_c.mono ((((((((hG22.trans hG33).trans hG112).trans hG116).trans hG123).trans hG174).trans hG175).trans hG185).trans hG188)) rfl) ?_
                        refine W.yes (dj := 139) rfl rfl h138 ?_
                        refine W.ok (ok_geq rfl rfl) ?_
                        refine W.ok (ok_pick_f rfl h138) ?_
                        refine W.nil (thn_n ?_)
                        refine WC.cond (b := _) rfl (fun h143 => ?_) (fun h143 => ?_)
                        · have p143 := of_decide_eq_true h143
                          refine WC.seq ?_
                          refine WC.region ?_
                          refine W.mv ?_
                          refine W.ok (ok_len sl61 (hv34.mono ((((((hG112.trans hG116).trans hG123).trans hG174).trans hG175).trans hG185).trans hG188)) rfl) ?_
                          refine W.mv ?_
                          refine W.ok (ok_len sl47 (hv35.mono ((((((hG112.trans hG116).trans hG123).trans hG174).trans hG175).trans hG185).trans hG188)) rfl) ?_
                          refine W.ok (ok_add rfl rfl (by omega)) ?_
                          refine W.ok (ok_eql rfl rfl) ?_
                          refine W.mv ?_
                          refine W.sp 151 rfl (fun h150 => ?_) (fun h150 => ?_)
                          · have p150 := of_decide_eq_true h150
                            refine W.yes (dj := 151) rfl rfl h150 ?_
                            refine W.qcall (awake15_fc) rfl ?_
                            refine W.ok (ok_pick_t rfl h150) ?_
                            refine W.as ?_
                            refine W.nil (thn_n ?_)
                            refine WC.ret (thn_r ?_)
                            refine ⟨.inr rfl, [_], ⟨rfl, trivial⟩, [], List.nil_sublist _, ?_⟩
                            rfl
                          · have p150 := of_decide_eq_false h150
                            refine absurd ?_ p150
                            rw [bremN_0 (by omega)]; rfl
                        · have p143 := of_decide_eq_false h143
                          refine WC.skip (thn_n ?_)
                          refine WC.seq ?_
                          refine WC.drawW _ ((List.Sublist.refl _).cons_cons _) mix (by rintro _ _ _ _ ⟨h | h, _⟩ <;> cases h) ?_
                          refine WD.take 0 rfl rfl rfl (by kernel_rfl) (by kernel_rfl) (by kernel_rfl) (ok_mv) ?_
                          refine WD.take 1 rfl rfl rfl (by kernel_rfl) (by kernel_rfl) (by kernel_rfl) (ok_mv) ?_
                          refine WD.take 2 rfl rfl rfl (by kernel_rfl) (by kernel_rfl) (by kernel_rfl) (ok_mv) ?_
                          refine WD.take 3 rfl rfl rfl (by kernel_rfl) (by kernel_rfl) (by kernel_rfl) (Ok.int (n := ((i - 1 : Nat) : Int)) (ok_sub rfl rfl (by omega)) (by omega)) ?_
                          refine WD.take 5 rfl rfl rfl (by kernel_rfl) (by kernel_rfl) (by kernel_rfl) (ok_mv) ?_
                          refine WD.take 6 rfl rfl rfl (by kernel_rfl) (by kernel_rfl) (by kernel_rfl) (ok_mv) ?_
                          have hs199 := SlR.slice (h_p.mono ((((((((hG22.trans hG33).trans hG112).trans hG116).trans hG123).trans hG174).trans hG175).trans hG185).trans hG188)) (lo := i) (hi := p.length) (by omega) (by omega)
                          refine WD.take 7 rfl rfl rfl (by kernel_rfl) (by kernel_rfl) (by kernel_rfl) (ok_slice (i) (p.length) sl61 ty9 (h_p.mono ((((((((hG22.trans hG33).trans hG112).trans hG116).trans hG123).trans hG174).trans hG175).trans hG185).trans hG188)) rfl ⟨_, _, rfl, by omega⟩ rfl ⟨by omega, by omega⟩) ?_
                          refine WD.any [4] (by kernel_rfl) rfl ⟨⟨_, rfl, rfl, ?_⟩, trivial⟩
                          refine W.call (Mp := []) (cutO_fc (h_p.mono ((((((((hG22.trans hG33).trans hG112).trans hG116).trans hG123).trans hG174).trans hG175).trans hG185).trans hG188)) 0 _ ⟨by omega, by omega⟩) rfl (List.Perm.refl _) ?_
                          rintro v201 G200 Ms202 hG200 ho203
                          refine W.perm (pmC (List.Perm.refl _)).symm ?_
                          refine W.nil ⟨hG200, (List.nil_sublist _).cons_cons _, _, (List.nil_sublist _).cons_cons _, List.Sublist.refl _, ?_⟩
                          refine WD.any [8] (by kernel_rfl) rfl ⟨⟨_, rfl, rfl, ?_⟩, trivial⟩
                          refine W.app (e := eStr) sl61 ty9 zr9 rfl by9 rfl rfl (ho203) ((hs199.mono hG200)) (pmC (List.Perm.refl _)) (by simp only [List.length_append, List.length_drop, List.length_take, List.length_cons, List.length_nil] at *; show (_ + _) * 16 ≤ _; first | omega | (simp; done) | (simp; omega)) (fun v204 Ms205 ho206 => ?_)
                          refine W.perm (pmC (List.Perm.refl _)).symm ?_
                          refine W.nil ⟨Le.rfl, (List.nil_sublist _).cons_cons _, _, (List.nil_sublist _).cons_cons _, List.Sublist.refl _, ?_⟩
                          refine WD.any [9] (by kernel_rfl) rfl ⟨⟨_, rfl, rfl, ?_⟩, trivial⟩
                          refine W.giveO ho206 (pmC (List.Perm.refl _)) (fun G207 hG207 hv207 => ?_)
                          have q209 := hv207.form
                          refine match q209 with | ⟨_, _, e_208⟩ => ?_
                          subst e_208
                          refine W.qcall ((same_fc (hv34.mono ((((((((hG112.trans hG116).trans hG123).trans hG174).trans hG175).trans hG185).trans hG188).trans hG200).trans hG207)) hv207).mono (fun v _ _ _ hv => hv.trans (congrArg Value.bool (decide_eq_true (by rw [bremN_1 (by omega) (by omega) (by omega)]; simp))))) rfl ?_
                          refine W.nil ⟨hG207, (List.Sublist.refl _).cons_cons _, _, (List.Sublist.refl _).cons_cons _, List.Sublist.refl _, ?_⟩
                          refine WD.take 10 rfl rfl rfl (by kernel_rfl) (by kernel_rfl) (by kernel_rfl) (ok_mv) ?_
                          refine WD.takeY 11 164 rfl rfl rfl rfl rfl rfl (by kernel_rfl) (by kernel_rfl) (by kernel_rfl) (ok_mv) ?_
                          refine WD.takeY 12 164 rfl rfl rfl rfl rfl rfl (by kernel_rfl) (by kernel_rfl) (by kernel_rfl) (ok_mv) ?_
                          refine WD.takeY 13 164 rfl rfl rfl rfl rfl rfl (by kernel_rfl) (by kernel_rfl) (by kernel_rfl) (ok_mv) ?_
                          refine WD.takeY 15 164 rfl rfl rfl rfl rfl rfl (by kernel_rfl) (by kernel_rfl) (by kernel_rfl) (ok_mv) ?_
                          refine WD.takeY 16 164 rfl rfl rfl rfl rfl rfl (by kernel_rfl) (by kernel_rfl) (by kernel_rfl) (ok_mv) ?_
                          refine WD.takeY 17 164 rfl rfl rfl rfl rfl rfl (by kernel_rfl) (by kernel_rfl) (by kernel_rfl) (Ok.int (n := ((i + 1 : Nat) : Int)) (ok_add rfl rfl (by omega)) (by omega)) ?_
                          have hs210 := SlR.slice (h_c.mono ((((((((((hG22.trans hG33).trans hG112).trans hG116).trans hG123).trans hG174).trans hG175).trans hG185).trans hG188).trans hG200).trans hG207)) (lo := i + 1) (hi := c.length) (by omega) (by omega)
                          refine WD.takeY 18 164 rfl rfl rfl rfl rfl rfl (by kernel_rfl) (by kernel_rfl) (by kernel_rfl) (ok_slice (i + 1) (c.length) sl47 ty3 (h_c.mono ((((((((((hG22.trans hG33).trans hG112).trans hG116).trans hG123).trans hG174).trans hG175).trans hG185).trans hG188).trans hG200).trans hG207)) rfl ⟨_, _, rfl, by omega⟩ rfl ⟨by omega, by omega⟩) ?_
                          refine WD.anyG [14] (by kernel_rfl) rfl ⟨⟨_, rfl, .inr ⟨_, 164, _, _, rfl, rfl, rfl, rfl, rfl⟩, ?_⟩, trivial⟩
                          refine W.call (Mp := []) (partO_fc (h_c.mono ((((((((((hG22.trans hG33).trans hG112).trans hG116).trans hG123).trans hG174).trans hG175).trans hG185).trans hG188).trans hG200).trans hG207)) 0 _ ⟨by omega, by omega⟩) rfl (List.Perm.refl _) ?_
                          rintro v212 G211 Ms213 hG211 ho214
                          refine W.perm (pmC (List.Perm.refl _)).symm ?_
                          refine W.nil ⟨hG211, (List.nil_sublist _).cons_cons _, _, (List.nil_sublist _).cons_cons _, List.Sublist.refl _, ?_⟩
                          refine WD.anyG [19] (by kernel_rfl) rfl ⟨⟨_, rfl, .inr ⟨_, 164, _, _, rfl, rfl, rfl, rfl, rfl⟩, ?_⟩, trivial⟩
                          refine W.app (e := eInt) sl47 ty3 zr3 rfl by3 rfl rfl (ho214) ((hs210.mono hG211)) (pmC (List.Perm.refl _)) (by simp only [List.length_append, List.length_drop, List.length_take, List.length_cons, List.length_nil] at *; show (_ + _) * 8 ≤ _; first | omega | (simp; done) | (simp; omega)) (fun v215 Ms216 ho217 => ?_)
                          refine W.perm (pmC (List.Perm.refl _)).symm ?_
                          refine W.nil ⟨Le.rfl, (List.nil_sublist _).cons_cons _, _, (List.nil_sublist _).cons_cons _, List.Sublist.refl _, ?_⟩
                          refine WD.anyG [20] (by kernel_rfl) rfl ⟨⟨_, rfl, .inr ⟨_, 164, _, _, rfl, rfl, rfl, rfl, rfl⟩, ?_⟩, trivial⟩
                          refine W.giveO ho217 (pmC (List.Perm.refl _)) (fun G218 hG218 hv218 => ?_)
                          have q220 := hv218.form
                          refine match q220 with | ⟨_, _, e_219⟩ => ?_
                          subst e_219
                          refine W.qcall ((ints_fc (hv35.mono ((((((((((hG112.trans hG116).trans hG123).trans hG174).trans hG175).trans hG185).trans hG188).trans hG200).trans hG207).trans hG211).trans hG218)) hv218).mono (fun v _ _ _ hv => hv.trans (congrArg Value.bool (decide_eq_true (by rw [bremN_1 (by omega) (by omega) (by omega)]; simp))))) rfl ?_
                          refine W.nil ⟨hG218, (List.Sublist.refl _).cons_cons _, _, (List.Sublist.refl _).cons_cons _, List.Sublist.refl _, ?_⟩
                          refine WD.take 21 rfl rfl rfl (by kernel_rfl) (by kernel_rfl) (by kernel_rfl) (ok_pick_t rfl rfl) ?_
                          refine WD.take 22 rfl rfl rfl (by kernel_rfl) (by kernel_rfl) (by kernel_rfl) (ok_mv) ?_
                          refine WD.anyG [23] (by kernel_rfl) rfl ⟨⟨_, rfl, .inr ⟨_, 176, _, _, rfl, rfl, rfl, rfl, rfl⟩, ?_⟩, trivial⟩
                          refine W.qcall (awake15_fc) rfl ?_
                          refine W.nil ⟨Le.rfl, (List.Sublist.refl _).cons_cons _, _, (List.Sublist.refl _).cons_cons _, List.Sublist.refl _, ?_⟩
                          refine WD.take 24 rfl rfl rfl (by kernel_rfl) (by kernel_rfl) (by kernel_rfl) (ok_pick_t rfl rfl) ?_
                          refine WD.take 25 rfl rfl rfl (by kernel_rfl) (by kernel_rfl) (by kernel_rfl) (ok_as) ?_
                          refine WD.done (by kernel_rfl) (thn_n ?_)
                          refine WC.ret ?_
                          refine ⟨.inr rfl, [_], ⟨rfl, trivial⟩, [], List.nil_sublist _, ?_⟩
                          rfl
                  · refine W.lit (e := eStr) (l := [_]) (css := [[.string _]]) sl61 ty9 zr9 rfl rfl rfl rfl rfl rfl ⟨rfl, trivial⟩ (fun bl221 G221 hG221 hv221 => ?_)
                    refine W.nil ⟨hG221, (List.Sublist.refl _).cons_cons _, _, (List.Sublist.refl _).cons_cons _, List.Sublist.refl _, ?_⟩
                    refine WD.anyG [8] (by kernel_rfl) rfl ⟨⟨_, rfl, .inr ⟨_, 87, _, _, rfl, rfl, rfl, rfl, rfl⟩, ?_⟩, trivial⟩
                    refine W.call (Mp := []) (cutO_fc (h_p.mono ((hG22.trans hG33).trans hG221)) 0 _ ⟨by omega, by omega⟩) rfl (List.Perm.refl _) ?_
                    rintro v223 G222 Ms224 hG222 ho225
                    refine W.perm (pmC (List.Perm.refl _)).symm ?_
                    refine W.nil ⟨hG222, (List.nil_sublist _).cons_cons _, _, (List.nil_sublist _).cons_cons _, List.Sublist.refl _, ?_⟩
                    refine WD.anyG [11] (by kernel_rfl) rfl ⟨⟨_, rfl, .inr ⟨_, 87, _, _, rfl, rfl, rfl, rfl, rfl⟩, ?_⟩, trivial⟩
                    refine W.app (e := eStr) sl61 ty9 zr9 rfl by9 rfl rfl (ho225) ((hv221.mono hG222)) (pmC (List.Perm.refl _)) (by simp only [List.length_append, List.length_drop, List.length_take, List.length_cons, List.length_nil] at *; show (_ + _) * 16 ≤ _; first | omega | (simp; done) | (simp; omega)) (fun v226 Ms227 ho228 => ?_)
                    refine W.perm (pmC (List.Perm.refl _)).symm ?_
                    refine W.nil ⟨Le.rfl, (List.nil_sublist _).cons_cons _, _, (List.nil_sublist _).cons_cons _, List.Sublist.refl _, ?_⟩
                    refine WD.anyG [15] (by kernel_rfl) rfl ⟨⟨_, rfl, .inr ⟨_, 87, _, _, rfl, rfl, rfl, rfl, rfl⟩, ?_⟩, trivial⟩
                    refine W.app (e := eStr) sl61 ty9 zr9 rfl by9 rfl rfl (ho228) ((hs111.mono (hG221.trans hG222))) (pmC (List.Perm.refl _)) (by simp only [List.length_append, List.length_drop, List.length_take, List.length_cons, List.length_nil] at *; show (_ + _) * 16 ≤ _; first | omega | (simp; done) | (simp; omega)) (fun v229 Ms230 ho231 => ?_)
                    refine W.perm (pmC (List.Perm.refl _)).symm ?_
                    refine W.nil ⟨Le.rfl, (List.nil_sublist _).cons_cons _, _, (List.nil_sublist _).cons_cons _, List.Sublist.refl _, ?_⟩
                    refine WD.anyG [16] (by kernel_rfl) rfl ⟨⟨_, rfl, .inr ⟨_, 87, _, _, rfl, rfl, rfl, rfl, rfl⟩, ?_⟩, trivial⟩
                    refine W.giveO ho231 (pmC (List.Perm.refl _)) (fun G232 hG232 hv232 => ?_)
                    have q234 := hv232.form
                    refine match q234 with | ⟨_, _, e_233⟩ => ?_
                    subst e_233
                    refine W.qcall ((same_fc (hv23.mono (((hG33.trans hG221).trans hG222).trans hG232)) hv232).mono (fun v _ _ _ hv => hv.trans (congrArg Value.bool (decide_eq_true (by rw [hA]; simp))))) rfl ?_
                    refine W.nil ⟨hG232, (List.Sublist.refl _).cons_cons _, _, (List.Sublist.refl _).cons_cons _, List.Sublist.refl _, ?_⟩
                    refine WD.takeY 17 87 rfl rfl rfl rfl rfl rfl (by kernel_rfl) (by kernel_rfl) (by kernel_rfl) (ok_not rfl) ?_
                    refine WD.take 18 rfl rfl rfl (by kernel_rfl) (by kernel_rfl) (by kernel_rfl) (ok_pick_f rfl rfl) ?_
                    refine WD.take 19 rfl rfl rfl (by kernel_rfl) (by kernel_rfl) (by kernel_rfl) (ok_mv) ?_
                    refine WD.takeY 20 102 rfl rfl rfl rfl rfl rfl (by kernel_rfl) (by kernel_rfl) (by kernel_rfl) (ok_mv) ?_
                    refine WD.takeY 21 102 rfl rfl rfl rfl rfl rfl (by kernel_rfl) (by kernel_rfl) (by kernel_rfl) (ok_mv) ?_
                    refine WD.takeY 22 102 rfl rfl rfl rfl rfl rfl (by kernel_rfl) (by kernel_rfl) (by kernel_rfl) (ok_mv) ?_
                    refine WD.takeY 23 102 rfl rfl rfl rfl rfl rfl (by kernel_rfl) (by kernel_rfl) (by kernel_rfl) (Ok.int (n := ((i + 1 : Nat) : Int)) (ok_add rfl rfl (by omega)) (by omega)) ?_
                    refine WD.takeY 25 102 rfl rfl rfl rfl rfl rfl (by kernel_rfl) (by kernel_rfl) (by kernel_rfl) (ok_mv) ?_
                    refine WD.takeY 28 102 rfl rfl rfl rfl rfl rfl (by kernel_rfl) (by kernel_rfl) (by kernel_rfl) (ok_mv) ?_
                    refine WD.takeY 29 102 rfl rfl rfl rfl rfl rfl (by kernel_rfl) (by kernel_rfl) (by kernel_rfl) (ok_mv) ?_
                    refine WD.takeY 30 102 rfl rfl rfl rfl rfl rfl (by kernel_rfl) (by kernel_rfl) (by kernel_rfl) (Ok.int (n := ((i + 1 : Nat) : Int)) (ok_add rfl rfl (by omega)) (by omega)) ?_
                    have hs235 := SlR.slice (h_c.mono ((((hG22.trans hG33).trans hG221).trans hG222).trans hG232)) (lo := i + 1) (hi := c.length) (by omega) (by omega)
                    refine WD.takeY 31 102 rfl rfl rfl rfl rfl rfl (by kernel_rfl) (by kernel_rfl) (by kernel_rfl) (ok_slice (i + 1) (c.length) sl47 ty3 (h_c.mono ((((hG22.trans hG33).trans hG221).trans hG222).trans hG232)) rfl ⟨_, _, rfl, by omega⟩ rfl ⟨by omega, by omega⟩) ?_
                    refine WD.anyG [24, 26] (by kernel_rfl) rfl ⟨⟨_, rfl, .inr ⟨_, 102, _, _, rfl, rfl, rfl, rfl, rfl⟩, ?_⟩, ⟨_, rfl, .inr ⟨_, 102, _, _, rfl, rfl, rfl, rfl, rfl⟩, ?_⟩, trivial⟩
                    · refine W.call (Mp := []) (partO_fc (h_c.mono ((((hG22.trans hG33).trans hG221).trans hG222).trans hG232)) 0 _ ⟨by omega, by omega⟩) rfl (List.Perm.refl _) ?_
                      rintro v237 G236 Ms238 hG236 ho239
                      refine W.perm (pmC (List.Perm.refl _)).symm ?_
                      refine W.nil ⟨hG236, (List.nil_sublist _).cons_cons _, _, (List.nil_sublist _).cons_cons _, List.Sublist.refl _, ?_⟩
                      refine WD.anyG [26] (by kernel_rfl) rfl ⟨⟨_, rfl, .inr ⟨_, 102, _, _, rfl, rfl, rfl, rfl, rfl⟩, ?_⟩, trivial⟩
                      refine W.lit (e := eInt) (l := [_]) (css := [[.int .i64 _]]) sl47 ty3 zr3 rfl rfl rfl rfl rfl rfl ⟨⟨rfl, by omega, by omega⟩, trivial⟩ (fun bl240 G240 hG240 hv240 => ?_)
                      refine W.nil ⟨hG240, (List.nil_sublist _).cons_cons _, _, (List.nil_sublist _).cons_cons _, List.Sublist.refl _, ?_⟩
                      refine WD.anyG [27] (by kernel_rfl) rfl ⟨⟨_, rfl, .inr ⟨_, 102, _, _, rfl, rfl, rfl, rfl, rfl⟩, ?_⟩, trivial⟩
                      refine W.app (e := eInt) sl47 ty3 zr3 rfl by3 rfl rfl ((ho239.mono hG240)) (hv240) (pmC (List.Perm.refl _)) (by simp only [List.length_append, List.length_drop, List.length_take, List.length_cons, List.length_nil] at *; show (_ + _) * 8 ≤ _; first | omega | (simp; done) | (simp; omega)) (fun v241 Ms242 ho243 => ?_)
                      refine W.perm (pmC (List.Perm.refl _)).symm ?_
                      refine W.nil ⟨Le.rfl, (List.nil_sublist _).cons_cons _, _, (List.nil_sublist _).cons_cons _, List.Sublist.refl _, ?_⟩
                      refine WD.anyG [32] (by kernel_rfl) rfl ⟨⟨_, rfl, .inr ⟨_, 102, _, _, rfl, rfl, rfl, rfl, rfl⟩, ?_⟩, trivial⟩
                      refine W.app (e := eInt) sl47 ty3 zr3 rfl by3 rfl rfl (ho243) ((hs235.mono (hG236.trans hG240))) (pmC (List.Perm.refl _)) (by simp only [List.length_append, List.length_drop, List.length_take, List.length_cons, List.length_nil] at *; show (_ + _) * 8 ≤ _; first | omega | (simp; done) | (simp; omega)) (fun v244 Ms245 ho246 => ?_)
                      refine W.perm (pmC (List.Perm.refl _)).symm ?_
                      refine W.nil ⟨Le.rfl, (List.nil_sublist _).cons_cons _, _, (List.nil_sublist _).cons_cons _, List.Sublist.refl _, ?_⟩
                      refine WD.anyG [33] (by kernel_rfl) rfl ⟨⟨_, rfl, .inr ⟨_, 102, _, _, rfl, rfl, rfl, rfl, rfl⟩, ?_⟩, trivial⟩
                      refine W.giveO ho246 (pmC (List.Perm.refl _)) (fun G247 hG247 hv247 => ?_)
                      have q249 := hv247.form
                      refine match q249 with | ⟨_, _, e_248⟩ => ?_
                      subst e_248
                      refine W.qcall ((ints_fc (hv24.mono ((((((hG33.trans hG221).trans hG222).trans hG232).trans hG236).trans hG240).trans hG247)) hv247).mono (fun v _ _ _ hv => hv.trans (congrArg Value.bool (decide_eq_true (by rw [hA]; simp))))) rfl ?_
                      refine W.nil ⟨hG247, (List.Sublist.refl _).cons_cons _, _, (List.Sublist.refl _).cons_cons _, List.Sublist.refl _, ?_⟩
                      refine WD.takeY 34 102 rfl rfl rfl rfl rfl rfl (by kernel_rfl) (by kernel_rfl) (by kernel_rfl) (ok_not rfl) ?_
                      refine WD.take 35 rfl rfl rfl (by kernel_rfl) (by kernel_rfl) (by kernel_rfl) (ok_pick_f rfl rfl) ?_
                      refine WD.done (by kernel_rfl) (thn_n ?_)
                      refine WC.cond_f rfl rfl ?_
                      refine WC.skip (thn_n ?_)
                      refine WC.seq ?_
                      refine WC.region ?_
                      refine W.mv ?_
                      refine W.mv ?_
                      refine W.mv ?_
                      refine W.ok (Ok.int (n := ((i + 1 : Nat) : Int)) (ok_add rfl rfl (by omega)) (by omega)) ?_
                      refine W.call (Mp := []) (brem_fc (hv23.mono ((((((hG33.trans hG221).trans hG222).trans hG232).trans hG236).trans hG240).trans hG247)) (hv24.mono ((((((hG33.trans hG221).trans hG222).trans hG232).trans hG236).trans hG240).trans hG247)) _ (by first | assumption | exact ⟨by omega, by omega⟩)) rfl (List.Perm.refl _) ?_
                      intro _ G250 _ hG250 q253
                      refine match q253 with | ⟨e_254, _, e_255, _, _, e_256, hv251, hv252⟩ => ?_
                      subst e_254
                      subst e_255
                      subst e_256
                      have q258 := hv251.form
                      refine match q258 with | ⟨sa_hv251, sc_hv251, e_257⟩ => ?_
                      subst e_257
                      have q260 := hv252.form
                      refine match q260 with | ⟨sa_hv252, sc_hv252, e_259⟩ => ?_
                      subst e_259
                      refine W.mv ?_
                      refine W.ok (ok_extract rfl rfl) ?_
                      refine W.ok (ok_extract rfl rfl) ?_
                      refine W.as ?_
                      refine W.as ?_
                      refine W.nil (thn_n ?_)
                      refine WC.seq ?_
                      refine WC.region ?_
                      refine W.mv ?_
                      refine W.mv ?_
                      refine W.qcall ((same_fc hv251 (h_p.mono ((((((((hG22.trans hG33).trans hG221).trans hG222).trans hG232).trans hG236).trans hG240).trans hG247).trans hG250))).mono (fun v _ _ _ hv => hv.trans (congrArg Value.bool (decide_eq_true (by rw [hrem]))))) rfl ?_
                      refine W.ok (ok_not rfl) ?_
                      refine W.mv ?_
                      refine W.yes (dj := 131) rfl rfl rfl ?_
                      refine W.mv ?_
                      refine W.yes (dj := 131) rfl rfl rfl ?_
                      refine W.mv ?_
                      refine W.yes (dj := 131) rfl rfl rfl ?_
                      refine W.qcall ((ints_fc hv252 (h_c.mono ((((((((hG22.trans hG33).trans hG221).trans hG222).trans hG232).trans hG236).trans hG240).trans hG247).trans hG250))).mono (fun v _ _ _ hv => hv.trans (congrArg Value.bool (decide_eq_true (by rw [hrem]))))) rfl ?_
                      refine W.yes (dj := 131) rfl rfl rfl ?_
                      refine W.ok (ok_not rfl) ?_
                      refine W.ok (ok_pick_f rfl rfl) ?_
                      refine W.nil (thn_n ?_)
                      refine WC.cond_f rfl rfl ?_
                      refine WC.skip (thn_n ?_)
                      refine WC.seq ?_
                      refine WC.seq ?_
                      refine WC.region ?_
                      refine W.mv ?_
                      refine W.ok (ok_lss rfl rfl) ?_
                      refine W.mv ?_
                      refine W.sp 139 rfl (fun h138 => ?_) (fun h138 => ?_)
                      · have p138 := of_decide_eq_true h138
                        refine W.no (dj := 139) rfl rfl h138 ?_
                        refine W.no (dj := 139) rfl rfl h138 ?_
                        refine W.no (dj := 139) rfl rfl h138 ?_
                        refine W.no (dj := 139) rfl rfl h138 ?_
                        refine W.ok (ok_pick_t rfl h138) ?_
                        refine W.nil (thn_n ?_)
                        refine WC.cond_t rfl rfl ?_
                        refine WC.seq ?_
                        refine WC.region ?_
                        refine W.mv ?_
                        refine W.ok (ok_len sl61 (hv34.mono ((((((hG221.trans hG222).trans hG232).trans hG236).trans hG240).trans hG247).trans hG250)) rfl) ?_
                        refine W.mv ?_
                        refine W.ok (ok_len sl47 (hv35.mono ((((((hG221.trans hG222).trans hG232).trans hG236).trans hG240).trans hG247).trans hG250)) rfl) ?_
                        refine W.ok (ok_add rfl rfl (by omega)) ?_
                        refine W.ok (ok_eql rfl rfl) ?_
                        refine W.mv ?_
                        refine W.sp 151 rfl (fun h150 => ?_) (fun h150 => ?_)
                        · have p150 := of_decide_eq_true h150
                          refine W.yes (dj := 151) rfl rfl h150 ?_
                          refine W.qcall (awake15_fc) rfl ?_
                          refine W.ok (ok_pick_t rfl h150) ?_
                          refine W.as ?_
                          refine W.nil (thn_n ?_)
                          refine WC.ret (thn_r ?_)
                          refine ⟨.inr rfl, [_], ⟨rfl, trivial⟩, [], List.nil_sublist _, ?_⟩
                          rfl
                        · have p150 := of_decide_eq_false h150
                          refine absurd ?_ p150
                          rw [bremN_0 (by omega)]; rfl
                      · have p138 := of_decide_eq_false h138
                        refine W.yes (dj := 139) rfl rfl h138 ?_
                        refine W.mv ?_
                        refine W.yes (dj := 139) rfl rfl h138 ?_
                        refine W.mv ?_
                        refine W.yes (dj := 139) rfl rfl h138 ?_
                        refine W.ok (ok_len sl47 (h_c.mono ((((((((hG22.trans hG33).trans hG221).trans hG222).trans hG232).trans hG236).trans hG240).trans hG247).trans hG250)) rfl) ?_
                        refine W.yes (dj := 139) rfl rfl h138 ?_
                        refine W.ok (ok_geq rfl rfl) ?_
                        refine W.ok (ok_pick_f rfl h138) ?_
                        refine W.nil (thn_n ?_)
                        refine WC.cond (b := _) rfl (fun h143 => ?_) (fun h143 => ?_)
                        · have p143 := of_decide_eq_true h143
                          refine WC.seq ?_
                          refine WC.region ?_
                          refine W.mv ?_
                          refine W.ok (ok_len sl61 (hv34.mono ((((((hG221.trans hG222).trans hG232).trans hG236).trans hG240).trans hG247).trans hG250)) rfl) ?_
                          refine W.mv ?_
                          refine W.ok (ok_len sl47 (hv35.mono ((((((hG221.trans hG222).trans hG232).trans hG236).trans hG240).trans hG247).trans hG250)) rfl) ?_
                          refine W.ok (ok_add rfl rfl (by omega)) ?_
                          refine W.ok (ok_eql rfl rfl) ?_
                          refine W.mv ?_
                          refine W.sp 151 rfl (fun h150 => ?_) (fun h150 => ?_)
                          · have p150 := of_decide_eq_true h150
                            refine W.yes (dj := 151) rfl rfl h150 ?_
                            refine W.qcall (awake15_fc) rfl ?_
                            refine W.ok (ok_pick_t rfl h150) ?_
                            refine W.as ?_
                            refine W.nil (thn_n ?_)
                            refine WC.ret (thn_r ?_)
                            refine ⟨.inr rfl, [_], ⟨rfl, trivial⟩, [], List.nil_sublist _, ?_⟩
                            rfl
                          · have p150 := of_decide_eq_false h150
                            refine absurd ?_ p150
                            rw [bremN_0 (by omega)]; rfl
                        · have p143 := of_decide_eq_false h143
                          refine WC.skip (thn_n ?_)
                          refine WC.seq ?_
                          refine WC.drawW _ ((List.Sublist.refl _).cons_cons _) mix (by rintro _ _ _ _ ⟨h | h, _⟩ <;> cases h) ?_
                          refine WD.take 0 rfl rfl rfl (by kernel_rfl) (by kernel_rfl) (by kernel_rfl) (ok_mv) ?_
                          refine WD.take 1 rfl rfl rfl (by kernel_rfl) (by kernel_rfl) (by kernel_rfl) (ok_mv) ?_
                          refine WD.take 2 rfl rfl rfl (by kernel_rfl) (by kernel_rfl) (by kernel_rfl) (ok_mv) ?_
                          refine WD.take 3 rfl rfl rfl (by kernel_rfl) (by kernel_rfl) (by kernel_rfl) (Ok.int (n := ((i - 1 : Nat) : Int)) (ok_sub rfl rfl (by omega)) (by omega)) ?_
                          refine WD.take 5 rfl rfl rfl (by kernel_rfl) (by kernel_rfl) (by kernel_rfl) (ok_mv) ?_
                          refine WD.take 6 rfl rfl rfl (by kernel_rfl) (by kernel_rfl) (by kernel_rfl) (ok_mv) ?_
                          have hs261 := SlR.slice (h_p.mono ((((((((hG22.trans hG33).trans hG221).trans hG222).trans hG232).trans hG236).trans hG240).trans hG247).trans hG250)) (lo := i) (hi := p.length) (by omega) (by omega)
                          refine WD.take 7 rfl rfl rfl (by kernel_rfl) (by kernel_rfl) (by kernel_rfl) (ok_slice (i) (p.length) sl61 ty9 (h_p.mono ((((((((hG22.trans hG33).trans hG221).trans hG222).trans hG232).trans hG236).trans hG240).trans hG247).trans hG250)) rfl ⟨_, _, rfl, by omega⟩ rfl ⟨by omega, by omega⟩) ?_
                          refine WD.any [4] (by kernel_rfl) rfl ⟨⟨_, rfl, rfl, ?_⟩, trivial⟩
                          refine W.call (Mp := []) (cutO_fc (h_p.mono ((((((((hG22.trans hG33).trans hG221).trans hG222).trans hG232).trans hG236).trans hG240).trans hG247).trans hG250)) 0 _ ⟨by omega, by omega⟩) rfl (List.Perm.refl _) ?_
                          rintro v263 G262 Ms264 hG262 ho265
                          refine W.perm (pmC (List.Perm.refl _)).symm ?_
                          refine W.nil ⟨hG262, (List.nil_sublist _).cons_cons _, _, (List.nil_sublist _).cons_cons _, List.Sublist.refl _, ?_⟩
                          refine WD.any [8] (by kernel_rfl) rfl ⟨⟨_, rfl, rfl, ?_⟩, trivial⟩
                          refine W.app (e := eStr) sl61 ty9 zr9 rfl by9 rfl rfl (ho265) ((hs261.mono hG262)) (pmC (List.Perm.refl _)) (by simp only [List.length_append, List.length_drop, List.length_take, List.length_cons, List.length_nil] at *; show (_ + _) * 16 ≤ _; first | omega | (simp; done) | (simp; omega)) (fun v266 Ms267 ho268 => ?_)
                          refine W.perm (pmC (List.Perm.refl _)).symm ?_
                          refine W.nil ⟨Le.rfl, (List.nil_sublist _).cons_cons _, _, (List.nil_sublist _).cons_cons _, List.Sublist.refl _, ?_⟩
                          refine WD.any [9] (by kernel_rfl) rfl ⟨⟨_, rfl, rfl, ?_⟩, trivial⟩
                          refine W.giveO ho268 (pmC (List.Perm.refl _)) (fun G269 hG269 hv269 => ?_)
                          have q271 := hv269.form
                          refine match q271 with | ⟨_, _, e_270⟩ => ?_
                          subst e_270
                          refine W.qcall ((same_fc (hv34.mono ((((((((hG221.trans hG222).trans hG232).trans hG236).trans hG240).trans hG247).trans hG250).trans hG262).trans hG269)) hv269).mono (fun v _ _ _ hv => hv.trans (congrArg Value.bool (decide_eq_true (by rw [bremN_1 (by omega) (by omega) (by omega)]; simp))))) rfl ?_
                          refine W.nil ⟨hG269, (List.Sublist.refl _).cons_cons _, _, (List.Sublist.refl _).cons_cons _, List.Sublist.refl _, ?_⟩
                          refine WD.take 10 rfl rfl rfl (by kernel_rfl) (by kernel_rfl) (by kernel_rfl) (ok_mv) ?_
                          refine WD.takeY 11 164 rfl rfl rfl rfl rfl rfl (by kernel_rfl) (by kernel_rfl) (by kernel_rfl) (ok_mv) ?_
                          refine WD.takeY 12 164 rfl rfl rfl rfl rfl rfl (by kernel_rfl) (by kernel_rfl) (by kernel_rfl) (ok_mv) ?_
                          refine WD.takeY 13 164 rfl rfl rfl rfl rfl rfl (by kernel_rfl) (by kernel_rfl) (by kernel_rfl) (ok_mv) ?_
                          refine WD.takeY 15 164 rfl rfl rfl rfl rfl rfl (by kernel_rfl) (by kernel_rfl) (by kernel_rfl) (ok_mv) ?_
                          refine WD.takeY 16 164 rfl rfl rfl rfl rfl rfl (by kernel_rfl) (by kernel_rfl) (by kernel_rfl) (ok_mv) ?_
                          refine WD.takeY 17 164 rfl rfl rfl rfl rfl rfl (by kernel_rfl) (by kernel_rfl) (by kernel_rfl) (Ok.int (n := ((i + 1 : Nat) : Int)) (ok_add rfl rfl (by omega)) (by omega)) ?_
                          have hs272 := SlR.slice (h_c.mono ((((((((((hG22.trans hG33).trans hG221).trans hG222).trans hG232).trans hG236).trans hG240).trans hG247).trans hG250).trans hG262).trans hG269)) (lo := i + 1) (hi := c.length) (by omega) (by omega)
                          refine WD.takeY 18 164 rfl rfl rfl rfl rfl rfl (by kernel_rfl) (by kernel_rfl) (by kernel_rfl) (ok_slice (i + 1) (c.length) sl47 ty3 (h_c.mono ((((((((((hG22.trans hG33).trans hG221).trans hG222).trans hG232).trans hG236).trans hG240).trans hG247).trans hG250).trans hG262).trans hG269)) rfl ⟨_, _, rfl, by omega⟩ rfl ⟨by omega, by omega⟩) ?_
                          refine WD.anyG [14] (by kernel_rfl) rfl ⟨⟨_, rfl, .inr ⟨_, 164, _, _, rfl, rfl, rfl, rfl, rfl⟩, ?_⟩, trivial⟩
                          refine W.call (Mp := []) (partO_fc (h_c.mono ((((((((((hG22.trans hG33).trans hG221).trans hG222).trans hG232).trans hG236).trans hG240).trans hG247).trans hG250).trans hG262).trans hG269)) 0 _ ⟨by omega, by omega⟩) rfl (List.Perm.refl _) ?_
                          rintro v274 G273 Ms275 hG273 ho276
                          refine W.perm (pmC (List.Perm.refl _)).symm ?_
                          refine W.nil ⟨hG273, (List.nil_sublist _).cons_cons _, _, (List.nil_sublist _).cons_cons _, List.Sublist.refl _, ?_⟩
                          refine WD.anyG [19] (by kernel_rfl) rfl ⟨⟨_, rfl, .inr ⟨_, 164, _, _, rfl, rfl, rfl, rfl, rfl⟩, ?_⟩, trivial⟩
                          refine W.app (e := eInt) sl47 ty3 zr3 rfl by3 rfl rfl (ho276) ((hs272.mono hG273)) (pmC (List.Perm.refl _)) (by simp only [List.length_append, List.length_drop, List.length_take, List.length_cons, List.length_nil] at *; show (_ + _) * 8 ≤ _; first | omega | (simp; done) | (simp; omega)) (fun v277 Ms278 ho279 => ?_)
                          refine W.perm (pmC (List.Perm.refl _)).symm ?_
                          refine W.nil ⟨Le.rfl, (List.nil_sublist _).cons_cons _, _, (List.nil_sublist _).cons_cons _, List.Sublist.refl _, ?_⟩
                          refine WD.anyG [20] (by kernel_rfl) rfl ⟨⟨_, rfl, .inr ⟨_, 164, _, _, rfl, rfl, rfl, rfl, rfl⟩, ?_⟩, trivial⟩
                          refine W.giveO ho279 (pmC (List.Perm.refl _)) (fun G280 hG280 hv280 => ?_)
                          have q282 := hv280.form
                          refine match q282 with | ⟨_, _, e_281⟩ => ?_
                          subst e_281
                          refine W.qcall ((ints_fc (hv35.mono ((((((((((hG221.trans hG222).trans hG232).trans hG236).trans hG240).trans hG247).trans hG250).trans hG262).trans hG269).trans hG273).trans hG280)) hv280).mono (fun v _ _ _ hv => hv.trans (congrArg Value.bool (decide_eq_true (by rw [bremN_1 (by omega) (by omega) (by omega)]; simp))))) rfl ?_
                          refine W.nil ⟨hG280, (List.Sublist.refl _).cons_cons _, _, (List.Sublist.refl _).cons_cons _, List.Sublist.refl _, ?_⟩
                          refine WD.take 21 rfl rfl rfl (by kernel_rfl) (by kernel_rfl) (by kernel_rfl) (ok_pick_t rfl rfl) ?_
                          refine WD.take 22 rfl rfl rfl (by kernel_rfl) (by kernel_rfl) (by kernel_rfl) (ok_mv) ?_
                          refine WD.anyG [23] (by kernel_rfl) rfl ⟨⟨_, rfl, .inr ⟨_, 176, _, _, rfl, rfl, rfl, rfl, rfl⟩, ?_⟩, trivial⟩
                          refine W.qcall (awake15_fc) rfl ?_
                          refine W.nil ⟨Le.rfl, (List.Sublist.refl _).cons_cons _, _, (List.Sublist.refl _).cons_cons _, List.Sublist.refl _, ?_⟩
                          refine WD.take 24 rfl rfl rfl (by kernel_rfl) (by kernel_rfl) (by kernel_rfl) (ok_pick_t rfl rfl) ?_
                          refine WD.take 25 rfl rfl rfl (by kernel_rfl) (by kernel_rfl) (by kernel_rfl) (ok_as) ?_
                          refine WD.done (by kernel_rfl) (thn_n ?_)
                          refine WC.ret ?_
                          refine ⟨.inr rfl, [_], ⟨rfl, trivial⟩, [], List.nil_sublist _, ?_⟩
                          rfl
                    · refine W.lit (e := eInt) (l := [_]) (css := [[.int .i64 _]]) sl47 ty3 zr3 rfl rfl rfl rfl rfl rfl ⟨⟨rfl, by omega, by omega⟩, trivial⟩ (fun bl283 G283 hG283 hv283 => ?_)
                      refine W.nil ⟨hG283, (List.Sublist.refl _).cons_cons _, _, (List.Sublist.refl _).cons_cons _, List.Sublist.refl _, ?_⟩
                      refine WD.anyG [24] (by kernel_rfl) rfl ⟨⟨_, rfl, .inr ⟨_, 102, _, _, rfl, rfl, rfl, rfl, rfl⟩, ?_⟩, trivial⟩
                      refine W.call (Mp := []) (partO_fc (h_c.mono (((((hG22.trans hG33).trans hG221).trans hG222).trans hG232).trans hG283)) 0 _ ⟨by omega, by omega⟩) rfl (List.Perm.refl _) ?_
                      rintro v285 G284 Ms286 hG284 ho287
                      refine W.perm (pmC (List.Perm.refl _)).symm ?_
                      refine W.nil ⟨hG284, (List.nil_sublist _).cons_cons _, _, (List.nil_sublist _).cons_cons _, List.Sublist.refl _, ?_⟩
                      refine WD.anyG [27] (by kernel_rfl) rfl ⟨⟨_, rfl, .inr ⟨_, 102, _, _, rfl, rfl, rfl, rfl, rfl⟩, ?_⟩, trivial⟩
                      refine W.app (e := eInt) sl47 ty3 zr3 rfl by3 rfl rfl (ho287) ((hv283.mono hG284)) (pmC (List.Perm.refl _)) (by simp only [List.length_append, List.length_drop, List.length_take, List.length_cons, List.length_nil] at *; show (_ + _) * 8 ≤ _; first | omega | (simp; done) | (simp; omega)) (fun v288 Ms289 ho290 => ?_)
                      refine W.perm (pmC (List.Perm.refl _)).symm ?_
                      refine W.nil ⟨Le.rfl, (List.nil_sublist _).cons_cons _, _, (List.nil_sublist _).cons_cons _, List.Sublist.refl _, ?_⟩
                      refine WD.anyG [32] (by kernel_rfl) rfl ⟨⟨_, rfl, .inr ⟨_, 102, _, _, rfl, rfl, rfl, rfl, rfl⟩, ?_⟩, trivial⟩
                      refine W.app (e := eInt) sl47 ty3 zr3 rfl by3 rfl rfl (ho290) ((hs235.mono (hG283.trans hG284))) (pmC (List.Perm.refl _)) (by simp only [List.length_append, List.length_drop, List.length_take, List.length_cons, List.length_nil] at *; show (_ + _) * 8 ≤ _; first | omega | (simp; done) | (simp; omega)) (fun v291 Ms292 ho293 => ?_)
                      refine W.perm (pmC (List.Perm.refl _)).symm ?_
                      refine W.nil ⟨Le.rfl, (List.nil_sublist _).cons_cons _, _, (List.nil_sublist _).cons_cons _, List.Sublist.refl _, ?_⟩
                      refine WD.anyG [33] (by kernel_rfl) rfl ⟨⟨_, rfl, .inr ⟨_, 102, _, _, rfl, rfl, rfl, rfl, rfl⟩, ?_⟩, trivial⟩
                      refine W.giveO ho293 (pmC (List.Perm.refl _)) (fun G294 hG294 hv294 => ?_)
                      have q296 := hv294.form
                      refine match q296 with | ⟨_, _, e_295⟩ => ?_
                      subst e_295
                      refine W.qcall ((ints_fc (hv24.mono ((((((hG33.trans hG221).trans hG222).trans hG232).trans hG283).trans hG284).trans hG294)) hv294).mono (fun v _ _ _ hv => hv.trans (congrArg Value.bool (decide_eq_true (by rw [hA]; simp))))) rfl ?_
                      refine W.nil ⟨hG294, (List.Sublist.refl _).cons_cons _, _, (List.Sublist.refl _).cons_cons _, List.Sublist.refl _, ?_⟩
                      refine WD.takeY 34 102 rfl rfl rfl rfl rfl rfl (by kernel_rfl) (by kernel_rfl) (by kernel_rfl) (ok_not rfl) ?_
                      refine WD.take 35 rfl rfl rfl (by kernel_rfl) (by kernel_rfl) (by kernel_rfl) (ok_pick_f rfl rfl) ?_
                      refine WD.done (by kernel_rfl) (thn_n ?_)
                      refine WC.cond_f rfl rfl ?_
                      refine WC.skip (thn_n ?_)
                      refine WC.seq ?_
                      refine WC.region ?_
                      refine W.mv ?_
                      refine W.mv ?_
                      refine W.mv ?_
                      refine W.ok (Ok.int (n := ((i + 1 : Nat) : Int)) (ok_add rfl rfl (by omega)) (by omega)) ?_
                      refine W.call (Mp := []) (brem_fc (hv23.mono ((((((hG33.trans hG221).trans hG222).trans hG232).trans hG283).trans hG284).trans hG294)) (hv24.mono ((((((hG33.trans hG221).trans hG222).trans hG232).trans hG283).trans hG284).trans hG294)) _ (by first | assumption | exact ⟨by omega, by omega⟩)) rfl (List.Perm.refl _) ?_
                      intro _ G297 _ hG297 q300
                      refine match q300 with | ⟨e_301, _, e_302, _, _, e_303, hv298, hv299⟩ => ?_
                      subst e_301
                      subst e_302
                      subst e_303
                      have q305 := hv298.form
                      refine match q305 with | ⟨sa_hv298, sc_hv298, e_304⟩ => ?_
                      subst e_304
                      have q307 := hv299.form
                      refine match q307 with | ⟨sa_hv299, sc_hv299, e_306⟩ => ?_
                      subst e_306
                      refine W.mv ?_
                      refine W.ok (ok_extract rfl rfl) ?_
                      refine W.ok (ok_extract rfl rfl) ?_
                      refine W.as ?_
                      refine W.as ?_
                      refine W.nil (thn_n ?_)
                      refine WC.seq ?_
                      refine WC.region ?_
                      refine W.mv ?_
                      refine W.mv ?_
                      refine W.qcall ((same_fc hv298 (h_p.mono ((((((((hG22.trans hG33).trans hG221).trans hG222).trans hG232).trans hG283).trans hG284).trans hG294).trans hG297))).mono (fun v _ _ _ hv => hv.trans (congrArg Value.bool (decide_eq_true (by rw [hrem]))))) rfl ?_
                      refine W.ok (ok_not rfl) ?_
                      refine W.mv ?_
                      refine W.yes (dj := 131) rfl rfl rfl ?_
                      refine W.mv ?_
                      refine W.yes (dj := 131) rfl rfl rfl ?_
                      refine W.mv ?_
                      refine W.yes (dj := 131) rfl rfl rfl ?_
                      refine W.qcall ((ints_fc hv299 (h_c.mono ((((((((hG22.trans hG33).trans hG221).trans hG222).trans hG232).trans hG283).trans hG284).trans hG294).trans hG297))).mono (fun v _ _ _ hv => hv.trans (congrArg Value.bool (decide_eq_true (by rw [hrem]))))) rfl ?_
                      refine W.yes (dj := 131) rfl rfl rfl ?_
                      refine W.ok (ok_not rfl) ?_
                      refine W.ok (ok_pick_f rfl rfl) ?_
                      refine W.nil (thn_n ?_)
                      refine WC.cond_f rfl rfl ?_
                      refine WC.skip (thn_n ?_)
                      refine WC.seq ?_
                      refine WC.seq ?_
                      refine WC.region ?_
                      refine W.mv ?_
                      refine W.ok (ok_lss rfl rfl) ?_
                      refine W.mv ?_
                      refine W.sp 139 rfl (fun h138 => ?_) (fun h138 => ?_)
                      · have p138 := of_decide_eq_true h138
                        refine W.no (dj := 139) rfl rfl h138 ?_
                        refine W.no (dj := 139) rfl rfl h138 ?_
                        refine W.no (dj := 139) rfl rfl h138 ?_
                        refine W.no (dj := 139) rfl rfl h138 ?_
                        refine W.ok (ok_pick_t rfl h138) ?_
                        refine W.nil (thn_n ?_)
                        refine WC.cond_t rfl rfl ?_
                        refine WC.seq ?_
                        refine WC.region ?_
                        refine W.mv ?_
                        refine W.ok (ok_len sl61 (hv34.mono ((((((hG221.trans hG222).trans hG232).trans hG283).trans hG284).trans hG294).trans hG297)) rfl) ?_
                        refine W.mv ?_
                        refine W.ok (ok_len sl47 (hv35.mono ((((((hG221.trans hG222).trans hG232).trans hG283).trans hG284).trans hG294).trans hG297)) rfl) ?_
                        refine W.ok (ok_add rfl rfl (by omega)) ?_
                        refine W.ok (ok_eql rfl rfl) ?_
                        refine W.mv ?_
                        refine W.sp 151 rfl (fun h150 => ?_) (fun h150 => ?_)
                        · have p150 := of_decide_eq_true h150
                          refine W.yes (dj := 151) rfl rfl h150 ?_
                          refine W.qcall (awake15_fc) rfl ?_
                          refine W.ok (ok_pick_t rfl h150) ?_
                          refine W.as ?_
                          refine W.nil (thn_n ?_)
                          refine WC.ret (thn_r ?_)
                          refine ⟨.inr rfl, [_], ⟨rfl, trivial⟩, [], List.nil_sublist _, ?_⟩
                          rfl
                        · have p150 := of_decide_eq_false h150
                          refine absurd ?_ p150
                          rw [bremN_0 (by omega)]; rfl
                      · have p138 := of_decide_eq_false h138
                        refine W.yes (dj := 139) rfl rfl h138 ?_
                        refine W.mv ?_
                        refine W.yes (dj := 139) rfl rfl h138 ?_
                        refine W.mv ?_
                        refine W.yes (dj := 139) rfl rfl h138 ?_
                        refine W.ok (ok_len sl47 (h_c.mono ((((((((hG22.trans hG33).trans hG221).trans hG222).trans hG232).trans hG283).trans hG284).trans hG294).trans hG297)) rfl) ?_
                        refine W.yes (dj := 139) rfl rfl h138 ?_
                        refine W.ok (ok_geq rfl rfl) ?_
                        refine W.ok (ok_pick_f rfl h138) ?_
                        refine W.nil (thn_n ?_)
                        refine WC.cond (b := _) rfl (fun h143 => ?_) (fun h143 => ?_)
                        · have p143 := of_decide_eq_true h143
                          refine WC.seq ?_
                          refine WC.region ?_
                          refine W.mv ?_
                          refine W.ok (ok_len sl61 (hv34.mono ((((((hG221.trans hG222).trans hG232).trans hG283).trans hG284).trans hG294).trans hG297)) rfl) ?_
                          refine W.mv ?_
                          refine W.ok (ok_len sl47 (hv35.mono ((((((hG221.trans hG222).trans hG232).trans hG283).trans hG284).trans hG294).trans hG297)) rfl) ?_
                          refine W.ok (ok_add rfl rfl (by omega)) ?_
                          refine W.ok (ok_eql rfl rfl) ?_
                          refine W.mv ?_
                          refine W.sp 151 rfl (fun h150 => ?_) (fun h150 => ?_)
                          · have p150 := of_decide_eq_true h150
                            refine W.yes (dj := 151) rfl rfl h150 ?_
                            refine W.qcall (awake15_fc) rfl ?_
                            refine W.ok (ok_pick_t rfl h150) ?_
                            refine W.as ?_
                            refine W.nil (thn_n ?_)
                            refine WC.ret (thn_r ?_)
                            refine ⟨.inr rfl, [_], ⟨rfl, trivial⟩, [], List.nil_sublist _, ?_⟩
                            rfl
                          · have p150 := of_decide_eq_false h150
                            refine absurd ?_ p150
                            rw [bremN_0 (by omega)]; rfl
                        · have p143 := of_decide_eq_false h143
                          refine WC.skip (thn_n ?_)
                          refine WC.seq ?_
                          refine WC.drawW _ ((List.Sublist.refl _).cons_cons _) mix (by rintro _ _ _ _ ⟨h | h, _⟩ <;> cases h) ?_
                          refine WD.take 0 rfl rfl rfl (by kernel_rfl) (by kernel_rfl) (by kernel_rfl) (ok_mv) ?_
                          refine WD.take 1 rfl rfl rfl (by kernel_rfl) (by kernel_rfl) (by kernel_rfl) (ok_mv) ?_
                          refine WD.take 2 rfl rfl rfl (by kernel_rfl) (by kernel_rfl) (by kernel_rfl) (ok_mv) ?_
                          refine WD.take 3 rfl rfl rfl (by kernel_rfl) (by kernel_rfl) (by kernel_rfl) (Ok.int (n := ((i - 1 : Nat) : Int)) (ok_sub rfl rfl (by omega)) (by omega)) ?_
                          refine WD.take 5 rfl rfl rfl (by kernel_rfl) (by kernel_rfl) (by kernel_rfl) (ok_mv) ?_
                          refine WD.take 6 rfl rfl rfl (by kernel_rfl) (by kernel_rfl) (by kernel_rfl) (ok_mv) ?_
                          have hs308 := SlR.slice (h_p.mono ((((((((hG22.trans hG33).trans hG221).trans hG222).trans hG232).trans hG283).trans hG284).trans hG294).trans hG297)) (lo := i) (hi := p.length) (by omega) (by omega)
                          refine WD.take 7 rfl rfl rfl (by kernel_rfl) (by kernel_rfl) (by kernel_rfl) (ok_slice (i) (p.length) sl61 ty9 (h_p.mono ((((((((hG22.trans hG33).trans hG221).trans hG222).trans hG232).trans hG283).trans hG284).trans hG294).trans hG297)) rfl ⟨_, _, rfl, by omega⟩ rfl ⟨by omega, by omega⟩) ?_
                          refine WD.any [4] (by kernel_rfl) rfl ⟨⟨_, rfl, rfl, ?_⟩, trivial⟩
                          refine W.call (Mp := []) (cutO_fc (h_p.mono ((((((((hG22.trans hG33).trans hG221).trans hG222).trans hG232).trans hG283).trans hG284).trans hG294).trans hG297)) 0 _ ⟨by omega, by omega⟩) rfl (List.Perm.refl _) ?_
                          rintro v310 G309 Ms311 hG309 ho312
                          refine W.perm (pmC (List.Perm.refl _)).symm ?_
                          refine W.nil ⟨hG309, (List.nil_sublist _).cons_cons _, _, (List.nil_sublist _).cons_cons _, List.Sublist.refl _, ?_⟩
                          refine WD.any [8] (by kernel_rfl) rfl ⟨⟨_, rfl, rfl, ?_⟩, trivial⟩
                          refine W.app (e := eStr) sl61 ty9 zr9 rfl by9 rfl rfl (ho312) ((hs308.mono hG309)) (pmC (List.Perm.refl _)) (by simp only [List.length_append, List.length_drop, List.length_take, List.length_cons, List.length_nil] at *; show (_ + _) * 16 ≤ _; first | omega | (simp; done) | (simp; omega)) (fun v313 Ms314 ho315 => ?_)
                          refine W.perm (pmC (List.Perm.refl _)).symm ?_
                          refine W.nil ⟨Le.rfl, (List.nil_sublist _).cons_cons _, _, (List.nil_sublist _).cons_cons _, List.Sublist.refl _, ?_⟩
                          refine WD.any [9] (by kernel_rfl) rfl ⟨⟨_, rfl, rfl, ?_⟩, trivial⟩
                          refine W.giveO ho315 (pmC (List.Perm.refl _)) (fun G316 hG316 hv316 => ?_)
                          have q318 := hv316.form
                          refine match q318 with | ⟨_, _, e_317⟩ => ?_
                          subst e_317
                          refine W.qcall ((same_fc (hv34.mono ((((((((hG221.trans hG222).trans hG232).trans hG283).trans hG284).trans hG294).trans hG297).trans hG309).trans hG316)) hv316).mono (fun v _ _ _ hv => hv.trans (congrArg Value.bool (decide_eq_true (by rw [bremN_1 (by omega) (by omega) (by omega)]; simp))))) rfl ?_
                          refine W.nil ⟨hG316, (List.Sublist.refl _).cons_cons _, _, (List.Sublist.refl _).cons_cons _, List.Sublist.refl _, ?_⟩
                          refine WD.take 10 rfl rfl rfl (by kernel_rfl) (by kernel_rfl) (by kernel_rfl) (ok_mv) ?_
                          refine WD.takeY 11 164 rfl rfl rfl rfl rfl rfl (by kernel_rfl) (by kernel_rfl) (by kernel_rfl) (ok_mv) ?_
                          refine WD.takeY 12 164 rfl rfl rfl rfl rfl rfl (by kernel_rfl) (by kernel_rfl) (by kernel_rfl) (ok_mv) ?_
                          refine WD.takeY 13 164 rfl rfl rfl rfl rfl rfl (by kernel_rfl) (by kernel_rfl) (by kernel_rfl) (ok_mv) ?_
                          refine WD.takeY 15 164 rfl rfl rfl rfl rfl rfl (by kernel_rfl) (by kernel_rfl) (by kernel_rfl) (ok_mv) ?_
                          refine WD.takeY 16 164 rfl rfl rfl rfl rfl rfl (by kernel_rfl) (by kernel_rfl) (by kernel_rfl) (ok_mv) ?_
                          refine WD.takeY 17 164 rfl rfl rfl rfl rfl rfl (by kernel_rfl) (by kernel_rfl) (by kernel_rfl) (Ok.int (n := ((i + 1 : Nat) : Int)) (ok_add rfl rfl (by omega)) (by omega)) ?_
                          have hs319 := SlR.slice (h_c.mono ((((((((((hG22.trans hG33).trans hG221).trans hG222).trans hG232).trans hG283).trans hG284).trans hG294).trans hG297).trans hG309).trans hG316)) (lo := i + 1) (hi := c.length) (by omega) (by omega)
                          refine WD.takeY 18 164 rfl rfl rfl rfl rfl rfl (by kernel_rfl) (by kernel_rfl) (by kernel_rfl) (ok_slice (i + 1) (c.length) sl47 ty3 (h_c.mono ((((((((((hG22.trans hG33).trans hG221).trans hG222).trans hG232).trans hG283).trans hG284).trans hG294).trans hG297).trans hG309).trans hG316)) rfl ⟨_, _, rfl, by omega⟩ rfl ⟨by omega, by omega⟩) ?_
                          refine WD.anyG [14] (by kernel_rfl) rfl ⟨⟨_, rfl, .inr ⟨_, 164, _, _, rfl, rfl, rfl, rfl, rfl⟩, ?_⟩, trivial⟩
                          refine W.call (Mp := []) (partO_fc (h_c.mono ((((((((((hG22.trans hG33).trans hG221).trans hG222).trans hG232).trans hG283).trans hG284).trans hG294).trans hG297).trans hG309).trans hG316)) 0 _ ⟨by omega, by omega⟩) rfl (List.Perm.refl _) ?_
                          rintro v321 G320 Ms322 hG320 ho323
                          refine W.perm (pmC (List.Perm.refl _)).symm ?_
                          refine W.nil ⟨hG320, (List.nil_sublist _).cons_cons _, _, (List.nil_sublist _).cons_cons _, List.Sublist.refl _, ?_⟩
                          refine WD.anyG [19] (by kernel_rfl) rfl ⟨⟨_, rfl, .inr ⟨_, 164, _, _, rfl, rfl, rfl, rfl, rfl⟩, ?_⟩, trivial⟩
                          refine W.app (e := eInt) sl47 ty3 zr3 rfl by3 rfl rfl (ho323) ((hs319.mono hG320)) (pmC (List.Perm.refl _)) (by simp only [List.length_append, List.length_drop, List.length_take, List.length_cons, List.length_nil] at *; show (_ + _) * 8 ≤ _; first | omega | (simp; done) | (simp; omega)) (fun v324 Ms325 ho326 => ?_)
                          refine W.perm (pmC (List.Perm.refl _)).symm ?_
                          refine W.nil ⟨Le.rfl, (List.nil_sublist _).cons_cons _, _, (List.nil_sublist _).cons_cons _, List.Sublist.refl _, ?_⟩
                          refine WD.anyG [20] (by kernel_rfl) rfl ⟨⟨_, rfl, .inr ⟨_, 164, _, _, rfl, rfl, rfl, rfl, rfl⟩, ?_⟩, trivial⟩
                          refine W.giveO ho326 (pmC (List.Perm.refl _)) (fun G327 hG327 hv327 => ?_)
                          have q329 := hv327.form
                          refine match q329 with | ⟨_, _, e_328⟩ => ?_
                          subst e_328
                          refine W.qcall ((ints_fc (hv35.mono ((((((((((hG221.trans hG222).trans hG232).trans hG283).trans hG284).trans hG294).trans hG297).trans hG309).trans hG316).trans hG320).trans hG327)) hv327).mono (fun v _ _ _ hv => hv.trans (congrArg Value.bool (decide_eq_true (by rw [bremN_1 (by omega) (by omega) (by omega)]; simp))))) rfl ?_
                          refine W.nil ⟨hG327, (List.Sublist.refl _).cons_cons _, _, (List.Sublist.refl _).cons_cons _, List.Sublist.refl _, ?_⟩
                          refine WD.take 21 rfl rfl rfl (by kernel_rfl) (by kernel_rfl) (by kernel_rfl) (ok_pick_t rfl rfl) ?_
                          refine WD.take 22 rfl rfl rfl (by kernel_rfl) (by kernel_rfl) (by kernel_rfl) (ok_mv) ?_
                          refine WD.anyG [23] (by kernel_rfl) rfl ⟨⟨_, rfl, .inr ⟨_, 176, _, _, rfl, rfl, rfl, rfl, rfl⟩, ?_⟩, trivial⟩
                          refine W.qcall (awake15_fc) rfl ?_
                          refine W.nil ⟨Le.rfl, (List.Sublist.refl _).cons_cons _, _, (List.Sublist.refl _).cons_cons _, List.Sublist.refl _, ?_⟩
                          refine WD.take 24 rfl rfl rfl (by kernel_rfl) (by kernel_rfl) (by kernel_rfl) (ok_pick_t rfl rfl) ?_
                          refine WD.take 25 rfl rfl rfl (by kernel_rfl) (by kernel_rfl) (by kernel_rfl) (ok_as) ?_
                          refine WD.done (by kernel_rfl) (thn_n ?_)
                          refine WC.ret ?_
                          refine ⟨.inr rfl, [_], ⟨rfl, trivial⟩, [], List.nil_sublist _, ?_⟩
                          rfl

theorem bnodeGrows_fc {G : GH} {v_p : Value} {p : List Str} (h_p : SlR eStr G v_p p) {v_c : Value} {c : List Int} (h_c : SlR eInt G v_c c) (i : Int) (k : Str) (nv : Int) (hi : i64 i) (hv : i64 nv) :
    Fc Try.prog 5 [v_p, v_c, .int .i64 i, .string k.b, .int .i64 nv] G [] (fun v _ _ => v = .bool (true)) := by
  by_cases hn : i < 0
  · exact bgneg_fc h_p h_c i k nv hi hv hn
  · obtain ⟨n, rfl⟩ : ∃ n : Nat, i = (n : Int) := ⟨i.toNat, by omega⟩
    exact bgnat_fc h_p h_c n k nv hi hv
end Go.Proofs.Ytipdjeemjiimbaa
