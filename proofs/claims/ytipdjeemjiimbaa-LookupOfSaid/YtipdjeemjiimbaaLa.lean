/- The law LookupOf is walked. -/
import Derived.Test.YtipdjeemjiimbaaW6
import Derived.Test.YtipdjeemjiimbaaW7
import Derived.Test.YtipdjeemjiimbaaW8
import Derived.Test.YtipdjeemjiimbaaW9
import Derived.Test.YtipdjeemjiimbaaA28
namespace Go.Proofs.Ytipdjeemjiimbaa
open Go Go.Fw Go.RowKit
set_option maxRecDepth 100000
set_option maxHeartbeats 1600000
set_option linter.unusedVariables false
set_option linter.unusedSimpArgs false
set_option linter.unnecessarySimpa false
theorem lookupOf_fc {G : GH} {v_l : Value} {l : List Pair} (h_l : SlR ePair G v_l l) (k : Str) {v_ms : Value} {ms : List Msg} (h_ms : SlR eMsg G v_ms ms) :
    Fc Try.prog 3 [v_l, .string k.b, v_ms] G [] (fun v _ _ => v = .bool (true)) := by
  obtain ⟨sa_l, sc_l, rfl⟩ := h_l.form
  obtain ⟨sa_ms, sc_ms, rfl⟩ := h_ms.form
  have hl := h_l.len47
  have hlm := h_ms.len47
  have hk := k.le
  refine Fc.intro (rs := [.tmp 6]) cl3 Try.func3 rfl Try.ntmps3 rfl rfl (fun w0 => ?_)
  refine WC.seq ?_
  refine WC.region ?_
  refine W.as ?_
  refine W.nil (thn_n ?_)
  refine WC.seq ?_
  refine WC.seq ?_
  refine WC.region ?_
  refine W.mv ?_
  refine W.qcall (longp_fc h_l _ (by omega)) rfl ?_
  refine W.ok (ok_not rfl) ?_
  refine W.mv ?_
  refine W.sp 14 rfl (fun h13 => ?_) (fun h13 => ?_)
  · refine W.no (dj := 14) rfl rfl h13 ?_
    refine W.no (dj := 14) rfl rfl h13 ?_
    refine W.no (dj := 14) rfl rfl h13 ?_
    refine W.ok (ok_pick_t rfl h13) ?_
    refine W.mv ?_
    refine W.no (dj := 19) rfl rfl rfl ?_
    refine W.no (dj := 19) rfl rfl rfl ?_
    refine W.no (dj := 19) rfl rfl rfl ?_
    refine W.ok (ok_pick_t rfl rfl) ?_
    refine W.mv ?_
    refine W.no (dj := 24) rfl rfl rfl ?_
    refine W.no (dj := 24) rfl rfl rfl ?_
    refine W.no (dj := 24) rfl rfl rfl ?_
    refine W.ok (ok_pick_t rfl rfl) ?_
    refine W.mv ?_
    refine W.no (dj := 29) rfl rfl rfl ?_
    refine W.no (dj := 29) rfl rfl rfl ?_
    refine W.no (dj := 29) rfl rfl rfl ?_
    refine W.ok (ok_pick_t rfl rfl) ?_
    refine W.nil (thn_n ?_)
    refine WC.cond_t rfl rfl ?_
    refine WC.seq ?_
    refine WC.region ?_
    refine W.qcall (awake28_fc) rfl ?_
    refine W.as ?_
    refine W.nil (thn_n ?_)
    refine WC.ret (thn_r ?_)
    refine ⟨.inr rfl, [_], ⟨rfl, trivial⟩, [], List.nil_sublist _, ?_⟩
    rfl
  · refine W.yes (dj := 14) rfl rfl h13 ?_
    refine W.mv ?_
    refine W.yes (dj := 14) rfl rfl h13 ?_
    refine W.qcall (rightp_fc h_l) rfl ?_
    refine W.yes (dj := 14) rfl rfl h13 ?_
    refine W.ok (ok_not rfl) ?_
    refine W.ok (ok_pick_f rfl h13) ?_
    refine W.mv ?_
    refine W.sp 19 rfl (fun h17 => ?_) (fun h17 => ?_)
    · refine W.no (dj := 19) rfl rfl h17 ?_
      refine W.no (dj := 19) rfl rfl h17 ?_
      refine W.no (dj := 19) rfl rfl h17 ?_
      refine W.ok (ok_pick_t rfl h17) ?_
      refine W.mv ?_
      refine W.no (dj := 24) rfl rfl rfl ?_
      refine W.no (dj := 24) rfl rfl rfl ?_
      refine W.no (dj := 24) rfl rfl rfl ?_
      refine W.ok (ok_pick_t rfl rfl) ?_
      refine W.mv ?_
      refine W.no (dj := 29) rfl rfl rfl ?_
      refine W.no (dj := 29) rfl rfl rfl ?_
      refine W.no (dj := 29) rfl rfl rfl ?_
      refine W.ok (ok_pick_t rfl rfl) ?_
      refine W.nil (thn_n ?_)
      refine WC.cond_t rfl rfl ?_
      refine WC.seq ?_
      refine WC.region ?_
      refine W.qcall (awake28_fc) rfl ?_
      refine W.as ?_
      refine W.nil (thn_n ?_)
      refine WC.ret (thn_r ?_)
      refine ⟨.inr rfl, [_], ⟨rfl, trivial⟩, [], List.nil_sublist _, ?_⟩
      rfl
    · refine W.yes (dj := 19) rfl rfl h17 ?_
      refine W.mv ?_
      refine W.yes (dj := 19) rfl rfl h17 ?_
      refine W.qcall (few_fc h_ms _ (by omega)) rfl ?_
      refine W.yes (dj := 19) rfl rfl h17 ?_
      refine W.ok (ok_not rfl) ?_
      refine W.ok (ok_pick_f rfl h17) ?_
      refine W.mv ?_
      refine W.sp 24 rfl (fun h22 => ?_) (fun h22 => ?_)
      · refine W.no (dj := 24) rfl rfl h22 ?_
        refine W.no (dj := 24) rfl rfl h22 ?_
        refine W.no (dj := 24) rfl rfl h22 ?_
        refine W.ok (ok_pick_t rfl h22) ?_
        refine W.mv ?_
        refine W.no (dj := 29) rfl rfl rfl ?_
        refine W.no (dj := 29) rfl rfl rfl ?_
        refine W.no (dj := 29) rfl rfl rfl ?_
        refine W.ok (ok_pick_t rfl rfl) ?_
        refine W.nil (thn_n ?_)
        refine WC.cond_t rfl rfl ?_
        refine WC.seq ?_
        refine WC.region ?_
        refine W.qcall (awake28_fc) rfl ?_
        refine W.as ?_
        refine W.nil (thn_n ?_)
        refine WC.ret (thn_r ?_)
        refine ⟨.inr rfl, [_], ⟨rfl, trivial⟩, [], List.nil_sublist _, ?_⟩
        rfl
      · refine W.yes (dj := 24) rfl rfl h22 ?_
        refine W.mv ?_
        refine W.yes (dj := 24) rfl rfl h22 ?_
        refine W.qcall (mall_fc h_ms) rfl ?_
        refine W.yes (dj := 24) rfl rfl h22 ?_
        refine W.ok (ok_not rfl) ?_
        refine W.ok (ok_pick_f rfl h22) ?_
        refine W.mv ?_
        refine W.sp 29 rfl (fun h27 => ?_) (fun h27 => ?_)
        · refine W.no (dj := 29) rfl rfl h27 ?_
          refine W.no (dj := 29) rfl rfl h27 ?_
          refine W.no (dj := 29) rfl rfl h27 ?_
          refine W.ok (ok_pick_t rfl h27) ?_
          refine W.nil (thn_n ?_)
          refine WC.cond_t rfl rfl ?_
          refine WC.seq ?_
          refine WC.region ?_
          refine W.qcall (awake28_fc) rfl ?_
          refine W.as ?_
          refine W.nil (thn_n ?_)
          refine WC.ret (thn_r ?_)
          refine ⟨.inr rfl, [_], ⟨rfl, trivial⟩, [], List.nil_sublist _, ?_⟩
          rfl
        · refine W.yes (dj := 29) rfl rfl h27 ?_
          refine W.mv ?_
          refine W.yes (dj := 29) rfl rfl h27 ?_
          refine W.ok (ok_lenS st9 rfl) ?_
          refine W.yes (dj := 29) rfl rfl h27 ?_
          refine W.ok (ok_gtr rfl rfl) ?_
          refine W.ok (ok_pick_f rfl h27) ?_
          refine W.nil (thn_n ?_)
          refine WC.cond (b := _) rfl (fun h32 => ?_) (fun h32 => ?_)
          · have p32 := of_decide_eq_true h32
            refine WC.seq ?_
            refine WC.region ?_
            refine W.qcall (awake28_fc) rfl ?_
            refine W.as ?_
            refine W.nil (thn_n ?_)
            refine WC.ret (thn_r ?_)
            refine ⟨.inr rfl, [_], ⟨rfl, trivial⟩, [], List.nil_sublist _, ?_⟩
            rfl
          · have p32 := of_decide_eq_false h32
            have hP : PairsR l := by simpa using h17
            have hR : MsgsR ms := by simpa using h27
            have q1 := longG_len Pair.w_pos (l := l) (n := 0) (m := 2000) (by simpa using h13)
            have q2 := longG_len Msg.w_pos (l := ms) (n := 0) (m := 2000) (by simpa using h22)
            have q3 : longG Pair.w l 0 2000 ≤ 2000 := by simpa using h13
            have q4 : longG Msg.w ms 0 2000 ≤ 2000 := by simpa using h22
            have hm := hR.sizes
            have hm2 : ∀ m ∈ ms, m.key.b.size < 140737488355328 ∧ m.val.b.size ≤ 16 := fun m h => ⟨by have := (hm m h).1; omega, (hm m h).2⟩
            have hg := getN_fold (k := k) (l := l) (ms := ms) (fun m h => by have := hR.kinds m h; exact ⟨(hm2 m h).1, this⟩)
            have hn : l.length + ms.length ≤ 1000000 := by omega
            refine WC.skip (thn_n ?_)
            refine WC.seq ?_
            refine WC.region ?_
            refine W.mv ?_
            refine W.mv ?_
            refine W.mv ?_
            refine W.qcall (lookof_fc h_l _ h_ms (by assumption) (by assumption)) rfl ?_
            refine W.mv ?_
            refine W.ok (ok_extract rfl rfl) ?_
            refine W.ok (ok_extract rfl rfl) ?_
            refine W.as ?_
            refine W.as ?_
            refine W.nil (thn_n ?_)
            refine WC.seq ?_
            refine WC.region ?_
            refine W.mv ?_
            refine W.mv ?_
            refine W.call (Mp := []) (rfold_fc h_l h_ms (by first | assumption | omega | (simp; omega) | (exact PairsR.fold (by assumption) (by assumption))) (by first | assumption | omega | (simp; omega) | (exact PairsR.fold (by assumption) (by assumption))) (by first | assumption | omega | (simp; omega) | (exact PairsR.fold (by assumption) (by assumption)))) rfl (List.Perm.refl _) ?_
            intro _ G1 _ hG1 q3
            refine match q3 with | ⟨e_4, _, e_5, hv2⟩ => ?_
            subst e_4
            subst e_5
            have q7 := hv2.form
            refine match q7 with | ⟨sa_hv2, sc_hv2, e_6⟩ => ?_
            subst e_6
            refine W.mv ?_
            refine W.qcall (rget_fc hv2 _) rfl ?_
            refine W.mv ?_
            refine W.ok (ok_extract rfl rfl) ?_
            refine W.ok (ok_extract rfl rfl) ?_
            refine W.as ?_
            refine W.as ?_
            refine W.nil (thn_n ?_)
            refine WC.seq ?_
            refine WC.region ?_
            refine W.mv ?_
            refine W.mv ?_
            refine W.ok (ok_eqlS rfl rfl) ?_
            refine W.mv ?_
            refine W.sp 53 rfl (fun h52 => ?_) (fun h52 => ?_)
            · have p52 := of_decide_eq_true h52
              refine W.yes (dj := 53) rfl rfl h52 ?_
              refine W.mv ?_
              refine W.yes (dj := 53) rfl rfl h52 ?_
              refine W.mv ?_
              refine W.yes (dj := 53) rfl rfl h52 ?_
              refine W.ok (ok_eqlB bo4 rfl rfl) ?_
              refine W.ok (ok_pick_t rfl h52) ?_
              refine W.mv ?_
              refine W.sp 58 rfl (fun h56 => ?_) (fun h56 => ?_)
              · refine W.yes (dj := 58) rfl rfl h56 ?_
                refine W.qcall (awake28_fc) rfl ?_
                refine W.ok (ok_pick_t rfl h56) ?_
                refine W.as ?_
                refine W.nil (thn_n ?_)
                refine WC.ret ?_
                refine ⟨.inr rfl, [_], ⟨rfl, trivial⟩, [], List.nil_sublist _, ?_⟩
                rfl
              · rw [hg] at h56; simp at h56
            · have p52 := of_decide_eq_false h52
              exact absurd (by rw [hg]) p52

end Go.Proofs.Ytipdjeemjiimbaa
