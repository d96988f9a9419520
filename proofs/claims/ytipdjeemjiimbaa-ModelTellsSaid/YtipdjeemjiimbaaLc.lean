/- The law ModelTells is walked. -/
import Derived.Test.YtipdjeemjiimbaaW5
import Derived.Test.YtipdjeemjiimbaaW7
import Derived.Test.YtipdjeemjiimbaaA09
namespace Go.Proofs.Ytipdjeemjiimbaa
open Go Go.Fw Go.RowKit
set_option maxRecDepth 100000
set_option maxHeartbeats 1600000
set_option linter.unusedVariables false
set_option linter.unusedSimpArgs false
set_option linter.unnecessarySimpa false
theorem modelTells_fc {G : GH} {v_l : Value} {l : List Pair} (h_l : SlR ePair G v_l l) {v_m : Value} {m : List Pair} (h_m : SlR ePair G v_m m) (k : Str) :
    Fc Try.prog 8 [v_l, v_m, .string k.b] G [] (fun v _ _ => v = .bool (true)) := by
  obtain ⟨sa_l, sc_l, rfl⟩ := h_l.form
  obtain ⟨sa_m, sc_m, rfl⟩ := h_m.form
  have hl := h_l.len47
  have hlm := h_m.len47
  have hk := k.le
  refine Fc.intro (rs := [.tmp 6]) cl8 Try.func8 rfl Try.ntmps8 rfl rfl (fun w0 => ?_)
  refine WC.seq ?_
  refine WC.region ?_
  refine W.as ?_
  refine W.nil (thn_n ?_)
  refine WC.seq ?_
  refine WC.seq ?_
  refine WC.region ?_
  refine W.mv ?_
  refine W.qcall (longp_fc h_l _ (by omega)) rfl ?_
  refine W.ok (ok_not rfl) ?_
  refine W.mv ?_
  refine W.sp 14 rfl (fun h13 => ?_) (fun h13 => ?_)
  · refine W.no (dj := 14) rfl rfl h13 ?_
    refine W.no (dj := 14) rfl rfl h13 ?_
    refine W.no (dj := 14) rfl rfl h13 ?_
    refine W.ok (ok_pick_t rfl h13) ?_
    refine W.mv ?_
    refine W.no (dj := 19) rfl rfl rfl ?_
    refine W.no (dj := 19) rfl rfl rfl ?_
    refine W.no (dj := 19) rfl rfl rfl ?_
    refine W.ok (ok_pick_t rfl rfl) ?_
    refine W.nil (thn_n ?_)
    refine WC.cond_t rfl rfl ?_
    refine WC.seq ?_
    refine WC.region ?_
    refine W.qcall (awake09_fc) rfl ?_
    refine W.as ?_
    refine W.nil (thn_n ?_)
    refine WC.ret (thn_r ?_)
    refine ⟨.inr rfl, [_], ⟨rfl, trivial⟩, [], List.nil_sublist _, ?_⟩
    rfl
  · refine W.yes (dj := 14) rfl rfl h13 ?_
    refine W.mv ?_
    refine W.yes (dj := 14) rfl rfl h13 ?_
    refine W.qcall (longp_fc h_m _ (by omega)) rfl ?_
    refine W.yes (dj := 14) rfl rfl h13 ?_
    refine W.ok (ok_not rfl) ?_
    refine W.ok (ok_pick_f rfl h13) ?_
    refine W.mv ?_
    refine W.sp 19 rfl (fun h17 => ?_) (fun h17 => ?_)
    · refine W.no (dj := 19) rfl rfl h17 ?_
      refine W.no (dj := 19) rfl rfl h17 ?_
      refine W.no (dj := 19) rfl rfl h17 ?_
      refine W.ok (ok_pick_t rfl h17) ?_
      refine W.nil (thn_n ?_)
      refine WC.cond_t rfl rfl ?_
      refine WC.seq ?_
      refine WC.region ?_
      refine W.qcall (awake09_fc) rfl ?_
      refine W.as ?_
      refine W.nil (thn_n ?_)
      refine WC.ret (thn_r ?_)
      refine ⟨.inr rfl, [_], ⟨rfl, trivial⟩, [], List.nil_sublist _, ?_⟩
      rfl
    · refine W.yes (dj := 19) rfl rfl h17 ?_
      refine W.mv ?_
      refine W.yes (dj := 19) rfl rfl h17 ?_
      refine W.ok (ok_lenS st9 rfl) ?_
      refine W.yes (dj := 19) rfl rfl h17 ?_
      refine W.ok (ok_gtr rfl rfl) ?_
      refine W.ok (ok_pick_f rfl h17) ?_
      refine W.nil (thn_n ?_)
      refine WC.cond (b := _) rfl (fun h22 => ?_) (fun h22 => ?_)
      · have p22 := of_decide_eq_true h22
        refine WC.seq ?_
        refine WC.region ?_
        refine W.qcall (awake09_fc) rfl ?_
        refine W.as ?_
        refine W.nil (thn_n ?_)
        refine WC.ret (thn_r ?_)
        refine ⟨.inr rfl, [_], ⟨rfl, trivial⟩, [], List.nil_sublist _, ?_⟩
        rfl
      · have p22 := of_decide_eq_false h22
        refine WC.skip (thn_n ?_)
        refine WC.seq ?_
        refine WC.seq ?_
        refine WC.region ?_
        refine W.mv ?_
        refine W.qcall (mright9_fc h_l) rfl ?_
        refine W.mv ?_
        refine W.qcall (rightp_fc h_l) rfl ?_
        refine W.ok (ok_neqB bo4 rfl rfl) ?_
        refine W.mv ?_
        refine W.sp 30 rfl (fun h29 => ?_) (fun h29 => ?_)
        · simp at h29
        · refine W.yes (dj := 30) rfl rfl h29 ?_
          refine W.mv ?_
          refine W.yes (dj := 30) rfl rfl h29 ?_
          refine W.mv ?_
          refine W.yes (dj := 30) rfl rfl h29 ?_
          refine W.qcall (msame9_fc h_l h_m) rfl ?_
          refine W.yes (dj := 30) rfl rfl h29 ?_
          refine W.mv ?_
          refine W.yes (dj := 30) rfl rfl h29 ?_
          refine W.mv ?_
          refine W.yes (dj := 30) rfl rfl h29 ?_
          refine W.qcall (samep_fc h_l h_m) rfl ?_
          refine W.yes (dj := 30) rfl rfl h29 ?_
          refine W.ok (ok_neqB bo4 rfl rfl) ?_
          refine W.ok (ok_pick_f rfl h29) ?_
          refine W.mv ?_
          refine W.sp 39 rfl (fun h37 => ?_) (fun h37 => ?_)
          · simp at h37
          · refine W.yes (dj := 39) rfl rfl h37 ?_
            refine W.mv ?_
            refine W.yes (dj := 39) rfl rfl h37 ?_
            refine W.mv ?_
            refine W.yes (dj := 39) rfl rfl h37 ?_
            refine W.qcall (msame9_fc h_l h_l) rfl ?_
            refine W.yes (dj := 39) rfl rfl h37 ?_
            refine W.ok (ok_not rfl) ?_
            refine W.ok (ok_pick_f rfl h37) ?_
            refine W.nil (thn_n ?_)
            refine WC.cond (b := _) rfl (fun h43 => ?_) (fun h43 => ?_)
            · simp at h43
            · refine WC.skip (thn_n ?_)
              refine WC.seq ?_
              refine WC.seq ?_
              refine WC.region ?_
              refine W.mv ?_
              refine W.qcall (rightp_fc h_l) rfl ?_
              refine W.ok (ok_not rfl) ?_
              refine W.nil (thn_n ?_)
              refine WC.cond (b := _) rfl (fun h47 => ?_) (fun h47 => ?_)
              · refine WC.seq ?_
                refine WC.region ?_
                refine W.qcall (awake09_fc) rfl ?_
                refine W.as ?_
                refine W.nil (thn_n ?_)
                refine WC.ret (thn_r ?_)
                refine ⟨.inr rfl, [_], ⟨rfl, trivial⟩, [], List.nil_sublist _, ?_⟩
                rfl
              · have hP : PairsR l := by simpa using h47
                have hr := hP.srt
                refine WC.skip (thn_n ?_)
                refine WC.seq ?_
                refine WC.region ?_
                refine W.mv ?_
                refine W.mv ?_
                refine W.qcall (mget_fc h_l _ (by assumption)) rfl ?_
                refine W.mv ?_
                refine W.ok (ok_extract rfl rfl) ?_
                refine W.ok (ok_extract rfl rfl) ?_
                refine W.as ?_
                refine W.as ?_
                refine W.nil (thn_n ?_)
                refine WC.seq ?_
                refine WC.region ?_
                refine W.mv ?_
                refine W.mv ?_
                refine W.qcall (rget_fc h_l _) rfl ?_
                refine W.mv ?_
                refine W.ok (ok_extract rfl rfl) ?_
                refine W.ok (ok_extract rfl rfl) ?_
                refine W.as ?_
                refine W.as ?_
                refine W.nil (thn_n ?_)
                refine WC.seq ?_
                refine WC.region ?_
                refine W.mv ?_
                refine W.mv ?_
                refine W.ok (ok_eqlS rfl rfl) ?_
                refine W.mv ?_
                refine W.sp 64 rfl (fun h63 => ?_) (fun h63 => ?_)
                · have p63 := of_decide_eq_true h63
                  refine W.yes (dj := 64) rfl rfl h63 ?_
                  refine W.mv ?_
                  refine W.yes (dj := 64) rfl rfl h63 ?_
                  refine W.mv ?_
                  refine W.yes (dj := 64) rfl rfl h63 ?_
                  refine W.ok (ok_eqlB bo4 rfl rfl) ?_
                  refine W.ok (ok_pick_t rfl h63) ?_
                  refine W.mv ?_
                  refine W.sp 69 rfl (fun h67 => ?_) (fun h67 => ?_)
                  · refine W.yes (dj := 69) rfl rfl h67 ?_
                    refine W.qcall (awake09_fc) rfl ?_
                    refine W.ok (ok_pick_t rfl h67) ?_
                    refine W.as ?_
                    refine W.nil (thn_n ?_)
                    refine WC.ret ?_
                    refine ⟨.inr rfl, [_], ⟨rfl, trivial⟩, [], List.nil_sublist _, ?_⟩
                    rfl
                  · simp at h67
                · have p63 := of_decide_eq_false h63
                  exact absurd rfl p63

end Go.Proofs.Ytipdjeemjiimbaa
