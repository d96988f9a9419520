/- The law SweepParts is walked. -/
import Derived.Test.YtmpbiobidomiaaaGreatWz
import Derived.Test.YtmpbiobidomiaaaGreatA29
namespace Go.Proofs.YtmpbiobidomiaaaGreat
open Go Go.Fw Go.RowKit
set_option maxRecDepth 100000
set_option maxHeartbeats 1600000
set_option linter.unusedVariables false
set_option linter.unusedSimpArgs false
set_option linter.unnecessarySimpa false
theorem sweepParts_fc {G : GH} {v_l : Value} {l : List Pair} (h_l : SlR ePair G v_l l) (slo : Str) (shi : Str) (so : Bool) {v_ms : Value} {ms : List Msg} (h_ms : SlR eMsg G v_ms ms) (c : Str) (n : Int) :
    Fc Tryz.prog 3 [v_l, .agg #[.string slo.b, .string shi.b, .bool so], v_ms, .string c.b, .int .i64 n] G [] (fun v _ _ => v = .bool (true)) := by
 obtain ⟨sa_l, sc_l, rfl⟩ := h_l.form
 obtain ⟨sa_ms, sc_ms, rfl⟩ := h_ms.form
 have hl := h_l.len47
 have hlm := h_ms.len47
 have hc := c.le
 refine Fc.intro (rs := [.tmp 10]) cl3 Tryz.func3 rfl Tryz.ntmps3 rfl rfl (fun w0 => ?_)
 refine WC.seq ?_
 refine WC.region ?_
 refine W.box (L := [.string _, .string _, .bool _]) rfl rfl (fun b1 => ?_)
 refine W.as ?_
 refine W.nil (thn_n ?_)
 refine WC.seq ?_
 refine WC.seq ?_
 refine WC.region ?_
 refine W.mv ?_
 refine W.qcall (longp_fc h_l _ (by omega)) rfl ?_
 refine W.ok (ok_not rfl) ?_
 refine W.mv ?_
 refine W.sp 20 rfl (fun h19 => ?_) (fun h19 => ?_)
 ·refine W.no (dj := 20) rfl rfl h19 ?_
  refine W.no (dj := 20) rfl rfl h19 ?_
  refine W.no (dj := 20) rfl rfl h19 ?_
  refine W.ok (ok_pick_t rfl h19) ?_
  refine W.mv ?_
  refine W.no (dj := 25) rfl rfl rfl ?_
  refine W.no (dj := 25) rfl rfl rfl ?_
  refine W.no (dj := 25) rfl rfl rfl ?_
  refine W.ok (ok_pick_t rfl rfl) ?_
  refine W.mv ?_
  refine W.no (dj := 30) rfl rfl rfl ?_
  refine W.no (dj := 30) rfl rfl rfl ?_
  refine W.no (dj := 30) rfl rfl rfl ?_
  refine W.ok (ok_pick_t rfl rfl) ?_
  refine W.mv ?_
  refine W.no (dj := 35) rfl rfl rfl ?_
  refine W.no (dj := 35) rfl rfl rfl ?_
  refine W.no (dj := 35) rfl rfl rfl ?_
  refine W.no (dj := 35) rfl rfl rfl ?_
  refine W.no (dj := 35) rfl rfl rfl ?_
  refine W.ok (ok_pick_t rfl rfl) ?_
  refine W.nil (thn_n ?_)
  refine WC.cond_t rfl rfl ?_
  refine WC.seq ?_
  refine WC.region ?_
  refine W.qcall (awake29_fc) rfl ?_
  refine W.as ?_
  refine W.nil (thn_n ?_)
  refine WC.ret (thn_r ?_)
  refine ⟨.inr rfl, [_], ⟨rfl, trivial⟩, [], List.nil_sublist _, ?_⟩
  rfl
 ·refine W.yes (dj := 20) rfl rfl h19 ?_
  refine W.mv ?_
  refine W.yes (dj := 20) rfl rfl h19 ?_
  refine W.qcall (rightp_fc h_l) rfl ?_
  refine W.yes (dj := 20) rfl rfl h19 ?_
  refine W.ok (ok_not rfl) ?_
  refine W.ok (ok_pick_f rfl h19) ?_
  refine W.mv ?_
  refine W.sp 25 rfl (fun h23 => ?_) (fun h23 => ?_)
  ·refine W.no (dj := 25) rfl rfl h23 ?_
   refine W.no (dj := 25) rfl rfl h23 ?_
   refine W.no (dj := 25) rfl rfl h23 ?_
   refine W.ok (ok_pick_t rfl h23) ?_
   refine W.mv ?_
   refine W.no (dj := 30) rfl rfl rfl ?_
   refine W.no (dj := 30) rfl rfl rfl ?_
   refine W.no (dj := 30) rfl rfl rfl ?_
   refine W.ok (ok_pick_t rfl rfl) ?_
   refine W.mv ?_
   refine W.no (dj := 35) rfl rfl rfl ?_
   refine W.no (dj := 35) rfl rfl rfl ?_
   refine W.no (dj := 35) rfl rfl rfl ?_
   refine W.no (dj := 35) rfl rfl rfl ?_
   refine W.no (dj := 35) rfl rfl rfl ?_
   refine W.ok (ok_pick_t rfl rfl) ?_
   refine W.nil (thn_n ?_)
   refine WC.cond_t rfl rfl ?_
   refine WC.seq ?_
   refine WC.region ?_
   refine W.qcall (awake29_fc) rfl ?_
   refine W.as ?_
   refine W.nil (thn_n ?_)
   refine WC.ret (thn_r ?_)
   refine ⟨.inr rfl, [_], ⟨rfl, trivial⟩, [], List.nil_sublist _, ?_⟩
   rfl
  ·refine W.yes (dj := 25) rfl rfl h23 ?_
   refine W.mv ?_
   refine W.yes (dj := 25) rfl rfl h23 ?_
   refine W.qcall (few_fc h_ms _ (by omega)) rfl ?_
   refine W.yes (dj := 25) rfl rfl h23 ?_
   refine W.ok (ok_not rfl) ?_
   refine W.ok (ok_pick_f rfl h23) ?_
   refine W.mv ?_
   refine W.sp 30 rfl (fun h28 => ?_) (fun h28 => ?_)
   ·refine W.no (dj := 30) rfl rfl h28 ?_
    refine W.no (dj := 30) rfl rfl h28 ?_
    refine W.no (dj := 30) rfl rfl h28 ?_
    refine W.ok (ok_pick_t rfl h28) ?_
    refine W.mv ?_
    refine W.no (dj := 35) rfl rfl rfl ?_
    refine W.no (dj := 35) rfl rfl rfl ?_
    refine W.no (dj := 35) rfl rfl rfl ?_
    refine W.no (dj := 35) rfl rfl rfl ?_
    refine W.no (dj := 35) rfl rfl rfl ?_
    refine W.ok (ok_pick_t rfl rfl) ?_
    refine W.nil (thn_n ?_)
    refine WC.cond_t rfl rfl ?_
    refine WC.seq ?_
    refine WC.region ?_
    refine W.qcall (awake29_fc) rfl ?_
    refine W.as ?_
    refine W.nil (thn_n ?_)
    refine WC.ret (thn_r ?_)
    refine ⟨.inr rfl, [_], ⟨rfl, trivial⟩, [], List.nil_sublist _, ?_⟩
    rfl
   ·refine W.yes (dj := 30) rfl rfl h28 ?_
    refine W.mv ?_
    refine W.yes (dj := 30) rfl rfl h28 ?_
    refine W.qcall (mall_fc h_ms) rfl ?_
    refine W.yes (dj := 30) rfl rfl h28 ?_
    refine W.ok (ok_not rfl) ?_
    refine W.ok (ok_pick_f rfl h28) ?_
    refine W.mv ?_
    refine W.sp 35 rfl (fun h33 => ?_) (fun h33 => ?_)
    ·refine W.no (dj := 35) rfl rfl h33 ?_
     refine W.no (dj := 35) rfl rfl h33 ?_
     refine W.no (dj := 35) rfl rfl h33 ?_
     refine W.no (dj := 35) rfl rfl h33 ?_
     refine W.no (dj := 35) rfl rfl h33 ?_
     refine W.ok (ok_pick_t rfl h33) ?_
     refine W.nil (thn_n ?_)
     refine WC.cond_t rfl rfl ?_
     refine WC.seq ?_
     refine WC.region ?_
     refine W.qcall (awake29_fc) rfl ?_
     refine W.as ?_
     refine W.nil (thn_n ?_)
     refine WC.ret (thn_r ?_)
     refine ⟨.inr rfl, [_], ⟨rfl, trivial⟩, [], List.nil_sublist _, ?_⟩
     rfl
    ·refine W.yes (dj := 35) rfl rfl h33 ?_
     refine W.ok (ok_loadB (i := 0) (vs := [.string _, .string _, .bool _]) ty24 rfl rfl rfl rfl (by simp)) ?_
     refine W.yes (dj := 35) rfl rfl h33 ?_
     refine W.ok (ok_loadB (i := 0) (vs := [.string _, .string _, .bool _]) ty24 rfl rfl rfl rfl (by simp)) ?_
     refine W.yes (dj := 35) rfl rfl h33 ?_
     refine W.mv ?_
     refine W.yes (dj := 35) rfl rfl h33 ?_
     refine W.qcall (short_fc _ _ _ _ _ _ _ _) rfl ?_
     refine W.yes (dj := 35) rfl rfl h33 ?_
     refine W.ok (ok_not rfl) ?_
     refine W.ok (ok_pick_f rfl h33) ?_
     refine W.nil (thn_n ?_)
     refine WC.cond (b := _) rfl (fun h40 => ?_) (fun h40 => ?_)
     ·refine WC.seq ?_
      refine WC.region ?_
      refine W.qcall (awake29_fc) rfl ?_
      refine W.as ?_
      refine W.nil (thn_n ?_)
      refine WC.ret (thn_r ?_)
      refine ⟨.inr rfl, [_], ⟨rfl, trivial⟩, [], List.nil_sublist _, ?_⟩
      rfl
     ·have hP : PairsR l := by simpa using h23
      have hR : MsgsR ms := by simpa using h33
      have q1 := longG_len Pair.w_pos (l := l) (n := 0) (m := 2000) (by simpa using h19)
      have q2 := longG_len Msg.w_pos (l := ms) (n := 0) (m := 2000) (by simpa using h28)
      have q3 : longG Pair.w l 0 2000 ≤ 2000 := by simpa using h19
      have q4 : longG Msg.w ms 0 2000 ≤ 2000 := by simpa using h28
      have hm := hR.sizes
      have hn : l.length + ms.length ≤ 1000000 := by omega
      have hs300 : slo.b.size ≤ 300 := by simp at h40; omega
      refine WC.skip (thn_n ?_)
      refine WC.seq ?_
      refine WC.region ?_
      refine W.mv ?_
      refine W.ok (ok_loadB (i := 0) (vs := [.string _, .string _, .bool _]) ty24 rfl rfl rfl rfl (by simp)) ?_
      refine W.mv ?_
      refine W.mv ?_
      refine W.mv ?_
      refine W.call (Mp := []) (spart_fc h_l slo shi so h_ms c n hP hn hm (by omega)) rfl (List.Perm.refl _) ?_
      intro _ G2 _ hG2 q4
      refine match q4 with | ⟨e_5, _, e_6, _, e_7, hv3⟩ => ?_
      subst e_5
      subst e_6
      subst e_7
      have q9 := hv3.form
      refine match q9 with | ⟨sa_hv3, sc_hv3, e_8⟩ => ?_
      subst e_8
      refine W.mv ?_
      refine W.ok (ok_extract rfl rfl) ?_
      refine W.ok (ok_extract rfl rfl) ?_
      refine W.ok (ok_extract rfl rfl) ?_
      refine W.as ?_
      refine W.as ?_
      refine W.as ?_
      refine W.nil (thn_n ?_)
      refine WC.seq ?_
      refine WC.region ?_
      refine W.mv ?_
      refine W.ok (ok_loadB (i := 0) (vs := [.string _, .string _, .bool _]) ty24 rfl rfl rfl rfl (by simp)) ?_
      refine W.mv ?_
      refine W.mv ?_
      refine W.mv ?_
      refine W.call (Mp := []) (rpart_fc (h_l.mono hG2) slo shi so (h_ms.mono hG2) c n hP hn hm (by omega)) rfl (List.Perm.refl _) ?_
      intro _ G10 _ hG10 q12
      refine match q12 with | ⟨e_13, _, e_14, _, e_15, hv11⟩ => ?_
      subst e_13
      subst e_14
      subst e_15
      have q17 := hv11.form
      refine match q17 with | ⟨sa_hv11, sc_hv11, e_16⟩ => ?_
      subst e_16
      refine W.mv ?_
      refine W.ok (ok_extract rfl rfl) ?_
      refine W.ok (ok_extract rfl rfl) ?_
      refine W.ok (ok_extract rfl rfl) ?_
      refine W.as ?_
      refine W.as ?_
      refine W.as ?_
      refine W.nil (thn_n ?_)
      refine WC.seq ?_
      refine WC.region ?_
      refine W.mv ?_
      refine W.mv ?_
      refine W.qcall ((samep_fc (hv3.mono hG10) hv11).mono (fun v _ _ _ hv => hv.trans (congrArg Value.bool (decide_eq_true rfl)))) rfl ?_
      refine W.mv ?_
      refine W.yes (dj := 66) rfl rfl rfl ?_
      refine W.mv ?_
      refine W.yes (dj := 66) rfl rfl rfl ?_
      refine W.mv ?_
      refine W.yes (dj := 66) rfl rfl rfl ?_
      refine W.ok (ok_eqlS rfl rfl) ?_
      refine W.ok (ok_pick_t rfl rfl) ?_
      refine W.mv ?_
      refine W.sp 71 rfl (fun h69 => ?_) (fun h69 => ?_)
      ·have p69 := of_decide_eq_true h69
       refine W.yes (dj := 71) rfl rfl h69 ?_
       refine W.mv ?_
       refine W.yes (dj := 71) rfl rfl h69 ?_
       refine W.mv ?_
       refine W.yes (dj := 71) rfl rfl h69 ?_
       refine W.ok (ok_eqlB bo4 rfl rfl) ?_
       refine W.ok (ok_pick_t rfl h69) ?_
       refine W.mv ?_
       refine W.sp 76 rfl (fun h74 => ?_) (fun h74 => ?_)
       ·refine W.yes (dj := 76) rfl rfl h74 ?_
        refine W.qcall (awake29_fc) rfl ?_
        refine W.ok (ok_pick_t rfl h74) ?_
        refine W.as ?_
        refine W.nil (thn_n ?_)
        refine WC.ret ?_
        refine ⟨.inr rfl, [_], ⟨rfl, trivial⟩, [], List.nil_sublist _, ?_⟩
        rfl
       ·simp at h74
      ·have p69 := of_decide_eq_false h69
       exact absurd rfl p69

end Go.Proofs.YtmpbiobidomiaaaGreat
