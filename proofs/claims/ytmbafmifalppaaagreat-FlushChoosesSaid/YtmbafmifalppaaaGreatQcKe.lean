/- The law FlushChooses is walked. -/
import Derived.Test.YtmbafmifalppaaaGreatQcVo
import Derived.Test.YtmbafmifalppaaaGreatQcA31
set_option maxRecDepth 100000
set_option maxHeartbeats 1600000
set_option linter.unusedVariables false
set_option linter.unusedSimpArgs false
set_option linter.unnecessarySimpa false
namespace Go.Proofs.YtmbafmifalppaaaGreat
open Go Go.Fw Go.RowKit
theorem flushChooses_fc {G : GH} (cf : Int) (cl : Int) (cb : Int) (cs : Int) (cr : Int) {cs_p : List Value} {p : Nd} (h_p : NodeC G cs_p p) {cs_k : List Value} {k : Nd} (h_k : NodeC G cs_k k) (i : Int) (cur : Str) (hcb : i64 cb) (hi : i64 i) :
    Fc Tryz.prog 5 [.agg #[.int .i64 cf, .int .i64 cl, .int .i64 cb, .int .i64 cs, .int .i64 cr], .agg (List.toArray cs_p), .agg (List.toArray cs_k), .int .i64 i, .string cur.b] G [] (fun v _ _ => v = .bool (true)) := by
 obtain ⟨pa_p, pc_p, ka_p, kc_p, ma_p, mc_p, ra_p, rc_p, rfl, hp_p, hk_p, hm_p, hr_p, hok_p⟩ := h_p
 obtain ⟨pa_k, pc_k, ka_k, kc_k, ma_k, mc_k, ra_k, rc_k, rfl, hp_k, hk_k, hm_k, hr_k, hok_k⟩ := h_k
 have hcb2 := hcb.2
 obtain ⟨hi1, hi2⟩ := hi
 obtain ⟨hlv1, hlv2⟩ := hok_p.2.1
 have hlk := hk_p.len47
 have hcl := cur.le
 refine Fc.intro (rs := [.tmp 10]) cl5 Tryz.func5 rfl Tryz.ntmps5 rfl rfl (fun w0 => ?_)
 refine WC.seq ?_
 refine WC.region ?_
 refine W.box (L := [.int .i64 _, .int .i64 _, .int .i64 _, .int .i64 _, .int .i64 _]) rfl rfl (fun b1 => ?_)
 refine W.box (L := [.int .i64 _, .int .i64 _, .slice _ _ _, .slice _ _ _, .string _, .bool _, .int .i64 _, .int .i64 _, .slice _ _ _, .slice _ _ _]) rfl rfl (fun b2 => ?_)
 refine W.box (L := [.int .i64 _, .int .i64 _, .slice _ _ _, .slice _ _ _, .string _, .bool _, .int .i64 _, .int .i64 _, .slice _ _ _, .slice _ _ _]) rfl rfl (fun b3 => ?_)
 refine W.as ?_
 refine W.nil (thn_n ?_)
 refine WC.seq ?_
 refine WC.seq ?_
 refine WC.region ?_
 refine W.ok (ok_loadB (i := 1) (vs := [.int .i64 _, .int .i64 _, .slice _ _ _, .slice _ _ _, .string _, .bool _, .int .i64 _, .int .i64 _, .slice _ _ _, .slice _ _ _]) ty43 rfl rfl rfl rfl (by simp)) ?_
 refine W.ok (ok_loadB (i := 0) (vs := [.int .i64 _, .int .i64 _, .slice _ _ _, .slice _ _ _, .string _, .bool _, .int .i64 _, .int .i64 _, .slice _ _ _, .slice _ _ _]) ty43 rfl rfl rfl rfl (by simp)) ?_
 refine W.lit (e := eNode) (l := [p, k]) (css := [[.int .i64 _, .int .i64 _, .slice _ _ _, .slice _ _ _, .string _, .bool _, .int .i64 _, .int .i64 _, .slice _ _ _, .slice _ _ _], [.int .i64 _, .int .i64 _, .slice _ _ _, .slice _ _ _, .string _, .bool _, .int .i64 _, .int .i64 _, .slice _ _ _, .slice _ _ _]]) sl24 ty43 zr43 rfl rfl rfl rfl rfl rfl ⟨⟨_, _, _, _, _, _, _, _, rfl, hp_p, hk_p, hm_p, hr_p, hok_p⟩, ⟨_, _, _, _, _, _, _, _, rfl, hp_k, hk_k, hm_k, hr_k, hok_k⟩, trivial⟩ (fun bl4 G4 hG4 hv4 => ?_)
 refine W.qcall (light_fc hv4 _ _ (by omega)) rfl ?_
 refine W.ok (ok_not rfl) ?_
 refine W.mv ?_
 refine W.sp 20 rfl (fun h19 => ?_) (fun h19 => ?_)
 ·refine W.no (dj := 20) rfl rfl h19 ?_
  refine W.no (dj := 20) rfl rfl h19 ?_
  refine W.no (dj := 20) rfl rfl h19 ?_
  refine W.no (dj := 20) rfl rfl h19 ?_
  refine W.ok (ok_pick_t rfl h19) ?_
  refine W.mv ?_
  refine W.no (dj := 26) rfl rfl rfl ?_
  refine W.no (dj := 26) rfl rfl rfl ?_
  refine W.no (dj := 26) rfl rfl rfl ?_
  refine W.no (dj := 26) rfl rfl rfl ?_
  refine W.ok (ok_pick_t rfl rfl) ?_
  refine W.mv ?_
  refine W.no (dj := 32) rfl rfl rfl ?_
  refine W.no (dj := 32) rfl rfl rfl ?_
  refine W.no (dj := 32) rfl rfl rfl ?_
  refine W.ok (ok_pick_t rfl rfl) ?_
  refine W.nil (thn_n ?_)
  refine WC.cond_t rfl rfl ?_
  refine WC.seq ?_
  refine WC.region ?_
  refine W.qcall (awake31_fc) rfl ?_
  refine W.as ?_
  refine W.nil (thn_n ?_)
  refine WC.ret (thn_r ?_)
  refine ⟨.inr rfl, [_], ⟨rfl, trivial⟩, [], List.nil_sublist _, ?_⟩
  rfl
 ·have hL : Light [p, k] 2 2000 := by simpa using h19
  obtain ⟨hsp9, hsk9⟩ := light_two hL
  refine W.yes (dj := 20) rfl rfl h19 ?_
  refine W.ok (ok_loadB (i := 2) (vs := [.int .i64 _, .int .i64 _, .int .i64 _, .int .i64 _, .int .i64 _]) ty23 rfl rfl rfl rfl (by simp)) ?_
  refine W.yes (dj := 20) rfl rfl h19 ?_
  refine W.ok (ok_loadB (i := 1) (vs := [.int .i64 _, .int .i64 _, .slice _ _ _, .slice _ _ _, .string _, .bool _, .int .i64 _, .int .i64 _, .slice _ _ _, .slice _ _ _]) ty43 rfl rfl rfl rfl (by simp)) ?_
  refine W.yes (dj := 20) rfl rfl h19 ?_
  refine W.qcall (nright_fc cf cl cb cs cr (n := p) ⟨_, _, _, _, _, _, _, _, rfl, (hp_p.mono hG4), (hk_p.mono hG4), (hm_p.mono hG4), (hr_p.mono hG4), hok_p⟩) rfl ?_
  refine W.yes (dj := 20) rfl rfl h19 ?_
  refine W.ok (ok_not rfl) ?_
  refine W.ok (ok_pick_f rfl h19) ?_
  refine W.mv ?_
  refine W.sp 26 rfl (fun h24 => ?_) (fun h24 => ?_)
  ·refine W.no (dj := 26) rfl rfl h24 ?_
   refine W.no (dj := 26) rfl rfl h24 ?_
   refine W.no (dj := 26) rfl rfl h24 ?_
   refine W.no (dj := 26) rfl rfl h24 ?_
   refine W.ok (ok_pick_t rfl h24) ?_
   refine W.mv ?_
   refine W.no (dj := 32) rfl rfl rfl ?_
   refine W.no (dj := 32) rfl rfl rfl ?_
   refine W.no (dj := 32) rfl rfl rfl ?_
   refine W.ok (ok_pick_t rfl rfl) ?_
   refine W.nil (thn_n ?_)
   refine WC.cond_t rfl rfl ?_
   refine WC.seq ?_
   refine WC.region ?_
   refine W.qcall (awake31_fc) rfl ?_
   refine W.as ?_
   refine W.nil (thn_n ?_)
   refine WC.ret (thn_r ?_)
   refine ⟨.inr rfl, [_], ⟨rfl, trivial⟩, [], List.nil_sublist _, ?_⟩
   rfl
  ·have g23 : p.R cf cl cb := by simpa using h24
   have hcp : ChoosePre p := choose_pre (c := (⟨cf, cl, cb, cs, cr⟩ : Cfg)) g23 hsp9
   refine W.yes (dj := 26) rfl rfl h24 ?_
   refine W.ok (ok_loadB (i := 2) (vs := [.int .i64 _, .int .i64 _, .int .i64 _, .int .i64 _, .int .i64 _]) ty23 rfl rfl rfl rfl (by simp)) ?_
   refine W.yes (dj := 26) rfl rfl h24 ?_
   refine W.ok (ok_loadB (i := 0) (vs := [.int .i64 _, .int .i64 _, .slice _ _ _, .slice _ _ _, .string _, .bool _, .int .i64 _, .int .i64 _, .slice _ _ _, .slice _ _ _]) ty43 rfl rfl rfl rfl (by simp)) ?_
   refine W.yes (dj := 26) rfl rfl h24 ?_
   refine W.qcall (nright_fc cf cl cb cs cr (n := k) ⟨_, _, _, _, _, _, _, _, rfl, (hp_k.mono hG4), (hk_k.mono hG4), (hm_k.mono hG4), (hr_k.mono hG4), hok_k⟩) rfl ?_
   refine W.yes (dj := 26) rfl rfl h24 ?_
   refine W.ok (ok_not rfl) ?_
   refine W.ok (ok_pick_f rfl h24) ?_
   refine W.mv ?_
   refine W.sp 32 rfl (fun h30 => ?_) (fun h30 => ?_)
   ·refine W.no (dj := 32) rfl rfl h30 ?_
    refine W.no (dj := 32) rfl rfl h30 ?_
    refine W.no (dj := 32) rfl rfl h30 ?_
    refine W.ok (ok_pick_t rfl h30) ?_
    refine W.nil (thn_n ?_)
    refine WC.cond_t rfl rfl ?_
    refine WC.seq ?_
    refine WC.region ?_
    refine W.qcall (awake31_fc) rfl ?_
    refine W.as ?_
    refine W.nil (thn_n ?_)
    refine WC.ret (thn_r ?_)
    refine ⟨.inr rfl, [_], ⟨rfl, trivial⟩, [], List.nil_sublist _, ?_⟩
    rfl
   ·have g29 : k.R cf cl cb := by simpa using h30
    refine W.yes (dj := 32) rfl rfl h30 ?_
    refine W.mv ?_
    refine W.yes (dj := 32) rfl rfl h30 ?_
    refine W.ok (ok_lenS st9 rfl) ?_
    refine W.yes (dj := 32) rfl rfl h30 ?_
    refine W.ok (ok_gtr rfl rfl) ?_
    refine W.ok (ok_pick_f rfl h30) ?_
    refine W.nil (thn_n ?_)
    refine WC.cond (b := _) rfl (fun h35 => ?_) (fun h35 => ?_)
    ·have p35 := of_decide_eq_true h35
     try dsimp only at p35
     refine WC.seq ?_
     refine WC.region ?_
     refine W.qcall (awake31_fc) rfl ?_
     refine W.as ?_
     refine W.nil (thn_n ?_)
     refine WC.ret (thn_r ?_)
     refine ⟨.inr rfl, [_], ⟨rfl, trivial⟩, [], List.nil_sublist _, ?_⟩
     rfl
    ·have p35 := of_decide_eq_false h35
     try dsimp only at p35
     refine WC.skip (thn_n ?_)
     refine WC.seq ?_
     refine WC.region ?_
     refine W.ok (ok_loadB (i := 2) (vs := [.int .i64 _, .int .i64 _, .int .i64 _, .int .i64 _, .int .i64 _]) ty23 rfl rfl rfl rfl (by simp)) ?_
     refine W.ok (ok_loadB (i := 1) (vs := [.int .i64 _, .int .i64 _, .slice _ _ _, .slice _ _ _, .string _, .bool _, .int .i64 _, .int .i64 _, .slice _ _ _, .slice _ _ _]) ty43 rfl rfl rfl rfl (by simp)) ?_
     refine W.mv ?_
     refine W.qcall (fchoose_fc cf cl cb cs cr (n := p) ⟨_, _, _, _, _, _, _, _, rfl, (hp_p.mono hG4), (hk_p.mono hG4), (hm_p.mono hG4), (hr_p.mono hG4), hok_p⟩ cur hcp) rfl ?_
     refine W.mv ?_
     refine W.ok (ok_extract rfl rfl) ?_
     refine W.ok (ok_extract rfl rfl) ?_
     refine W.as ?_
     refine W.as ?_
     refine W.nil (thn_n ?_)
     refine WC.seq ?_
     refine WC.region ?_
     refine W.ok (ok_loadB (i := 2) (vs := [.int .i64 _, .int .i64 _, .int .i64 _, .int .i64 _, .int .i64 _]) ty23 rfl rfl rfl rfl (by simp)) ?_
     refine W.ok (ok_loadB (i := 1) (vs := [.int .i64 _, .int .i64 _, .slice _ _ _, .slice _ _ _, .string _, .bool _, .int .i64 _, .int .i64 _, .slice _ _ _, .slice _ _ _]) ty43 rfl rfl rfl rfl (by simp)) ?_
     refine W.mv ?_
     refine W.qcall (rchoose_fc cf cl cb cs cr (n := p) ⟨_, _, _, _, _, _, _, _, rfl, (hp_p.mono hG4), (hk_p.mono hG4), (hm_p.mono hG4), (hr_p.mono hG4), hok_p⟩ cur hcp) rfl ?_
     refine W.mv ?_
     refine W.ok (ok_extract rfl rfl) ?_
     refine W.ok (ok_extract rfl rfl) ?_
     refine W.as ?_
     refine W.as ?_
     refine W.nil (thn_n ?_)
     refine WC.seq ?_
     refine WC.seq ?_
     refine WC.region ?_
     refine W.mv ?_
     refine W.mv ?_
     refine W.ok (ok_neq rfl rfl) ?_
     refine W.mv ?_
     refine W.sp 55 rfl (fun h54 => ?_) (fun h54 => ?_)
     ·have p54 := nd_t h54
      try dsimp only at p54
      exact absurd rfl p54
     ·have p54 := nd_f h54
      try dsimp only at p54
      refine W.yes (dj := 55) rfl rfl h54 ?_
      refine W.mv ?_
      refine W.yes (dj := 55) rfl rfl h54 ?_
      refine W.mv ?_
      refine W.yes (dj := 55) rfl rfl h54 ?_
      refine W.ok (ok_neq rfl rfl) ?_
      refine W.ok (ok_pick_f rfl h54) ?_
      refine W.nil (thn_n ?_)
      refine WC.cond (b := _) rfl (fun h58 => ?_) (fun h58 => ?_)
      ·have p58 := nd_t h58
       try dsimp only at p58
       exact absurd rfl p58
      ·have p58 := nd_f h58
       try dsimp only at p58
       refine WC.skip (thn_n ?_)
       refine WC.seq ?_
       refine WC.seq ?_
       refine WC.region ?_
       refine W.ok (ok_fieldB fd43_1 rfl) ?_
       refine W.ok (ok_loadB (i := 1) (vs := [.int .i64 _]) ty3 rfl rfl rfl rfl (by simp)) ?_
       refine W.ok (ok_lss rfl rfl) ?_
       refine W.mv ?_
       refine W.sp 63 rfl (fun h62 => ?_) (fun h62 => ?_)
       ·have p62 := of_decide_eq_true h62
        try dsimp only at p62
        refine W.no (dj := 63) rfl rfl h62 ?_
        refine W.no (dj := 63) rfl rfl h62 ?_
        refine W.no (dj := 63) rfl rfl h62 ?_
        refine W.no (dj := 63) rfl rfl h62 ?_
        refine W.no (dj := 63) rfl rfl h62 ?_
        refine W.no (dj := 63) rfl rfl h62 ?_
        refine W.ok (ok_pick_t rfl h62) ?_
        refine W.mv ?_
        refine W.no (dj := 71) rfl rfl rfl ?_
        refine W.no (dj := 71) rfl rfl rfl ?_
        refine W.ok (ok_pick_t rfl rfl) ?_
        refine W.mv ?_
        refine W.no (dj := 75) rfl rfl rfl ?_
        refine W.no (dj := 75) rfl rfl rfl ?_
        refine W.no (dj := 75) rfl rfl rfl ?_
        refine W.no (dj := 75) rfl rfl rfl ?_
        refine W.no (dj := 75) rfl rfl rfl ?_
        refine W.ok (ok_pick_t rfl rfl) ?_
        refine W.nil (thn_n ?_)
        refine WC.cond_t rfl rfl ?_
        refine WC.seq ?_
        refine WC.region ?_
        refine W.qcall (awake31_fc) rfl ?_
        refine W.as ?_
        refine W.nil (thn_n ?_)
        refine WC.ret (thn_r ?_)
        refine ⟨.inr rfl, [_], ⟨rfl, trivial⟩, [], List.nil_sublist _, ?_⟩
        rfl
       ·have p62 := of_decide_eq_false h62
        try dsimp only at p62
        refine W.yes (dj := 63) rfl rfl h62 ?_
        refine W.ok (ok_fieldB fd43_1 rfl) ?_
        refine W.yes (dj := 63) rfl rfl h62 ?_
        refine W.ok (ok_loadB (i := 0) (vs := [.int .i64 _]) ty3 rfl rfl rfl rfl (by simp)) ?_
        refine W.yes (dj := 63) rfl rfl h62 ?_
        refine W.ok (ok_fieldB fd43_1 rfl) ?_
        refine W.yes (dj := 63) rfl rfl h62 ?_
        refine W.ok (ok_loadB (i := 1) (vs := [.int .i64 _]) ty3 rfl rfl rfl rfl (by simp)) ?_
        refine W.yes (dj := 63) rfl rfl h62 ?_
        refine W.ok (ok_sub rfl rfl (by omega)) ?_
        refine W.yes (dj := 63) rfl rfl h62 ?_
        refine W.ok (ok_neq rfl rfl) ?_
        refine W.ok (ok_pick_f rfl h62) ?_
        refine W.mv ?_
        refine W.sp 71 rfl (fun h69 => ?_) (fun h69 => ?_)
        ·have p69 := nd_t h69
         try dsimp only at p69
         refine W.no (dj := 71) rfl rfl h69 ?_
         refine W.no (dj := 71) rfl rfl h69 ?_
         refine W.ok (ok_pick_t rfl h69) ?_
         refine W.mv ?_
         refine W.no (dj := 75) rfl rfl rfl ?_
         refine W.no (dj := 75) rfl rfl rfl ?_
         refine W.no (dj := 75) rfl rfl rfl ?_
         refine W.no (dj := 75) rfl rfl rfl ?_
         refine W.no (dj := 75) rfl rfl rfl ?_
         refine W.ok (ok_pick_t rfl rfl) ?_
         refine W.nil (thn_n ?_)
         refine WC.cond_t rfl rfl ?_
         refine WC.seq ?_
         refine WC.region ?_
         refine W.qcall (awake31_fc) rfl ?_
         refine W.as ?_
         refine W.nil (thn_n ?_)
         refine WC.ret (thn_r ?_)
         refine ⟨.inr rfl, [_], ⟨rfl, trivial⟩, [], List.nil_sublist _, ?_⟩
         rfl
        ·have p69 := nd_f h69
         try dsimp only at p69
         refine W.yes (dj := 71) rfl rfl h69 ?_
         refine W.mv ?_
         refine W.yes (dj := 71) rfl rfl h69 ?_
         refine W.ok (ok_lss rfl rfl) ?_
         refine W.ok (ok_pick_f rfl h69) ?_
         refine W.mv ?_
         refine W.sp 75 rfl (fun h73 => ?_) (fun h73 => ?_)
         ·have p73 := of_decide_eq_true h73
          try dsimp only at p73
          refine W.no (dj := 75) rfl rfl h73 ?_
          refine W.no (dj := 75) rfl rfl h73 ?_
          refine W.no (dj := 75) rfl rfl h73 ?_
          refine W.no (dj := 75) rfl rfl h73 ?_
          refine W.no (dj := 75) rfl rfl h73 ?_
          refine W.ok (ok_pick_t rfl h73) ?_
          refine W.nil (thn_n ?_)
          refine WC.cond_t rfl rfl ?_
          refine WC.seq ?_
          refine WC.region ?_
          refine W.qcall (awake31_fc) rfl ?_
          refine W.as ?_
          refine W.nil (thn_n ?_)
          refine WC.ret (thn_r ?_)
          refine ⟨.inr rfl, [_], ⟨rfl, trivial⟩, [], List.nil_sublist _, ?_⟩
          rfl
         ·have p73 := of_decide_eq_false h73
          try dsimp only at p73
          refine W.yes (dj := 75) rfl rfl h73 ?_
          refine W.mv ?_
          refine W.yes (dj := 75) rfl rfl h73 ?_
          refine W.ok (ok_fieldB fd43_3 rfl) ?_
          refine W.yes (dj := 75) rfl rfl h73 ?_
          refine W.ok (ok_loadB (i := 1) (vs := [.slice _ _ _]) ty39 rfl rfl rfl rfl (by simp)) ?_
          refine W.yes (dj := 75) rfl rfl h73 ?_
          refine W.ok (ok_len sl39 (hk_p.mono hG4) rfl) ?_
          refine W.yes (dj := 75) rfl rfl h73 ?_
          refine W.ok (ok_geq rfl rfl) ?_
          refine W.ok (ok_pick_f rfl h73) ?_
          refine W.nil (thn_n ?_)
          refine WC.cond (b := _) rfl (fun h80 => ?_) (fun h80 => ?_)
          ·have p80 := of_decide_eq_true h80
           try dsimp only at p80
           refine WC.seq ?_
           refine WC.region ?_
           refine W.qcall (awake31_fc) rfl ?_
           refine W.as ?_
           refine W.nil (thn_n ?_)
           refine WC.ret (thn_r ?_)
           refine ⟨.inr rfl, [_], ⟨rfl, trivial⟩, [], List.nil_sublist _, ?_⟩
           rfl
          ·have p80 := of_decide_eq_false h80
           try dsimp only at p80
           have hko : KidOf p k i := ⟨by omega, p69, by omega, by omega⟩
           have hq : PourPre cb p k := pre_of (c := (⟨cf, cl, cb, cs, cr⟩ : Cfg)) g23 g29 (by omega) hsp9 hsk9 hcb2
           have hin9 : p.innerR cf cb := by have h4 := g23.2.2.2; rwa [if_neg (by omega)] at h4
           have hms9 := hin9.2.2.1
           have hkl9 := (rightN_spec hin9.2.1).2
           refine WC.skip (thn_n ?_)
           refine WC.seq ?_
           refine WC.draw mix (by kernel_rfl) ?_
           refine W.ok (ok_loadB (i := 2) (vs := [.int .i64 _, .int .i64 _, .int .i64 _, .int .i64 _, .int .i64 _]) ty23 rfl rfl rfl rfl (by simp)) ?_
           refine W.ok (ok_loadB (i := 1) (vs := [.int .i64 _, .int .i64 _, .slice _ _ _, .slice _ _ _, .string _, .bool _, .int .i64 _, .int .i64 _, .slice _ _ _, .slice _ _ _]) ty43 rfl rfl rfl rfl (by simp)) ?_
           refine W.ok (ok_loadB (i := 0) (vs := [.int .i64 _, .int .i64 _, .slice _ _ _, .slice _ _ _, .string _, .bool _, .int .i64 _, .int .i64 _, .slice _ _ _, .slice _ _ _]) ty43 rfl rfl rfl rfl (by simp)) ?_
           refine W.mv ?_
           refine W.qcall (fdecide_fc cf cl cb cs cr (p := p) (k := k) ⟨_, _, _, _, _, _, _, _, rfl, (hp_p.mono hG4), (hk_p.mono hG4), (hm_p.mono hG4), (hr_p.mono hG4), hok_p⟩ ⟨_, _, _, _, _, _, _, _, rfl, (hp_k.mono hG4), (hk_k.mono hG4), (hm_k.mono hG4), (hr_k.mono hG4), hok_k⟩ i hq ⟨hi1, hi2⟩ hko hms9 hkl9) rfl ?_
           refine W.ok (ok_loadB (i := 2) (vs := [.int .i64 _, .int .i64 _, .int .i64 _, .int .i64 _, .int .i64 _]) ty23 rfl rfl rfl rfl (by simp)) ?_
           refine W.ok (ok_loadB (i := 1) (vs := [.int .i64 _, .int .i64 _, .slice _ _ _, .slice _ _ _, .string _, .bool _, .int .i64 _, .int .i64 _, .slice _ _ _, .slice _ _ _]) ty43 rfl rfl rfl rfl (by simp)) ?_
           refine W.ok (ok_loadB (i := 0) (vs := [.int .i64 _, .int .i64 _, .slice _ _ _, .slice _ _ _, .string _, .bool _, .int .i64 _, .int .i64 _, .slice _ _ _, .slice _ _ _]) ty43 rfl rfl rfl rfl (by simp)) ?_
           refine W.mv ?_
           refine W.qcall (rdecide_fc cf cl cb cs cr (p := p) (k := k) ⟨_, _, _, _, _, _, _, _, rfl, (hp_p.mono hG4), (hk_p.mono hG4), (hm_p.mono hG4), (hr_p.mono hG4), hok_p⟩ ⟨_, _, _, _, _, _, _, _, rfl, (hp_k.mono hG4), (hk_k.mono hG4), (hm_k.mono hG4), (hr_k.mono hG4), hok_k⟩ i hq ⟨hi1, hi2⟩ hko hms9 hkl9) rfl ?_
           refine W.ok (ok_eql rfl rfl) ?_
           refine W.mv ?_
           refine W.sp 94 rfl (fun h93 => ?_) (fun h93 => ?_)
           ·have p93 := of_decide_eq_true h93
            try dsimp only at p93
            refine W.yes (dj := 94) rfl rfl h93 ?_
            refine W.qcall (awake31_fc) rfl ?_
            refine W.ok (ok_pick_t rfl h93) ?_
            refine W.as ?_
            refine W.nil (thn_n ?_)
            refine WC.ret ?_
            refine ⟨.inr rfl, [_], ⟨rfl, trivial⟩, [], List.nil_sublist _, ?_⟩
            rfl
           ·have p93 := of_decide_eq_false h93
            try dsimp only at p93
            exact absurd rfl p93

end Go.Proofs.YtmbafmifalppaaaGreat
