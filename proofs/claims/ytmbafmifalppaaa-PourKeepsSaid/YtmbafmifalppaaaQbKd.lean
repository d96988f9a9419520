/- The law PourKeeps is walked. -/
import Derived.Test.YtmbafmifalppaaaQbVj
import Derived.Test.YtmbafmifalppaaaQbOp
import Derived.Test.YtmbafmifalppaaaQbA23
set_option maxRecDepth 100000
set_option maxHeartbeats 1600000
set_option linter.unusedVariables false
set_option linter.unusedSimpArgs false
set_option linter.unnecessarySimpa false
namespace Go.Proofs.Ytmbafmifalppaaa
open Go Go.Fw Go.RowKit
theorem pourKeeps_fc {G : GH} (cf : Int) (cl : Int) (cb : Int) (cs : Int) (cr : Int) {cs_p : List Value} {p : Nd} (h_p : NodeC G cs_p p) {cs_k : List Value} {k : Nd} (h_k : NodeC G cs_k k) (i : Int) (key : Str) (hcb : i64 cb) (hi : i64 i) :
    Fc Try.prog 6 [.agg #[.int .i64 cf, .int .i64 cl, .int .i64 cb, .int .i64 cs, .int .i64 cr], .agg (List.toArray cs_p), .agg (List.toArray cs_k), .int .i64 i, .string key.b] G [] (fun v _ _ => v = .bool (true)) := by
 obtain ⟨pa_p, pc_p, ka_p, kc_p, ma_p, mc_p, ra_p, rc_p, rfl, hp_p, hk_p, hm_p, hr_p, hok_p⟩ := h_p
 obtain ⟨pa_k, pc_k, ka_k, kc_k, ma_k, mc_k, ra_k, rc_k, rfl, hp_k, hk_k, hm_k, hr_k, hok_k⟩ := h_k
 have hcb2 := hcb.2
 obtain ⟨hi1, hi2⟩ := hi
 refine Fc.intro (rs := [.tmp 10]) cl6 Try.func6 rfl Try.ntmps6 rfl rfl (fun w0 => ?_)
 refine WC.seq ?_
 refine WC.region ?_
 refine W.box (L := [.int .i64 _, .int .i64 _, .int .i64 _, .int .i64 _, .int .i64 _]) rfl rfl (fun b1 => ?_)
 refine W.box (L := [.int .i64 _, .int .i64 _, .slice _ _ _, .slice _ _ _, .string _, .bool _, .int .i64 _, .int .i64 _, .slice _ _ _, .slice _ _ _]) rfl rfl (fun b2 => ?_)
 refine W.box (L := [.int .i64 _, .int .i64 _, .slice _ _ _, .slice _ _ _, .string _, .bool _, .int .i64 _, .int .i64 _, .slice _ _ _, .slice _ _ _]) rfl rfl (fun b3 => ?_)
 refine W.as ?_
 refine W.nil (thn_n ?_)
 refine WC.seq ?_
 refine WC.seq ?_
 refine WC.region ?_
 refine W.ok (ok_loadB (i := 1) (vs := [.int .i64 _, .int .i64 _, .slice _ _ _, .slice _ _ _, .string _, .bool _, .int .i64 _, .int .i64 _, .slice _ _ _, .slice _ _ _]) ty35 rfl rfl rfl rfl (by simp)) ?_
 refine W.ok (ok_loadB (i := 0) (vs := [.int .i64 _, .int .i64 _, .slice _ _ _, .slice _ _ _, .string _, .bool _, .int .i64 _, .int .i64 _, .slice _ _ _, .slice _ _ _]) ty35 rfl rfl rfl rfl (by simp)) ?_
 refine W.lit (e := eNode) (l := [p, k]) (css := [[.int .i64 _, .int .i64 _, .slice _ _ _, .slice _ _ _, .string _, .bool _, .int .i64 _, .int .i64 _, .slice _ _ _, .slice _ _ _], [.int .i64 _, .int .i64 _, .slice _ _ _, .slice _ _ _, .string _, .bool _, .int .i64 _, .int .i64 _, .slice _ _ _, .slice _ _ _]]) sl24 ty35 zr35 rfl rfl rfl rfl rfl rfl ⟨⟨_, _, _, _, _, _, _, _, rfl, hp_p, hk_p, hm_p, hr_p, hok_p⟩, ⟨_, _, _, _, _, _, _, _, rfl, hp_k, hk_k, hm_k, hr_k, hok_k⟩, trivial⟩ (fun bl4 G4 hG4 hv4 => ?_)
 refine W.qcall (light_fc hv4 _ _ (by omega)) rfl ?_
 refine W.ok (ok_not rfl) ?_
 refine W.mv ?_
 refine W.sp 30 rfl (fun h29 => ?_) (fun h29 => ?_)
 ·refine W.no (dj := 30) rfl rfl h29 ?_
  refine W.no (dj := 30) rfl rfl h29 ?_
  refine W.no (dj := 30) rfl rfl h29 ?_
  refine W.ok (ok_pick_t rfl h29) ?_
  refine W.mv ?_
  refine W.no (dj := 35) rfl rfl rfl ?_
  refine W.no (dj := 35) rfl rfl rfl ?_
  refine W.no (dj := 35) rfl rfl rfl ?_
  refine W.no (dj := 35) rfl rfl rfl ?_
  refine W.no (dj := 35) rfl rfl rfl ?_
  refine W.no (dj := 35) rfl rfl rfl ?_
  refine W.ok (ok_pick_t rfl rfl) ?_
  refine W.nil (thn_n ?_)
  refine WC.cond_t rfl rfl ?_
  refine WC.seq ?_
  refine WC.region ?_
  refine W.qcall (awake23_fc) rfl ?_
  refine W.as ?_
  refine W.nil (thn_n ?_)
  refine WC.ret (thn_r ?_)
  refine ⟨.inr rfl, [_], ⟨rfl, trivial⟩, [], List.nil_sublist _, ?_⟩
  rfl
 ·have hL : Light [p, k] 2 2000 := by simpa using h29
  obtain ⟨hsp9, hsk9⟩ := light_two hL
  refine W.yes (dj := 30) rfl rfl h29 ?_
  refine W.mv ?_
  refine W.yes (dj := 30) rfl rfl h29 ?_
  refine W.ok (ok_lenS st9 rfl) ?_
  refine W.yes (dj := 30) rfl rfl h29 ?_
  refine W.ok (ok_gtr rfl rfl) ?_
  refine W.ok (ok_pick_f rfl h29) ?_
  refine W.mv ?_
  refine W.sp 35 rfl (fun h33 => ?_) (fun h33 => ?_)
  ·have p33 := of_decide_eq_true h33
   try dsimp only at p33
   refine W.no (dj := 35) rfl rfl h33 ?_
   refine W.no (dj := 35) rfl rfl h33 ?_
   refine W.no (dj := 35) rfl rfl h33 ?_
   refine W.no (dj := 35) rfl rfl h33 ?_
   refine W.no (dj := 35) rfl rfl h33 ?_
   refine W.no (dj := 35) rfl rfl h33 ?_
   refine W.ok (ok_pick_t rfl h33) ?_
   refine W.nil (thn_n ?_)
   refine WC.cond_t rfl rfl ?_
   refine WC.seq ?_
   refine WC.region ?_
   refine W.qcall (awake23_fc) rfl ?_
   refine W.as ?_
   refine W.nil (thn_n ?_)
   refine WC.ret (thn_r ?_)
   refine ⟨.inr rfl, [_], ⟨rfl, trivial⟩, [], List.nil_sublist _, ?_⟩
   rfl
  ·have p33 := of_decide_eq_false h33
   try dsimp only at p33
   have hks9 : ∀ m ∈ p.msgs, m.key.b.size < 140737488355328 := fun m hm => by have := (hsp9.2.2.2.2.2.1 m hm).1; omega
   refine W.yes (dj := 35) rfl rfl h33 ?_
   refine W.ok (ok_loadB (i := 2) (vs := [.int .i64 _, .int .i64 _, .int .i64 _, .int .i64 _, .int .i64 _]) ty23 rfl rfl rfl rfl (by simp)) ?_
   refine W.yes (dj := 35) rfl rfl h33 ?_
   refine W.ok (ok_loadB (i := 1) (vs := [.int .i64 _, .int .i64 _, .slice _ _ _, .slice _ _ _, .string _, .bool _, .int .i64 _, .int .i64 _, .slice _ _ _, .slice _ _ _]) ty35 rfl rfl rfl rfl (by simp)) ?_
   refine W.yes (dj := 35) rfl rfl h33 ?_
   refine W.ok (ok_loadB (i := 0) (vs := [.int .i64 _, .int .i64 _, .slice _ _ _, .slice _ _ _, .string _, .bool _, .int .i64 _, .int .i64 _, .slice _ _ _, .slice _ _ _]) ty35 rfl rfl rfl rfl (by simp)) ?_
   refine W.yes (dj := 35) rfl rfl h33 ?_
   refine W.mv ?_
   refine W.yes (dj := 35) rfl rfl h33 ?_
   refine W.qcall (may_fc cf cl cb cs cr (p := p) (k := k) ⟨_, _, _, _, _, _, _, _, rfl, (hp_p.mono hG4), (hk_p.mono hG4), (hm_p.mono hG4), (hr_p.mono hG4), hok_p⟩ ⟨_, _, _, _, _, _, _, _, rfl, (hp_k.mono hG4), (hk_k.mono hG4), (hm_k.mono hG4), (hr_k.mono hG4), hok_k⟩ i hks9 ⟨hi1, hi2⟩) rfl ?_
   refine W.yes (dj := 35) rfl rfl h33 ?_
   refine W.ok (ok_not rfl) ?_
   refine W.ok (ok_pick_f rfl h33) ?_
   refine W.nil (thn_n ?_)
   refine WC.cond (b := _) rfl (fun h41 => ?_) (fun h41 => ?_)
   ·refine WC.seq ?_
    refine WC.region ?_
    refine W.qcall (awake23_fc) rfl ?_
    refine W.as ?_
    refine W.nil (thn_n ?_)
    refine WC.ret (thn_r ?_)
    refine ⟨.inr rfl, [_], ⟨rfl, trivial⟩, [], List.nil_sublist _, ?_⟩
    rfl
   ·have hM : MayP (⟨cf, cl, cb, cs, cr⟩ : Cfg) p k i := by simpa using h41
    have hpR9 := nd_msgsR hM.1.1
    have hkR9 := nd_msgsR hM.1.2.1
    have hq : PourPre cb p k := pre_of (c := (⟨cf, cl, cb, cs, cr⟩ : Cfg)) hM.1.1 hM.1.2.1 (by have := hM.1.2.2.1; omega) hsp9 hsk9 hcb2
    obtain ⟨hAB, hlt, hlw⟩ := law23 hM
    dsimp only at hAB hlt hlw
    have haR9 := nd_msgsR hAB.1.1
    have hbR9 := nd_msgsR hAB.1.2.1
    have hks8 : ∀ m ∈ (pourN cl cb p k i).1.msgs, m.key.b.size < 140737488355328 := fun m hm => by have := (msgR_key (haR9 m hm)).1; omega
    have hpl9 := hsp9.2.1
    have hsz8 := meet_sizes (span_sizes hM.1.1) (range_sizes (p := p.pivots) (i := i) (nd_pivots hM.1.1))
    have hsz9 : ∀ a ∈ [(kidS p i).lo] ++ p.pivots, a.b.size ≤ 16 := fun a ha => by
      rcases List.mem_append.1 ha with ha | ha
      · rw [List.mem_singleton] at ha; rw [ha]; exact hsz8.1
      · exact nd_pivots hM.1.1 a ha
    refine WC.skip (thn_n ?_)
    refine WC.seq ?_
    refine WC.region ?_
    refine W.ok (ok_loadB (i := 2) (vs := [.int .i64 _, .int .i64 _, .int .i64 _, .int .i64 _, .int .i64 _]) ty23 rfl rfl rfl rfl (by simp)) ?_
    refine W.ok (ok_loadB (i := 1) (vs := [.int .i64 _, .int .i64 _, .slice _ _ _, .slice _ _ _, .string _, .bool _, .int .i64 _, .int .i64 _, .slice _ _ _, .slice _ _ _]) ty35 rfl rfl rfl rfl (by simp)) ?_
    refine W.ok (ok_loadB (i := 0) (vs := [.int .i64 _, .int .i64 _, .slice _ _ _, .slice _ _ _, .string _, .bool _, .int .i64 _, .int .i64 _, .slice _ _ _, .slice _ _ _]) ty35 rfl rfl rfl rfl (by simp)) ?_
    refine W.mv ?_
    refine W.call (Mp := []) (pour_fc cf cl cb cs cr (p := p) (k := k) ⟨_, _, _, _, _, _, _, _, rfl, (hp_p.mono hG4), (hk_p.mono hG4), (hm_p.mono hG4), (hr_p.mono hG4), hok_p⟩ ⟨_, _, _, _, _, _, _, _, rfl, (hp_k.mono hG4), (hk_k.mono hG4), (hm_k.mono hG4), (hr_k.mono hG4), hok_k⟩ i hq.hb hq.hr hq.hpv hq.hpm hq.hkm hq.hkr ⟨hi1, hi2⟩ hq.hsz) rfl (List.Perm.refl _) ?_
    intro _ G5 _ hG5 q8
    refine match q8 with | ⟨e_9, _, e_10, _, _, e_11, hv6, hv7⟩ => ?_
    subst e_9
    subst e_10
    subst e_11
    refine match hv6 with | ⟨pa_hv6, pc_hv6, ka_hv6, kc_hv6, ma_hv6, mc_hv6, ra_hv6, rc_hv6, e_12, hp_hv6, hk_hv6, hm_hv6, hr_hv6, hok_hv6⟩ => ?_
    subst e_12
    refine match hv7 with | ⟨pa_hv7, pc_hv7, ka_hv7, kc_hv7, ma_hv7, mc_hv7, ra_hv7, rc_hv7, e_13, hp_hv7, hk_hv7, hm_hv7, hr_hv7, hok_hv7⟩ => ?_
    subst e_13
    refine W.mv ?_
    refine W.ok (ok_extract rfl rfl) ?_
    refine W.ok (ok_extract rfl rfl) ?_
    refine W.ok (ok_extract rfl rfl) ?_
    refine W.alloc zr35 (fun b14 => ?_)
    refine W.alloc zr35 (fun b15 => ?_)
    refine W.store (i := 1) (vs := [.int .i64 _, .int .i64 _, .slice _ _ _, .slice _ _ _, .string _, .bool _, .int .i64 _, .int .i64 _, .slice _ _ _, .slice _ _ _]) (L' := [.int .i64 _, .int .i64 _, .slice _ _ _, .slice _ _ _, .string _, .bool _, .int .i64 _, .int .i64 _, .slice _ _ _, .slice _ _ _]) ty35 rfl rfl rfl rfl rfl rfl rfl rfl ?_
    refine W.store (i := 0) (vs := [.int .i64 _, .int .i64 _, .slice _ _ _, .slice _ _ _, .string _, .bool _, .int .i64 _, .int .i64 _, .slice _ _ _, .slice _ _ _]) (L' := [.int .i64 _, .int .i64 _, .slice _ _ _, .slice _ _ _, .string _, .bool _, .int .i64 _, .int .i64 _, .slice _ _ _, .slice _ _ _]) ty35 rfl rfl rfl rfl rfl rfl rfl rfl ?_
    refine W.as ?_
    refine W.nil (thn_n ?_)
    refine WC.seq ?_
    refine WC.seq ?_
    refine WC.region ?_
    refine W.ok (ok_loadB (i := 4) (vs := [.int .i64 _, .int .i64 _, .int .i64 _, .int .i64 _, .int .i64 _]) ty23 rfl rfl rfl rfl (by simp)) ?_
    refine W.ok (ok_loadB (i := 1) (vs := [.int .i64 _, .int .i64 _, .slice _ _ _, .slice _ _ _, .string _, .bool _, .int .i64 _, .int .i64 _, .slice _ _ _, .slice _ _ _]) ty35 rfl rfl rfl rfl (by simp)) ?_
    refine W.qcall ((nright_fc cf cl cb cs cr (n := (pourN cl cb p k i).1) ⟨_, _, _, _, _, _, _, _, rfl, hp_hv6, hk_hv6, hm_hv6, hr_hv6, hok_hv6⟩).mono (fun v _ _ _ hv => hv.trans (congrArg Value.bool (decide_eq_true hAB.1.1)))) rfl ?_
    refine W.ok (ok_not rfl) ?_
    refine W.mv ?_
    refine W.yes (dj := 57) rfl rfl rfl ?_
    refine W.ok (ok_loadB (i := 4) (vs := [.int .i64 _, .int .i64 _, .int .i64 _, .int .i64 _, .int .i64 _]) ty23 rfl rfl rfl rfl (by simp)) ?_
    refine W.yes (dj := 57) rfl rfl rfl ?_
    refine W.ok (ok_loadB (i := 0) (vs := [.int .i64 _, .int .i64 _, .slice _ _ _, .slice _ _ _, .string _, .bool _, .int .i64 _, .int .i64 _, .slice _ _ _, .slice _ _ _]) ty35 rfl rfl rfl rfl (by simp)) ?_
    refine W.yes (dj := 57) rfl rfl rfl ?_
    refine W.qcall ((nright_fc cf cl cb cs cr (n := (pourN cl cb p k i).2.1) ⟨_, _, _, _, _, _, _, _, rfl, hp_hv7, hk_hv7, hm_hv7, hr_hv7, hok_hv7⟩).mono (fun v _ _ _ hv => hv.trans (congrArg Value.bool (decide_eq_true hAB.1.2.1)))) rfl ?_
    refine W.yes (dj := 57) rfl rfl rfl ?_
    refine W.ok (ok_not rfl) ?_
    refine W.ok (ok_pick_f rfl rfl) ?_
    refine W.mv ?_
    refine W.yes (dj := 63) rfl rfl rfl ?_
    refine W.ok (ok_loadB (i := 4) (vs := [.int .i64 _, .int .i64 _, .int .i64 _, .int .i64 _, .int .i64 _]) ty23 rfl rfl rfl rfl (by simp)) ?_
    refine W.yes (dj := 63) rfl rfl rfl ?_
    refine W.ok (ok_loadB (i := 1) (vs := [.int .i64 _, .int .i64 _, .slice _ _ _, .slice _ _ _, .string _, .bool _, .int .i64 _, .int .i64 _, .slice _ _ _, .slice _ _ _]) ty35 rfl rfl rfl rfl (by simp)) ?_
    refine W.yes (dj := 63) rfl rfl rfl ?_
    refine W.ok (ok_loadB (i := 0) (vs := [.int .i64 _, .int .i64 _, .slice _ _ _, .slice _ _ _, .string _, .bool _, .int .i64 _, .int .i64 _, .slice _ _ _, .slice _ _ _]) ty35 rfl rfl rfl rfl (by simp)) ?_
    refine W.yes (dj := 63) rfl rfl rfl ?_
    refine W.mv ?_
    refine W.yes (dj := 63) rfl rfl rfl ?_
    refine W.qcall ((may_fc cf cl cb cs cr (p := (pourN cl cb p k i).1) (k := (pourN cl cb p k i).2.1) ⟨_, _, _, _, _, _, _, _, rfl, hp_hv6, hk_hv6, hm_hv6, hr_hv6, hok_hv6⟩ ⟨_, _, _, _, _, _, _, _, rfl, hp_hv7, hk_hv7, hm_hv7, hr_hv7, hok_hv7⟩ i hks8 ⟨hi1, hi2⟩).mono (fun v _ _ _ hv => hv.trans (congrArg Value.bool (decide_eq_true hAB)))) rfl ?_
    refine W.yes (dj := 63) rfl rfl rfl ?_
    refine W.ok (ok_not rfl) ?_
    refine W.ok (ok_pick_f rfl rfl) ?_
    refine W.mv ?_
    refine W.yes (dj := 71) rfl rfl rfl ?_
    refine W.mv ?_
    refine W.yes (dj := 71) rfl rfl rfl ?_
    refine W.ok (ok_gtr rfl rfl) ?_
    refine W.yes (dj := 71) rfl rfl rfl ?_
    refine W.mv ?_
    refine W.sp 74 rfl (fun h73 => ?_) (fun h73 => ?_)
    ·have p73 := of_decide_eq_true h73
     try dsimp only at p73
     refine W.yes (dj := 74) rfl rfl h73 ?_
     refine W.ok (ok_fieldB fd35_7 rfl) ?_
     refine W.yes (dj := 74) rfl rfl h73 ?_
     refine W.ok (ok_loadB (i := 0) (vs := [.int .i64 _]) ty3 rfl rfl rfl rfl (by simp)) ?_
     refine W.yes (dj := 74) rfl rfl h73 ?_
     refine W.ok (ok_fieldB fd35_7 rfl) ?_
     refine W.yes (dj := 74) rfl rfl h73 ?_
     refine W.ok (ok_loadB (i := 2) (vs := [.int .i64 _]) ty3 rfl rfl rfl rfl (by simp)) ?_
     refine W.yes (dj := 74) rfl rfl h73 ?_
     refine W.ok (ok_leq rfl rfl) ?_
     refine W.yes (dj := 71) rfl rfl rfl ?_
     refine W.ok (ok_pick_t rfl h73) ?_
     refine W.ok (ok_pick_f rfl rfl) ?_
     refine W.nil (thn_n ?_)
     refine WC.cond (b := _) rfl (fun h79 => ?_) (fun h79 => ?_)
     ·have p79 := of_decide_eq_true h79
      try dsimp only at p79
      exfalso
      have := hlt (by omega)
      omega
     ·have p79 := of_decide_eq_false h79
      try dsimp only at p79
      refine WC.skip (thn_n ?_)
      refine WC.seq ?_
      refine WC.drawW _ ((((((List.Sublist.refl _).cons_cons _).cons_cons _).cons_cons _).cons_cons _).cons_cons _) mix (by rintro _ _ _ _ ⟨h | h, _⟩ <;> cases h) ?_
      refine WD.take 0 rfl rfl rfl (by kernel_rfl) (by kernel_rfl) (by kernel_rfl) (ok_loadB (i := 3) (vs := [.int .i64 _, .int .i64 _, .slice _ _ _, .slice _ _ _, .string _, .bool _, .int .i64 _, .int .i64 _, .slice _ _ _, .slice _ _ _]) ty35 rfl rfl rfl rfl (by simp)) ?_
      refine WD.take 2 rfl rfl rfl (by kernel_rfl) (by kernel_rfl) (by kernel_rfl) (ok_fieldB fd35_2 rfl) ?_
      refine WD.take 3 rfl rfl rfl (by kernel_rfl) (by kernel_rfl) (by kernel_rfl) (ok_loadB (i := 3) (vs := [.slice _ _ _]) ty32 rfl rfl rfl rfl (by simp)) ?_
      refine WD.take 4 rfl rfl rfl (by kernel_rfl) (by kernel_rfl) (by kernel_rfl) (ok_mv) ?_
      refine WD.any [1, 7] (by kernel_rfl) rfl ⟨⟨_, rfl, rfl, ?_⟩, ⟨_, rfl, rfl, ?_⟩, trivial⟩
      ·refine W.qcall (rspan21_fc (n := p) ⟨_, _, _, _, _, _, _, _, rfl, (hp_p.mono (hG4.trans hG5)), (hk_p.mono (hG4.trans hG5)), (hm_p.mono (hG4.trans hG5)), (hr_p.mono (hG4.trans hG5)), hok_p⟩) rfl ?_
       refine W.nil ⟨Le.rfl, (((((List.Sublist.refl _).cons_cons _).cons_cons _).cons_cons _).cons_cons _).cons_cons _, _, (((((List.Sublist.refl _).cons_cons _).cons_cons _).cons_cons _).cons_cons _).cons_cons _, List.Sublist.refl _, ?_⟩
       refine WD.any [5, 7] (by kernel_rfl) rfl ⟨⟨_, rfl, rfl, ?_⟩, ⟨_, rfl, rfl, ?_⟩, trivial⟩
       ·refine W.qcall (rrange_fc (hp_p.mono (hG4.trans hG5)) _ ⟨by omega, by omega⟩) rfl ?_
        refine W.nil ⟨Le.rfl, (((((List.Sublist.refl _).cons_cons _).cons_cons _).cons_cons _).cons_cons _).cons_cons _, _, (((((List.Sublist.refl _).cons_cons _).cons_cons _).cons_cons _).cons_cons _).cons_cons _, List.Sublist.refl _, ?_⟩
        refine WD.any [6, 7] (by kernel_rfl) rfl ⟨⟨_, rfl, rfl, ?_⟩, ⟨_, rfl, rfl, ?_⟩, trivial⟩
        ·refine W.qcall (rmeet_fc _ _ _ _ _ _) rfl ?_
         refine W.nil ⟨Le.rfl, (((((List.Sublist.refl _).cons_cons _).cons_cons _).cons_cons _).cons_cons _).cons_cons _, _, (((((List.Sublist.refl _).cons_cons _).cons_cons _).cons_cons _).cons_cons _).cons_cons _, List.Sublist.refl _, ?_⟩
         refine WD.any [7] (by kernel_rfl) rfl ⟨⟨_, rfl, rfl, ?_⟩, trivial⟩
         refine W.alloc zr37 (fun b16 => ?_)
         refine W.nil ⟨Le.rfl, ((((((List.Sublist.refl _).cons_cons _).cons_cons _).cons_cons _).cons_cons _).cons_cons _).cons _, _, ((((((List.Sublist.refl _).cons_cons _).cons_cons _).cons_cons _).cons_cons _).cons_cons _).cons _, List.Sublist.refl _, ?_⟩
         refine WD.any [8] (by kernel_rfl) rfl ⟨⟨_, rfl, rfl, ?_⟩, trivial⟩
         refine W.store (i := 0) (vs := [.string _, .string _, .bool _]) (L' := [.string _, .string _, .bool _]) ty37 rfl rfl rfl rfl rfl rfl rfl rfl ?_
         refine W.nil ⟨Le.rfl, ((((((List.Sublist.refl _).cons_cons _).cons_cons _).cons_cons _).cons_cons _).cons_cons _).cons _, _, ((((((List.Sublist.refl _).cons_cons _).cons_cons _).cons_cons _).cons_cons _).cons_cons _).cons _, List.Sublist.refl _, ?_⟩
         refine WD.done (by kernel_rfl) (thn_n ?_)
         refine WC.seq ?_
         refine WC.seq ?_
         refine WC.region ?_
         refine W.ok (ok_fieldB fd37_0 rfl) ?_
         refine W.ok (ok_loadB (i := 0) (vs := [.string _]) ty9 rfl rfl rfl rfl (by simp)) ?_
         refine W.litO (e := eStr) (l := [(kidS p i).lo]) (css := [[.string _]]) sl32 ty9 zr9 rfl rfl rfl rfl rfl rfl ⟨rfl, trivial⟩ (fun v17 Ms18 ho19 => ?_)
         refine W.perm (pmC (pmC (pmC (pmC (pmC (pmC (List.Perm.refl _))))))).symm ?_
         have q23 := ho19.form
         refine match q23 with | ⟨sa20, sc21, e_22⟩ => ?_
         subst e_22
         refine W.ok (ok_fieldB fd35_2 rfl) ?_
         refine W.ok (ok_loadB (i := 4) (vs := [.slice _ _ _]) ty32 rfl rfl rfl rfl (by simp)) ?_
         refine W.app (e := eStr) sl32 ty9 zr9 rfl by9 rfl rfl (ho19) ((hp_p.mono (hG4.trans hG5))) (pmC (pmC (pmC (pmC (pmC (pmC (List.Perm.refl _))))))) (by show (List.length _ + List.length _) * 16 ≤ _; simp; omega) (fun v24 Ms25 ho26 => ?_)
         refine W.perm (pmC (pmC (pmC (pmC (pmC (pmC (List.Perm.refl _))))))).symm ?_
         have q30 := ho26.form
         refine match q30 with | ⟨sa27, sc28, e_29⟩ => ?_
         subst e_29
         refine W.giveO ho26 (pmC (pmC (pmC (pmC (pmC (pmC (List.Perm.refl _))))))) (fun G31 hG31 hv31 => ?_)
         refine W.call (Mp := []) (some_fc hv31 (fun a ha => by have := hsz9 a ha; omega) (by simp; omega)) rfl (List.Perm.refl _) ?_
         rintro v33 G32 Ms34 hG32 ho35
         refine W.perm (pmC (pmC (pmC (pmC (pmC (pmC (List.Perm.refl _))))))).symm ?_
         have q39 := ho35.form
         refine match q39 with | ⟨sa36, sc37, e_38⟩ => ?_
         subst e_38
         refine W.mv ?_
         refine W.litO (e := eStr) (l := [key]) (css := [[.string _]]) sl32 ty9 zr9 rfl rfl rfl rfl rfl rfl ⟨rfl, trivial⟩ (fun v40 Ms41 ho42 => ?_)
         refine W.perm (pmC (pmC (pmC (pmC (pmC (pmC (List.Perm.refl _))))))).symm ?_
         have q46 := ho42.form
         refine match q46 with | ⟨sa43, sc44, e_45⟩ => ?_
         subst e_45
         refine W.giveO ho42 (pmC (pmC (pmC (pmC (pmC (pmC (List.Perm.refl _))))))) (fun G47 hG47 hv47 => ?_)
         refine W.app (e := eStr) sl32 ty9 zr9 rfl by9 rfl rfl ((ho35.mono hG47)) (hv47) (pmC (pmC (pmC (pmC (pmC (pmC (List.Perm.refl _))))))) (by show (List.length _ + List.length _) * 16 ≤ _; have := some_len ([(kidS p i).lo] ++ p.pivots); simp at this ⊢; omega) (fun v48 Ms49 ho50 => ?_)
         refine W.perm (pmC (pmC (pmC (pmC (pmC (pmC (List.Perm.refl _))))))).symm ?_
         have q54 := ho50.form
         refine match q54 with | ⟨sa51, sc52, e_53⟩ => ?_
         subst e_53
         refine W.ok (ok_lenO sl32 ho50 rfl) ?_
         refine W.mv ?_
         refine W.nil (thn_n ?_)
         refine WC.block ?_
         refine WC.loop (X := Nat) (fun q => [(100, .int .i64 ((q : Nat) : Int)), (98, .slice sa51 ((someN ([(kidS p i).lo] ++ p.pivots) ++ [key])).length sc52), (6, .pointer (some ⟨b2, 0, none⟩)), (7, .pointer (some ⟨b3, 0, none⟩)), (11, .pointer (some ⟨b14, 0, none⟩)), (12, .pointer (some ⟨b15, 0, none⟩)), (14, .pointer (some ⟨b16, 0, none⟩)), (99, .int .i64 ((((someN ([(kidS p i).lo] ++ p.pivots) ++ [key])).length : Nat) : Int))]) (fun q _ Ml => Ml = ((b16, .cells (List.toArray [.string ((kidS p i)).lo.b, .string ((kidS p i)).hi.b, .bool ((kidS p i)).opn]) 37 (0, 0)) :: ((b15, .cells (List.toArray [.int .i64 ((pourN cl cb p k i).2.1).slot, .int .i64 ((pourN cl cb p k i).2.1).level, .slice pa_hv7 (((pourN cl cb p k i).2.1).pivots).length pc_hv7, .slice ka_hv7 (((pourN cl cb p k i).2.1).kids).length kc_hv7, .string ((pourN cl cb p k i).2.1).high.b, .bool ((pourN cl cb p k i).2.1).top, .int .i64 ((pourN cl cb p k i).2.1).right, .int .i64 ((pourN cl cb p k i).2.1).seen, .slice ma_hv7 (((pourN cl cb p k i).2.1).msgs).length mc_hv7, .slice ra_hv7 (((pourN cl cb p k i).2.1).rows).length rc_hv7]) 35 (0, 0)) :: ((b14, .cells (List.toArray [.int .i64 ((pourN cl cb p k i).1).slot, .int .i64 ((pourN cl cb p k i).1).level, .slice pa_hv6 (((pourN cl cb p k i).1).pivots).length pc_hv6, .slice ka_hv6 (((pourN cl cb p k i).1).kids).length kc_hv6, .string ((pourN cl cb p k i).1).high.b, .bool ((pourN cl cb p k i).1).top, .int .i64 ((pourN cl cb p k i).1).right, .int .i64 ((pourN cl cb p k i).1).seen, .slice ma_hv6 (((pourN cl cb p k i).1).msgs).length mc_hv6, .slice ra_hv6 (((pourN cl cb p k i).1).rows).length rc_hv6]) 35 (0, 0)) :: ((b3, .cells (List.toArray [.int .i64 k.slot, .int .i64 k.level, .slice pa_k k.pivots.length pc_k, .slice ka_k k.kids.length kc_k, .string k.high.b, .bool k.top, .int .i64 k.right, .int .i64 k.seen, .slice ma_k k.msgs.length mc_k, .slice ra_k k.rows.length rc_k]) 35 (0, 0)) :: ((b2, .cells (List.toArray [.int .i64 p.slot, .int .i64 p.level, .slice pa_p p.pivots.length pc_p, .slice ka_p p.kids.length kc_p, .string p.high.b, .bool p.top, .int .i64 p.right, .int .i64 p.seen, .slice ma_p p.msgs.length mc_p, .slice ra_p p.rows.length rc_p]) 35 (0, 0)) :: ((b1, .cells (List.toArray [.int .i64 cf, .int .i64 cl, .int .i64 cb, .int .i64 cs, .int .i64 cr]) 23 (0, 0)) :: (Ms49 ++ []))))))) ∧ q ≤ (someN ([(kidS p i).lo] ++ p.pivots) ++ [key]).length) (fun q => (someN ([(kidS p i).lo] ++ p.pivots) ++ [key]).length - q) 0 ⟨eqv, eqv, eqv, eqv, eqv, eqv, eqv, eqv, trivial⟩ ?_ ?_
         ·exact ⟨rfl, Nat.zero_le _⟩
         ·rintro q gG55 G55 _ hG55 ⟨rfl, hqX⟩
          have hXl : (someN ([(kidS p i).lo] ++ p.pivots) ++ [key]).length ≤ 20000 := by rw [List.length_append, some_len]; simp; omega
          refine WC.seq ?_
          refine WC.region ?_
          refine W.ok (ok_lss rfl rfl) ?_
          refine W.nil (thn_n ?_)
          refine WC.seq ?_
          refine WC.cond (b := _) rfl (fun h101 => ?_) (fun h101 => ?_)
          ·have p101 := of_decide_eq_true h101
           try dsimp only at p101
           refine WC.skip (thn_n ?_)
           refine WC.seq ?_
           refine WC.block ?_
           refine WC.seq ?_
           refine WC.region ?_
           have q58 := (ho50.mono hG55).at (i := q) (by omega)
           refine match q58 with | ⟨_, he56, e_57⟩ => ?_
           subst e_57
           refine W.ok (ok_indexAddrO (i := q) sl32 ty9 (ho50.mono hG55) rfl rfl ⟨by omega, by omega⟩) ?_
           refine W.ok (ok_loadO (vs := [.string _]) ty9 he56 (pmC (pmC (pmC (pmC (pmC (pmC (List.Perm.refl _))))))) rfl rfl rfl (by simp)) ?_
           refine W.as ?_
           refine W.nil (thn_n ?_)
           refine WC.seq ?_
           refine WC.region ?_
           refine W.ok (ok_fieldB fd35_9 rfl) ?_
           refine W.ok (ok_loadB (i := 3) (vs := [.slice _ _ _]) ty31 rfl rfl rfl rfl (by simp)) ?_
           refine W.mv ?_
           refine W.qcall (rget_fc (hr_k.mono (((((hG4.trans hG5).trans hG31).trans hG32).trans hG47).trans hG55)) ((someN ([(kidS p i).lo] ++ p.pivots) ++ [key])[q]'(by omega))) rfl ?_
           refine W.mv ?_
           refine W.ok (ok_extract rfl rfl) ?_
           refine W.ok (ok_extract rfl rfl) ?_
           refine W.as ?_
           refine W.as ?_
           refine W.nil (thn_n ?_)
           refine WC.seq ?_
           refine WC.region ?_
           refine W.ok (ok_fieldB fd35_9 rfl) ?_
           refine W.ok (ok_loadB (i := 1) (vs := [.slice _ _ _]) ty31 rfl rfl rfl rfl (by simp)) ?_
           refine W.mv ?_
           refine W.qcall (rget_fc (hr_hv7.mono (((hG31.trans hG32).trans hG47).trans hG55)) ((someN ([(kidS p i).lo] ++ p.pivots) ++ [key])[q]'(by omega))) rfl ?_
           refine W.mv ?_
           refine W.ok (ok_extract rfl rfl) ?_
           refine W.ok (ok_extract rfl rfl) ?_
           refine W.as ?_
           refine W.as ?_
           refine W.nil (thn_n ?_)
           refine WC.seq ?_
           refine WC.draw mix (by kernel_rfl) ?_
           refine W.ok (ok_fieldB fd35_8 rfl) ?_
           refine W.ok (ok_loadB (i := 3) (vs := [.slice _ _ _]) ty33 rfl rfl rfl rfl (by simp)) ?_
           refine W.mv ?_
           refine W.qcall (ron18_fc (hm_k.mono (((((hG4.trans hG5).trans hG31).trans hG32).trans hG47).trans hG55)) ((someN ([(kidS p i).lo] ++ p.pivots) ++ [key])[q]'(by omega)) (fun m hm => have h9 := msgR_key (hkR9 m hm); ⟨by omega, h9.2⟩)) rfl ?_
           refine W.ok (ok_fieldB fd35_8 rfl) ?_
           refine W.ok (ok_loadB (i := 4) (vs := [.slice _ _ _]) ty33 rfl rfl rfl rfl (by simp)) ?_
           refine W.mv ?_
           refine W.qcall (ron18_fc (hm_p.mono (((((hG4.trans hG5).trans hG31).trans hG32).trans hG47).trans hG55)) ((someN ([(kidS p i).lo] ++ p.pivots) ++ [key])[q]'(by omega)) (fun m hm => have h9 := msgR_key (hpR9 m hm); ⟨by omega, h9.2⟩)) rfl ?_
           refine W.qcall (rthen_fc (onsN k.msgs ((someN ([(kidS p i).lo] ++ p.pivots) ++ [key])[q]'(by omega))).kind (onsN k.msgs ((someN ([(kidS p i).lo] ++ p.pivots) ++ [key])[q]'(by omega))).val (onsN p.msgs ((someN ([(kidS p i).lo] ++ p.pivots) ++ [key])[q]'(by omega))).kind (onsN p.msgs ((someN ([(kidS p i).lo] ++ p.pivots) ++ [key])[q]'(by omega))).val (by have := onval ((someN ([(kidS p i).lo] ++ p.pivots) ++ [key])[q]'(by omega)) hkR9; omega) (by have := onval ((someN ([(kidS p i).lo] ++ p.pivots) ++ [key])[q]'(by omega)) hpR9; omega) (ons_D _ _)) rfl ?_
           refine W.mv ?_
           refine W.mv ?_
           refine W.qcall (rapply_fc ((onsN k.msgs ((someN ([(kidS p i).lo] ++ p.pivots) ++ [key])[q]'(by omega))).then (onsN p.msgs ((someN ([(kidS p i).lo] ++ p.pivots) ++ [key])[q]'(by omega)))).kind ((onsN k.msgs ((someN ([(kidS p i).lo] ++ p.pivots) ++ [key])[q]'(by omega))).then (onsN p.msgs ((someN ([(kidS p i).lo] ++ p.pivots) ++ [key])[q]'(by omega)))).val (getN k.rows ((someN ([(kidS p i).lo] ++ p.pivots) ++ [key])[q]'(by omega))).isSome ((getN k.rows ((someN ([(kidS p i).lo] ++ p.pivots) ++ [key])[q]'(by omega))).getD Str.nil) (by have := then_val (onval ((someN ([(kidS p i).lo] ++ p.pivots) ++ [key])[q]'(by omega)) hkR9) (onval ((someN ([(kidS p i).lo] ++ p.pivots) ++ [key])[q]'(by omega)) hpR9); omega) (by have := (nd_rowsR hM.1.2.1).val ((someN ([(kidS p i).lo] ++ p.pivots) ++ [key])[q]'(by omega)); omega)) rfl ?_
           refine W.mv ?_
           refine W.ok (ok_extract rfl rfl) ?_
           refine W.ok (ok_extract rfl rfl) ?_
           refine W.as ?_
           refine W.as ?_
           refine W.nil (thn_n ?_)
           refine WC.seq ?_
           refine WC.draw mix (by kernel_rfl) ?_
           refine W.ok (ok_fieldB fd35_8 rfl) ?_
           refine W.ok (ok_loadB (i := 1) (vs := [.slice _ _ _]) ty33 rfl rfl rfl rfl (by simp)) ?_
           refine W.mv ?_
           refine W.qcall (ron18_fc (hm_hv7.mono (((hG31.trans hG32).trans hG47).trans hG55)) ((someN ([(kidS p i).lo] ++ p.pivots) ++ [key])[q]'(by omega)) (fun m hm => have h9 := msgR_key (hbR9 m hm); ⟨by omega, h9.2⟩)) rfl ?_
           refine W.ok (ok_fieldB fd35_8 rfl) ?_
           refine W.ok (ok_loadB (i := 2) (vs := [.slice _ _ _]) ty33 rfl rfl rfl rfl (by simp)) ?_
           refine W.mv ?_
           refine W.qcall (ron18_fc (hm_hv6.mono (((hG31.trans hG32).trans hG47).trans hG55)) ((someN ([(kidS p i).lo] ++ p.pivots) ++ [key])[q]'(by omega)) (fun m hm => have h9 := msgR_key (haR9 m hm); ⟨by omega, h9.2⟩)) rfl ?_
           refine W.qcall (rthen_fc (onsN (pourN cl cb p k i).2.1.msgs ((someN ([(kidS p i).lo] ++ p.pivots) ++ [key])[q]'(by omega))).kind (onsN (pourN cl cb p k i).2.1.msgs ((someN ([(kidS p i).lo] ++ p.pivots) ++ [key])[q]'(by omega))).val (onsN (pourN cl cb p k i).1.msgs ((someN ([(kidS p i).lo] ++ p.pivots) ++ [key])[q]'(by omega))).kind (onsN (pourN cl cb p k i).1.msgs ((someN ([(kidS p i).lo] ++ p.pivots) ++ [key])[q]'(by omega))).val (by have := onval ((someN ([(kidS p i).lo] ++ p.pivots) ++ [key])[q]'(by omega)) hbR9; omega) (by have := onval ((someN ([(kidS p i).lo] ++ p.pivots) ++ [key])[q]'(by omega)) haR9; omega) (ons_D _ _)) rfl ?_
           refine W.mv ?_
           refine W.mv ?_
           refine W.qcall (rapply_fc ((onsN (pourN cl cb p k i).2.1.msgs ((someN ([(kidS p i).lo] ++ p.pivots) ++ [key])[q]'(by omega))).then (onsN (pourN cl cb p k i).1.msgs ((someN ([(kidS p i).lo] ++ p.pivots) ++ [key])[q]'(by omega)))).kind ((onsN (pourN cl cb p k i).2.1.msgs ((someN ([(kidS p i).lo] ++ p.pivots) ++ [key])[q]'(by omega))).then (onsN (pourN cl cb p k i).1.msgs ((someN ([(kidS p i).lo] ++ p.pivots) ++ [key])[q]'(by omega)))).val (getN (pourN cl cb p k i).2.1.rows ((someN ([(kidS p i).lo] ++ p.pivots) ++ [key])[q]'(by omega))).isSome ((getN (pourN cl cb p k i).2.1.rows ((someN ([(kidS p i).lo] ++ p.pivots) ++ [key])[q]'(by omega))).getD Str.nil) (by have := then_val (onval ((someN ([(kidS p i).lo] ++ p.pivots) ++ [key])[q]'(by omega)) hbR9) (onval ((someN ([(kidS p i).lo] ++ p.pivots) ++ [key])[q]'(by omega)) haR9); omega) (by have := (nd_rowsR hAB.1.2.1).val ((someN ([(kidS p i).lo] ++ p.pivots) ++ [key])[q]'(by omega)); omega)) rfl ?_
           refine W.mv ?_
           refine W.ok (ok_extract rfl rfl) ?_
           refine W.ok (ok_extract rfl rfl) ?_
           refine W.as ?_
           refine W.as ?_
           refine W.nil (thn_n ?_)
           refine WC.seq ?_
           refine WC.region ?_
           refine W.ok (ok_loadB (i := 0) (vs := [.string _, .string _, .bool _]) ty37 rfl rfl rfl rfl (by simp)) ?_
           refine W.mv ?_
           refine W.qcall (has_fc _ _ _ _) rfl ?_
           refine W.mv ?_
           refine W.sp 151 rfl (fun h150 => ?_) (fun h150 => ?_)
           ·have hget := hlw ((someN ([(kidS p i).lo] ++ p.pivots) ++ [key])[q]'(by omega)) (by simpa using h150)
            refine W.yes (dj := 151) rfl rfl h150 ?_
            refine W.mv ?_
            refine W.yes (dj := 151) rfl rfl h150 ?_
            refine W.mv ?_
            refine W.yes (dj := 151) rfl rfl h150 ?_
            refine W.ok (ok_neqB bo4 rfl rfl) ?_
            refine W.yes (dj := 151) rfl rfl h150 ?_
            refine W.mv ?_
            refine W.sp 155 rfl (fun h154 => ?_) (fun h154 => ?_)
            ·exfalso
             have e9 : (!((((onsN (pourN cl cb p k i).2.1.msgs ((someN ([(kidS p i).lo] ++ p.pivots) ++ [key])[q]'(by omega))).then (onsN (pourN cl cb p k i).1.msgs ((someN ([(kidS p i).lo] ++ p.pivots) ++ [key])[q]'(by omega)))).apply (optS (getN (pourN cl cb p k i).2.1.rows ((someN ([(kidS p i).lo] ++ p.pivots) ++ [key])[q]'(by omega))).isSome ((getN (pourN cl cb p k i).2.1.rows ((someN ([(kidS p i).lo] ++ p.pivots) ++ [key])[q]'(by omega))).getD Str.nil))).isSome == (((onsN k.msgs ((someN ([(kidS p i).lo] ++ p.pivots) ++ [key])[q]'(by omega))).then (onsN p.msgs ((someN ([(kidS p i).lo] ++ p.pivots) ++ [key])[q]'(by omega)))).apply (optS (getN k.rows ((someN ([(kidS p i).lo] ++ p.pivots) ++ [key])[q]'(by omega))).isSome ((getN k.rows ((someN ([(kidS p i).lo] ++ p.pivots) ++ [key])[q]'(by omega))).getD Str.nil))).isSome)) = true := h154
             rw [← hget] at e9
             simp at e9
            ·refine W.yes (dj := 155) rfl rfl h154 ?_
             refine W.mv ?_
             refine W.yes (dj := 155) rfl rfl h154 ?_
             refine W.mv ?_
             refine W.yes (dj := 155) rfl rfl h154 ?_
             refine W.ok (ok_neqS rfl rfl) ?_
             refine W.yes (dj := 151) rfl rfl h150 ?_
             refine W.ok (ok_pick_f rfl h154) ?_
             refine W.ok (ok_pick_t rfl h150) ?_
             refine W.nil (thn_n ?_)
             refine WC.cond (b := _) rfl (fun h158 => ?_) (fun h158 => ?_)
             ·have p158 := nd_t h158
              try dsimp only at p158
              exfalso
              have e9 : ¬ ((((onsN k.msgs ((someN ([(kidS p i).lo] ++ p.pivots) ++ [key])[q]'(by omega))).then (onsN p.msgs ((someN ([(kidS p i).lo] ++ p.pivots) ++ [key])[q]'(by omega)))).apply (optS (getN k.rows ((someN ([(kidS p i).lo] ++ p.pivots) ++ [key])[q]'(by omega))).isSome ((getN k.rows ((someN ([(kidS p i).lo] ++ p.pivots) ++ [key])[q]'(by omega))).getD Str.nil))).getD Str.nil).b = ((((onsN (pourN cl cb p k i).2.1.msgs ((someN ([(kidS p i).lo] ++ p.pivots) ++ [key])[q]'(by omega))).then (onsN (pourN cl cb p k i).1.msgs ((someN ([(kidS p i).lo] ++ p.pivots) ++ [key])[q]'(by omega)))).apply (optS (getN (pourN cl cb p k i).2.1.rows ((someN ([(kidS p i).lo] ++ p.pivots) ++ [key])[q]'(by omega))).isSome ((getN (pourN cl cb p k i).2.1.rows ((someN ([(kidS p i).lo] ++ p.pivots) ++ [key])[q]'(by omega))).getD Str.nil))).getD Str.nil).b := p158
              exact e9 (by rw [hget])
             ·have p158 := nd_f h158
              try dsimp only at p158
              refine WC.skip (blk_n (thn_n ?_))
              refine WC.region ?_
              refine W.ok (ok_add rfl rfl (by omega)) ?_
              refine W.mv ?_
              refine W.nil (thn_n ?_)
              exact ⟨Le.rfl, q + 1, ⟨eqv, eqv, eqv, eqv, eqv, eqv, eqv, eqv, trivial⟩, ⟨rfl, by omega⟩, by omega⟩
           ·refine W.no (dj := 151) rfl rfl h150 ?_
            refine W.no (dj := 151) rfl rfl h150 ?_
            refine W.no (dj := 151) rfl rfl h150 ?_
            refine W.no (dj := 151) rfl rfl h150 ?_
            refine W.nou (dj := 155) rfl rfl ?_
            refine W.nou (dj := 155) rfl rfl ?_
            refine W.nou (dj := 155) rfl rfl ?_
            refine W.no (dj := 151) rfl rfl h150 ?_
            refine W.ok (ok_pick_f rfl h150) ?_
            refine W.nil (thn_n ?_)
            refine WC.cond_f rfl rfl ?_
            refine WC.skip (blk_n (thn_n ?_))
            refine WC.region ?_
            refine W.ok (ok_add rfl rfl (by omega)) ?_
            refine W.mv ?_
            refine W.nil (thn_n ?_)
            exact ⟨Le.rfl, q + 1, ⟨eqv, eqv, eqv, eqv, eqv, eqv, eqv, eqv, trivial⟩, ⟨rfl, by omega⟩, by omega⟩
          ·have p101 := of_decide_eq_false h101
           try dsimp only at p101
           refine WC.exit (thn_x (thn_x (blk_h (thn_n ?_))))
           refine WC.seq ?_
           refine WC.region ?_
           refine W.qcall (awake23_fc) rfl ?_
           refine W.as ?_
           refine W.nil (thn_n ?_)
           refine WC.ret ?_
           refine ⟨.inr rfl, [_], ⟨rfl, trivial⟩, [], List.nil_sublist _, ?_⟩
           rfl
        ·refine W.alloc zr37 (fun b59 => ?_)
         refine W.nil ⟨Le.rfl, ((((((List.Sublist.refl _).cons_cons _).cons_cons _).cons_cons _).cons_cons _).cons_cons _).cons _, _, ((((((List.Sublist.refl _).cons_cons _).cons_cons _).cons_cons _).cons_cons _).cons_cons _).cons _, List.Sublist.refl _, ?_⟩
         refine WD.any [6] (by kernel_rfl) rfl ⟨⟨_, rfl, rfl, ?_⟩, trivial⟩
         refine W.qcall (rmeet_fc _ _ _ _ _ _) rfl ?_
         refine W.nil ⟨Le.rfl, ((((((List.Sublist.refl _).cons_cons _).cons_cons _).cons_cons _).cons_cons _).cons_cons _).cons _, _, ((((((List.Sublist.refl _).cons_cons _).cons_cons _).cons_cons _).cons_cons _).cons_cons _).cons _, List.Sublist.refl _, ?_⟩
         refine WD.any [8] (by kernel_rfl) rfl ⟨⟨_, rfl, rfl, ?_⟩, trivial⟩
         refine W.store (i := 0) (vs := [.string _, .string _, .bool _]) (L' := [.string _, .string _, .bool _]) ty37 rfl rfl rfl rfl rfl rfl rfl rfl ?_
         refine W.nil ⟨Le.rfl, ((((((List.Sublist.refl _).cons_cons _).cons_cons _).cons_cons _).cons_cons _).cons_cons _).cons _, _, ((((((List.Sublist.refl _).cons_cons _).cons_cons _).cons_cons _).cons_cons _).cons_cons _).cons _, List.Sublist.refl _, ?_⟩
         refine WD.done (by kernel_rfl) (thn_n ?_)
         refine WC.seq ?_
         refine WC.seq ?_
         refine WC.region ?_
         refine W.ok (ok_fieldB fd37_0 rfl) ?_
         refine W.ok (ok_loadB (i := 0) (vs := [.string _]) ty9 rfl rfl rfl rfl (by simp)) ?_
         refine W.litO (e := eStr) (l := [(kidS p i).lo]) (css := [[.string _]]) sl32 ty9 zr9 rfl rfl rfl rfl rfl rfl ⟨rfl, trivial⟩ (fun v60 Ms61 ho62 => ?_)
         refine W.perm (pmC (pmC (pmC (pmC (pmC (pmC (List.Perm.refl _))))))).symm ?_
         have q66 := ho62.form
         refine match q66 with | ⟨sa63, sc64, e_65⟩ => ?_
         subst e_65
         refine W.ok (ok_fieldB fd35_2 rfl) ?_
         refine W.ok (ok_loadB (i := 4) (vs := [.slice _ _ _]) ty32 rfl rfl rfl rfl (by simp)) ?_
         refine W.app (e := eStr) sl32 ty9 zr9 rfl by9 rfl rfl (ho62) ((hp_p.mono (hG4.trans hG5))) (pmC (pmC (pmC (pmC (pmC (pmC (List.Perm.refl _))))))) (by show (List.length _ + List.length _) * 16 ≤ _; simp; omega) (fun v67 Ms68 ho69 => ?_)
         refine W.perm (pmC (pmC (pmC (pmC (pmC (pmC (List.Perm.refl _))))))).symm ?_
         have q73 := ho69.form
         refine match q73 with | ⟨sa70, sc71, e_72⟩ => ?_
         subst e_72
         refine W.giveO ho69 (pmC (pmC (pmC (pmC (pmC (pmC (List.Perm.refl _))))))) (fun G74 hG74 hv74 => ?_)
         refine W.call (Mp := []) (some_fc hv74 (fun a ha => by have := hsz9 a ha; omega) (by simp; omega)) rfl (List.Perm.refl _) ?_
         rintro v76 G75 Ms77 hG75 ho78
         refine W.perm (pmC (pmC (pmC (pmC (pmC (pmC (List.Perm.refl _))))))).symm ?_
         have q82 := ho78.form
         refine match q82 with | ⟨sa79, sc80, e_81⟩ => ?_
         subst e_81
         refine W.mv ?_
         refine W.litO (e := eStr) (l := [key]) (css := [[.string _]]) sl32 ty9 zr9 rfl rfl rfl rfl rfl rfl ⟨rfl, trivial⟩ (fun v83 Ms84 ho85 => ?_)
         refine W.perm (pmC (pmC (pmC (pmC (pmC (pmC (List.Perm.refl _))))))).symm ?_
         have q89 := ho85.form
         refine match q89 with | ⟨sa86, sc87, e_88⟩ => ?_
         subst e_88
         refine W.giveO ho85 (pmC (pmC (pmC (pmC (pmC (pmC (List.Perm.refl _))))))) (fun G90 hG90 hv90 => ?_)
         refine W.app (e := eStr) sl32 ty9 zr9 rfl by9 rfl rfl ((ho78.mono hG90)) (hv90) (pmC (pmC (pmC (pmC (pmC (pmC (List.Perm.refl _))))))) (by show (List.length _ + List.length _) * 16 ≤ _; have := some_len ([(kidS p i).lo] ++ p.pivots); simp at this ⊢; omega) (fun v91 Ms92 ho93 => ?_)
         refine W.perm (pmC (pmC (pmC (pmC (pmC (pmC (List.Perm.refl _))))))).symm ?_
         have q97 := ho93.form
         refine match q97 with | ⟨sa94, sc95, e_96⟩ => ?_
         subst e_96
         refine W.ok (ok_lenO sl32 ho93 rfl) ?_
         refine W.mv ?_
         refine W.nil (thn_n ?_)
         refine WC.block ?_
         refine WC.loop (X := Nat) (fun q => [(100, .int .i64 ((q : Nat) : Int)), (98, .slice sa94 ((someN ([(kidS p i).lo] ++ p.pivots) ++ [key])).length sc95), (6, .pointer (some ⟨b2, 0, none⟩)), (7, .pointer (some ⟨b3, 0, none⟩)), (11, .pointer (some ⟨b14, 0, none⟩)), (12, .pointer (some ⟨b15, 0, none⟩)), (14, .pointer (some ⟨b59, 0, none⟩)), (99, .int .i64 ((((someN ([(kidS p i).lo] ++ p.pivots) ++ [key])).length : Nat) : Int))]) (fun q _ Ml => Ml = ((b59, .cells (List.toArray [.string ((kidS p i)).lo.b, .string ((kidS p i)).hi.b, .bool ((kidS p i)).opn]) 37 (0, 0)) :: ((b15, .cells (List.toArray [.int .i64 ((pourN cl cb p k i).2.1).slot, .int .i64 ((pourN cl cb p k i).2.1).level, .slice pa_hv7 (((pourN cl cb p k i).2.1).pivots).length pc_hv7, .slice ka_hv7 (((pourN cl cb p k i).2.1).kids).length kc_hv7, .string ((pourN cl cb p k i).2.1).high.b, .bool ((pourN cl cb p k i).2.1).top, .int .i64 ((pourN cl cb p k i).2.1).right, .int .i64 ((pourN cl cb p k i).2.1).seen, .slice ma_hv7 (((pourN cl cb p k i).2.1).msgs).length mc_hv7, .slice ra_hv7 (((pourN cl cb p k i).2.1).rows).length rc_hv7]) 35 (0, 0)) :: ((b14, .cells (List.toArray [.int .i64 ((pourN cl cb p k i).1).slot, .int .i64 ((pourN cl cb p k i).1).level, .slice pa_hv6 (((pourN cl cb p k i).1).pivots).length pc_hv6, .slice ka_hv6 (((pourN cl cb p k i).1).kids).length kc_hv6, .string ((pourN cl cb p k i).1).high.b, .bool ((pourN cl cb p k i).1).top, .int .i64 ((pourN cl cb p k i).1).right, .int .i64 ((pourN cl cb p k i).1).seen, .slice ma_hv6 (((pourN cl cb p k i).1).msgs).length mc_hv6, .slice ra_hv6 (((pourN cl cb p k i).1).rows).length rc_hv6]) 35 (0, 0)) :: ((b3, .cells (List.toArray [.int .i64 k.slot, .int .i64 k.level, .slice pa_k k.pivots.length pc_k, .slice ka_k k.kids.length kc_k, .string k.high.b, .bool k.top, .int .i64 k.right, .int .i64 k.seen, .slice ma_k k.msgs.length mc_k, .slice ra_k k.rows.length rc_k]) 35 (0, 0)) :: ((b2, .cells (List.toArray [.int .i64 p.slot, .int .i64 p.level, .slice pa_p p.pivots.length pc_p, .slice ka_p p.kids.length kc_p, .string p.high.b, .bool p.top, .int .i64 p.right, .int .i64 p.seen, .slice ma_p p.msgs.length mc_p, .slice ra_p p.rows.length rc_p]) 35 (0, 0)) :: ((b1, .cells (List.toArray [.int .i64 cf, .int .i64 cl, .int .i64 cb, .int .i64 cs, .int .i64 cr]) 23 (0, 0)) :: (Ms92 ++ []))))))) ∧ q ≤ (someN ([(kidS p i).lo] ++ p.pivots) ++ [key]).length) (fun q => (someN ([(kidS p i).lo] ++ p.pivots) ++ [key]).length - q) 0 ⟨eqv, eqv, eqv, eqv, eqv, eqv, eqv, eqv, trivial⟩ ?_ ?_
         ·exact ⟨rfl, Nat.zero_le _⟩
         ·rintro q gG98 G98 _ hG98 ⟨rfl, hqX⟩
          have hXl : (someN ([(kidS p i).lo] ++ p.pivots) ++ [key]).length ≤ 20000 := by rw [List.length_append, some_len]; simp; omega
          refine WC.seq ?_
          refine WC.region ?_
          refine W.ok (ok_lss rfl rfl) ?_
          refine W.nil (thn_n ?_)
          refine WC.seq ?_
          refine WC.cond (b := _) rfl (fun h101 => ?_) (fun h101 => ?_)
          ·have p101 := of_decide_eq_true h101
           try dsimp only at p101
           refine WC.skip (thn_n ?_)
           refine WC.seq ?_
           refine WC.block ?_
           refine WC.seq ?_
           refine WC.region ?_
           have q101 := (ho93.mono hG98).at (i := q) (by omega)
           refine match q101 with | ⟨_, he99, e_100⟩ => ?_
           subst e_100
           refine W.ok (ok_indexAddrO (i := q) sl32 ty9 (ho93.mono hG98) rfl rfl ⟨by omega, by omega⟩) ?_
           refine W.ok (ok_loadO (vs := [.string _]) ty9 he99 (pmC (pmC (pmC (pmC (pmC (pmC (List.Perm.refl _))))))) rfl rfl rfl (by simp)) ?_
           refine W.as ?_
           refine W.nil (thn_n ?_)
           refine WC.seq ?_
           refine WC.region ?_
           refine W.ok (ok_fieldB fd35_9 rfl) ?_
           refine W.ok (ok_loadB (i := 3) (vs := [.slice _ _ _]) ty31 rfl rfl rfl rfl (by simp)) ?_
           refine W.mv ?_
           refine W.qcall (rget_fc (hr_k.mono (((((hG4.trans hG5).trans hG74).trans hG75).trans hG90).trans hG98)) ((someN ([(kidS p i).lo] ++ p.pivots) ++ [key])[q]'(by omega))) rfl ?_
           refine W.mv ?_
           refine W.ok (ok_extract rfl rfl) ?_
           refine W.ok (ok_extract rfl rfl) ?_
           refine W.as ?_
           refine W.as ?_
           refine W.nil (thn_n ?_)
           refine WC.seq ?_
           refine WC.region ?_
           refine W.ok (ok_fieldB fd35_9 rfl) ?_
           refine W.ok (ok_loadB (i := 1) (vs := [.slice _ _ _]) ty31 rfl rfl rfl rfl (by simp)) ?_
           refine W.mv ?_
           refine W.qcall (rget_fc (hr_hv7.mono (((hG74.trans hG75).trans hG90).trans hG98)) ((someN ([(kidS p i).lo] ++ p.pivots) ++ [key])[q]'(by omega))) rfl ?_
           refine W.mv ?_
           refine W.ok (ok_extract rfl rfl) ?_
           refine W.ok (ok_extract rfl rfl) ?_
           refine W.as ?_
           refine W.as ?_
           refine W.nil (thn_n ?_)
           refine WC.seq ?_
           refine WC.draw mix (by kernel_rfl) ?_
           refine W.ok (ok_fieldB fd35_8 rfl) ?_
           refine W.ok (ok_loadB (i := 3) (vs := [.slice _ _ _]) ty33 rfl rfl rfl rfl (by simp)) ?_
           refine W.mv ?_
           refine W.qcall (ron18_fc (hm_k.mono (((((hG4.trans hG5).trans hG74).trans hG75).trans hG90).trans hG98)) ((someN ([(kidS p i).lo] ++ p.pivots) ++ [key])[q]'(by omega)) (fun m hm => have h9 := msgR_key (hkR9 m hm); ⟨by omega, h9.2⟩)) rfl ?_
           refine W.ok (ok_fieldB fd35_8 rfl) ?_
           refine W.ok (ok_loadB (i := 4) (vs := [.slice _ _ _]) ty33 rfl rfl rfl rfl (by simp)) ?_
           refine W.mv ?_
           refine W.qcall (ron18_fc (hm_p.mono (((((hG4.trans hG5).trans hG74).trans hG75).trans hG90).trans hG98)) ((someN ([(kidS p i).lo] ++ p.pivots) ++ [key])[q]'(by omega)) (fun m hm => have h9 := msgR_key (hpR9 m hm); ⟨by omega, h9.2⟩)) rfl ?_
           refine W.qcall (rthen_fc (onsN k.msgs ((someN ([(kidS p i).lo] ++ p.pivots) ++ [key])[q]'(by omega))).kind (onsN k.msgs ((someN ([(kidS p i).lo] ++ p.pivots) ++ [key])[q]'(by omega))).val (onsN p.msgs ((someN ([(kidS p i).lo] ++ p.pivots) ++ [key])[q]'(by omega))).kind (onsN p.msgs ((someN ([(kidS p i).lo] ++ p.pivots) ++ [key])[q]'(by omega))).val (by have := onval ((someN ([(kidS p i).lo] ++ p.pivots) ++ [key])[q]'(by omega)) hkR9; omega) (by have := onval ((someN ([(kidS p i).lo] ++ p.pivots) ++ [key])[q]'(by omega)) hpR9; omega) (ons_D _ _)) rfl ?_
           refine W.mv ?_
           refine W.mv ?_
           refine W.qcall (rapply_fc ((onsN k.msgs ((someN ([(kidS p i).lo] ++ p.pivots) ++ [key])[q]'(by omega))).then (onsN p.msgs ((someN ([(kidS p i).lo] ++ p.pivots) ++ [key])[q]'(by omega)))).kind ((onsN k.msgs ((someN ([(kidS p i).lo] ++ p.pivots) ++ [key])[q]'(by omega))).then (onsN p.msgs ((someN ([(kidS p i).lo] ++ p.pivots) ++ [key])[q]'(by omega)))).val (getN k.rows ((someN ([(kidS p i).lo] ++ p.pivots) ++ [key])[q]'(by omega))).isSome ((getN k.rows ((someN ([(kidS p i).lo] ++ p.pivots) ++ [key])[q]'(by omega))).getD Str.nil) (by have := then_val (onval ((someN ([(kidS p i).lo] ++ p.pivots) ++ [key])[q]'(by omega)) hkR9) (onval ((someN ([(kidS p i).lo] ++ p.pivots) ++ [key])[q]'(by omega)) hpR9); omega) (by have := (nd_rowsR hM.1.2.1).val ((someN ([(kidS p i).lo] ++ p.pivots) ++ [key])[q]'(by omega)); omega)) rfl ?_
           refine W.mv ?_
           refine W.ok (ok_extract rfl rfl) ?_
           refine W.ok (ok_extract rfl rfl) ?_
           refine W.as ?_
           refine W.as ?_
           refine W.nil (thn_n ?_)
           refine WC.seq ?_
           refine WC.draw mix (by kernel_rfl) ?_
           refine W.ok (ok_fieldB fd35_8 rfl) ?_
           refine W.ok (ok_loadB (i := 1) (vs := [.slice _ _ _]) ty33 rfl rfl rfl rfl (by simp)) ?_
           refine W.mv ?_
           refine W.qcall (ron18_fc (hm_hv7.mono (((hG74.trans hG75).trans hG90).trans hG98)) ((someN ([(kidS p i).lo] ++ p.pivots) ++ [key])[q]'(by omega)) (fun m hm => have h9 := msgR_key (hbR9 m hm); ⟨by omega, h9.2⟩)) rfl ?_
           refine W.ok (ok_fieldB fd35_8 rfl) ?_
           refine W.ok (ok_loadB (i := 2) (vs := [.slice _ _ _]) ty33 rfl rfl rfl rfl (by simp)) ?_
           refine W.mv ?_
           refine W.qcall (ron18_fc (hm_hv6.mono (((hG74.trans hG75).trans hG90).trans hG98)) ((someN ([(kidS p i).lo] ++ p.pivots) ++ [key])[q]'(by omega)) (fun m hm => have h9 := msgR_key (haR9 m hm); ⟨by omega, h9.2⟩)) rfl ?_
           refine W.qcall (rthen_fc (onsN (pourN cl cb p k i).2.1.msgs ((someN ([(kidS p i).lo] ++ p.pivots) ++ [key])[q]'(by omega))).kind (onsN (pourN cl cb p k i).2.1.msgs ((someN ([(kidS p i).lo] ++ p.pivots) ++ [key])[q]'(by omega))).val (onsN (pourN cl cb p k i).1.msgs ((someN ([(kidS p i).lo] ++ p.pivots) ++ [key])[q]'(by omega))).kind (onsN (pourN cl cb p k i).1.msgs ((someN ([(kidS p i).lo] ++ p.pivots) ++ [key])[q]'(by omega))).val (by have := onval ((someN ([(kidS p i).lo] ++ p.pivots) ++ [key])[q]'(by omega)) hbR9; omega) (by have := onval ((someN ([(kidS p i).lo] ++ p.pivots) ++ [key])[q]'(by omega)) haR9; omega) (ons_D _ _)) rfl ?_
           refine W.mv ?_
           refine W.mv ?_
           refine W.qcall (rapply_fc ((onsN (pourN cl cb p k i).2.1.msgs ((someN ([(kidS p i).lo] ++ p.pivots) ++ [key])[q]'(by omega))).then (onsN (pourN cl cb p k i).1.msgs ((someN ([(kidS p i).lo] ++ p.pivots) ++ [key])[q]'(by omega)))).kind ((onsN (pourN cl cb p k i).2.1.msgs ((someN ([(kidS p i).lo] ++ p.pivots) ++ [key])[q]'(by omega))).then (onsN (pourN cl cb p k i).1.msgs ((someN ([(kidS p i).lo] ++ p.pivots) ++ [key])[q]'(by omega)))).val (getN (pourN cl cb p k i).2.1.rows ((someN ([(kidS p i).lo] ++ p.pivots) ++ [key])[q]'(by omega))).isSome ((getN (pourN cl cb p k i).2.1.rows ((someN ([(kidS p i).lo] ++ p.pivots) ++ [key])[q]'(by omega))).getD Str.nil) (by have := then_val (onval ((someN ([(kidS p i).lo] ++ p.pivots) ++ [key])[q]'(by omega)) hbR9) (onval ((someN ([(kidS p i).lo] ++ p.pivots) ++ [key])[q]'(by omega)) haR9); omega) (by have := (nd_rowsR hAB.1.2.1).val ((someN ([(kidS p i).lo] ++ p.pivots) ++ [key])[q]'(by omega)); omega)) rfl ?_
           refine W.mv ?_
           refine W.ok (ok_extract rfl rfl) ?_
           refine W.ok (ok_extract rfl rfl) ?_
           refine W.as ?_
           refine W.as ?_
           refine W.nil (thn_n ?_)
           refine WC.seq ?_
           refine WC.region ?_
           refine W.ok (ok_loadB (i := 0) (vs := [.string _, .string _, .bool _]) ty37 rfl rfl rfl rfl (by simp)) ?_
           refine W.mv ?_
           refine W.qcall (has_fc _ _ _ _) rfl ?_
           refine W.mv ?_
           refine W.sp 151 rfl (fun h150 => ?_) (fun h150 => ?_)
           ·have hget := hlw ((someN ([(kidS p i).lo] ++ p.pivots) ++ [key])[q]'(by omega)) (by simpa using h150)
            refine W.yes (dj := 151) rfl rfl h150 ?_
            refine W.mv ?_
            refine W.yes (dj := 151) rfl rfl h150 ?_
            refine W.mv ?_
            refine W.yes (dj := 151) rfl rfl h150 ?_
            refine W.ok (ok_neqB bo4 rfl rfl) ?_
            refine W.yes (dj := 151) rfl rfl h150 ?_
            refine W.mv ?_
            refine W.sp 155 rfl (fun h154 => ?_) (fun h154 => ?_)
            ·exfalso
             have e9 : (!((((onsN (pourN cl cb p k i).2.1.msgs ((someN ([(kidS p i).lo] ++ p.pivots) ++ [key])[q]'(by omega))).then (onsN (pourN cl cb p k i).1.msgs ((someN ([(kidS p i).lo] ++ p.pivots) ++ [key])[q]'(by omega)))).apply (optS (getN (pourN cl cb p k i).2.1.rows ((someN ([(kidS p i).lo] ++ p.pivots) ++ [key])[q]'(by omega))).isSome ((getN (pourN cl cb p k i).2.1.rows ((someN ([(kidS p i).lo] ++ p.pivots) ++ [key])[q]'(by omega))).getD Str.nil))).isSome == (((onsN k.msgs ((someN ([(kidS p i).lo] ++ p.pivots) ++ [key])[q]'(by omega))).then (onsN p.msgs ((someN ([(kidS p i).lo] ++ p.pivots) ++ [key])[q]'(by omega)))).apply (optS (getN k.rows ((someN ([(kidS p i).lo] ++ p.pivots) ++ [key])[q]'(by omega))).isSome ((getN k.rows ((someN ([(kidS p i).lo] ++ p.pivots) ++ [key])[q]'(by omega))).getD Str.nil))).isSome)) = true := h154
             rw [← hget] at e9
             simp at e9
            ·refine W.yes (dj := 155) rfl rfl h154 ?_
             refine W.mv ?_
             refine W.yes (dj := 155) rfl rfl h154 ?_
             refine W.mv ?_
             refine W.yes (dj := 155) rfl rfl h154 ?_
             refine W.ok (ok_neqS rfl rfl) ?_
             refine W.yes (dj := 151) rfl rfl h150 ?_
             refine W.ok (ok_pick_f rfl h154) ?_
             refine W.ok (ok_pick_t rfl h150) ?_
             refine W.nil (thn_n ?_)
             refine WC.cond (b := _) rfl (fun h158 => ?_) (fun h158 => ?_)
             ·have p158 := nd_t h158
              try dsimp only at p158
              exfalso
              have e9 : ¬ ((((onsN k.msgs ((someN ([(kidS p i).lo] ++ p.pivots) ++ [key])[q]'(by omega))).then (onsN p.msgs ((someN ([(kidS p i).lo] ++ p.pivots) ++ [key])[q]'(by omega)))).apply (optS (getN k.rows ((someN ([(kidS p i).lo] ++ p.pivots) ++ [key])[q]'(by omega))).isSome ((getN k.rows ((someN ([(kidS p i).lo] ++ p.pivots) ++ [key])[q]'(by omega))).getD Str.nil))).getD Str.nil).b = ((((onsN (pourN cl cb p k i).2.1.msgs ((someN ([(kidS p i).lo] ++ p.pivots) ++ [key])[q]'(by omega))).then (onsN (pourN cl cb p k i).1.msgs ((someN ([(kidS p i).lo] ++ p.pivots) ++ [key])[q]'(by omega)))).apply (optS (getN (pourN cl cb p k i).2.1.rows ((someN ([(kidS p i).lo] ++ p.pivots) ++ [key])[q]'(by omega))).isSome ((getN (pourN cl cb p k i).2.1.rows ((someN ([(kidS p i).lo] ++ p.pivots) ++ [key])[q]'(by omega))).getD Str.nil))).getD Str.nil).b := p158
              exact e9 (by rw [hget])
             ·have p158 := nd_f h158
              try dsimp only at p158
              refine WC.skip (blk_n (thn_n ?_))
              refine WC.region ?_
              refine W.ok (ok_add rfl rfl (by omega)) ?_
              refine W.mv ?_
              refine W.nil (thn_n ?_)
              exact ⟨Le.rfl, q + 1, ⟨eqv, eqv, eqv, eqv, eqv, eqv, eqv, eqv, trivial⟩, ⟨rfl, by omega⟩, by omega⟩
           ·refine W.no (dj := 151) rfl rfl h150 ?_
            refine W.no (dj := 151) rfl rfl h150 ?_
            refine W.no (dj := 151) rfl rfl h150 ?_
            refine W.no (dj := 151) rfl rfl h150 ?_
            refine W.nou (dj := 155) rfl rfl ?_
            refine W.nou (dj := 155) rfl rfl ?_
            refine W.nou (dj := 155) rfl rfl ?_
            refine W.no (dj := 151) rfl rfl h150 ?_
            refine W.ok (ok_pick_f rfl h150) ?_
            refine W.nil (thn_n ?_)
            refine WC.cond_f rfl rfl ?_
            refine WC.skip (blk_n (thn_n ?_))
            refine WC.region ?_
            refine W.ok (ok_add rfl rfl (by omega)) ?_
            refine W.mv ?_
            refine W.nil (thn_n ?_)
            exact ⟨Le.rfl, q + 1, ⟨eqv, eqv, eqv, eqv, eqv, eqv, eqv, eqv, trivial⟩, ⟨rfl, by omega⟩, by omega⟩
          ·have p101 := of_decide_eq_false h101
           try dsimp only at p101
           refine WC.exit (thn_x (thn_x (blk_h (thn_n ?_))))
           refine WC.seq ?_
           refine WC.region ?_
           refine W.qcall (awake23_fc) rfl ?_
           refine W.as ?_
           refine W.nil (thn_n ?_)
           refine WC.ret ?_
           refine ⟨.inr rfl, [_], ⟨rfl, trivial⟩, [], List.nil_sublist _, ?_⟩
           rfl
       ·refine W.alloc zr37 (fun b102 => ?_)
        refine W.nil ⟨Le.rfl, ((((((List.Sublist.refl _).cons_cons _).cons_cons _).cons_cons _).cons_cons _).cons_cons _).cons _, _, ((((((List.Sublist.refl _).cons_cons _).cons_cons _).cons_cons _).cons_cons _).cons_cons _).cons _, List.Sublist.refl _, ?_⟩
        refine WD.any [5] (by kernel_rfl) rfl ⟨⟨_, rfl, rfl, ?_⟩, trivial⟩
        refine W.qcall (rrange_fc (hp_p.mono (hG4.trans hG5)) _ ⟨by omega, by omega⟩) rfl ?_
        refine W.nil ⟨Le.rfl, ((((((List.Sublist.refl _).cons_cons _).cons_cons _).cons_cons _).cons_cons _).cons_cons _).cons _, _, ((((((List.Sublist.refl _).cons_cons _).cons_cons _).cons_cons _).cons_cons _).cons_cons _).cons _, List.Sublist.refl _, ?_⟩
        refine WD.any [6] (by kernel_rfl) rfl ⟨⟨_, rfl, rfl, ?_⟩, trivial⟩
        refine W.qcall (rmeet_fc _ _ _ _ _ _) rfl ?_
        refine W.nil ⟨Le.rfl, ((((((List.Sublist.refl _).cons_cons _).cons_cons _).cons_cons _).cons_cons _).cons_cons _).cons _, _, ((((((List.Sublist.refl _).cons_cons _).cons_cons _).cons_cons _).cons_cons _).cons_cons _).cons _, List.Sublist.refl _, ?_⟩
        refine WD.any [8] (by kernel_rfl) rfl ⟨⟨_, rfl, rfl, ?_⟩, trivial⟩
        refine W.store (i := 0) (vs := [.string _, .string _, .bool _]) (L' := [.string _, .string _, .bool _]) ty37 rfl rfl rfl rfl rfl rfl rfl rfl ?_
        refine W.nil ⟨Le.rfl, ((((((List.Sublist.refl _).cons_cons _).cons_cons _).cons_cons _).cons_cons _).cons_cons _).cons _, _, ((((((List.Sublist.refl _).cons_cons _).cons_cons _).cons_cons _).cons_cons _).cons_cons _).cons _, List.Sublist.refl _, ?_⟩
        refine WD.done (by kernel_rfl) (thn_n ?_)
        refine WC.seq ?_
        refine WC.seq ?_
        refine WC.region ?_
        refine W.ok (ok_fieldB fd37_0 rfl) ?_
        refine W.ok (ok_loadB (i := 0) (vs := [.string _]) ty9 rfl rfl rfl rfl (by simp)) ?_
        refine W.litO (e := eStr) (l := [(kidS p i).lo]) (css := [[.string _]]) sl32 ty9 zr9 rfl rfl rfl rfl rfl rfl ⟨rfl, trivial⟩ (fun v103 Ms104 ho105 => ?_)
        refine W.perm (pmC (pmC (pmC (pmC (pmC (pmC (List.Perm.refl _))))))).symm ?_
        have q109 := ho105.form
        refine match q109 with | ⟨sa106, sc107, e_108⟩ => ?_
        subst e_108
        refine W.ok (ok_fieldB fd35_2 rfl) ?_
        refine W.ok (ok_loadB (i := 4) (vs := [.slice _ _ _]) ty32 rfl rfl rfl rfl (by simp)) ?_
        refine W.app (e := eStr) sl32 ty9 zr9 rfl by9 rfl rfl (ho105) ((hp_p.mono (hG4.trans hG5))) (pmC (pmC (pmC (pmC (pmC (pmC (List.Perm.refl _))))))) (by show (List.length _ + List.length _) * 16 ≤ _; simp; omega) (fun v110 Ms111 ho112 => ?_)
        refine W.perm (pmC (pmC (pmC (pmC (pmC (pmC (List.Perm.refl _))))))).symm ?_
        have q116 := ho112.form
        refine match q116 with | ⟨sa113, sc114, e_115⟩ => ?_
        subst e_115
        refine W.giveO ho112 (pmC (pmC (pmC (pmC (pmC (pmC (List.Perm.refl _))))))) (fun G117 hG117 hv117 => ?_)
        refine W.call (Mp := []) (some_fc hv117 (fun a ha => by have := hsz9 a ha; omega) (by simp; omega)) rfl (List.Perm.refl _) ?_
        rintro v119 G118 Ms120 hG118 ho121
        refine W.perm (pmC (pmC (pmC (pmC (pmC (pmC (List.Perm.refl _))))))).symm ?_
        have q125 := ho121.form
        refine match q125 with | ⟨sa122, sc123, e_124⟩ => ?_
        subst e_124
        refine W.mv ?_
        refine W.litO (e := eStr) (l := [key]) (css := [[.string _]]) sl32 ty9 zr9 rfl rfl rfl rfl rfl rfl ⟨rfl, trivial⟩ (fun v126 Ms127 ho128 => ?_)
        refine W.perm (pmC (pmC (pmC (pmC (pmC (pmC (List.Perm.refl _))))))).symm ?_
        have q132 := ho128.form
        refine match q132 with | ⟨sa129, sc130, e_131⟩ => ?_
        subst e_131
        refine W.giveO ho128 (pmC (pmC (pmC (pmC (pmC (pmC (List.Perm.refl _))))))) (fun G133 hG133 hv133 => ?_)
        refine W.app (e := eStr) sl32 ty9 zr9 rfl by9 rfl rfl ((ho121.mono hG133)) (hv133) (pmC (pmC (pmC (pmC (pmC (pmC (List.Perm.refl _))))))) (by show (List.length _ + List.length _) * 16 ≤ _; have := some_len ([(kidS p i).lo] ++ p.pivots); simp at this ⊢; omega) (fun v134 Ms135 ho136 => ?_)
        refine W.perm (pmC (pmC (pmC (pmC (pmC (pmC (List.Perm.refl _))))))).symm ?_
        have q140 := ho136.form
        refine match q140 with | ⟨sa137, sc138, e_139⟩ => ?_
        subst e_139
        refine W.ok (ok_lenO sl32 ho136 rfl) ?_
        refine W.mv ?_
        refine W.nil (thn_n ?_)
        refine WC.block ?_
        refine WC.loop (X := Nat) (fun q => [(100, .int .i64 ((q : Nat) : Int)), (98, .slice sa137 ((someN ([(kidS p i).lo] ++ p.pivots) ++ [key])).length sc138), (6, .pointer (some ⟨b2, 0, none⟩)), (7, .pointer (some ⟨b3, 0, none⟩)), (11, .pointer (some ⟨b14, 0, none⟩)), (12, .pointer (some ⟨b15, 0, none⟩)), (14, .pointer (some ⟨b102, 0, none⟩)), (99, .int .i64 ((((someN ([(kidS p i).lo] ++ p.pivots) ++ [key])).length : Nat) : Int))]) (fun q _ Ml => Ml = ((b102, .cells (List.toArray [.string ((kidS p i)).lo.b, .string ((kidS p i)).hi.b, .bool ((kidS p i)).opn]) 37 (0, 0)) :: ((b15, .cells (List.toArray [.int .i64 ((pourN cl cb p k i).2.1).slot, .int .i64 ((pourN cl cb p k i).2.1).level, .slice pa_hv7 (((pourN cl cb p k i).2.1).pivots).length pc_hv7, .slice ka_hv7 (((pourN cl cb p k i).2.1).kids).length kc_hv7, .string ((pourN cl cb p k i).2.1).high.b, .bool ((pourN cl cb p k i).2.1).top, .int .i64 ((pourN cl cb p k i).2.1).right, .int .i64 ((pourN cl cb p k i).2.1).seen, .slice ma_hv7 (((pourN cl cb p k i).2.1).msgs).length mc_hv7, .slice ra_hv7 (((pourN cl cb p k i).2.1).rows).length rc_hv7]) 35 (0, 0)) :: ((b14, .cells (List.toArray [.int .i64 ((pourN cl cb p k i).1).slot, .int .i64 ((pourN cl cb p k i).1).level, .slice pa_hv6 (((pourN cl cb p k i).1).pivots).length pc_hv6, .slice ka_hv6 (((pourN cl cb p k i).1).kids).length kc_hv6, .string ((pourN cl cb p k i).1).high.b, .bool ((pourN cl cb p k i).1).top, .int .i64 ((pourN cl cb p k i).1).right, .int .i64 ((pourN cl cb p k i).1).seen, .slice ma_hv6 (((pourN cl cb p k i).1).msgs).length mc_hv6, .slice ra_hv6 (((pourN cl cb p k i).1).rows).length rc_hv6]) 35 (0, 0)) :: ((b3, .cells (List.toArray [.int .i64 k.slot, .int .i64 k.level, .slice pa_k k.pivots.length pc_k, .slice ka_k k.kids.length kc_k, .string k.high.b, .bool k.top, .int .i64 k.right, .int .i64 k.seen, .slice ma_k k.msgs.length mc_k, .slice ra_k k.rows.length rc_k]) 35 (0, 0)) :: ((b2, .cells (List.toArray [.int .i64 p.slot, .int .i64 p.level, .slice pa_p p.pivots.length pc_p, .slice ka_p p.kids.length kc_p, .string p.high.b, .bool p.top, .int .i64 p.right, .int .i64 p.seen, .slice ma_p p.msgs.length mc_p, .slice ra_p p.rows.length rc_p]) 35 (0, 0)) :: ((b1, .cells (List.toArray [.int .i64 cf, .int .i64 cl, .int .i64 cb, .int .i64 cs, .int .i64 cr]) 23 (0, 0)) :: (Ms135 ++ []))))))) ∧ q ≤ (someN ([(kidS p i).lo] ++ p.pivots) ++ [key]).length) (fun q => (someN ([(kidS p i).lo] ++ p.pivots) ++ [key]).length - q) 0 ⟨eqv, eqv, eqv, eqv, eqv, eqv, eqv, eqv, trivial⟩ ?_ ?_
        ·exact ⟨rfl, Nat.zero_le _⟩
        ·rintro q gG141 G141 _ hG141 ⟨rfl, hqX⟩
         have hXl : (someN ([(kidS p i).lo] ++ p.pivots) ++ [key]).length ≤ 20000 := by rw [List.length_append, some_len]; simp; omega
         refine WC.seq ?_
         refine WC.region ?_
         refine W.ok (ok_lss rfl rfl) ?_
         refine W.nil (thn_n ?_)
         refine WC.seq ?_
         refine WC.cond (b := _) rfl (fun h101 => ?_) (fun h101 => ?_)
         ·have p101 := of_decide_eq_true h101
          try dsimp only at p101
          refine WC.skip (thn_n ?_)
          refine WC.seq ?_
          refine WC.block ?_
          refine WC.seq ?_
          refine WC.region ?_
          have q144 := (ho136.mono hG141).at (i := q) (by omega)
          refine match q144 with | ⟨_, he142, e_143⟩ => ?_
          subst e_143
          refine W.ok (ok_indexAddrO (i := q) sl32 ty9 (ho136.mono hG141) rfl rfl ⟨by omega, by omega⟩) ?_
          refine W.ok (ok_loadO (vs := [.string _]) ty9 he142 (pmC (pmC (pmC (pmC (pmC (pmC (List.Perm.refl _))))))) rfl rfl rfl (by simp)) ?_
          refine W.as ?_
          refine W.nil (thn_n ?_)
          refine WC.seq ?_
          refine WC.region ?_
          refine W.ok (ok_fieldB fd35_9 rfl) ?_
          refine W.ok (ok_loadB (i := 3) (vs := [.slice _ _ _]) ty31 rfl rfl rfl rfl (by simp)) ?_
          refine W.mv ?_
          refine W.qcall (rget_fc (hr_k.mono (((((hG4.trans hG5).trans hG117).trans hG118).trans hG133).trans hG141)) ((someN ([(kidS p i).lo] ++ p.pivots) ++ [key])[q]'(by omega))) rfl ?_
          refine W.mv ?_
          refine W.ok (ok_extract rfl rfl) ?_
          refine W.ok (ok_extract rfl rfl) ?_
          refine W.as ?_
          refine W.as ?_
          refine W.nil (thn_n ?_)
          refine WC.seq ?_
          refine WC.region ?_
          refine W.ok (ok_fieldB fd35_9 rfl) ?_
          refine W.ok (ok_loadB (i := 1) (vs := [.slice _ _ _]) ty31 rfl rfl rfl rfl (by simp)) ?_
          refine W.mv ?_
          refine W.qcall (rget_fc (hr_hv7.mono (((hG117.trans hG118).trans hG133).trans hG141)) ((someN ([(kidS p i).lo] ++ p.pivots) ++ [key])[q]'(by omega))) rfl ?_
          refine W.mv ?_
          refine W.ok (ok_extract rfl rfl) ?_
          refine W.ok (ok_extract rfl rfl) ?_
          refine W.as ?_
          refine W.as ?_
          refine W.nil (thn_n ?_)
          refine WC.seq ?_
          refine WC.draw mix (by kernel_rfl) ?_
          refine W.ok (ok_fieldB fd35_8 rfl) ?_
          refine W.ok (ok_loadB (i := 3) (vs := [.slice _ _ _]) ty33 rfl rfl rfl rfl (by simp)) ?_
          refine W.mv ?_
          refine W.qcall (ron18_fc (hm_k.mono (((((hG4.trans hG5).trans hG117).trans hG118).trans hG133).trans hG141)) ((someN ([(kidS p i).lo] ++ p.pivots) ++ [key])[q]'(by omega)) (fun m hm => have h9 := msgR_key (hkR9 m hm); ⟨by omega, h9.2⟩)) rfl ?_
          refine W.ok (ok_fieldB fd35_8 rfl) ?_
          refine W.ok (ok_loadB (i := 4) (vs := [.slice _ _ _]) ty33 rfl rfl rfl rfl (by simp)) ?_
          refine W.mv ?_
          refine W.qcall (ron18_fc (hm_p.mono (((((hG4.trans hG5).trans hG117).trans hG118).trans hG133).trans hG141)) ((someN ([(kidS p i).lo] ++ p.pivots) ++ [key])[q]'(by omega)) (fun m hm => have h9 := msgR_key (hpR9 m hm); ⟨by omega, h9.2⟩)) rfl ?_
          refine W.qcall (rthen_fc (onsN k.msgs ((someN ([(kidS p i).lo] ++ p.pivots) ++ [key])[q]'(by omega))).kind (onsN k.msgs ((someN ([(kidS p i).lo] ++ p.pivots) ++ [key])[q]'(by omega))).val (onsN p.msgs ((someN ([(kidS p i).lo] ++ p.pivots) ++ [key])[q]'(by omega))).kind (onsN p.msgs ((someN ([(kidS p i).lo] ++ p.pivots) ++ [key])[q]'(by omega))).val (by have := onval ((someN ([(kidS p i).lo] ++ p.pivots) ++ [key])[q]'(by omega)) hkR9; omega) (by have := onval ((someN ([(kidS p i).lo] ++ p.pivots) ++ [key])[q]'(by omega)) hpR9; omega) (ons_D _ _)) rfl ?_
          refine W.mv ?_
          refine W.mv ?_
          refine W.qcall (rapply_fc ((onsN k.msgs ((someN ([(kidS p i).lo] ++ p.pivots) ++ [key])[q]'(by omega))).then (onsN p.msgs ((someN ([(kidS p i).lo] ++ p.pivots) ++ [key])[q]'(by omega)))).kind ((onsN k.msgs ((someN ([(kidS p i).lo] ++ p.pivots) ++ [key])[q]'(by omega))).then (onsN p.msgs ((someN ([(kidS p i).lo] ++ p.pivots) ++ [key])[q]'(by omega)))).val (getN k.rows ((someN ([(kidS p i).lo] ++ p.pivots) ++ [key])[q]'(by omega))).isSome ((getN k.rows ((someN ([(kidS p i).lo] ++ p.pivots) ++ [key])[q]'(by omega))).getD Str.nil) (by have := then_val (onval ((someN ([(kidS p i).lo] ++ p.pivots) ++ [key])[q]'(by omega)) hkR9) (onval ((someN ([(kidS p i).lo] ++ p.pivots) ++ [key])[q]'(by omega)) hpR9); omega) (by have := (nd_rowsR hM.1.2.1).val ((someN ([(kidS p i).lo] ++ p.pivots) ++ [key])[q]'(by omega)); omega)) rfl ?_
          refine W.mv ?_
          refine W.ok (ok_extract rfl rfl) ?_
          refine W.ok (ok_extract rfl rfl) ?_
          refine W.as ?_
          refine W.as ?_
          refine W.nil (thn_n ?_)
          refine WC.seq ?_
          refine WC.draw mix (by kernel_rfl) ?_
          refine W.ok (ok_fieldB fd35_8 rfl) ?_
          refine W.ok (ok_loadB (i := 1) (vs := [.slice _ _ _]) ty33 rfl rfl rfl rfl (by simp)) ?_
          refine W.mv ?_
          refine W.qcall (ron18_fc (hm_hv7.mono (((hG117.trans hG118).trans hG133).trans hG141)) ((someN ([(kidS p i).lo] ++ p.pivots) ++ [key])[q]'(by omega)) (fun m hm => have h9 := msgR_key (hbR9 m hm); ⟨by omega, h9.2⟩)) rfl ?_
          refine W.ok (ok_fieldB fd35_8 rfl) ?_
          refine W.ok (ok_loadB (i := 2) (vs := [.slice _ _ _]) ty33 rfl rfl rfl rfl (by simp)) ?_
          refine W.mv ?_
          refine W.qcall (ron18_fc (hm_hv6.mono (((hG117.trans hG118).trans hG133).trans hG141)) ((someN ([(kidS p i).lo] ++ p.pivots) ++ [key])[q]'(by omega)) (fun m hm => have h9 := msgR_key (haR9 m hm); ⟨by omega, h9.2⟩)) rfl ?_
          refine W.qcall (rthen_fc (onsN (pourN cl cb p k i).2.1.msgs ((someN ([(kidS p i).lo] ++ p.pivots) ++ [key])[q]'(by omega))).kind (onsN (pourN cl cb p k i).2.1.msgs ((someN ([(kidS p i).lo] ++ p.pivots) ++ [key])[q]'(by omega))).val (onsN (pourN cl cb p k i).1.msgs ((someN ([(kidS p i).lo] ++ p.pivots) ++ [key])[q]'(by omega))).kind (onsN (pourN cl cb p k i).1.msgs ((someN ([(kidS p i).lo] ++ p.pivots) ++ [key])[q]'(by omega))).val (by have := onval ((someN ([(kidS p i).lo] ++ p.pivots) ++ [key])[q]'(by omega)) hbR9; omega) (by have := onval ((someN ([(kidS p i).lo] ++ p.pivots) ++ [key])[q]'(by omega)) haR9; omega) (ons_D _ _)) rfl ?_
          refine W.mv ?_
          refine W.mv ?_
          refine W.qcall (rapply_fc ((onsN (pourN cl cb p k i).2.1.msgs ((someN ([(kidS p i).lo] ++ p.pivots) ++ [key])[q]'(by omega))).then (onsN (pourN cl cb p k i).1.msgs ((someN ([(kidS p i).lo] ++ p.pivots) ++ [key])[q]'(by omega)))).kind ((onsN (pourN cl cb p k i).2.1.msgs ((someN ([(kidS p i).lo] ++ p.pivots) ++ [key])[q]'(by omega))).then (onsN (pourN cl cb p k i).1.msgs ((someN ([(kidS p i).lo] ++ p.pivots) ++ [key])[q]'(by omega)))).val (getN (pourN cl cb p k i).2.1.rows ((someN ([(kidS p i).lo] ++ p.pivots) ++ [key])[q]'(by omega))).isSome ((getN (pourN cl cb p k i).2.1.rows ((someN ([(kidS p i).lo] ++ p.pivots) ++ [key])[q]'(by omega))).getD Str.nil) (by have := then_val (onval ((someN ([(kidS p i).lo] ++ p.pivots) ++ [key])[q]'(by omega)) hbR9) (onval ((someN ([(kidS p i).lo] ++ p.pivots) ++ [key])[q]'(by omega)) haR9); omega) (by have := (nd_rowsR hAB.1.2.1).val ((someN ([(kidS p i).lo] ++ p.pivots) ++ [key])[q]'(by omega)); omega)) rfl ?_
          refine W.mv ?_
          refine W.ok (ok_extract rfl rfl) ?_
          refine W.ok (ok_extract rfl rfl) ?_
          refine W.as ?_
          refine W.as ?_
          refine W.nil (thn_n ?_)
          refine WC.seq ?_
          refine WC.region ?_
          refine W.ok (ok_loadB (i := 0) (vs := [.string _, .string _, .bool _]) ty37 rfl rfl rfl rfl (by simp)) ?_
          refine W.mv ?_
          refine W.qcall (has_fc _ _ _ _) rfl ?_
          refine W.mv ?_
          refine W.sp 151 rfl (fun h150 => ?_) (fun h150 => ?_)
          ·have hget := hlw ((someN ([(kidS p i).lo] ++ p.pivots) ++ [key])[q]'(by omega)) (by simpa using h150)
           refine W.yes (dj := 151) rfl rfl h150 ?_
           refine W.mv ?_
           refine W.yes (dj := 151) rfl rfl h150 ?_
           refine W.mv ?_
           refine W.yes (dj := 151) rfl rfl h150 ?_
           refine W.ok (ok_neqB bo4 rfl rfl) ?_
           refine W.yes (dj := 151) rfl rfl h150 ?_
           refine W.mv ?_
           refine W.sp 155 rfl (fun h154 => ?_) (fun h154 => ?_)
           ·exfalso
            have e9 : (!((((onsN (pourN cl cb p k i).2.1.msgs ((someN ([(kidS p i).lo] ++ p.pivots) ++ [key])[q]'(by omega))).then (onsN (pourN cl cb p k i).1.msgs ((someN ([(kidS p i).lo] ++ p.pivots) ++ [key])[q]'(by omega)))).apply (optS (getN (pourN cl cb p k i).2.1.rows ((someN ([(kidS p i).lo] ++ p.pivots) ++ [key])[q]'(by omega))).isSome ((getN (pourN cl cb p k i).2.1.rows ((someN ([(kidS p i).lo] ++ p.pivots) ++ [key])[q]'(by omega))).getD Str.nil))).isSome == (((onsN k.msgs ((someN ([(kidS p i).lo] ++ p.pivots) ++ [key])[q]'(by omega))).then (onsN p.msgs ((someN ([(kidS p i).lo] ++ p.pivots) ++ [key])[q]'(by omega)))).apply (optS (getN k.rows ((someN ([(kidS p i).lo] ++ p.pivots) ++ [key])[q]'(by omega))).isSome ((getN k.rows ((someN ([(kidS p i).lo] ++ p.pivots) ++ [key])[q]'(by omega))).getD Str.nil))).isSome)) = true := h154
            rw [← hget] at e9
            simp at e9
           ·refine W.yes (dj := 155) rfl rfl h154 ?_
            refine W.mv ?_
            refine W.yes (dj := 155) rfl rfl h154 ?_
            refine W.mv ?_
            refine W.yes (dj := 155) rfl rfl h154 ?_
            refine W.ok (ok_neqS rfl rfl) ?_
            refine W.yes (dj := 151) rfl rfl h150 ?_
            refine W.ok (ok_pick_f rfl h154) ?_
            refine W.ok (ok_pick_t rfl h150) ?_
            refine W.nil (thn_n ?_)
            refine WC.cond (b := _) rfl (fun h158 => ?_) (fun h158 => ?_)
            ·have p158 := nd_t h158
             try dsimp only at p158
             exfalso
             have e9 : ¬ ((((onsN k.msgs ((someN ([(kidS p i).lo] ++ p.pivots) ++ [key])[q]'(by omega))).then (onsN p.msgs ((someN ([(kidS p i).lo] ++ p.pivots) ++ [key])[q]'(by omega)))).apply (optS (getN k.rows ((someN ([(kidS p i).lo] ++ p.pivots) ++ [key])[q]'(by omega))).isSome ((getN k.rows ((someN ([(kidS p i).lo] ++ p.pivots) ++ [key])[q]'(by omega))).getD Str.nil))).getD Str.nil).b = ((((onsN (pourN cl cb p k i).2.1.msgs ((someN ([(kidS p i).lo] ++ p.pivots) ++ [key])[q]'(by omega))).then (onsN (pourN cl cb p k i).1.msgs ((someN ([(kidS p i).lo] ++ p.pivots) ++ [key])[q]'(by omega)))).apply (optS (getN (pourN cl cb p k i).2.1.rows ((someN ([(kidS p i).lo] ++ p.pivots) ++ [key])[q]'(by omega))).isSome ((getN (pourN cl cb p k i).2.1.rows ((someN ([(kidS p i).lo] ++ p.pivots) ++ [key])[q]'(by omega))).getD Str.nil))).getD Str.nil).b := p158
             exact e9 (by rw [hget])
            ·have p158 := nd_f h158
             try dsimp only at p158
             refine WC.skip (blk_n (thn_n ?_))
             refine WC.region ?_
             refine W.ok (ok_add rfl rfl (by omega)) ?_
             refine W.mv ?_
             refine W.nil (thn_n ?_)
             exact ⟨Le.rfl, q + 1, ⟨eqv, eqv, eqv, eqv, eqv, eqv, eqv, eqv, trivial⟩, ⟨rfl, by omega⟩, by omega⟩
          ·refine W.no (dj := 151) rfl rfl h150 ?_
           refine W.no (dj := 151) rfl rfl h150 ?_
           refine W.no (dj := 151) rfl rfl h150 ?_
           refine W.no (dj := 151) rfl rfl h150 ?_
           refine W.nou (dj := 155) rfl rfl ?_
           refine W.nou (dj := 155) rfl rfl ?_
           refine W.nou (dj := 155) rfl rfl ?_
           refine W.no (dj := 151) rfl rfl h150 ?_
           refine W.ok (ok_pick_f rfl h150) ?_
           refine W.nil (thn_n ?_)
           refine WC.cond_f rfl rfl ?_
           refine WC.skip (blk_n (thn_n ?_))
           refine WC.region ?_
           refine W.ok (ok_add rfl rfl (by omega)) ?_
           refine W.mv ?_
           refine W.nil (thn_n ?_)
           exact ⟨Le.rfl, q + 1, ⟨eqv, eqv, eqv, eqv, eqv, eqv, eqv, eqv, trivial⟩, ⟨rfl, by omega⟩, by omega⟩
         ·have p101 := of_decide_eq_false h101
          try dsimp only at p101
          refine WC.exit (thn_x (thn_x (blk_h (thn_n ?_))))
          refine WC.seq ?_
          refine WC.region ?_
          refine W.qcall (awake23_fc) rfl ?_
          refine W.as ?_
          refine W.nil (thn_n ?_)
          refine WC.ret ?_
          refine ⟨.inr rfl, [_], ⟨rfl, trivial⟩, [], List.nil_sublist _, ?_⟩
          rfl
      ·refine W.alloc zr37 (fun b145 => ?_)
       refine W.nil ⟨Le.rfl, ((((((List.Sublist.refl _).cons_cons _).cons_cons _).cons_cons _).cons_cons _).cons_cons _).cons _, _, ((((((List.Sublist.refl _).cons_cons _).cons_cons _).cons_cons _).cons_cons _).cons_cons _).cons _, List.Sublist.refl _, ?_⟩
       refine WD.any [1] (by kernel_rfl) rfl ⟨⟨_, rfl, rfl, ?_⟩, trivial⟩
       refine W.qcall (rspan21_fc (n := p) ⟨_, _, _, _, _, _, _, _, rfl, (hp_p.mono (hG4.trans hG5)), (hk_p.mono (hG4.trans hG5)), (hm_p.mono (hG4.trans hG5)), (hr_p.mono (hG4.trans hG5)), hok_p⟩) rfl ?_
       refine W.nil ⟨Le.rfl, ((((((List.Sublist.refl _).cons_cons _).cons_cons _).cons_cons _).cons_cons _).cons_cons _).cons _, _, ((((((List.Sublist.refl _).cons_cons _).cons_cons _).cons_cons _).cons_cons _).cons_cons _).cons _, List.Sublist.refl _, ?_⟩
       refine WD.any [5] (by kernel_rfl) rfl ⟨⟨_, rfl, rfl, ?_⟩, trivial⟩
       refine W.qcall (rrange_fc (hp_p.mono (hG4.trans hG5)) _ ⟨by omega, by omega⟩) rfl ?_
       refine W.nil ⟨Le.rfl, ((((((List.Sublist.refl _).cons_cons _).cons_cons _).cons_cons _).cons_cons _).cons_cons _).cons _, _, ((((((List.Sublist.refl _).cons_cons _).cons_cons _).cons_cons _).cons_cons _).cons_cons _).cons _, List.Sublist.refl _, ?_⟩
       refine WD.any [6] (by kernel_rfl) rfl ⟨⟨_, rfl, rfl, ?_⟩, trivial⟩
       refine W.qcall (rmeet_fc _ _ _ _ _ _) rfl ?_
       refine W.nil ⟨Le.rfl, ((((((List.Sublist.refl _).cons_cons _).cons_cons _).cons_cons _).cons_cons _).cons_cons _).cons _, _, ((((((List.Sublist.refl _).cons_cons _).cons_cons _).cons_cons _).cons_cons _).cons_cons _).cons _, List.Sublist.refl _, ?_⟩
       refine WD.any [8] (by kernel_rfl) rfl ⟨⟨_, rfl, rfl, ?_⟩, trivial⟩
       refine W.store (i := 0) (vs := [.string _, .string _, .bool _]) (L' := [.string _, .string _, .bool _]) ty37 rfl rfl rfl rfl rfl rfl rfl rfl ?_
       refine W.nil ⟨Le.rfl, ((((((List.Sublist.refl _).cons_cons _).cons_cons _).cons_cons _).cons_cons _).cons_cons _).cons _, _, ((((((List.Sublist.refl _).cons_cons _).cons_cons _).cons_cons _).cons_cons _).cons_cons _).cons _, List.Sublist.refl _, ?_⟩
       refine WD.done (by kernel_rfl) (thn_n ?_)
       refine WC.seq ?_
       refine WC.seq ?_
       refine WC.region ?_
       refine W.ok (ok_fieldB fd37_0 rfl) ?_
       refine W.ok (ok_loadB (i := 0) (vs := [.string _]) ty9 rfl rfl rfl rfl (by simp)) ?_
       refine W.litO (e := eStr) (l := [(kidS p i).lo]) (css := [[.string _]]) sl32 ty9 zr9 rfl rfl rfl rfl rfl rfl ⟨rfl, trivial⟩ (fun v146 Ms147 ho148 => ?_)
       refine W.perm (pmC (pmC (pmC (pmC (pmC (pmC (List.Perm.refl _))))))).symm ?_
       have q152 := ho148.form
       refine match q152 with | ⟨sa149, sc150, e_151⟩ => ?_
       subst e_151
       refine W.ok (ok_fieldB fd35_2 rfl) ?_
       refine W.ok (ok_loadB (i := 4) (vs := [.slice _ _ _]) ty32 rfl rfl rfl rfl (by simp)) ?_
       refine W.app (e := eStr) sl32 ty9 zr9 rfl by9 rfl rfl (ho148) ((hp_p.mono (hG4.trans hG5))) (pmC (pmC (pmC (pmC (pmC (pmC (List.Perm.refl _))))))) (by show (List.length _ + List.length _) * 16 ≤ _; simp; omega) (fun v153 Ms154 ho155 => ?_)
       refine W.perm (pmC (pmC (pmC (pmC (pmC (pmC (List.Perm.refl _))))))).symm ?_
       have q159 := ho155.form
       refine match q159 with | ⟨sa156, sc157, e_158⟩ => ?_
       subst e_158
       refine W.giveO ho155 (pmC (pmC (pmC (pmC (pmC (pmC (List.Perm.refl _))))))) (fun G160 hG160 hv160 => ?_)
       refine W.call (Mp := []) (some_fc hv160 (fun a ha => by have := hsz9 a ha; omega) (by simp; omega)) rfl (List.Perm.refl _) ?_
       rintro v162 G161 Ms163 hG161 ho164
       refine W.perm (pmC (pmC (pmC (pmC (pmC (pmC (List.Perm.refl _))))))).symm ?_
       have q168 := ho164.form
       refine match q168 with | ⟨sa165, sc166, e_167⟩ => ?_
       subst e_167
       refine W.mv ?_
       refine W.litO (e := eStr) (l := [key]) (css := [[.string _]]) sl32 ty9 zr9 rfl rfl rfl rfl rfl rfl ⟨rfl, trivial⟩ (fun v169 Ms170 ho171 => ?_)
       refine W.perm (pmC (pmC (pmC (pmC (pmC (pmC (List.Perm.refl _))))))).symm ?_
       have q175 := ho171.form
       refine match q175 with | ⟨sa172, sc173, e_174⟩ => ?_
       subst e_174
       refine W.giveO ho171 (pmC (pmC (pmC (pmC (pmC (pmC (List.Perm.refl _))))))) (fun G176 hG176 hv176 => ?_)
       refine W.app (e := eStr) sl32 ty9 zr9 rfl by9 rfl rfl ((ho164.mono hG176)) (hv176) (pmC (pmC (pmC (pmC (pmC (pmC (List.Perm.refl _))))))) (by show (List.length _ + List.length _) * 16 ≤ _; have := some_len ([(kidS p i).lo] ++ p.pivots); simp at this ⊢; omega) (fun v177 Ms178 ho179 => ?_)
       refine W.perm (pmC (pmC (pmC (pmC (pmC (pmC (List.Perm.refl _))))))).symm ?_
       have q183 := ho179.form
       refine match q183 with | ⟨sa180, sc181, e_182⟩ => ?_
       subst e_182
       refine W.ok (ok_lenO sl32 ho179 rfl) ?_
       refine W.mv ?_
       refine W.nil (thn_n ?_)
       refine WC.block ?_
       refine WC.loop (X := Nat) (fun q => [(100, .int .i64 ((q : Nat) : Int)), (98, .slice sa180 ((someN ([(kidS p i).lo] ++ p.pivots) ++ [key])).length sc181), (6, .pointer (some ⟨b2, 0, none⟩)), (7, .pointer (some ⟨b3, 0, none⟩)), (11, .pointer (some ⟨b14, 0, none⟩)), (12, .pointer (some ⟨b15, 0, none⟩)), (14, .pointer (some ⟨b145, 0, none⟩)), (99, .int .i64 ((((someN ([(kidS p i).lo] ++ p.pivots) ++ [key])).length : Nat) : Int))]) (fun q _ Ml => Ml = ((b145, .cells (List.toArray [.string ((kidS p i)).lo.b, .string ((kidS p i)).hi.b, .bool ((kidS p i)).opn]) 37 (0, 0)) :: ((b15, .cells (List.toArray [.int .i64 ((pourN cl cb p k i).2.1).slot, .int .i64 ((pourN cl cb p k i).2.1).level, .slice pa_hv7 (((pourN cl cb p k i).2.1).pivots).length pc_hv7, .slice ka_hv7 (((pourN cl cb p k i).2.1).kids).length kc_hv7, .string ((pourN cl cb p k i).2.1).high.b, .bool ((pourN cl cb p k i).2.1).top, .int .i64 ((pourN cl cb p k i).2.1).right, .int .i64 ((pourN cl cb p k i).2.1).seen, .slice ma_hv7 (((pourN cl cb p k i).2.1).msgs).length mc_hv7, .slice ra_hv7 (((pourN cl cb p k i).2.1).rows).length rc_hv7]) 35 (0, 0)) :: ((b14, .cells (List.toArray [.int .i64 ((pourN cl cb p k i).1).slot, .int .i64 ((pourN cl cb p k i).1).level, .slice pa_hv6 (((pourN cl cb p k i).1).pivots).length pc_hv6, .slice ka_hv6 (((pourN cl cb p k i).1).kids).length kc_hv6, .string ((pourN cl cb p k i).1).high.b, .bool ((pourN cl cb p k i).1).top, .int .i64 ((pourN cl cb p k i).1).right, .int .i64 ((pourN cl cb p k i).1).seen, .slice ma_hv6 (((pourN cl cb p k i).1).msgs).length mc_hv6, .slice ra_hv6 (((pourN cl cb p k i).1).rows).length rc_hv6]) 35 (0, 0)) :: ((b3, .cells (List.toArray [.int .i64 k.slot, .int .i64 k.level, .slice pa_k k.pivots.length pc_k, .slice ka_k k.kids.length kc_k, .string k.high.b, .bool k.top, .int .i64 k.right, .int .i64 k.seen, .slice ma_k k.msgs.length mc_k, .slice ra_k k.rows.length rc_k]) 35 (0, 0)) :: ((b2, .cells (List.toArray [.int .i64 p.slot, .int .i64 p.level, .slice pa_p p.pivots.length pc_p, .slice ka_p p.kids.length kc_p, .string p.high.b, .bool p.top, .int .i64 p.right, .int .i64 p.seen, .slice ma_p p.msgs.length mc_p, .slice ra_p p.rows.length rc_p]) 35 (0, 0)) :: ((b1, .cells (List.toArray [.int .i64 cf, .int .i64 cl, .int .i64 cb, .int .i64 cs, .int .i64 cr]) 23 (0, 0)) :: (Ms178 ++ []))))))) ∧ q ≤ (someN ([(kidS p i).lo] ++ p.pivots) ++ [key]).length) (fun q => (someN ([(kidS p i).lo] ++ p.pivots) ++ [key]).length - q) 0 ⟨eqv, eqv, eqv, eqv, eqv, eqv, eqv, eqv, trivial⟩ ?_ ?_
       ·exact ⟨rfl, Nat.zero_le _⟩
       ·rintro q gG184 G184 _ hG184 ⟨rfl, hqX⟩
        have hXl : (someN ([(kidS p i).lo] ++ p.pivots) ++ [key]).length ≤ 20000 := by rw [List.length_append, some_len]; simp; omega
        refine WC.seq ?_
        refine WC.region ?_
        refine W.ok (ok_lss rfl rfl) ?_
        refine W.nil (thn_n ?_)
        refine WC.seq ?_
        refine WC.cond (b := _) rfl (fun h101 => ?_) (fun h101 => ?_)
        ·have p101 := of_decide_eq_true h101
         try dsimp only at p101
         refine WC.skip (thn_n ?_)
         refine WC.seq ?_
         refine WC.block ?_
         refine WC.seq ?_
         refine WC.region ?_
         have q187 := (ho179.mono hG184).at (i := q) (by omega)
         refine match q187 with | ⟨_, he185, e_186⟩ => ?_
         subst e_186
         refine W.ok (ok_indexAddrO (i := q) sl32 ty9 (ho179.mono hG184) rfl rfl ⟨by omega, by omega⟩) ?_
         refine W.ok (ok_loadO (vs := [.string _]) ty9 he185 (pmC (pmC (pmC (pmC (pmC (pmC (List.Perm.refl _))))))) rfl rfl rfl (by simp)) ?_
         refine W.as ?_
         refine W.nil (thn_n ?_)
         refine WC.seq ?_
         refine WC.region ?_
         refine W.ok (ok_fieldB fd35_9 rfl) ?_
         refine W.ok (ok_loadB (i := 3) (vs := [.slice _ _ _]) ty31 rfl rfl rfl rfl (by simp)) ?_
         refine W.mv ?_
         refine W.qcall (rget_fc (hr_k.mono (((((hG4.trans hG5).trans hG160).trans hG161).trans hG176).trans hG184)) ((someN ([(kidS p i).lo] ++ p.pivots) ++ [key])[q]'(by omega))) rfl ?_
         refine W.mv ?_
         refine W.ok (ok_extract rfl rfl) ?_
         refine W.ok (ok_extract rfl rfl) ?_
         refine W.as ?_
         refine W.as ?_
         refine W.nil (thn_n ?_)
         refine WC.seq ?_
         refine WC.region ?_
         refine W.ok (ok_fieldB fd35_9 rfl) ?_
         refine W.ok (ok_loadB (i := 1) (vs := [.slice _ _ _]) ty31 rfl rfl rfl rfl (by simp)) ?_
         refine W.mv ?_
         refine W.qcall (rget_fc (hr_hv7.mono (((hG160.trans hG161).trans hG176).trans hG184)) ((someN ([(kidS p i).lo] ++ p.pivots) ++ [key])[q]'(by omega))) rfl ?_
         refine W.mv ?_
         refine W.ok (ok_extract rfl rfl) ?_
         refine W.ok (ok_extract rfl rfl) ?_
         refine W.as ?_
         refine W.as ?_
         refine W.nil (thn_n ?_)
         refine WC.seq ?_
         refine WC.draw mix (by kernel_rfl) ?_
         refine W.ok (ok_fieldB fd35_8 rfl) ?_
         refine W.ok (ok_loadB (i := 3) (vs := [.slice _ _ _]) ty33 rfl rfl rfl rfl (by simp)) ?_
         refine W.mv ?_
         refine W.qcall (ron18_fc (hm_k.mono (((((hG4.trans hG5).trans hG160).trans hG161).trans hG176).trans hG184)) ((someN ([(kidS p i).lo] ++ p.pivots) ++ [key])[q]'(by omega)) (fun m hm => have h9 := msgR_key (hkR9 m hm); ⟨by omega, h9.2⟩)) rfl ?_
         refine W.ok (ok_fieldB fd35_8 rfl) ?_
         refine W.ok (ok_loadB (i := 4) (vs := [.slice _ _ _]) ty33 rfl rfl rfl rfl (by simp)) ?_
         refine W.mv ?_
         refine W.qcall (ron18_fc (hm_p.mono (((((hG4.trans hG5).trans hG160).trans hG161).trans hG176).trans hG184)) ((someN ([(kidS p i).lo] ++ p.pivots) ++ [key])[q]'(by omega)) (fun m hm => have h9 := msgR_key (hpR9 m hm); ⟨by omega, h9.2⟩)) rfl ?_
         refine W.qcall (rthen_fc (onsN k.msgs ((someN ([(kidS p i).lo] ++ p.pivots) ++ [key])[q]'(by omega))).kind (onsN k.msgs ((someN ([(kidS p i).lo] ++ p.pivots) ++ [key])[q]'(by omega))).val (onsN p.msgs ((someN ([(kidS p i).lo] ++ p.pivots) ++ [key])[q]'(by omega))).kind (onsN p.msgs ((someN ([(kidS p i).lo] ++ p.pivots) ++ [key])[q]'(by omega))).val (by have := onval ((someN ([(kidS p i).lo] ++ p.pivots) ++ [key])[q]'(by omega)) hkR9; omega) (by have := onval ((someN ([(kidS p i).lo] ++ p.pivots) ++ [key])[q]'(by omega)) hpR9; omega) (ons_D _ _)) rfl ?_
         refine W.mv ?_
         refine W.mv ?_
         refine W.qcall (rapply_fc ((onsN k.msgs ((someN ([(kidS p i).lo] ++ p.pivots) ++ [key])[q]'(by omega))).then (onsN p.msgs ((someN ([(kidS p i).lo] ++ p.pivots) ++ [key])[q]'(by omega)))).kind ((onsN k.msgs ((someN ([(kidS p i).lo] ++ p.pivots) ++ [key])[q]'(by omega))).then (onsN p.msgs ((someN ([(kidS p i).lo] ++ p.pivots) ++ [key])[q]'(by omega)))).val (getN k.rows ((someN ([(kidS p i).lo] ++ p.pivots) ++ [key])[q]'(by omega))).isSome ((getN k.rows ((someN ([(kidS p i).lo] ++ p.pivots) ++ [key])[q]'(by omega))).getD Str.nil) (by have := then_val (onval ((someN ([(kidS p i).lo] ++ p.pivots) ++ [key])[q]'(by omega)) hkR9) (onval ((someN ([(kidS p i).lo] ++ p.pivots) ++ [key])[q]'(by omega)) hpR9); omega) (by have := (nd_rowsR hM.1.2.1).val ((someN ([(kidS p i).lo] ++ p.pivots) ++ [key])[q]'(by omega)); omega)) rfl ?_
         refine W.mv ?_
         refine W.ok (ok_extract rfl rfl) ?_
         refine W.ok (ok_extract rfl rfl) ?_
         refine W.as ?_
         refine W.as ?_
         refine W.nil (thn_n ?_)
         refine WC.seq ?_
         refine WC.draw mix (by kernel_rfl) ?_
         refine W.ok (ok_fieldB fd35_8 rfl) ?_
         refine W.ok (ok_loadB (i := 1) (vs := [.slice _ _ _]) ty33 rfl rfl rfl rfl (by simp)) ?_
         refine W.mv ?_
         refine W.qcall (ron18_fc (hm_hv7.mono (((hG160.trans hG161).trans hG176).trans hG184)) ((someN ([(kidS p i).lo] ++ p.pivots) ++ [key])[q]'(by omega)) (fun m hm => have h9 := msgR_key (hbR9 m hm); ⟨by omega, h9.2⟩)) rfl ?_
         refine W.ok (ok_fieldB fd35_8 rfl) ?_
         refine W.ok (ok_loadB (i := 2) (vs := [.slice _ _ _]) ty33 rfl rfl rfl rfl (by simp)) ?_
         refine W.mv ?_
         refine W.qcall (ron18_fc (hm_hv6.mono (((hG160.trans hG161).trans hG176).trans hG184)) ((someN ([(kidS p i).lo] ++ p.pivots) ++ [key])[q]'(by omega)) (fun m hm => have h9 := msgR_key (haR9 m hm); ⟨by omega, h9.2⟩)) rfl ?_
         refine W.qcall (rthen_fc (onsN (pourN cl cb p k i).2.1.msgs ((someN ([(kidS p i).lo] ++ p.pivots) ++ [key])[q]'(by omega))).kind (onsN (pourN cl cb p k i).2.1.msgs ((someN ([(kidS p i).lo] ++ p.pivots) ++ [key])[q]'(by omega))).val (onsN (pourN cl cb p k i).1.msgs ((someN ([(kidS p i).lo] ++ p.pivots) ++ [key])[q]'(by omega))).kind (onsN (pourN cl cb p k i).1.msgs ((someN ([(kidS p i).lo] ++ p.pivots) ++ [key])[q]'(by omega))).val (by have := onval ((someN ([(kidS p i).lo] ++ p.pivots) ++ [key])[q]'(by omega)) hbR9; omega) (by have := onval ((someN ([(kidS p i).lo] ++ p.pivots) ++ [key])[q]'(by omega)) haR9; omega) (ons_D _ _)) rfl ?_
         refine W.mv ?_
         refine W.mv ?_
         refine W.qcall (rapply_fc ((onsN (pourN cl cb p k i).2.1.msgs ((someN ([(kidS p i).lo] ++ p.pivots) ++ [key])[q]'(by omega))).then (onsN (pourN cl cb p k i).1.msgs ((someN ([(kidS p i).lo] ++ p.pivots) ++ [key])[q]'(by omega)))).kind ((onsN (pourN cl cb p k i).2.1.msgs ((someN ([(kidS p i).lo] ++ p.pivots) ++ [key])[q]'(by omega))).then (onsN (pourN cl cb p k i).1.msgs ((someN ([(kidS p i).lo] ++ p.pivots) ++ [key])[q]'(by omega)))).val (getN (pourN cl cb p k i).2.1.rows ((someN ([(kidS p i).lo] ++ p.pivots) ++ [key])[q]'(by omega))).isSome ((getN (pourN cl cb p k i).2.1.rows ((someN ([(kidS p i).lo] ++ p.pivots) ++ [key])[q]'(by omega))).getD Str.nil) (by have := then_val (onval ((someN ([(kidS p i).lo] ++ p.pivots) ++ [key])[q]'(by omega)) hbR9) (onval ((someN ([(kidS p i).lo] ++ p.pivots) ++ [key])[q]'(by omega)) haR9); omega) (by have := (nd_rowsR hAB.1.2.1).val ((someN ([(kidS p i).lo] ++ p.pivots) ++ [key])[q]'(by omega)); omega)) rfl ?_
         refine W.mv ?_
         refine W.ok (ok_extract rfl rfl) ?_
         refine W.ok (ok_extract rfl rfl) ?_
         refine W.as ?_
         refine W.as ?_
         refine W.nil (thn_n ?_)
         refine WC.seq ?_
         refine WC.region ?_
         refine W.ok (ok_loadB (i := 0) (vs := [.string _, .string _, .bool _]) ty37 rfl rfl rfl rfl (by simp)) ?_
         refine W.mv ?_
         refine W.qcall (has_fc _ _ _ _) rfl ?_
         refine W.mv ?_
         refine W.sp 151 rfl (fun h150 => ?_) (fun h150 => ?_)
         ·have hget := hlw ((someN ([(kidS p i).lo] ++ p.pivots) ++ [key])[q]'(by omega)) (by simpa using h150)
          refine W.yes (dj := 151) rfl rfl h150 ?_
          refine W.mv ?_
          refine W.yes (dj := 151) rfl rfl h150 ?_
          refine W.mv ?_
          refine W.yes (dj := 151) rfl rfl h150 ?_
          refine W.ok (ok_neqB bo4 rfl rfl) ?_
          refine W.yes (dj := 151) rfl rfl h150 ?_
          refine W.mv ?_
          refine W.sp 155 rfl (fun h154 => ?_) (fun h154 => ?_)
          ·exfalso
           have e9 : (!((((onsN (pourN cl cb p k i).2.1.msgs ((someN ([(kidS p i).lo] ++ p.pivots) ++ [key])[q]'(by omega))).then (onsN (pourN cl cb p k i).1.msgs ((someN ([(kidS p i).lo] ++ p.pivots) ++ [key])[q]'(by omega)))).apply (optS (getN (pourN cl cb p k i).2.1.rows ((someN ([(kidS p i).lo] ++ p.pivots) ++ [key])[q]'(by omega))).isSome ((getN (pourN cl cb p k i).2.1.rows ((someN ([(kidS p i).lo] ++ p.pivots) ++ [key])[q]'(by omega))).getD Str.nil))).isSome == (((onsN k.msgs ((someN ([(kidS p i).lo] ++ p.pivots) ++ [key])[q]'(by omega))).then (onsN p.msgs ((someN ([(kidS p i).lo] ++ p.pivots) ++ [key])[q]'(by omega)))).apply (optS (getN k.rows ((someN ([(kidS p i).lo] ++ p.pivots) ++ [key])[q]'(by omega))).isSome ((getN k.rows ((someN ([(kidS p i).lo] ++ p.pivots) ++ [key])[q]'(by omega))).getD Str.nil))).isSome)) = true := h154
           rw [← hget] at e9
           simp at e9
          ·refine W.yes (dj := 155) rfl rfl h154 ?_
           refine W.mv ?_
           refine W.yes (dj := 155) rfl rfl h154 ?_
           refine W.mv ?_
           refine W.yes (dj := 155) rfl rfl h154 ?_
           refine W.ok (ok_neqS rfl rfl) ?_
           refine W.yes (dj := 151) rfl rfl h150 ?_
           refine W.ok (ok_pick_f rfl h154) ?_
           refine W.ok (ok_pick_t rfl h150) ?_
           refine W.nil (thn_n ?_)
           refine WC.cond (b := _) rfl (fun h158 => ?_) (fun h158 => ?_)
           ·have p158 := nd_t h158
            try dsimp only at p158
            exfalso
            have e9 : ¬ ((((onsN k.msgs ((someN ([(kidS p i).lo] ++ p.pivots) ++ [key])[q]'(by omega))).then (onsN p.msgs ((someN ([(kidS p i).lo] ++ p.pivots) ++ [key])[q]'(by omega)))).apply (optS (getN k.rows ((someN ([(kidS p i).lo] ++ p.pivots) ++ [key])[q]'(by omega))).isSome ((getN k.rows ((someN ([(kidS p i).lo] ++ p.pivots) ++ [key])[q]'(by omega))).getD Str.nil))).getD Str.nil).b = ((((onsN (pourN cl cb p k i).2.1.msgs ((someN ([(kidS p i).lo] ++ p.pivots) ++ [key])[q]'(by omega))).then (onsN (pourN cl cb p k i).1.msgs ((someN ([(kidS p i).lo] ++ p.pivots) ++ [key])[q]'(by omega)))).apply (optS (getN (pourN cl cb p k i).2.1.rows ((someN ([(kidS p i).lo] ++ p.pivots) ++ [key])[q]'(by omega))).isSome ((getN (pourN cl cb p k i).2.1.rows ((someN ([(kidS p i).lo] ++ p.pivots) ++ [key])[q]'(by omega))).getD Str.nil))).getD Str.nil).b := p158
            exact e9 (by rw [hget])
           ·have p158 := nd_f h158
            try dsimp only at p158
            refine WC.skip (blk_n (thn_n ?_))
            refine WC.region ?_
            refine W.ok (ok_add rfl rfl (by omega)) ?_
            refine W.mv ?_
            refine W.nil (thn_n ?_)
            exact ⟨Le.rfl, q + 1, ⟨eqv, eqv, eqv, eqv, eqv, eqv, eqv, eqv, trivial⟩, ⟨rfl, by omega⟩, by omega⟩
         ·refine W.no (dj := 151) rfl rfl h150 ?_
          refine W.no (dj := 151) rfl rfl h150 ?_
          refine W.no (dj := 151) rfl rfl h150 ?_
          refine W.no (dj := 151) rfl rfl h150 ?_
          refine W.nou (dj := 155) rfl rfl ?_
          refine W.nou (dj := 155) rfl rfl ?_
          refine W.nou (dj := 155) rfl rfl ?_
          refine W.no (dj := 151) rfl rfl h150 ?_
          refine W.ok (ok_pick_f rfl h150) ?_
          refine W.nil (thn_n ?_)
          refine WC.cond_f rfl rfl ?_
          refine WC.skip (blk_n (thn_n ?_))
          refine WC.region ?_
          refine W.ok (ok_add rfl rfl (by omega)) ?_
          refine W.mv ?_
          refine W.nil (thn_n ?_)
          exact ⟨Le.rfl, q + 1, ⟨eqv, eqv, eqv, eqv, eqv, eqv, eqv, eqv, trivial⟩, ⟨rfl, by omega⟩, by omega⟩
        ·have p101 := of_decide_eq_false h101
         try dsimp only at p101
         refine WC.exit (thn_x (thn_x (blk_h (thn_n ?_))))
         refine WC.seq ?_
         refine WC.region ?_
         refine W.qcall (awake23_fc) rfl ?_
         refine W.as ?_
         refine W.nil (thn_n ?_)
         refine WC.ret ?_
         refine ⟨.inr rfl, [_], ⟨rfl, trivial⟩, [], List.nil_sublist _, ?_⟩
         rfl
    ·have p73 := of_decide_eq_false h73
     try dsimp only at p73
     refine W.no (dj := 74) rfl rfl h73 ?_
     refine W.no (dj := 74) rfl rfl h73 ?_
     refine W.no (dj := 74) rfl rfl h73 ?_
     refine W.no (dj := 74) rfl rfl h73 ?_
     refine W.no (dj := 74) rfl rfl h73 ?_
     refine W.yes (dj := 71) rfl rfl rfl ?_
     refine W.ok (ok_pick_f rfl h73) ?_
     refine W.ok (ok_pick_f rfl rfl) ?_
     refine W.nil (thn_n ?_)
     refine WC.cond_f rfl rfl ?_
     refine WC.skip (thn_n ?_)
     refine WC.seq ?_
     refine WC.drawW _ ((((((List.Sublist.refl _).cons_cons _).cons_cons _).cons_cons _).cons_cons _).cons_cons _) mix (by rintro _ _ _ _ ⟨h | h, _⟩ <;> cases h) ?_
     refine WD.take 0 rfl rfl rfl (by kernel_rfl) (by kernel_rfl) (by kernel_rfl) (ok_loadB (i := 3) (vs := [.int .i64 _, .int .i64 _, .slice _ _ _, .slice _ _ _, .string _, .bool _, .int .i64 _, .int .i64 _, .slice _ _ _, .slice _ _ _]) ty35 rfl rfl rfl rfl (by simp)) ?_
     refine WD.take 2 rfl rfl rfl (by kernel_rfl) (by kernel_rfl) (by kernel_rfl) (ok_fieldB fd35_2 rfl) ?_
     refine WD.take 3 rfl rfl rfl (by kernel_rfl) (by kernel_rfl) (by kernel_rfl) (ok_loadB (i := 3) (vs := [.slice _ _ _]) ty32 rfl rfl rfl rfl (by simp)) ?_
     refine WD.take 4 rfl rfl rfl (by kernel_rfl) (by kernel_rfl) (by kernel_rfl) (ok_mv) ?_
     refine WD.any [1, 7] (by kernel_rfl) rfl ⟨⟨_, rfl, rfl, ?_⟩, ⟨_, rfl, rfl, ?_⟩, trivial⟩
     ·refine W.qcall (rspan21_fc (n := p) ⟨_, _, _, _, _, _, _, _, rfl, (hp_p.mono (hG4.trans hG5)), (hk_p.mono (hG4.trans hG5)), (hm_p.mono (hG4.trans hG5)), (hr_p.mono (hG4.trans hG5)), hok_p⟩) rfl ?_
      refine W.nil ⟨Le.rfl, (((((List.Sublist.refl _).cons_cons _).cons_cons _).cons_cons _).cons_cons _).cons_cons _, _, (((((List.Sublist.refl _).cons_cons _).cons_cons _).cons_cons _).cons_cons _).cons_cons _, List.Sublist.refl _, ?_⟩
      refine WD.any [5, 7] (by kernel_rfl) rfl ⟨⟨_, rfl, rfl, ?_⟩, ⟨_, rfl, rfl, ?_⟩, trivial⟩
      ·refine W.qcall (rrange_fc (hp_p.mono (hG4.trans hG5)) _ ⟨by omega, by omega⟩) rfl ?_
       refine W.nil ⟨Le.rfl, (((((List.Sublist.refl _).cons_cons _).cons_cons _).cons_cons _).cons_cons _).cons_cons _, _, (((((List.Sublist.refl _).cons_cons _).cons_cons _).cons_cons _).cons_cons _).cons_cons _, List.Sublist.refl _, ?_⟩
       refine WD.any [6, 7] (by kernel_rfl) rfl ⟨⟨_, rfl, rfl, ?_⟩, ⟨_, rfl, rfl, ?_⟩, trivial⟩
       ·refine W.qcall (rmeet_fc _ _ _ _ _ _) rfl ?_
        refine W.nil ⟨Le.rfl, (((((List.Sublist.refl _).cons_cons _).cons_cons _).cons_cons _).cons_cons _).cons_cons _, _, (((((List.Sublist.refl _).cons_cons _).cons_cons _).cons_cons _).cons_cons _).cons_cons _, List.Sublist.refl _, ?_⟩
        refine WD.any [7] (by kernel_rfl) rfl ⟨⟨_, rfl, rfl, ?_⟩, trivial⟩
        refine W.alloc zr37 (fun b188 => ?_)
        refine W.nil ⟨Le.rfl, ((((((List.Sublist.refl _).cons_cons _).cons_cons _).cons_cons _).cons_cons _).cons_cons _).cons _, _, ((((((List.Sublist.refl _).cons_cons _).cons_cons _).cons_cons _).cons_cons _).cons_cons _).cons _, List.Sublist.refl _, ?_⟩
        refine WD.any [8] (by kernel_rfl) rfl ⟨⟨_, rfl, rfl, ?_⟩, trivial⟩
        refine W.store (i := 0) (vs := [.string _, .string _, .bool _]) (L' := [.string _, .string _, .bool _]) ty37 rfl rfl rfl rfl rfl rfl rfl rfl ?_
        refine W.nil ⟨Le.rfl, ((((((List.Sublist.refl _).cons_cons _).cons_cons _).cons_cons _).cons_cons _).cons_cons _).cons _, _, ((((((List.Sublist.refl _).cons_cons _).cons_cons _).cons_cons _).cons_cons _).cons_cons _).cons _, List.Sublist.refl _, ?_⟩
        refine WD.done (by kernel_rfl) (thn_n ?_)
        refine WC.seq ?_
        refine WC.seq ?_
        refine WC.region ?_
        refine W.ok (ok_fieldB fd37_0 rfl) ?_
        refine W.ok (ok_loadB (i := 0) (vs := [.string _]) ty9 rfl rfl rfl rfl (by simp)) ?_
        refine W.litO (e := eStr) (l := [(kidS p i).lo]) (css := [[.string _]]) sl32 ty9 zr9 rfl rfl rfl rfl rfl rfl ⟨rfl, trivial⟩ (fun v189 Ms190 ho191 => ?_)
        refine W.perm (pmC (pmC (pmC (pmC (pmC (pmC (List.Perm.refl _))))))).symm ?_
        have q195 := ho191.form
        refine match q195 with | ⟨sa192, sc193, e_194⟩ => ?_
        subst e_194
        refine W.ok (ok_fieldB fd35_2 rfl) ?_
        refine W.ok (ok_loadB (i := 4) (vs := [.slice _ _ _]) ty32 rfl rfl rfl rfl (by simp)) ?_
        refine W.app (e := eStr) sl32 ty9 zr9 rfl by9 rfl rfl (ho191) ((hp_p.mono (hG4.trans hG5))) (pmC (pmC (pmC (pmC (pmC (pmC (List.Perm.refl _))))))) (by show (List.length _ + List.length _) * 16 ≤ _; simp; omega) (fun v196 Ms197 ho198 => ?_)
        refine W.perm (pmC (pmC (pmC (pmC (pmC (pmC (List.Perm.refl _))))))).symm ?_
        have q202 := ho198.form
        refine match q202 with | ⟨sa199, sc200, e_201⟩ => ?_
        subst e_201
        refine W.giveO ho198 (pmC (pmC (pmC (pmC (pmC (pmC (List.Perm.refl _))))))) (fun G203 hG203 hv203 => ?_)
        refine W.call (Mp := []) (some_fc hv203 (fun a ha => by have := hsz9 a ha; omega) (by simp; omega)) rfl (List.Perm.refl _) ?_
        rintro v205 G204 Ms206 hG204 ho207
        refine W.perm (pmC (pmC (pmC (pmC (pmC (pmC (List.Perm.refl _))))))).symm ?_
        have q211 := ho207.form
        refine match q211 with | ⟨sa208, sc209, e_210⟩ => ?_
        subst e_210
        refine W.mv ?_
        refine W.litO (e := eStr) (l := [key]) (css := [[.string _]]) sl32 ty9 zr9 rfl rfl rfl rfl rfl rfl ⟨rfl, trivial⟩ (fun v212 Ms213 ho214 => ?_)
        refine W.perm (pmC (pmC (pmC (pmC (pmC (pmC (List.Perm.refl _))))))).symm ?_
        have q218 := ho214.form
        refine match q218 with | ⟨sa215, sc216, e_217⟩ => ?_
        subst e_217
        refine W.giveO ho214 (pmC (pmC (pmC (pmC (pmC (pmC (List.Perm.refl _))))))) (fun G219 hG219 hv219 => ?_)
        refine W.app (e := eStr) sl32 ty9 zr9 rfl by9 rfl rfl ((ho207.mono hG219)) (hv219) (pmC (pmC (pmC (pmC (pmC (pmC (List.Perm.refl _))))))) (by show (List.length _ + List.length _) * 16 ≤ _; have := some_len ([(kidS p i).lo] ++ p.pivots); simp at this ⊢; omega) (fun v220 Ms221 ho222 => ?_)
        refine W.perm (pmC (pmC (pmC (pmC (pmC (pmC (List.Perm.refl _))))))).symm ?_
        have q226 := ho222.form
        refine match q226 with | ⟨sa223, sc224, e_225⟩ => ?_
        subst e_225
        refine W.ok (ok_lenO sl32 ho222 rfl) ?_
        refine W.mv ?_
        refine W.nil (thn_n ?_)
        refine WC.block ?_
        refine WC.loop (X := Nat) (fun q => [(100, .int .i64 ((q : Nat) : Int)), (98, .slice sa223 ((someN ([(kidS p i).lo] ++ p.pivots) ++ [key])).length sc224), (6, .pointer (some ⟨b2, 0, none⟩)), (7, .pointer (some ⟨b3, 0, none⟩)), (11, .pointer (some ⟨b14, 0, none⟩)), (12, .pointer (some ⟨b15, 0, none⟩)), (14, .pointer (some ⟨b188, 0, none⟩)), (99, .int .i64 ((((someN ([(kidS p i).lo] ++ p.pivots) ++ [key])).length : Nat) : Int))]) (fun q _ Ml => Ml = ((b188, .cells (List.toArray [.string ((kidS p i)).lo.b, .string ((kidS p i)).hi.b, .bool ((kidS p i)).opn]) 37 (0, 0)) :: ((b15, .cells (List.toArray [.int .i64 ((pourN cl cb p k i).2.1).slot, .int .i64 ((pourN cl cb p k i).2.1).level, .slice pa_hv7 (((pourN cl cb p k i).2.1).pivots).length pc_hv7, .slice ka_hv7 (((pourN cl cb p k i).2.1).kids).length kc_hv7, .string ((pourN cl cb p k i).2.1).high.b, .bool ((pourN cl cb p k i).2.1).top, .int .i64 ((pourN cl cb p k i).2.1).right, .int .i64 ((pourN cl cb p k i).2.1).seen, .slice ma_hv7 (((pourN cl cb p k i).2.1).msgs).length mc_hv7, .slice ra_hv7 (((pourN cl cb p k i).2.1).rows).length rc_hv7]) 35 (0, 0)) :: ((b14, .cells (List.toArray [.int .i64 ((pourN cl cb p k i).1).slot, .int .i64 ((pourN cl cb p k i).1).level, .slice pa_hv6 (((pourN cl cb p k i).1).pivots).length pc_hv6, .slice ka_hv6 (((pourN cl cb p k i).1).kids).length kc_hv6, .string ((pourN cl cb p k i).1).high.b, .bool ((pourN cl cb p k i).1).top, .int .i64 ((pourN cl cb p k i).1).right, .int .i64 ((pourN cl cb p k i).1).seen, .slice ma_hv6 (((pourN cl cb p k i).1).msgs).length mc_hv6, .slice ra_hv6 (((pourN cl cb p k i).1).rows).length rc_hv6]) 35 (0, 0)) :: ((b3, .cells (List.toArray [.int .i64 k.slot, .int .i64 k.level, .slice pa_k k.pivots.length pc_k, .slice ka_k k.kids.length kc_k, .string k.high.b, .bool k.top, .int .i64 k.right, .int .i64 k.seen, .slice ma_k k.msgs.length mc_k, .slice ra_k k.rows.length rc_k]) 35 (0, 0)) :: ((b2, .cells (List.toArray [.int .i64 p.slot, .int .i64 p.level, .slice pa_p p.pivots.length pc_p, .slice ka_p p.kids.length kc_p, .string p.high.b, .bool p.top, .int .i64 p.right, .int .i64 p.seen, .slice ma_p p.msgs.length mc_p, .slice ra_p p.rows.length rc_p]) 35 (0, 0)) :: ((b1, .cells (List.toArray [.int .i64 cf, .int .i64 cl, .int .i64 cb, .int .i64 cs, .int .i64 cr]) 23 (0, 0)) :: (Ms221 ++ []))))))) ∧ q ≤ (someN ([(kidS p i).lo] ++ p.pivots) ++ [key]).length) (fun q => (someN ([(kidS p i).lo] ++ p.pivots) ++ [key]).length - q) 0 ⟨eqv, eqv, eqv, eqv, eqv, eqv, eqv, eqv, trivial⟩ ?_ ?_
        ·exact ⟨rfl, Nat.zero_le _⟩
        ·rintro q gG227 G227 _ hG227 ⟨rfl, hqX⟩
         have hXl : (someN ([(kidS p i).lo] ++ p.pivots) ++ [key]).length ≤ 20000 := by rw [List.length_append, some_len]; simp; omega
         refine WC.seq ?_
         refine WC.region ?_
         refine W.ok (ok_lss rfl rfl) ?_
         refine W.nil (thn_n ?_)
         refine WC.seq ?_
         refine WC.cond (b := _) rfl (fun h101 => ?_) (fun h101 => ?_)
         ·have p101 := of_decide_eq_true h101
          try dsimp only at p101
          refine WC.skip (thn_n ?_)
          refine WC.seq ?_
          refine WC.block ?_
          refine WC.seq ?_
          refine WC.region ?_
          have q230 := (ho222.mono hG227).at (i := q) (by omega)
          refine match q230 with | ⟨_, he228, e_229⟩ => ?_
          subst e_229
          refine W.ok (ok_indexAddrO (i := q) sl32 ty9 (ho222.mono hG227) rfl rfl ⟨by omega, by omega⟩) ?_
          refine W.ok (ok_loadO (vs := [.string _]) ty9 he228 (pmC (pmC (pmC (pmC (pmC (pmC (List.Perm.refl _))))))) rfl rfl rfl (by simp)) ?_
          refine W.as ?_
          refine W.nil (thn_n ?_)
          refine WC.seq ?_
          refine WC.region ?_
          refine W.ok (ok_fieldB fd35_9 rfl) ?_
          refine W.ok (ok_loadB (i := 3) (vs := [.slice _ _ _]) ty31 rfl rfl rfl rfl (by simp)) ?_
          refine W.mv ?_
          refine W.qcall (rget_fc (hr_k.mono (((((hG4.trans hG5).trans hG203).trans hG204).trans hG219).trans hG227)) ((someN ([(kidS p i).lo] ++ p.pivots) ++ [key])[q]'(by omega))) rfl ?_
          refine W.mv ?_
          refine W.ok (ok_extract rfl rfl) ?_
          refine W.ok (ok_extract rfl rfl) ?_
          refine W.as ?_
          refine W.as ?_
          refine W.nil (thn_n ?_)
          refine WC.seq ?_
          refine WC.region ?_
          refine W.ok (ok_fieldB fd35_9 rfl) ?_
          refine W.ok (ok_loadB (i := 1) (vs := [.slice _ _ _]) ty31 rfl rfl rfl rfl (by simp)) ?_
          refine W.mv ?_
          refine W.qcall (rget_fc (hr_hv7.mono (((hG203.trans hG204).trans hG219).trans hG227)) ((someN ([(kidS p i).lo] ++ p.pivots) ++ [key])[q]'(by omega))) rfl ?_
          refine W.mv ?_
          refine W.ok (ok_extract rfl rfl) ?_
          refine W.ok (ok_extract rfl rfl) ?_
          refine W.as ?_
          refine W.as ?_
          refine W.nil (thn_n ?_)
          refine WC.seq ?_
          refine WC.draw mix (by kernel_rfl) ?_
          refine W.ok (ok_fieldB fd35_8 rfl) ?_
          refine W.ok (ok_loadB (i := 3) (vs := [.slice _ _ _]) ty33 rfl rfl rfl rfl (by simp)) ?_
          refine W.mv ?_
          refine W.qcall (ron18_fc (hm_k.mono (((((hG4.trans hG5).trans hG203).trans hG204).trans hG219).trans hG227)) ((someN ([(kidS p i).lo] ++ p.pivots) ++ [key])[q]'(by omega)) (fun m hm => have h9 := msgR_key (hkR9 m hm); ⟨by omega, h9.2⟩)) rfl ?_
          refine W.ok (ok_fieldB fd35_8 rfl) ?_
          refine W.ok (ok_loadB (i := 4) (vs := [.slice _ _ _]) ty33 rfl rfl rfl rfl (by simp)) ?_
          refine W.mv ?_
          refine W.qcall (ron18_fc (hm_p.mono (((((hG4.trans hG5).trans hG203).trans hG204).trans hG219).trans hG227)) ((someN ([(kidS p i).lo] ++ p.pivots) ++ [key])[q]'(by omega)) (fun m hm => have h9 := msgR_key (hpR9 m hm); ⟨by omega, h9.2⟩)) rfl ?_
          refine W.qcall (rthen_fc (onsN k.msgs ((someN ([(kidS p i).lo] ++ p.pivots) ++ [key])[q]'(by omega))).kind (onsN k.msgs ((someN ([(kidS p i).lo] ++ p.pivots) ++ [key])[q]'(by omega))).val (onsN p.msgs ((someN ([(kidS p i).lo] ++ p.pivots) ++ [key])[q]'(by omega))).kind (onsN p.msgs ((someN ([(kidS p i).lo] ++ p.pivots) ++ [key])[q]'(by omega))).val (by have := onval ((someN ([(kidS p i).lo] ++ p.pivots) ++ [key])[q]'(by omega)) hkR9; omega) (by have := onval ((someN ([(kidS p i).lo] ++ p.pivots) ++ [key])[q]'(by omega)) hpR9; omega) (ons_D _ _)) rfl ?_
          refine W.mv ?_
          refine W.mv ?_
          refine W.qcall (rapply_fc ((onsN k.msgs ((someN ([(kidS p i).lo] ++ p.pivots) ++ [key])[q]'(by omega))).then (onsN p.msgs ((someN ([(kidS p i).lo] ++ p.pivots) ++ [key])[q]'(by omega)))).kind ((onsN k.msgs ((someN ([(kidS p i).lo] ++ p.pivots) ++ [key])[q]'(by omega))).then (onsN p.msgs ((someN ([(kidS p i).lo] ++ p.pivots) ++ [key])[q]'(by omega)))).val (getN k.rows ((someN ([(kidS p i).lo] ++ p.pivots) ++ [key])[q]'(by omega))).isSome ((getN k.rows ((someN ([(kidS p i).lo] ++ p.pivots) ++ [key])[q]'(by omega))).getD Str.nil) (by have := then_val (onval ((someN ([(kidS p i).lo] ++ p.pivots) ++ [key])[q]'(by omega)) hkR9) (onval ((someN ([(kidS p i).lo] ++ p.pivots) ++ [key])[q]'(by omega)) hpR9); omega) (by have := (nd_rowsR hM.1.2.1).val ((someN ([(kidS p i).lo] ++ p.pivots) ++ [key])[q]'(by omega)); omega)) rfl ?_
          refine W.mv ?_
          refine W.ok (ok_extract rfl rfl) ?_
          refine W.ok (ok_extract rfl rfl) ?_
          refine W.as ?_
          refine W.as ?_
          refine W.nil (thn_n ?_)
          refine WC.seq ?_
          refine WC.draw mix (by kernel_rfl) ?_
          refine W.ok (ok_fieldB fd35_8 rfl) ?_
          refine W.ok (ok_loadB (i := 1) (vs := [.slice _ _ _]) ty33 rfl rfl rfl rfl (by simp)) ?_
          refine W.mv ?_
          refine W.qcall (ron18_fc (hm_hv7.mono (((hG203.trans hG204).trans hG219).trans hG227)) ((someN ([(kidS p i).lo] ++ p.pivots) ++ [key])[q]'(by omega)) (fun m hm => have h9 := msgR_key (hbR9 m hm); ⟨by omega, h9.2⟩)) rfl ?_
          refine W.ok (ok_fieldB fd35_8 rfl) ?_
          refine W.ok (ok_loadB (i := 2) (vs := [.slice _ _ _]) ty33 rfl rfl rfl rfl (by simp)) ?_
          refine W.mv ?_
          refine W.qcall (ron18_fc (hm_hv6.mono (((hG203.trans hG204).trans hG219).trans hG227)) ((someN ([(kidS p i).lo] ++ p.pivots) ++ [key])[q]'(by omega)) (fun m hm => have h9 := msgR_key (haR9 m hm); ⟨by omega, h9.2⟩)) rfl ?_
          refine W.qcall (rthen_fc (onsN (pourN cl cb p k i).2.1.msgs ((someN ([(kidS p i).lo] ++ p.pivots) ++ [key])[q]'(by omega))).kind (onsN (pourN cl cb p k i).2.1.msgs ((someN ([(kidS p i).lo] ++ p.pivots) ++ [key])[q]'(by omega))).val (onsN (pourN cl cb p k i).1.msgs ((someN ([(kidS p i).lo] ++ p.pivots) ++ [key])[q]'(by omega))).kind (onsN (pourN cl cb p k i).1.msgs ((someN ([(kidS p i).lo] ++ p.pivots) ++ [key])[q]'(by omega))).val (by have := onval ((someN ([(kidS p i).lo] ++ p.pivots) ++ [key])[q]'(by omega)) hbR9; omega) (by have := onval ((someN ([(kidS p i).lo] ++ p.pivots) ++ [key])[q]'(by omega)) haR9; omega) (ons_D _ _)) rfl ?_
          refine W.mv ?_
          refine W.mv ?_
          refine W.qcall (rapply_fc ((onsN (pourN cl cb p k i).2.1.msgs ((someN ([(kidS p i).lo] ++ p.pivots) ++ [key])[q]'(by omega))).then (onsN (pourN cl cb p k i).1.msgs ((someN ([(kidS p i).lo] ++ p.pivots) ++ [key])[q]'(by omega)))).kind ((onsN (pourN cl cb p k i).2.1.msgs ((someN ([(kidS p i).lo] ++ p.pivots) ++ [key])[q]'(by omega))).then (onsN (pourN cl cb p k i).1.msgs ((someN ([(kidS p i).lo] ++ p.pivots) ++ [key])[q]'(by omega)))).val (getN (pourN cl cb p k i).2.1.rows ((someN ([(kidS p i).lo] ++ p.pivots) ++ [key])[q]'(by omega))).isSome ((getN (pourN cl cb p k i).2.1.rows ((someN ([(kidS p i).lo] ++ p.pivots) ++ [key])[q]'(by omega))).getD Str.nil) (by have := then_val (onval ((someN ([(kidS p i).lo] ++ p.pivots) ++ [key])[q]'(by omega)) hbR9) (onval ((someN ([(kidS p i).lo] ++ p.pivots) ++ [key])[q]'(by omega)) haR9); omega) (by have := (nd_rowsR hAB.1.2.1).val ((someN ([(kidS p i).lo] ++ p.pivots) ++ [key])[q]'(by omega)); omega)) rfl ?_
          refine W.mv ?_
          refine W.ok (ok_extract rfl rfl) ?_
          refine W.ok (ok_extract rfl rfl) ?_
          refine W.as ?_
          refine W.as ?_
          refine W.nil (thn_n ?_)
          refine WC.seq ?_
          refine WC.region ?_
          refine W.ok (ok_loadB (i := 0) (vs := [.string _, .string _, .bool _]) ty37 rfl rfl rfl rfl (by simp)) ?_
          refine W.mv ?_
          refine W.qcall (has_fc _ _ _ _) rfl ?_
          refine W.mv ?_
          refine W.sp 151 rfl (fun h150 => ?_) (fun h150 => ?_)
          ·have hget := hlw ((someN ([(kidS p i).lo] ++ p.pivots) ++ [key])[q]'(by omega)) (by simpa using h150)
           refine W.yes (dj := 151) rfl rfl h150 ?_
           refine W.mv ?_
           refine W.yes (dj := 151) rfl rfl h150 ?_
           refine W.mv ?_
           refine W.yes (dj := 151) rfl rfl h150 ?_
           refine W.ok (ok_neqB bo4 rfl rfl) ?_
           refine W.yes (dj := 151) rfl rfl h150 ?_
           refine W.mv ?_
           refine W.sp 155 rfl (fun h154 => ?_) (fun h154 => ?_)
           ·exfalso
            have e9 : (!((((onsN (pourN cl cb p k i).2.1.msgs ((someN ([(kidS p i).lo] ++ p.pivots) ++ [key])[q]'(by omega))).then (onsN (pourN cl cb p k i).1.msgs ((someN ([(kidS p i).lo] ++ p.pivots) ++ [key])[q]'(by omega)))).apply (optS (getN (pourN cl cb p k i).2.1.rows ((someN ([(kidS p i).lo] ++ p.pivots) ++ [key])[q]'(by omega))).isSome ((getN (pourN cl cb p k i).2.1.rows ((someN ([(kidS p i).lo] ++ p.pivots) ++ [key])[q]'(by omega))).getD Str.nil))).isSome == (((onsN k.msgs ((someN ([(kidS p i).lo] ++ p.pivots) ++ [key])[q]'(by omega))).then (onsN p.msgs ((someN ([(kidS p i).lo] ++ p.pivots) ++ [key])[q]'(by omega)))).apply (optS (getN k.rows ((someN ([(kidS p i).lo] ++ p.pivots) ++ [key])[q]'(by omega))).isSome ((getN k.rows ((someN ([(kidS p i).lo] ++ p.pivots) ++ [key])[q]'(by omega))).getD Str.nil))).isSome)) = true := h154
            rw [← hget] at e9
            simp at e9
           ·refine W.yes (dj := 155) rfl rfl h154 ?_
            refine W.mv ?_
            refine W.yes (dj := 155) rfl rfl h154 ?_
            refine W.mv ?_
            refine W.yes (dj := 155) rfl rfl h154 ?_
            refine W.ok (ok_neqS rfl rfl) ?_
            refine W.yes (dj := 151) rfl rfl h150 ?_
            refine W.ok (ok_pick_f rfl h154) ?_
            refine W.ok (ok_pick_t rfl h150) ?_
            refine W.nil (thn_n ?_)
            refine WC.cond (b := _) rfl (fun h158 => ?_) (fun h158 => ?_)
            ·have p158 := nd_t h158
             try dsimp only at p158
             exfalso
             have e9 : ¬ ((((onsN k.msgs ((someN ([(kidS p i).lo] ++ p.pivots) ++ [key])[q]'(by omega))).then (onsN p.msgs ((someN ([(kidS p i).lo] ++ p.pivots) ++ [key])[q]'(by omega)))).apply (optS (getN k.rows ((someN ([(kidS p i).lo] ++ p.pivots) ++ [key])[q]'(by omega))).isSome ((getN k.rows ((someN ([(kidS p i).lo] ++ p.pivots) ++ [key])[q]'(by omega))).getD Str.nil))).getD Str.nil).b = ((((onsN (pourN cl cb p k i).2.1.msgs ((someN ([(kidS p i).lo] ++ p.pivots) ++ [key])[q]'(by omega))).then (onsN (pourN cl cb p k i).1.msgs ((someN ([(kidS p i).lo] ++ p.pivots) ++ [key])[q]'(by omega)))).apply (optS (getN (pourN cl cb p k i).2.1.rows ((someN ([(kidS p i).lo] ++ p.pivots) ++ [key])[q]'(by omega))).isSome ((getN (pourN cl cb p k i).2.1.rows ((someN ([(kidS p i).lo] ++ p.pivots) ++ [key])[q]'(by omega))).getD Str.nil))).getD Str.nil).b := p158
             exact e9 (by rw [hget])
            ·have p158 := nd_f h158
             try dsimp only at p158
             refine WC.skip (blk_n (thn_n ?_))
             refine WC.region ?_
             refine W.ok (ok_add rfl rfl (by omega)) ?_
             refine W.mv ?_
             refine W.nil (thn_n ?_)
             exact ⟨Le.rfl, q + 1, ⟨eqv, eqv, eqv, eqv, eqv, eqv, eqv, eqv, trivial⟩, ⟨rfl, by omega⟩, by omega⟩
          ·refine W.no (dj := 151) rfl rfl h150 ?_
           refine W.no (dj := 151) rfl rfl h150 ?_
           refine W.no (dj := 151) rfl rfl h150 ?_
           refine W.no (dj := 151) rfl rfl h150 ?_
           refine W.nou (dj := 155) rfl rfl ?_
           refine W.nou (dj := 155) rfl rfl ?_
           refine W.nou (dj := 155) rfl rfl ?_
           refine W.no (dj := 151) rfl rfl h150 ?_
           refine W.ok (ok_pick_f rfl h150) ?_
           refine W.nil (thn_n ?_)
           refine WC.cond_f rfl rfl ?_
           refine WC.skip (blk_n (thn_n ?_))
           refine WC.region ?_
           refine W.ok (ok_add rfl rfl (by omega)) ?_
           refine W.mv ?_
           refine W.nil (thn_n ?_)
           exact ⟨Le.rfl, q + 1, ⟨eqv, eqv, eqv, eqv, eqv, eqv, eqv, eqv, trivial⟩, ⟨rfl, by omega⟩, by omega⟩
         ·have p101 := of_decide_eq_false h101
          try dsimp only at p101
          refine WC.exit (thn_x (thn_x (blk_h (thn_n ?_))))
          refine WC.seq ?_
          refine WC.region ?_
          refine W.qcall (awake23_fc) rfl ?_
          refine W.as ?_
          refine W.nil (thn_n ?_)
          refine WC.ret ?_
          refine ⟨.inr rfl, [_], ⟨rfl, trivial⟩, [], List.nil_sublist _, ?_⟩
          rfl
       ·refine W.alloc zr37 (fun b231 => ?_)
        refine W.nil ⟨Le.rfl, ((((((List.Sublist.refl _).cons_cons _).cons_cons _).cons_cons _).cons_cons _).cons_cons _).cons _, _, ((((((List.Sublist.refl _).cons_cons _).cons_cons _).cons_cons _).cons_cons _).cons_cons _).cons _, List.Sublist.refl _, ?_⟩
        refine WD.any [6] (by kernel_rfl) rfl ⟨⟨_, rfl, rfl, ?_⟩, trivial⟩
        refine W.qcall (rmeet_fc _ _ _ _ _ _) rfl ?_
        refine W.nil ⟨Le.rfl, ((((((List.Sublist.refl _).cons_cons _).cons_cons _).cons_cons _).cons_cons _).cons_cons _).cons _, _, ((((((List.Sublist.refl _).cons_cons _).cons_cons _).cons_cons _).cons_cons _).cons_cons _).cons _, List.Sublist.refl _, ?_⟩
        refine WD.any [8] (by kernel_rfl) rfl ⟨⟨_, rfl, rfl, ?_⟩, trivial⟩
        refine W.store (i := 0) (vs := [.string _, .string _, .bool _]) (L' := [.string _, .string _, .bool _]) ty37 rfl rfl rfl rfl rfl rfl rfl rfl ?_
        refine W.nil ⟨Le.rfl, ((((((List.Sublist.refl _).cons_cons _).cons_cons _).cons_cons _).cons_cons _).cons_cons _).cons _, _, ((((((List.Sublist.refl _).cons_cons _).cons_cons _).cons_cons _).cons_cons _).cons_cons _).cons _, List.Sublist.refl _, ?_⟩
        refine WD.done (by kernel_rfl) (thn_n ?_)
        refine WC.seq ?_
        refine WC.seq ?_
        refine WC.region ?_
        refine W.ok (ok_fieldB fd37_0 rfl) ?_
        refine W.ok (ok_loadB (i := 0) (vs := [.string _]) ty9 rfl rfl rfl rfl (by simp)) ?_
        refine W.litO (e := eStr) (l := [(kidS p i).lo]) (css := [[.string _]]) sl32 ty9 zr9 rfl rfl rfl rfl rfl rfl ⟨rfl, trivial⟩ (fun v232 Ms233 ho234 => ?_)
        refine W.perm (pmC (pmC (pmC (pmC (pmC (pmC (List.Perm.refl _))))))).symm ?_
        have q238 := ho234.form
        refine match q238 with | ⟨sa235, sc236, e_237⟩ => ?_
        subst e_237
        refine W.ok (ok_fieldB fd35_2 rfl) ?_
        refine W.ok (ok_loadB (i := 4) (vs := [.slice _ _ _]) ty32 rfl rfl rfl rfl (by simp)) ?_
        refine W.app (e := eStr) sl32 ty9 zr9 rfl by9 rfl rfl (ho234) ((hp_p.mono (hG4.trans hG5))) (pmC (pmC (pmC (pmC (pmC (pmC (List.Perm.refl _))))))) (by show (List.length _ + List.length _) * 16 ≤ _; simp; omega) (fun v239 Ms240 ho241 => ?_)
        refine W.perm (pmC (pmC (pmC (pmC (pmC (pmC (List.Perm.refl _))))))).symm ?_
        have q245 := ho241.form
        refine match q245 with | ⟨sa242, sc243, e_244⟩ => ?_
        subst e_244
        refine W.giveO ho241 (pmC (pmC (pmC (pmC (pmC (pmC (List.Perm.refl _))))))) (fun G246 hG246 hv246 => ?_)
        refine W.call (Mp := []) (some_fc hv246 (fun a ha => by have := hsz9 a ha; omega) (by simp; omega)) rfl (List.Perm.refl _) ?_
        rintro v248 G247 Ms249 hG247 ho250
        refine W.perm (pmC (pmC (pmC (pmC (pmC (pmC (List.Perm.refl _))))))).symm ?_
        have q254 := ho250.form
        refine match q254 with | ⟨sa251, sc252, e_253⟩ => ?_
        subst e_253
        refine W.mv ?_
        refine W.litO (e := eStr) (l := [key]) (css := [[.string _]]) sl32 ty9 zr9 rfl rfl rfl rfl rfl rfl ⟨rfl, trivial⟩ (fun v255 Ms256 ho257 => ?_)
        refine W.perm (pmC (pmC (pmC (pmC (pmC (pmC (List.Perm.refl _))))))).symm ?_
        have q261 := ho257.form
        refine match q261 with | ⟨sa258, sc259, e_260⟩ => ?_
        subst e_260
        refine W.giveO ho257 (pmC (pmC (pmC (pmC (pmC (pmC (List.Perm.refl _))))))) (fun G262 hG262 hv262 => ?_)
        refine W.app (e := eStr) sl32 ty9 zr9 rfl by9 rfl rfl ((ho250.mono hG262)) (hv262) (pmC (pmC (pmC (pmC (pmC (pmC (List.Perm.refl _))))))) (by show (List.length _ + List.length _) * 16 ≤ _; have := some_len ([(kidS p i).lo] ++ p.pivots); simp at this ⊢; omega) (fun v263 Ms264 ho265 => ?_)
        refine W.perm (pmC (pmC (pmC (pmC (pmC (pmC (List.Perm.refl _))))))).symm ?_
        have q269 := ho265.form
        refine match q269 with | ⟨sa266, sc267, e_268⟩ => ?_
        subst e_268
        refine W.ok (ok_lenO sl32 ho265 rfl) ?_
        refine W.mv ?_
        refine W.nil (thn_n ?_)
        refine WC.block ?_
        refine WC.loop (X := Nat) (fun q => [(100, .int .i64 ((q : Nat) : Int)), (98, .slice sa266 ((someN ([(kidS p i).lo] ++ p.pivots) ++ [key])).length sc267), (6, .pointer (some ⟨b2, 0, none⟩)), (7, .pointer (some ⟨b3, 0, none⟩)), (11, .pointer (some ⟨b14, 0, none⟩)), (12, .pointer (some ⟨b15, 0, none⟩)), (14, .pointer (some ⟨b231, 0, none⟩)), (99, .int .i64 ((((someN ([(kidS p i).lo] ++ p.pivots) ++ [key])).length : Nat) : Int))]) (fun q _ Ml => Ml = ((b231, .cells (List.toArray [.string ((kidS p i)).lo.b, .string ((kidS p i)).hi.b, .bool ((kidS p i)).opn]) 37 (0, 0)) :: ((b15, .cells (List.toArray [.int .i64 ((pourN cl cb p k i).2.1).slot, .int .i64 ((pourN cl cb p k i).2.1).level, .slice pa_hv7 (((pourN cl cb p k i).2.1).pivots).length pc_hv7, .slice ka_hv7 (((pourN cl cb p k i).2.1).kids).length kc_hv7, .string ((pourN cl cb p k i).2.1).high.b, .bool ((pourN cl cb p k i).2.1).top, .int .i64 ((pourN cl cb p k i).2.1).right, .int .i64 ((pourN cl cb p k i).2.1).seen, .slice ma_hv7 (((pourN cl cb p k i).2.1).msgs).length mc_hv7, .slice ra_hv7 (((pourN cl cb p k i).2.1).rows).length rc_hv7]) 35 (0, 0)) :: ((b14, .cells (List.toArray [.int .i64 ((pourN cl cb p k i).1).slot, .int .i64 ((pourN cl cb p k i).1).level, .slice pa_hv6 (((pourN cl cb p k i).1).pivots).length pc_hv6, .slice ka_hv6 (((pourN cl cb p k i).1).kids).length kc_hv6, .string ((pourN cl cb p k i).1).high.b, .bool ((pourN cl cb p k i).1).top, .int .i64 ((pourN cl cb p k i).1).right, .int .i64 ((pourN cl cb p k i).1).seen, .slice ma_hv6 (((pourN cl cb p k i).1).msgs).length mc_hv6, .slice ra_hv6 (((pourN cl cb p k i).1).rows).length rc_hv6]) 35 (0, 0)) :: ((b3, .cells (List.toArray [.int .i64 k.slot, .int .i64 k.level, .slice pa_k k.pivots.length pc_k, .slice ka_k k.kids.length kc_k, .string k.high.b, .bool k.top, .int .i64 k.right, .int .i64 k.seen, .slice ma_k k.msgs.length mc_k, .slice ra_k k.rows.length rc_k]) 35 (0, 0)) :: ((b2, .cells (List.toArray [.int .i64 p.slot, .int .i64 p.level, .slice pa_p p.pivots.length pc_p, .slice ka_p p.kids.length kc_p, .string p.high.b, .bool p.top, .int .i64 p.right, .int .i64 p.seen, .slice ma_p p.msgs.length mc_p, .slice ra_p p.rows.length rc_p]) 35 (0, 0)) :: ((b1, .cells (List.toArray [.int .i64 cf, .int .i64 cl, .int .i64 cb, .int .i64 cs, .int .i64 cr]) 23 (0, 0)) :: (Ms264 ++ []))))))) ∧ q ≤ (someN ([(kidS p i).lo] ++ p.pivots) ++ [key]).length) (fun q => (someN ([(kidS p i).lo] ++ p.pivots) ++ [key]).length - q) 0 ⟨eqv, eqv, eqv, eqv, eqv, eqv, eqv, eqv, trivial⟩ ?_ ?_
        ·exact ⟨rfl, Nat.zero_le _⟩
        ·rintro q gG270 G270 _ hG270 ⟨rfl, hqX⟩
         have hXl : (someN ([(kidS p i).lo] ++ p.pivots) ++ [key]).length ≤ 20000 := by rw [List.length_append, some_len]; simp; omega
         refine WC.seq ?_
         refine WC.region ?_
         refine W.ok (ok_lss rfl rfl) ?_
         refine W.nil (thn_n ?_)
         refine WC.seq ?_
         refine WC.cond (b := _) rfl (fun h101 => ?_) (fun h101 => ?_)
         ·have p101 := of_decide_eq_true h101
          try dsimp only at p101
          refine WC.skip (thn_n ?_)
          refine WC.seq ?_
          refine WC.block ?_
          refine WC.seq ?_
          refine WC.region ?_
          have q273 := (ho265.mono hG270).at (i := q) (by omega)
          refine match q273 with | ⟨_, he271, e_272⟩ => ?_
          subst e_272
          refine W.ok (ok_indexAddrO (i := q) sl32 ty9 (ho265.mono hG270) rfl rfl ⟨by omega, by omega⟩) ?_
          refine W.ok (ok_loadO (vs := [.string _]) ty9 he271 (pmC (pmC (pmC (pmC (pmC (pmC (List.Perm.refl _))))))) rfl rfl rfl (by simp)) ?_
          refine W.as ?_
          refine W.nil (thn_n ?_)
          refine WC.seq ?_
          refine WC.region ?_
          refine W.ok (ok_fieldB fd35_9 rfl) ?_
          refine W.ok (ok_loadB (i := 3) (vs := [.slice _ _ _]) ty31 rfl rfl rfl rfl (by simp)) ?_
          refine W.mv ?_
          refine W.qcall (rget_fc (hr_k.mono (((((hG4.trans hG5).trans hG246).trans hG247).trans hG262).trans hG270)) ((someN ([(kidS p i).lo] ++ p.pivots) ++ [key])[q]'(by omega))) rfl ?_
          refine W.mv ?_
          refine W.ok (ok_extract rfl rfl) ?_
          refine W.ok (ok_extract rfl rfl) ?_
          refine W.as ?_
          refine W.as ?_
          refine W.nil (thn_n ?_)
          refine WC.seq ?_
          refine WC.region ?_
          refine W.ok (ok_fieldB fd35_9 rfl) ?_
          refine W.ok (ok_loadB (i := 1) (vs := [.slice _ _ _]) ty31 rfl rfl rfl rfl (by simp)) ?_
          refine W.mv ?_
          refine W.qcall (rget_fc (hr_hv7.mono (((hG246.trans hG247).trans hG262).trans hG270)) ((someN ([(kidS p i).lo] ++ p.pivots) ++ [key])[q]'(by omega))) rfl ?_
          refine W.mv ?_
          refine W.ok (ok_extract rfl rfl) ?_
          refine W.ok (ok_extract rfl rfl) ?_
          refine W.as ?_
          refine W.as ?_
          refine W.nil (thn_n ?_)
          refine WC.seq ?_
          refine WC.draw mix (by kernel_rfl) ?_
          refine W.ok (ok_fieldB fd35_8 rfl) ?_
          refine W.ok (ok_loadB (i := 3) (vs := [.slice _ _ _]) ty33 rfl rfl rfl rfl (by simp)) ?_
          refine W.mv ?_
          refine W.qcall (ron18_fc (hm_k.mono (((((hG4.trans hG5).trans hG246).trans hG247).trans hG262).trans hG270)) ((someN ([(kidS p i).lo] ++ p.pivots) ++ [key])[q]'(by omega)) (fun m hm => have h9 := msgR_key (hkR9 m hm); ⟨by omega, h9.2⟩)) rfl ?_
          refine W.ok (ok_fieldB fd35_8 rfl) ?_
          refine W.ok (ok_loadB (i := 4) (vs := [.slice _ _ _]) ty33 rfl rfl rfl rfl (by simp)) ?_
          refine W.mv ?_
          refine W.qcall (ron18_fc (hm_p.mono (((((hG4.trans hG5).trans hG246).trans hG247).trans hG262).trans hG270)) ((someN ([(kidS p i).lo] ++ p.pivots) ++ [key])[q]'(by omega)) (fun m hm => have h9 := msgR_key (hpR9 m hm); ⟨by omega, h9.2⟩)) rfl ?_
          refine W.qcall (rthen_fc (onsN k.msgs ((someN ([(kidS p i).lo] ++ p.pivots) ++ [key])[q]'(by omega))).kind (onsN k.msgs ((someN ([(kidS p i).lo] ++ p.pivots) ++ [key])[q]'(by omega))).val (onsN p.msgs ((someN ([(kidS p i).lo] ++ p.pivots) ++ [key])[q]'(by omega))).kind (onsN p.msgs ((someN ([(kidS p i).lo] ++ p.pivots) ++ [key])[q]'(by omega))).val (by have := onval ((someN ([(kidS p i).lo] ++ p.pivots) ++ [key])[q]'(by omega)) hkR9; omega) (by have := onval ((someN ([(kidS p i).lo] ++ p.pivots) ++ [key])[q]'(by omega)) hpR9; omega) (ons_D _ _)) rfl ?_
          refine W.mv ?_
          refine W.mv ?_
          refine W.qcall (rapply_fc ((onsN k.msgs ((someN ([(kidS p i).lo] ++ p.pivots) ++ [key])[q]'(by omega))).then (onsN p.msgs ((someN ([(kidS p i).lo] ++ p.pivots) ++ [key])[q]'(by omega)))).kind ((onsN k.msgs ((someN ([(kidS p i).lo] ++ p.pivots) ++ [key])[q]'(by omega))).then (onsN p.msgs ((someN ([(kidS p i).lo] ++ p.pivots) ++ [key])[q]'(by omega)))).val (getN k.rows ((someN ([(kidS p i).lo] ++ p.pivots) ++ [key])[q]'(by omega))).isSome ((getN k.rows ((someN ([(kidS p i).lo] ++ p.pivots) ++ [key])[q]'(by omega))).getD Str.nil) (by have := then_val (onval ((someN ([(kidS p i).lo] ++ p.pivots) ++ [key])[q]'(by omega)) hkR9) (onval ((someN ([(kidS p i).lo] ++ p.pivots) ++ [key])[q]'(by omega)) hpR9); omega) (by have := (nd_rowsR hM.1.2.1).val ((someN ([(kidS p i).lo] ++ p.pivots) ++ [key])[q]'(by omega)); omega)) rfl ?_
          refine W.mv ?_
          refine W.ok (ok_extract rfl rfl) ?_
          refine W.ok (ok_extract rfl rfl) ?_
          refine W.as ?_
          refine W.as ?_
          refine W.nil (thn_n ?_)
          refine WC.seq ?_
          refine WC.draw mix (by kernel_rfl) ?_
          refine W.ok (ok_fieldB fd35_8 rfl) ?_
          refine W.ok (ok_loadB (i := 1) (vs := [.slice _ _ _]) ty33 rfl rfl rfl rfl (by simp)) ?_
          refine W.mv ?_
          refine W.qcall (ron18_fc (hm_hv7.mono (((hG246.trans hG247).trans hG262).trans hG270)) ((someN ([(kidS p i).lo] ++ p.pivots) ++ [key])[q]'(by omega)) (fun m hm => have h9 := msgR_key (hbR9 m hm); ⟨by omega, h9.2⟩)) rfl ?_
          refine W.ok (ok_fieldB fd35_8 rfl) ?_
          refine W.ok (ok_loadB (i := 2) (vs := [.slice _ _ _]) ty33 rfl rfl rfl rfl (by simp)) ?_
          refine W.mv ?_
          refine W.qcall (ron18_fc (hm_hv6.mono (((hG246.trans hG247).trans hG262).trans hG270)) ((someN ([(kidS p i).lo] ++ p.pivots) ++ [key])[q]'(by omega)) (fun m hm => have h9 := msgR_key (haR9 m hm); ⟨by omega, h9.2⟩)) rfl ?_
          refine W.qcall (rthen_fc (onsN (pourN cl cb p k i).2.1.msgs ((someN ([(kidS p i).lo] ++ p.pivots) ++ [key])[q]'(by omega))).kind (onsN (pourN cl cb p k i).2.1.msgs ((someN ([(kidS p i).lo] ++ p.pivots) ++ [key])[q]'(by omega))).val (onsN (pourN cl cb p k i).1.msgs ((someN ([(kidS p i).lo] ++ p.pivots) ++ [key])[q]'(by omega))).kind (onsN (pourN cl cb p k i).1.msgs ((someN ([(kidS p i).lo] ++ p.pivots) ++ [key])[q]'(by omega))).val (by have := onval ((someN ([(kidS p i).lo] ++ p.pivots) ++ [key])[q]'(by omega)) hbR9; omega) (by have := onval ((someN ([(kidS p i).lo] ++ p.pivots) ++ [key])[q]'(by omega)) haR9; omega) (ons_D _ _)) rfl ?_
          refine W.mv ?_
          refine W.mv ?_
          refine W.qcall (rapply_fc ((onsN (pourN cl cb p k i).2.1.msgs ((someN ([(kidS p i).lo] ++ p.pivots) ++ [key])[q]'(by omega))).then (onsN (pourN cl cb p k i).1.msgs ((someN ([(kidS p i).lo] ++ p.pivots) ++ [key])[q]'(by omega)))).kind ((onsN (pourN cl cb p k i).2.1.msgs ((someN ([(kidS p i).lo] ++ p.pivots) ++ [key])[q]'(by omega))).then (onsN (pourN cl cb p k i).1.msgs ((someN ([(kidS p i).lo] ++ p.pivots) ++ [key])[q]'(by omega)))).val (getN (pourN cl cb p k i).2.1.rows ((someN ([(kidS p i).lo] ++ p.pivots) ++ [key])[q]'(by omega))).isSome ((getN (pourN cl cb p k i).2.1.rows ((someN ([(kidS p i).lo] ++ p.pivots) ++ [key])[q]'(by omega))).getD Str.nil) (by have := then_val (onval ((someN ([(kidS p i).lo] ++ p.pivots) ++ [key])[q]'(by omega)) hbR9) (onval ((someN ([(kidS p i).lo] ++ p.pivots) ++ [key])[q]'(by omega)) haR9); omega) (by have := (nd_rowsR hAB.1.2.1).val ((someN ([(kidS p i).lo] ++ p.pivots) ++ [key])[q]'(by omega)); omega)) rfl ?_
          refine W.mv ?_
          refine W.ok (ok_extract rfl rfl) ?_
          refine W.ok (ok_extract rfl rfl) ?_
          refine W.as ?_
          refine W.as ?_
          refine W.nil (thn_n ?_)
          refine WC.seq ?_
          refine WC.region ?_
          refine W.ok (ok_loadB (i := 0) (vs := [.string _, .string _, .bool _]) ty37 rfl rfl rfl rfl (by simp)) ?_
          refine W.mv ?_
          refine W.qcall (has_fc _ _ _ _) rfl ?_
          refine W.mv ?_
          refine W.sp 151 rfl (fun h150 => ?_) (fun h150 => ?_)
          ·have hget := hlw ((someN ([(kidS p i).lo] ++ p.pivots) ++ [key])[q]'(by omega)) (by simpa using h150)
           refine W.yes (dj := 151) rfl rfl h150 ?_
           refine W.mv ?_
           refine W.yes (dj := 151) rfl rfl h150 ?_
           refine W.mv ?_
           refine W.yes (dj := 151) rfl rfl h150 ?_
           refine W.ok (ok_neqB bo4 rfl rfl) ?_
           refine W.yes (dj := 151) rfl rfl h150 ?_
           refine W.mv ?_
           refine W.sp 155 rfl (fun h154 => ?_) (fun h154 => ?_)
           ·exfalso
            have e9 : (!((((onsN (pourN cl cb p k i).2.1.msgs ((someN ([(kidS p i).lo] ++ p.pivots) ++ [key])[q]'(by omega))).then (onsN (pourN cl cb p k i).1.msgs ((someN ([(kidS p i).lo] ++ p.pivots) ++ [key])[q]'(by omega)))).apply (optS (getN (pourN cl cb p k i).2.1.rows ((someN ([(kidS p i).lo] ++ p.pivots) ++ [key])[q]'(by omega))).isSome ((getN (pourN cl cb p k i).2.1.rows ((someN ([(kidS p i).lo] ++ p.pivots) ++ [key])[q]'(by omega))).getD Str.nil))).isSome == (((onsN k.msgs ((someN ([(kidS p i).lo] ++ p.pivots) ++ [key])[q]'(by omega))).then (onsN p.msgs ((someN ([(kidS p i).lo] ++ p.pivots) ++ [key])[q]'(by omega)))).apply (optS (getN k.rows ((someN ([(kidS p i).lo] ++ p.pivots) ++ [key])[q]'(by omega))).isSome ((getN k.rows ((someN ([(kidS p i).lo] ++ p.pivots) ++ [key])[q]'(by omega))).getD Str.nil))).isSome)) = true := h154
            rw [← hget] at e9
            simp at e9
           ·refine W.yes (dj := 155) rfl rfl h154 ?_
            refine W.mv ?_
            refine W.yes (dj := 155) rfl rfl h154 ?_
            refine W.mv ?_
            refine W.yes (dj := 155) rfl rfl h154 ?_
            refine W.ok (ok_neqS rfl rfl) ?_
            refine W.yes (dj := 151) rfl rfl h150 ?_
            refine W.ok (ok_pick_f rfl h154) ?_
            refine W.ok (ok_pick_t rfl h150) ?_
            refine W.nil (thn_n ?_)
            refine WC.cond (b := _) rfl (fun h158 => ?_) (fun h158 => ?_)
            ·have p158 := nd_t h158
             try dsimp only at p158
             exfalso
             have e9 : ¬ ((((onsN k.msgs ((someN ([(kidS p i).lo] ++ p.pivots) ++ [key])[q]'(by omega))).then (onsN p.msgs ((someN ([(kidS p i).lo] ++ p.pivots) ++ [key])[q]'(by omega)))).apply (optS (getN k.rows ((someN ([(kidS p i).lo] ++ p.pivots) ++ [key])[q]'(by omega))).isSome ((getN k.rows ((someN ([(kidS p i).lo] ++ p.pivots) ++ [key])[q]'(by omega))).getD Str.nil))).getD Str.nil).b = ((((onsN (pourN cl cb p k i).2.1.msgs ((someN ([(kidS p i).lo] ++ p.pivots) ++ [key])[q]'(by omega))).then (onsN (pourN cl cb p k i).1.msgs ((someN ([(kidS p i).lo] ++ p.pivots) ++ [key])[q]'(by omega)))).apply (optS (getN (pourN cl cb p k i).2.1.rows ((someN ([(kidS p i).lo] ++ p.pivots) ++ [key])[q]'(by omega))).isSome ((getN (pourN cl cb p k i).2.1.rows ((someN ([(kidS p i).lo] ++ p.pivots) ++ [key])[q]'(by omega))).getD Str.nil))).getD Str.nil).b := p158
             exact e9 (by rw [hget])
            ·have p158 := nd_f h158
             try dsimp only at p158
             refine WC.skip (blk_n (thn_n ?_))
             refine WC.region ?_
             refine W.ok (ok_add rfl rfl (by omega)) ?_
             refine W.mv ?_
             refine W.nil (thn_n ?_)
             exact ⟨Le.rfl, q + 1, ⟨eqv, eqv, eqv, eqv, eqv, eqv, eqv, eqv, trivial⟩, ⟨rfl, by omega⟩, by omega⟩
          ·refine W.no (dj := 151) rfl rfl h150 ?_
           refine W.no (dj := 151) rfl rfl h150 ?_
           refine W.no (dj := 151) rfl rfl h150 ?_
           refine W.no (dj := 151) rfl rfl h150 ?_
           refine W.nou (dj := 155) rfl rfl ?_
           refine W.nou (dj := 155) rfl rfl ?_
           refine W.nou (dj := 155) rfl rfl ?_
           refine W.no (dj := 151) rfl rfl h150 ?_
           refine W.ok (ok_pick_f rfl h150) ?_
           refine W.nil (thn_n ?_)
           refine WC.cond_f rfl rfl ?_
           refine WC.skip (blk_n (thn_n ?_))
           refine WC.region ?_
           refine W.ok (ok_add rfl rfl (by omega)) ?_
           refine W.mv ?_
           refine W.nil (thn_n ?_)
           exact ⟨Le.rfl, q + 1, ⟨eqv, eqv, eqv, eqv, eqv, eqv, eqv, eqv, trivial⟩, ⟨rfl, by omega⟩, by omega⟩
         ·have p101 := of_decide_eq_false h101
          try dsimp only at p101
          refine WC.exit (thn_x (thn_x (blk_h (thn_n ?_))))
          refine WC.seq ?_
          refine WC.region ?_
          refine W.qcall (awake23_fc) rfl ?_
          refine W.as ?_
          refine W.nil (thn_n ?_)
          refine WC.ret ?_
          refine ⟨.inr rfl, [_], ⟨rfl, trivial⟩, [], List.nil_sublist _, ?_⟩
          rfl
      ·refine W.alloc zr37 (fun b274 => ?_)
       refine W.nil ⟨Le.rfl, ((((((List.Sublist.refl _).cons_cons _).cons_cons _).cons_cons _).cons_cons _).cons_cons _).cons _, _, ((((((List.Sublist.refl _).cons_cons _).cons_cons _).cons_cons _).cons_cons _).cons_cons _).cons _, List.Sublist.refl _, ?_⟩
       refine WD.any [5] (by kernel_rfl) rfl ⟨⟨_, rfl, rfl, ?_⟩, trivial⟩
       refine W.qcall (rrange_fc (hp_p.mono (hG4.trans hG5)) _ ⟨by omega, by omega⟩) rfl ?_
       refine W.nil ⟨Le.rfl, ((((((List.Sublist.refl _).cons_cons _).cons_cons _).cons_cons _).cons_cons _).cons_cons _).cons _, _, ((((((List.Sublist.refl _).cons_cons _).cons_cons _).cons_cons _).cons_cons _).cons_cons _).cons _, List.Sublist.refl _, ?_⟩
       refine WD.any [6] (by kernel_rfl) rfl ⟨⟨_, rfl, rfl, ?_⟩, trivial⟩
       refine W.qcall (rmeet_fc _ _ _ _ _ _) rfl ?_
       refine W.nil ⟨Le.rfl, ((((((List.Sublist.refl _).cons_cons _).cons_cons _).cons_cons _).cons_cons _).cons_cons _).cons _, _, ((((((List.Sublist.refl _).cons_cons _).cons_cons _).cons_cons _).cons_cons _).cons_cons _).cons _, List.Sublist.refl _, ?_⟩
       refine WD.any [8] (by kernel_rfl) rfl ⟨⟨_, rfl, rfl, ?_⟩, trivial⟩
       refine W.store (i := 0) (vs := [.string _, .string _, .bool _]) (L' := [.string _, .string _, .bool _]) ty37 rfl rfl rfl rfl rfl rfl rfl rfl ?_
       refine W.nil ⟨Le.rfl, ((((((List.Sublist.refl _).cons_cons _).cons_cons _).cons_cons _).cons_cons _).cons_cons _).cons _, _, ((((((List.Sublist.refl _).cons_cons _).cons_cons _).cons_cons _).cons_cons _).cons_cons _).cons _, List.Sublist.refl _, ?_⟩
       refine WD.done (by kernel_rfl) (thn_n ?_)
       refine WC.seq ?_
       refine WC.seq ?_
       refine WC.region ?_
       refine W.ok (ok_fieldB fd37_0 rfl) ?_
       refine W.ok (ok_loadB (i := 0) (vs := [.string _]) ty9 rfl rfl rfl rfl (by simp)) ?_
       refine W.litO (e := eStr) (l := [(kidS p i).lo]) (css := [[.string _]]) sl32 ty9 zr9 rfl rfl rfl rfl rfl rfl ⟨rfl, trivial⟩ (fun v275 Ms276 ho277 => ?_)
       refine W.perm (pmC (pmC (pmC (pmC (pmC (pmC (List.Perm.refl _))))))).symm ?_
       have q281 := ho277.form
       refine match q281 with | ⟨sa278, sc279, e_280⟩ => ?_
       subst e_280
       refine W.ok (ok_fieldB fd35_2 rfl) ?_
       refine W.ok (ok_loadB (i := 4) (vs := [.slice _ _ _]) ty32 rfl rfl rfl rfl (by simp)) ?_
       refine W.app (e := eStr) sl32 ty9 zr9 rfl by9 rfl rfl (ho277) ((hp_p.mono (hG4.trans hG5))) (pmC (pmC (pmC (pmC (pmC (pmC (List.Perm.refl _))))))) (by show (List.length _ + List.length _) * 16 ≤ _; simp; omega) (fun v282 Ms283 ho284 => ?_)
       refine W.perm (pmC (pmC (pmC (pmC (pmC (pmC (List.Perm.refl _))))))).symm ?_
       have q288 := ho284.form
       refine match q288 with | ⟨sa285, sc286, e_287⟩ => ?_
       subst e_287
       refine W.giveO ho284 (pmC (pmC (pmC (pmC (pmC (pmC (List.Perm.refl _))))))) (fun G289 hG289 hv289 => ?_)
       refine W.call (Mp := []) (some_fc hv289 (fun a ha => by have := hsz9 a ha; omega) (by simp; omega)) rfl (List.Perm.refl _) ?_
       rintro v291 G290 Ms292 hG290 ho293
       refine W.perm (pmC (pmC (pmC (pmC (pmC (pmC (List.Perm.refl _))))))).symm ?_
       have q297 := ho293.form
       refine match q297 with | ⟨sa294, sc295, e_296⟩ => ?_
       subst e_296
       refine W.mv ?_
       refine W.litO (e := eStr) (l := [key]) (css := [[.string _]]) sl32 ty9 zr9 rfl rfl rfl rfl rfl rfl ⟨rfl, trivial⟩ (fun v298 Ms299 ho300 => ?_)
       refine W.perm (pmC (pmC (pmC (pmC (pmC (pmC (List.Perm.refl _))))))).symm ?_
       have q304 := ho300.form
       refine match q304 with | ⟨sa301, sc302, e_303⟩ => ?_
       subst e_303
       refine W.giveO ho300 (pmC (pmC (pmC (pmC (pmC (pmC (List.Perm.refl _))))))) (fun G305 hG305 hv305 => ?_)
       refine W.app (e := eStr) sl32 ty9 zr9 rfl by9 rfl rfl ((ho293.mono hG305)) (hv305) (pmC (pmC (pmC (pmC (pmC (pmC (List.Perm.refl _))))))) (by show (List.length _ + List.length _) * 16 ≤ _; have := some_len ([(kidS p i).lo] ++ p.pivots); simp at this ⊢; omega) (fun v306 Ms307 ho308 => ?_)
       refine W.perm (pmC (pmC (pmC (pmC (pmC (pmC (List.Perm.refl _))))))).symm ?_
       have q312 := ho308.form
       refine match q312 with | ⟨sa309, sc310, e_311⟩ => ?_
       subst e_311
       refine W.ok (ok_lenO sl32 ho308 rfl) ?_
       refine W.mv ?_
       refine W.nil (thn_n ?_)
       refine WC.block ?_
       refine WC.loop (X := Nat) (fun q => [(100, .int .i64 ((q : Nat) : Int)), (98, .slice sa309 ((someN ([(kidS p i).lo] ++ p.pivots) ++ [key])).length sc310), (6, .pointer (some ⟨b2, 0, none⟩)), (7, .pointer (some ⟨b3, 0, none⟩)), (11, .pointer (some ⟨b14, 0, none⟩)), (12, .pointer (some ⟨b15, 0, none⟩)), (14, .pointer (some ⟨b274, 0, none⟩)), (99, .int .i64 ((((someN ([(kidS p i).lo] ++ p.pivots) ++ [key])).length : Nat) : Int))]) (fun q _ Ml => Ml = ((b274, .cells (List.toArray [.string ((kidS p i)).lo.b, .string ((kidS p i)).hi.b, .bool ((kidS p i)).opn]) 37 (0, 0)) :: ((b15, .cells (List.toArray [.int .i64 ((pourN cl cb p k i).2.1).slot, .int .i64 ((pourN cl cb p k i).2.1).level, .slice pa_hv7 (((pourN cl cb p k i).2.1).pivots).length pc_hv7, .slice ka_hv7 (((pourN cl cb p k i).2.1).kids).length kc_hv7, .string ((pourN cl cb p k i).2.1).high.b, .bool ((pourN cl cb p k i).2.1).top, .int .i64 ((pourN cl cb p k i).2.1).right, .int .i64 ((pourN cl cb p k i).2.1).seen, .slice ma_hv7 (((pourN cl cb p k i).2.1).msgs).length mc_hv7, .slice ra_hv7 (((pourN cl cb p k i).2.1).rows).length rc_hv7]) 35 (0, 0)) :: ((b14, .cells (List.toArray [.int .i64 ((pourN cl cb p k i).1).slot, .int .i64 ((pourN cl cb p k i).1).level, .slice pa_hv6 (((pourN cl cb p k i).1).pivots).length pc_hv6, .slice ka_hv6 (((pourN cl cb p k i).1).kids).length kc_hv6, .string ((pourN cl cb p k i).1).high.b, .bool ((pourN cl cb p k i).1).top, .int .i64 ((pourN cl cb p k i).1).right, .int .i64 ((pourN cl cb p k i).1).seen, .slice ma_hv6 (((pourN cl cb p k i).1).msgs).length mc_hv6, .slice ra_hv6 (((pourN cl cb p k i).1).rows).length rc_hv6]) 35 (0, 0)) :: ((b3, .cells (List.toArray [.int .i64 k.slot, .int .i64 k.level, .slice pa_k k.pivots.length pc_k, .slice ka_k k.kids.length kc_k, .string k.high.b, .bool k.top, .int .i64 k.right, .int .i64 k.seen, .slice ma_k k.msgs.length mc_k, .slice ra_k k.rows.length rc_k]) 35 (0, 0)) :: ((b2, .cells (List.toArray [.int .i64 p.slot, .int .i64 p.level, .slice pa_p p.pivots.length pc_p, .slice ka_p p.kids.length kc_p, .string p.high.b, .bool p.top, .int .i64 p.right, .int .i64 p.seen, .slice ma_p p.msgs.length mc_p, .slice ra_p p.rows.length rc_p]) 35 (0, 0)) :: ((b1, .cells (List.toArray [.int .i64 cf, .int .i64 cl, .int .i64 cb, .int .i64 cs, .int .i64 cr]) 23 (0, 0)) :: (Ms307 ++ []))))))) ∧ q ≤ (someN ([(kidS p i).lo] ++ p.pivots) ++ [key]).length) (fun q => (someN ([(kidS p i).lo] ++ p.pivots) ++ [key]).length - q) 0 ⟨eqv, eqv, eqv, eqv, eqv, eqv, eqv, eqv, trivial⟩ ?_ ?_
       ·exact ⟨rfl, Nat.zero_le _⟩
       ·rintro q gG313 G313 _ hG313 ⟨rfl, hqX⟩
        have hXl : (someN ([(kidS p i).lo] ++ p.pivots) ++ [key]).length ≤ 20000 := by rw [List.length_append, some_len]; simp; omega
        refine WC.seq ?_
        refine WC.region ?_
        refine W.ok (ok_lss rfl rfl) ?_
        refine W.nil (thn_n ?_)
        refine WC.seq ?_
        refine WC.cond (b := _) rfl (fun h101 => ?_) (fun h101 => ?_)
        ·have p101 := of_decide_eq_true h101
         try dsimp only at p101
         refine WC.skip (thn_n ?_)
         refine WC.seq ?_
         refine WC.block ?_
         refine WC.seq ?_
         refine WC.region ?_
         have q316 := (ho308.mono hG313).at (i := q) (by omega)
         refine match q316 with | ⟨_, he314, e_315⟩ => ?_
         subst e_315
         refine W.ok (ok_indexAddrO (i := q) sl32 ty9 (ho308.mono hG313) rfl rfl ⟨by omega, by omega⟩) ?_
         refine W.ok (ok_loadO (vs := [.string _]) ty9 he314 (pmC (pmC (pmC (pmC (pmC (pmC (List.Perm.refl _))))))) rfl rfl rfl (by simp)) ?_
         refine W.as ?_
         refine W.nil (thn_n ?_)
         refine WC.seq ?_
         refine WC.region ?_
         refine W.ok (ok_fieldB fd35_9 rfl) ?_
         refine W.ok (ok_loadB (i := 3) (vs := [.slice _ _ _]) ty31 rfl rfl rfl rfl (by simp)) ?_
         refine W.mv ?_
         refine W.qcall (rget_fc (hr_k.mono (((((hG4.trans hG5).trans hG289).trans hG290).trans hG305).trans hG313)) ((someN ([(kidS p i).lo] ++ p.pivots) ++ [key])[q]'(by omega))) rfl ?_
         refine W.mv ?_
         refine W.ok (ok_extract rfl rfl) ?_
         refine W.ok (ok_extract rfl rfl) ?_
         refine W.as ?_
         refine W.as ?_
         refine W.nil (thn_n ?_)
         refine WC.seq ?_
         refine WC.region ?_
         refine W.ok (ok_fieldB fd35_9 rfl) ?_
         refine W.ok (ok_loadB (i := 1) (vs := [.slice _ _ _]) ty31 rfl rfl rfl rfl (by simp)) ?_
         refine W.mv ?_
         refine W.qcall (rget_fc (hr_hv7.mono (((hG289.trans hG290).trans hG305).trans hG313)) ((someN ([(kidS p i).lo] ++ p.pivots) ++ [key])[q]'(by omega))) rfl ?_
         refine W.mv ?_
         refine W.ok (ok_extract rfl rfl) ?_
         refine W.ok (ok_extract rfl rfl) ?_
         refine W.as ?_
         refine W.as ?_
         refine W.nil (thn_n ?_)
         refine WC.seq ?_
         refine WC.draw mix (by kernel_rfl) ?_
         refine W.ok (ok_fieldB fd35_8 rfl) ?_
         refine W.ok (ok_loadB (i := 3) (vs := [.slice _ _ _]) ty33 rfl rfl rfl rfl (by simp)) ?_
         refine W.mv ?_
         refine W.qcall (ron18_fc (hm_k.mono (((((hG4.trans hG5).trans hG289).trans hG290).trans hG305).trans hG313)) ((someN ([(kidS p i).lo] ++ p.pivots) ++ [key])[q]'(by omega)) (fun m hm => have h9 := msgR_key (hkR9 m hm); ⟨by omega, h9.2⟩)) rfl ?_
         refine W.ok (ok_fieldB fd35_8 rfl) ?_
         refine W.ok (ok_loadB (i := 4) (vs := [.slice _ _ _]) ty33 rfl rfl rfl rfl (by simp)) ?_
         refine W.mv ?_
         refine W.qcall (ron18_fc (hm_p.mono (((((hG4.trans hG5).trans hG289).trans hG290).trans hG305).trans hG313)) ((someN ([(kidS p i).lo] ++ p.pivots) ++ [key])[q]'(by omega)) (fun m hm => have h9 := msgR_key (hpR9 m hm); ⟨by omega, h9.2⟩)) rfl ?_
         refine W.qcall (rthen_fc (onsN k.msgs ((someN ([(kidS p i).lo] ++ p.pivots) ++ [key])[q]'(by omega))).kind (onsN k.msgs ((someN ([(kidS p i).lo] ++ p.pivots) ++ [key])[q]'(by omega))).val (onsN p.msgs ((someN ([(kidS p i).lo] ++ p.pivots) ++ [key])[q]'(by omega))).kind (onsN p.msgs ((someN ([(kidS p i).lo] ++ p.pivots) ++ [key])[q]'(by omega))).val (by have := onval ((someN ([(kidS p i).lo] ++ p.pivots) ++ [key])[q]'(by omega)) hkR9; omega) (by have := onval ((someN ([(kidS p i).lo] ++ p.pivots) ++ [key])[q]'(by omega)) hpR9; omega) (ons_D _ _)) rfl ?_
         refine W.mv ?_
         refine W.mv ?_
         refine W.qcall (rapply_fc ((onsN k.msgs ((someN ([(kidS p i).lo] ++ p.pivots) ++ [key])[q]'(by omega))).then (onsN p.msgs ((someN ([(kidS p i).lo] ++ p.pivots) ++ [key])[q]'(by omega)))).kind ((onsN k.msgs ((someN ([(kidS p i).lo] ++ p.pivots) ++ [key])[q]'(by omega))).then (onsN p.msgs ((someN ([(kidS p i).lo] ++ p.pivots) ++ [key])[q]'(by omega)))).val (getN k.rows ((someN ([(kidS p i).lo] ++ p.pivots) ++ [key])[q]'(by omega))).isSome ((getN k.rows ((someN ([(kidS p i).lo] ++ p.pivots) ++ [key])[q]'(by omega))).getD Str.nil) (by have := then_val (onval ((someN ([(kidS p i).lo] ++ p.pivots) ++ [key])[q]'(by omega)) hkR9) (onval ((someN ([(kidS p i).lo] ++ p.pivots) ++ [key])[q]'(by omega)) hpR9); omega) (by have := (nd_rowsR hM.1.2.1).val ((someN ([(kidS p i).lo] ++ p.pivots) ++ [key])[q]'(by omega)); omega)) rfl ?_
         refine W.mv ?_
         refine W.ok (ok_extract rfl rfl) ?_
         refine W.ok (ok_extract rfl rfl) ?_
         refine W.as ?_
         refine W.as ?_
         refine W.nil (thn_n ?_)
         refine WC.seq ?_
         refine WC.draw mix (by kernel_rfl) ?_
         refine W.ok (ok_fieldB fd35_8 rfl) ?_
         refine W.ok (ok_loadB (i := 1) (vs := [.slice _ _ _]) ty33 rfl rfl rfl rfl (by simp)) ?_
         refine W.mv ?_
         refine W.qcall (ron18_fc (hm_hv7.mono (((hG289.trans hG290).trans hG305).trans hG313)) ((someN ([(kidS p i).lo] ++ p.pivots) ++ [key])[q]'(by omega)) (fun m hm => have h9 := msgR_key (hbR9 m hm); ⟨by omega, h9.2⟩)) rfl ?_
         refine W.ok (ok_fieldB fd35_8 rfl) ?_
         refine W.ok (ok_loadB (i := 2) (vs := [.slice _ _ _]) ty33 rfl rfl rfl rfl (by simp)) ?_
         refine W.mv ?_
         refine W.qcall (ron18_fc (hm_hv6.mono (((hG289.trans hG290).trans hG305).trans hG313)) ((someN ([(kidS p i).lo] ++ p.pivots) ++ [key])[q]'(by omega)) (fun m hm => have h9 := msgR_key (haR9 m hm); ⟨by omega, h9.2⟩)) rfl ?_
         refine W.qcall (rthen_fc (onsN (pourN cl cb p k i).2.1.msgs ((someN ([(kidS p i).lo] ++ p.pivots) ++ [key])[q]'(by omega))).kind (onsN (pourN cl cb p k i).2.1.msgs ((someN ([(kidS p i).lo] ++ p.pivots) ++ [key])[q]'(by omega))).val (onsN (pourN cl cb p k i).1.msgs ((someN ([(kidS p i).lo] ++ p.pivots) ++ [key])[q]'(by omega))).kind (onsN (pourN cl cb p k i).1.msgs ((someN ([(kidS p i).lo] ++ p.pivots) ++ [key])[q]'(by omega))).val (by have := onval ((someN ([(kidS p i).lo] ++ p.pivots) ++ [key])[q]'(by omega)) hbR9; omega) (by have := onval ((someN ([(kidS p i).lo] ++ p.pivots) ++ [key])[q]'(by omega)) haR9; omega) (ons_D _ _)) rfl ?_
         refine W.mv ?_
         refine W.mv ?_
         refine W.qcall (rapply_fc ((onsN (pourN cl cb p k i).2.1.msgs ((someN ([(kidS p i).lo] ++ p.pivots) ++ [key])[q]'(by omega))).then (onsN (pourN cl cb p k i).1.msgs ((someN ([(kidS p i).lo] ++ p.pivots) ++ [key])[q]'(by omega)))).kind ((onsN (pourN cl cb p k i).2.1.msgs ((someN ([(kidS p i).lo] ++ p.pivots) ++ [key])[q]'(by omega))).then (onsN (pourN cl cb p k i).1.msgs ((someN ([(kidS p i).lo] ++ p.pivots) ++ [key])[q]'(by omega)))).val (getN (pourN cl cb p k i).2.1.rows ((someN ([(kidS p i).lo] ++ p.pivots) ++ [key])[q]'(by omega))).isSome ((getN (pourN cl cb p k i).2.1.rows ((someN ([(kidS p i).lo] ++ p.pivots) ++ [key])[q]'(by omega))).getD Str.nil) (by have := then_val (onval ((someN ([(kidS p i).lo] ++ p.pivots) ++ [key])[q]'(by omega)) hbR9) (onval ((someN ([(kidS p i).lo] ++ p.pivots) ++ [key])[q]'(by omega)) haR9); omega) (by have := (nd_rowsR hAB.1.2.1).val ((someN ([(kidS p i).lo] ++ p.pivots) ++ [key])[q]'(by omega)); omega)) rfl ?_
         refine W.mv ?_
         refine W.ok (ok_extract rfl rfl) ?_
         refine W.ok (ok_extract rfl rfl) ?_
         refine W.as ?_
         refine W.as ?_
         refine W.nil (thn_n ?_)
         refine WC.seq ?_
         refine WC.region ?_
         refine W.ok (ok_loadB (i := 0) (vs := [.string _, .string _, .bool _]) ty37 rfl rfl rfl rfl (by simp)) ?_
         refine W.mv ?_
         refine W.qcall (has_fc _ _ _ _) rfl ?_
         refine W.mv ?_
         refine W.sp 151 rfl (fun h150 => ?_) (fun h150 => ?_)
         ·have hget := hlw ((someN ([(kidS p i).lo] ++ p.pivots) ++ [key])[q]'(by omega)) (by simpa using h150)
          refine W.yes (dj := 151) rfl rfl h150 ?_
          refine W.mv ?_
          refine W.yes (dj := 151) rfl rfl h150 ?_
          refine W.mv ?_
          refine W.yes (dj := 151) rfl rfl h150 ?_
          refine W.ok (ok_neqB bo4 rfl rfl) ?_
          refine W.yes (dj := 151) rfl rfl h150 ?_
          refine W.mv ?_
          refine W.sp 155 rfl (fun h154 => ?_) (fun h154 => ?_)
          ·exfalso
           have e9 : (!((((onsN (pourN cl cb p k i).2.1.msgs ((someN ([(kidS p i).lo] ++ p.pivots) ++ [key])[q]'(by omega))).then (onsN (pourN cl cb p k i).1.msgs ((someN ([(kidS p i).lo] ++ p.pivots) ++ [key])[q]'(by omega)))).apply (optS (getN (pourN cl cb p k i).2.1.rows ((someN ([(kidS p i).lo] ++ p.pivots) ++ [key])[q]'(by omega))).isSome ((getN (pourN cl cb p k i).2.1.rows ((someN ([(kidS p i).lo] ++ p.pivots) ++ [key])[q]'(by omega))).getD Str.nil))).isSome == (((onsN k.msgs ((someN ([(kidS p i).lo] ++ p.pivots) ++ [key])[q]'(by omega))).then (onsN p.msgs ((someN ([(kidS p i).lo] ++ p.pivots) ++ [key])[q]'(by omega)))).apply (optS (getN k.rows ((someN ([(kidS p i).lo] ++ p.pivots) ++ [key])[q]'(by omega))).isSome ((getN k.rows ((someN ([(kidS p i).lo] ++ p.pivots) ++ [key])[q]'(by omega))).getD Str.nil))).isSome)) = true := h154
           rw [← hget] at e9
           simp at e9
          ·refine W.yes (dj := 155) rfl rfl h154 ?_
           refine W.mv ?_
           refine W.yes (dj := 155) rfl rfl h154 ?_
           refine W.mv ?_
           refine W.yes (dj := 155) rfl rfl h154 ?_
           refine W.ok (ok_neqS rfl rfl) ?_
           refine W.yes (dj := 151) rfl rfl h150 ?_
           refine W.ok (ok_pick_f rfl h154) ?_
           refine W.ok (ok_pick_t rfl h150) ?_
           refine W.nil (thn_n ?_)
           refine WC.cond (b := _) rfl (fun h158 => ?_) (fun h158 => ?_)
           ·have p158 := nd_t h158
            try dsimp only at p158
            exfalso
            have e9 : ¬ ((((onsN k.msgs ((someN ([(kidS p i).lo] ++ p.pivots) ++ [key])[q]'(by omega))).then (onsN p.msgs ((someN ([(kidS p i).lo] ++ p.pivots) ++ [key])[q]'(by omega)))).apply (optS (getN k.rows ((someN ([(kidS p i).lo] ++ p.pivots) ++ [key])[q]'(by omega))).isSome ((getN k.rows ((someN ([(kidS p i).lo] ++ p.pivots) ++ [key])[q]'(by omega))).getD Str.nil))).getD Str.nil).b = ((((onsN (pourN cl cb p k i).2.1.msgs ((someN ([(kidS p i).lo] ++ p.pivots) ++ [key])[q]'(by omega))).then (onsN (pourN cl cb p k i).1.msgs ((someN ([(kidS p i).lo] ++ p.pivots) ++ [key])[q]'(by omega)))).apply (optS (getN (pourN cl cb p k i).2.1.rows ((someN ([(kidS p i).lo] ++ p.pivots) ++ [key])[q]'(by omega))).isSome ((getN (pourN cl cb p k i).2.1.rows ((someN ([(kidS p i).lo] ++ p.pivots) ++ [key])[q]'(by omega))).getD Str.nil))).getD Str.nil).b := p158
            exact e9 (by rw [hget])
           ·have p158 := nd_f h158
            try dsimp only at p158
            refine WC.skip (blk_n (thn_n ?_))
            refine WC.region ?_
            refine W.ok (ok_add rfl rfl (by omega)) ?_
            refine W.mv ?_
            refine W.nil (thn_n ?_)
            exact ⟨Le.rfl, q + 1, ⟨eqv, eqv, eqv, eqv, eqv, eqv, eqv, eqv, trivial⟩, ⟨rfl, by omega⟩, by omega⟩
         ·refine W.no (dj := 151) rfl rfl h150 ?_
          refine W.no (dj := 151) rfl rfl h150 ?_
          refine W.no (dj := 151) rfl rfl h150 ?_
          refine W.no (dj := 151) rfl rfl h150 ?_
          refine W.nou (dj := 155) rfl rfl ?_
          refine W.nou (dj := 155) rfl rfl ?_
          refine W.nou (dj := 155) rfl rfl ?_
          refine W.no (dj := 151) rfl rfl h150 ?_
          refine W.ok (ok_pick_f rfl h150) ?_
          refine W.nil (thn_n ?_)
          refine WC.cond_f rfl rfl ?_
          refine WC.skip (blk_n (thn_n ?_))
          refine WC.region ?_
          refine W.ok (ok_add rfl rfl (by omega)) ?_
          refine W.mv ?_
          refine W.nil (thn_n ?_)
          exact ⟨Le.rfl, q + 1, ⟨eqv, eqv, eqv, eqv, eqv, eqv, eqv, eqv, trivial⟩, ⟨rfl, by omega⟩, by omega⟩
        ·have p101 := of_decide_eq_false h101
         try dsimp only at p101
         refine WC.exit (thn_x (thn_x (blk_h (thn_n ?_))))
         refine WC.seq ?_
         refine WC.region ?_
         refine W.qcall (awake23_fc) rfl ?_
         refine W.as ?_
         refine W.nil (thn_n ?_)
         refine WC.ret ?_
         refine ⟨.inr rfl, [_], ⟨rfl, trivial⟩, [], List.nil_sublist _, ?_⟩
         rfl
     ·refine W.alloc zr37 (fun b317 => ?_)
      refine W.nil ⟨Le.rfl, ((((((List.Sublist.refl _).cons_cons _).cons_cons _).cons_cons _).cons_cons _).cons_cons _).cons _, _, ((((((List.Sublist.refl _).cons_cons _).cons_cons _).cons_cons _).cons_cons _).cons_cons _).cons _, List.Sublist.refl _, ?_⟩
      refine WD.any [1] (by kernel_rfl) rfl ⟨⟨_, rfl, rfl, ?_⟩, trivial⟩
      refine W.qcall (rspan21_fc (n := p) ⟨_, _, _, _, _, _, _, _, rfl, (hp_p.mono (hG4.trans hG5)), (hk_p.mono (hG4.trans hG5)), (hm_p.mono (hG4.trans hG5)), (hr_p.mono (hG4.trans hG5)), hok_p⟩) rfl ?_
      refine W.nil ⟨Le.rfl, ((((((List.Sublist.refl _).cons_cons _).cons_cons _).cons_cons _).cons_cons _).cons_cons _).cons _, _, ((((((List.Sublist.refl _).cons_cons _).cons_cons _).cons_cons _).cons_cons _).cons_cons _).cons _, List.Sublist.refl _, ?_⟩
      refine WD.any [5] (by kernel_rfl) rfl ⟨⟨_, rfl, rfl, ?_⟩, trivial⟩
      refine W.qcall (rrange_fc (hp_p.mono (hG4.trans hG5)) _ ⟨by omega, by omega⟩) rfl ?_
      refine W.nil ⟨Le.rfl, ((((((List.Sublist.refl _).cons_cons _).cons_cons _).cons_cons _).cons_cons _).cons_cons _).cons _, _, ((((((List.Sublist.refl _).cons_cons _).cons_cons _).cons_cons _).cons_cons _).cons_cons _).cons _, List.Sublist.refl _, ?_⟩
      refine WD.any [6] (by kernel_rfl) rfl ⟨⟨_, rfl, rfl, ?_⟩, trivial⟩
      refine W.qcall (rmeet_fc _ _ _ _ _ _) rfl ?_
      refine W.nil ⟨Le.rfl, ((((((List.Sublist.refl _).cons_cons _).cons_cons _).cons_cons _).cons_cons _).cons_cons _).cons _, _, ((((((List.Sublist.refl _).cons_cons _).cons_cons _).cons_cons _).cons_cons _).cons_cons _).cons _, List.Sublist.refl _, ?_⟩
      refine WD.any [8] (by kernel_rfl) rfl ⟨⟨_, rfl, rfl, ?_⟩, trivial⟩
      refine W.store (i := 0) (vs := [.string _, .string _, .bool _]) (L' := [.string _, .string _, .bool _]) ty37 rfl rfl rfl rfl rfl rfl rfl rfl ?_
      refine W.nil ⟨Le.rfl, ((((((List.Sublist.refl _).cons_cons _).cons_cons _).cons_cons _).cons_cons _).cons_cons _).cons _, _, ((((((List.Sublist.refl _).cons_cons _).cons_cons _).cons_cons _).cons_cons _).cons_cons _).cons _, List.Sublist.refl _, ?_⟩
      refine WD.done (by kernel_rfl) (thn_n ?_)
      refine WC.seq ?_
      refine WC.seq ?_
      refine WC.region ?_
      refine W.ok (ok_fieldB fd37_0 rfl) ?_
      refine W.ok (ok_loadB (i := 0) (vs := [.string _]) ty9 rfl rfl rfl rfl (by simp)) ?_
      refine W.litO (e := eStr) (l := [(kidS p i).lo]) (css := [[.string _]]) sl32 ty9 zr9 rfl rfl rfl rfl rfl rfl ⟨rfl, trivial⟩ (fun v318 Ms319 ho320 => ?_)
      refine W.perm (pmC (pmC (pmC (pmC (pmC (pmC (List.Perm.refl _))))))).symm ?_
      have q324 := ho320.form
      refine match q324 with | ⟨sa321, sc322, e_323⟩ => ?_
      subst e_323
      refine W.ok (ok_fieldB fd35_2 rfl) ?_
      refine W.ok (ok_loadB (i := 4) (vs := [.slice _ _ _]) ty32 rfl rfl rfl rfl (by simp)) ?_
      refine W.app (e := eStr) sl32 ty9 zr9 rfl by9 rfl rfl (ho320) ((hp_p.mono (hG4.trans hG5))) (pmC (pmC (pmC (pmC (pmC (pmC (List.Perm.refl _))))))) (by show (List.length _ + List.length _) * 16 ≤ _; simp; omega) (fun v325 Ms326 ho327 => ?_)
      refine W.perm (pmC (pmC (pmC (pmC (pmC (pmC (List.Perm.refl _))))))).symm ?_
      have q331 := ho327.form
      refine match q331 with | ⟨sa328, sc329, e_330⟩ => ?_
      subst e_330
      refine W.giveO ho327 (pmC (pmC (pmC (pmC (pmC (pmC (List.Perm.refl _))))))) (fun G332 hG332 hv332 => ?_)
      refine W.call (Mp := []) (some_fc hv332 (fun a ha => by have := hsz9 a ha; omega) (by simp; omega)) rfl (List.Perm.refl _) ?_
      rintro v334 G333 Ms335 hG333 ho336
      refine W.perm (pmC (pmC (pmC (pmC (pmC (pmC (List.Perm.refl _))))))).symm ?_
      have q340 := ho336.form
      refine match q340 with | ⟨sa337, sc338, e_339⟩ => ?_
      subst e_339
      refine W.mv ?_
      refine W.litO (e := eStr) (l := [key]) (css := [[.string _]]) sl32 ty9 zr9 rfl rfl rfl rfl rfl rfl ⟨rfl, trivial⟩ (fun v341 Ms342 ho343 => ?_)
      refine W.perm (pmC (pmC (pmC (pmC (pmC (pmC (List.Perm.refl _))))))).symm ?_
      have q347 := ho343.form
      refine match q347 with | ⟨sa344, sc345, e_346⟩ => ?_
      subst e_346
      refine W.giveO ho343 (pmC (pmC (pmC (pmC (pmC (pmC (List.Perm.refl _))))))) (fun G348 hG348 hv348 => ?_)
      refine W.app (e := eStr) sl32 ty9 zr9 rfl by9 rfl rfl ((ho336.mono hG348)) (hv348) (pmC (pmC (pmC (pmC (pmC (pmC (List.Perm.refl _))))))) (by show (List.length _ + List.length _) * 16 ≤ _; have := some_len ([(kidS p i).lo] ++ p.pivots); simp at this ⊢; omega) (fun v349 Ms350 ho351 => ?_)
      refine W.perm (pmC (pmC (pmC (pmC (pmC (pmC (List.Perm.refl _))))))).symm ?_
      have q355 := ho351.form
      refine match q355 with | ⟨sa352, sc353, e_354⟩ => ?_
      subst e_354
      refine W.ok (ok_lenO sl32 ho351 rfl) ?_
      refine W.mv ?_
      refine W.nil (thn_n ?_)
      refine WC.block ?_
      refine WC.loop (X := Nat) (fun q => [(100, .int .i64 ((q : Nat) : Int)), (98, .slice sa352 ((someN ([(kidS p i).lo] ++ p.pivots) ++ [key])).length sc353), (6, .pointer (some ⟨b2, 0, none⟩)), (7, .pointer (some ⟨b3, 0, none⟩)), (11, .pointer (some ⟨b14, 0, none⟩)), (12, .pointer (some ⟨b15, 0, none⟩)), (14, .pointer (some ⟨b317, 0, none⟩)), (99, .int .i64 ((((someN ([(kidS p i).lo] ++ p.pivots) ++ [key])).length : Nat) : Int))]) (fun q _ Ml => Ml = ((b317, .cells (List.toArray [.string ((kidS p i)).lo.b, .string ((kidS p i)).hi.b, .bool ((kidS p i)).opn]) 37 (0, 0)) :: ((b15, .cells (List.toArray [.int .i64 ((pourN cl cb p k i).2.1).slot, .int .i64 ((pourN cl cb p k i).2.1).level, .slice pa_hv7 (((pourN cl cb p k i).2.1).pivots).length pc_hv7, .slice ka_hv7 (((pourN cl cb p k i).2.1).kids).length kc_hv7, .string ((pourN cl cb p k i).2.1).high.b, .bool ((pourN cl cb p k i).2.1).top, .int .i64 ((pourN cl cb p k i).2.1).right, .int .i64 ((pourN cl cb p k i).2.1).seen, .slice ma_hv7 (((pourN cl cb p k i).2.1).msgs).length mc_hv7, .slice ra_hv7 (((pourN cl cb p k i).2.1).rows).length rc_hv7]) 35 (0, 0)) :: ((b14, .cells (List.toArray [.int .i64 ((pourN cl cb p k i).1).slot, .int .i64 ((pourN cl cb p k i).1).level, .slice pa_hv6 (((pourN cl cb p k i).1).pivots).length pc_hv6, .slice ka_hv6 (((pourN cl cb p k i).1).kids).length kc_hv6, .string ((pourN cl cb p k i).1).high.b, .bool ((pourN cl cb p k i).1).top, .int .i64 ((pourN cl cb p k i).1).right, .int .i64 ((pourN cl cb p k i).1).seen, .slice ma_hv6 (((pourN cl cb p k i).1).msgs).length mc_hv6, .slice ra_hv6 (((pourN cl cb p k i).1).rows).length rc_hv6]) 35 (0, 0)) :: ((b3, .cells (List.toArray [.int .i64 k.slot, .int .i64 k.level, .slice pa_k k.pivots.length pc_k, .slice ka_k k.kids.length kc_k, .string k.high.b, .bool k.top, .int .i64 k.right, .int .i64 k.seen, .slice ma_k k.msgs.length mc_k, .slice ra_k k.rows.length rc_k]) 35 (0, 0)) :: ((b2, .cells (List.toArray [.int .i64 p.slot, .int .i64 p.level, .slice pa_p p.pivots.length pc_p, .slice ka_p p.kids.length kc_p, .string p.high.b, .bool p.top, .int .i64 p.right, .int .i64 p.seen, .slice ma_p p.msgs.length mc_p, .slice ra_p p.rows.length rc_p]) 35 (0, 0)) :: ((b1, .cells (List.toArray [.int .i64 cf, .int .i64 cl, .int .i64 cb, .int .i64 cs, .int .i64 cr]) 23 (0, 0)) :: (Ms350 ++ []))))))) ∧ q ≤ (someN ([(kidS p i).lo] ++ p.pivots) ++ [key]).length) (fun q => (someN ([(kidS p i).lo] ++ p.pivots) ++ [key]).length - q) 0 ⟨eqv, eqv, eqv, eqv, eqv, eqv, eqv, eqv, trivial⟩ ?_ ?_
      ·exact ⟨rfl, Nat.zero_le _⟩
      ·rintro q gG356 G356 _ hG356 ⟨rfl, hqX⟩
       have hXl : (someN ([(kidS p i).lo] ++ p.pivots) ++ [key]).length ≤ 20000 := by rw [List.length_append, some_len]; simp; omega
       refine WC.seq ?_
       refine WC.region ?_
       refine W.ok (ok_lss rfl rfl) ?_
       refine W.nil (thn_n ?_)
       refine WC.seq ?_
       refine WC.cond (b := _) rfl (fun h101 => ?_) (fun h101 => ?_)
       ·have p101 := of_decide_eq_true h101
        try dsimp only at p101
        refine WC.skip (thn_n ?_)
        refine WC.seq ?_
        refine WC.block ?_
        refine WC.seq ?_
        refine WC.region ?_
        have q359 := (ho351.mono hG356).at (i := q) (by omega)
        refine match q359 with | ⟨_, he357, e_358⟩ => ?_
        subst e_358
        refine W.ok (ok_indexAddrO (i := q) sl32 ty9 (ho351.mono hG356) rfl rfl ⟨by omega, by omega⟩) ?_
        refine W.ok (ok_loadO (vs := [.string _]) ty9 he357 (pmC (pmC (pmC (pmC (pmC (pmC (List.Perm.refl _))))))) rfl rfl rfl (by simp)) ?_
        refine W.as ?_
        refine W.nil (thn_n ?_)
        refine WC.seq ?_
        refine WC.region ?_
        refine W.ok (ok_fieldB fd35_9 rfl) ?_
        refine W.ok (ok_loadB (i := 3) (vs := [.slice _ _ _]) ty31 rfl rfl rfl rfl (by simp)) ?_
        refine W.mv ?_
        refine W.qcall (rget_fc (hr_k.mono (((((hG4.trans hG5).trans hG332).trans hG333).trans hG348).trans hG356)) ((someN ([(kidS p i).lo] ++ p.pivots) ++ [key])[q]'(by omega))) rfl ?_
        refine W.mv ?_
        refine W.ok (ok_extract rfl rfl) ?_
        refine W.ok (ok_extract rfl rfl) ?_
        refine W.as ?_
        refine W.as ?_
        refine W.nil (thn_n ?_)
        refine WC.seq ?_
        refine WC.region ?_
        refine W.ok (ok_fieldB fd35_9 rfl) ?_
        refine W.ok (ok_loadB (i := 1) (vs := [.slice _ _ _]) ty31 rfl rfl rfl rfl (by simp)) ?_
        refine W.mv ?_
        refine W.qcall (rget_fc (hr_hv7.mono (((hG332.trans hG333).trans hG348).trans hG356)) ((someN ([(kidS p i).lo] ++ p.pivots) ++ [key])[q]'(by omega))) rfl ?_
        refine W.mv ?_
        refine W.ok (ok_extract rfl rfl) ?_
        refine W.ok (ok_extract rfl rfl) ?_
        refine W.as ?_
        refine W.as ?_
        refine W.nil (thn_n ?_)
        refine WC.seq ?_
        refine WC.draw mix (by kernel_rfl) ?_
        refine W.ok (ok_fieldB fd35_8 rfl) ?_
        refine W.ok (ok_loadB (i := 3) (vs := [.slice _ _ _]) ty33 rfl rfl rfl rfl (by simp)) ?_
        refine W.mv ?_
        refine W.qcall (ron18_fc (hm_k.mono (((((hG4.trans hG5).trans hG332).trans hG333).trans hG348).trans hG356)) ((someN ([(kidS p i).lo] ++ p.pivots) ++ [key])[q]'(by omega)) (fun m hm => have h9 := msgR_key (hkR9 m hm); ⟨by omega, h9.2⟩)) rfl ?_
        refine W.ok (ok_fieldB fd35_8 rfl) ?_
        refine W.ok (ok_loadB (i := 4) (vs := [.slice _ _ _]) ty33 rfl rfl rfl rfl (by simp)) ?_
        refine W.mv ?_
        refine W.qcall (ron18_fc (hm_p.mono (((((hG4.trans hG5).trans hG332).trans hG333).trans hG348).trans hG356)) ((someN ([(kidS p i).lo] ++ p.pivots) ++ [key])[q]'(by omega)) (fun m hm => have h9 := msgR_key (hpR9 m hm); ⟨by omega, h9.2⟩)) rfl ?_
        refine W.qcall (rthen_fc (onsN k.msgs ((someN ([(kidS p i).lo] ++ p.pivots) ++ [key])[q]'(by omega))).kind (onsN k.msgs ((someN ([(kidS p i).lo] ++ p.pivots) ++ [key])[q]'(by omega))).val (onsN p.msgs ((someN ([(kidS p i).lo] ++ p.pivots) ++ [key])[q]'(by omega))).kind (onsN p.msgs ((someN ([(kidS p i).lo] ++ p.pivots) ++ [key])[q]'(by omega))).val (by have := onval ((someN ([(kidS p i).lo] ++ p.pivots) ++ [key])[q]'(by omega)) hkR9; omega) (by have := onval ((someN ([(kidS p i).lo] ++ p.pivots) ++ [key])[q]'(by omega)) hpR9; omega) (ons_D _ _)) rfl ?_
        refine W.mv ?_
        refine W.mv ?_
        refine W.qcall (rapply_fc ((onsN k.msgs ((someN ([(kidS p i).lo] ++ p.pivots) ++ [key])[q]'(by omega))).then (onsN p.msgs ((someN ([(kidS p i).lo] ++ p.pivots) ++ [key])[q]'(by omega)))).kind ((onsN k.msgs ((someN ([(kidS p i).lo] ++ p.pivots) ++ [key])[q]'(by omega))).then (onsN p.msgs ((someN ([(kidS p i).lo] ++ p.pivots) ++ [key])[q]'(by omega)))).val (getN k.rows ((someN ([(kidS p i).lo] ++ p.pivots) ++ [key])[q]'(by omega))).isSome ((getN k.rows ((someN ([(kidS p i).lo] ++ p.pivots) ++ [key])[q]'(by omega))).getD Str.nil) (by have := then_val (onval ((someN ([(kidS p i).lo] ++ p.pivots) ++ [key])[q]'(by omega)) hkR9) (onval ((someN ([(kidS p i).lo] ++ p.pivots) ++ [key])[q]'(by omega)) hpR9); omega) (by have := (nd_rowsR hM.1.2.1).val ((someN ([(kidS p i).lo] ++ p.pivots) ++ [key])[q]'(by omega)); omega)) rfl ?_
        refine W.mv ?_
        refine W.ok (ok_extract rfl rfl) ?_
        refine W.ok (ok_extract rfl rfl) ?_
        refine W.as ?_
        refine W.as ?_
        refine W.nil (thn_n ?_)
        refine WC.seq ?_
        refine WC.draw mix (by kernel_rfl) ?_
        refine W.ok (ok_fieldB fd35_8 rfl) ?_
        refine W.ok (ok_loadB (i := 1) (vs := [.slice _ _ _]) ty33 rfl rfl rfl rfl (by simp)) ?_
        refine W.mv ?_
        refine W.qcall (ron18_fc (hm_hv7.mono (((hG332.trans hG333).trans hG348).trans hG356)) ((someN ([(kidS p i).lo] ++ p.pivots) ++ [key])[q]'(by omega)) (fun m hm => have h9 := msgR_key (hbR9 m hm); ⟨by omega, h9.2⟩)) rfl ?_
        refine W.ok (ok_fieldB fd35_8 rfl) ?_
        refine W.ok (ok_loadB (i := 2) (vs := [.slice _ _ _]) ty33 rfl rfl rfl rfl (by simp)) ?_
        refine W.mv ?_
        refine W.qcall (ron18_fc (hm_hv6.mono (((hG332.trans hG333).trans hG348).trans hG356)) ((someN ([(kidS p i).lo] ++ p.pivots) ++ [key])[q]'(by omega)) (fun m hm => have h9 := msgR_key (haR9 m hm); ⟨by omega, h9.2⟩)) rfl ?_
        refine W.qcall (rthen_fc (onsN (pourN cl cb p k i).2.1.msgs ((someN ([(kidS p i).lo] ++ p.pivots) ++ [key])[q]'(by omega))).kind (onsN (pourN cl cb p k i).2.1.msgs ((someN ([(kidS p i).lo] ++ p.pivots) ++ [key])[q]'(by omega))).val (onsN (pourN cl cb p k i).1.msgs ((someN ([(kidS p i).lo] ++ p.pivots) ++ [key])[q]'(by omega))).kind (onsN (pourN cl cb p k i).1.msgs ((someN ([(kidS p i).lo] ++ p.pivots) ++ [key])[q]'(by omega))).val (by have := onval ((someN ([(kidS p i).lo] ++ p.pivots) ++ [key])[q]'(by omega)) hbR9; omega) (by have := onval ((someN ([(kidS p i).lo] ++ p.pivots) ++ [key])[q]'(by omega)) haR9; omega) (ons_D _ _)) rfl ?_
        refine W.mv ?_
        refine W.mv ?_
        refine W.qcall (rapply_fc ((onsN (pourN cl cb p k i).2.1.msgs ((someN ([(kidS p i).lo] ++ p.pivots) ++ [key])[q]'(by omega))).then (onsN (pourN cl cb p k i).1.msgs ((someN ([(kidS p i).lo] ++ p.pivots) ++ [key])[q]'(by omega)))).kind ((onsN (pourN cl cb p k i).2.1.msgs ((someN ([(kidS p i).lo] ++ p.pivots) ++ [key])[q]'(by omega))).then (onsN (pourN cl cb p k i).1.msgs ((someN ([(kidS p i).lo] ++ p.pivots) ++ [key])[q]'(by omega)))).val (getN (pourN cl cb p k i).2.1.rows ((someN ([(kidS p i).lo] ++ p.pivots) ++ [key])[q]'(by omega))).isSome ((getN (pourN cl cb p k i).2.1.rows ((someN ([(kidS p i).lo] ++ p.pivots) ++ [key])[q]'(by omega))).getD Str.nil) (by have := then_val (onval ((someN ([(kidS p i).lo] ++ p.pivots) ++ [key])[q]'(by omega)) hbR9) (onval ((someN ([(kidS p i).lo] ++ p.pivots) ++ [key])[q]'(by omega)) haR9); omega) (by have := (nd_rowsR hAB.1.2.1).val ((someN ([(kidS p i).lo] ++ p.pivots) ++ [key])[q]'(by omega)); omega)) rfl ?_
        refine W.mv ?_
        refine W.ok (ok_extract rfl rfl) ?_
        refine W.ok (ok_extract rfl rfl) ?_
        refine W.as ?_
        refine W.as ?_
        refine W.nil (thn_n ?_)
        refine WC.seq ?_
        refine WC.region ?_
        refine W.ok (ok_loadB (i := 0) (vs := [.string _, .string _, .bool _]) ty37 rfl rfl rfl rfl (by simp)) ?_
        refine W.mv ?_
        refine W.qcall (has_fc _ _ _ _) rfl ?_
        refine W.mv ?_
        refine W.sp 151 rfl (fun h150 => ?_) (fun h150 => ?_)
        ·have hget := hlw ((someN ([(kidS p i).lo] ++ p.pivots) ++ [key])[q]'(by omega)) (by simpa using h150)
         refine W.yes (dj := 151) rfl rfl h150 ?_
         refine W.mv ?_
         refine W.yes (dj := 151) rfl rfl h150 ?_
         refine W.mv ?_
         refine W.yes (dj := 151) rfl rfl h150 ?_
         refine W.ok (ok_neqB bo4 rfl rfl) ?_
         refine W.yes (dj := 151) rfl rfl h150 ?_
         refine W.mv ?_
         refine W.sp 155 rfl (fun h154 => ?_) (fun h154 => ?_)
         ·exfalso
          have e9 : (!((((onsN (pourN cl cb p k i).2.1.msgs ((someN ([(kidS p i).lo] ++ p.pivots) ++ [key])[q]'(by omega))).then (onsN (pourN cl cb p k i).1.msgs ((someN ([(kidS p i).lo] ++ p.pivots) ++ [key])[q]'(by omega)))).apply (optS (getN (pourN cl cb p k i).2.1.rows ((someN ([(kidS p i).lo] ++ p.pivots) ++ [key])[q]'(by omega))).isSome ((getN (pourN cl cb p k i).2.1.rows ((someN ([(kidS p i).lo] ++ p.pivots) ++ [key])[q]'(by omega))).getD Str.nil))).isSome == (((onsN k.msgs ((someN ([(kidS p i).lo] ++ p.pivots) ++ [key])[q]'(by omega))).then (onsN p.msgs ((someN ([(kidS p i).lo] ++ p.pivots) ++ [key])[q]'(by omega)))).apply (optS (getN k.rows ((someN ([(kidS p i).lo] ++ p.pivots) ++ [key])[q]'(by omega))).isSome ((getN k.rows ((someN ([(kidS p i).lo] ++ p.pivots) ++ [key])[q]'(by omega))).getD Str.nil))).isSome)) = true := h154
          rw [← hget] at e9
          simp at e9
         ·refine W.yes (dj := 155) rfl rfl h154 ?_
          refine W.mv ?_
          refine W.yes (dj := 155) rfl rfl h154 ?_
          refine W.mv ?_
          refine W.yes (dj := 155) rfl rfl h154 ?_
          refine W.ok (ok_neqS rfl rfl) ?_
          refine W.yes (dj := 151) rfl rfl h150 ?_
          refine W.ok (ok_pick_f rfl h154) ?_
          refine W.ok (ok_pick_t rfl h150) ?_
          refine W.nil (thn_n ?_)
          refine WC.cond (b := _) rfl (fun h158 => ?_) (fun h158 => ?_)
          ·have p158 := nd_t h158
           try dsimp only at p158
           exfalso
           have e9 : ¬ ((((onsN k.msgs ((someN ([(kidS p i).lo] ++ p.pivots) ++ [key])[q]'(by omega))).then (onsN p.msgs ((someN ([(kidS p i).lo] ++ p.pivots) ++ [key])[q]'(by omega)))).apply (optS (getN k.rows ((someN ([(kidS p i).lo] ++ p.pivots) ++ [key])[q]'(by omega))).isSome ((getN k.rows ((someN ([(kidS p i).lo] ++ p.pivots) ++ [key])[q]'(by omega))).getD Str.nil))).getD Str.nil).b = ((((onsN (pourN cl cb p k i).2.1.msgs ((someN ([(kidS p i).lo] ++ p.pivots) ++ [key])[q]'(by omega))).then (onsN (pourN cl cb p k i).1.msgs ((someN ([(kidS p i).lo] ++ p.pivots) ++ [key])[q]'(by omega)))).apply (optS (getN (pourN cl cb p k i).2.1.rows ((someN ([(kidS p i).lo] ++ p.pivots) ++ [key])[q]'(by omega))).isSome ((getN (pourN cl cb p k i).2.1.rows ((someN ([(kidS p i).lo] ++ p.pivots) ++ [key])[q]'(by omega))).getD Str.nil))).getD Str.nil).b := p158
           exact e9 (by rw [hget])
          ·have p158 := nd_f h158
           try dsimp only at p158
           refine WC.skip (blk_n (thn_n ?_))
           refine WC.region ?_
           refine W.ok (ok_add rfl rfl (by omega)) ?_
           refine W.mv ?_
           refine W.nil (thn_n ?_)
           exact ⟨Le.rfl, q + 1, ⟨eqv, eqv, eqv, eqv, eqv, eqv, eqv, eqv, trivial⟩, ⟨rfl, by omega⟩, by omega⟩
        ·refine W.no (dj := 151) rfl rfl h150 ?_
         refine W.no (dj := 151) rfl rfl h150 ?_
         refine W.no (dj := 151) rfl rfl h150 ?_
         refine W.no (dj := 151) rfl rfl h150 ?_
         refine W.nou (dj := 155) rfl rfl ?_
         refine W.nou (dj := 155) rfl rfl ?_
         refine W.nou (dj := 155) rfl rfl ?_
         refine W.no (dj := 151) rfl rfl h150 ?_
         refine W.ok (ok_pick_f rfl h150) ?_
         refine W.nil (thn_n ?_)
         refine WC.cond_f rfl rfl ?_
         refine WC.skip (blk_n (thn_n ?_))
         refine WC.region ?_
         refine W.ok (ok_add rfl rfl (by omega)) ?_
         refine W.mv ?_
         refine W.nil (thn_n ?_)
         exact ⟨Le.rfl, q + 1, ⟨eqv, eqv, eqv, eqv, eqv, eqv, eqv, eqv, trivial⟩, ⟨rfl, by omega⟩, by omega⟩
       ·have p101 := of_decide_eq_false h101
        try dsimp only at p101
        refine WC.exit (thn_x (thn_x (blk_h (thn_n ?_))))
        refine WC.seq ?_
        refine WC.region ?_
        refine W.qcall (awake23_fc) rfl ?_
        refine W.as ?_
        refine W.nil (thn_n ?_)
        refine WC.ret ?_
        refine ⟨.inr rfl, [_], ⟨rfl, trivial⟩, [], List.nil_sublist _, ?_⟩
        rfl

end Go.Proofs.Ytmbafmifalppaaa
