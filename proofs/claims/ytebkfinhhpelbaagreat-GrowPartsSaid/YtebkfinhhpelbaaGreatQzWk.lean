/- Walks of functions on nodes. -/
import Derived.Test.YtebkfinhhpelbaaGreatQzWj
set_option maxRecDepth 100000
set_option maxHeartbeats 1600000
set_option linter.unusedVariables false
set_option linter.unusedSimpArgs false
set_option linter.unnecessarySimpa false
namespace Go.Proofs.YtebkfinhhpelbaaGreat
open Go Go.Fw Go.RowKit
theorem clones_fc {G : GH} {v_a : Value} {a : List Str} (h_a : SlR eStr G v_a a) :
    Fc Tryz.prog 171 [v_a] G [] (fun v G' M' => M' = [] ∧ ∃ u0, v = u0 ∧ SlR eStr G' u0 (a)) := by
 obtain ⟨sa_a, sc_a, rfl⟩ := h_a.form
 have ha := h_a.bytes
 refine Fc.intro (rs := [.tmp 2]) cl171 Tryz.func171 rfl Tryz.ntmps171 rfl rfl (fun w0 => ?_)
 refine WC.seq (WC.region (W.as (W.nil (thn_n (WC.seq (WC.seq (WC.region (W.mv (W.ok (ok_eqlNil sl43 rfl rfl) (W.nil (thn_n ?_)))))))))))
 refine WC.cond (b := _) rfl (fun h4 => ?_) (fun h4 => ?_)
 ·have hn := SlR.isNone h_a h4
  subst hn
  refine WC.seq (WC.region (W.as (W.nil (thn_n (WC.ret (thn_r ?_))))))
  refine ⟨.inr rfl, [_], ⟨rfl, trivial⟩, [], sn9, ?_⟩
  refine ⟨rfl, _, rfl, ?_⟩
  · exact SlR.nil
 refine WC.skip (thn_n (WC.seq (WC.region (W.lit0 (e := eStr) sl43 ty9 zr9 rfl (fun v1 Ms2 ho3 => (W.mv (W.app (e := eStr) sl43 ty9 zr9 rfl by9 rfl rfl (ho3) (h_a) pr9 (by simpa using ha) (fun v4 Ms5 ho6 => (W.as (W.nil (thn_n (WC.giveO ho6 pr9 (fun G7 hG7 hv7 => (WC.ret ?_))))))))))))))
 refine ⟨.inr rfl, [_], ⟨rfl, trivial⟩, [], sn9, ?_⟩
 refine ⟨rfl, _, rfl, ?_⟩
 · exact hv7

theorem clonei_fc {G : GH} {v_a : Value} {a : List Int} (h_a : SlR eInt G v_a a) :
    Fc Tryz.prog 172 [v_a] G [] (fun v G' M' => M' = [] ∧ ∃ u0, v = u0 ∧ SlR eInt G' u0 (a)) := by
 obtain ⟨sa_a, sc_a, rfl⟩ := h_a.form
 have ha := h_a.bytes
 refine Fc.intro (rs := [.tmp 2]) cl172 Tryz.func172 rfl Tryz.ntmps172 rfl rfl (fun w0 => ?_)
 refine WC.seq (WC.region (W.as (W.nil (thn_n (WC.seq (WC.seq (WC.region (W.mv (W.ok (ok_eqlNil sl44 rfl rfl) (W.nil (thn_n ?_)))))))))))
 refine WC.cond (b := _) rfl (fun h4 => ?_) (fun h4 => ?_)
 ·have hn := SlR.isNone h_a h4
  subst hn
  refine WC.seq (WC.region (W.as (W.nil (thn_n (WC.ret (thn_r ?_))))))
  refine ⟨.inr rfl, [_], ⟨rfl, trivial⟩, [], sn9, ?_⟩
  refine ⟨rfl, _, rfl, ?_⟩
  · exact SlR.nil
 refine WC.skip (thn_n (WC.seq (WC.region (W.lit0 (e := eInt) sl44 ty3 zr3 rfl (fun v8 Ms9 ho10 => (W.mv (W.app (e := eInt) sl44 ty3 zr3 rfl by3 rfl rfl (ho10) (h_a) pr9 (by simpa using ha) (fun v11 Ms12 ho13 => (W.as (W.nil (thn_n (WC.giveO ho13 pr9 (fun G14 hG14 hv14 => (WC.ret ?_))))))))))))))
 refine ⟨.inr rfl, [_], ⟨rfl, trivial⟩, [], sn9, ?_⟩
 refine ⟨rfl, _, rfl, ?_⟩
 · exact hv14

theorem ncopy_fc {G : GH} {cs_a : List Value} {a : Nd} (h_a : NodeC G cs_a a) :
    Fc Tryz.prog 114 [.agg (List.toArray cs_a)] G [] (fun v G' M' => M' = [] ∧ ∃ u0, v = .agg (List.toArray u0) ∧ NodeC G' u0 (a)) := by
 obtain ⟨pa_a, pc_a, ka_a, kc_a, ma_a, mc_a, ra_a, rc_a, rfl, hp_a, hk_a, hm_a, hr_a, hok_a⟩ := h_a
 refine Fc.intro (rs := [.cell 2 47]) cl114 Tryz.func114 rfl Tryz.ntmps114 rfl rfl (fun w0 => ?_)
 refine WC.seq (WC.region (W.box (L := (nd9 _ _ _ _ _ _ _ _ _ _ _ _ _ _ _ _ _ _)) rfl rfl (fun b15 => (W.alloc zr47 (fun b16 => (W.nil (thn_n (WC.seq (WC.drawW _ ((sr9.cons _).k9) mix (by rintro _ _ _ _ ⟨h | h, _⟩ <;> cases h) (WD.tk 0 rfl (ok_fieldB fd47_2 rfl) (WD.tk 3 rfl (ok_fieldB fd47_3 rfl) ?_)))))))))))
 refine WD.any [1, 4] (by kernel_rfl) rfl ⟨⟨_, rfl, rfl, ?_⟩, ⟨_, rfl, rfl, ?_⟩, trivial⟩
 ·refine W.ok (ok_loadB (i := 1) (vs := [.slice _ _ _]) ty43 rfl rfl rfl rfl (by simp)) (W.nil (WD.n9 Le.rfl ((sr9.cons _).k9) ?_))
  refine WD.any [2, 4] (by kernel_rfl) rfl ⟨⟨_, rfl, rfl, ?_⟩, ⟨_, rfl, rfl, ?_⟩, trivial⟩
  ·refine W.call (Mp := []) (clones_fc hp_a) rfl pr9 ?_
   intro _ G17 _ hG17 q19
   refine match q19 with | ⟨e_20, _, e_21, hv18⟩ => ?_
   subst e_20
   subst e_21
   have q23 := hv18.form
   refine match q23 with | ⟨sa_hv18, sc_hv18, e_22⟩ => ?_
   subst e_22
   refine W.nil (WD.n9 hG17 ((sr9.cons _).k9) (WD.a1 4 rfl (W.ok (ok_loadB (i := 1) (vs := [.slice _ _ _]) ty44 rfl rfl rfl rfl (by simp)) (W.nil (WD.n9 Le.rfl ((sr9.cons _).k9) (WD.tk 6 rfl (ok_fieldB fd47_2 rfl) (WD.a1 5 rfl (W.call (Mp := []) (clonei_fc (hk_a.mono hG17)) rfl pr9 ?_))))))))
   intro _ G24 _ hG24 q26
   refine match q26 with | ⟨e_27, _, e_28, hv25⟩ => ?_
   subst e_27
   subst e_28
   have q30 := hv25.form
   refine match q30 with | ⟨sa_hv25, sc_hv25, e_29⟩ => ?_
   subst e_29
   refine W.nil (WD.n9 hG24 ((sr9.cons _).k9) (WD.a1 7 rfl (W.store (i := 1) (vs := [.slice _ _ _]) (L' := (nd9 _ _ _ _ _ _ _ _ _ _ _ _ _ _ _ _ _ _)) ty43 rfl rfl rfl rfl rfl rfl rfl rfl (W.nil (WD.n9 Le.rfl ((sr9.cons _).k9) (WD.tk 8 rfl (ok_fieldB fd47_3 rfl) (WD.a1 9 rfl (W.store (i := 1) (vs := [.slice _ _ _]) (L' := (nd9 _ _ _ _ _ _ _ _ _ _ _ _ _ _ _ _ _ _)) ty44 rfl rfl rfl rfl rfl rfl rfl rfl (W.nil (WD.n9 Le.rfl ((sr9.cons _).k9) (WD.done (by kernel_rfl) (thn_n (WC.seq (WC.drawW _ ((sr9.cons _).k9) mix (by rintro _ _ _ _ ⟨h | h, _⟩ <;> cases h) (WD.tk 0 rfl (ok_fieldB fd47_8 rfl) (WD.tk 3 rfl (ok_fieldB fd47_9 rfl) ?_))))))))))))))))
   refine WD.any [1, 4] (by kernel_rfl) rfl ⟨⟨_, rfl, rfl, ?_⟩, ⟨_, rfl, rfl, ?_⟩, trivial⟩
   ·refine W.ok (ok_loadB (i := 1) (vs := [.slice _ _ _]) ty45 rfl rfl rfl rfl (by simp)) (W.nil (WD.n9 Le.rfl ((sr9.cons _).k9) ?_))
    refine WD.any [2, 4] (by kernel_rfl) rfl ⟨⟨_, rfl, rfl, ?_⟩, ⟨_, rfl, rfl, ?_⟩, trivial⟩
    ·refine W.call (Mp := []) (clonem_fc (hm_a.mono (hG17.trans hG24))) rfl pr9 ?_
     intro _ G31 _ hG31 q33
     refine match q33 with | ⟨e_34, _, e_35, hv32⟩ => ?_
     subst e_34
     subst e_35
     have q37 := hv32.form
     refine match q37 with | ⟨sa_hv32, sc_hv32, e_36⟩ => ?_
     subst e_36
     refine W.nil (WD.n9 hG31 ((sr9.cons _).k9) (WD.a1 4 rfl (W.ok (ok_loadB (i := 1) (vs := [.slice _ _ _]) ty41 rfl rfl rfl rfl (by simp)) (W.nil (WD.n9 Le.rfl ((sr9.cons _).k9) (WD.tk 6 rfl (ok_fieldB fd47_8 rfl) (WD.a1 5 rfl (W.call (Mp := []) (clonep_fc (hr_a.mono ((hG17.trans hG24).trans hG31))) rfl pr9 ?_))))))))
     intro _ G38 _ hG38 q40
     refine match q40 with | ⟨e_41, _, e_42, hv39⟩ => ?_
     subst e_41
     subst e_42
     have q44 := hv39.form
     refine match q44 with | ⟨sa_hv39, sc_hv39, e_43⟩ => ?_
     subst e_43
     refine W.nil (WD.n9 hG38 ((sr9.cons _).k9) (WD.a1 7 rfl (W.store (i := 1) (vs := [.slice _ _ _]) (L' := (nd9 _ _ _ _ _ _ _ _ _ _ _ _ _ _ _ _ _ _)) ty45 rfl rfl rfl rfl rfl rfl rfl rfl (W.nil (WD.n9 Le.rfl ((sr9.cons _).k9) (WD.tk 8 rfl (ok_fieldB fd47_9 rfl) (WD.a1 9 rfl (W.store (i := 1) (vs := [.slice _ _ _]) (L' := (nd9 _ _ _ _ _ _ _ _ _ _ _ _ _ _ _ _ _ _)) ty41 rfl rfl rfl rfl rfl rfl rfl rfl (W.nil (WD.n9 Le.rfl ((sr9.cons _).k9) (WD.done (by kernel_rfl) (thn_n (WC.seq (WC.region (W.ok (ok_loadB (i := 1) (vs := (nd9 _ _ _ _ _ _ _ _ _ _ _ _ _ _ _ _ _ _)) ty47 rfl rfl rfl rfl (by simp)) (W.store (i := 0) (vs := (nd9 _ _ _ _ _ _ _ _ _ _ _ _ _ _ _ _ _ _)) (L' := (nd9 _ _ _ _ _ _ _ _ _ _ _ _ _ _ _ _ _ _)) ty47 rfl rfl rfl rfl rfl rfl rfl rfl (W.nil (thn_n ?_))))))))))))))))))
     refine WC.ret ?_
     refine ⟨.inr rfl, [_], ⟨⟨_, _, _, _, _, rfl, nthM_mem (i := 0) rfl, ty47, (by simp), rfl, rfl⟩, trivial⟩, [], sn9, ?_⟩
     refine ⟨rfl, _, rfl, ?_⟩
     · exact ⟨_, _, _, _, _, _, _, _, rfl, (hv18.mono ((hG24.trans hG31).trans hG38)), (hv25.mono (hG31.trans hG38)), (hv32.mono hG38), hv39, (by assumption)⟩
    refine W.ok (ok_loadB (i := 1) (vs := [.slice _ _ _]) ty41 rfl rfl rfl rfl (by simp)) (W.nil (WD.n9 Le.rfl ((sr9.cons _).k9) (WD.a1 2 rfl (W.call (Mp := []) (clonem_fc (hm_a.mono (hG17.trans hG24))) rfl pr9 ?_))))
    intro _ G45 _ hG45 q47
    refine match q47 with | ⟨e_48, _, e_49, hv46⟩ => ?_
    subst e_48
    subst e_49
    have q51 := hv46.form
    refine match q51 with | ⟨sa_hv46, sc_hv46, e_50⟩ => ?_
    subst e_50
    refine W.nil (WD.n9 hG45 ((sr9.cons _).k9) (WD.tk 6 rfl (ok_fieldB fd47_8 rfl) (WD.a1 5 rfl (W.call (Mp := []) (clonep_fc (hr_a.mono ((hG17.trans hG24).trans hG45))) rfl pr9 ?_))))
    intro _ G52 _ hG52 q54
    refine match q54 with | ⟨e_55, _, e_56, hv53⟩ => ?_
    subst e_55
    subst e_56
    have q58 := hv53.form
    refine match q58 with | ⟨sa_hv53, sc_hv53, e_57⟩ => ?_
    subst e_57
    refine W.nil (WD.n9 hG52 ((sr9.cons _).k9) (WD.a1 7 rfl (W.store (i := 1) (vs := [.slice _ _ _]) (L' := (nd9 _ _ _ _ _ _ _ _ _ _ _ _ _ _ _ _ _ _)) ty45 rfl rfl rfl rfl rfl rfl rfl rfl (W.nil (WD.n9 Le.rfl ((sr9.cons _).k9) (WD.tk 8 rfl (ok_fieldB fd47_9 rfl) (WD.a1 9 rfl (W.store (i := 1) (vs := [.slice _ _ _]) (L' := (nd9 _ _ _ _ _ _ _ _ _ _ _ _ _ _ _ _ _ _)) ty41 rfl rfl rfl rfl rfl rfl rfl rfl (W.nil (WD.n9 Le.rfl ((sr9.cons _).k9) (WD.done (by kernel_rfl) (thn_n (WC.seq (WC.region (W.ok (ok_loadB (i := 1) (vs := (nd9 _ _ _ _ _ _ _ _ _ _ _ _ _ _ _ _ _ _)) ty47 rfl rfl rfl rfl (by simp)) (W.store (i := 0) (vs := (nd9 _ _ _ _ _ _ _ _ _ _ _ _ _ _ _ _ _ _)) (L' := (nd9 _ _ _ _ _ _ _ _ _ _ _ _ _ _ _ _ _ _)) ty47 rfl rfl rfl rfl rfl rfl rfl rfl (W.nil (thn_n ?_))))))))))))))))))
    refine WC.ret ?_
    refine ⟨.inr rfl, [_], ⟨⟨_, _, _, _, _, rfl, nthM_mem (i := 0) rfl, ty47, (by simp), rfl, rfl⟩, trivial⟩, [], sn9, ?_⟩
    refine ⟨rfl, _, rfl, ?_⟩
    · exact ⟨_, _, _, _, _, _, _, _, rfl, (hv18.mono ((hG24.trans hG45).trans hG52)), (hv25.mono (hG45.trans hG52)), (hv46.mono hG52), hv53, (by assumption)⟩
   refine W.ok (ok_loadB (i := 1) (vs := [.slice _ _ _]) ty41 rfl rfl rfl rfl (by simp)) (W.nil (WD.n9 Le.rfl ((sr9.cons _).k9) (WD.a1 1 rfl (W.ok (ok_loadB (i := 1) (vs := [.slice _ _ _]) ty45 rfl rfl rfl rfl (by simp)) (W.nil (WD.n9 Le.rfl ((sr9.cons _).k9) (WD.a1 2 rfl (W.call (Mp := []) (clonem_fc (hm_a.mono (hG17.trans hG24))) rfl pr9 ?_))))))))
   intro _ G59 _ hG59 q61
   refine match q61 with | ⟨e_62, _, e_63, hv60⟩ => ?_
   subst e_62
   subst e_63
   have q65 := hv60.form
   refine match q65 with | ⟨sa_hv60, sc_hv60, e_64⟩ => ?_
   subst e_64
   refine W.nil (WD.n9 hG59 ((sr9.cons _).k9) (WD.tk 6 rfl (ok_fieldB fd47_8 rfl) (WD.a1 5 rfl (W.call (Mp := []) (clonep_fc (hr_a.mono ((hG17.trans hG24).trans hG59))) rfl pr9 ?_))))
   intro _ G66 _ hG66 q68
   refine match q68 with | ⟨e_69, _, e_70, hv67⟩ => ?_
   subst e_69
   subst e_70
   have q72 := hv67.form
   refine match q72 with | ⟨sa_hv67, sc_hv67, e_71⟩ => ?_
   subst e_71
   refine W.nil (WD.n9 hG66 ((sr9.cons _).k9) (WD.a1 7 rfl (W.store (i := 1) (vs := [.slice _ _ _]) (L' := (nd9 _ _ _ _ _ _ _ _ _ _ _ _ _ _ _ _ _ _)) ty45 rfl rfl rfl rfl rfl rfl rfl rfl (W.nil (WD.n9 Le.rfl ((sr9.cons _).k9) (WD.tk 8 rfl (ok_fieldB fd47_9 rfl) (WD.a1 9 rfl (W.store (i := 1) (vs := [.slice _ _ _]) (L' := (nd9 _ _ _ _ _ _ _ _ _ _ _ _ _ _ _ _ _ _)) ty41 rfl rfl rfl rfl rfl rfl rfl rfl (W.nil (WD.n9 Le.rfl ((sr9.cons _).k9) (WD.done (by kernel_rfl) (thn_n (WC.seq (WC.region (W.ok (ok_loadB (i := 1) (vs := (nd9 _ _ _ _ _ _ _ _ _ _ _ _ _ _ _ _ _ _)) ty47 rfl rfl rfl rfl (by simp)) (W.store (i := 0) (vs := (nd9 _ _ _ _ _ _ _ _ _ _ _ _ _ _ _ _ _ _)) (L' := (nd9 _ _ _ _ _ _ _ _ _ _ _ _ _ _ _ _ _ _)) ty47 rfl rfl rfl rfl rfl rfl rfl rfl (W.nil (thn_n ?_))))))))))))))))))
   refine WC.ret ?_
   refine ⟨.inr rfl, [_], ⟨⟨_, _, _, _, _, rfl, nthM_mem (i := 0) rfl, ty47, (by simp), rfl, rfl⟩, trivial⟩, [], sn9, ?_⟩
   refine ⟨rfl, _, rfl, ?_⟩
   · exact ⟨_, _, _, _, _, _, _, _, rfl, (hv18.mono ((hG24.trans hG59).trans hG66)), (hv25.mono (hG59.trans hG66)), (hv60.mono hG66), hv67, (by assumption)⟩
  refine W.ok (ok_loadB (i := 1) (vs := [.slice _ _ _]) ty44 rfl rfl rfl rfl (by simp)) (W.nil (WD.n9 Le.rfl ((sr9.cons _).k9) (WD.a1 2 rfl (W.call (Mp := []) (clones_fc hp_a) rfl pr9 ?_))))
  intro _ G73 _ hG73 q75
  refine match q75 with | ⟨e_76, _, e_77, hv74⟩ => ?_
  subst e_76
  subst e_77
  have q79 := hv74.form
  refine match q79 with | ⟨sa_hv74, sc_hv74, e_78⟩ => ?_
  subst e_78
  refine W.nil (WD.n9 hG73 ((sr9.cons _).k9) (WD.tk 6 rfl (ok_fieldB fd47_2 rfl) (WD.a1 5 rfl (W.call (Mp := []) (clonei_fc (hk_a.mono hG73)) rfl pr9 ?_))))
  intro _ G80 _ hG80 q82
  refine match q82 with | ⟨e_83, _, e_84, hv81⟩ => ?_
  subst e_83
  subst e_84
  have q86 := hv81.form
  refine match q86 with | ⟨sa_hv81, sc_hv81, e_85⟩ => ?_
  subst e_85
  refine W.nil (WD.n9 hG80 ((sr9.cons _).k9) (WD.a1 7 rfl (W.store (i := 1) (vs := [.slice _ _ _]) (L' := (nd9 _ _ _ _ _ _ _ _ _ _ _ _ _ _ _ _ _ _)) ty43 rfl rfl rfl rfl rfl rfl rfl rfl (W.nil (WD.n9 Le.rfl ((sr9.cons _).k9) (WD.tk 8 rfl (ok_fieldB fd47_3 rfl) (WD.a1 9 rfl (W.store (i := 1) (vs := [.slice _ _ _]) (L' := (nd9 _ _ _ _ _ _ _ _ _ _ _ _ _ _ _ _ _ _)) ty44 rfl rfl rfl rfl rfl rfl rfl rfl (W.nil (WD.n9 Le.rfl ((sr9.cons _).k9) (WD.done (by kernel_rfl) (thn_n (WC.seq (WC.drawW _ ((sr9.cons _).k9) mix (by rintro _ _ _ _ ⟨h | h, _⟩ <;> cases h) (WD.tk 0 rfl (ok_fieldB fd47_8 rfl) (WD.tk 3 rfl (ok_fieldB fd47_9 rfl) ?_))))))))))))))))
  refine WD.any [1, 4] (by kernel_rfl) rfl ⟨⟨_, rfl, rfl, ?_⟩, ⟨_, rfl, rfl, ?_⟩, trivial⟩
  ·refine W.ok (ok_loadB (i := 1) (vs := [.slice _ _ _]) ty45 rfl rfl rfl rfl (by simp)) (W.nil (WD.n9 Le.rfl ((sr9.cons _).k9) ?_))
   refine WD.any [2, 4] (by kernel_rfl) rfl ⟨⟨_, rfl, rfl, ?_⟩, ⟨_, rfl, rfl, ?_⟩, trivial⟩
   ·refine W.call (Mp := []) (clonem_fc (hm_a.mono (hG73.trans hG80))) rfl pr9 ?_
    intro _ G87 _ hG87 q89
    refine match q89 with | ⟨e_90, _, e_91, hv88⟩ => ?_
    subst e_90
    subst e_91
    have q93 := hv88.form
    refine match q93 with | ⟨sa_hv88, sc_hv88, e_92⟩ => ?_
    subst e_92
    refine W.nil (WD.n9 hG87 ((sr9.cons _).k9) (WD.a1 4 rfl (W.ok (ok_loadB (i := 1) (vs := [.slice _ _ _]) ty41 rfl rfl rfl rfl (by simp)) (W.nil (WD.n9 Le.rfl ((sr9.cons _).k9) (WD.tk 6 rfl (ok_fieldB fd47_8 rfl) (WD.a1 5 rfl (W.call (Mp := []) (clonep_fc (hr_a.mono ((hG73.trans hG80).trans hG87))) rfl pr9 ?_))))))))
    intro _ G94 _ hG94 q96
    refine match q96 with | ⟨e_97, _, e_98, hv95⟩ => ?_
    subst e_97
    subst e_98
    have q100 := hv95.form
    refine match q100 with | ⟨sa_hv95, sc_hv95, e_99⟩ => ?_
    subst e_99
    refine W.nil (WD.n9 hG94 ((sr9.cons _).k9) (WD.a1 7 rfl (W.store (i := 1) (vs := [.slice _ _ _]) (L' := (nd9 _ _ _ _ _ _ _ _ _ _ _ _ _ _ _ _ _ _)) ty45 rfl rfl rfl rfl rfl rfl rfl rfl (W.nil (WD.n9 Le.rfl ((sr9.cons _).k9) (WD.tk 8 rfl (ok_fieldB fd47_9 rfl) (WD.a1 9 rfl (W.store (i := 1) (vs := [.slice _ _ _]) (L' := (nd9 _ _ _ _ _ _ _ _ _ _ _ _ _ _ _ _ _ _)) ty41 rfl rfl rfl rfl rfl rfl rfl rfl (W.nil (WD.n9 Le.rfl ((sr9.cons _).k9) (WD.done (by kernel_rfl) (thn_n (WC.seq (WC.region (W.ok (ok_loadB (i := 1) (vs := (nd9 _ _ _ _ _ _ _ _ _ _ _ _ _ _ _ _ _ _)) ty47 rfl rfl rfl rfl (by simp)) (W.store (i := 0) (vs := (nd9 _ _ _ _ _ _ _ _ _ _ _ _ _ _ _ _ _ _)) (L' := (nd9 _ _ _ _ _ _ _ _ _ _ _ _ _ _ _ _ _ _)) ty47 rfl rfl rfl rfl rfl rfl rfl rfl (W.nil (thn_n ?_))))))))))))))))))
    refine WC.ret ?_
    refine ⟨.inr rfl, [_], ⟨⟨_, _, _, _, _, rfl, nthM_mem (i := 0) rfl, ty47, (by simp), rfl, rfl⟩, trivial⟩, [], sn9, ?_⟩
    refine ⟨rfl, _, rfl, ?_⟩
    · exact ⟨_, _, _, _, _, _, _, _, rfl, (hv74.mono ((hG80.trans hG87).trans hG94)), (hv81.mono (hG87.trans hG94)), (hv88.mono hG94), hv95, (by assumption)⟩
   refine W.ok (ok_loadB (i := 1) (vs := [.slice _ _ _]) ty41 rfl rfl rfl rfl (by simp)) (W.nil (WD.n9 Le.rfl ((sr9.cons _).k9) (WD.a1 2 rfl (W.call (Mp := []) (clonem_fc (hm_a.mono (hG73.trans hG80))) rfl pr9 ?_))))
   intro _ G101 _ hG101 q103
   refine match q103 with | ⟨e_104, _, e_105, hv102⟩ => ?_
   subst e_104
   subst e_105
   have q107 := hv102.form
   refine match q107 with | ⟨sa_hv102, sc_hv102, e_106⟩ => ?_
   subst e_106
   refine W.nil (WD.n9 hG101 ((sr9.cons _).k9) (WD.tk 6 rfl (ok_fieldB fd47_8 rfl) (WD.a1 5 rfl (W.call (Mp := []) (clonep_fc (hr_a.mono ((hG73.trans hG80).trans hG101))) rfl pr9 ?_))))
   intro _ G108 _ hG108 q110
   refine match q110 with | ⟨e_111, _, e_112, hv109⟩ => ?_
   subst e_111
   subst e_112
   have q114 := hv109.form
   refine match q114 with | ⟨sa_hv109, sc_hv109, e_113⟩ => ?_
   subst e_113
   refine W.nil (WD.n9 hG108 ((sr9.cons _).k9) (WD.a1 7 rfl (W.store (i := 1) (vs := [.slice _ _ _]) (L' := (nd9 _ _ _ _ _ _ _ _ _ _ _ _ _ _ _ _ _ _)) ty45 rfl rfl rfl rfl rfl rfl rfl rfl (W.nil (WD.n9 Le.rfl ((sr9.cons _).k9) (WD.tk 8 rfl (ok_fieldB fd47_9 rfl) (WD.a1 9 rfl (W.store (i := 1) (vs := [.slice _ _ _]) (L' := (nd9 _ _ _ _ _ _ _ _ _ _ _ _ _ _ _ _ _ _)) ty41 rfl rfl rfl rfl rfl rfl rfl rfl (W.nil (WD.n9 Le.rfl ((sr9.cons _).k9) (WD.done (by kernel_rfl) (thn_n (WC.seq (WC.region (W.ok (ok_loadB (i := 1) (vs := (nd9 _ _ _ _ _ _ _ _ _ _ _ _ _ _ _ _ _ _)) ty47 rfl rfl rfl rfl (by simp)) (W.store (i := 0) (vs := (nd9 _ _ _ _ _ _ _ _ _ _ _ _ _ _ _ _ _ _)) (L' := (nd9 _ _ _ _ _ _ _ _ _ _ _ _ _ _ _ _ _ _)) ty47 rfl rfl rfl rfl rfl rfl rfl rfl (W.nil (thn_n ?_))))))))))))))))))
   refine WC.ret ?_
   refine ⟨.inr rfl, [_], ⟨⟨_, _, _, _, _, rfl, nthM_mem (i := 0) rfl, ty47, (by simp), rfl, rfl⟩, trivial⟩, [], sn9, ?_⟩
   refine ⟨rfl, _, rfl, ?_⟩
   · exact ⟨_, _, _, _, _, _, _, _, rfl, (hv74.mono ((hG80.trans hG101).trans hG108)), (hv81.mono (hG101.trans hG108)), (hv102.mono hG108), hv109, (by assumption)⟩
  refine W.ok (ok_loadB (i := 1) (vs := [.slice _ _ _]) ty41 rfl rfl rfl rfl (by simp)) (W.nil (WD.n9 Le.rfl ((sr9.cons _).k9) (WD.a1 1 rfl (W.ok (ok_loadB (i := 1) (vs := [.slice _ _ _]) ty45 rfl rfl rfl rfl (by simp)) (W.nil (WD.n9 Le.rfl ((sr9.cons _).k9) (WD.a1 2 rfl (W.call (Mp := []) (clonem_fc (hm_a.mono (hG73.trans hG80))) rfl pr9 ?_))))))))
  intro _ G115 _ hG115 q117
  refine match q117 with | ⟨e_118, _, e_119, hv116⟩ => ?_
  subst e_118
  subst e_119
  have q121 := hv116.form
  refine match q121 with | ⟨sa_hv116, sc_hv116, e_120⟩ => ?_
  subst e_120
  refine W.nil (WD.n9 hG115 ((sr9.cons _).k9) (WD.tk 6 rfl (ok_fieldB fd47_8 rfl) (WD.a1 5 rfl (W.call (Mp := []) (clonep_fc (hr_a.mono ((hG73.trans hG80).trans hG115))) rfl pr9 ?_))))
  intro _ G122 _ hG122 q124
  refine match q124 with | ⟨e_125, _, e_126, hv123⟩ => ?_
  subst e_125
  subst e_126
  have q128 := hv123.form
  refine match q128 with | ⟨sa_hv123, sc_hv123, e_127⟩ => ?_
  subst e_127
  refine W.nil (WD.n9 hG122 ((sr9.cons _).k9) (WD.a1 7 rfl (W.store (i := 1) (vs := [.slice _ _ _]) (L' := (nd9 _ _ _ _ _ _ _ _ _ _ _ _ _ _ _ _ _ _)) ty45 rfl rfl rfl rfl rfl rfl rfl rfl (W.nil (WD.n9 Le.rfl ((sr9.cons _).k9) (WD.tk 8 rfl (ok_fieldB fd47_9 rfl) (WD.a1 9 rfl (W.store (i := 1) (vs := [.slice _ _ _]) (L' := (nd9 _ _ _ _ _ _ _ _ _ _ _ _ _ _ _ _ _ _)) ty41 rfl rfl rfl rfl rfl rfl rfl rfl (W.nil (WD.n9 Le.rfl ((sr9.cons _).k9) (WD.done (by kernel_rfl) (thn_n (WC.seq (WC.region (W.ok (ok_loadB (i := 1) (vs := (nd9 _ _ _ _ _ _ _ _ _ _ _ _ _ _ _ _ _ _)) ty47 rfl rfl rfl rfl (by simp)) (W.store (i := 0) (vs := (nd9 _ _ _ _ _ _ _ _ _ _ _ _ _ _ _ _ _ _)) (L' := (nd9 _ _ _ _ _ _ _ _ _ _ _ _ _ _ _ _ _ _)) ty47 rfl rfl rfl rfl rfl rfl rfl rfl (W.nil (thn_n ?_))))))))))))))))))
  refine WC.ret ?_
  refine ⟨.inr rfl, [_], ⟨⟨_, _, _, _, _, rfl, nthM_mem (i := 0) rfl, ty47, (by simp), rfl, rfl⟩, trivial⟩, [], sn9, ?_⟩
  refine ⟨rfl, _, rfl, ?_⟩
  · exact ⟨_, _, _, _, _, _, _, _, rfl, (hv74.mono ((hG80.trans hG115).trans hG122)), (hv81.mono (hG115.trans hG122)), (hv116.mono hG122), hv123, (by assumption)⟩
 refine W.ok (ok_loadB (i := 1) (vs := [.slice _ _ _]) ty44 rfl rfl rfl rfl (by simp)) (W.nil (WD.n9 Le.rfl ((sr9.cons _).k9) (WD.a1 1 rfl (W.ok (ok_loadB (i := 1) (vs := [.slice _ _ _]) ty43 rfl rfl rfl rfl (by simp)) (W.nil (WD.n9 Le.rfl ((sr9.cons _).k9) (WD.a1 2 rfl (W.call (Mp := []) (clones_fc hp_a) rfl pr9 ?_))))))))
 intro _ G129 _ hG129 q131
 refine match q131 with | ⟨e_132, _, e_133, hv130⟩ => ?_
 subst e_132
 subst e_133
 have q135 := hv130.form
 refine match q135 with | ⟨sa_hv130, sc_hv130, e_134⟩ => ?_
 subst e_134
 refine W.nil (WD.n9 hG129 ((sr9.cons _).k9) (WD.tk 6 rfl (ok_fieldB fd47_2 rfl) (WD.a1 5 rfl (W.call (Mp := []) (clonei_fc (hk_a.mono hG129)) rfl pr9 ?_))))
 intro _ G136 _ hG136 q138
 refine match q138 with | ⟨e_139, _, e_140, hv137⟩ => ?_
 subst e_139
 subst e_140
 have q142 := hv137.form
 refine match q142 with | ⟨sa_hv137, sc_hv137, e_141⟩ => ?_
 subst e_141
 refine W.nil (WD.n9 hG136 ((sr9.cons _).k9) (WD.a1 7 rfl (W.store (i := 1) (vs := [.slice _ _ _]) (L' := (nd9 _ _ _ _ _ _ _ _ _ _ _ _ _ _ _ _ _ _)) ty43 rfl rfl rfl rfl rfl rfl rfl rfl (W.nil (WD.n9 Le.rfl ((sr9.cons _).k9) (WD.tk 8 rfl (ok_fieldB fd47_3 rfl) (WD.a1 9 rfl (W.store (i := 1) (vs := [.slice _ _ _]) (L' := (nd9 _ _ _ _ _ _ _ _ _ _ _ _ _ _ _ _ _ _)) ty44 rfl rfl rfl rfl rfl rfl rfl rfl (W.nil (WD.n9 Le.rfl ((sr9.cons _).k9) (WD.done (by kernel_rfl) (thn_n (WC.seq (WC.drawW _ ((sr9.cons _).k9) mix (by rintro _ _ _ _ ⟨h | h, _⟩ <;> cases h) (WD.tk 0 rfl (ok_fieldB fd47_8 rfl) (WD.tk 3 rfl (ok_fieldB fd47_9 rfl) ?_))))))))))))))))
 refine WD.any [1, 4] (by kernel_rfl) rfl ⟨⟨_, rfl, rfl, ?_⟩, ⟨_, rfl, rfl, ?_⟩, trivial⟩
 ·refine W.ok (ok_loadB (i := 1) (vs := [.slice _ _ _]) ty45 rfl rfl rfl rfl (by simp)) (W.nil (WD.n9 Le.rfl ((sr9.cons _).k9) ?_))
  refine WD.any [2, 4] (by kernel_rfl) rfl ⟨⟨_, rfl, rfl, ?_⟩, ⟨_, rfl, rfl, ?_⟩, trivial⟩
  ·refine W.call (Mp := []) (clonem_fc (hm_a.mono (hG129.trans hG136))) rfl pr9 ?_
   intro _ G143 _ hG143 q145
   refine match q145 with | ⟨e_146, _, e_147, hv144⟩ => ?_
   subst e_146
   subst e_147
   have q149 := hv144.form
   refine match q149 with | ⟨sa_hv144, sc_hv144, e_148⟩ => ?_
   subst e_148
   refine W.nil (WD.n9 hG143 ((sr9.cons _).k9) (WD.a1 4 rfl (W.ok (ok_loadB (i := 1) (vs := [.slice _ _ _]) ty41 rfl rfl rfl rfl (by simp)) (W.nil (WD.n9 Le.rfl ((sr9.cons _).k9) (WD.tk 6 rfl (ok_fieldB fd47_8 rfl) (WD.a1 5 rfl (W.call (Mp := []) (clonep_fc (hr_a.mono ((hG129.trans hG136).trans hG143))) rfl pr9 ?_))))))))
   intro _ G150 _ hG150 q152
   refine match q152 with | ⟨e_153, _, e_154, hv151⟩ => ?_
   subst e_153
   subst e_154
   have q156 := hv151.form
   refine match q156 with | ⟨sa_hv151, sc_hv151, e_155⟩ => ?_
   subst e_155
   refine W.nil (WD.n9 hG150 ((sr9.cons _).k9) (WD.a1 7 rfl (W.store (i := 1) (vs := [.slice _ _ _]) (L' := (nd9 _ _ _ _ _ _ _ _ _ _ _ _ _ _ _ _ _ _)) ty45 rfl rfl rfl rfl rfl rfl rfl rfl (W.nil (WD.n9 Le.rfl ((sr9.cons _).k9) (WD.tk 8 rfl (ok_fieldB fd47_9 rfl) (WD.a1 9 rfl (W.store (i := 1) (vs := [.slice _ _ _]) (L' := (nd9 _ _ _ _ _ _ _ _ _ _ _ _ _ _ _ _ _ _)) ty41 rfl rfl rfl rfl rfl rfl rfl rfl (W.nil (WD.n9 Le.rfl ((sr9.cons _).k9) (WD.done (by kernel_rfl) (thn_n (WC.seq (WC.region (W.ok (ok_loadB (i := 1) (vs := (nd9 _ _ _ _ _ _ _ _ _ _ _ _ _ _ _ _ _ _)) ty47 rfl rfl rfl rfl (by simp)) (W.store (i := 0) (vs := (nd9 _ _ _ _ _ _ _ _ _ _ _ _ _ _ _ _ _ _)) (L' := (nd9 _ _ _ _ _ _ _ _ _ _ _ _ _ _ _ _ _ _)) ty47 rfl rfl rfl rfl rfl rfl rfl rfl (W.nil (thn_n ?_))))))))))))))))))
   refine WC.ret ?_
   refine ⟨.inr rfl, [_], ⟨⟨_, _, _, _, _, rfl, nthM_mem (i := 0) rfl, ty47, (by simp), rfl, rfl⟩, trivial⟩, [], sn9, ?_⟩
   refine ⟨rfl, _, rfl, ?_⟩
   · exact ⟨_, _, _, _, _, _, _, _, rfl, (hv130.mono ((hG136.trans hG143).trans hG150)), (hv137.mono (hG143.trans hG150)), (hv144.mono hG150), hv151, (by assumption)⟩
  refine W.ok (ok_loadB (i := 1) (vs := [.slice _ _ _]) ty41 rfl rfl rfl rfl (by simp)) (W.nil (WD.n9 Le.rfl ((sr9.cons _).k9) (WD.a1 2 rfl (W.call (Mp := []) (clonem_fc (hm_a.mono (hG129.trans hG136))) rfl pr9 ?_))))
  intro _ G157 _ hG157 q159
  refine match q159 with | ⟨e_160, _, e_161, hv158⟩ => ?_
  subst e_160
  subst e_161
  have q163 := hv158.form
  refine match q163 with | ⟨sa_hv158, sc_hv158, e_162⟩ => ?_
  subst e_162
  refine W.nil (WD.n9 hG157 ((sr9.cons _).k9) (WD.tk 6 rfl (ok_fieldB fd47_8 rfl) (WD.a1 5 rfl (W.call (Mp := []) (clonep_fc (hr_a.mono ((hG129.trans hG136).trans hG157))) rfl pr9 ?_))))
  intro _ G164 _ hG164 q166
  refine match q166 with | ⟨e_167, _, e_168, hv165⟩ => ?_
  subst e_167
  subst e_168
  have q170 := hv165.form
  refine match q170 with | ⟨sa_hv165, sc_hv165, e_169⟩ => ?_
  subst e_169
  refine W.nil (WD.n9 hG164 ((sr9.cons _).k9) (WD.a1 7 rfl (W.store (i := 1) (vs := [.slice _ _ _]) (L' := (nd9 _ _ _ _ _ _ _ _ _ _ _ _ _ _ _ _ _ _)) ty45 rfl rfl rfl rfl rfl rfl rfl rfl (W.nil (WD.n9 Le.rfl ((sr9.cons _).k9) (WD.tk 8 rfl (ok_fieldB fd47_9 rfl) (WD.a1 9 rfl (W.store (i := 1) (vs := [.slice _ _ _]) (L' := (nd9 _ _ _ _ _ _ _ _ _ _ _ _ _ _ _ _ _ _)) ty41 rfl rfl rfl rfl rfl rfl rfl rfl (W.nil (WD.n9 Le.rfl ((sr9.cons _).k9) (WD.done (by kernel_rfl) (thn_n (WC.seq (WC.region (W.ok (ok_loadB (i := 1) (vs := (nd9 _ _ _ _ _ _ _ _ _ _ _ _ _ _ _ _ _ _)) ty47 rfl rfl rfl rfl (by simp)) (W.store (i := 0) (vs := (nd9 _ _ _ _ _ _ _ _ _ _ _ _ _ _ _ _ _ _)) (L' := (nd9 _ _ _ _ _ _ _ _ _ _ _ _ _ _ _ _ _ _)) ty47 rfl rfl rfl rfl rfl rfl rfl rfl (W.nil (thn_n ?_))))))))))))))))))
  refine WC.ret ?_
  refine ⟨.inr rfl, [_], ⟨⟨_, _, _, _, _, rfl, nthM_mem (i := 0) rfl, ty47, (by simp), rfl, rfl⟩, trivial⟩, [], sn9, ?_⟩
  refine ⟨rfl, _, rfl, ?_⟩
  · exact ⟨_, _, _, _, _, _, _, _, rfl, (hv130.mono ((hG136.trans hG157).trans hG164)), (hv137.mono (hG157.trans hG164)), (hv158.mono hG164), hv165, (by assumption)⟩
 refine W.ok (ok_loadB (i := 1) (vs := [.slice _ _ _]) ty41 rfl rfl rfl rfl (by simp)) (W.nil (WD.n9 Le.rfl ((sr9.cons _).k9) (WD.a1 1 rfl (W.ok (ok_loadB (i := 1) (vs := [.slice _ _ _]) ty45 rfl rfl rfl rfl (by simp)) (W.nil (WD.n9 Le.rfl ((sr9.cons _).k9) (WD.a1 2 rfl (W.call (Mp := []) (clonem_fc (hm_a.mono (hG129.trans hG136))) rfl pr9 ?_))))))))
 intro _ G171 _ hG171 q173
 refine match q173 with | ⟨e_174, _, e_175, hv172⟩ => ?_
 subst e_174
 subst e_175
 have q177 := hv172.form
 refine match q177 with | ⟨sa_hv172, sc_hv172, e_176⟩ => ?_
 subst e_176
 refine W.nil (WD.n9 hG171 ((sr9.cons _).k9) (WD.tk 6 rfl (ok_fieldB fd47_8 rfl) (WD.a1 5 rfl (W.call (Mp := []) (clonep_fc (hr_a.mono ((hG129.trans hG136).trans hG171))) rfl pr9 ?_))))
 intro _ G178 _ hG178 q180
 refine match q180 with | ⟨e_181, _, e_182, hv179⟩ => ?_
 subst e_181
 subst e_182
 have q184 := hv179.form
 refine match q184 with | ⟨sa_hv179, sc_hv179, e_183⟩ => ?_
 subst e_183
 refine W.nil (WD.n9 hG178 ((sr9.cons _).k9) (WD.a1 7 rfl (W.store (i := 1) (vs := [.slice _ _ _]) (L' := (nd9 _ _ _ _ _ _ _ _ _ _ _ _ _ _ _ _ _ _)) ty45 rfl rfl rfl rfl rfl rfl rfl rfl (W.nil (WD.n9 Le.rfl ((sr9.cons _).k9) (WD.tk 8 rfl (ok_fieldB fd47_9 rfl) (WD.a1 9 rfl (W.store (i := 1) (vs := [.slice _ _ _]) (L' := (nd9 _ _ _ _ _ _ _ _ _ _ _ _ _ _ _ _ _ _)) ty41 rfl rfl rfl rfl rfl rfl rfl rfl (W.nil (WD.n9 Le.rfl ((sr9.cons _).k9) (WD.done (by kernel_rfl) (thn_n (WC.seq (WC.region (W.ok (ok_loadB (i := 1) (vs := (nd9 _ _ _ _ _ _ _ _ _ _ _ _ _ _ _ _ _ _)) ty47 rfl rfl rfl rfl (by simp)) (W.store (i := 0) (vs := (nd9 _ _ _ _ _ _ _ _ _ _ _ _ _ _ _ _ _ _)) (L' := (nd9 _ _ _ _ _ _ _ _ _ _ _ _ _ _ _ _ _ _)) ty47 rfl rfl rfl rfl rfl rfl rfl rfl (W.nil (thn_n ?_))))))))))))))))))
 refine WC.ret ?_
 refine ⟨.inr rfl, [_], ⟨⟨_, _, _, _, _, rfl, nthM_mem (i := 0) rfl, ty47, (by simp), rfl, rfl⟩, trivial⟩, [], sn9, ?_⟩
 refine ⟨rfl, _, rfl, ?_⟩
 · exact ⟨_, _, _, _, _, _, _, _, rfl, (hv130.mono ((hG136.trans hG171).trans hG178)), (hv137.mono (hG171.trans hG178)), (hv172.mono hG178), hv179, (by assumption)⟩

theorem canat_fc {G : GH} {cs_n : List Value} {n : Nd} (h_n : NodeC G cs_n n) (i : Nat) (k : Str) (nv : Int) (hz : n.pivots.length ≤ 1000000 ∧ n.kids.length ≤ 1000000) (hi : i64 ((i : Nat) : Int)) (hv : i64 nv) :
    Fc Tryz.prog 94 [.agg (List.toArray cs_n), .int .i64 ((i : Nat) : Int), .string k.b, .int .i64 nv] G [] (fun v G' M' => M' = [] ∧ ∃ r : Nd × Bool, r = adoptN n i k nv ∧ ∃ u0, v = .tuple #[.agg (List.toArray u0), .bool (r.2)] ∧ NodeC G' u0 (r.1)) := by
 obtain ⟨pa_n, pc_n, ka_n, kc_n, ma_n, mc_n, ra_n, rc_n, rfl, hp_n, hk_n, hm_n, hr_n, hok_n⟩ := h_n
 have h1 := hp_n.len47
 have h2 := hk_n.len47
 have h3 := hm_n.len47
 have h4 := hr_n.len47
 obtain ⟨hz1, hz2⟩ := hz
 have hv1 := hv.1
 have hv2 := hv.2
 have hi1 := hi.1
 have hi2 := hi.2
 have b1 : n.pivots.length * 16 ≤ 140737488355328 := hp_n.bytes
 have b2 : n.kids.length * 8 ≤ 140737488355328 := hk_n.bytes
 refine Fc.intro (rs := [.cell 8 47, .tmp 9]) cl94 Tryz.func94 rfl Tryz.ntmps94 rfl rfl (fun w0 => ?_)
 refine WC.seq (WC.region (W.box (L := (nd9 _ _ _ _ _ _ _ _ _ _ _ _ _ _ _ _ _ _)) rfl rfl (fun b200 => (W.alloc zr47 (fun b201 => (W.as (W.nil (thn_n (WC.seq (WC.seq (WC.region (W.ok (ok_fieldB fd47_1 rfl) (W.ok (ok_loadB (i := 1) (vs := [.int .i64 _]) ty3 rfl rfl rfl rfl (by simp)) (W.ok (ok_eql rfl rfl) (W.nil (thn_n ?_))))))))))))))))
 refine WC.cond (b := _) rfl (fun h15 => ?_) (fun h15 => ?_)
 ·have p15 := of_decide_eq_true h15
  refine WC.seq (WC.region (W.ok (ok_build (L := (nd9 _ _ _ _ _ _ _ _ _ _ _ _ _ _ _ _ _ _)) pl47 zr47 rfl rfl rfl) (W.store (i := 0) (vs := (nd9 _ _ _ _ _ _ _ _ _ _ _ _ _ _ _ _ _ _)) (L' := (nd9 _ _ _ _ _ _ _ _ _ _ _ _ _ _ _ _ _ _)) ty47 rfl rfl rfl rfl rfl rfl rfl rfl (W.as (W.nil (thn_n (WC.ret (thn_r ?_))))))))
  refine ⟨.inr rfl, [_, _], ⟨⟨_, _, _, _, _, rfl, nthM_mem (i := 0) rfl, ty47, (by simp), rfl, rfl⟩, rfl, trivial⟩, [], sn9, ?_⟩
  refine ⟨rfl, _, (adoptN_0 (.inl p15)).symm, _, rfl, ?_⟩
  · exact ⟨_, _, _, _, _, _, _, _, rfl, SlR.nil, SlR.nil, SlR.nil, SlR.nil, Nd.zero_ok⟩
 have p15 := of_decide_eq_false h15
 refine WC.skip (thn_n (WC.seq (WC.region (W.ok (ok_fieldB fd47_2 rfl) (W.ok (ok_loadB (i := 1) (vs := [.slice _ _ _]) ty43 rfl rfl rfl rfl (by simp)) (W.ok (ok_fieldB fd47_3 rfl) (W.ok (ok_loadB (i := 1) (vs := [.slice _ _ _]) ty44 rfl rfl rfl rfl (by simp)) (W.mv (W.mv (W.mv (W.call (Mp := []) (bins_fc hp_n hk_n _ _ _ (by first | assumption | omega | (simp; omega)) (by first | assumption | omega | (simp; omega)) (by first | assumption | exact ⟨by omega, by omega⟩) (by assumption)) rfl pr9 ?_)))))))))))
 intro _ G202 _ hG202 q205
 refine match q205 with | ⟨e_206, _, e_207, _, _, e_208, hv203, hv204⟩ => ?_
 subst e_206
 subst e_207
 subst e_208
 have q210 := hv203.form
 refine match q210 with | ⟨sa_hv203, sc_hv203, e_209⟩ => ?_
 subst e_209
 have q212 := hv204.form
 refine match q212 with | ⟨sa_hv204, sc_hv204, e_211⟩ => ?_
 subst e_211
 refine W.mv (W.ok (ok_extract rfl rfl) (W.ok (ok_extract rfl rfl) (W.as (W.as (W.nil (thn_n (WC.seq (WC.seq (WC.region (W.mv (W.ok (ok_len sl44 hv204 rfl) (W.ok (ok_eql rfl rfl) (W.nil (thn_n ?_))))))))))))))
 refine WC.cond (b := _) rfl (fun h30 => ?_) (fun h30 => ?_)
 ·have p30 := of_decide_eq_true h30
  refine WC.seq (WC.region (W.ok (ok_build (L := (nd9 _ _ _ _ _ _ _ _ _ _ _ _ _ _ _ _ _ _)) pl47 zr47 rfl rfl rfl) (W.store (i := 0) (vs := (nd9 _ _ _ _ _ _ _ _ _ _ _ _ _ _ _ _ _ _)) (L' := (nd9 _ _ _ _ _ _ _ _ _ _ _ _ _ _ _ _ _ _)) ty47 rfl rfl rfl rfl rfl rfl rfl rfl (W.as (W.nil (thn_n (WC.ret (thn_r ?_))))))))
  refine ⟨.inr rfl, [_, _], ⟨⟨_, _, _, _, _, rfl, nthM_mem (i := 0) rfl, ty47, (by simp), rfl, rfl⟩, rfl, trivial⟩, [], sn9, ?_⟩
  refine ⟨rfl, _, (adoptN_0 (.inr (by omega))).symm, _, rfl, ?_⟩
  · exact ⟨_, _, _, _, _, _, _, _, rfl, SlR.nil, SlR.nil, SlR.nil, SlR.nil, Nd.zero_ok⟩
 have p30 := of_decide_eq_false h30
 refine WC.skip (thn_n (WC.seq (WC.region (W.ok (ok_loadB (i := 1) (vs := (nd9 _ _ _ _ _ _ _ _ _ _ _ _ _ _ _ _ _ _)) ty47 rfl rfl rfl rfl (by simp)) (W.call (Mp := []) (ncopy_fc ⟨_, _, _, _, _, _, _, _, rfl, (hp_n.mono hG202), (hk_n.mono hG202), (hm_n.mono hG202), (hr_n.mono hG202), hok_n⟩) rfl pr9 ?_)))))
 intro _ G213 _ hG213 q215
 refine match q215 with | ⟨e_216, _, e_217, hv214⟩ => ?_
 subst e_216
 subst e_217
 refine match hv214 with | ⟨pa_hv214, pc_hv214, ka_hv214, kc_hv214, ma_hv214, mc_hv214, ra_hv214, rc_hv214, e_218, hp_hv214, hk_hv214, hm_hv214, hr_hv214, hok_hv214⟩ => ?_
 subst e_218
 refine W.alloc zr47 (fun b219 => (W.store (i := 0) (vs := (nd9 _ _ _ _ _ _ _ _ _ _ _ _ _ _ _ _ _ _)) (L' := (nd9 _ _ _ _ _ _ _ _ _ _ _ _ _ _ _ _ _ _)) ty47 rfl rfl rfl rfl rfl rfl rfl rfl (W.nil (thn_n (WC.seq (WC.region (W.mv (W.mv (W.ok (ok_fieldB fd47_2 rfl) (W.store (i := 0) (vs := [.slice _ _ _]) (L' := (nd9 _ _ _ _ _ _ _ _ _ _ _ _ _ _ _ _ _ _)) ty43 rfl rfl rfl rfl rfl rfl rfl rfl (W.ok (ok_fieldB fd47_3 rfl) (W.store (i := 0) (vs := [.slice _ _ _]) (L' := (nd9 _ _ _ _ _ _ _ _ _ _ _ _ _ _ _ _ _ _)) ty44 rfl rfl rfl rfl rfl rfl rfl rfl (W.nil (thn_n (WC.seq (WC.region ?_))))))))))))))))
 refine W.ok (ok_loadB (i := 0) (vs := (nd9 _ _ _ _ _ _ _ _ _ _ _ _ _ _ _ _ _ _)) ty47 rfl rfl rfl rfl (by simp)) (W.store (i := 1) (vs := (nd9 _ _ _ _ _ _ _ _ _ _ _ _ _ _ _ _ _ _)) (L' := (nd9 _ _ _ _ _ _ _ _ _ _ _ _ _ _ _ _ _ _)) ty47 rfl rfl rfl rfl rfl rfl rfl rfl (W.as (W.nil (thn_n (WC.ret ?_)))))
 refine ⟨.inr rfl, [_, _], ⟨⟨_, _, _, _, _, rfl, nthM_mem (i := 1) rfl, ty47, (by simp), rfl, rfl⟩, rfl, trivial⟩, [], sn9, ?_⟩
 refine ⟨rfl, _, (adoptN_2 p15 (by omega)).symm, _, rfl, ?_⟩
 · exact ⟨_, _, _, _, _, _, _, _, rfl, (hv203.mono hG213), (hv204.mono hG213), hm_hv214, hr_hv214, hok_n⟩

theorem ranat_fc {G : GH} {cs_n : List Value} {n : Nd} (h_n : NodeC G cs_n n) (i : Nat) (k : Str) (nv : Int) (hz : n.pivots.length ≤ 1000000 ∧ n.kids.length ≤ 1000000) (hi : i64 ((i : Nat) : Int)) (hv : i64 nv) :
    Fc Tryz.prog 98 [.agg (List.toArray cs_n), .int .i64 ((i : Nat) : Int), .string k.b, .int .i64 nv] G [] (fun v G' M' => M' = [] ∧ ∃ r : Nd × Bool, r = adoptN n i k nv ∧ ∃ u0, v = .tuple #[.agg (List.toArray u0), .bool (r.2)] ∧ NodeC G' u0 (r.1)) := by
 obtain ⟨pa_n, pc_n, ka_n, kc_n, ma_n, mc_n, ra_n, rc_n, rfl, hp_n, hk_n, hm_n, hr_n, hok_n⟩ := h_n
 have h1 := hp_n.len47
 have h2 := hk_n.len47
 have h3 := hm_n.len47
 have h4 := hr_n.len47
 obtain ⟨hz1, hz2⟩ := hz
 have hv1 := hv.1
 have hv2 := hv.2
 have hi1 := hi.1
 have hi2 := hi.2
 have b1 : n.pivots.length * 16 ≤ 140737488355328 := hp_n.bytes
 have b2 : n.kids.length * 8 ≤ 140737488355328 := hk_n.bytes
 refine Fc.intro (rs := [.cell 8 47, .tmp 9]) cl98 Tryz.func98 rfl Tryz.ntmps98 rfl rfl (fun w0 => ?_)
 refine WC.seq (WC.region (W.box (L := (nd9 _ _ _ _ _ _ _ _ _ _ _ _ _ _ _ _ _ _)) rfl rfl (fun b220 => (W.alloc zr47 (fun b221 => (W.as (W.nil (thn_n (WC.seq (WC.region (W.ok (ok_fieldB fd47_2 rfl) (W.ok (ok_loadB (i := 1) (vs := [.slice _ _ _]) ty43 rfl rfl rfl rfl (by simp)) (W.mv (W.qcall (rrange_fc hp_n _ (by first | assumption | exact ⟨by omega, by omega⟩)) rfl (W.alloc zr52 (fun b222 => (W.store (i := 0) (vs := [.string _, .string _, .bool _]) (L' := [.string _, .string _, .bool _]) ty52 rfl rfl rfl rfl rfl rfl rfl rfl ?_)))))))))))))))))
 refine W.nil (thn_n (WC.seq (WC.seq (WC.region (W.ok (ok_fieldB fd47_1 rfl) (W.ok (ok_loadB (i := 2) (vs := [.int .i64 _]) ty3 rfl rfl rfl rfl (by simp)) (W.ok (ok_eql rfl rfl) (W.mv ?_))))))))
 refine W.sp 19 rfl (fun h18 => ?_) (fun h18 => ?_)
 ·have p18 := of_decide_eq_true h18
  refine W.no (dj := 19) rfl rfl h18 (W.no (dj := 19) rfl rfl h18 (W.ok (ok_pick_t rfl h18) (W.mv (W.no (dj := 23) rfl rfl rfl (W.no (dj := 23) rfl rfl rfl (W.no (dj := 23) rfl rfl rfl (W.no (dj := 23) rfl rfl rfl (W.no (dj := 23) rfl rfl rfl (W.ok (ok_pick_t rfl rfl) (W.mv (W.no (dj := 30) rfl rfl rfl (W.no (dj := 30) rfl rfl rfl (W.no (dj := 30) rfl rfl rfl ?_)))))))))))))
  refine W.no (dj := 30) rfl rfl rfl (W.no (dj := 30) rfl rfl rfl (W.ok (ok_pick_t rfl rfl) (W.mv (W.no (dj := 37) rfl rfl rfl (W.no (dj := 37) rfl rfl rfl (W.no (dj := 37) rfl rfl rfl (W.no (dj := 37) rfl rfl rfl (W.ok (ok_pick_t rfl rfl) (W.mv (W.no (dj := 43) rfl rfl rfl (W.no (dj := 43) rfl rfl rfl (W.no (dj := 43) rfl rfl rfl (W.no (dj := 43) rfl rfl rfl ?_)))))))))))))
  refine W.ok (ok_pick_t rfl rfl) (W.nil (thn_n (WC.cond_t rfl rfl (WC.seq (WC.region (W.ok (ok_build (L := (nd9 _ _ _ _ _ _ _ _ _ _ _ _ _ _ _ _ _ _)) pl47 zr47 rfl rfl rfl) (W.store (i := 1) (vs := (nd9 _ _ _ _ _ _ _ _ _ _ _ _ _ _ _ _ _ _)) (L' := (nd9 _ _ _ _ _ _ _ _ _ _ _ _ _ _ _ _ _ _)) ty47 rfl rfl rfl rfl rfl rfl rfl rfl (W.as (W.nil (thn_n (WC.ret (thn_r ?_))))))))))))
  refine ⟨.inr rfl, [_, _], ⟨⟨_, _, _, _, _, rfl, nthM_mem (i := 1) rfl, ty47, (by simp), rfl, rfl⟩, rfl, trivial⟩, [], sn9, ?_⟩
  refine ⟨rfl, _, (adoptN_0 (.inl p18)).symm, _, rfl, ?_⟩
  · exact ⟨_, _, _, _, _, _, _, _, rfl, SlR.nil, SlR.nil, SlR.nil, SlR.nil, Nd.zero_ok⟩
 have p18 := of_decide_eq_false h18
 refine W.yes (dj := 19) rfl rfl h18 (W.mv (W.yes (dj := 19) rfl rfl h18 (W.ok (ok_lss rfl rfl) (W.ok (ok_pick_f rfl h18) (W.mv ?_)))))
 refine W.sp 23 rfl (fun h21 => ?_) (fun h21 => ?_)
 ·have p21 := of_decide_eq_true h21
  exfalso; omega
 have p21 := of_decide_eq_false h21
 refine W.yes (dj := 23) rfl rfl h21 (W.mv (W.yes (dj := 23) rfl rfl h21 (W.ok (ok_fieldB fd47_3 rfl) (W.yes (dj := 23) rfl rfl h21 (W.ok (ok_loadB (i := 2) (vs := [.slice _ _ _]) ty44 rfl rfl rfl rfl (by simp)) (W.yes (dj := 23) rfl rfl h21 (W.ok (ok_len sl44 hk_n rfl) (W.yes (dj := 23) rfl rfl h21 (W.ok (ok_geq rfl rfl) (W.ok (ok_pick_f rfl h21) (W.mv ?_)))))))))))
 refine W.sp 30 rfl (fun h28 => ?_) (fun h28 => ?_)
 ·have p28 := of_decide_eq_true h28
  refine W.no (dj := 30) rfl rfl h28 (W.no (dj := 30) rfl rfl h28 (W.no (dj := 30) rfl rfl h28 (W.no (dj := 30) rfl rfl h28 (W.no (dj := 30) rfl rfl h28 (W.ok (ok_pick_t rfl h28) (W.mv (W.no (dj := 37) rfl rfl rfl (W.no (dj := 37) rfl rfl rfl (W.no (dj := 37) rfl rfl rfl (W.no (dj := 37) rfl rfl rfl (W.ok (ok_pick_t rfl rfl) (W.mv (W.no (dj := 43) rfl rfl rfl ?_)))))))))))))
  refine W.no (dj := 43) rfl rfl rfl (W.no (dj := 43) rfl rfl rfl (W.no (dj := 43) rfl rfl rfl (W.ok (ok_pick_t rfl rfl) (W.nil (thn_n (WC.cond_t rfl rfl (WC.seq (WC.region (W.ok (ok_build (L := (nd9 _ _ _ _ _ _ _ _ _ _ _ _ _ _ _ _ _ _)) pl47 zr47 rfl rfl rfl) (W.store (i := 1) (vs := (nd9 _ _ _ _ _ _ _ _ _ _ _ _ _ _ _ _ _ _)) (L' := (nd9 _ _ _ _ _ _ _ _ _ _ _ _ _ _ _ _ _ _)) ty47 rfl rfl rfl rfl rfl rfl rfl rfl (W.as (W.nil (thn_n (WC.ret (thn_r ?_)))))))))))))))
  refine ⟨.inr rfl, [_, _], ⟨⟨_, _, _, _, _, rfl, nthM_mem (i := 1) rfl, ty47, (by simp), rfl, rfl⟩, rfl, trivial⟩, [], sn9, ?_⟩
  refine ⟨rfl, _, (adoptN_0 (.inr (bins_0 (.inl (by omega))))).symm, _, rfl, ?_⟩
  · exact ⟨_, _, _, _, _, _, _, _, rfl, SlR.nil, SlR.nil, SlR.nil, SlR.nil, Nd.zero_ok⟩
 have p28 := of_decide_eq_false h28
 refine W.yes (dj := 30) rfl rfl h28 (W.mv (W.yes (dj := 30) rfl rfl h28 (W.ok (ok_fieldB fd47_2 rfl) (W.yes (dj := 30) rfl rfl h28 (W.ok (ok_loadB (i := 2) (vs := [.slice _ _ _]) ty43 rfl rfl rfl rfl (by simp)) (W.yes (dj := 30) rfl rfl h28 (W.ok (ok_len sl43 hp_n rfl) (W.yes (dj := 30) rfl rfl h28 (W.ok (ok_gtr rfl rfl) (W.ok (ok_pick_f rfl h28) (W.mv ?_)))))))))))
 refine W.sp 37 rfl (fun h35 => ?_) (fun h35 => ?_)
 ·have p35 := of_decide_eq_true h35
  refine W.no (dj := 37) rfl rfl h35 (W.no (dj := 37) rfl rfl h35 (W.no (dj := 37) rfl rfl h35 (W.no (dj := 37) rfl rfl h35 (W.ok (ok_pick_t rfl h35) (W.mv (W.no (dj := 43) rfl rfl rfl (W.no (dj := 43) rfl rfl rfl (W.no (dj := 43) rfl rfl rfl (W.no (dj := 43) rfl rfl rfl (W.ok (ok_pick_t rfl rfl) (W.nil (thn_n (WC.cond_t rfl rfl (WC.seq ?_))))))))))))))
  refine WC.region (W.ok (ok_build (L := (nd9 _ _ _ _ _ _ _ _ _ _ _ _ _ _ _ _ _ _)) pl47 zr47 rfl rfl rfl) (W.store (i := 1) (vs := (nd9 _ _ _ _ _ _ _ _ _ _ _ _ _ _ _ _ _ _)) (L' := (nd9 _ _ _ _ _ _ _ _ _ _ _ _ _ _ _ _ _ _)) ty47 rfl rfl rfl rfl rfl rfl rfl rfl (W.as (W.nil (thn_n (WC.ret (thn_r ?_)))))))
  refine ⟨.inr rfl, [_, _], ⟨⟨_, _, _, _, _, rfl, nthM_mem (i := 1) rfl, ty47, (by simp), rfl, rfl⟩, rfl, trivial⟩, [], sn9, ?_⟩
  refine ⟨rfl, _, (adoptN_0 (.inr (bins_0 (.inr (.inl (has_out (by omega))))))).symm, _, rfl, ?_⟩
  · exact ⟨_, _, _, _, _, _, _, _, rfl, SlR.nil, SlR.nil, SlR.nil, SlR.nil, Nd.zero_ok⟩
 have p35 := of_decide_eq_false h35
 refine W.yes (dj := 37) rfl rfl h35 (W.ok (ok_loadB (i := 0) (vs := [.string _, .string _, .bool _]) ty52 rfl rfl rfl rfl (by simp)) (W.yes (dj := 37) rfl rfl h35 (W.mv (W.yes (dj := 37) rfl rfl h35 (W.qcall (has_fc _ _ _ _) rfl (W.yes (dj := 37) rfl rfl h35 (W.ok (ok_not rfl) (W.ok (ok_pick_f rfl h35) (W.mv ?_)))))))))
 refine W.sp 43 rfl (fun h41 => ?_) (fun h41 => ?_)
 ·refine W.no (dj := 43) rfl rfl h41 (W.no (dj := 43) rfl rfl h41 (W.no (dj := 43) rfl rfl h41 (W.no (dj := 43) rfl rfl h41 (W.ok (ok_pick_t rfl h41) (W.nil (thn_n (WC.cond_t rfl rfl (WC.seq (WC.region (W.ok (ok_build (L := (nd9 _ _ _ _ _ _ _ _ _ _ _ _ _ _ _ _ _ _)) pl47 zr47 rfl rfl rfl) (W.store (i := 1) (vs := (nd9 _ _ _ _ _ _ _ _ _ _ _ _ _ _ _ _ _ _)) (L' := (nd9 _ _ _ _ _ _ _ _ _ _ _ _ _ _ _ _ _ _)) ty47 rfl rfl rfl rfl rfl rfl rfl rfl (W.as (W.nil (thn_n (WC.ret (thn_r ?_))))))))))))))))
  refine ⟨.inr rfl, [_, _], ⟨⟨_, _, _, _, _, rfl, nthM_mem (i := 1) rfl, ty47, (by simp), rfl, rfl⟩, rfl, trivial⟩, [], sn9, ?_⟩
  refine ⟨rfl, _, (adoptN_0 (.inr (bins_0 (.inr (.inl (by simpa using h41)))))).symm, _, rfl, ?_⟩
  · exact ⟨_, _, _, _, _, _, _, _, rfl, SlR.nil, SlR.nil, SlR.nil, SlR.nil, Nd.zero_ok⟩
 refine W.yes (dj := 43) rfl rfl h41 (W.mv (W.yes (dj := 43) rfl rfl h41 (W.ok (ok_fieldB fd52_0 rfl) (W.yes (dj := 43) rfl rfl h41 (W.ok (ok_loadB (i := 0) (vs := [.string _]) ty9 rfl rfl rfl rfl (by simp)) (W.yes (dj := 43) rfl rfl h41 (W.ok (ok_eqlS rfl rfl) (W.ok (ok_pick_f rfl h41) (W.nil (thn_n ?_))))))))))
 refine WC.cond (b := _) rfl (fun h47 => ?_) (fun h47 => ?_)
 ·have p47 := of_decide_eq_true h47
  refine WC.seq (WC.region (W.ok (ok_build (L := (nd9 _ _ _ _ _ _ _ _ _ _ _ _ _ _ _ _ _ _)) pl47 zr47 rfl rfl rfl) (W.store (i := 1) (vs := (nd9 _ _ _ _ _ _ _ _ _ _ _ _ _ _ _ _ _ _)) (L' := (nd9 _ _ _ _ _ _ _ _ _ _ _ _ _ _ _ _ _ _)) ty47 rfl rfl rfl rfl rfl rfl rfl rfl (W.as (W.nil (thn_n (WC.ret (thn_r ?_))))))))
  refine ⟨.inr rfl, [_, _], ⟨⟨_, _, _, _, _, rfl, nthM_mem (i := 1) rfl, ty47, (by simp), rfl, rfl⟩, rfl, trivial⟩, [], sn9, ?_⟩
  refine ⟨rfl, _, (adoptN_0 (.inr (bins_0 (.inr (.inr (Str.ext' p47)))))).symm, _, rfl, ?_⟩
  · exact ⟨_, _, _, _, _, _, _, _, rfl, SlR.nil, SlR.nil, SlR.nil, SlR.nil, Nd.zero_ok⟩
 have p47 := of_decide_eq_false h47
 refine WC.skip (thn_n (WC.seq (WC.region (W.ok (ok_loadB (i := 2) (vs := (nd9 _ _ _ _ _ _ _ _ _ _ _ _ _ _ _ _ _ _)) ty47 rfl rfl rfl rfl (by simp)) (W.alloc zr47 (fun b223 => (W.store (i := 0) (vs := (nd9 _ _ _ _ _ _ _ _ _ _ _ _ _ _ _ _ _ _)) (L' := (nd9 _ _ _ _ _ _ _ _ _ _ _ _ _ _ _ _ _ _)) ty47 rfl rfl rfl rfl rfl rfl rfl rfl (W.nil (thn_n (WC.seq (WC.drawW _ (((sr9.k9.k9).k9).cons _) mix (by rintro _ _ _ _ ⟨h | h, _⟩ <;> cases h) (WD.tk 0 rfl (ok_fieldB fd47_2 rfl) (WD.tk 1 rfl (ok_loadB (i := 2) (vs := [.slice _ _ _]) ty43 rfl rfl rfl rfl (by simp)) (WD.tk 2 rfl (ok_mv) (WD.tk 4 rfl (ok_mv) (WD.tk 7 rfl (ok_fieldB fd47_2 rfl) ?_))))))))))))))))
 refine WD.tk 8 rfl (ok_loadB (i := 2) (vs := [.slice _ _ _]) ty43 rfl rfl rfl rfl (by simp)) (WD.tk 9 rfl (ok_mv) ?_)
 have hs224 := SlR.slice hp_n (lo := i) (hi := n.pivots.length) (by omega) (by omega)
 refine WD.tk 10 rfl (ok_slice (i) (n.pivots.length) sl43 ty9 hp_n rfl ⟨_, _, rfl, by omega⟩ rfl ⟨by omega, by omega⟩) ?_
 refine WD.any [3, 5] (by kernel_rfl) rfl ⟨⟨_, rfl, rfl, ?_⟩, ⟨_, rfl, rfl, ?_⟩, trivial⟩
 ·refine W.call (Mp := []) (cutO_fc hp_n 0 _ ⟨by omega, by omega⟩) rfl pr9 ?_
  rintro v226 G225 Ms227 hG225 ho228
  refine W.perm (pmC (pmC (pmC (pmC pr9)))).symm (W.nil (WD.n9 hG225 (((sn9.k9.k9).k9).cons _) (WD.a1 5 rfl (W.lit (e := eStr) (l := [_]) (css := [[.string _]]) sl43 ty9 zr9 rfl rfl rfl rfl rfl rfl ⟨rfl, trivial⟩ (fun bl229 G229 hG229 hv229 => (W.nil (WD.n9 hG229 (((sn9.k9.k9).k9).cons _) (WD.a1 6 rfl (W.app (e := eStr) sl43 ty9 zr9 rfl by9 rfl rfl ((ho228.mono hG229)) (hv229) (pmC (pmC (pmC (pmC pr9)))) (by simp only [List.length_append, List.length_drop, List.length_take, List.length_cons, List.length_nil] at *; show (_ + _) * 16 ≤ _; first | omega | (simp; done) | (simp; omega)) (fun v230 Ms231 ho232 => (W.perm (pmC (pmC (pmC (pmC pr9)))).symm (W.nil (WD.n9 Le.rfl (((sn9.k9.k9).k9).cons _) (WD.a1 11 rfl (W.app (e := eStr) sl43 ty9 zr9 rfl by9 rfl rfl (ho232) ((hs224.mono (hG225.trans hG229))) (pmC (pmC (pmC (pmC pr9)))) (by simp only [List.length_append, List.length_drop, List.length_take, List.length_cons, List.length_nil] at *; show (_ + _) * 16 ≤ _; first | omega | (simp; done) | (simp; omega)) (fun v233 Ms234 ho235 => (W.perm (pmC (pmC (pmC (pmC pr9)))).symm (W.nil (WD.n9 Le.rfl (((sn9.k9.k9).k9).cons _) (WD.tk 12 rfl (ok_fieldB fd47_2 rfl) ?_))))))))))))))))))))
  refine WD.a1 13 rfl (W.giveO ho235 (pmC (pmC (pmC (pmC pr9)))) (fun G236 hG236 hv236 => ?_))
  have hc237 := SlR.cast hv236 (l' := (n.pivots.take i ++ [k]) ++ n.pivots.drop i) (by simp)
  have q239 := hc237.form
  refine match q239 with | ⟨_, _, e_238⟩ => ?_
  subst e_238
  refine W.store (i := 0) (vs := [.slice _ _ _]) (L' := (nd9 _ _ _ _ _ _ _ _ _ _ _ _ _ _ _ _ _ _)) ty43 rfl rfl rfl rfl rfl rfl rfl rfl (W.nil (WD.n9 hG236 (((sr9.k9.k9).k9).cons _) (WD.done (by kernel_rfl) (thn_n (WC.seq (WC.drawW _ (((sr9.k9.k9).k9).cons _) mix (by rintro _ _ _ _ ⟨h | h, _⟩ <;> cases h) (WD.tk 0 rfl (ok_fieldB fd47_3 rfl) (WD.tk 1 rfl (ok_loadB (i := 2) (vs := [.slice _ _ _]) ty44 rfl rfl rfl rfl (by simp)) (WD.tk 2 rfl (ok_mv) (WD.tk 3 rfl (Ok.int (n := ((i + 1 : Nat) : Int)) (ok_add rfl rfl (by omega)) (by omega)) (WD.tk 5 rfl (ok_mv) (WD.tk 8 rfl (ok_fieldB fd47_3 rfl) (WD.tk 9 rfl (ok_loadB (i := 2) (vs := [.slice _ _ _]) ty44 rfl rfl rfl rfl (by simp)) (WD.tk 10 rfl (ok_mv) (WD.tk 11 rfl (Ok.int (n := ((i + 1 : Nat) : Int)) (ok_add rfl rfl (by omega)) (by omega)) ?_)))))))))))))))
  have hs240 := SlR.slice (hk_n.mono ((hG225.trans hG229).trans hG236)) (lo := i + 1) (hi := n.kids.length) (by omega) (by omega)
  refine WD.tk 12 rfl (ok_slice (i + 1) (n.kids.length) sl44 ty3 (hk_n.mono ((hG225.trans hG229).trans hG236)) rfl ⟨_, _, rfl, by omega⟩ rfl ⟨by omega, by omega⟩) ?_
  refine WD.any [4, 6] (by kernel_rfl) rfl ⟨⟨_, rfl, rfl, ?_⟩, ⟨_, rfl, rfl, ?_⟩, trivial⟩
  ·refine W.call (Mp := []) (partO_fc (hk_n.mono ((hG225.trans hG229).trans hG236)) 0 _ ⟨by omega, by omega⟩) rfl pr9 ?_
   rintro v242 G241 Ms243 hG241 ho244
   refine W.perm (pmC (pmC (pmC (pmC pr9)))).symm (W.nil (WD.n9 hG241 (((sn9.k9.k9).k9).cons _) (WD.a1 6 rfl (W.lit (e := eInt) (l := [_]) (css := [[.int .i64 _]]) sl44 ty3 zr3 rfl rfl rfl rfl rfl rfl ⟨⟨rfl, by omega, by omega⟩, trivial⟩ (fun bl245 G245 hG245 hv245 => (W.nil (WD.n9 hG245 (((sn9.k9.k9).k9).cons _) (WD.a1 7 rfl (W.app (e := eInt) sl44 ty3 zr3 rfl by3 rfl rfl ((ho244.mono hG245)) (hv245) (pmC (pmC (pmC (pmC pr9)))) (by simp only [List.length_append, List.length_drop, List.length_take, List.length_cons, List.length_nil] at *; show (_ + _) * 8 ≤ _; first | omega | (simp; done) | (simp; omega)) (fun v246 Ms247 ho248 => (W.perm (pmC (pmC (pmC (pmC pr9)))).symm (W.nil (WD.n9 Le.rfl (((sn9.k9.k9).k9).cons _) (WD.a1 13 rfl (W.app (e := eInt) sl44 ty3 zr3 rfl by3 rfl rfl (ho248) ((hs240.mono (hG241.trans hG245))) (pmC (pmC (pmC (pmC pr9)))) (by simp only [List.length_append, List.length_drop, List.length_take, List.length_cons, List.length_nil] at *; show (_ + _) * 8 ≤ _; first | omega | (simp; done) | (simp; omega)) (fun v249 Ms250 ho251 => (W.perm (pmC (pmC (pmC (pmC pr9)))).symm (W.nil (WD.n9 Le.rfl (((sn9.k9.k9).k9).cons _) (WD.tk 14 rfl (ok_fieldB fd47_3 rfl) ?_))))))))))))))))))))
   refine WD.a1 15 rfl (W.giveO ho251 (pmC (pmC (pmC (pmC pr9)))) (fun G252 hG252 hv252 => ?_))
   have hc253 := SlR.cast hv252 (l' := (n.kids.take (i + 1) ++ [nv]) ++ n.kids.drop (i + 1)) (by simp)
   have q255 := hc253.form
   refine match q255 with | ⟨_, _, e_254⟩ => ?_
   subst e_254
   refine W.store (i := 0) (vs := [.slice _ _ _]) (L' := (nd9 _ _ _ _ _ _ _ _ _ _ _ _ _ _ _ _ _ _)) ty44 rfl rfl rfl rfl rfl rfl rfl rfl (W.nil (WD.n9 hG252 (((sr9.k9.k9).k9).cons _) (WD.done (by kernel_rfl) (thn_n (WC.seq (WC.region (W.ok (ok_loadB (i := 0) (vs := (nd9 _ _ _ _ _ _ _ _ _ _ _ _ _ _ _ _ _ _)) ty47 rfl rfl rfl rfl (by simp)) (W.store (i := 2) (vs := (nd9 _ _ _ _ _ _ _ _ _ _ _ _ _ _ _ _ _ _)) (L' := (nd9 _ _ _ _ _ _ _ _ _ _ _ _ _ _ _ _ _ _)) ty47 rfl rfl rfl rfl rfl rfl rfl rfl (W.as (W.nil (thn_n (WC.ret ?_))))))))))))
   refine ⟨.inr rfl, [_, _], ⟨⟨_, _, _, _, _, rfl, nthM_mem (i := 2) rfl, ty47, (by simp), rfl, rfl⟩, rfl, trivial⟩, [], sn9, ?_⟩
   refine ⟨rfl, _, (adoptN_1 p18 (by omega) (by simpa using h41) (fun e => p47 (congrArg Str.b e))).symm, _, rfl, ?_⟩
   · exact ⟨_, _, _, _, _, _, _, _, rfl, (hc237.mono ((hG241.trans hG245).trans hG252)), hc253, (hm_n.mono (((((hG225.trans hG229).trans hG236).trans hG241).trans hG245).trans hG252)), (hr_n.mono (((((hG225.trans hG229).trans hG236).trans hG241).trans hG245).trans hG252)), hok_n⟩
  refine W.lit (e := eInt) (l := [_]) (css := [[.int .i64 _]]) sl44 ty3 zr3 rfl rfl rfl rfl rfl rfl ⟨⟨rfl, by omega, by omega⟩, trivial⟩ (fun bl256 G256 hG256 hv256 => (W.nil (WD.n9 hG256 (((sr9.k9.k9).k9).cons _) (WD.a1 4 rfl (W.call (Mp := []) (partO_fc (hk_n.mono (((hG225.trans hG229).trans hG236).trans hG256)) 0 _ ⟨by omega, by omega⟩) rfl pr9 ?_)))))
  rintro v258 G257 Ms259 hG257 ho260
  refine W.perm (pmC (pmC (pmC (pmC pr9)))).symm (W.nil (WD.n9 hG257 (((sn9.k9.k9).k9).cons _) (WD.a1 7 rfl (W.app (e := eInt) sl44 ty3 zr3 rfl by3 rfl rfl (ho260) ((hv256.mono hG257)) (pmC (pmC (pmC (pmC pr9)))) (by simp only [List.length_append, List.length_drop, List.length_take, List.length_cons, List.length_nil] at *; show (_ + _) * 8 ≤ _; first | omega | (simp; done) | (simp; omega)) (fun v261 Ms262 ho263 => (W.perm (pmC (pmC (pmC (pmC pr9)))).symm (W.nil (WD.n9 Le.rfl (((sn9.k9.k9).k9).cons _) (WD.a1 13 rfl (W.app (e := eInt) sl44 ty3 zr3 rfl by3 rfl rfl (ho263) ((hs240.mono (hG256.trans hG257))) (pmC (pmC (pmC (pmC pr9)))) (by simp only [List.length_append, List.length_drop, List.length_take, List.length_cons, List.length_nil] at *; show (_ + _) * 8 ≤ _; first | omega | (simp; done) | (simp; omega)) (fun v264 Ms265 ho266 => (W.perm (pmC (pmC (pmC (pmC pr9)))).symm (W.nil (WD.n9 Le.rfl (((sn9.k9.k9).k9).cons _) (WD.tk 14 rfl (ok_fieldB fd47_3 rfl) (WD.a1 15 rfl (W.giveO ho266 (pmC (pmC (pmC (pmC pr9)))) (fun G267 hG267 hv267 => ?_))))))))))))))))))
  have hc268 := SlR.cast hv267 (l' := (n.kids.take (i + 1) ++ [nv]) ++ n.kids.drop (i + 1)) (by simp)
  have q270 := hc268.form
  refine match q270 with | ⟨_, _, e_269⟩ => ?_
  subst e_269
  refine W.store (i := 0) (vs := [.slice _ _ _]) (L' := (nd9 _ _ _ _ _ _ _ _ _ _ _ _ _ _ _ _ _ _)) ty44 rfl rfl rfl rfl rfl rfl rfl rfl (W.nil (WD.n9 hG267 (((sr9.k9.k9).k9).cons _) (WD.done (by kernel_rfl) (thn_n (WC.seq (WC.region (W.ok (ok_loadB (i := 0) (vs := (nd9 _ _ _ _ _ _ _ _ _ _ _ _ _ _ _ _ _ _)) ty47 rfl rfl rfl rfl (by simp)) (W.store (i := 2) (vs := (nd9 _ _ _ _ _ _ _ _ _ _ _ _ _ _ _ _ _ _)) (L' := (nd9 _ _ _ _ _ _ _ _ _ _ _ _ _ _ _ _ _ _)) ty47 rfl rfl rfl rfl rfl rfl rfl rfl (W.as (W.nil (thn_n (WC.ret ?_))))))))))))
  refine ⟨.inr rfl, [_, _], ⟨⟨_, _, _, _, _, rfl, nthM_mem (i := 2) rfl, ty47, (by simp), rfl, rfl⟩, rfl, trivial⟩, [], sn9, ?_⟩
  refine ⟨rfl, _, (adoptN_1 p18 (by omega) (by simpa using h41) (fun e => p47 (congrArg Str.b e))).symm, _, rfl, ?_⟩
  · exact ⟨_, _, _, _, _, _, _, _, rfl, (hc237.mono ((hG256.trans hG257).trans hG267)), hc268, (hm_n.mono (((((hG225.trans hG229).trans hG236).trans hG256).trans hG257).trans hG267)), (hr_n.mono (((((hG225.trans hG229).trans hG236).trans hG256).trans hG257).trans hG267)), hok_n⟩
 refine W.lit (e := eStr) (l := [_]) (css := [[.string _]]) sl43 ty9 zr9 rfl rfl rfl rfl rfl rfl ⟨rfl, trivial⟩ (fun bl271 G271 hG271 hv271 => (W.nil (WD.n9 hG271 (((sr9.k9.k9).k9).cons _) (WD.a1 3 rfl (W.call (Mp := []) (cutO_fc (hp_n.mono hG271) 0 _ ⟨by omega, by omega⟩) rfl pr9 ?_)))))
 rintro v273 G272 Ms274 hG272 ho275
 refine W.perm (pmC (pmC (pmC (pmC pr9)))).symm (W.nil (WD.n9 hG272 (((sn9.k9.k9).k9).cons _) (WD.a1 6 rfl (W.app (e := eStr) sl43 ty9 zr9 rfl by9 rfl rfl (ho275) ((hv271.mono hG272)) (pmC (pmC (pmC (pmC pr9)))) (by simp only [List.length_append, List.length_drop, List.length_take, List.length_cons, List.length_nil] at *; show (_ + _) * 16 ≤ _; first | omega | (simp; done) | (simp; omega)) (fun v276 Ms277 ho278 => (W.perm (pmC (pmC (pmC (pmC pr9)))).symm (W.nil (WD.n9 Le.rfl (((sn9.k9.k9).k9).cons _) (WD.a1 11 rfl (W.app (e := eStr) sl43 ty9 zr9 rfl by9 rfl rfl (ho278) ((hs224.mono (hG271.trans hG272))) (pmC (pmC (pmC (pmC pr9)))) (by simp only [List.length_append, List.length_drop, List.length_take, List.length_cons, List.length_nil] at *; show (_ + _) * 16 ≤ _; first | omega | (simp; done) | (simp; omega)) (fun v279 Ms280 ho281 => (W.perm (pmC (pmC (pmC (pmC pr9)))).symm (W.nil (WD.n9 Le.rfl (((sn9.k9.k9).k9).cons _) (WD.tk 12 rfl (ok_fieldB fd47_2 rfl) (WD.a1 13 rfl (W.giveO ho281 (pmC (pmC (pmC (pmC pr9)))) (fun G282 hG282 hv282 => ?_))))))))))))))))))
 have hc283 := SlR.cast hv282 (l' := (n.pivots.take i ++ [k]) ++ n.pivots.drop i) (by simp)
 have q285 := hc283.form
 refine match q285 with | ⟨_, _, e_284⟩ => ?_
 subst e_284
 refine W.store (i := 0) (vs := [.slice _ _ _]) (L' := (nd9 _ _ _ _ _ _ _ _ _ _ _ _ _ _ _ _ _ _)) ty43 rfl rfl rfl rfl rfl rfl rfl rfl (W.nil (WD.n9 hG282 (((sr9.k9.k9).k9).cons _) (WD.done (by kernel_rfl) (thn_n (WC.seq (WC.drawW _ (((sr9.k9.k9).k9).cons _) mix (by rintro _ _ _ _ ⟨h | h, _⟩ <;> cases h) (WD.tk 0 rfl (ok_fieldB fd47_3 rfl) (WD.tk 1 rfl (ok_loadB (i := 2) (vs := [.slice _ _ _]) ty44 rfl rfl rfl rfl (by simp)) (WD.tk 2 rfl (ok_mv) (WD.tk 3 rfl (Ok.int (n := ((i + 1 : Nat) : Int)) (ok_add rfl rfl (by omega)) (by omega)) (WD.tk 5 rfl (ok_mv) (WD.tk 8 rfl (ok_fieldB fd47_3 rfl) (WD.tk 9 rfl (ok_loadB (i := 2) (vs := [.slice _ _ _]) ty44 rfl rfl rfl rfl (by simp)) (WD.tk 10 rfl (ok_mv) (WD.tk 11 rfl (Ok.int (n := ((i + 1 : Nat) : Int)) (ok_add rfl rfl (by omega)) (by omega)) ?_)))))))))))))))
 have hs286 := SlR.slice (hk_n.mono ((hG271.trans hG272).trans hG282)) (lo := i + 1) (hi := n.kids.length) (by omega) (by omega)
 refine WD.tk 12 rfl (ok_slice (i + 1) (n.kids.length) sl44 ty3 (hk_n.mono ((hG271.trans hG272).trans hG282)) rfl ⟨_, _, rfl, by omega⟩ rfl ⟨by omega, by omega⟩) ?_
 refine WD.any [4, 6] (by kernel_rfl) rfl ⟨⟨_, rfl, rfl, ?_⟩, ⟨_, rfl, rfl, ?_⟩, trivial⟩
 ·refine W.call (Mp := []) (partO_fc (hk_n.mono ((hG271.trans hG272).trans hG282)) 0 _ ⟨by omega, by omega⟩) rfl pr9 ?_
  rintro v288 G287 Ms289 hG287 ho290
  refine W.perm (pmC (pmC (pmC (pmC pr9)))).symm (W.nil (WD.n9 hG287 (((sn9.k9.k9).k9).cons _) (WD.a1 6 rfl (W.lit (e := eInt) (l := [_]) (css := [[.int .i64 _]]) sl44 ty3 zr3 rfl rfl rfl rfl rfl rfl ⟨⟨rfl, by omega, by omega⟩, trivial⟩ (fun bl291 G291 hG291 hv291 => (W.nil (WD.n9 hG291 (((sn9.k9.k9).k9).cons _) (WD.a1 7 rfl (W.app (e := eInt) sl44 ty3 zr3 rfl by3 rfl rfl ((ho290.mono hG291)) (hv291) (pmC (pmC (pmC (pmC pr9)))) (by simp only [List.length_append, List.length_drop, List.length_take, List.length_cons, List.length_nil] at *; show (_ + _) * 8 ≤ _; first | omega | (simp; done) | (simp; omega)) (fun v292 Ms293 ho294 => (W.perm (pmC (pmC (pmC (pmC pr9)))).symm (W.nil (WD.n9 Le.rfl (((sn9.k9.k9).k9).cons _) (WD.a1 13 rfl (W.app (e := eInt) sl44 ty3 zr3 rfl by3 rfl rfl (ho294) ((hs286.mono (hG287.trans hG291))) (pmC (pmC (pmC (pmC pr9)))) (by simp only [List.length_append, List.length_drop, List.length_take, List.length_cons, List.length_nil] at *; show (_ + _) * 8 ≤ _; first | omega | (simp; done) | (simp; omega)) (fun v295 Ms296 ho297 => (W.perm (pmC (pmC (pmC (pmC pr9)))).symm (W.nil (WD.n9 Le.rfl (((sn9.k9.k9).k9).cons _) (WD.tk 14 rfl (ok_fieldB fd47_3 rfl) ?_))))))))))))))))))))
  refine WD.a1 15 rfl (W.giveO ho297 (pmC (pmC (pmC (pmC pr9)))) (fun G298 hG298 hv298 => ?_))
  have hc299 := SlR.cast hv298 (l' := (n.kids.take (i + 1) ++ [nv]) ++ n.kids.drop (i + 1)) (by simp)
  have q301 := hc299.form
  refine match q301 with | ⟨_, _, e_300⟩ => ?_
  subst e_300
  refine W.store (i := 0) (vs := [.slice _ _ _]) (L' := (nd9 _ _ _ _ _ _ _ _ _ _ _ _ _ _ _ _ _ _)) ty44 rfl rfl rfl rfl rfl rfl rfl rfl (W.nil (WD.n9 hG298 (((sr9.k9.k9).k9).cons _) (WD.done (by kernel_rfl) (thn_n (WC.seq (WC.region (W.ok (ok_loadB (i := 0) (vs := (nd9 _ _ _ _ _ _ _ _ _ _ _ _ _ _ _ _ _ _)) ty47 rfl rfl rfl rfl (by simp)) (W.store (i := 2) (vs := (nd9 _ _ _ _ _ _ _ _ _ _ _ _ _ _ _ _ _ _)) (L' := (nd9 _ _ _ _ _ _ _ _ _ _ _ _ _ _ _ _ _ _)) ty47 rfl rfl rfl rfl rfl rfl rfl rfl (W.as (W.nil (thn_n (WC.ret ?_))))))))))))
  refine ⟨.inr rfl, [_, _], ⟨⟨_, _, _, _, _, rfl, nthM_mem (i := 2) rfl, ty47, (by simp), rfl, rfl⟩, rfl, trivial⟩, [], sn9, ?_⟩
  refine ⟨rfl, _, (adoptN_1 p18 (by omega) (by simpa using h41) (fun e => p47 (congrArg Str.b e))).symm, _, rfl, ?_⟩
  · exact ⟨_, _, _, _, _, _, _, _, rfl, (hc283.mono ((hG287.trans hG291).trans hG298)), hc299, (hm_n.mono (((((hG271.trans hG272).trans hG282).trans hG287).trans hG291).trans hG298)), (hr_n.mono (((((hG271.trans hG272).trans hG282).trans hG287).trans hG291).trans hG298)), hok_n⟩
 refine W.lit (e := eInt) (l := [_]) (css := [[.int .i64 _]]) sl44 ty3 zr3 rfl rfl rfl rfl rfl rfl ⟨⟨rfl, by omega, by omega⟩, trivial⟩ (fun bl302 G302 hG302 hv302 => (W.nil (WD.n9 hG302 (((sr9.k9.k9).k9).cons _) (WD.a1 4 rfl (W.call (Mp := []) (partO_fc (hk_n.mono (((hG271.trans hG272).trans hG282).trans hG302)) 0 _ ⟨by omega, by omega⟩) rfl pr9 ?_)))))
 rintro v304 G303 Ms305 hG303 ho306
 refine W.perm (pmC (pmC (pmC (pmC pr9)))).symm (W.nil (WD.n9 hG303 (((sn9.k9.k9).k9).cons _) (WD.a1 7 rfl (W.app (e := eInt) sl44 ty3 zr3 rfl by3 rfl rfl (ho306) ((hv302.mono hG303)) (pmC (pmC (pmC (pmC pr9)))) (by simp only [List.length_append, List.length_drop, List.length_take, List.length_cons, List.length_nil] at *; show (_ + _) * 8 ≤ _; first | omega | (simp; done) | (simp; omega)) (fun v307 Ms308 ho309 => (W.perm (pmC (pmC (pmC (pmC pr9)))).symm (W.nil (WD.n9 Le.rfl (((sn9.k9.k9).k9).cons _) (WD.a1 13 rfl (W.app (e := eInt) sl44 ty3 zr3 rfl by3 rfl rfl (ho309) ((hs286.mono (hG302.trans hG303))) (pmC (pmC (pmC (pmC pr9)))) (by simp only [List.length_append, List.length_drop, List.length_take, List.length_cons, List.length_nil] at *; show (_ + _) * 8 ≤ _; first | omega | (simp; done) | (simp; omega)) (fun v310 Ms311 ho312 => (W.perm (pmC (pmC (pmC (pmC pr9)))).symm (W.nil (WD.n9 Le.rfl (((sn9.k9.k9).k9).cons _) (WD.tk 14 rfl (ok_fieldB fd47_3 rfl) (WD.a1 15 rfl (W.giveO ho312 (pmC (pmC (pmC (pmC pr9)))) (fun G313 hG313 hv313 => ?_))))))))))))))))))
 have hc314 := SlR.cast hv313 (l' := (n.kids.take (i + 1) ++ [nv]) ++ n.kids.drop (i + 1)) (by simp)
 have q316 := hc314.form
 refine match q316 with | ⟨_, _, e_315⟩ => ?_
 subst e_315
 refine W.store (i := 0) (vs := [.slice _ _ _]) (L' := (nd9 _ _ _ _ _ _ _ _ _ _ _ _ _ _ _ _ _ _)) ty44 rfl rfl rfl rfl rfl rfl rfl rfl (W.nil (WD.n9 hG313 (((sr9.k9.k9).k9).cons _) (WD.done (by kernel_rfl) (thn_n (WC.seq (WC.region (W.ok (ok_loadB (i := 0) (vs := (nd9 _ _ _ _ _ _ _ _ _ _ _ _ _ _ _ _ _ _)) ty47 rfl rfl rfl rfl (by simp)) (W.store (i := 2) (vs := (nd9 _ _ _ _ _ _ _ _ _ _ _ _ _ _ _ _ _ _)) (L' := (nd9 _ _ _ _ _ _ _ _ _ _ _ _ _ _ _ _ _ _)) ty47 rfl rfl rfl rfl rfl rfl rfl rfl (W.as (W.nil (thn_n (WC.ret ?_))))))))))))
 refine ⟨.inr rfl, [_, _], ⟨⟨_, _, _, _, _, rfl, nthM_mem (i := 2) rfl, ty47, (by simp), rfl, rfl⟩, rfl, trivial⟩, [], sn9, ?_⟩
 refine ⟨rfl, _, (adoptN_1 p18 (by omega) (by simpa using h41) (fun e => p47 (congrArg Str.b e))).symm, _, rfl, ?_⟩
 · exact ⟨_, _, _, _, _, _, _, _, rfl, (hc283.mono ((hG302.trans hG303).trans hG313)), hc314, (hm_n.mono (((((hG271.trans hG272).trans hG282).trans hG302).trans hG303).trans hG313)), (hr_n.mono (((((hG271.trans hG272).trans hG282).trans hG302).trans hG303).trans hG313)), hok_n⟩

end Go.Proofs.YtebkfinhhpelbaaGreat
