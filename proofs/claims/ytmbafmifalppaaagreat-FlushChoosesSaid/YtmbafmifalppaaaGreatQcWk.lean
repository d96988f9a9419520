/- Walks of functions on nodes. -/
import Derived.Test.YtmbafmifalppaaaGreatQcWd
set_option maxRecDepth 100000
set_option maxHeartbeats 1600000
set_option linter.unusedVariables false
set_option linter.unusedSimpArgs false
set_option linter.unnecessarySimpa false
namespace Go.Proofs.YtmbafmifalppaaaGreat
open Go Go.Fw Go.RowKit
theorem clones_fc {G : GH} {v_a : Value} {a : List Str} (h_a : SlR eStr G v_a a) :
    Fc Tryz.prog 154 [v_a] G [] (fun v G' M' => M' = [] ∧ ∃ u0, v = u0 ∧ SlR eStr G' u0 (a)) := by
 obtain ⟨sa_a, sc_a, rfl⟩ := h_a.form
 have ha := h_a.bytes
 refine Fc.intro (rs := [.tmp 2]) cl154 Tryz.func154 rfl Tryz.ntmps154 rfl rfl (fun w0 => ?_)
 refine WC.seq (WC.region (W.as (W.nil (thn_n (WC.seq (WC.seq (WC.region (W.mv (W.ok (ok_eqlNil sl38 rfl rfl) (W.nil (thn_n ?_)))))))))))
 refine WC.cond (b := _) rfl (fun h4 => ?_) (fun h4 => ?_)
 ·have hn := SlR.isNone h_a h4
  subst hn
  refine WC.seq (WC.region (W.as (W.nil (thn_n (WC.ret (thn_r ?_))))))
  refine ⟨.inr rfl, [_], ⟨rfl, trivial⟩, [], sn9, ?_⟩
  refine ⟨rfl, _, rfl, ?_⟩
  · exact SlR.nil
 refine WC.skip (thn_n (WC.seq (WC.region (W.lit0 (e := eStr) sl38 ty9 zr9 rfl (fun v1 Ms2 ho3 => (W.mv (W.app (e := eStr) sl38 ty9 zr9 rfl by9 rfl rfl (ho3) (h_a) pr9 (by simpa using ha) (fun v4 Ms5 ho6 => (W.as (W.nil (thn_n (WC.giveO ho6 pr9 (fun G7 hG7 hv7 => (WC.ret ?_))))))))))))))
 refine ⟨.inr rfl, [_], ⟨rfl, trivial⟩, [], sn9, ?_⟩
 refine ⟨rfl, _, rfl, ?_⟩
 · exact hv7

theorem clonei_fc {G : GH} {v_a : Value} {a : List Int} (h_a : SlR eInt G v_a a) :
    Fc Tryz.prog 155 [v_a] G [] (fun v G' M' => M' = [] ∧ ∃ u0, v = u0 ∧ SlR eInt G' u0 (a)) := by
 obtain ⟨sa_a, sc_a, rfl⟩ := h_a.form
 have ha := h_a.bytes
 refine Fc.intro (rs := [.tmp 2]) cl155 Tryz.func155 rfl Tryz.ntmps155 rfl rfl (fun w0 => ?_)
 refine WC.seq (WC.region (W.as (W.nil (thn_n (WC.seq (WC.seq (WC.region (W.mv (W.ok (ok_eqlNil sl39 rfl rfl) (W.nil (thn_n ?_)))))))))))
 refine WC.cond (b := _) rfl (fun h4 => ?_) (fun h4 => ?_)
 ·have hn := SlR.isNone h_a h4
  subst hn
  refine WC.seq (WC.region (W.as (W.nil (thn_n (WC.ret (thn_r ?_))))))
  refine ⟨.inr rfl, [_], ⟨rfl, trivial⟩, [], sn9, ?_⟩
  refine ⟨rfl, _, rfl, ?_⟩
  · exact SlR.nil
 refine WC.skip (thn_n (WC.seq (WC.region (W.lit0 (e := eInt) sl39 ty3 zr3 rfl (fun v8 Ms9 ho10 => (W.mv (W.app (e := eInt) sl39 ty3 zr3 rfl by3 rfl rfl (ho10) (h_a) pr9 (by simpa using ha) (fun v11 Ms12 ho13 => (W.as (W.nil (thn_n (WC.giveO ho13 pr9 (fun G14 hG14 hv14 => (WC.ret ?_))))))))))))))
 refine ⟨.inr rfl, [_], ⟨rfl, trivial⟩, [], sn9, ?_⟩
 refine ⟨rfl, _, rfl, ?_⟩
 · exact hv14

theorem ncopy_fc {G : GH} {cs_a : List Value} {a : Nd} (h_a : NodeC G cs_a a) :
    Fc Tryz.prog 112 [.agg (List.toArray cs_a)] G [] (fun v G' M' => M' = [] ∧ ∃ u0, v = .agg (List.toArray u0) ∧ NodeC G' u0 (a)) := by
 obtain ⟨pa_a, pc_a, ka_a, kc_a, ma_a, mc_a, ra_a, rc_a, rfl, hp_a, hk_a, hm_a, hr_a, hok_a⟩ := h_a
 refine Fc.intro (rs := [.cell 2 43]) cl112 Tryz.func112 rfl Tryz.ntmps112 rfl rfl (fun w0 => ?_)
 refine WC.seq (WC.region (W.box (L := (nd9 _ _ _ _ _ _ _ _ _ _ _ _ _ _ _ _ _ _)) rfl rfl (fun b15 => (W.alloc zr43 (fun b16 => (W.nil (thn_n (WC.seq (WC.drawW _ ((sr9.cons _).k9) mix (by rintro _ _ _ _ ⟨h | h, _⟩ <;> cases h) (WD.tk 0 rfl (ok_fieldB fd43_2 rfl) (WD.tk 3 rfl (ok_fieldB fd43_3 rfl) ?_)))))))))))
 refine WD.any [1, 4] (by kernel_rfl) rfl ⟨⟨_, rfl, rfl, ?_⟩, ⟨_, rfl, rfl, ?_⟩, trivial⟩
 ·refine W.ok (ok_loadB (i := 1) (vs := [.slice _ _ _]) ty38 rfl rfl rfl rfl (by simp)) (W.nil (WD.n9 Le.rfl ((sr9.cons _).k9) ?_))
  refine WD.any [2, 4] (by kernel_rfl) rfl ⟨⟨_, rfl, rfl, ?_⟩, ⟨_, rfl, rfl, ?_⟩, trivial⟩
  ·refine W.call (Mp := []) (clones_fc hp_a) rfl pr9 ?_
   intro _ G17 _ hG17 q19
   refine match q19 with | ⟨e_20, _, e_21, hv18⟩ => ?_
   subst e_20
   subst e_21
   have q23 := hv18.form
   refine match q23 with | ⟨sa_hv18, sc_hv18, e_22⟩ => ?_
   subst e_22
   refine W.nil (WD.n9 hG17 ((sr9.cons _).k9) (WD.a1 4 rfl (W.ok (ok_loadB (i := 1) (vs := [.slice _ _ _]) ty39 rfl rfl rfl rfl (by simp)) (W.nil (WD.n9 Le.rfl ((sr9.cons _).k9) (WD.tk 6 rfl (ok_fieldB fd43_2 rfl) (WD.a1 5 rfl (W.call (Mp := []) (clonei_fc (hk_a.mono hG17)) rfl pr9 ?_))))))))
   intro _ G24 _ hG24 q26
   refine match q26 with | ⟨e_27, _, e_28, hv25⟩ => ?_
   subst e_27
   subst e_28
   have q30 := hv25.form
   refine match q30 with | ⟨sa_hv25, sc_hv25, e_29⟩ => ?_
   subst e_29
   refine W.nil (WD.n9 hG24 ((sr9.cons _).k9) (WD.a1 7 rfl (W.store (i := 1) (vs := [.slice _ _ _]) (L' := (nd9 _ _ _ _ _ _ _ _ _ _ _ _ _ _ _ _ _ _)) ty38 rfl rfl rfl rfl rfl rfl rfl rfl (W.nil (WD.n9 Le.rfl ((sr9.cons _).k9) (WD.tk 8 rfl (ok_fieldB fd43_3 rfl) (WD.a1 9 rfl (W.store (i := 1) (vs := [.slice _ _ _]) (L' := (nd9 _ _ _ _ _ _ _ _ _ _ _ _ _ _ _ _ _ _)) ty39 rfl rfl rfl rfl rfl rfl rfl rfl (W.nil (WD.n9 Le.rfl ((sr9.cons _).k9) (WD.done (by kernel_rfl) (thn_n (WC.seq (WC.drawW _ ((sr9.cons _).k9) mix (by rintro _ _ _ _ ⟨h | h, _⟩ <;> cases h) (WD.tk 0 rfl (ok_fieldB fd43_8 rfl) (WD.tk 3 rfl (ok_fieldB fd43_9 rfl) ?_))))))))))))))))
   refine WD.any [1, 4] (by kernel_rfl) rfl ⟨⟨_, rfl, rfl, ?_⟩, ⟨_, rfl, rfl, ?_⟩, trivial⟩
   ·refine W.ok (ok_loadB (i := 1) (vs := [.slice _ _ _]) ty40 rfl rfl rfl rfl (by simp)) (W.nil (WD.n9 Le.rfl ((sr9.cons _).k9) ?_))
    refine WD.any [2, 4] (by kernel_rfl) rfl ⟨⟨_, rfl, rfl, ?_⟩, ⟨_, rfl, rfl, ?_⟩, trivial⟩
    ·refine W.call (Mp := []) (clonem_fc (hm_a.mono (hG17.trans hG24))) rfl pr9 ?_
     intro _ G31 _ hG31 q33
     refine match q33 with | ⟨e_34, _, e_35, hv32⟩ => ?_
     subst e_34
     subst e_35
     have q37 := hv32.form
     refine match q37 with | ⟨sa_hv32, sc_hv32, e_36⟩ => ?_
     subst e_36
     refine W.nil (WD.n9 hG31 ((sr9.cons _).k9) (WD.a1 4 rfl (W.ok (ok_loadB (i := 1) (vs := [.slice _ _ _]) ty41 rfl rfl rfl rfl (by simp)) (W.nil (WD.n9 Le.rfl ((sr9.cons _).k9) (WD.tk 6 rfl (ok_fieldB fd43_8 rfl) (WD.a1 5 rfl (W.call (Mp := []) (clonep_fc (hr_a.mono ((hG17.trans hG24).trans hG31))) rfl pr9 ?_))))))))
     intro _ G38 _ hG38 q40
     refine match q40 with | ⟨e_41, _, e_42, hv39⟩ => ?_
     subst e_41
     subst e_42
     have q44 := hv39.form
     refine match q44 with | ⟨sa_hv39, sc_hv39, e_43⟩ => ?_
     subst e_43
     refine W.nil (WD.n9 hG38 ((sr9.cons _).k9) (WD.a1 7 rfl (W.store (i := 1) (vs := [.slice _ _ _]) (L' := (nd9 _ _ _ _ _ _ _ _ _ _ _ _ _ _ _ _ _ _)) ty40 rfl rfl rfl rfl rfl rfl rfl rfl (W.nil (WD.n9 Le.rfl ((sr9.cons _).k9) (WD.tk 8 rfl (ok_fieldB fd43_9 rfl) (WD.a1 9 rfl (W.store (i := 1) (vs := [.slice _ _ _]) (L' := (nd9 _ _ _ _ _ _ _ _ _ _ _ _ _ _ _ _ _ _)) ty41 rfl rfl rfl rfl rfl rfl rfl rfl (W.nil (WD.n9 Le.rfl ((sr9.cons _).k9) (WD.done (by kernel_rfl) (thn_n (WC.seq (WC.region (W.ok (ok_loadB (i := 1) (vs := (nd9 _ _ _ _ _ _ _ _ _ _ _ _ _ _ _ _ _ _)) ty43 rfl rfl rfl rfl (by simp)) (W.store (i := 0) (vs := (nd9 _ _ _ _ _ _ _ _ _ _ _ _ _ _ _ _ _ _)) (L' := (nd9 _ _ _ _ _ _ _ _ _ _ _ _ _ _ _ _ _ _)) ty43 rfl rfl rfl rfl rfl rfl rfl rfl (W.nil (thn_n ?_))))))))))))))))))
     refine WC.ret ?_
     refine ⟨.inr rfl, [_], ⟨⟨_, _, _, _, _, rfl, nthM_mem (i := 0) rfl, ty43, (by simp), rfl, rfl⟩, trivial⟩, [], sn9, ?_⟩
     refine ⟨rfl, _, rfl, ?_⟩
     · exact ⟨_, _, _, _, _, _, _, _, rfl, (hv18.mono ((hG24.trans hG31).trans hG38)), (hv25.mono (hG31.trans hG38)), (hv32.mono hG38), hv39, (by assumption)⟩
    refine W.ok (ok_loadB (i := 1) (vs := [.slice _ _ _]) ty41 rfl rfl rfl rfl (by simp)) (W.nil (WD.n9 Le.rfl ((sr9.cons _).k9) (WD.a1 2 rfl (W.call (Mp := []) (clonem_fc (hm_a.mono (hG17.trans hG24))) rfl pr9 ?_))))
    intro _ G45 _ hG45 q47
    refine match q47 with | ⟨e_48, _, e_49, hv46⟩ => ?_
    subst e_48
    subst e_49
    have q51 := hv46.form
    refine match q51 with | ⟨sa_hv46, sc_hv46, e_50⟩ => ?_
    subst e_50
    refine W.nil (WD.n9 hG45 ((sr9.cons _).k9) (WD.tk 6 rfl (ok_fieldB fd43_8 rfl) (WD.a1 5 rfl (W.call (Mp := []) (clonep_fc (hr_a.mono ((hG17.trans hG24).trans hG45))) rfl pr9 ?_))))
    intro _ G52 _ hG52 q54
    refine match q54 with | ⟨e_55, _, e_56, hv53⟩ => ?_
    subst e_55
    subst e_56
    have q58 := hv53.form
    refine match q58 with | ⟨sa_hv53, sc_hv53, e_57⟩ => ?_
    subst e_57
    refine W.nil (WD.n9 hG52 ((sr9.cons _).k9) (WD.a1 7 rfl (W.store (i := 1) (vs := [.slice _ _ _]) (L' := (nd9 _ _ _ _ _ _ _ _ _ _ _ _ _ _ _ _ _ _)) ty40 rfl rfl rfl rfl rfl rfl rfl rfl (W.nil (WD.n9 Le.rfl ((sr9.cons _).k9) (WD.tk 8 rfl (ok_fieldB fd43_9 rfl) (WD.a1 9 rfl (W.store (i := 1) (vs := [.slice _ _ _]) (L' := (nd9 _ _ _ _ _ _ _ _ _ _ _ _ _ _ _ _ _ _)) ty41 rfl rfl rfl rfl rfl rfl rfl rfl (W.nil (WD.n9 Le.rfl ((sr9.cons _).k9) (WD.done (by kernel_rfl) (thn_n (WC.seq (WC.region (W.ok (ok_loadB (i := 1) (vs := (nd9 _ _ _ _ _ _ _ _ _ _ _ _ _ _ _ _ _ _)) ty43 rfl rfl rfl rfl (by simp)) (W.store (i := 0) (vs := (nd9 _ _ _ _ _ _ _ _ _ _ _ _ _ _ _ _ _ _)) (L' := (nd9 _ _ _ _ _ _ _ _ _ _ _ _ _ _ _ _ _ _)) ty43 rfl rfl rfl rfl rfl rfl rfl rfl (W.nil (thn_n ?_))))))))))))))))))
    refine WC.ret ?_
    refine ⟨.inr rfl, [_], ⟨⟨_, _, _, _, _, rfl, nthM_mem (i := 0) rfl, ty43, (by simp), rfl, rfl⟩, trivial⟩, [], sn9, ?_⟩
    refine ⟨rfl, _, rfl, ?_⟩
    · exact ⟨_, _, _, _, _, _, _, _, rfl, (hv18.mono ((hG24.trans hG45).trans hG52)), (hv25.mono (hG45.trans hG52)), (hv46.mono hG52), hv53, (by assumption)⟩
   refine W.ok (ok_loadB (i := 1) (vs := [.slice _ _ _]) ty41 rfl rfl rfl rfl (by simp)) (W.nil (WD.n9 Le.rfl ((sr9.cons _).k9) (WD.a1 1 rfl (W.ok (ok_loadB (i := 1) (vs := [.slice _ _ _]) ty40 rfl rfl rfl rfl (by simp)) (W.nil (WD.n9 Le.rfl ((sr9.cons _).k9) (WD.a1 2 rfl (W.call (Mp := []) (clonem_fc (hm_a.mono (hG17.trans hG24))) rfl pr9 ?_))))))))
   intro _ G59 _ hG59 q61
   refine match q61 with | ⟨e_62, _, e_63, hv60⟩ => ?_
   subst e_62
   subst e_63
   have q65 := hv60.form
   refine match q65 with | ⟨sa_hv60, sc_hv60, e_64⟩ => ?_
   subst e_64
   refine W.nil (WD.n9 hG59 ((sr9.cons _).k9) (WD.tk 6 rfl (ok_fieldB fd43_8 rfl) (WD.a1 5 rfl (W.call (Mp := []) (clonep_fc (hr_a.mono ((hG17.trans hG24).trans hG59))) rfl pr9 ?_))))
   intro _ G66 _ hG66 q68
   refine match q68 with | ⟨e_69, _, e_70, hv67⟩ => ?_
   subst e_69
   subst e_70
   have q72 := hv67.form
   refine match q72 with | ⟨sa_hv67, sc_hv67, e_71⟩ => ?_
   subst e_71
   refine W.nil (WD.n9 hG66 ((sr9.cons _).k9) (WD.a1 7 rfl (W.store (i := 1) (vs := [.slice _ _ _]) (L' := (nd9 _ _ _ _ _ _ _ _ _ _ _ _ _ _ _ _ _ _)) ty40 rfl rfl rfl rfl rfl rfl rfl rfl (W.nil (WD.n9 Le.rfl ((sr9.cons _).k9) (WD.tk 8 rfl (ok_fieldB fd43_9 rfl) (WD.a1 9 rfl (W.store (i := 1) (vs := [.slice _ _ _]) (L' := (nd9 _ _ _ _ _ _ _ _ _ _ _ _ _ _ _ _ _ _)) ty41 rfl rfl rfl rfl rfl rfl rfl rfl (W.nil (WD.n9 Le.rfl ((sr9.cons _).k9) (WD.done (by kernel_rfl) (thn_n (WC.seq (WC.region (W.ok (ok_loadB (i := 1) (vs := (nd9 _ _ _ _ _ _ _ _ _ _ _ _ _ _ _ _ _ _)) ty43 rfl rfl rfl rfl (by simp)) (W.store (i := 0) (vs := (nd9 _ _ _ _ _ _ _ _ _ _ _ _ _ _ _ _ _ _)) (L' := (nd9 _ _ _ _ _ _ _ _ _ _ _ _ _ _ _ _ _ _)) ty43 rfl rfl rfl rfl rfl rfl rfl rfl (W.nil (thn_n ?_))))))))))))))))))
   refine WC.ret ?_
   refine ⟨.inr rfl, [_], ⟨⟨_, _, _, _, _, rfl, nthM_mem (i := 0) rfl, ty43, (by simp), rfl, rfl⟩, trivial⟩, [], sn9, ?_⟩
   refine ⟨rfl, _, rfl, ?_⟩
   · exact ⟨_, _, _, _, _, _, _, _, rfl, (hv18.mono ((hG24.trans hG59).trans hG66)), (hv25.mono (hG59.trans hG66)), (hv60.mono hG66), hv67, (by assumption)⟩
  refine W.ok (ok_loadB (i := 1) (vs := [.slice _ _ _]) ty39 rfl rfl rfl rfl (by simp)) (W.nil (WD.n9 Le.rfl ((sr9.cons _).k9) (WD.a1 2 rfl (W.call (Mp := []) (clones_fc hp_a) rfl pr9 ?_))))
  intro _ G73 _ hG73 q75
  refine match q75 with | ⟨e_76, _, e_77, hv74⟩ => ?_
  subst e_76
  subst e_77
  have q79 := hv74.form
  refine match q79 with | ⟨sa_hv74, sc_hv74, e_78⟩ => ?_
  subst e_78
  refine W.nil (WD.n9 hG73 ((sr9.cons _).k9) (WD.tk 6 rfl (ok_fieldB fd43_2 rfl) (WD.a1 5 rfl (W.call (Mp := []) (clonei_fc (hk_a.mono hG73)) rfl pr9 ?_))))
  intro _ G80 _ hG80 q82
  refine match q82 with | ⟨e_83, _, e_84, hv81⟩ => ?_
  subst e_83
  subst e_84
  have q86 := hv81.form
  refine match q86 with | ⟨sa_hv81, sc_hv81, e_85⟩ => ?_
  subst e_85
  refine W.nil (WD.n9 hG80 ((sr9.cons _).k9) (WD.a1 7 rfl (W.store (i := 1) (vs := [.slice _ _ _]) (L' := (nd9 _ _ _ _ _ _ _ _ _ _ _ _ _ _ _ _ _ _)) ty38 rfl rfl rfl rfl rfl rfl rfl rfl (W.nil (WD.n9 Le.rfl ((sr9.cons _).k9) (WD.tk 8 rfl (ok_fieldB fd43_3 rfl) (WD.a1 9 rfl (W.store (i := 1) (vs := [.slice _ _ _]) (L' := (nd9 _ _ _ _ _ _ _ _ _ _ _ _ _ _ _ _ _ _)) ty39 rfl rfl rfl rfl rfl rfl rfl rfl (W.nil (WD.n9 Le.rfl ((sr9.cons _).k9) (WD.done (by kernel_rfl) (thn_n (WC.seq (WC.drawW _ ((sr9.cons _).k9) mix (by rintro _ _ _ _ ⟨h | h, _⟩ <;> cases h) (WD.tk 0 rfl (ok_fieldB fd43_8 rfl) (WD.tk 3 rfl (ok_fieldB fd43_9 rfl) ?_))))))))))))))))
  refine WD.any [1, 4] (by kernel_rfl) rfl ⟨⟨_, rfl, rfl, ?_⟩, ⟨_, rfl, rfl, ?_⟩, trivial⟩
  ·refine W.ok (ok_loadB (i := 1) (vs := [.slice _ _ _]) ty40 rfl rfl rfl rfl (by simp)) (W.nil (WD.n9 Le.rfl ((sr9.cons _).k9) ?_))
   refine WD.any [2, 4] (by kernel_rfl) rfl ⟨⟨_, rfl, rfl, ?_⟩, ⟨_, rfl, rfl, ?_⟩, trivial⟩
   ·refine W.call (Mp := []) (clonem_fc (hm_a.mono (hG73.trans hG80))) rfl pr9 ?_
    intro _ G87 _ hG87 q89
    refine match q89 with | ⟨e_90, _, e_91, hv88⟩ => ?_
    subst e_90
    subst e_91
    have q93 := hv88.form
    refine match q93 with | ⟨sa_hv88, sc_hv88, e_92⟩ => ?_
    subst e_92
    refine W.nil (WD.n9 hG87 ((sr9.cons _).k9) (WD.a1 4 rfl (W.ok (ok_loadB (i := 1) (vs := [.slice _ _ _]) ty41 rfl rfl rfl rfl (by simp)) (W.nil (WD.n9 Le.rfl ((sr9.cons _).k9) (WD.tk 6 rfl (ok_fieldB fd43_8 rfl) (WD.a1 5 rfl (W.call (Mp := []) (clonep_fc (hr_a.mono ((hG73.trans hG80).trans hG87))) rfl pr9 ?_))))))))
    intro _ G94 _ hG94 q96
    refine match q96 with | ⟨e_97, _, e_98, hv95⟩ => ?_
    subst e_97
    subst e_98
    have q100 := hv95.form
    refine match q100 with | ⟨sa_hv95, sc_hv95, e_99⟩ => ?_
    subst e_99
    refine W.nil (WD.n9 hG94 ((sr9.cons _).k9) (WD.a1 7 rfl (W.store (i := 1) (vs := [.slice _ _ _]) (L' := (nd9 _ _ _ _ _ _ _ _ _ _ _ _ _ _ _ _ _ _)) ty40 rfl rfl rfl rfl rfl rfl rfl rfl (W.nil (WD.n9 Le.rfl ((sr9.cons _).k9) (WD.tk 8 rfl (ok_fieldB fd43_9 rfl) (WD.a1 9 rfl (W.store (i := 1) (vs := [.slice _ _ _]) (L' := (nd9 _ _ _ _ _ _ _ _ _ _ _ _ _ _ _ _ _ _)) ty41 rfl rfl rfl rfl rfl rfl rfl rfl (W.nil (WD.n9 Le.rfl ((sr9.cons _).k9) (WD.done (by kernel_rfl) (thn_n (WC.seq (WC.region (W.ok (ok_loadB (i := 1) (vs := (nd9 _ _ _ _ _ _ _ _ _ _ _ _ _ _ _ _ _ _)) ty43 rfl rfl rfl rfl (by simp)) (W.store (i := 0) (vs := (nd9 _ _ _ _ _ _ _ _ _ _ _ _ _ _ _ _ _ _)) (L' := (nd9 _ _ _ _ _ _ _ _ _ _ _ _ _ _ _ _ _ _)) ty43 rfl rfl rfl rfl rfl rfl rfl rfl (W.nil (thn_n ?_))))))))))))))))))
    refine WC.ret ?_
    refine ⟨.inr rfl, [_], ⟨⟨_, _, _, _, _, rfl, nthM_mem (i := 0) rfl, ty43, (by simp), rfl, rfl⟩, trivial⟩, [], sn9, ?_⟩
    refine ⟨rfl, _, rfl, ?_⟩
    · exact ⟨_, _, _, _, _, _, _, _, rfl, (hv74.mono ((hG80.trans hG87).trans hG94)), (hv81.mono (hG87.trans hG94)), (hv88.mono hG94), hv95, (by assumption)⟩
   refine W.ok (ok_loadB (i := 1) (vs := [.slice _ _ _]) ty41 rfl rfl rfl rfl (by simp)) (W.nil (WD.n9 Le.rfl ((sr9.cons _).k9) (WD.a1 2 rfl (W.call (Mp := []) (clonem_fc (hm_a.mono (hG73.trans hG80))) rfl pr9 ?_))))
   intro _ G101 _ hG101 q103
   refine match q103 with | ⟨e_104, _, e_105, hv102⟩ => ?_
   subst e_104
   subst e_105
   have q107 := hv102.form
   refine match q107 with | ⟨sa_hv102, sc_hv102, e_106⟩ => ?_
   subst e_106
   refine W.nil (WD.n9 hG101 ((sr9.cons _).k9) (WD.tk 6 rfl (ok_fieldB fd43_8 rfl) (WD.a1 5 rfl (W.call (Mp := []) (clonep_fc (hr_a.mono ((hG73.trans hG80).trans hG101))) rfl pr9 ?_))))
   intro _ G108 _ hG108 q110
   refine match q110 with | ⟨e_111, _, e_112, hv109⟩ => ?_
   subst e_111
   subst e_112
   have q114 := hv109.form
   refine match q114 with | ⟨sa_hv109, sc_hv109, e_113⟩ => ?_
   subst e_113
   refine W.nil (WD.n9 hG108 ((sr9.cons _).k9) (WD.a1 7 rfl (W.store (i := 1) (vs := [.slice _ _ _]) (L' := (nd9 _ _ _ _ _ _ _ _ _ _ _ _ _ _ _ _ _ _)) ty40 rfl rfl rfl rfl rfl rfl rfl rfl (W.nil (WD.n9 Le.rfl ((sr9.cons _).k9) (WD.tk 8 rfl (ok_fieldB fd43_9 rfl) (WD.a1 9 rfl (W.store (i := 1) (vs := [.slice _ _ _]) (L' := (nd9 _ _ _ _ _ _ _ _ _ _ _ _ _ _ _ _ _ _)) ty41 rfl rfl rfl rfl rfl rfl rfl rfl (W.nil (WD.n9 Le.rfl ((sr9.cons _).k9) (WD.done (by kernel_rfl) (thn_n (WC.seq (WC.region (W.ok (ok_loadB (i := 1) (vs := (nd9 _ _ _ _ _ _ _ _ _ _ _ _ _ _ _ _ _ _)) ty43 rfl rfl rfl rfl (by simp)) (W.store (i := 0) (vs := (nd9 _ _ _ _ _ _ _ _ _ _ _ _ _ _ _ _ _ _)) (L' := (nd9 _ _ _ _ _ _ _ _ _ _ _ _ _ _ _ _ _ _)) ty43 rfl rfl rfl rfl rfl rfl rfl rfl (W.nil (thn_n ?_))))))))))))))))))
   refine WC.ret ?_
   refine ⟨.inr rfl, [_], ⟨⟨_, _, _, _, _, rfl, nthM_mem (i := 0) rfl, ty43, (by simp), rfl, rfl⟩, trivial⟩, [], sn9, ?_⟩
   refine ⟨rfl, _, rfl, ?_⟩
   · exact ⟨_, _, _, _, _, _, _, _, rfl, (hv74.mono ((hG80.trans hG101).trans hG108)), (hv81.mono (hG101.trans hG108)), (hv102.mono hG108), hv109, (by assumption)⟩
  refine W.ok (ok_loadB (i := 1) (vs := [.slice _ _ _]) ty41 rfl rfl rfl rfl (by simp)) (W.nil (WD.n9 Le.rfl ((sr9.cons _).k9) (WD.a1 1 rfl (W.ok (ok_loadB (i := 1) (vs := [.slice _ _ _]) ty40 rfl rfl rfl rfl (by simp)) (W.nil (WD.n9 Le.rfl ((sr9.cons _).k9) (WD.a1 2 rfl (W.call (Mp := []) (clonem_fc (hm_a.mono (hG73.trans hG80))) rfl pr9 ?_))))))))
  intro _ G115 _ hG115 q117
  refine match q117 with | ⟨e_118, _, e_119, hv116⟩ => ?_
  subst e_118
  subst e_119
  have q121 := hv116.form
  refine match q121 with | ⟨sa_hv116, sc_hv116, e_120⟩ => ?_
  subst e_120
  refine W.nil (WD.n9 hG115 ((sr9.cons _).k9) (WD.tk 6 rfl (ok_fieldB fd43_8 rfl) (WD.a1 5 rfl (W.call (Mp := []) (clonep_fc (hr_a.mono ((hG73.trans hG80).trans hG115))) rfl pr9 ?_))))
  intro _ G122 _ hG122 q124
  refine match q124 with | ⟨e_125, _, e_126, hv123⟩ => ?_
  subst e_125
  subst e_126
  have q128 := hv123.form
  refine match q128 with | ⟨sa_hv123, sc_hv123, e_127⟩ => ?_
  subst e_127
  refine W.nil (WD.n9 hG122 ((sr9.cons _).k9) (WD.a1 7 rfl (W.store (i := 1) (vs := [.slice _ _ _]) (L' := (nd9 _ _ _ _ _ _ _ _ _ _ _ _ _ _ _ _ _ _)) ty40 rfl rfl rfl rfl rfl rfl rfl rfl (W.nil (WD.n9 Le.rfl ((sr9.cons _).k9) (WD.tk 8 rfl (ok_fieldB fd43_9 rfl) (WD.a1 9 rfl (W.store (i := 1) (vs := [.slice _ _ _]) (L' := (nd9 _ _ _ _ _ _ _ _ _ _ _ _ _ _ _ _ _ _)) ty41 rfl rfl rfl rfl rfl rfl rfl rfl (W.nil (WD.n9 Le.rfl ((sr9.cons _).k9) (WD.done (by kernel_rfl) (thn_n (WC.seq (WC.region (W.ok (ok_loadB (i := 1) (vs := (nd9 _ _ _ _ _ _ _ _ _ _ _ _ _ _ _ _ _ _)) ty43 rfl rfl rfl rfl (by simp)) (W.store (i := 0) (vs := (nd9 _ _ _ _ _ _ _ _ _ _ _ _ _ _ _ _ _ _)) (L' := (nd9 _ _ _ _ _ _ _ _ _ _ _ _ _ _ _ _ _ _)) ty43 rfl rfl rfl rfl rfl rfl rfl rfl (W.nil (thn_n ?_))))))))))))))))))
  refine WC.ret ?_
  refine ⟨.inr rfl, [_], ⟨⟨_, _, _, _, _, rfl, nthM_mem (i := 0) rfl, ty43, (by simp), rfl, rfl⟩, trivial⟩, [], sn9, ?_⟩
  refine ⟨rfl, _, rfl, ?_⟩
  · exact ⟨_, _, _, _, _, _, _, _, rfl, (hv74.mono ((hG80.trans hG115).trans hG122)), (hv81.mono (hG115.trans hG122)), (hv116.mono hG122), hv123, (by assumption)⟩
 refine W.ok (ok_loadB (i := 1) (vs := [.slice _ _ _]) ty39 rfl rfl rfl rfl (by simp)) (W.nil (WD.n9 Le.rfl ((sr9.cons _).k9) (WD.a1 1 rfl (W.ok (ok_loadB (i := 1) (vs := [.slice _ _ _]) ty38 rfl rfl rfl rfl (by simp)) (W.nil (WD.n9 Le.rfl ((sr9.cons _).k9) (WD.a1 2 rfl (W.call (Mp := []) (clones_fc hp_a) rfl pr9 ?_))))))))
 intro _ G129 _ hG129 q131
 refine match q131 with | ⟨e_132, _, e_133, hv130⟩ => ?_
 subst e_132
 subst e_133
 have q135 := hv130.form
 refine match q135 with | ⟨sa_hv130, sc_hv130, e_134⟩ => ?_
 subst e_134
 refine W.nil (WD.n9 hG129 ((sr9.cons _).k9) (WD.tk 6 rfl (ok_fieldB fd43_2 rfl) (WD.a1 5 rfl (W.call (Mp := []) (clonei_fc (hk_a.mono hG129)) rfl pr9 ?_))))
 intro _ G136 _ hG136 q138
 refine match q138 with | ⟨e_139, _, e_140, hv137⟩ => ?_
 subst e_139
 subst e_140
 have q142 := hv137.form
 refine match q142 with | ⟨sa_hv137, sc_hv137, e_141⟩ => ?_
 subst e_141
 refine W.nil (WD.n9 hG136 ((sr9.cons _).k9) (WD.a1 7 rfl (W.store (i := 1) (vs := [.slice _ _ _]) (L' := (nd9 _ _ _ _ _ _ _ _ _ _ _ _ _ _ _ _ _ _)) ty38 rfl rfl rfl rfl rfl rfl rfl rfl (W.nil (WD.n9 Le.rfl ((sr9.cons _).k9) (WD.tk 8 rfl (ok_fieldB fd43_3 rfl) (WD.a1 9 rfl (W.store (i := 1) (vs := [.slice _ _ _]) (L' := (nd9 _ _ _ _ _ _ _ _ _ _ _ _ _ _ _ _ _ _)) ty39 rfl rfl rfl rfl rfl rfl rfl rfl (W.nil (WD.n9 Le.rfl ((sr9.cons _).k9) (WD.done (by kernel_rfl) (thn_n (WC.seq (WC.drawW _ ((sr9.cons _).k9) mix (by rintro _ _ _ _ ⟨h | h, _⟩ <;> cases h) (WD.tk 0 rfl (ok_fieldB fd43_8 rfl) (WD.tk 3 rfl (ok_fieldB fd43_9 rfl) ?_))))))))))))))))
 refine WD.any [1, 4] (by kernel_rfl) rfl ⟨⟨_, rfl, rfl, ?_⟩, ⟨_, rfl, rfl, ?_⟩, trivial⟩
 ·refine W.ok (ok_loadB (i := 1) (vs := [.slice _ _ _]) ty40 rfl rfl rfl rfl (by simp)) (W.nil (WD.n9 Le.rfl ((sr9.cons _).k9) ?_))
  refine WD.any [2, 4] (by kernel_rfl) rfl ⟨⟨_, rfl, rfl, ?_⟩, ⟨_, rfl, rfl, ?_⟩, trivial⟩
  ·refine W.call (Mp := []) (clonem_fc (hm_a.mono (hG129.trans hG136))) rfl pr9 ?_
   intro _ G143 _ hG143 q145
   refine match q145 with | ⟨e_146, _, e_147, hv144⟩ => ?_
   subst e_146
   subst e_147
   have q149 := hv144.form
   refine match q149 with | ⟨sa_hv144, sc_hv144, e_148⟩ => ?_
   subst e_148
   refine W.nil (WD.n9 hG143 ((sr9.cons _).k9) (WD.a1 4 rfl (W.ok (ok_loadB (i := 1) (vs := [.slice _ _ _]) ty41 rfl rfl rfl rfl (by simp)) (W.nil (WD.n9 Le.rfl ((sr9.cons _).k9) (WD.tk 6 rfl (ok_fieldB fd43_8 rfl) (WD.a1 5 rfl (W.call (Mp := []) (clonep_fc (hr_a.mono ((hG129.trans hG136).trans hG143))) rfl pr9 ?_))))))))
   intro _ G150 _ hG150 q152
   refine match q152 with | ⟨e_153, _, e_154, hv151⟩ => ?_
   subst e_153
   subst e_154
   have q156 := hv151.form
   refine match q156 with | ⟨sa_hv151, sc_hv151, e_155⟩ => ?_
   subst e_155
   refine W.nil (WD.n9 hG150 ((sr9.cons _).k9) (WD.a1 7 rfl (W.store (i := 1) (vs := [.slice _ _ _]) (L' := (nd9 _ _ _ _ _ _ _ _ _ _ _ _ _ _ _ _ _ _)) ty40 rfl rfl rfl rfl rfl rfl rfl rfl (W.nil (WD.n9 Le.rfl ((sr9.cons _).k9) (WD.tk 8 rfl (ok_fieldB fd43_9 rfl) (WD.a1 9 rfl (W.store (i := 1) (vs := [.slice _ _ _]) (L' := (nd9 _ _ _ _ _ _ _ _ _ _ _ _ _ _ _ _ _ _)) ty41 rfl rfl rfl rfl rfl rfl rfl rfl (W.nil (WD.n9 Le.rfl ((sr9.cons _).k9) (WD.done (by kernel_rfl) (thn_n (WC.seq (WC.region (W.ok (ok_loadB (i := 1) (vs := (nd9 _ _ _ _ _ _ _ _ _ _ _ _ _ _ _ _ _ _)) ty43 rfl rfl rfl rfl (by simp)) (W.store (i := 0) (vs := (nd9 _ _ _ _ _ _ _ _ _ _ _ _ _ _ _ _ _ _)) (L' := (nd9 _ _ _ _ _ _ _ _ _ _ _ _ _ _ _ _ _ _)) ty43 rfl rfl rfl rfl rfl rfl rfl rfl (W.nil (thn_n ?_))))))))))))))))))
   refine WC.ret ?_
   refine ⟨.inr rfl, [_], ⟨⟨_, _, _, _, _, rfl, nthM_mem (i := 0) rfl, ty43, (by simp), rfl, rfl⟩, trivial⟩, [], sn9, ?_⟩
   refine ⟨rfl, _, rfl, ?_⟩
   · exact ⟨_, _, _, _, _, _, _, _, rfl, (hv130.mono ((hG136.trans hG143).trans hG150)), (hv137.mono (hG143.trans hG150)), (hv144.mono hG150), hv151, (by assumption)⟩
  refine W.ok (ok_loadB (i := 1) (vs := [.slice _ _ _]) ty41 rfl rfl rfl rfl (by simp)) (W.nil (WD.n9 Le.rfl ((sr9.cons _).k9) (WD.a1 2 rfl (W.call (Mp := []) (clonem_fc (hm_a.mono (hG129.trans hG136))) rfl pr9 ?_))))
  intro _ G157 _ hG157 q159
  refine match q159 with | ⟨e_160, _, e_161, hv158⟩ => ?_
  subst e_160
  subst e_161
  have q163 := hv158.form
  refine match q163 with | ⟨sa_hv158, sc_hv158, e_162⟩ => ?_
  subst e_162
  refine W.nil (WD.n9 hG157 ((sr9.cons _).k9) (WD.tk 6 rfl (ok_fieldB fd43_8 rfl) (WD.a1 5 rfl (W.call (Mp := []) (clonep_fc (hr_a.mono ((hG129.trans hG136).trans hG157))) rfl pr9 ?_))))
  intro _ G164 _ hG164 q166
  refine match q166 with | ⟨e_167, _, e_168, hv165⟩ => ?_
  subst e_167
  subst e_168
  have q170 := hv165.form
  refine match q170 with | ⟨sa_hv165, sc_hv165, e_169⟩ => ?_
  subst e_169
  refine W.nil (WD.n9 hG164 ((sr9.cons _).k9) (WD.a1 7 rfl (W.store (i := 1) (vs := [.slice _ _ _]) (L' := (nd9 _ _ _ _ _ _ _ _ _ _ _ _ _ _ _ _ _ _)) ty40 rfl rfl rfl rfl rfl rfl rfl rfl (W.nil (WD.n9 Le.rfl ((sr9.cons _).k9) (WD.tk 8 rfl (ok_fieldB fd43_9 rfl) (WD.a1 9 rfl (W.store (i := 1) (vs := [.slice _ _ _]) (L' := (nd9 _ _ _ _ _ _ _ _ _ _ _ _ _ _ _ _ _ _)) ty41 rfl rfl rfl rfl rfl rfl rfl rfl (W.nil (WD.n9 Le.rfl ((sr9.cons _).k9) (WD.done (by kernel_rfl) (thn_n (WC.seq (WC.region (W.ok (ok_loadB (i := 1) (vs := (nd9 _ _ _ _ _ _ _ _ _ _ _ _ _ _ _ _ _ _)) ty43 rfl rfl rfl rfl (by simp)) (W.store (i := 0) (vs := (nd9 _ _ _ _ _ _ _ _ _ _ _ _ _ _ _ _ _ _)) (L' := (nd9 _ _ _ _ _ _ _ _ _ _ _ _ _ _ _ _ _ _)) ty43 rfl rfl rfl rfl rfl rfl rfl rfl (W.nil (thn_n ?_))))))))))))))))))
  refine WC.ret ?_
  refine ⟨.inr rfl, [_], ⟨⟨_, _, _, _, _, rfl, nthM_mem (i := 0) rfl, ty43, (by simp), rfl, rfl⟩, trivial⟩, [], sn9, ?_⟩
  refine ⟨rfl, _, rfl, ?_⟩
  · exact ⟨_, _, _, _, _, _, _, _, rfl, (hv130.mono ((hG136.trans hG157).trans hG164)), (hv137.mono (hG157.trans hG164)), (hv158.mono hG164), hv165, (by assumption)⟩
 refine W.ok (ok_loadB (i := 1) (vs := [.slice _ _ _]) ty41 rfl rfl rfl rfl (by simp)) (W.nil (WD.n9 Le.rfl ((sr9.cons _).k9) (WD.a1 1 rfl (W.ok (ok_loadB (i := 1) (vs := [.slice _ _ _]) ty40 rfl rfl rfl rfl (by simp)) (W.nil (WD.n9 Le.rfl ((sr9.cons _).k9) (WD.a1 2 rfl (W.call (Mp := []) (clonem_fc (hm_a.mono (hG129.trans hG136))) rfl pr9 ?_))))))))
 intro _ G171 _ hG171 q173
 refine match q173 with | ⟨e_174, _, e_175, hv172⟩ => ?_
 subst e_174
 subst e_175
 have q177 := hv172.form
 refine match q177 with | ⟨sa_hv172, sc_hv172, e_176⟩ => ?_
 subst e_176
 refine W.nil (WD.n9 hG171 ((sr9.cons _).k9) (WD.tk 6 rfl (ok_fieldB fd43_8 rfl) (WD.a1 5 rfl (W.call (Mp := []) (clonep_fc (hr_a.mono ((hG129.trans hG136).trans hG171))) rfl pr9 ?_))))
 intro _ G178 _ hG178 q180
 refine match q180 with | ⟨e_181, _, e_182, hv179⟩ => ?_
 subst e_181
 subst e_182
 have q184 := hv179.form
 refine match q184 with | ⟨sa_hv179, sc_hv179, e_183⟩ => ?_
 subst e_183
 refine W.nil (WD.n9 hG178 ((sr9.cons _).k9) (WD.a1 7 rfl (W.store (i := 1) (vs := [.slice _ _ _]) (L' := (nd9 _ _ _ _ _ _ _ _ _ _ _ _ _ _ _ _ _ _)) ty40 rfl rfl rfl rfl rfl rfl rfl rfl (W.nil (WD.n9 Le.rfl ((sr9.cons _).k9) (WD.tk 8 rfl (ok_fieldB fd43_9 rfl) (WD.a1 9 rfl (W.store (i := 1) (vs := [.slice _ _ _]) (L' := (nd9 _ _ _ _ _ _ _ _ _ _ _ _ _ _ _ _ _ _)) ty41 rfl rfl rfl rfl rfl rfl rfl rfl (W.nil (WD.n9 Le.rfl ((sr9.cons _).k9) (WD.done (by kernel_rfl) (thn_n (WC.seq (WC.region (W.ok (ok_loadB (i := 1) (vs := (nd9 _ _ _ _ _ _ _ _ _ _ _ _ _ _ _ _ _ _)) ty43 rfl rfl rfl rfl (by simp)) (W.store (i := 0) (vs := (nd9 _ _ _ _ _ _ _ _ _ _ _ _ _ _ _ _ _ _)) (L' := (nd9 _ _ _ _ _ _ _ _ _ _ _ _ _ _ _ _ _ _)) ty43 rfl rfl rfl rfl rfl rfl rfl rfl (W.nil (thn_n ?_))))))))))))))))))
 refine WC.ret ?_
 refine ⟨.inr rfl, [_], ⟨⟨_, _, _, _, _, rfl, nthM_mem (i := 0) rfl, ty43, (by simp), rfl, rfl⟩, trivial⟩, [], sn9, ?_⟩
 refine ⟨rfl, _, rfl, ?_⟩
 · exact ⟨_, _, _, _, _, _, _, _, rfl, (hv130.mono ((hG136.trans hG171).trans hG178)), (hv137.mono (hG171.trans hG178)), (hv172.mono hG178), hv179, (by assumption)⟩

end Go.Proofs.YtmbafmifalppaaaGreat
