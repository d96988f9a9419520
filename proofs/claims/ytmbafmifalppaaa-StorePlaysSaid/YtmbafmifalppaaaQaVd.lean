/- Walks of copies of nodes. -/
import Derived.Test.YtmbafmifalppaaaQaU4
import Derived.Test.YtmbafmifalppaaaQaOj
set_option maxRecDepth 100000
set_option maxHeartbeats 1600000
set_option linter.unusedVariables false
set_option linter.unusedSimpArgs false
set_option linter.unnecessarySimpa false
namespace Go.Proofs.Ytmbafmifalppaaa
open Go Go.Fw Go.RowKit
theorem clonei25_fc {G : GH} {v_a : Value} {a : List Int} (h_a : SlR eInt G v_a a) :
    Fc Try.prog 130 [v_a] G [] (fun v G' M' => OwnR eInt 3 G' v (a) M') := by
 obtain ⟨sa_a, sc_a, rfl⟩ := h_a.form
 have ha := h_a.bytes
 refine Fc.intro (rs := [.tmp 2]) cl130 Try.func130 rfl Try.ntmps130 rfl rfl (fun w0 => ?_)
 refine WC.seq (WC.region (W.as (W.nil (thn_n (WC.seq (WC.seq (WC.region (W.mv (W.ok (ok_eqlNil sl30 rfl rfl) (W.nil (thn_n ?_)))))))))))
 refine WC.cond (b := _) rfl (fun h4 => ?_) (fun h4 => ?_)
 ·have hn := SlR.isNone h_a h4
  subst hn
  refine WC.seq (WC.region (W.as (W.nil (thn_n (WC.ret (thn_r ?_))))))
  refine ⟨.inr rfl, [_], ⟨rfl, trivial⟩, [], sn9, ?_⟩
  exact OwnR.nil
 refine WC.skip (thn_n (WC.seq (WC.region (W.lit0 (e := eInt) sl30 ty3 zr3 rfl (fun v1 Ms2 ho3 => (W.mv (W.app (e := eInt) sl30 ty3 zr3 rfl by3 rfl rfl (ho3) (h_a) pr9 (by simpa using ha) (fun v4 Ms5 ho6 => (W.as (W.nil (thn_n (WC.ret ?_))))))))))))
 refine ⟨.inr rfl, [_], ⟨rfl, trivial⟩, Ms5, List.sublist_append_left _ _, ?_⟩
 have h := ho6
 rw [List.nil_append] at h
 exact h

theorem clonep25_fc {G : GH} {v_a : Value} {a : List Pair} (h_a : SlR ePair G v_a a) :
    Fc Try.prog 132 [v_a] G [] (fun v G' M' => OwnR ePair 71 G' v (a) M') := by
 obtain ⟨sa_a, sc_a, rfl⟩ := h_a.form
 have ha := h_a.bytes
 refine Fc.intro (rs := [.tmp 2]) cl132 Try.func132 rfl Try.ntmps132 rfl rfl (fun w0 => ?_)
 refine WC.seq (WC.region (W.as (W.nil (thn_n (WC.seq (WC.seq (WC.region (W.mv (W.ok (ok_eqlNil sl31 rfl rfl) (W.nil (thn_n ?_)))))))))))
 refine WC.cond (b := _) rfl (fun h4 => ?_) (fun h4 => ?_)
 ·have hn := SlR.isNone h_a h4
  subst hn
  refine WC.seq (WC.region (W.as (W.nil (thn_n (WC.ret (thn_r ?_))))))
  refine ⟨.inr rfl, [_], ⟨rfl, trivial⟩, [], sn9, ?_⟩
  exact OwnR.nil
 refine WC.skip (thn_n (WC.seq (WC.region (W.lit0 (e := ePair) sl31 ty71 zr71 rfl (fun v7 Ms8 ho9 => (W.mv (W.app (e := ePair) sl31 ty71 zr71 rfl by71 rfl rfl (ho9) (h_a) pr9 (by simpa using ha) (fun v10 Ms11 ho12 => (W.as (W.nil (thn_n (WC.ret ?_))))))))))))
 refine ⟨.inr rfl, [_], ⟨rfl, trivial⟩, Ms11, List.sublist_append_left _ _, ?_⟩
 have h := ho12
 rw [List.nil_append] at h
 exact h

theorem ncopyO_fc {G : GH} {cs_a : List Value} {a : Nd} (h_a : NodeC G cs_a a) :
    Fc Try.prog 85 [.agg (List.toArray cs_a)] G [] (fun v G' M' => ∃ cs, v = .agg (List.toArray cs) ∧ NodeO 3 71 G' cs a M') := by
 obtain ⟨pa_a, pc_a, ka_a, kc_a, ma_a, mc_a, ra_a, rc_a, rfl, hp_a, hk_a, hm_a, hr_a, hok_a⟩ := h_a
 refine Fc.intro (rs := [.cell 2 35]) cl85 Try.func85 rfl Try.ntmps85 rfl rfl (fun w0 => ?_)
 refine WC.seq (WC.region (W.box (L := (nd9 _ _ _ _ _ _ _ _ _ _ _ _ _ _ _ _ _ _)) rfl rfl (fun b13 => (W.alloc zr35 (fun b14 => (W.nil (thn_n (WC.seq (WC.drawW _ ((sr9.cons _).k9) mix (by rintro _ _ _ _ ⟨h | h, _⟩ <;> cases h) (WD.tk 0 rfl (ok_fieldB fd35_2 rfl) (WD.tk 3 rfl (ok_fieldB fd35_3 rfl) ?_)))))))))))
 refine WD.any [1, 4] (by kernel_rfl) rfl ⟨⟨_, rfl, rfl, ?_⟩, ⟨_, rfl, rfl, ?_⟩, trivial⟩
 ·refine W.ok (ok_loadB (i := 1) (vs := [.slice _ _ _]) ty32 rfl rfl rfl rfl (by simp)) (W.nil (WD.n9 Le.rfl ((sr9.cons _).k9) ?_))
  refine WD.any [2, 4] (by kernel_rfl) rfl ⟨⟨_, rfl, rfl, ?_⟩, ⟨_, rfl, rfl, ?_⟩, trivial⟩
  ·refine W.call (Mp := []) (clones3_fc hp_a) rfl pr9 ?_
   intro _ G15 _ hG15 q17
   refine match q17 with | ⟨e_18, _, e_19, hv16⟩ => ?_
   subst e_18
   subst e_19
   have q21 := hv16.form
   refine match q21 with | ⟨sa_hv16, sc_hv16, e_20⟩ => ?_
   subst e_20
   refine W.nil (WD.n9 hG15 ((sr9.cons _).k9) (WD.a1 4 rfl (W.ok (ok_loadB (i := 1) (vs := [.slice _ _ _]) ty30 rfl rfl rfl rfl (by simp)) (W.nil (WD.n9 Le.rfl ((sr9.cons _).k9) (WD.tk 6 rfl (ok_fieldB fd35_2 rfl) (WD.a1 5 rfl (W.call (Mp := []) (clonei25_fc (hk_a.mono hG15)) rfl pr9 ?_))))))))
   rintro v23 G22 Ms24 hG22 ho25
   refine W.perm (pmC (pmC pr9)).symm ?_
   have q29 := ho25.form
   refine match q29 with | ⟨sa26, sc27, e_28⟩ => ?_
   subst e_28
   refine W.nil (WD.n9 hG22 ((sn9.cons _).k9) (WD.a1 7 rfl (W.store (i := 1) (vs := [.slice _ _ _]) (L' := (nd9 _ _ _ _ _ _ _ _ _ _ _ _ _ _ _ _ _ _)) ty32 rfl rfl rfl rfl rfl rfl rfl rfl (W.nil (WD.n9 Le.rfl ((sn9.cons _).k9) (WD.tk 8 rfl (ok_fieldB fd35_3 rfl) (WD.a1 9 rfl (W.store (i := 1) (vs := [.slice _ _ _]) (L' := (nd9 _ _ _ _ _ _ _ _ _ _ _ _ _ _ _ _ _ _)) ty30 rfl rfl rfl rfl rfl rfl rfl rfl (W.nil (WD.n9 Le.rfl ((sn9.cons _).k9) (WD.done (by kernel_rfl) (thn_n (WC.seq (WC.drawW _ ((sr9.cons _).k9) mix (by rintro _ _ _ _ ⟨h | h, _⟩ <;> cases h) (WD.tk 0 rfl (ok_fieldB fd35_8 rfl) (WD.tk 3 rfl (ok_fieldB fd35_9 rfl) ?_))))))))))))))))
   refine WD.any [1, 4] (by kernel_rfl) rfl ⟨⟨_, rfl, rfl, ?_⟩, ⟨_, rfl, rfl, ?_⟩, trivial⟩
   ·refine W.ok (ok_loadB (i := 1) (vs := [.slice _ _ _]) ty33 rfl rfl rfl rfl (by simp)) (W.nil (WD.n9 Le.rfl ((sr9.cons _).k9) ?_))
    refine WD.any [2, 4] (by kernel_rfl) rfl ⟨⟨_, rfl, rfl, ?_⟩, ⟨_, rfl, rfl, ?_⟩, trivial⟩
    ·refine W.call (Mp := []) (clonem_fc (hm_a.mono (hG15.trans hG22))) rfl pr9 ?_
     intro _ G30 _ hG30 q32
     refine match q32 with | ⟨e_33, _, e_34, hv31⟩ => ?_
     subst e_33
     subst e_34
     have q36 := hv31.form
     refine match q36 with | ⟨sa_hv31, sc_hv31, e_35⟩ => ?_
     subst e_35
     refine W.nil (WD.n9 hG30 ((sr9.cons _).k9) (WD.a1 4 rfl (W.ok (ok_loadB (i := 1) (vs := [.slice _ _ _]) ty31 rfl rfl rfl rfl (by simp)) (W.nil (WD.n9 Le.rfl ((sr9.cons _).k9) (WD.tk 6 rfl (ok_fieldB fd35_8 rfl) (WD.a1 5 rfl (W.call (Mp := []) (clonep25_fc (hr_a.mono ((hG15.trans hG22).trans hG30))) rfl pr9 ?_))))))))
     rintro v38 G37 Ms39 hG37 ho40
     refine W.perm (pmC (pmC pr9)).symm ?_
     have q44 := ho40.form
     refine match q44 with | ⟨sa41, sc42, e_43⟩ => ?_
     subst e_43
     refine W.nil (WD.n9 hG37 (((sr9.trans (List.sublist_append_right _ _)).cons _).k9) (WD.a1 7 rfl (W.store (i := 1) (vs := [.slice _ _ _]) (L' := (nd9 _ _ _ _ _ _ _ _ _ _ _ _ _ _ _ _ _ _)) ty33 rfl rfl rfl rfl rfl rfl rfl rfl (W.nil (WD.n9 Le.rfl (((sr9.trans (List.sublist_append_right _ _)).cons _).k9) (WD.tk 8 rfl (ok_fieldB fd35_9 rfl) (WD.a1 9 rfl (W.store (i := 1) (vs := [.slice _ _ _]) (L' := (nd9 _ _ _ _ _ _ _ _ _ _ _ _ _ _ _ _ _ _)) ty31 rfl rfl rfl rfl rfl rfl rfl rfl (W.nil (WD.n9 Le.rfl (((sr9.trans (List.sublist_append_right _ _)).cons _).k9) (WD.done (by kernel_rfl) (thn_n (WC.seq (WC.region (W.ok (ok_loadB (i := 1) (vs := (nd9 _ _ _ _ _ _ _ _ _ _ _ _ _ _ _ _ _ _)) ty35 rfl rfl rfl rfl (by simp)) (W.store (i := 0) (vs := (nd9 _ _ _ _ _ _ _ _ _ _ _ _ _ _ _ _ _ _)) (L' := (nd9 _ _ _ _ _ _ _ _ _ _ _ _ _ _ _ _ _ _)) ty35 rfl rfl rfl rfl rfl rfl rfl rfl (W.nil (thn_n ?_))))))))))))))))))
     refine WC.ret ?_
     refine ⟨.inr rfl, [_], ⟨⟨_, _, _, _, _, rfl, nthM_mem (i := 0) rfl, ty35, (by simp), rfl, rfl⟩, trivial⟩, (Ms39 ++ Ms24), (((List.Sublist.append_left (List.sublist_append_left _ _) _)).cons _).cons _, ?_⟩
     exact ⟨_, rfl, _, _, _, _, _, _, _, _, rfl, rfl, (hv16.mono ((hG22.trans hG30).trans hG37)), (ho25.mono (hG30.trans hG37)), (hv31.mono hG37), ho40⟩
    refine W.ok (ok_loadB (i := 1) (vs := [.slice _ _ _]) ty31 rfl rfl rfl rfl (by simp)) (W.nil (WD.n9 Le.rfl ((sr9.cons _).k9) (WD.a1 2 rfl (W.call (Mp := []) (clonem_fc (hm_a.mono (hG15.trans hG22))) rfl pr9 ?_))))
    intro _ G45 _ hG45 q47
    refine match q47 with | ⟨e_48, _, e_49, hv46⟩ => ?_
    subst e_48
    subst e_49
    have q51 := hv46.form
    refine match q51 with | ⟨sa_hv46, sc_hv46, e_50⟩ => ?_
    subst e_50
    refine W.nil (WD.n9 hG45 ((sr9.cons _).k9) (WD.tk 6 rfl (ok_fieldB fd35_8 rfl) (WD.a1 5 rfl (W.call (Mp := []) (clonep25_fc (hr_a.mono ((hG15.trans hG22).trans hG45))) rfl pr9 ?_))))
    rintro v53 G52 Ms54 hG52 ho55
    refine W.perm (pmC (pmC pr9)).symm ?_
    have q59 := ho55.form
    refine match q59 with | ⟨sa56, sc57, e_58⟩ => ?_
    subst e_58
    refine W.nil (WD.n9 hG52 (((sr9.trans (List.sublist_append_right _ _)).cons _).k9) (WD.a1 7 rfl (W.store (i := 1) (vs := [.slice _ _ _]) (L' := (nd9 _ _ _ _ _ _ _ _ _ _ _ _ _ _ _ _ _ _)) ty33 rfl rfl rfl rfl rfl rfl rfl rfl (W.nil (WD.n9 Le.rfl (((sr9.trans (List.sublist_append_right _ _)).cons _).k9) (WD.tk 8 rfl (ok_fieldB fd35_9 rfl) (WD.a1 9 rfl (W.store (i := 1) (vs := [.slice _ _ _]) (L' := (nd9 _ _ _ _ _ _ _ _ _ _ _ _ _ _ _ _ _ _)) ty31 rfl rfl rfl rfl rfl rfl rfl rfl (W.nil (WD.n9 Le.rfl (((sr9.trans (List.sublist_append_right _ _)).cons _).k9) (WD.done (by kernel_rfl) (thn_n (WC.seq (WC.region (W.ok (ok_loadB (i := 1) (vs := (nd9 _ _ _ _ _ _ _ _ _ _ _ _ _ _ _ _ _ _)) ty35 rfl rfl rfl rfl (by simp)) (W.store (i := 0) (vs := (nd9 _ _ _ _ _ _ _ _ _ _ _ _ _ _ _ _ _ _)) (L' := (nd9 _ _ _ _ _ _ _ _ _ _ _ _ _ _ _ _ _ _)) ty35 rfl rfl rfl rfl rfl rfl rfl rfl (W.nil (thn_n ?_))))))))))))))))))
    refine WC.ret ?_
    refine ⟨.inr rfl, [_], ⟨⟨_, _, _, _, _, rfl, nthM_mem (i := 0) rfl, ty35, (by simp), rfl, rfl⟩, trivial⟩, (Ms54 ++ Ms24), (((List.Sublist.append_left (List.sublist_append_left _ _) _)).cons _).cons _, ?_⟩
    exact ⟨_, rfl, _, _, _, _, _, _, _, _, rfl, rfl, (hv16.mono ((hG22.trans hG45).trans hG52)), (ho25.mono (hG45.trans hG52)), (hv46.mono hG52), ho55⟩
   refine W.ok (ok_loadB (i := 1) (vs := [.slice _ _ _]) ty31 rfl rfl rfl rfl (by simp)) (W.nil (WD.n9 Le.rfl ((sr9.cons _).k9) (WD.a1 1 rfl (W.ok (ok_loadB (i := 1) (vs := [.slice _ _ _]) ty33 rfl rfl rfl rfl (by simp)) (W.nil (WD.n9 Le.rfl ((sr9.cons _).k9) (WD.a1 2 rfl (W.call (Mp := []) (clonem_fc (hm_a.mono (hG15.trans hG22))) rfl pr9 ?_))))))))
   intro _ G60 _ hG60 q62
   refine match q62 with | ⟨e_63, _, e_64, hv61⟩ => ?_
   subst e_63
   subst e_64
   have q66 := hv61.form
   refine match q66 with | ⟨sa_hv61, sc_hv61, e_65⟩ => ?_
   subst e_65
   refine W.nil (WD.n9 hG60 ((sr9.cons _).k9) (WD.tk 6 rfl (ok_fieldB fd35_8 rfl) (WD.a1 5 rfl (W.call (Mp := []) (clonep25_fc (hr_a.mono ((hG15.trans hG22).trans hG60))) rfl pr9 ?_))))
   rintro v68 G67 Ms69 hG67 ho70
   refine W.perm (pmC (pmC pr9)).symm ?_
   have q74 := ho70.form
   refine match q74 with | ⟨sa71, sc72, e_73⟩ => ?_
   subst e_73
   refine W.nil (WD.n9 hG67 (((sr9.trans (List.sublist_append_right _ _)).cons _).k9) (WD.a1 7 rfl (W.store (i := 1) (vs := [.slice _ _ _]) (L' := (nd9 _ _ _ _ _ _ _ _ _ _ _ _ _ _ _ _ _ _)) ty33 rfl rfl rfl rfl rfl rfl rfl rfl (W.nil (WD.n9 Le.rfl (((sr9.trans (List.sublist_append_right _ _)).cons _).k9) (WD.tk 8 rfl (ok_fieldB fd35_9 rfl) (WD.a1 9 rfl (W.store (i := 1) (vs := [.slice _ _ _]) (L' := (nd9 _ _ _ _ _ _ _ _ _ _ _ _ _ _ _ _ _ _)) ty31 rfl rfl rfl rfl rfl rfl rfl rfl (W.nil (WD.n9 Le.rfl (((sr9.trans (List.sublist_append_right _ _)).cons _).k9) (WD.done (by kernel_rfl) (thn_n (WC.seq (WC.region (W.ok (ok_loadB (i := 1) (vs := (nd9 _ _ _ _ _ _ _ _ _ _ _ _ _ _ _ _ _ _)) ty35 rfl rfl rfl rfl (by simp)) (W.store (i := 0) (vs := (nd9 _ _ _ _ _ _ _ _ _ _ _ _ _ _ _ _ _ _)) (L' := (nd9 _ _ _ _ _ _ _ _ _ _ _ _ _ _ _ _ _ _)) ty35 rfl rfl rfl rfl rfl rfl rfl rfl (W.nil (thn_n ?_))))))))))))))))))
   refine WC.ret ?_
   refine ⟨.inr rfl, [_], ⟨⟨_, _, _, _, _, rfl, nthM_mem (i := 0) rfl, ty35, (by simp), rfl, rfl⟩, trivial⟩, (Ms69 ++ Ms24), (((List.Sublist.append_left (List.sublist_append_left _ _) _)).cons _).cons _, ?_⟩
   exact ⟨_, rfl, _, _, _, _, _, _, _, _, rfl, rfl, (hv16.mono ((hG22.trans hG60).trans hG67)), (ho25.mono (hG60.trans hG67)), (hv61.mono hG67), ho70⟩
  refine W.ok (ok_loadB (i := 1) (vs := [.slice _ _ _]) ty30 rfl rfl rfl rfl (by simp)) (W.nil (WD.n9 Le.rfl ((sr9.cons _).k9) (WD.a1 2 rfl (W.call (Mp := []) (clones3_fc hp_a) rfl pr9 ?_))))
  intro _ G75 _ hG75 q77
  refine match q77 with | ⟨e_78, _, e_79, hv76⟩ => ?_
  subst e_78
  subst e_79
  have q81 := hv76.form
  refine match q81 with | ⟨sa_hv76, sc_hv76, e_80⟩ => ?_
  subst e_80
  refine W.nil (WD.n9 hG75 ((sr9.cons _).k9) (WD.tk 6 rfl (ok_fieldB fd35_2 rfl) (WD.a1 5 rfl (W.call (Mp := []) (clonei25_fc (hk_a.mono hG75)) rfl pr9 ?_))))
  rintro v83 G82 Ms84 hG82 ho85
  refine W.perm (pmC (pmC pr9)).symm ?_
  have q89 := ho85.form
  refine match q89 with | ⟨sa86, sc87, e_88⟩ => ?_
  subst e_88
  refine W.nil (WD.n9 hG82 ((sn9.cons _).k9) (WD.a1 7 rfl (W.store (i := 1) (vs := [.slice _ _ _]) (L' := (nd9 _ _ _ _ _ _ _ _ _ _ _ _ _ _ _ _ _ _)) ty32 rfl rfl rfl rfl rfl rfl rfl rfl (W.nil (WD.n9 Le.rfl ((sn9.cons _).k9) (WD.tk 8 rfl (ok_fieldB fd35_3 rfl) (WD.a1 9 rfl (W.store (i := 1) (vs := [.slice _ _ _]) (L' := (nd9 _ _ _ _ _ _ _ _ _ _ _ _ _ _ _ _ _ _)) ty30 rfl rfl rfl rfl rfl rfl rfl rfl (W.nil (WD.n9 Le.rfl ((sn9.cons _).k9) (WD.done (by kernel_rfl) (thn_n (WC.seq (WC.drawW _ ((sr9.cons _).k9) mix (by rintro _ _ _ _ ⟨h | h, _⟩ <;> cases h) (WD.tk 0 rfl (ok_fieldB fd35_8 rfl) (WD.tk 3 rfl (ok_fieldB fd35_9 rfl) ?_))))))))))))))))
  refine WD.any [1, 4] (by kernel_rfl) rfl ⟨⟨_, rfl, rfl, ?_⟩, ⟨_, rfl, rfl, ?_⟩, trivial⟩
  ·refine W.ok (ok_loadB (i := 1) (vs := [.slice _ _ _]) ty33 rfl rfl rfl rfl (by simp)) (W.nil (WD.n9 Le.rfl ((sr9.cons _).k9) ?_))
   refine WD.any [2, 4] (by kernel_rfl) rfl ⟨⟨_, rfl, rfl, ?_⟩, ⟨_, rfl, rfl, ?_⟩, trivial⟩
   ·refine W.call (Mp := []) (clonem_fc (hm_a.mono (hG75.trans hG82))) rfl pr9 ?_
    intro _ G90 _ hG90 q92
    refine match q92 with | ⟨e_93, _, e_94, hv91⟩ => ?_
    subst e_93
    subst e_94
    have q96 := hv91.form
    refine match q96 with | ⟨sa_hv91, sc_hv91, e_95⟩ => ?_
    subst e_95
    refine W.nil (WD.n9 hG90 ((sr9.cons _).k9) (WD.a1 4 rfl (W.ok (ok_loadB (i := 1) (vs := [.slice _ _ _]) ty31 rfl rfl rfl rfl (by simp)) (W.nil (WD.n9 Le.rfl ((sr9.cons _).k9) (WD.tk 6 rfl (ok_fieldB fd35_8 rfl) (WD.a1 5 rfl (W.call (Mp := []) (clonep25_fc (hr_a.mono ((hG75.trans hG82).trans hG90))) rfl pr9 ?_))))))))
    rintro v98 G97 Ms99 hG97 ho100
    refine W.perm (pmC (pmC pr9)).symm ?_
    have q104 := ho100.form
    refine match q104 with | ⟨sa101, sc102, e_103⟩ => ?_
    subst e_103
    refine W.nil (WD.n9 hG97 (((sr9.trans (List.sublist_append_right _ _)).cons _).k9) (WD.a1 7 rfl (W.store (i := 1) (vs := [.slice _ _ _]) (L' := (nd9 _ _ _ _ _ _ _ _ _ _ _ _ _ _ _ _ _ _)) ty33 rfl rfl rfl rfl rfl rfl rfl rfl (W.nil (WD.n9 Le.rfl (((sr9.trans (List.sublist_append_right _ _)).cons _).k9) (WD.tk 8 rfl (ok_fieldB fd35_9 rfl) (WD.a1 9 rfl (W.store (i := 1) (vs := [.slice _ _ _]) (L' := (nd9 _ _ _ _ _ _ _ _ _ _ _ _ _ _ _ _ _ _)) ty31 rfl rfl rfl rfl rfl rfl rfl rfl (W.nil (WD.n9 Le.rfl (((sr9.trans (List.sublist_append_right _ _)).cons _).k9) (WD.done (by kernel_rfl) (thn_n (WC.seq (WC.region (W.ok (ok_loadB (i := 1) (vs := (nd9 _ _ _ _ _ _ _ _ _ _ _ _ _ _ _ _ _ _)) ty35 rfl rfl rfl rfl (by simp)) (W.store (i := 0) (vs := (nd9 _ _ _ _ _ _ _ _ _ _ _ _ _ _ _ _ _ _)) (L' := (nd9 _ _ _ _ _ _ _ _ _ _ _ _ _ _ _ _ _ _)) ty35 rfl rfl rfl rfl rfl rfl rfl rfl (W.nil (thn_n ?_))))))))))))))))))
    refine WC.ret ?_
    refine ⟨.inr rfl, [_], ⟨⟨_, _, _, _, _, rfl, nthM_mem (i := 0) rfl, ty35, (by simp), rfl, rfl⟩, trivial⟩, (Ms99 ++ Ms84), (((List.Sublist.append_left (List.sublist_append_left _ _) _)).cons _).cons _, ?_⟩
    exact ⟨_, rfl, _, _, _, _, _, _, _, _, rfl, rfl, (hv76.mono ((hG82.trans hG90).trans hG97)), (ho85.mono (hG90.trans hG97)), (hv91.mono hG97), ho100⟩
   refine W.ok (ok_loadB (i := 1) (vs := [.slice _ _ _]) ty31 rfl rfl rfl rfl (by simp)) (W.nil (WD.n9 Le.rfl ((sr9.cons _).k9) (WD.a1 2 rfl (W.call (Mp := []) (clonem_fc (hm_a.mono (hG75.trans hG82))) rfl pr9 ?_))))
   intro _ G105 _ hG105 q107
   refine match q107 with | ⟨e_108, _, e_109, hv106⟩ => ?_
   subst e_108
   subst e_109
   have q111 := hv106.form
   refine match q111 with | ⟨sa_hv106, sc_hv106, e_110⟩ => ?_
   subst e_110
   refine W.nil (WD.n9 hG105 ((sr9.cons _).k9) (WD.tk 6 rfl (ok_fieldB fd35_8 rfl) (WD.a1 5 rfl (W.call (Mp := []) (clonep25_fc (hr_a.mono ((hG75.trans hG82).trans hG105))) rfl pr9 ?_))))
   rintro v113 G112 Ms114 hG112 ho115
   refine W.perm (pmC (pmC pr9)).symm ?_
   have q119 := ho115.form
   refine match q119 with | ⟨sa116, sc117, e_118⟩ => ?_
   subst e_118
   refine W.nil (WD.n9 hG112 (((sr9.trans (List.sublist_append_right _ _)).cons _).k9) (WD.a1 7 rfl (W.store (i := 1) (vs := [.slice _ _ _]) (L' := (nd9 _ _ _ _ _ _ _ _ _ _ _ _ _ _ _ _ _ _)) ty33 rfl rfl rfl rfl rfl rfl rfl rfl (W.nil (WD.n9 Le.rfl (((sr9.trans (List.sublist_append_right _ _)).cons _).k9) (WD.tk 8 rfl (ok_fieldB fd35_9 rfl) (WD.a1 9 rfl (W.store (i := 1) (vs := [.slice _ _ _]) (L' := (nd9 _ _ _ _ _ _ _ _ _ _ _ _ _ _ _ _ _ _)) ty31 rfl rfl rfl rfl rfl rfl rfl rfl (W.nil (WD.n9 Le.rfl (((sr9.trans (List.sublist_append_right _ _)).cons _).k9) (WD.done (by kernel_rfl) (thn_n (WC.seq (WC.region (W.ok (ok_loadB (i := 1) (vs := (nd9 _ _ _ _ _ _ _ _ _ _ _ _ _ _ _ _ _ _)) ty35 rfl rfl rfl rfl (by simp)) (W.store (i := 0) (vs := (nd9 _ _ _ _ _ _ _ _ _ _ _ _ _ _ _ _ _ _)) (L' := (nd9 _ _ _ _ _ _ _ _ _ _ _ _ _ _ _ _ _ _)) ty35 rfl rfl rfl rfl rfl rfl rfl rfl (W.nil (thn_n ?_))))))))))))))))))
   refine WC.ret ?_
   refine ⟨.inr rfl, [_], ⟨⟨_, _, _, _, _, rfl, nthM_mem (i := 0) rfl, ty35, (by simp), rfl, rfl⟩, trivial⟩, (Ms114 ++ Ms84), (((List.Sublist.append_left (List.sublist_append_left _ _) _)).cons _).cons _, ?_⟩
   exact ⟨_, rfl, _, _, _, _, _, _, _, _, rfl, rfl, (hv76.mono ((hG82.trans hG105).trans hG112)), (ho85.mono (hG105.trans hG112)), (hv106.mono hG112), ho115⟩
  refine W.ok (ok_loadB (i := 1) (vs := [.slice _ _ _]) ty31 rfl rfl rfl rfl (by simp)) (W.nil (WD.n9 Le.rfl ((sr9.cons _).k9) (WD.a1 1 rfl (W.ok (ok_loadB (i := 1) (vs := [.slice _ _ _]) ty33 rfl rfl rfl rfl (by simp)) (W.nil (WD.n9 Le.rfl ((sr9.cons _).k9) (WD.a1 2 rfl (W.call (Mp := []) (clonem_fc (hm_a.mono (hG75.trans hG82))) rfl pr9 ?_))))))))
  intro _ G120 _ hG120 q122
  refine match q122 with | ⟨e_123, _, e_124, hv121⟩ => ?_
  subst e_123
  subst e_124
  have q126 := hv121.form
  refine match q126 with | ⟨sa_hv121, sc_hv121, e_125⟩ => ?_
  subst e_125
  refine W.nil (WD.n9 hG120 ((sr9.cons _).k9) (WD.tk 6 rfl (ok_fieldB fd35_8 rfl) (WD.a1 5 rfl (W.call (Mp := []) (clonep25_fc (hr_a.mono ((hG75.trans hG82).trans hG120))) rfl pr9 ?_))))
  rintro v128 G127 Ms129 hG127 ho130
  refine W.perm (pmC (pmC pr9)).symm ?_
  have q134 := ho130.form
  refine match q134 with | ⟨sa131, sc132, e_133⟩ => ?_
  subst e_133
  refine W.nil (WD.n9 hG127 (((sr9.trans (List.sublist_append_right _ _)).cons _).k9) (WD.a1 7 rfl (W.store (i := 1) (vs := [.slice _ _ _]) (L' := (nd9 _ _ _ _ _ _ _ _ _ _ _ _ _ _ _ _ _ _)) ty33 rfl rfl rfl rfl rfl rfl rfl rfl (W.nil (WD.n9 Le.rfl (((sr9.trans (List.sublist_append_right _ _)).cons _).k9) (WD.tk 8 rfl (ok_fieldB fd35_9 rfl) (WD.a1 9 rfl (W.store (i := 1) (vs := [.slice _ _ _]) (L' := (nd9 _ _ _ _ _ _ _ _ _ _ _ _ _ _ _ _ _ _)) ty31 rfl rfl rfl rfl rfl rfl rfl rfl (W.nil (WD.n9 Le.rfl (((sr9.trans (List.sublist_append_right _ _)).cons _).k9) (WD.done (by kernel_rfl) (thn_n (WC.seq (WC.region (W.ok (ok_loadB (i := 1) (vs := (nd9 _ _ _ _ _ _ _ _ _ _ _ _ _ _ _ _ _ _)) ty35 rfl rfl rfl rfl (by simp)) (W.store (i := 0) (vs := (nd9 _ _ _ _ _ _ _ _ _ _ _ _ _ _ _ _ _ _)) (L' := (nd9 _ _ _ _ _ _ _ _ _ _ _ _ _ _ _ _ _ _)) ty35 rfl rfl rfl rfl rfl rfl rfl rfl (W.nil (thn_n ?_))))))))))))))))))
  refine WC.ret ?_
  refine ⟨.inr rfl, [_], ⟨⟨_, _, _, _, _, rfl, nthM_mem (i := 0) rfl, ty35, (by simp), rfl, rfl⟩, trivial⟩, (Ms129 ++ Ms84), (((List.Sublist.append_left (List.sublist_append_left _ _) _)).cons _).cons _, ?_⟩
  exact ⟨_, rfl, _, _, _, _, _, _, _, _, rfl, rfl, (hv76.mono ((hG82.trans hG120).trans hG127)), (ho85.mono (hG120.trans hG127)), (hv121.mono hG127), ho130⟩
 refine W.ok (ok_loadB (i := 1) (vs := [.slice _ _ _]) ty30 rfl rfl rfl rfl (by simp)) (W.nil (WD.n9 Le.rfl ((sr9.cons _).k9) (WD.a1 1 rfl (W.ok (ok_loadB (i := 1) (vs := [.slice _ _ _]) ty32 rfl rfl rfl rfl (by simp)) (W.nil (WD.n9 Le.rfl ((sr9.cons _).k9) (WD.a1 2 rfl (W.call (Mp := []) (clones3_fc hp_a) rfl pr9 ?_))))))))
 intro _ G135 _ hG135 q137
 refine match q137 with | ⟨e_138, _, e_139, hv136⟩ => ?_
 subst e_138
 subst e_139
 have q141 := hv136.form
 refine match q141 with | ⟨sa_hv136, sc_hv136, e_140⟩ => ?_
 subst e_140
 refine W.nil (WD.n9 hG135 ((sr9.cons _).k9) (WD.tk 6 rfl (ok_fieldB fd35_2 rfl) (WD.a1 5 rfl (W.call (Mp := []) (clonei25_fc (hk_a.mono hG135)) rfl pr9 ?_))))
 rintro v143 G142 Ms144 hG142 ho145
 refine W.perm (pmC (pmC pr9)).symm ?_
 have q149 := ho145.form
 refine match q149 with | ⟨sa146, sc147, e_148⟩ => ?_
 subst e_148
 refine W.nil (WD.n9 hG142 ((sn9.cons _).k9) (WD.a1 7 rfl (W.store (i := 1) (vs := [.slice _ _ _]) (L' := (nd9 _ _ _ _ _ _ _ _ _ _ _ _ _ _ _ _ _ _)) ty32 rfl rfl rfl rfl rfl rfl rfl rfl (W.nil (WD.n9 Le.rfl ((sn9.cons _).k9) (WD.tk 8 rfl (ok_fieldB fd35_3 rfl) (WD.a1 9 rfl (W.store (i := 1) (vs := [.slice _ _ _]) (L' := (nd9 _ _ _ _ _ _ _ _ _ _ _ _ _ _ _ _ _ _)) ty30 rfl rfl rfl rfl rfl rfl rfl rfl (W.nil (WD.n9 Le.rfl ((sn9.cons _).k9) (WD.done (by kernel_rfl) (thn_n (WC.seq (WC.drawW _ ((sr9.cons _).k9) mix (by rintro _ _ _ _ ⟨h | h, _⟩ <;> cases h) (WD.tk 0 rfl (ok_fieldB fd35_8 rfl) (WD.tk 3 rfl (ok_fieldB fd35_9 rfl) ?_))))))))))))))))
 refine WD.any [1, 4] (by kernel_rfl) rfl ⟨⟨_, rfl, rfl, ?_⟩, ⟨_, rfl, rfl, ?_⟩, trivial⟩
 ·refine W.ok (ok_loadB (i := 1) (vs := [.slice _ _ _]) ty33 rfl rfl rfl rfl (by simp)) (W.nil (WD.n9 Le.rfl ((sr9.cons _).k9) ?_))
  refine WD.any [2, 4] (by kernel_rfl) rfl ⟨⟨_, rfl, rfl, ?_⟩, ⟨_, rfl, rfl, ?_⟩, trivial⟩
  ·refine W.call (Mp := []) (clonem_fc (hm_a.mono (hG135.trans hG142))) rfl pr9 ?_
   intro _ G150 _ hG150 q152
   refine match q152 with | ⟨e_153, _, e_154, hv151⟩ => ?_
   subst e_153
   subst e_154
   have q156 := hv151.form
   refine match q156 with | ⟨sa_hv151, sc_hv151, e_155⟩ => ?_
   subst e_155
   refine W.nil (WD.n9 hG150 ((sr9.cons _).k9) (WD.a1 4 rfl (W.ok (ok_loadB (i := 1) (vs := [.slice _ _ _]) ty31 rfl rfl rfl rfl (by simp)) (W.nil (WD.n9 Le.rfl ((sr9.cons _).k9) (WD.tk 6 rfl (ok_fieldB fd35_8 rfl) (WD.a1 5 rfl (W.call (Mp := []) (clonep25_fc (hr_a.mono ((hG135.trans hG142).trans hG150))) rfl pr9 ?_))))))))
   rintro v158 G157 Ms159 hG157 ho160
   refine W.perm (pmC (pmC pr9)).symm ?_
   have q164 := ho160.form
   refine match q164 with | ⟨sa161, sc162, e_163⟩ => ?_
   subst e_163
   refine W.nil (WD.n9 hG157 (((sr9.trans (List.sublist_append_right _ _)).cons _).k9) (WD.a1 7 rfl (W.store (i := 1) (vs := [.slice _ _ _]) (L' := (nd9 _ _ _ _ _ _ _ _ _ _ _ _ _ _ _ _ _ _)) ty33 rfl rfl rfl rfl rfl rfl rfl rfl (W.nil (WD.n9 Le.rfl (((sr9.trans (List.sublist_append_right _ _)).cons _).k9) (WD.tk 8 rfl (ok_fieldB fd35_9 rfl) (WD.a1 9 rfl (W.store (i := 1) (vs := [.slice _ _ _]) (L' := (nd9 _ _ _ _ _ _ _ _ _ _ _ _ _ _ _ _ _ _)) ty31 rfl rfl rfl rfl rfl rfl rfl rfl (W.nil (WD.n9 Le.rfl (((sr9.trans (List.sublist_append_right _ _)).cons _).k9) (WD.done (by kernel_rfl) (thn_n (WC.seq (WC.region (W.ok (ok_loadB (i := 1) (vs := (nd9 _ _ _ _ _ _ _ _ _ _ _ _ _ _ _ _ _ _)) ty35 rfl rfl rfl rfl (by simp)) (W.store (i := 0) (vs := (nd9 _ _ _ _ _ _ _ _ _ _ _ _ _ _ _ _ _ _)) (L' := (nd9 _ _ _ _ _ _ _ _ _ _ _ _ _ _ _ _ _ _)) ty35 rfl rfl rfl rfl rfl rfl rfl rfl (W.nil (thn_n ?_))))))))))))))))))
   refine WC.ret ?_
   refine ⟨.inr rfl, [_], ⟨⟨_, _, _, _, _, rfl, nthM_mem (i := 0) rfl, ty35, (by simp), rfl, rfl⟩, trivial⟩, (Ms159 ++ Ms144), (((List.Sublist.append_left (List.sublist_append_left _ _) _)).cons _).cons _, ?_⟩
   exact ⟨_, rfl, _, _, _, _, _, _, _, _, rfl, rfl, (hv136.mono ((hG142.trans hG150).trans hG157)), (ho145.mono (hG150.trans hG157)), (hv151.mono hG157), ho160⟩
  refine W.ok (ok_loadB (i := 1) (vs := [.slice _ _ _]) ty31 rfl rfl rfl rfl (by simp)) (W.nil (WD.n9 Le.rfl ((sr9.cons _).k9) (WD.a1 2 rfl (W.call (Mp := []) (clonem_fc (hm_a.mono (hG135.trans hG142))) rfl pr9 ?_))))
  intro _ G165 _ hG165 q167
  refine match q167 with | ⟨e_168, _, e_169, hv166⟩ => ?_
  subst e_168
  subst e_169
  have q171 := hv166.form
  refine match q171 with | ⟨sa_hv166, sc_hv166, e_170⟩ => ?_
  subst e_170
  refine W.nil (WD.n9 hG165 ((sr9.cons _).k9) (WD.tk 6 rfl (ok_fieldB fd35_8 rfl) (WD.a1 5 rfl (W.call (Mp := []) (clonep25_fc (hr_a.mono ((hG135.trans hG142).trans hG165))) rfl pr9 ?_))))
  rintro v173 G172 Ms174 hG172 ho175
  refine W.perm (pmC (pmC pr9)).symm ?_
  have q179 := ho175.form
  refine match q179 with | ⟨sa176, sc177, e_178⟩ => ?_
  subst e_178
  refine W.nil (WD.n9 hG172 (((sr9.trans (List.sublist_append_right _ _)).cons _).k9) (WD.a1 7 rfl (W.store (i := 1) (vs := [.slice _ _ _]) (L' := (nd9 _ _ _ _ _ _ _ _ _ _ _ _ _ _ _ _ _ _)) ty33 rfl rfl rfl rfl rfl rfl rfl rfl (W.nil (WD.n9 Le.rfl (((sr9.trans (List.sublist_append_right _ _)).cons _).k9) (WD.tk 8 rfl (ok_fieldB fd35_9 rfl) (WD.a1 9 rfl (W.store (i := 1) (vs := [.slice _ _ _]) (L' := (nd9 _ _ _ _ _ _ _ _ _ _ _ _ _ _ _ _ _ _)) ty31 rfl rfl rfl rfl rfl rfl rfl rfl (W.nil (WD.n9 Le.rfl (((sr9.trans (List.sublist_append_right _ _)).cons _).k9) (WD.done (by kernel_rfl) (thn_n (WC.seq (WC.region (W.ok (ok_loadB (i := 1) (vs := (nd9 _ _ _ _ _ _ _ _ _ _ _ _ _ _ _ _ _ _)) ty35 rfl rfl rfl rfl (by simp)) (W.store (i := 0) (vs := (nd9 _ _ _ _ _ _ _ _ _ _ _ _ _ _ _ _ _ _)) (L' := (nd9 _ _ _ _ _ _ _ _ _ _ _ _ _ _ _ _ _ _)) ty35 rfl rfl rfl rfl rfl rfl rfl rfl (W.nil (thn_n ?_))))))))))))))))))
  refine WC.ret ?_
  refine ⟨.inr rfl, [_], ⟨⟨_, _, _, _, _, rfl, nthM_mem (i := 0) rfl, ty35, (by simp), rfl, rfl⟩, trivial⟩, (Ms174 ++ Ms144), (((List.Sublist.append_left (List.sublist_append_left _ _) _)).cons _).cons _, ?_⟩
  exact ⟨_, rfl, _, _, _, _, _, _, _, _, rfl, rfl, (hv136.mono ((hG142.trans hG165).trans hG172)), (ho145.mono (hG165.trans hG172)), (hv166.mono hG172), ho175⟩
 refine W.ok (ok_loadB (i := 1) (vs := [.slice _ _ _]) ty31 rfl rfl rfl rfl (by simp)) (W.nil (WD.n9 Le.rfl ((sr9.cons _).k9) (WD.a1 1 rfl (W.ok (ok_loadB (i := 1) (vs := [.slice _ _ _]) ty33 rfl rfl rfl rfl (by simp)) (W.nil (WD.n9 Le.rfl ((sr9.cons _).k9) (WD.a1 2 rfl (W.call (Mp := []) (clonem_fc (hm_a.mono (hG135.trans hG142))) rfl pr9 ?_))))))))
 intro _ G180 _ hG180 q182
 refine match q182 with | ⟨e_183, _, e_184, hv181⟩ => ?_
 subst e_183
 subst e_184
 have q186 := hv181.form
 refine match q186 with | ⟨sa_hv181, sc_hv181, e_185⟩ => ?_
 subst e_185
 refine W.nil (WD.n9 hG180 ((sr9.cons _).k9) (WD.tk 6 rfl (ok_fieldB fd35_8 rfl) (WD.a1 5 rfl (W.call (Mp := []) (clonep25_fc (hr_a.mono ((hG135.trans hG142).trans hG180))) rfl pr9 ?_))))
 rintro v188 G187 Ms189 hG187 ho190
 refine W.perm (pmC (pmC pr9)).symm ?_
 have q194 := ho190.form
 refine match q194 with | ⟨sa191, sc192, e_193⟩ => ?_
 subst e_193
 refine W.nil (WD.n9 hG187 (((sr9.trans (List.sublist_append_right _ _)).cons _).k9) (WD.a1 7 rfl (W.store (i := 1) (vs := [.slice _ _ _]) (L' := (nd9 _ _ _ _ _ _ _ _ _ _ _ _ _ _ _ _ _ _)) ty33 rfl rfl rfl rfl rfl rfl rfl rfl (W.nil (WD.n9 Le.rfl (((sr9.trans (List.sublist_append_right _ _)).cons _).k9) (WD.tk 8 rfl (ok_fieldB fd35_9 rfl) (WD.a1 9 rfl (W.store (i := 1) (vs := [.slice _ _ _]) (L' := (nd9 _ _ _ _ _ _ _ _ _ _ _ _ _ _ _ _ _ _)) ty31 rfl rfl rfl rfl rfl rfl rfl rfl (W.nil (WD.n9 Le.rfl (((sr9.trans (List.sublist_append_right _ _)).cons _).k9) (WD.done (by kernel_rfl) (thn_n (WC.seq (WC.region (W.ok (ok_loadB (i := 1) (vs := (nd9 _ _ _ _ _ _ _ _ _ _ _ _ _ _ _ _ _ _)) ty35 rfl rfl rfl rfl (by simp)) (W.store (i := 0) (vs := (nd9 _ _ _ _ _ _ _ _ _ _ _ _ _ _ _ _ _ _)) (L' := (nd9 _ _ _ _ _ _ _ _ _ _ _ _ _ _ _ _ _ _)) ty35 rfl rfl rfl rfl rfl rfl rfl rfl (W.nil (thn_n ?_))))))))))))))))))
 refine WC.ret ?_
 refine ⟨.inr rfl, [_], ⟨⟨_, _, _, _, _, rfl, nthM_mem (i := 0) rfl, ty35, (by simp), rfl, rfl⟩, trivial⟩, (Ms189 ++ Ms144), (((List.Sublist.append_left (List.sublist_append_left _ _) _)).cons _).cons _, ?_⟩
 exact ⟨_, rfl, _, _, _, _, _, _, _, _, rfl, rfl, (hv136.mono ((hG142.trans hG180).trans hG187)), (ho145.mono (hG180.trans hG187)), (hv181.mono hG187), ho190⟩

end Go.Proofs.Ytmbafmifalppaaa
