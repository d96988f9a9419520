/- The law SweepScans is walked. -/
import Derived.Test.YtebkfinhhpelbaaGreatQvUi
namespace Go.Proofs.YtebkfinhhpelbaaGreat
open Go Go.Fw Go.RowKit
set_option maxRecDepth 100000
set_option maxHeartbeats 1600000
set_option linter.unusedVariables false
set_option linter.unusedSimpArgs false
set_option linter.unnecessarySimpa false
theorem sweepScans_fc {G : GH} (cfan : Int) (cleaf : Int) (cbud : Int) (cslots : Int) (crest : Int) {v_l : Value} {l : List Nd} (h_l : SlR eNode G v_l l) (xlo : Str) (xhi : Str) (xo : Bool) (n : Int) (hin : i64 n) :
    Fc Tryz.prog 10 [.agg #[.int .i64 cfan, .int .i64 cleaf, .int .i64 cbud, .int .i64 cslots, .int .i64 crest], v_l, .agg #[.string xlo.b, .string xhi.b, .bool xo], .int .i64 n] G [] (fun v _ _ => v = .bool (true)) := by
 obtain ⟨sa_l, sc_l, rfl⟩ := h_l.form
 have hl := h_l.len47
 refine Fc.intro (rs := [.tmp 8]) cl10 Tryz.func10 rfl Tryz.ntmps10 rfl rfl (fun w0 => ?_)
 refine WC.seq (WC.region (W.box (L := [.int .i64 _, .int .i64 _, .int .i64 _, .int .i64 _, .int .i64 _]) rfl rfl (fun b1 => (W.box (L := [.string _, .string _, .bool _]) rfl rfl (fun b2 => (W.as (W.nil (thn_n (WC.seq (WC.seq ?_))))))))))
 refine WC.region (W.ok (ok_loadB (i := 1) (vs := [.int .i64 _, .int .i64 _, .int .i64 _, .int .i64 _, .int .i64 _]) ty23 rfl rfl rfl rfl (by simp)) (W.mv (W.qcall (tree_fc _ _ _ _ _ h_l _ (by omega)) rfl (W.ok (ok_not rfl) (W.mv ?_)))))
 refine W.sp 16 rfl (fun h15 => ?_) (fun h15 => ?_)
 ·refine W.no (dj := 16) rfl rfl h15 (W.no (dj := 16) rfl rfl h15 (W.no (dj := 16) rfl rfl h15 (W.no (dj := 16) rfl rfl h15 (W.ok (ok_pick_t rfl h15) (W.nil (thn_n (WC.cond_t rfl rfl (WC.seq ?_))))))))
  refine WC.region (W.qcall (awk29_fc) rfl (W.as (W.nil (thn_n (WC.ret (thn_r ?_))))))
  refine ⟨.inr rfl, [_], ⟨rfl, trivial⟩, [], List.nil_sublist _, ?_⟩
  rfl
 ·obtain ⟨ss, t⟩ := tree_of (c := (⟨cfan, cleaf, cbud, cslots, crest⟩ : Cfg)) (by simpa using h15) (by omega : (60 : Int) ≤ 100)
  have hS := t.sml
  have hl100 := hS.1
  have hml := t.map_len
  refine W.yes (dj := 16) rfl rfl h15 (W.ok (ok_loadB (i := 0) (vs := [.string _, .string _, .bool _]) ty52 rfl rfl rfl rfl (by simp)) (W.yes (dj := 16) rfl rfl h15 (W.ok (ok_loadB (i := 0) (vs := [.string _, .string _, .bool _]) ty52 rfl rfl rfl rfl (by simp)) (W.yes (dj := 16) rfl rfl h15 (W.qcall (short_fc _ _ _ _ _ _ S_ _) rfl (W.yes (dj := 16) rfl rfl h15 (W.ok (ok_not rfl) ?_)))))))
  refine W.ok (ok_pick_f rfl h15) (W.nil (thn_n ?_))
  refine WC.cond (b := _) rfl (fun h20 => ?_) (fun h20 => ?_)
  ·refine WC.seq (WC.region (W.qcall (awk29_fc) rfl (W.as (W.nil (thn_n (WC.ret (thn_r ?_)))))))
   refine ⟨.inr rfl, [_], ⟨rfl, trivial⟩, [], List.nil_sublist _, ?_⟩
   rfl
  ·have hxs : xlo.b.size ≤ 300 ∧ xhi.b.size ≤ 300 := by simp at h20; omega
   refine WC.skip (thn_n (WC.seq (WC.region (W.ok (ok_loadB (i := 1) (vs := [.int .i64 _, .int .i64 _, .int .i64 _, .int .i64 _, .int .i64 _]) ty23 rfl rfl rfl rfl (by simp)) (W.mv (W.call (Mp := []) (gload_fc (cfan) (cleaf) (cbud) (cslots) (crest) h_l) rfl (List.Perm.refl _) ?_))))))
   intro v6 G3 Ms5 hG3 q4
   have q7 := or3 q4
   refine Or.elim q7 (fun q8 => ?_) (fun q9 => ?_)
   ·refine match q8 with | ⟨hnl, e_10, e_11⟩ => ?_
    subst e_10
    subst e_11
    exact absurd ⟨t.cfg, t.pos, placed_of t.slot⟩ hnl
   ·refine Or.elim q9 (fun q12 => ?_) (fun q13 => ?_)
    ·refine match q12 with | ⟨hOK, hnle, e_14, e_15⟩ => ?_
     subst e_14
     subst e_15
     exact absurd t.q.1.2.2 hnle
    ·refine match q13 with | ⟨hOK, hle, bSt, e_16, hS9⟩ => ?_
     subst e_16
     refine W.perm (pmC (pmC (List.Perm.refl _))).symm (W.mv (W.ok (ok_extract rfl rfl) (W.ok (ok_extract rfl rfl) (W.as (W.as (W.nil (thn_n (WC.seq ?_))))))))
     refine WC.region (W.mv (W.call (Mp := []) (map27_fc (h_l.mono hG3) _ _ t) rfl (List.Perm.refl _) ?_))
     intro _ G17 _ hG17 q19
     refine match q19 with | ⟨e_20, _, e_21, hv18⟩ => ?_
     subst e_20
     subst e_21
     have q23 := hv18.form
     refine match q23 with | ⟨sa_hv18, sc_hv18, e_22⟩ => ?_
     subst e_22
     refine W.as (W.nil (thn_n (WC.seq (WC.drawW _ (((List.nil_sublist _).cons_cons _).cons_cons _) mix (by rintro _ _ _ _ ⟨h | h, _⟩ <;> cases h) (WD.take 0 rfl rfl rfl (by kernel_rfl) (by kernel_rfl) (by kernel_rfl) (ok_mv) (WD.take 1 rfl rfl rfl (by kernel_rfl) (by kernel_rfl) (by kernel_rfl) (ok_eql rfl rfl) (WD.take 2 rfl rfl rfl (by kernel_rfl) (by kernel_rfl) (by kernel_rfl) (ok_mv) (WD.takeY 3 33 rfl rfl rfl rfl rfl rfl (by kernel_rfl) (by kernel_rfl) (by kernel_rfl) (ok_mv) ?_))))))))
     refine WD.takeY 4 33 rfl rfl rfl rfl rfl rfl (by kernel_rfl) (by kernel_rfl) (by kernel_rfl) (ok_loadB (i := 0) (vs := [.string _, .string _, .bool _]) ty52 rfl rfl rfl rfl (by simp)) (WD.takeY 5 33 rfl rfl rfl rfl rfl rfl (by kernel_rfl) (by kernel_rfl) (by kernel_rfl) (ok_mv) (WD.takeY 7 33 rfl rfl rfl rfl rfl rfl (by kernel_rfl) (by kernel_rfl) (by kernel_rfl) (ok_mv) (WD.takeY 8 33 rfl rfl rfl rfl rfl rfl (by kernel_rfl) (by kernel_rfl) (by kernel_rfl) (ok_loadB (i := 0) (vs := [.string _, .string _, .bool _]) ty52 rfl rfl rfl rfl (by simp)) (WD.takeY 9 33 rfl rfl rfl rfl rfl rfl (by kernel_rfl) (by kernel_rfl) (by kernel_rfl) (ok_mv) (WD.anyG [6] (by kernel_rfl) rfl ⟨⟨_, rfl, .inr ⟨_, 33, _, _, rfl, rfl, rfl, rfl, rfl⟩, (W.call (Mp := Ms5) (scan_fc (StR.mono hG17 hS9) t xlo xhi xo n hxs hin) rfl (pmC (pmC (List.Perm.refl _))) ?_)⟩, trivial⟩)))))
     intro v28 G25 Ms27 hG25 q26
     refine match q26 with | ⟨eeq26, _, e_30, hv24⟩ => ?_
     subst e_30
     have eeq26 := eeq26.symm
     subst eeq26
     refine W.perm (pmC (pmC (List.Perm.refl _))).symm ?_
     have q32 := hv24.form
     refine match q32 with | ⟨sa_hv24, sc_hv24, e_31⟩ => ?_
     subst e_31
     refine W.nil ⟨hG25, ((List.nil_sublist _).cons_cons _).cons_cons _, _, ((List.nil_sublist _).cons_cons _).cons_cons _, List.Sublist.refl _, (WD.anyG [10] (by kernel_rfl) rfl ⟨⟨_, rfl, .inr ⟨_, 33, _, _, rfl, rfl, rfl, rfl, rfl⟩, (W.call (Mp := []) (rscan_fc (hv18.mono hG25) xlo xhi xo n (by omega)) rfl (List.Perm.refl _) ?_)⟩, trivial⟩)⟩
     intro _ G33 _ hG33 q35
     refine match q35 with | ⟨e_36, _, e_37, hv34⟩ => ?_
     subst e_36
     subst e_37
     have q39 := hv34.form
     refine match q39 with | ⟨sa_hv34, sc_hv34, e_38⟩ => ?_
     subst e_38
     refine W.nil ⟨hG33, ((List.nil_sublist _).cons_cons _).cons_cons _, _, ((List.nil_sublist _).cons_cons _).cons_cons _, List.Sublist.refl _, (WD.anyG [11] (by kernel_rfl) rfl ⟨⟨_, rfl, .inr ⟨_, 33, _, _, rfl, rfl, rfl, rfl, rfl⟩, (W.qcall ((samep_fc (hv24.mono hG33) hv34).mono (fun v _ _ _ hv => hv.trans (congrArg Value.bool (decide_eq_true rfl)))) rfl (W.nil ⟨Le.rfl, ((List.nil_sublist _).cons_cons _).cons_cons _, _, ((List.nil_sublist _).cons_cons _).cons_cons _, List.Sublist.refl _, (WD.take 12 rfl rfl rfl (by kernel_rfl) (by kernel_rfl) (by kernel_rfl) (ok_pick_t rfl rfl) (WD.take 13 rfl rfl rfl (by kernel_rfl) (by kernel_rfl) (by kernel_rfl) (ok_mv) (WD.takeY 14 44 rfl rfl rfl rfl rfl rfl (by kernel_rfl) (by kernel_rfl) (by kernel_rfl) (ok_mv) (WD.takeY 16 44 rfl rfl rfl rfl rfl rfl (by kernel_rfl) (by kernel_rfl) (by kernel_rfl) (ok_mv) ?_))))⟩))⟩, trivial⟩)⟩
     refine WD.anyG [15] (by kernel_rfl) rfl ⟨⟨_, rfl, .inr ⟨_, 44, _, _, rfl, rfl, rfl, rfl, rfl⟩, (W.call (Mp := Ms5) (swmap_fc (StR.mono ((hG17.trans hG25).trans hG33) hS9) t) rfl (pmC (pmC (List.Perm.refl _))) ?_)⟩, trivial⟩
     intro v44 G41 Ms43 hG41 q42
     refine match q42 with | ⟨eeq42, _, e_46, hv40⟩ => ?_
     subst e_46
     have eeq42 := eeq42.symm
     subst eeq42
     refine W.perm (pmC (pmC (List.Perm.refl _))).symm ?_
     have q48 := hv40.form
     refine match q48 with | ⟨sa_hv40, sc_hv40, e_47⟩ => ?_
     subst e_47
     refine W.nil ⟨hG41, ((List.nil_sublist _).cons_cons _).cons_cons _, _, ((List.nil_sublist _).cons_cons _).cons_cons _, List.Sublist.refl _, (WD.anyG [17] (by kernel_rfl) rfl ⟨⟨_, rfl, .inr ⟨_, 44, _, _, rfl, rfl, rfl, rfl, rfl⟩, (W.qcall ((samep_fc hv40 (hv18.mono ((hG25.trans hG33).trans hG41))).mono (fun v _ _ _ hv => hv.trans (congrArg Value.bool (decide_eq_true rfl)))) rfl (W.nil ⟨Le.rfl, ((List.nil_sublist _).cons_cons _).cons_cons _, _, ((List.nil_sublist _).cons_cons _).cons_cons _, List.Sublist.refl _, (WD.take 18 rfl rfl rfl (by kernel_rfl) (by kernel_rfl) (by kernel_rfl) (ok_pick_t rfl rfl) (WD.take 19 rfl rfl rfl (by kernel_rfl) (by kernel_rfl) (by kernel_rfl) (ok_mv) (WD.takeY 20 50 rfl rfl rfl rfl rfl rfl (by kernel_rfl) (by kernel_rfl) (by kernel_rfl) (ok_loadB (i := 0) (vs := [.string _, .string _, .bool _]) ty52 rfl rfl rfl rfl (by simp)) (WD.takeY 21 50 rfl rfl rfl rfl rfl rfl (by kernel_rfl) (by kernel_rfl) (by kernel_rfl) (ok_mv) ?_))))⟩))⟩, trivial⟩)⟩
     refine WD.anyG [22] (by kernel_rfl) rfl ⟨⟨_, rfl, .inr ⟨_, 50, _, _, rfl, rfl, rfl, rfl, rfl⟩, (W.call (Mp := []) (scan_nil _ _ _ _) rfl (List.Perm.refl _) ?_)⟩, trivial⟩
     intro _ G49 _ hG49 q51
     refine match q51 with | ⟨e_52, _, e_53, hv50⟩ => ?_
     subst e_52
     subst e_53
     have q55 := hv50.form
     refine match q55 with | ⟨sa_hv50, sc_hv50, e_54⟩ => ?_
     subst e_54
     refine W.nil ⟨hG49, ((List.nil_sublist _).cons_cons _).cons_cons _, _, ((List.nil_sublist _).cons_cons _).cons_cons _, List.Sublist.refl _, (WD.takeY 23 50 rfl rfl rfl rfl rfl rfl (by kernel_rfl) (by kernel_rfl) (by kernel_rfl) (ok_len sl41 hv50 rfl) (WD.anyG [24] (by kernel_rfl) rfl ⟨⟨_, rfl, .inr ⟨_, 50, _, _, rfl, rfl, rfl, rfl, rfl⟩, (W.call (Mp := []) (swmap_nil) rfl (List.Perm.refl _) ?_)⟩, trivial⟩))⟩
     intro _ G56 _ hG56 q58
     refine match q58 with | ⟨e_59, _, e_60, hv57⟩ => ?_
     subst e_59
     subst e_60
     have q62 := hv57.form
     refine match q62 with | ⟨sa_hv57, sc_hv57, e_61⟩ => ?_
     subst e_61
     refine W.nil ⟨hG56, ((List.nil_sublist _).cons_cons _).cons_cons _, _, ((List.nil_sublist _).cons_cons _).cons_cons _, List.Sublist.refl _, (WD.takeY 25 50 rfl rfl rfl rfl rfl rfl (by kernel_rfl) (by kernel_rfl) (by kernel_rfl) (ok_len sl41 hv57 rfl) (WD.takeY 26 50 rfl rfl rfl rfl rfl rfl (by kernel_rfl) (by kernel_rfl) (by kernel_rfl) (ok_add rfl rfl (by simp only [List.length_nil]; omega)) (WD.takeY 27 50 rfl rfl rfl rfl rfl rfl (by kernel_rfl) (by kernel_rfl) (by kernel_rfl) (ok_eql rfl rfl) (WD.take 28 rfl rfl rfl (by kernel_rfl) (by kernel_rfl) (by kernel_rfl) (ok_pick_t rfl rfl) (WD.take 29 rfl rfl rfl (by kernel_rfl) (by kernel_rfl) (by kernel_rfl) (ok_mv) ?_)))))⟩
     refine WD.sp 60 rfl (fun h58 => ?_) (fun h58 => ?_)
     ·have p58 := of_decide_eq_true h58
      try dsimp only at p58
      refine WD.anyG [30] (by kernel_rfl) rfl ⟨⟨_, rfl, .inr ⟨_, 60, _, _, rfl, rfl, rfl, h58, rfl⟩, (W.qcall (awk29_fc) rfl (W.nil ⟨Le.rfl, ((List.nil_sublist _).cons_cons _).cons_cons _, _, ((List.nil_sublist _).cons_cons _).cons_cons _, List.Sublist.refl _, (WD.take 31 rfl rfl rfl (by kernel_rfl) (by kernel_rfl) (by kernel_rfl) (ok_pick_t rfl h58) (WD.take 32 rfl rfl rfl (by kernel_rfl) (by kernel_rfl) (by kernel_rfl) (ok_as) (WD.done (by kernel_rfl) (thn_n (WC.ret ?_)))))⟩))⟩, trivial⟩
      refine ⟨.inr rfl, [_], ⟨rfl, trivial⟩, [], List.nil_sublist _, ?_⟩
      rfl
     ·have p58 := of_decide_eq_false h58
      try dsimp only at p58
      exact absurd rfl p58

end Go.Proofs.YtebkfinhhpelbaaGreat
