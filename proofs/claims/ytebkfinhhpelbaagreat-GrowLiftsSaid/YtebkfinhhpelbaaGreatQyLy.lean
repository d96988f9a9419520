/- The law GrowLifts is walked. -/
import Derived.Test.YtebkfinhhpelbaaGreatQyUq
import Derived.Test.YtebkfinhhpelbaaGreatQyWh
import Derived.Test.YtebkfinhhpelbaaGreatQyNs
import Derived.Test.YtebkfinhhpelbaaGreatQyUr
namespace Go.Proofs.YtebkfinhhpelbaaGreat
open Go Go.Fw Go.RowKit
set_option maxRecDepth 100000
set_option maxHeartbeats 1600000
set_option linter.unusedVariables false
set_option linter.unusedSimpArgs false
set_option linter.unnecessarySimpa false
theorem growLifts_fc {G : GH} (cfan : Int) (cleaf : Int) (cbud : Int) (cslots : Int) (crest : Int) {v_l : Value} {l : List Nd} (h_l : SlR eNode G v_l l) :
    Fc Tryz.prog 3 [.agg #[.int .i64 cfan, .int .i64 cleaf, .int .i64 cbud, .int .i64 cslots, .int .i64 crest], v_l] G [] (fun v _ _ => v = .bool (true)) := by
 obtain ⟨sa_l, sc_l, rfl⟩ := h_l.form
 have hl := h_l.len47
 refine Fc.intro (rs := [.tmp 4]) cl3 Tryz.func3 rfl Tryz.ntmps3 rfl rfl (fun w0 => ?_)
 refine WC.seq (WC.region (W.box (L := [.int .i64 _, .int .i64 _, .int .i64 _, .int .i64 _, .int .i64 _]) rfl rfl (fun b1 => (W.as (W.nil (thn_n (WC.seq (WC.seq (WC.region ?_)))))))))
 refine W.ok (ok_loadB (i := 0) (vs := [.int .i64 _, .int .i64 _, .int .i64 _, .int .i64 _, .int .i64 _]) ty23 rfl rfl rfl rfl (by simp)) (W.mv (W.qcall (tree_fc _ _ _ _ _ h_l _ (by omega)) rfl (W.ok (ok_not rfl) (W.nil (thn_n ?_)))))
 refine WC.cond (b := _) rfl (fun h11 => ?_) (fun h11 => ?_)
 ·refine WC.seq (WC.region (W.qcall (awk26_fc) rfl (W.as (W.nil (thn_n (WC.ret (thn_r ?_)))))))
  refine ⟨.inr rfl, [_], ⟨rfl, trivial⟩, [], List.nil_sublist _, ?_⟩
  rfl
 ·obtain ⟨ss, t⟩ := tree_of (c := (⟨cfan, cleaf, cbud, cslots, crest⟩ : Cfg)) (by simpa using h11) (by omega : (60 : Int) ≤ 100)
  have hS := t.sml
  have hl100 := hS.1
  have hrn := t.rootn
  have hl60 := tree_len (most := 60) (c := (⟨cfan, cleaf, cbud, cslots, crest⟩ : Cfg)) (l := l) (by simpa using h11)
  have hlvl := t.height
  have hlv0 := t.lvl t.root
  rw [hrn] at hlvl hlv0
  have hlv : i64 ((getL l 0).level + 1) := ⟨by omega, by omega⟩
  have hks : ∀ m ∈ (getL l 0).msgs, m.key.b.size < 140737488355328 := fun m hm => by rw [← hrn] at hm; have := (msgR_key ((t.msgs t.root).2.1 m hm)).1; omega
  obtain ⟨sT, tT, hmT⟩ := lift_all t (by omega)
  have hST := tT.sml
  refine WC.skip (thn_n (WC.seq (WC.region (W.ok (ok_loadB (i := 0) (vs := [.int .i64 _, .int .i64 _, .int .i64 _, .int .i64 _, .int .i64 _]) ty23 rfl rfl rfl rfl (by simp)) (W.mv (W.call (Mp := []) (gload_fc (cfan) (cleaf) (cbud) (cslots) (crest) h_l) rfl (List.Perm.refl _) ?_))))))
  intro v5 G2 Ms4 hG2 q3
  have q6 := or3 q3
  refine Or.elim q6 (fun q7 => ?_) (fun q8 => ?_)
  ·refine match q7 with | ⟨hnl, e_9, e_10⟩ => ?_
   subst e_9
   subst e_10
   exact absurd ⟨t.cfg, t.pos, placed_of t.slot⟩ hnl
  ·refine Or.elim q8 (fun q11 => ?_) (fun q12 => ?_)
   ·refine match q11 with | ⟨hOK, hnle, e_13, e_14⟩ => ?_
    subst e_13
    subst e_14
    exact absurd t.q.1.2.2 hnle
   ·refine match q12 with | ⟨hOK, hle, bSt, e_15, hS9⟩ => ?_
    subst e_15
    refine W.perm (pmC (List.Perm.refl _)).symm (W.mv (W.ok (ok_extract rfl rfl) (W.ok (ok_extract rfl rfl) (W.as (W.as (W.nil (thn_n (WC.seq ?_))))))))
    refine WC.region (W.ok (ok_loadB (i := 0) (vs := [.int .i64 _, .int .i64 _, .int .i64 _, .int .i64 _, .int .i64 _]) ty23 rfl rfl rfl rfl (by simp)) (W.mv (W.call (Mp := []) (rof_fc (cfan) (cleaf) (cbud) (cslots) (crest) (h_l.mono hG2)) rfl (List.Perm.refl _) ?_)))
    intro v19 G16 Ms18 hG16 q17
    refine match q17 with | ⟨bRf, e_20, vRf, MoRf, eRf, hoRf⟩ => ?_
    subst e_20
    subst eRf
    have q22 := hoRf.form
    refine match q22 with | ⟨saRf, scRf, e_21⟩ => ?_
    subst e_21
    refine W.perm (M' := ((bRf, .cells (List.toArray [.int .i64 cfan, .int .i64 cleaf, .int .i64 cbud, .int .i64 cslots, .int .i64 crest, .slice saRf l.length scRf]) 38 (0, 0)) :: ((b1, .cells (List.toArray [.int .i64 cfan, .int .i64 cleaf, .int .i64 cbud, .int .i64 cslots, .int .i64 crest]) 23 (0, 0)) :: (MoRf ++ (Ms4 ++ []))))) (((pmC (List.Perm.refl _)).cons _).trans (List.Perm.refl _)).symm (W.as (W.nil (thn_n (WC.seq (WC.seq (WC.drawW _ (((List.nil_sublist _).cons_cons _).cons _) mix (by rintro _ _ _ _ ⟨h | h, _⟩ <;> cases h) (WD.take 0 rfl rfl rfl (by kernel_rfl) (by kernel_rfl) (by kernel_rfl) (ok_mv) (WD.take 1 rfl rfl rfl (by kernel_rfl) (by kernel_rfl) (by kernel_rfl) (ok_neq rfl rfl) ?_))))))))
    refine WD.take 2 rfl rfl rfl (by kernel_rfl) (by kernel_rfl) (by kernel_rfl) (ok_mv) (WD.takeY 3 24 rfl rfl rfl rfl rfl rfl (by kernel_rfl) (by kernel_rfl) (by kernel_rfl) (ok_mv) (WD.takeY 5 24 rfl rfl rfl rfl rfl rfl (by kernel_rfl) (by kernel_rfl) (by kernel_rfl) (ok_mv) (WD.anyG [4] (by kernel_rfl) rfl ⟨⟨_, rfl, .inr ⟨_, 24, _, _, rfl, rfl, rfl, rfl, rfl⟩, (W.call (Mp := Ms4) (glift_fc (StR.mono hG16 hS9) t) rfl (pmC (pmC (pmA (List.Perm.refl _)))) ?_)⟩, trivial⟩)))
    intro v26 G23 Ms25 hG23 q24
    refine match q24 with | ⟨e_28, hR27⟩ => ?_
    subst e_28
    refine W.perm (pmC (pmC (List.Perm.refl _))).symm (W.nil ⟨hG23, ((List.nil_sublist _).cons_cons _).cons _, _, ((List.nil_sublist _).cons_cons _).cons _, List.Sublist.refl _, (WD.anyG [6] (by kernel_rfl) rfl ⟨⟨_, rfl, .inr ⟨_, 24, _, _, rfl, rfl, rfl, rfl, rfl⟩, (W.call (Mp := ((bRf, .cells (List.toArray [.int .i64 cfan, .int .i64 cleaf, .int .i64 cbud, .int .i64 cslots, .int .i64 crest, .slice saRf l.length scRf]) 38 (0, 0)) :: MoRf)) (Mr := ((b1, .cells (List.toArray [.int .i64 cfan, .int .i64 cleaf, .int .i64 cbud, .int .i64 cslots, .int .i64 crest]) 23 (0, 0)) :: (Ms25 ++ []))) (rlift26_fc (c := (⟨cfan, cleaf, cbud, cslots, crest⟩ : Cfg)) (hoRf.mono hG23) (by have := t.pos; omega) hlv hks) rfl (((pmC (pmA (List.Perm.refl _))).cons _).trans (List.Perm.refl _)) ?_)⟩, trivial⟩)⟩)
    intro v30 G31 Ms32 hG31 q29
    refine match q29 with | ⟨e_33, vRg, MoRg, eRg, hoRg⟩ => ?_
    subst e_33
    subst eRg
    have q35 := hoRg.form
    refine match q35 with | ⟨saRg, scRg, e_34⟩ => ?_
    subst e_34
    refine W.perm (M' := ((bRf, .cells (List.toArray [.int .i64 cfan, .int .i64 cleaf, .int .i64 cbud, .int .i64 cslots, .int .i64 crest, .slice saRg (liftS (⟨cfan, cleaf, cbud, cslots, crest⟩ : Cfg) l).2.length scRg]) 38 (0, 0)) :: ((b1, .cells (List.toArray [.int .i64 cfan, .int .i64 cleaf, .int .i64 cbud, .int .i64 cslots, .int .i64 crest]) 23 (0, 0)) :: (MoRg ++ (Ms25 ++ []))))) (((pmC (List.Perm.refl _)).cons _).trans (List.Perm.refl _)).symm (W.nil ⟨hG31, ((List.nil_sublist _).cons_cons _).cons _, _, ((List.nil_sublist _).cons_cons _).cons _, List.Sublist.refl _, (WD.takeY 7 24 rfl rfl rfl rfl rfl rfl (by kernel_rfl) (by kernel_rfl) (by kernel_rfl) (ok_neq rfl rfl) (WD.take 8 rfl rfl rfl (by kernel_rfl) (by kernel_rfl) (by kernel_rfl) (ok_pick_f rfl rfl) (WD.take 9 rfl rfl rfl (by kernel_rfl) (by kernel_rfl) (by kernel_rfl) (ok_mv) ?_)))⟩)
    refine WD.sp 31 rfl (fun h29 => ?_) (fun h29 => ?_)
    ·have p29 := nd_t h29
     try dsimp only at p29
     exact absurd rfl p29
    ·have p29 := nd_f h29
     try dsimp only at p29
     refine WD.takeY 10 31 rfl rfl rfl rfl rfl h29 (by kernel_rfl) (by kernel_rfl) (by kernel_rfl) (ok_mv) (WD.takeY 12 31 rfl rfl rfl rfl rfl h29 (by kernel_rfl) (by kernel_rfl) (by kernel_rfl) (ok_mv) (WD.takeY 13 31 rfl rfl rfl rfl rfl h29 (by kernel_rfl) (by kernel_rfl) (by kernel_rfl) (ok_nilP rfl) (WD.takeY 14 31 rfl rfl rfl rfl rfl h29 (by kernel_rfl) (by kernel_rfl) (by kernel_rfl) (ok_fieldB fd38_1 rfl) ?_)))
     refine WD.anyG [11, 15] (by kernel_rfl) rfl ⟨⟨_, rfl, .inr ⟨_, 31, _, _, rfl, rfl, rfl, h29, rfl⟩, ?_⟩, ⟨_, rfl, .inr ⟨_, 31, _, _, rfl, rfl, rfl, h29, rfl⟩, ?_⟩, trivial⟩
     ·refine W.call (Mp := Ms25) (pnodes_fc (StR.mono hG31 hR27)) rfl (pmC (pmC (pmA (List.Perm.refl _)))) ?_
      intro v39 G36 Ms38 hG36 q37
      refine match q37 with | ⟨hR40, eeq37⟩ => ?_
      have eeq37 := eeq37.symm
      subst eeq37
      refine W.perm (pmC (pmC (List.Perm.refl _))).symm ?_
      have q42 := hR40.form
      refine match q42 with | ⟨sa_hR40, sc_hR40, e_41⟩ => ?_
      subst e_41
      refine W.nil ⟨hG36, ((List.nil_sublist _).cons_cons _).cons _, _, ((List.nil_sublist _).cons_cons _).cons _, List.Sublist.refl _, (WD.anyG [15] (by kernel_rfl) rfl ⟨⟨_, rfl, .inr ⟨_, 31, _, _, rfl, rfl, rfl, h29, rfl⟩, (W.ok (ok_loadB (i := 0) (vs := [.slice _ _ _]) ty24 rfl rfl rfl rfl (by simp)) (W.nil ⟨Le.rfl, ((List.nil_sublist _).cons_cons _).cons _, _, ((List.nil_sublist _).cons_cons _).cons _, List.Sublist.refl _, (WD.anyG [16] (by kernel_rfl) rfl ⟨⟨_, rfl, .inr ⟨_, 31, _, _, rfl, rfl, rfl, h29, rfl⟩, (W.giveO (hoRg.mono hG36) (pmC (pmC (pmA (List.Perm.refl _)))) (fun G43 hG43 hv43 => (W.qcall ((all21_fc (hR40.mono hG43) hv43).mono (fun v _ _ _ hv => hv.trans (congrArg Value.bool (decide_eq_true rfl)))) rfl (W.nil ⟨hG43, ((List.nil_sublist _).cons_cons _).cons _, _, ((List.nil_sublist _).cons_cons _).cons _, List.Sublist.refl _, ?_⟩))))⟩, trivial⟩)⟩))⟩, trivial⟩)⟩
      refine WD.takeY 17 31 rfl rfl rfl rfl rfl h29 (by kernel_rfl) (by kernel_rfl) (by kernel_rfl) (ok_not rfl) (WD.take 18 rfl rfl rfl (by kernel_rfl) (by kernel_rfl) (by kernel_rfl) (ok_pick_f rfl h29) (WD.done (by kernel_rfl) (thn_n (WC.cond_f rfl rfl (WC.skip (thn_n (WC.seq (WC.drawW _ (((List.nil_sublist _).cons_cons _).cons_cons _) mix (by rintro _ _ _ _ ⟨h | h, _⟩ <;> cases h) (WD.take 0 rfl rfl rfl (by kernel_rfl) (by kernel_rfl) (by kernel_rfl) (ok_loadB (i := 1) (vs := [.int .i64 _, .int .i64 _, .int .i64 _, .int .i64 _, .int .i64 _]) ty23 rfl rfl rfl rfl (by simp)) ?_)))))))))
      refine WD.take 1 rfl rfl rfl (by kernel_rfl) (by kernel_rfl) (by kernel_rfl) (ok_mv) (WD.any [2] (by kernel_rfl) rfl ⟨⟨_, rfl, rfl, (W.call (Mp := Ms25) (pnodes_fc (StR.mono ((hG31.trans hG36).trans hG43) hR27)) rfl (pmC (pmC (List.Perm.refl _))) ?_)⟩, trivial⟩)
      intro v47 G44 Ms46 hG44 q45
      refine match q45 with | ⟨hR48, eeq45⟩ => ?_
      have eeq45 := eeq45.symm
      subst eeq45
      refine W.perm (pmC (pmC (List.Perm.refl _))).symm ?_
      have q50 := hR48.form
      refine match q50 with | ⟨sa_hR48, sc_hR48, e_49⟩ => ?_
      subst e_49
      refine W.nil ⟨hG44, ((List.nil_sublist _).cons_cons _).cons_cons _, _, ((List.nil_sublist _).cons_cons _).cons_cons _, List.Sublist.refl _, (WD.any [3] (by kernel_rfl) rfl ⟨⟨_, rfl, rfl, (W.qcall ((sound_fc _ _ _ _ _ hR48 hST).mono (fun v _ _ _ hv => hv.trans (congrArg Value.bool tT.sound))) rfl (W.nil ⟨Le.rfl, ((List.nil_sublist _).cons_cons _).cons_cons _, _, ((List.nil_sublist _).cons_cons _).cons_cons _, List.Sublist.refl _, (WD.take 4 rfl rfl rfl (by kernel_rfl) (by kernel_rfl) (by kernel_rfl) (ok_mv) (WD.takeY 5 45 rfl rfl rfl rfl rfl rfl (by kernel_rfl) (by kernel_rfl) (by kernel_rfl) (ok_mv) (WD.takeY 8 45 rfl rfl rfl rfl rfl rfl (by kernel_rfl) (by kernel_rfl) (by kernel_rfl) (ok_mv) (WD.anyG [6] (by kernel_rfl) rfl ⟨⟨_, rfl, .inr ⟨_, 45, _, _, rfl, rfl, rfl, rfl, rfl⟩, ?_⟩, trivial⟩))))⟩))⟩, trivial⟩)⟩
      refine W.call (Mp := Ms25) (pnodes_fc (StR.mono (((hG31.trans hG36).trans hG43).trans hG44) hR27)) rfl (pmC (pmC (List.Perm.refl _))) ?_
      intro v54 G51 Ms53 hG51 q52
      refine match q52 with | ⟨hR55, eeq52⟩ => ?_
      have eeq52 := eeq52.symm
      subst eeq52
      refine W.perm (pmC (pmC (List.Perm.refl _))).symm ?_
      have q57 := hR55.form
      refine match q57 with | ⟨sa_hR55, sc_hR55, e_56⟩ => ?_
      subst e_56
      refine W.nil ⟨hG51, ((List.nil_sublist _).cons_cons _).cons_cons _, _, ((List.nil_sublist _).cons_cons _).cons_cons _, List.Sublist.refl _, (WD.anyG [7] (by kernel_rfl) rfl ⟨⟨_, rfl, .inr ⟨_, 45, _, _, rfl, rfl, rfl, rfl, rfl⟩, (W.call (Mp := []) (map27_fc hR55 _ _ tT) rfl (List.Perm.refl _) ?_)⟩, trivial⟩)⟩
      intro _ G58 _ hG58 q60
      refine match q60 with | ⟨e_61, _, e_62, hv59⟩ => ?_
      subst e_61
      subst e_62
      have q64 := hv59.form
      refine match q64 with | ⟨sa_hv59, sc_hv59, e_63⟩ => ?_
      subst e_63
      refine W.nil ⟨hG58, ((List.nil_sublist _).cons_cons _).cons_cons _, _, ((List.nil_sublist _).cons_cons _).cons_cons _, List.Sublist.refl _, (WD.anyG [9] (by kernel_rfl) rfl ⟨⟨_, rfl, .inr ⟨_, 45, _, _, rfl, rfl, rfl, rfl, rfl⟩, (W.call (Mp := []) (map27_fc (h_l.mono ((((((((hG2.trans hG16).trans hG23).trans hG31).trans hG36).trans hG43).trans hG44).trans hG51).trans hG58)) _ _ t) rfl (List.Perm.refl _) ?_)⟩, trivial⟩)⟩
      intro _ G65 _ hG65 q67
      refine match q67 with | ⟨e_68, _, e_69, hv66⟩ => ?_
      subst e_68
      subst e_69
      have q71 := hv66.form
      refine match q71 with | ⟨sa_hv66, sc_hv66, e_70⟩ => ?_
      subst e_70
      refine W.nil ⟨hG65, ((List.nil_sublist _).cons_cons _).cons_cons _, _, ((List.nil_sublist _).cons_cons _).cons_cons _, List.Sublist.refl _, (WD.anyG [10] (by kernel_rfl) rfl ⟨⟨_, rfl, .inr ⟨_, 45, _, _, rfl, rfl, rfl, rfl, rfl⟩, (W.qcall ((samep_fc (hv59.mono hG65) hv66).mono (fun v _ _ _ hv => hv.trans (congrArg Value.bool (decide_eq_true hmT)))) rfl (W.nil ⟨Le.rfl, ((List.nil_sublist _).cons_cons _).cons_cons _, _, ((List.nil_sublist _).cons_cons _).cons_cons _, List.Sublist.refl _, (WD.take 11 rfl rfl rfl (by kernel_rfl) (by kernel_rfl) (by kernel_rfl) (ok_pick_t rfl rfl) (WD.take 12 rfl rfl rfl (by kernel_rfl) (by kernel_rfl) (by kernel_rfl) (ok_mv) (WD.anyG [13] (by kernel_rfl) rfl ⟨⟨_, rfl, .inr ⟨_, 53, _, _, rfl, rfl, rfl, rfl, rfl⟩, (W.qcall (glift_nil) rfl ?_)⟩, trivial⟩)))⟩))⟩, trivial⟩)⟩
      refine W.nil ⟨Le.rfl, ((List.nil_sublist _).cons_cons _).cons_cons _, _, ((List.nil_sublist _).cons_cons _).cons_cons _, List.Sublist.refl _, (WD.takeY 14 53 rfl rfl rfl rfl rfl rfl (by kernel_rfl) (by kernel_rfl) (by kernel_rfl) (ok_eql rfl rfl) (WD.take 15 rfl rfl rfl (by kernel_rfl) (by kernel_rfl) (by kernel_rfl) (ok_pick_t rfl rfl) (WD.take 16 rfl rfl rfl (by kernel_rfl) (by kernel_rfl) (by kernel_rfl) (ok_mv) ?_)))⟩
      refine WD.sp 57 rfl (fun h55 => ?_) (fun h55 => ?_)
      ·have p55 := of_decide_eq_true h55
       try dsimp only at p55
       refine WD.anyG [17] (by kernel_rfl) rfl ⟨⟨_, rfl, .inr ⟨_, 57, _, _, rfl, rfl, rfl, h55, rfl⟩, (W.qcall (awk26_fc) rfl (W.nil ⟨Le.rfl, ((List.nil_sublist _).cons_cons _).cons_cons _, _, ((List.nil_sublist _).cons_cons _).cons_cons _, List.Sublist.refl _, (WD.take 18 rfl rfl rfl (by kernel_rfl) (by kernel_rfl) (by kernel_rfl) (ok_pick_t rfl h55) (WD.take 19 rfl rfl rfl (by kernel_rfl) (by kernel_rfl) (by kernel_rfl) (ok_as) (WD.done (by kernel_rfl) (thn_n (WC.ret ?_)))))⟩))⟩, trivial⟩
       refine ⟨.inr rfl, [_], ⟨rfl, trivial⟩, [], List.nil_sublist _, ?_⟩
       rfl
      ·have p55 := of_decide_eq_false h55
       try dsimp only at p55
       exact absurd rfl p55
     ·refine W.ok (ok_loadB (i := 0) (vs := [.slice _ _ _]) ty24 rfl rfl rfl rfl (by simp)) (W.nil ⟨Le.rfl, ((List.nil_sublist _).cons_cons _).cons _, _, ((List.nil_sublist _).cons_cons _).cons _, List.Sublist.refl _, (WD.anyG [11] (by kernel_rfl) rfl ⟨⟨_, rfl, .inr ⟨_, 31, _, _, rfl, rfl, rfl, h29, rfl⟩, (W.call (Mp := Ms25) (pnodes_fc (StR.mono hG31 hR27)) rfl (pmC (pmC (pmA (List.Perm.refl _)))) ?_)⟩, trivial⟩)⟩)
      intro v75 G72 Ms74 hG72 q73
      refine match q73 with | ⟨hR76, eeq73⟩ => ?_
      have eeq73 := eeq73.symm
      subst eeq73
      refine W.perm (pmC (pmC (List.Perm.refl _))).symm ?_
      have q78 := hR76.form
      refine match q78 with | ⟨sa_hR76, sc_hR76, e_77⟩ => ?_
      subst e_77
      refine W.nil ⟨hG72, ((List.nil_sublist _).cons_cons _).cons _, _, ((List.nil_sublist _).cons_cons _).cons _, List.Sublist.refl _, (WD.anyG [16] (by kernel_rfl) rfl ⟨⟨_, rfl, .inr ⟨_, 31, _, _, rfl, rfl, rfl, h29, rfl⟩, (W.giveO (hoRg.mono hG72) (pmC (pmC (pmA (List.Perm.refl _)))) (fun G79 hG79 hv79 => (W.qcall ((all21_fc (hR76.mono hG79) hv79).mono (fun v _ _ _ hv => hv.trans (congrArg Value.bool (decide_eq_true rfl)))) rfl (W.nil ⟨hG79, ((List.nil_sublist _).cons_cons _).cons _, _, ((List.nil_sublist _).cons_cons _).cons _, List.Sublist.refl _, (WD.takeY 17 31 rfl rfl rfl rfl rfl h29 (by kernel_rfl) (by kernel_rfl) (by kernel_rfl) (ok_not rfl) (WD.take 18 rfl rfl rfl (by kernel_rfl) (by kernel_rfl) (by kernel_rfl) (ok_pick_f rfl h29) (WD.done (by kernel_rfl) (thn_n ?_))))⟩))))⟩, trivial⟩)⟩
      refine WC.cond_f rfl rfl (WC.skip (thn_n (WC.seq (WC.drawW _ (((List.nil_sublist _).cons_cons _).cons_cons _) mix (by rintro _ _ _ _ ⟨h | h, _⟩ <;> cases h) (WD.take 0 rfl rfl rfl (by kernel_rfl) (by kernel_rfl) (by kernel_rfl) (ok_loadB (i := 1) (vs := [.int .i64 _, .int .i64 _, .int .i64 _, .int .i64 _, .int .i64 _]) ty23 rfl rfl rfl rfl (by simp)) (WD.take 1 rfl rfl rfl (by kernel_rfl) (by kernel_rfl) (by kernel_rfl) (ok_mv) (WD.any [2] (by kernel_rfl) rfl ⟨⟨_, rfl, rfl, (W.call (Mp := Ms25) (pnodes_fc (StR.mono ((hG31.trans hG72).trans hG79) hR27)) rfl (pmC (pmC (List.Perm.refl _))) ?_)⟩, trivial⟩)))))))
      intro v83 G80 Ms82 hG80 q81
      refine match q81 with | ⟨hR84, eeq81⟩ => ?_
      have eeq81 := eeq81.symm
      subst eeq81
      refine W.perm (pmC (pmC (List.Perm.refl _))).symm ?_
      have q86 := hR84.form
      refine match q86 with | ⟨sa_hR84, sc_hR84, e_85⟩ => ?_
      subst e_85
      refine W.nil ⟨hG80, ((List.nil_sublist _).cons_cons _).cons_cons _, _, ((List.nil_sublist _).cons_cons _).cons_cons _, List.Sublist.refl _, (WD.any [3] (by kernel_rfl) rfl ⟨⟨_, rfl, rfl, (W.qcall ((sound_fc _ _ _ _ _ hR84 hST).mono (fun v _ _ _ hv => hv.trans (congrArg Value.bool tT.sound))) rfl (W.nil ⟨Le.rfl, ((List.nil_sublist _).cons_cons _).cons_cons _, _, ((List.nil_sublist _).cons_cons _).cons_cons _, List.Sublist.refl _, (WD.take 4 rfl rfl rfl (by kernel_rfl) (by kernel_rfl) (by kernel_rfl) (ok_mv) (WD.takeY 5 45 rfl rfl rfl rfl rfl rfl (by kernel_rfl) (by kernel_rfl) (by kernel_rfl) (ok_mv) (WD.takeY 8 45 rfl rfl rfl rfl rfl rfl (by kernel_rfl) (by kernel_rfl) (by kernel_rfl) (ok_mv) (WD.anyG [6] (by kernel_rfl) rfl ⟨⟨_, rfl, .inr ⟨_, 45, _, _, rfl, rfl, rfl, rfl, rfl⟩, ?_⟩, trivial⟩))))⟩))⟩, trivial⟩)⟩
      refine W.call (Mp := Ms25) (pnodes_fc (StR.mono (((hG31.trans hG72).trans hG79).trans hG80) hR27)) rfl (pmC (pmC (List.Perm.refl _))) ?_
      intro v90 G87 Ms89 hG87 q88
      refine match q88 with | ⟨hR91, eeq88⟩ => ?_
      have eeq88 := eeq88.symm
      subst eeq88
      refine W.perm (pmC (pmC (List.Perm.refl _))).symm ?_
      have q93 := hR91.form
      refine match q93 with | ⟨sa_hR91, sc_hR91, e_92⟩ => ?_
      subst e_92
      refine W.nil ⟨hG87, ((List.nil_sublist _).cons_cons _).cons_cons _, _, ((List.nil_sublist _).cons_cons _).cons_cons _, List.Sublist.refl _, (WD.anyG [7] (by kernel_rfl) rfl ⟨⟨_, rfl, .inr ⟨_, 45, _, _, rfl, rfl, rfl, rfl, rfl⟩, (W.call (Mp := []) (map27_fc hR91 _ _ tT) rfl (List.Perm.refl _) ?_)⟩, trivial⟩)⟩
      intro _ G94 _ hG94 q96
      refine match q96 with | ⟨e_97, _, e_98, hv95⟩ => ?_
      subst e_97
      subst e_98
      have q100 := hv95.form
      refine match q100 with | ⟨sa_hv95, sc_hv95, e_99⟩ => ?_
      subst e_99
      refine W.nil ⟨hG94, ((List.nil_sublist _).cons_cons _).cons_cons _, _, ((List.nil_sublist _).cons_cons _).cons_cons _, List.Sublist.refl _, (WD.anyG [9] (by kernel_rfl) rfl ⟨⟨_, rfl, .inr ⟨_, 45, _, _, rfl, rfl, rfl, rfl, rfl⟩, (W.call (Mp := []) (map27_fc (h_l.mono ((((((((hG2.trans hG16).trans hG23).trans hG31).trans hG72).trans hG79).trans hG80).trans hG87).trans hG94)) _ _ t) rfl (List.Perm.refl _) ?_)⟩, trivial⟩)⟩
      intro _ G101 _ hG101 q103
      refine match q103 with | ⟨e_104, _, e_105, hv102⟩ => ?_
      subst e_104
      subst e_105
      have q107 := hv102.form
      refine match q107 with | ⟨sa_hv102, sc_hv102, e_106⟩ => ?_
      subst e_106
      refine W.nil ⟨hG101, ((List.nil_sublist _).cons_cons _).cons_cons _, _, ((List.nil_sublist _).cons_cons _).cons_cons _, List.Sublist.refl _, (WD.anyG [10] (by kernel_rfl) rfl ⟨⟨_, rfl, .inr ⟨_, 45, _, _, rfl, rfl, rfl, rfl, rfl⟩, (W.qcall ((samep_fc (hv95.mono hG101) hv102).mono (fun v _ _ _ hv => hv.trans (congrArg Value.bool (decide_eq_true hmT)))) rfl (W.nil ⟨Le.rfl, ((List.nil_sublist _).cons_cons _).cons_cons _, _, ((List.nil_sublist _).cons_cons _).cons_cons _, List.Sublist.refl _, (WD.take 11 rfl rfl rfl (by kernel_rfl) (by kernel_rfl) (by kernel_rfl) (ok_pick_t rfl rfl) (WD.take 12 rfl rfl rfl (by kernel_rfl) (by kernel_rfl) (by kernel_rfl) (ok_mv) (WD.anyG [13] (by kernel_rfl) rfl ⟨⟨_, rfl, .inr ⟨_, 53, _, _, rfl, rfl, rfl, rfl, rfl⟩, (W.qcall (glift_nil) rfl ?_)⟩, trivial⟩)))⟩))⟩, trivial⟩)⟩
      refine W.nil ⟨Le.rfl, ((List.nil_sublist _).cons_cons _).cons_cons _, _, ((List.nil_sublist _).cons_cons _).cons_cons _, List.Sublist.refl _, (WD.takeY 14 53 rfl rfl rfl rfl rfl rfl (by kernel_rfl) (by kernel_rfl) (by kernel_rfl) (ok_eql rfl rfl) (WD.take 15 rfl rfl rfl (by kernel_rfl) (by kernel_rfl) (by kernel_rfl) (ok_pick_t rfl rfl) (WD.take 16 rfl rfl rfl (by kernel_rfl) (by kernel_rfl) (by kernel_rfl) (ok_mv) ?_)))⟩
      refine WD.sp 57 rfl (fun h55 => ?_) (fun h55 => ?_)
      ·have p55 := of_decide_eq_true h55
       try dsimp only at p55
       refine WD.anyG [17] (by kernel_rfl) rfl ⟨⟨_, rfl, .inr ⟨_, 57, _, _, rfl, rfl, rfl, h55, rfl⟩, (W.qcall (awk26_fc) rfl (W.nil ⟨Le.rfl, ((List.nil_sublist _).cons_cons _).cons_cons _, _, ((List.nil_sublist _).cons_cons _).cons_cons _, List.Sublist.refl _, (WD.take 18 rfl rfl rfl (by kernel_rfl) (by kernel_rfl) (by kernel_rfl) (ok_pick_t rfl h55) (WD.take 19 rfl rfl rfl (by kernel_rfl) (by kernel_rfl) (by kernel_rfl) (ok_as) (WD.done (by kernel_rfl) (thn_n (WC.ret ?_)))))⟩))⟩, trivial⟩
       refine ⟨.inr rfl, [_], ⟨rfl, trivial⟩, [], List.nil_sublist _, ?_⟩
       rfl
      ·have p55 := of_decide_eq_false h55
       try dsimp only at p55
       exact absurd rfl p55

end Go.Proofs.YtebkfinhhpelbaaGreat
