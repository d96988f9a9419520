/- The example of chapter 26 is walked. -/
import Derived.Test.YtebkfinhhpelbaaGreatQzUs
import Derived.Test.YtebkfinhhpelbaaGreatQzUv
set_option maxRecDepth 100000
set_option maxHeartbeats 1600000
set_option linter.unusedVariables false
set_option linter.unusedSimpArgs false
set_option linter.unnecessarySimpa false
namespace Go.Proofs.YtebkfinhhpelbaaGreat
open Go Go.Fw Go.RowKit
def S_97 : Str := ⟨⟨#[97]⟩, by decide⟩
def S_98 : Str := ⟨⟨#[98]⟩, by decide⟩
theorem lt26 : S_97.lt S_98 = true := by
  show blt _ _ = true
  unfold blt
  rw [ByteArray.toList_eq, ByteArray.toList_eq]
  show Op.bytesLess [97] [98] = true
  decide
def aw26 : Nd := ⟨0, 0, [], [], Str.nil, true, -1, 0, [], [⟨S_97, Str.nil⟩, ⟨S_98, Str.nil⟩]⟩
theorem aw26_ok : aw26.Ok := ⟨⟨by decide, by decide⟩, ⟨by decide, by decide⟩, ⟨by decide, by decide⟩, ⟨by decide, by decide⟩⟩
theorem aw26_P : PairsR aw26.rows := by
  refine pairsR_iff.2 ⟨fun p hp => ?_, ?_⟩
  · have hp : p ∈ [(⟨S_97, Str.nil⟩ : Pair), ⟨S_98, Str.nil⟩] := hp
    simp at hp
    rcases hp with rfl | rfl <;> exact ⟨by decide, by decide⟩
  show Srt [(⟨S_97, Str.nil⟩ : Pair), ⟨S_98, Str.nil⟩]
  simp [Srt, lt26]
theorem aw26_t {s : Int} (h1 : 1 ≤ s) (h2 : s ≤ 4096) : Tree ⟨4, 2, 36, s, 0⟩ [aw26] [oneS aw26] := tree_one ⟨⟨by simp, by simp⟩, ⟨by simp, by simp⟩, ⟨by simp, by simp⟩, ⟨h1, h2⟩, by simp, by simp⟩ rfl rfl (by decide) ⟨⟨by decide, by decide, by decide⟩, fun _ => ⟨rfl, rfl⟩, (fun h => by cases h), (by rw [if_pos (show aw26.level = 0 from rfl)]; exact ⟨rfl, (Int.le_refl 2 : ((2 : Nat) : Int) ≤ 2), aw26_P, fun i h => rfl⟩)⟩ rfl (by
  refine ⟨by decide, by decide, by decide, by decide, by decide, (fun m hm => by cases hm), (fun m hm => by cases hm), fun p hp => ?_⟩
  have := (pairsR_iff.1 aw26_P).1 p hp
  exact ⟨by have := this.1; omega, by have := this.2; omega⟩)
theorem ck26 : (cleaveN aw26 2).2.2.2 = true := by rw [cleave_lt rfl (by decide)]
theorem ok26 : (liftN (getL [aw26] 0) 1 2).2.2.2 = true := by rw [lift_ok]; exact ck26
theorem lw26 : liftS (⟨4, 2, 36, 3, 0⟩ : Cfg) [aw26] = (0, liftL [aw26] (liftN aw26 1 2).1 (liftN aw26 1 2).2.1 (liftN aw26 1 2).2.2.1) := liftS_0 ok26 (by decide)
theorem kids26 : (getL (liftS (⟨4, 2, 36, 3, 0⟩ : Cfg) [aw26]).2 0).kids = [1, 2] := by rw [lw26, liftN_t ck26]; rfl
theorem lx26 : liftS (⟨4, 2, 36, 2, 0⟩ : Cfg) [aw26] = (4, [aw26]) := liftS_4 ok26 (by decide)
theorem awk26_fc {G : GH}  :
    Fc Tryz.prog 12 [] G [] (fun v _ _ => v = .bool (true)) := by
 refine Fc.intro (rs := [.tmp 0]) cl12 Tryz.func12 rfl Tryz.ntmps12 rfl rfl (fun w0 => ?_)
 refine WC.seq (WC.region (W.as (W.nil (thn_n (WC.seq ?_)))))
 have t := aw26_t (s := 3) (by decide) (by decide)
 have t2 := aw26_t (s := 2) (by decide) (by decide)
 refine WC.region (W.ok (ok_build (L := [.string _, .string _]) pl69 zr69 rfl rfl rfl) (W.ok (ok_build (L := [.string _, .string _]) pl69 zr69 rfl rfl rfl) (W.lit (e := ePair) (l := [⟨S_97, Str.nil⟩, ⟨S_98, Str.nil⟩]) (css := [[.string _, .string _], [.string _, .string _]]) sl41 ty69 zr69 rfl rfl rfl rfl rfl rfl ⟨rfl, rfl, trivial⟩ (fun bl1 G1 hG1 hv1 => (W.ok (ok_build (L := (nd9 _ _ _ _ _ _ _ _ _ _ _ _ _ _ _ _ _ _)) pl47 zr47 rfl rfl rfl) (W.lit (e := eNode) (l := [aw26]) (css := [(nd9 _ _ _ _ _ _ _ _ _ _ _ _ _ _ _ _ _ _)]) sl24 ty47 zr47 rfl rfl rfl rfl rfl rfl ⟨⟨_, _, _, _, _, _, _, _, rfl, SlR.nil, SlR.nil, SlR.nil, hv1, aw26_ok⟩, trivial⟩ (fun bl2 G2 hG2 hv2 => (W.as (W.nil (thn_n (WC.seq (WC.region (W.ok (ok_build (L := [.int .i64 _, .int .i64 _, .int .i64 _, .int .i64 _, .int .i64 _]) pl23 zr23 rfl rfl rfl) (W.mv (W.call (Mp := []) (gload_fc (4) (2) (36) (3) (0) hv2) rfl pr9 ?_)))))))))))))))
 intro v6 G3 Ms5 hG3 q4
 have q7 := or3 q4
 refine Or.elim q7 (fun q8 => ?_) (fun q9 => ?_)
 ·refine match q8 with | ⟨hnl, e_10, e_11⟩ => ?_
  subst e_10
  subst e_11
  exact absurd ⟨(by first | exact t.cfg | exact t2.cfg), t.pos, placed_of t.slot⟩ hnl
 refine Or.elim q9 (fun q12 => ?_) (fun q13 => ?_)
 ·refine match q12 with | ⟨hOK, hnle, e_14, e_15⟩ => ?_
  subst e_14
  subst e_15
  exact absurd (by first | exact t.q.1.2.2 | exact t2.q.1.2.2) hnle
 refine match q13 with | ⟨hOK, hle, bSt, e_16, hS9⟩ => ?_
 subst e_16
 refine W.mv (W.ok (ok_extract rfl rfl) (W.ok (ok_extract rfl rfl) (W.as (W.as (W.nil (thn_n (WC.seq (WC.region (W.mv (W.call (Mp := Ms5) (glift_fc hS9 t) rfl pr9 ?_))))))))))
 intro v20 G17 Ms19 hG17 q18
 refine match q18 with | ⟨e_22, hR21⟩ => ?_
 subst e_22
 refine W.as (W.nil (thn_n (WC.seq (WC.region (W.mv (W.call (Mp := Ms19) (pnode_fc hR21 _) rfl pr9 ?_))))))
 intro v26 G23 Ms25 hG23 q24
 refine match q24 with | ⟨⟨_, e_28, ⟨_, _, _, _, _, _, _, _, e_29, hp_hR27, hk_hR27, hm_hR27, hr_hR27, hok_hR27⟩⟩, eeq24⟩ => ?_
 subst e_28
 subst e_29
 have eeq24 := eeq24.symm
 subst eeq24
 refine W.mv (W.ok (ok_extract rfl rfl) (W.ok (ok_extract rfl rfl) (W.alloc zr47 (fun b30 => (W.store (i := 0) (vs := (nd9 _ _ _ _ _ _ _ _ _ _ _ _ _ _ _ _ _ _)) (L' := (nd9 _ _ _ _ _ _ _ _ _ _ _ _ _ _ _ _ _ _)) ty47 rfl rfl rfl rfl rfl rfl rfl rfl (W.as (W.nil (thn_n (WC.seq (WC.region (W.ok (ok_build (L := [.int .i64 _, .int .i64 _, .int .i64 _, .int .i64 _, .int .i64 _]) pl23 zr23 rfl rfl rfl) (W.mv (W.call (Mp := []) (gload_fc (4) (2) (36) (2) (0) (hv2.mono ((hG3.trans hG17).trans hG23))) rfl pr9 ?_)))))))))))))
 intro v34 G31 Ms33 hG31 q32
 have q35 := or3 q32
 refine Or.elim q35 (fun q36 => ?_) (fun q37 => ?_)
 ·refine match q36 with | ⟨hnl, e_38, e_39⟩ => ?_
  subst e_38
  subst e_39
  exact absurd ⟨(by first | exact t.cfg | exact t2.cfg), t.pos, placed_of t.slot⟩ hnl
 refine Or.elim q37 (fun q40 => ?_) (fun q41 => ?_)
 ·refine match q40 with | ⟨hOK, hnle, e_42, e_43⟩ => ?_
  subst e_42
  subst e_43
  exact absurd (by first | exact t.q.1.2.2 | exact t2.q.1.2.2) hnle
 refine match q41 with | ⟨hOK2, hle2, bSt2, e_44, hS92⟩ => ?_
 subst e_44
 refine W.perm (pmC pr9).symm (W.mv (W.ok (ok_extract rfl rfl) (W.ok (ok_extract rfl rfl) (W.as (W.as (W.nil (thn_n (WC.seq (WC.region (W.mv (W.ok (ok_eql rfl rfl) (W.mv (W.yes (dj := 35) rfl rfl rfl (W.mv ?_))))))))))))))
 refine W.yes (dj := 35) rfl rfl rfl (W.ok (ok_eql rfl rfl) (W.ok (ok_pick_t rfl rfl) (W.mv ?_)))
 refine W.sp 39 rfl (fun h37 => ?_) (fun h37 => ?_)
 ·have p37 := of_decide_eq_true h37
  try dsimp only at p37
  refine W.yes (dj := 39) rfl rfl h37 (W.ok (ok_fieldB fd47_3 rfl) (W.yes (dj := 39) rfl rfl h37 (W.ok (ok_loadB (i := 0) (vs := [.slice _ _ _]) ty44 rfl rfl rfl rfl (by simp)) (W.yes (dj := 39) rfl rfl h37 (W.ok (ok_len sl44 (hk_hR27.mono hG31) rfl) (W.yes (dj := 39) rfl rfl h37 (W.ok (ok_eql rfl rfl) (W.ok (ok_pick_t rfl h37) (W.mv ?_)))))))))
  refine W.sp 45 rfl (fun h43 => ?_) (fun h43 => ?_)
  ·have p43 := of_decide_eq_true h43
   try dsimp only at p43
   refine W.yes (dj := 45) rfl rfl h43 (W.ok (ok_fieldB fd47_3 rfl) (W.yes (dj := 45) rfl rfl h43 (W.ok (ok_loadB (i := 0) (vs := [.slice _ _ _]) ty44 rfl rfl rfl rfl (by simp)) (W.yes (dj := 45) rfl rfl h43 ?_))))
   have q48 := (hk_hR27.mono hG31).at (i := 0) (by omega)
   refine match q48 with | ⟨_, he45, ⟨e_47, hi46⟩⟩ => ?_
   subst e_47
   refine W.ok (ok_indexAddr (i := 0) sl44 ty3 (hk_hR27.mono hG31) rfl rfl ⟨by omega, by omega⟩) (W.yes (dj := 45) rfl rfl h43 (W.ok (ok_loadE (vs := [.int .i64 _]) ty3 he45 rfl rfl rfl (by simp)) (W.yes (dj := 45) rfl rfl h43 (W.ok (ok_eql rfl rfl) (W.ok (ok_pick_t rfl h43) (W.mv ?_))))))
   refine W.sp 52 rfl (fun h50 => ?_) (fun h50 => ?_)
   ·have p50 := of_decide_eq_true h50
    try dsimp only at p50
    refine W.yes (dj := 52) rfl rfl h50 (W.ok (ok_fieldB fd47_3 rfl) (W.yes (dj := 52) rfl rfl h50 (W.ok (ok_loadB (i := 0) (vs := [.slice _ _ _]) ty44 rfl rfl rfl rfl (by simp)) (W.yes (dj := 52) rfl rfl h50 ?_))))
    have q52 := (hk_hR27.mono hG31).at (i := 1) (by omega)
    refine match q52 with | ⟨_, he49, ⟨e_51, hi50⟩⟩ => ?_
    subst e_51
    refine W.ok (ok_indexAddr (i := 1) sl44 ty3 (hk_hR27.mono hG31) rfl rfl ⟨by omega, by omega⟩) (W.yes (dj := 52) rfl rfl h50 (W.ok (ok_loadE (vs := [.int .i64 _]) ty3 he49 rfl rfl rfl (by simp)) (W.yes (dj := 52) rfl rfl h50 (W.ok (ok_eql rfl rfl) (W.ok (ok_pick_t rfl h50) (W.mv ?_))))))
    refine W.sp 59 rfl (fun h57 => ?_) (fun h57 => ?_)
    ·have p57 := of_decide_eq_true h57
     try dsimp only at p57
     refine W.yes (dj := 59) rfl rfl h57 (W.mv (W.yes (dj := 59) rfl rfl h57 (W.call (Mp := Ms33) (glift_fc hS92 t2) rfl (pmC pr9) ?_)))
     intro v56 G53 Ms55 hG53 q54
     refine match q54 with | ⟨e_58, hR57⟩ => ?_
     subst e_58
     refine W.perm (pmC pr9).symm (W.yes (dj := 59) rfl rfl h57 (W.ok (ok_eql rfl rfl) (W.ok (ok_pick_t rfl h57) (W.mv ?_))))
     refine W.sp 64 rfl (fun h62 => ?_) (fun h62 => ?_)
     ·have p62 := of_decide_eq_true h62
      try dsimp only at p62
      refine W.yes (dj := 64) rfl rfl h62 (W.mv (W.yes (dj := 64) rfl rfl h62 (W.call (Mp := Ms19) (pused_fc (StR.mono ((hG23.trans hG31).trans hG53) hR21)) rfl (pmC (pmA pr9)) ?_)))
      intro v62 G59 Ms61 hG59 q60
      refine match q60 with | ⟨e_64, eeq60⟩ => ?_
      subst e_64
      have eeq60 := eeq60.symm
      subst eeq60
      refine W.perm (pmC pr9).symm (W.yes (dj := 64) rfl rfl h62 (W.ok (ok_eql rfl rfl) (W.ok (ok_pick_t rfl h62) (W.as (W.nil (thn_n (WC.ret ?_)))))))
      refine ⟨.inr rfl, [_], ⟨rfl, trivial⟩, [], sn9, ?_⟩
      rfl
     have p62 := of_decide_eq_false h62
     try dsimp only at p62
     rw [lx26] at p62; exact absurd rfl p62
    have p57 := of_decide_eq_false h57
    try dsimp only at p57
    exact absurd (List.getElem_of_eq kids26 _) p57
   have p50 := of_decide_eq_false h50
   try dsimp only at p50
   exact absurd (List.getElem_of_eq kids26 _) p50
  have p43 := of_decide_eq_false h43
  try dsimp only at p43
  rw [kids26] at p43; exact absurd rfl p43
 have p37 := of_decide_eq_false h37
 try dsimp only at p37
 rw [lw26] at p37; exact absurd rfl p37

end Go.Proofs.YtebkfinhhpelbaaGreat
namespace Go.Proofs.YtebkfinhhpelbaaGreat
open Go Go.Fw Go.RowKit
theorem growParts_fc {G : GH} (cfan : Int) (cleaf : Int) (cbud : Int) (cslots : Int) (crest : Int) {v_l : Value} {l : List Nd} (h_l : SlR eNode G v_l l) (p : Int) (i : Int) (hi9 : i64 i) :
    Fc Tryz.prog 8 [.agg #[.int .i64 cfan, .int .i64 cleaf, .int .i64 cbud, .int .i64 cslots, .int .i64 crest], v_l, .int .i64 p, .int .i64 i] G [] (fun v _ _ => v = .bool (true)) := by
 obtain ⟨sa_l, sc_l, rfl⟩ := h_l.form
 have hl := h_l.len47
 refine Fc.intro (rs := [.tmp 8]) cl8 Tryz.func8 rfl Tryz.ntmps8 rfl rfl (fun w0 => ?_)
 refine WC.seq (WC.region (W.box (L := [.int .i64 _, .int .i64 _, .int .i64 _, .int .i64 _, .int .i64 _]) rfl rfl (fun b1 => (W.as (W.nil (thn_n (WC.seq (WC.seq (WC.region (W.ok (ok_loadB (i := 0) (vs := [.int .i64 _, .int .i64 _, .int .i64 _, .int .i64 _, .int .i64 _]) ty23 rfl rfl rfl rfl (by simp)) (W.mv (W.qcall (tree_fc _ _ _ _ _ h_l _ (by omega)) rfl (W.ok (ok_not rfl) (W.nil (thn_n ?_)))))))))))))))
 refine WC.cond (b := _) rfl (fun h15 => ?_) (fun h15 => ?_)
 ·refine WC.seq (WC.region (W.qcall (awk26_fc) rfl (W.as (W.nil (thn_n (WC.ret (thn_r ?_)))))))
  refine ⟨.inr rfl, [_], ⟨rfl, trivial⟩, [], sn9, ?_⟩
  rfl
 obtain ⟨ss, t⟩ := tree_of (c := (⟨cfan, cleaf, cbud, cslots, crest⟩ : Cfg)) (by simpa using h15) (by omega : (60 : Int) ≤ 100)
 have hS := t.sml
 have hl100 := hS.1
 have hl60 := tree_len (most := 60) (c := (⟨cfan, cleaf, cbud, cslots, crest⟩ : Cfg)) (l := l) (by simpa using h15)
 obtain ⟨sT, tT, hmT⟩ := part_all t (by omega) p i
 have hST := tT.sml
 refine WC.skip (thn_n (WC.seq (WC.region (W.ok (ok_loadB (i := 0) (vs := [.int .i64 _, .int .i64 _, .int .i64 _, .int .i64 _, .int .i64 _]) ty23 rfl rfl rfl rfl (by simp)) (W.mv (W.call (Mp := []) (gload_fc (cfan) (cleaf) (cbud) (cslots) (crest) h_l) rfl pr9 ?_))))))
 intro v5 G2 Ms4 hG2 q3
 have q6 := or3 q3
 refine Or.elim q6 (fun q7 => ?_) (fun q8 => ?_)
 ·refine match q7 with | ⟨hnl, e_9, e_10⟩ => ?_
  subst e_9
  subst e_10
  exact absurd ⟨t.cfg, t.pos, placed_of t.slot⟩ hnl
 refine Or.elim q8 (fun q11 => ?_) (fun q12 => ?_)
 ·refine match q11 with | ⟨hOK, hnle, e_13, e_14⟩ => ?_
  subst e_13
  subst e_14
  exact absurd t.q.1.2.2 hnle
 refine match q12 with | ⟨hOK, hle, bSt, e_15, hS9⟩ => ?_
 subst e_15
 refine W.perm (pmC pr9).symm (W.mv (W.ok (ok_extract rfl rfl) (W.ok (ok_extract rfl rfl) (W.as (W.as (W.nil (thn_n (WC.seq (WC.region (W.ok (ok_loadB (i := 0) (vs := [.int .i64 _, .int .i64 _, .int .i64 _, .int .i64 _, .int .i64 _]) ty23 rfl rfl rfl rfl (by simp)) (W.mv (W.call (Mp := []) (rof_fc (cfan) (cleaf) (cbud) (cslots) (crest) (h_l.mono hG2)) rfl pr9 ?_))))))))))))
 intro v19 G16 Ms18 hG16 q17
 refine match q17 with | ⟨bRf, e_20, vRf, MoRf, eRf, hoRf⟩ => ?_
 subst e_20
 subst eRf
 have q22 := hoRf.form
 refine match q22 with | ⟨saRf, scRf, e_21⟩ => ?_
 subst e_21
 refine W.perm (M' := ((bRf, .cells (List.toArray [.int .i64 cfan, .int .i64 cleaf, .int .i64 cbud, .int .i64 cslots, .int .i64 crest, .slice saRf l.length scRf]) 38 (0, 0)) :: ((b1, .cells (List.toArray [.int .i64 cfan, .int .i64 cleaf, .int .i64 cbud, .int .i64 cslots, .int .i64 crest]) 23 (0, 0)) :: (MoRf ++ (Ms4 ++ []))))) (((pmC pr9).cons _).trans pr9).symm (W.as (W.nil (thn_n (WC.seq (WC.seq (WC.drawW _ (sn9.k9.cons _) mix (by rintro _ _ _ _ ⟨h | h, _⟩ <;> cases h) (WD.tk 0 rfl (ok_mv) (WD.tk 1 rfl (ok_neq rfl rfl) (WD.tk 2 rfl (ok_mv) (WD.takeY 3 28 rfl rfl rfl rfl rfl rfl (by kernel_rfl) (by kernel_rfl) (by kernel_rfl) (ok_mv) (WD.takeY 4 28 rfl rfl rfl rfl rfl rfl (by kernel_rfl) (by kernel_rfl) (by kernel_rfl) (ok_mv) (WD.takeY 5 28 rfl rfl rfl rfl rfl rfl (by kernel_rfl) (by kernel_rfl) (by kernel_rfl) (ok_mv) (WD.takeY 7 28 rfl rfl rfl rfl rfl rfl (by kernel_rfl) (by kernel_rfl) (by kernel_rfl) (ok_mv) (WD.takeY 8 28 rfl rfl rfl rfl rfl rfl (by kernel_rfl) (by kernel_rfl) (by kernel_rfl) (ok_mv) ?_))))))))))))))
 refine WD.takeY 9 28 rfl rfl rfl rfl rfl rfl (by kernel_rfl) (by kernel_rfl) (by kernel_rfl) (ok_mv) (WD.anyG [6] (by kernel_rfl) rfl ⟨⟨_, rfl, .inr ⟨_, 28, _, _, rfl, rfl, rfl, rfl, rfl⟩, (W.call (Mp := Ms4) (gparti_fc (StR.mono hG16 hS9) t p i hi9) rfl (pmC (pmC (pmA pr9))) ?_)⟩, trivial⟩)
 intro v26 G23 Ms25 hG23 q24
 refine match q24 with | ⟨e_28, hR27⟩ => ?_
 subst e_28
 refine W.perm (pmC (pmC pr9)).symm (W.nil (WD.n9 hG23 (sn9.k9.cons _) (WD.anyG [10] (by kernel_rfl) rfl ⟨⟨_, rfl, .inr ⟨_, 28, _, _, rfl, rfl, rfl, rfl, rfl⟩, (W.call (Mp := ((bRf, .cells (List.toArray [.int .i64 cfan, .int .i64 cleaf, .int .i64 cbud, .int .i64 cslots, .int .i64 crest, .slice saRf l.length scRf]) 38 (0, 0)) :: MoRf)) (Mr := ((b1, .cells (List.toArray [.int .i64 cfan, .int .i64 cleaf, .int .i64 cbud, .int .i64 cslots, .int .i64 crest]) 23 (0, 0)) :: (Ms25 ++ []))) (rparti_fc (c := (⟨cfan, cleaf, cbud, cslots, crest⟩ : Cfg)) (hoRf.mono hG23) p i hi9 hS t.slot) rfl (((pmC (pmA pr9)).cons _).trans pr9) ?_)⟩, trivial⟩)))
 intro v30 G31 Ms32 hG31 q29
 refine match q29 with | ⟨e_33, vRg, MoRg, eRg, hoRg⟩ => ?_
 subst e_33
 subst eRg
 have q35 := hoRg.form
 refine match q35 with | ⟨saRg, scRg, e_34⟩ => ?_
 subst e_34
 refine W.perm (M' := ((bRf, .cells (List.toArray [.int .i64 cfan, .int .i64 cleaf, .int .i64 cbud, .int .i64 cslots, .int .i64 crest, .slice saRg (partI (⟨cfan, cleaf, cbud, cslots, crest⟩ : Cfg) l p i).2.length scRg]) 38 (0, 0)) :: ((b1, .cells (List.toArray [.int .i64 cfan, .int .i64 cleaf, .int .i64 cbud, .int .i64 cslots, .int .i64 crest]) 23 (0, 0)) :: (MoRg ++ (Ms25 ++ []))))) (((pmC pr9).cons _).trans pr9).symm (W.nil (WD.n9 hG31 (sn9.k9.cons _) (WD.takeY 11 28 rfl rfl rfl rfl rfl rfl (by kernel_rfl) (by kernel_rfl) (by kernel_rfl) (ok_neq rfl rfl) (WD.tk 12 rfl (ok_pick_f rfl rfl) (WD.tk 13 rfl (ok_mv) ?_)))))
 refine WD.sp 39 rfl (fun h37 => ?_) (fun h37 => ?_)
 ·have p37 := nd_t h37
  try dsimp only at p37
  exact absurd rfl p37
 have p37 := nd_f h37
 try dsimp only at p37
 refine WD.takeY 14 39 rfl rfl rfl rfl rfl h37 (by kernel_rfl) (by kernel_rfl) (by kernel_rfl) (ok_mv) (WD.takeY 16 39 rfl rfl rfl rfl rfl h37 (by kernel_rfl) (by kernel_rfl) (by kernel_rfl) (ok_mv) (WD.takeY 17 39 rfl rfl rfl rfl rfl h37 (by kernel_rfl) (by kernel_rfl) (by kernel_rfl) (ok_nilP rfl) (WD.takeY 18 39 rfl rfl rfl rfl rfl h37 (by kernel_rfl) (by kernel_rfl) (by kernel_rfl) (ok_fieldB fd38_1 rfl) ?_)))
 refine WD.anyG [15, 19] (by kernel_rfl) rfl ⟨⟨_, rfl, .inr ⟨_, 39, _, _, rfl, rfl, rfl, h37, rfl⟩, ?_⟩, ⟨_, rfl, .inr ⟨_, 39, _, _, rfl, rfl, rfl, h37, rfl⟩, ?_⟩, trivial⟩
 ·refine W.call (Mp := Ms25) (pnodes_fc (StR.mono hG31 hR27)) rfl (pmC (pmC (pmA pr9))) ?_
  intro v39 G36 Ms38 hG36 q37
  refine match q37 with | ⟨hR40, eeq37⟩ => ?_
  have eeq37 := eeq37.symm
  subst eeq37
  refine W.perm (pmC (pmC pr9)).symm ?_
  have q42 := hR40.form
  refine match q42 with | ⟨sa_hR40, sc_hR40, e_41⟩ => ?_
  subst e_41
  refine W.nil (WD.n9 hG36 (sn9.k9.cons _) (WD.anyG [19] (by kernel_rfl) rfl ⟨⟨_, rfl, .inr ⟨_, 39, _, _, rfl, rfl, rfl, h37, rfl⟩, (W.ok (ok_loadB (i := 0) (vs := [.slice _ _ _]) ty24 rfl rfl rfl rfl (by simp)) (W.nil (WD.n9 Le.rfl (sn9.k9.cons _) (WD.anyG [20] (by kernel_rfl) rfl ⟨⟨_, rfl, .inr ⟨_, 39, _, _, rfl, rfl, rfl, h37, rfl⟩, (W.giveO (hoRg.mono hG36) (pmC (pmC (pmA pr9))) (fun G43 hG43 hv43 => (W.qcall ((all21_fc (hR40.mono hG43) hv43).mono (fun v _ _ _ hv => hv.trans (congrArg Value.bool (decide_eq_true rfl)))) rfl (W.nil (WD.n9 hG43 (sn9.k9.cons _) (WD.takeY 21 39 rfl rfl rfl rfl rfl h37 (by kernel_rfl) (by kernel_rfl) (by kernel_rfl) (ok_not rfl) (WD.tk 22 rfl (ok_pick_f rfl h37) (WD.done (by kernel_rfl) (thn_n (WC.cond_f rfl rfl (WC.skip (thn_n (WC.seq ?_)))))))))))))⟩, trivial⟩))))⟩, trivial⟩))
  refine WC.drawW _ (sn9.k9.k9) mix (by rintro _ _ _ _ ⟨h | h, _⟩ <;> cases h) (WD.tk 0 rfl (ok_loadB (i := 1) (vs := [.int .i64 _, .int .i64 _, .int .i64 _, .int .i64 _, .int .i64 _]) ty23 rfl rfl rfl rfl (by simp)) (WD.tk 1 rfl (ok_mv) (WD.a1 2 rfl (W.call (Mp := Ms25) (pnodes_fc (StR.mono ((hG31.trans hG36).trans hG43) hR27)) rfl (pmC (pmC pr9)) ?_))))
  intro v47 G44 Ms46 hG44 q45
  refine match q45 with | ⟨hR48, eeq45⟩ => ?_
  have eeq45 := eeq45.symm
  subst eeq45
  refine W.perm (pmC (pmC pr9)).symm ?_
  have q50 := hR48.form
  refine match q50 with | ⟨sa_hR48, sc_hR48, e_49⟩ => ?_
  subst e_49
  refine W.nil (WD.n9 hG44 (sn9.k9.k9) (WD.a1 3 rfl (W.qcall ((sound_fc _ _ _ _ _ hR48 hST).mono (fun v _ _ _ hv => hv.trans (congrArg Value.bool tT.sound))) rfl (W.nil (WD.n9 Le.rfl (sn9.k9.k9) (WD.tk 4 rfl (ok_mv) (WD.takeY 5 53 rfl rfl rfl rfl rfl rfl (by kernel_rfl) (by kernel_rfl) (by kernel_rfl) (ok_mv) (WD.takeY 8 53 rfl rfl rfl rfl rfl rfl (by kernel_rfl) (by kernel_rfl) (by kernel_rfl) (ok_mv) (WD.anyG [6] (by kernel_rfl) rfl ⟨⟨_, rfl, .inr ⟨_, 53, _, _, rfl, rfl, rfl, rfl, rfl⟩, (W.call (Mp := Ms25) (pnodes_fc (StR.mono (((hG31.trans hG36).trans hG43).trans hG44) hR27)) rfl (pmC (pmC pr9)) ?_)⟩, trivial⟩)))))))))
  intro v54 G51 Ms53 hG51 q52
  refine match q52 with | ⟨hR55, eeq52⟩ => ?_
  have eeq52 := eeq52.symm
  subst eeq52
  refine W.perm (pmC (pmC pr9)).symm ?_
  have q57 := hR55.form
  refine match q57 with | ⟨sa_hR55, sc_hR55, e_56⟩ => ?_
  subst e_56
  refine W.nil (WD.n9 hG51 (sn9.k9.k9) (WD.anyG [7] (by kernel_rfl) rfl ⟨⟨_, rfl, .inr ⟨_, 53, _, _, rfl, rfl, rfl, rfl, rfl⟩, (W.call (Mp := []) (map27_fc hR55 _ _ tT) rfl pr9 ?_)⟩, trivial⟩))
  intro _ G58 _ hG58 q60
  refine match q60 with | ⟨e_61, _, e_62, hv59⟩ => ?_
  subst e_61
  subst e_62
  have q64 := hv59.form
  refine match q64 with | ⟨sa_hv59, sc_hv59, e_63⟩ => ?_
  subst e_63
  refine W.nil (WD.n9 hG58 (sn9.k9.k9) (WD.anyG [9] (by kernel_rfl) rfl ⟨⟨_, rfl, .inr ⟨_, 53, _, _, rfl, rfl, rfl, rfl, rfl⟩, (W.call (Mp := []) (map27_fc (h_l.mono ((((((((hG2.trans hG16).trans hG23).trans hG31).trans hG36).trans hG43).trans hG44).trans hG51).trans hG58)) _ _ t) rfl pr9 ?_)⟩, trivial⟩))
  intro _ G65 _ hG65 q67
  refine match q67 with | ⟨e_68, _, e_69, hv66⟩ => ?_
  subst e_68
  subst e_69
  have q71 := hv66.form
  refine match q71 with | ⟨sa_hv66, sc_hv66, e_70⟩ => ?_
  subst e_70
  refine W.nil (WD.n9 hG65 (sn9.k9.k9) (WD.anyG [10] (by kernel_rfl) rfl ⟨⟨_, rfl, .inr ⟨_, 53, _, _, rfl, rfl, rfl, rfl, rfl⟩, (W.qcall ((samep_fc (hv59.mono hG65) hv66).mono (fun v _ _ _ hv => hv.trans (congrArg Value.bool (decide_eq_true hmT)))) rfl (W.nil (WD.n9 Le.rfl (sn9.k9.k9) (WD.tk 11 rfl (ok_pick_t rfl rfl) (WD.tk 12 rfl (ok_mv) (WD.takeY 13 61 rfl rfl rfl rfl rfl rfl (by kernel_rfl) (by kernel_rfl) (by kernel_rfl) (ok_mv) (WD.takeY 14 61 rfl rfl rfl rfl rfl rfl (by kernel_rfl) (by kernel_rfl) (by kernel_rfl) (ok_mv) (WD.anyG [15] (by kernel_rfl) rfl ⟨⟨_, rfl, .inr ⟨_, 61, _, _, rfl, rfl, rfl, rfl, rfl⟩, (W.qcall (gpart_nil _ _) rfl (W.nil (WD.n9 Le.rfl (sn9.k9.k9) (WD.takeY 16 61 rfl rfl rfl rfl rfl rfl (by kernel_rfl) (by kernel_rfl) (by kernel_rfl) (ok_eql rfl rfl) (WD.tk 17 rfl (ok_pick_t rfl rfl) (WD.tk 18 rfl (ok_mv) ?_))))))⟩, trivial⟩))))))))⟩, trivial⟩))
  refine WD.sp 67 rfl (fun h65 => ?_) (fun h65 => ?_)
  ·have p65 := of_decide_eq_true h65
   try dsimp only at p65
   refine WD.anyG [19] (by kernel_rfl) rfl ⟨⟨_, rfl, .inr ⟨_, 67, _, _, rfl, rfl, rfl, h65, rfl⟩, (W.qcall (awk26_fc) rfl (W.nil (WD.n9 Le.rfl (sn9.k9.k9) (WD.tk 20 rfl (ok_pick_t rfl h65) (WD.tk 21 rfl (ok_as) (WD.done (by kernel_rfl) (thn_n (WC.ret ?_))))))))⟩, trivial⟩
   refine ⟨.inr rfl, [_], ⟨rfl, trivial⟩, [], sn9, ?_⟩
   rfl
  have p65 := of_decide_eq_false h65
  try dsimp only at p65
  exact absurd rfl p65
 refine W.ok (ok_loadB (i := 0) (vs := [.slice _ _ _]) ty24 rfl rfl rfl rfl (by simp)) (W.nil (WD.n9 Le.rfl (sn9.k9.cons _) (WD.anyG [15] (by kernel_rfl) rfl ⟨⟨_, rfl, .inr ⟨_, 39, _, _, rfl, rfl, rfl, h37, rfl⟩, (W.call (Mp := Ms25) (pnodes_fc (StR.mono hG31 hR27)) rfl (pmC (pmC (pmA pr9))) ?_)⟩, trivial⟩)))
 intro v75 G72 Ms74 hG72 q73
 refine match q73 with | ⟨hR76, eeq73⟩ => ?_
 have eeq73 := eeq73.symm
 subst eeq73
 refine W.perm (pmC (pmC pr9)).symm ?_
 have q78 := hR76.form
 refine match q78 with | ⟨sa_hR76, sc_hR76, e_77⟩ => ?_
 subst e_77
 refine W.nil (WD.n9 hG72 (sn9.k9.cons _) (WD.anyG [20] (by kernel_rfl) rfl ⟨⟨_, rfl, .inr ⟨_, 39, _, _, rfl, rfl, rfl, h37, rfl⟩, (W.giveO (hoRg.mono hG72) (pmC (pmC (pmA pr9))) (fun G79 hG79 hv79 => (W.qcall ((all21_fc (hR76.mono hG79) hv79).mono (fun v _ _ _ hv => hv.trans (congrArg Value.bool (decide_eq_true rfl)))) rfl (W.nil (WD.n9 hG79 (sn9.k9.cons _) (WD.takeY 21 39 rfl rfl rfl rfl rfl h37 (by kernel_rfl) (by kernel_rfl) (by kernel_rfl) (ok_not rfl) (WD.tk 22 rfl (ok_pick_f rfl h37) (WD.done (by kernel_rfl) (thn_n (WC.cond_f rfl rfl (WC.skip (thn_n (WC.seq (WC.drawW _ (sn9.k9.k9) mix (by rintro _ _ _ _ ⟨h | h, _⟩ <;> cases h) (WD.tk 0 rfl (ok_loadB (i := 1) (vs := [.int .i64 _, .int .i64 _, .int .i64 _, .int .i64 _, .int .i64 _]) ty23 rfl rfl rfl rfl (by simp)) (WD.tk 1 rfl (ok_mv) ?_))))))))))))))))⟩, trivial⟩))
 refine WD.a1 2 rfl (W.call (Mp := Ms25) (pnodes_fc (StR.mono ((hG31.trans hG72).trans hG79) hR27)) rfl (pmC (pmC pr9)) ?_)
 intro v83 G80 Ms82 hG80 q81
 refine match q81 with | ⟨hR84, eeq81⟩ => ?_
 have eeq81 := eeq81.symm
 subst eeq81
 refine W.perm (pmC (pmC pr9)).symm ?_
 have q86 := hR84.form
 refine match q86 with | ⟨sa_hR84, sc_hR84, e_85⟩ => ?_
 subst e_85
 refine W.nil (WD.n9 hG80 (sn9.k9.k9) (WD.a1 3 rfl (W.qcall ((sound_fc _ _ _ _ _ hR84 hST).mono (fun v _ _ _ hv => hv.trans (congrArg Value.bool tT.sound))) rfl (W.nil (WD.n9 Le.rfl (sn9.k9.k9) (WD.tk 4 rfl (ok_mv) (WD.takeY 5 53 rfl rfl rfl rfl rfl rfl (by kernel_rfl) (by kernel_rfl) (by kernel_rfl) (ok_mv) (WD.takeY 8 53 rfl rfl rfl rfl rfl rfl (by kernel_rfl) (by kernel_rfl) (by kernel_rfl) (ok_mv) (WD.anyG [6] (by kernel_rfl) rfl ⟨⟨_, rfl, .inr ⟨_, 53, _, _, rfl, rfl, rfl, rfl, rfl⟩, (W.call (Mp := Ms25) (pnodes_fc (StR.mono (((hG31.trans hG72).trans hG79).trans hG80) hR27)) rfl (pmC (pmC pr9)) ?_)⟩, trivial⟩)))))))))
 intro v90 G87 Ms89 hG87 q88
 refine match q88 with | ⟨hR91, eeq88⟩ => ?_
 have eeq88 := eeq88.symm
 subst eeq88
 refine W.perm (pmC (pmC pr9)).symm ?_
 have q93 := hR91.form
 refine match q93 with | ⟨sa_hR91, sc_hR91, e_92⟩ => ?_
 subst e_92
 refine W.nil (WD.n9 hG87 (sn9.k9.k9) (WD.anyG [7] (by kernel_rfl) rfl ⟨⟨_, rfl, .inr ⟨_, 53, _, _, rfl, rfl, rfl, rfl, rfl⟩, (W.call (Mp := []) (map27_fc hR91 _ _ tT) rfl pr9 ?_)⟩, trivial⟩))
 intro _ G94 _ hG94 q96
 refine match q96 with | ⟨e_97, _, e_98, hv95⟩ => ?_
 subst e_97
 subst e_98
 have q100 := hv95.form
 refine match q100 with | ⟨sa_hv95, sc_hv95, e_99⟩ => ?_
 subst e_99
 refine W.nil (WD.n9 hG94 (sn9.k9.k9) (WD.anyG [9] (by kernel_rfl) rfl ⟨⟨_, rfl, .inr ⟨_, 53, _, _, rfl, rfl, rfl, rfl, rfl⟩, (W.call (Mp := []) (map27_fc (h_l.mono ((((((((hG2.trans hG16).trans hG23).trans hG31).trans hG72).trans hG79).trans hG80).trans hG87).trans hG94)) _ _ t) rfl pr9 ?_)⟩, trivial⟩))
 intro _ G101 _ hG101 q103
 refine match q103 with | ⟨e_104, _, e_105, hv102⟩ => ?_
 subst e_104
 subst e_105
 have q107 := hv102.form
 refine match q107 with | ⟨sa_hv102, sc_hv102, e_106⟩ => ?_
 subst e_106
 refine W.nil (WD.n9 hG101 (sn9.k9.k9) (WD.anyG [10] (by kernel_rfl) rfl ⟨⟨_, rfl, .inr ⟨_, 53, _, _, rfl, rfl, rfl, rfl, rfl⟩, (W.qcall ((samep_fc (hv95.mono hG101) hv102).mono (fun v _ _ _ hv => hv.trans (congrArg Value.bool (decide_eq_true hmT)))) rfl (W.nil (WD.n9 Le.rfl (sn9.k9.k9) (WD.tk 11 rfl (ok_pick_t rfl rfl) (WD.tk 12 rfl (ok_mv) (WD.takeY 13 61 rfl rfl rfl rfl rfl rfl (by kernel_rfl) (by kernel_rfl) (by kernel_rfl) (ok_mv) (WD.takeY 14 61 rfl rfl rfl rfl rfl rfl (by kernel_rfl) (by kernel_rfl) (by kernel_rfl) (ok_mv) (WD.anyG [15] (by kernel_rfl) rfl ⟨⟨_, rfl, .inr ⟨_, 61, _, _, rfl, rfl, rfl, rfl, rfl⟩, (W.qcall (gpart_nil _ _) rfl (W.nil (WD.n9 Le.rfl (sn9.k9.k9) (WD.takeY 16 61 rfl rfl rfl rfl rfl rfl (by kernel_rfl) (by kernel_rfl) (by kernel_rfl) (ok_eql rfl rfl) (WD.tk 17 rfl (ok_pick_t rfl rfl) (WD.tk 18 rfl (ok_mv) ?_))))))⟩, trivial⟩))))))))⟩, trivial⟩))
 refine WD.sp 67 rfl (fun h65 => ?_) (fun h65 => ?_)
 ·have p65 := of_decide_eq_true h65
  try dsimp only at p65
  refine WD.anyG [19] (by kernel_rfl) rfl ⟨⟨_, rfl, .inr ⟨_, 67, _, _, rfl, rfl, rfl, h65, rfl⟩, (W.qcall (awk26_fc) rfl (W.nil (WD.n9 Le.rfl (sn9.k9.k9) (WD.tk 20 rfl (ok_pick_t rfl h65) (WD.tk 21 rfl (ok_as) (WD.done (by kernel_rfl) (thn_n (WC.ret ?_))))))))⟩, trivial⟩
  refine ⟨.inr rfl, [_], ⟨rfl, trivial⟩, [], sn9, ?_⟩
  rfl
 have p65 := of_decide_eq_false h65
 try dsimp only at p65
 exact absurd rfl p65

end Go.Proofs.YtebkfinhhpelbaaGreat
