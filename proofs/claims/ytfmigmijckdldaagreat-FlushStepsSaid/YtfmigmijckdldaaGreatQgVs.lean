/- The walk of a step of a cycle, by definition. -/
import Derived.Test.YtfmigmijckdldaaGreatQgUu
set_option maxRecDepth 100000
set_option maxHeartbeats 1600000
set_option linter.unusedVariables false
set_option linter.unusedSimpArgs false
set_option linter.unnecessarySimpa false
namespace Go.Proofs.YtfmigmijckdldaaGreat
open Go Go.Fw Go.RowKit
attribute [local irreducible] Ok W WC
theorem rchoose_c {G : GH} {c : Cfg} {cs : List Value} {n : Nd} (h : NodeC G cs n) (k : Str) (hq : ChoosePre n) : Fc Tryz.prog 33 [.agg #[iV c.fan, iV c.leaf, iV c.bud, iV c.slots, iV c.rest], .agg (List.toArray cs), sV k.b] G [] (fun v _ _ => v = .tuple #[iV (chooseN c n k).1, iV (chooseN c n k).2]) := rchoose_fc c.fan c.leaf c.bud c.slots c.rest h k hq
theorem rdecide_c {G : GH} {c : Cfg} {cs cs2 : List Value} {p k : Nd} (h : NodeC G cs p) (h2 : NodeC G cs2 k) (i : Int) (hq : PourPre c.bud p k) (hi : i64 i) (hko : KidOf p k i) (hms : MsgsR p.msgs) (hkl : p.kids.length = p.pivots.length + 1) : Fc Tryz.prog 35 [.agg #[iV c.fan, iV c.leaf, iV c.bud, iV c.slots, iV c.rest], .agg (List.toArray cs), .agg (List.toArray cs2), iV i] G [] (fun v _ _ => v = iV (decideN c p k i)) := rdecide_fc c.fan c.leaf c.bud c.slots c.rest h h2 i hq hi hko hms hkl
theorem rstep_fc {G : GH} {b_s : Nat} {c : Cfg} {v_l : Value} {l : List Nd} {Ms_l : MH} (h_l : OwnR eNode 53 G v_l l Ms_l) (a : Int) (k : Str) (ss : List Seat) (t : Tree c l ss) (ha : 0 ≤ a ∧ a < (l.length : Int)) :
    Fc Tryz.prog 12 [pt9 b_s, iV a, sV k.b] G ((b_s, ce9 39 [iV c.fan, iV c.leaf, iV c.bud, iV c.slots, iV c.rest, v_l]) :: (Ms_l)) (fun v G' M' => v = .tuple #[iV (stepN c l a k).1.1, iV (stepN c l a k).1.2.1, iV (stepN c l a k).1.2.2] ∧ RfR 53 39 b_s c G' (stepN c l a k).2 M') := by
 obtain ⟨sa_l, sc_l, rfl⟩ := h_l.form
 have hl := h_l.len47
 have hS := t.sml
 have hgp : l[a.toNat]'om9 = getL l a := (getL_in ha).symm
 obtain ⟨P9, hP9, eP9⟩ := t.seat_of ha
 have hPR9 := (t.seat hP9).1
 rw [eP9] at hPR9
 have hPD := nds_R t.cfg hPR9
 have hcp : ChoosePre (getL l a) := choose_pre hPR9 hPD
 have hrn := t.rootn
 have hlvl := t.height
 have hlv0 := t.lvl t.root
 rw [hrn] at hlvl hlv0
 have hlv : i64 ((getL l 0).level + 1) := ⟨om9, om9⟩
 have hks0 : ∀ m ∈ (getL l 0).msgs, m.key.b.size < 140737488355328 := fun m hm => by rw [← hrn] at hm; have := (msgR_key ((t.msgs t.root).2.1 m hm)).1; omega
 have hlp := t.pos
 have hl4 := hS.1
 refine Fc.go [.tmp 6, .tmp 7, .tmp 8] Tryz.func12 Tryz.ntmps12 rfl (fun w0 => (WC.perm (M' := ((b_s, ce9 39 [iV c.fan, iV c.leaf, iV c.bud, iV c.slots, iV c.rest, lV sa_l l.length sc_l]) :: (Ms_l ++ []))) (by simp) (g9 14 ?_)))
 have q5 := ownAt h_l om9 (hgp)
 refine match q5 with | ⟨_, he1, ⟨pa_n3, pc_n3, ka_n3, kc_n3, ma_n3, mc_n3, ra_n3, rc_n3, e_4, hp_n3, hk_n3, hm_n3, hr_n3, hok_n3⟩⟩ => ?_
 subst e_4
 refine W.ok (ok_indexAddrO (i := a.toNat) sl24 ty53 h_l rfl rfl ⟨om9, om9⟩) (W.ok (ok_loadO (vs := nd9) ty53 he1 (pmC pr9) rfl rfl rfl (by simp)) (W.alloc zr53 (fun b6 => (g9 11 ?_))))
 refine W.qcall (rchoose_c (c := c) (n := (getL l a)) (nk9 hp_n3 hk_n3 hm_n3 hr_n3 hok_n3) k hcp) rfl (g9 14 ?_)
 refine WC.cd (fun h36 p36 => ?_) (fun h36 p36 => ?_)
 ·try dsimp only at p36
  refine g9 4 ?_
  refine W.call (Mp := ((b_s, ce9 39 [iV c.fan, iV c.leaf, iV c.bud, iV c.slots, iV c.rest, lV sa_l l.length sc_l]) :: Ms_l)) (Mr := ((b6, ce9 53 (ndl (getL l a) pa_n3 pc_n3 ka_n3 kc_n3 ma_n3 mc_n3 ra_n3 rc_n3)) :: [])) (rlift26_fc (c := c) h_l ⟨hlp, hl4⟩ hlv hks0) rfl (((pmC pr9).cons _).trans ((List.Perm.swap _ _ _).trans (pr9.cons _))) ?_
  intro v8 G9 Ms10 hG9 q7
  refine match q7 with | ⟨e_12, vr11, Mor11, eRr11, hor11⟩ => ?_
  subst e_12
  subst eRr11
  have q14 := hor11.form
  refine match q14 with | ⟨sar11, scr11, e_13⟩ => ?_
  subst e_13
  refine W.perm (M' := ((b_s, ce9 39 [iV c.fan, iV c.leaf, iV c.bud, iV c.slots, iV c.rest, lV sar11 ((liftS c l).2).length scr11]) :: ((b6, ce9 53 (ndl (getL l a) pa_n3 pc_n3 ka_n3 kc_n3 ma_n3 mc_n3 ra_n3 rc_n3)) :: (Mor11 ++ [])))) (((pmC pr9).cons _).trans pr9).symm (g9 9 ?_)
  refine WC.cn (fun h40 p40 => ?_) (fun h40 p40 => ?_)
  ·try dsimp only at p40
   refine g9 12 ?_
   refine ⟨.inr rfl, [_, _, _], ⟨rfl, rfl, rfl, trivial⟩, ((b_s, ce9 39 [iV c.fan, iV c.leaf, iV c.bud, iV c.slots, iV c.rest, lV sar11 ((liftS c l).2).length scr11]) :: (Mor11 ++ [])), (sr9.cons _).k9, ?_⟩
   have hE := step_e p36 p40
   exact ⟨tup3 hE rfl rfl rfl, RfR.to (⟨_, _, congrArg _ (List.append_nil _), hor11⟩ : RfR 53 39 b_s c _ _ _) (congrArg Prod.snd hE).symm⟩
  try dsimp only at p40
  refine g9 12 ?_
  refine ⟨.inr rfl, [_, _, _], ⟨rfl, rfl, rfl, trivial⟩, ((b_s, ce9 39 [iV c.fan, iV c.leaf, iV c.bud, iV c.slots, iV c.rest, lV sar11 ((liftS c l).2).length scr11]) :: (Mor11 ++ [])), (sr9.cons _).k9, ?_⟩
  have hE := step_1 p36 om9
  exact ⟨tup3 hE rfl rfl rfl, RfR.to (⟨_, _, congrArg _ (List.append_nil _), hor11⟩ : RfR 53 39 b_s c _ _ _) (congrArg Prod.snd hE).symm⟩
 try dsimp only at p36
 refine g9 9 ?_
 refine WC.cd (fun h45 p45 => ?_) (fun h45 p45 => ?_)
 ·try dsimp only at p45
  refine g9 10 ?_
  refine ⟨.inr rfl, [_, _, _], ⟨rfl, rfl, rfl, trivial⟩, ((b_s, ce9 39 [iV c.fan, iV c.leaf, iV c.bud, iV c.slots, iV c.rest, lV sa_l l.length sc_l]) :: (Ms_l ++ [])), sr9.k9.cons _, ?_⟩
  have hE := step_0 p45
  exact ⟨tup3 hE rfl rfl rfl, RfR.to (⟨_, _, congrArg _ (List.append_nil _), h_l⟩ : RfR 53 39 b_s c _ _ _) (congrArg Prod.snd hE).symm⟩
 try dsimp only at p45
 have q43 : (chooseN c (getL l a) k).1 = 2 := by rcases choose_cases c (getL l a) k with h9 | h9 | ⟨h9, _⟩; exact absurd h9 p45; exact absurd h9 p36; exact h9
 obtain ⟨h0, hi⟩ := choose_in (k := k) t ha q43
 have hi9 : i64 (chooseN c (getL l a) k).2 := ⟨om9, by have := hPD.1; omega⟩
 obtain ⟨P, s⟩ := step_at t ha h0 hi
 have hPR := (t.seat s.mem).1
 have hKm := (t.at s.mem s.h0 (j := ((chooseN c (getL l a) k).2).toNat) (by have := s.hi; omega)).1
 have hKR := (t.seat hKm).1
 rw [s.n] at hPR
 rw [s.kid] at hKR
 have hsl : (getL l a).slot = a := (getL_slot t.slot ha).1
 have hPS := t.sml.2 _ (getL_slot t.slot ha).2
 have hKS := t.sml.2 _ (getL_slot t.slot s.kin).2
 have hPD : NdS (getL l a) := nds_R t.cfg hPR
 have hKD : NdS (kidAt l a (chooseN c (getL l a) k).2) := nds_R t.cfg hKR
 have hcb9 : c.bud ≤ 9223372036854775807 := by have := t.cfg.2.2.1.2; omega
 have hq : PourPre c.bud (getL l a) (kidAt l a (chooseN c (getL l a) k).2) := pre_of hPR hKR h0 hPD hKD hcb9
 have hin9 : (getL l a).innerR c.fan c.bud := by have h4 := hPR.2.2.2; rwa [if_neg h0] at h4
 have hms := hin9.2.2.1
 have hkl := (rightN_spec hin9.2.1).2
 have hi91 := hi9.1
 have hi92 := hi9.2
 have hlk9 : ((getL l a).kids.length : Int) ≤ 4000 := by have := hPD.1; omega
 have hkd : (getL l a).kids[((chooseN c (getL l a) k).2).toNat]'om9 = ((getL l a).kids.getD ((chooseN c (getL l a) k).2).toNat 0) := by rw [List.getD_eq_getElem?_getD, List.getElem?_eq_getElem om9]; rfl
 have hkin := s.kin
 have hgk : l[(((getL l a).kids.getD ((chooseN c (getL l a) k).2).toNat 0)).toNat]'om9 = (kidAt l a (chooseN c (getL l a) k).2) := (getL_in s.kin).symm
 refine g9 3 ?_
 refine WC.dw (sr9.k9.k9) (d9 [0, 1, 2, 3, 4, 5, 6] ?_)
 refine hk_n3.a2 (i := ((chooseN c (getL l a) k).2).toNat) om9 (fun he15 hi16 => (WD.tk 7 rfl (ok_indexAddr (i := ((chooseN c (getL l a) k).2).toNat) sl50 ty3 hk_n3 rfl rfl ⟨om9, om9⟩) (d9 [8] ?_)))
 have q23 := ownAt h_l om9 (hgk)
 refine match q23 with | ⟨_, he19, ⟨pa_n21, pc_n21, ka_n21, kc_n21, ma_n21, mc_n21, ra_n21, rc_n21, e_22, hp_n21, hk_n21, hm_n21, hr_n21, hok_n21⟩⟩ => ?_
 subst e_22
 refine WD.tk 9 rfl (ok_indexAddrO (i := (((getL l a).kids.getD ((chooseN c (getL l a) k).2).toNat 0)).toNat) sl24 ty53 h_l rfl rfl ⟨om9, om9⟩) (WD.tk 10 rfl (ok_loadO (vs := nd9) ty53 he19 (pmC (pmC pr9)) rfl rfl rfl (by simp)) (WD.a1 11 rfl (W.alloc zr53 (fun b24 => (W.nn (d9 [12] ?_))))))
 refine g9 11 ?_
 refine W.qcall (rdecide_c (c := c) (p := (getL l a)) (k := (kidAt l a (chooseN c (getL l a) k).2)) (nk9 hp_n3 hk_n3 hm_n3 hr_n3 hok_n3) (nk9 hp_n21 hk_n21 hm_n21 hr_n21 hok_n21) (chooseN c (getL l a) k).2 hq hi9 s.kof hms hkl) rfl (g9 10 ?_)
 refine WC.cd (fun h67 p67 => ?_) (fun h67 p67 => ?_)
 ·try dsimp only at p67
  refine g9 5 ?_
  refine W.call (Mp := ((b_s, ce9 39 [iV c.fan, iV c.leaf, iV c.bud, iV c.slots, iV c.rest, lV sa_l l.length sc_l]) :: Ms_l)) (Mr := ((b24, ce9 53 (ndl (kidAt l a (chooseN c (getL l a) k).2) pa_n21 pc_n21 ka_n21 kc_n21 ma_n21 mc_n21 ra_n21 rc_n21)) :: ((b6, ce9 53 (ndl (getL l a) pa_n3 pc_n3 ka_n3 kc_n3 ma_n3 mc_n3 ra_n3 rc_n3)) :: []))) (rparti_fc (c := c) h_l a (chooseN c (getL l a) k).2 hi9 hS t.slot) rfl (((pmC (pmC pr9)).cons _).trans ((List.Perm.swap _ _ _).trans (((List.Perm.swap _ _ _).trans (pr9.cons _)).cons _))) ?_
  intro v26 G27 Ms28 hG27 q25
  refine match q25 with | ⟨e_30, vr29, Mor29, eRr29, hor29⟩ => ?_
  subst e_30
  subst eRr29
  have q32 := hor29.form
  refine match q32 with | ⟨sar29, scr29, e_31⟩ => ?_
  subst e_31
  refine W.perm (M' := ((b_s, ce9 39 [iV c.fan, iV c.leaf, iV c.bud, iV c.slots, iV c.rest, lV sar29 ((partI c l a (chooseN c (getL l a) k).2).2).length scr29]) :: ((b24, ce9 53 (ndl (kidAt l a (chooseN c (getL l a) k).2) pa_n21 pc_n21 ka_n21 kc_n21 ma_n21 mc_n21 ra_n21 rc_n21)) :: ((b6, ce9 53 (ndl (getL l a) pa_n3 pc_n3 ka_n3 kc_n3 ma_n3 mc_n3 ra_n3 rc_n3)) :: (Mor29 ++ []))))) (((pmC (pmC pr9)).cons _).trans pr9).symm (g9 9 ?_)
  refine WC.cn (fun h73 p73 => ?_) (fun h73 p73 => ?_)
  ·try dsimp only at p73
   refine g9 11 ?_
   refine ⟨.inr rfl, [_, _, _], ⟨rfl, rfl, rfl, trivial⟩, ((b_s, ce9 39 [iV c.fan, iV c.leaf, iV c.bud, iV c.slots, iV c.rest, lV sar29 ((partI c l a (chooseN c (getL l a) k).2).2).length scr29]) :: (Mor29 ++ [])), ((sr9.cons _).cons _).k9, ?_⟩
   have hE := (step_2 q43).trans (kid_e p67 p73)
   exact ⟨tup3 hE rfl rfl rfl, RfR.to (⟨_, _, congrArg _ (List.append_nil _), hor29⟩ : RfR 53 39 b_s c _ _ _) (congrArg Prod.snd hE).symm⟩
  try dsimp only at p73
  refine g9 9 ?_
  refine WC.cd (fun h77 p77 => ?_) (fun h77 p77 => ?_)
  ·try dsimp only at p77
   have p77c : decideN c (getL l a) (kidAt l a (chooseN c (getL l a) k).2) (chooseN c (getL l a) k).2 = 4 := p77
   have hcp9 : 0 < countN c.leaf c.bud (getL l a) (kidAt l a (chooseN c (getL l a) k).2) (chooseN c (getL l a) k).2 := by rcases decide_cases c (getL l a) (kidAt l a (chooseN c (getL l a) k).2) (chooseN c (getL l a) k).2 with h9 | h9 | ⟨_, h9⟩ | h9; omega; omega; exact h9; omega
   have hpq9 := s.pour t hcp9
   obtain ⟨T9, hpo⟩ := hpq9
   have hsA : (pourN c.leaf c.bud (getL l a) (kidAt l a (chooseN c (getL l a) k).2) (chooseN c (getL l a) k).2).1.slot = a := by rw [hpo.al.1]; exact s.slot
   have hsB : (pourN c.leaf c.bud (getL l a) (kidAt l a (chooseN c (getL l a) k).2) (chooseN c (getL l a) k).2).2.1.slot = ((kidAt l a (chooseN c (getL l a) k).2)).slot := by rw [hpo.bl.1, s.kid]
   have hsC : 0 ≤ ((kidAt l a (chooseN c (getL l a) k).2)).slot ∧ ((kidAt l a (chooseN c (getL l a) k).2)).slot < (l.length : Int) := by rw [s.ksl]; exact s.kin
   exfalso; omega
  try dsimp only at p77
  refine g9 9 ?_
  refine WC.cd (fun h106 p106 => ?_) (fun h106 p106 => ?_)
  ·try dsimp only at p106
   exfalso; omega
  try dsimp only at p106
  refine g9 12 ?_
  refine ⟨.inr rfl, [_, _, _], ⟨rfl, rfl, rfl, trivial⟩, ((b_s, ce9 39 [iV c.fan, iV c.leaf, iV c.bud, iV c.slots, iV c.rest, lV sar29 ((partI c l a (chooseN c (getL l a) k).2).2).length scr29]) :: (Mor29 ++ [])), ((sr9.cons _).cons _).k9, ?_⟩
  have hE := (step_2 q43).trans (kid_3 p67 om9)
  exact ⟨tup3 hE p67 rfl rfl, RfR.to (⟨_, _, congrArg _ (List.append_nil _), hor29⟩ : RfR 53 39 b_s c _ _ _) (congrArg Prod.snd hE).symm⟩
 try dsimp only at p67
 refine g9 9 ?_
 refine WC.cd (fun h77 p77 => ?_) (fun h77 p77 => ?_)
 ·try dsimp only at p77
  have p77c : decideN c (getL l a) (kidAt l a (chooseN c (getL l a) k).2) (chooseN c (getL l a) k).2 = 4 := p77
  have hcp9 : 0 < countN c.leaf c.bud (getL l a) (kidAt l a (chooseN c (getL l a) k).2) (chooseN c (getL l a) k).2 := by rcases decide_cases c (getL l a) (kidAt l a (chooseN c (getL l a) k).2) (chooseN c (getL l a) k).2 with h9 | h9 | ⟨_, h9⟩ | h9; omega; omega; exact h9; omega
  have hpq9 := s.pour t hcp9
  obtain ⟨T9, hpo⟩ := hpq9
  have hsA : (pourN c.leaf c.bud (getL l a) (kidAt l a (chooseN c (getL l a) k).2) (chooseN c (getL l a) k).2).1.slot = a := by rw [hpo.al.1]; exact s.slot
  have hsB : (pourN c.leaf c.bud (getL l a) (kidAt l a (chooseN c (getL l a) k).2) (chooseN c (getL l a) k).2).2.1.slot = ((kidAt l a (chooseN c (getL l a) k).2)).slot := by rw [hpo.bl.1, s.kid]
  have hsC : 0 ≤ ((kidAt l a (chooseN c (getL l a) k).2)).slot ∧ ((kidAt l a (chooseN c (getL l a) k).2)).slot < (l.length : Int) := by rw [s.ksl]; exact s.kin
  refine WC.seq (WC.dw ((sn9.k9.k9).k9) (d9 [0, 1, 2, 3, 4, 5, 6] ?_))
  refine WD.any [7, 12, 13] (by kernel_rfl) rfl ⟨WD.ap ?_, WD.ap ?_, WD.ap ?_, trivial⟩
  ·refine W.cM (rpour_fc c.fan c.leaf c.bud c.slots c.rest (p := (getL l a)) (k := (kidAt l a (chooseN c (getL l a) k).2)) (nk9 hp_n3 hk_n3 hm_n3 hr_n3 hok_n3) (nk9 hp_n21 hk_n21 hm_n21 hr_n21 hok_n21) (chooseN c (getL l a) k).2 hq.hb hq.hr hq.hpv hq.hpm hq.hkm hq.hkr hi9 hq.hsz hms hkl) rfl (fun _ _ _ _ _ _ _ _ _ _ _ _ _ _ _ _ G33 hG33 hp_hv34 hk_hv34 hm_hv34 hr_hv34 hok_hv34 hp_hv35 hk_hv35 hm_hv35 hr_hv35 hok_hv35 => (W.nn (d9 [8, 9, 10, 11] ?_)))
   refine WD.any [12, 13] (by kernel_rfl) rfl ⟨WD.ap ?_, WD.ap ?_, trivial⟩
   ·refine W.alloc zr53 (fun b42 => (W.nn (WD.a1 13 rfl (W.alloc zr53 (fun b43 => (W.nn (d9 [14, 15, 16] ?_)))))))
    refine g9 3 ?_
    refine WC.dw ((((sn9.k9.k9).k9).k9).k9) (d9 [0, 1, 2, 3, 4, 5] ?_)
    refine (h_l.mono hG33).aN (i := a.toNat) om9 (fun _ _ _ _ _ _ _ _ he44 hp_n45 hk_n45 hm_n45 hr_n45 hok_n45 => (WD.tk 6 rfl (ok_indexAddrO (i := a.toNat) sl24 ty53 (h_l.mono hG33) rfl rfl ⟨om9, om9⟩) (WD.a1 7 rfl (W.storeO (i := a.toNat) (o := 0) (vs := nd9) (a' := (pourN c.leaf c.bud (getL l a) (kidAt l a (chooseN c (getL l a) k).2) (chooseN c (getL l a) k).2).1) ty53 rfl rfl rfl rfl rfl ((h_l.mono hG33)) (pmC (pmC (pmC (pmC (pmC pr9))))) (by first | omega | (rw [List.length_set]; omega)) (by decide) (fun cs h => by obtain ⟨_, _, _, _, _, _, _, _, rfl, _⟩ := h; exact (nk9 hp_hv34 hk_hv34 hm_hv34 hr_hv34 hok_hv34)) (fun Ms48 ho49 => (W.perm (pmC (pmC (pmC (pmC (pmC pr9))))).symm (W.nn (g9 2 ?_))))))))
    refine WC.dw ((((sn9.k9.k9).k9).k9).k9) (d9 [0, 1, 2, 3, 4, 5, 6] ?_)
    refine ho49.aN (i := ((kidAt l a (chooseN c (getL l a) k).2)).slot.toNat) (by rw [List.length_set]; omega) (fun _ _ _ _ _ _ _ _ he50 hp_n51 hk_n51 hm_n51 hr_n51 hok_n51 => (WD.tk 7 rfl (ok_indexAddrO (i := ((kidAt l a (chooseN c (getL l a) k).2)).slot.toNat) sl24 ty53 ho49 rfl rfl ⟨om9, by rw [List.length_set]; omega⟩) (WD.a1 8 rfl (W.storeO (i := ((kidAt l a (chooseN c (getL l a) k).2)).slot.toNat) (o := 0) (vs := nd9) (a' := (pourN c.leaf c.bud (getL l a) (kidAt l a (chooseN c (getL l a) k).2) (chooseN c (getL l a) k).2).2.1) ty53 rfl rfl rfl rfl rfl (ho49) (pmC (pmC (pmC (pmC (pmC pr9))))) (by first | omega | (rw [List.length_set]; omega)) (by decide) (fun cs h => by obtain ⟨_, _, _, _, _, _, _, _, rfl, _⟩ := h; exact (nk9 hp_hv35 hk_hv35 hm_hv35 hr_hv35 hok_hv35)) (fun Ms54 ho55 => (W.perm (pmC (pmC (pmC (pmC (pmC pr9))))).symm (W.nn (g9 9 ?_))))))))
    refine WC.cd (fun h106 p106 => ?_) (fun h106 p106 => ?_)
    ·try dsimp only at p106
     exfalso; omega
    try dsimp only at p106
    refine g9 12 ?_
    refine ⟨.inr rfl, [_, _, _], ⟨rfl, rfl, rfl, trivial⟩, ((b_s, ce9 39 [iV c.fan, iV c.leaf, iV c.bud, iV c.slots, iV c.rest, lV sa_l l.length sc_l]) :: (Ms54 ++ [])), (((sr9.k9.cons _).cons _).cons _).cons _, ?_⟩
    have hE := (step_2 q43).trans (kid_4 p77)
    have hL9 : ((l.set a.toNat (pourN c.leaf c.bud (getL l a) (kidAt l a (chooseN c (getL l a) k).2) (chooseN c (getL l a) k).2).1).set ((kidAt l a (chooseN c (getL l a) k).2)).slot.toNat (pourN c.leaf c.bud (getL l a) (kidAt l a (chooseN c (getL l a) k).2) (chooseN c (getL l a) k).2).2.1) = pourL l (pourN c.leaf c.bud (getL l a) (kidAt l a (chooseN c (getL l a) k).2) (chooseN c (getL l a) k).2).1 (pourN c.leaf c.bud (getL l a) (kidAt l a (chooseN c (getL l a) k).2) (chooseN c (getL l a) k).2).2.1 := by unfold pourL; rw [hsA, hsB]
    exact ⟨tup3 hE p77 rfl rfl, RfR.to (⟨_, _, congrArg _ (List.append_nil _), ho55⟩ : RfR 53 39 b_s c _ _ _) (hL9.trans (congrArg Prod.snd hE).symm)⟩
   refine W.alloc zr53 (fun b56 => (W.nn (WD.a1 12 rfl (W.alloc zr53 (fun b57 => (W.nn (d9 [14, 15, 16] ?_)))))))
   refine g9 3 ?_
   refine WC.dw ((((sn9.k9.k9).k9).k9).k9) (d9 [0, 1, 2, 3, 4, 5] ?_)
   refine (h_l.mono hG33).aN (i := a.toNat) om9 (fun _ _ _ _ _ _ _ _ he58 hp_n59 hk_n59 hm_n59 hr_n59 hok_n59 => (WD.tk 6 rfl (ok_indexAddrO (i := a.toNat) sl24 ty53 (h_l.mono hG33) rfl rfl ⟨om9, om9⟩) (WD.a1 7 rfl (W.storeO (i := a.toNat) (o := 0) (vs := nd9) (a' := (pourN c.leaf c.bud (getL l a) (kidAt l a (chooseN c (getL l a) k).2) (chooseN c (getL l a) k).2).1) ty53 rfl rfl rfl rfl rfl ((h_l.mono hG33)) (pmC (pmC (pmC (pmC (pmC pr9))))) (by first | omega | (rw [List.length_set]; omega)) (by decide) (fun cs h => by obtain ⟨_, _, _, _, _, _, _, _, rfl, _⟩ := h; exact (nk9 hp_hv34 hk_hv34 hm_hv34 hr_hv34 hok_hv34)) (fun Ms62 ho63 => (W.perm (pmC (pmC (pmC (pmC (pmC pr9))))).symm (W.nn (g9 2 ?_))))))))
   refine WC.dw ((((sn9.k9.k9).k9).k9).k9) (d9 [0, 1, 2, 3, 4, 5, 6] ?_)
   refine ho63.aN (i := ((kidAt l a (chooseN c (getL l a) k).2)).slot.toNat) (by rw [List.length_set]; omega) (fun _ _ _ _ _ _ _ _ he64 hp_n65 hk_n65 hm_n65 hr_n65 hok_n65 => (WD.tk 7 rfl (ok_indexAddrO (i := ((kidAt l a (chooseN c (getL l a) k).2)).slot.toNat) sl24 ty53 ho63 rfl rfl ⟨om9, by rw [List.length_set]; omega⟩) (WD.a1 8 rfl (W.storeO (i := ((kidAt l a (chooseN c (getL l a) k).2)).slot.toNat) (o := 0) (vs := nd9) (a' := (pourN c.leaf c.bud (getL l a) (kidAt l a (chooseN c (getL l a) k).2) (chooseN c (getL l a) k).2).2.1) ty53 rfl rfl rfl rfl rfl (ho63) (pmC (pmC (pmC (pmC (pmC pr9))))) (by first | omega | (rw [List.length_set]; omega)) (by decide) (fun cs h => by obtain ⟨_, _, _, _, _, _, _, _, rfl, _⟩ := h; exact (nk9 hp_hv35 hk_hv35 hm_hv35 hr_hv35 hok_hv35)) (fun Ms68 ho69 => (W.perm (pmC (pmC (pmC (pmC (pmC pr9))))).symm (W.nn (g9 9 ?_))))))))
   refine WC.cd (fun h106 p106 => ?_) (fun h106 p106 => ?_)
   ·try dsimp only at p106
    exfalso; omega
   try dsimp only at p106
   refine g9 12 ?_
   refine ⟨.inr rfl, [_, _, _], ⟨rfl, rfl, rfl, trivial⟩, ((b_s, ce9 39 [iV c.fan, iV c.leaf, iV c.bud, iV c.slots, iV c.rest, lV sa_l l.length sc_l]) :: (Ms68 ++ [])), (((sr9.k9.cons _).cons _).cons _).cons _, ?_⟩
   have hE := (step_2 q43).trans (kid_4 p77)
   have hL9 : ((l.set a.toNat (pourN c.leaf c.bud (getL l a) (kidAt l a (chooseN c (getL l a) k).2) (chooseN c (getL l a) k).2).1).set ((kidAt l a (chooseN c (getL l a) k).2)).slot.toNat (pourN c.leaf c.bud (getL l a) (kidAt l a (chooseN c (getL l a) k).2) (chooseN c (getL l a) k).2).2.1) = pourL l (pourN c.leaf c.bud (getL l a) (kidAt l a (chooseN c (getL l a) k).2) (chooseN c (getL l a) k).2).1 (pourN c.leaf c.bud (getL l a) (kidAt l a (chooseN c (getL l a) k).2) (chooseN c (getL l a) k).2).2.1 := by unfold pourL; rw [hsA, hsB]
   exact ⟨tup3 hE p77 rfl rfl, RfR.to (⟨_, _, congrArg _ (List.append_nil _), ho69⟩ : RfR 53 39 b_s c _ _ _) (hL9.trans (congrArg Prod.snd hE).symm)⟩
  ·refine W.alloc zr53 (fun b70 => (W.nn ?_))
   refine WD.any [7, 13] (by kernel_rfl) rfl ⟨WD.ap ?_, WD.ap ?_, trivial⟩
   ·refine W.cM (rpour_fc c.fan c.leaf c.bud c.slots c.rest (p := (getL l a)) (k := (kidAt l a (chooseN c (getL l a) k).2)) (nk9 hp_n3 hk_n3 hm_n3 hr_n3 hok_n3) (nk9 hp_n21 hk_n21 hm_n21 hr_n21 hok_n21) (chooseN c (getL l a) k).2 hq.hb hq.hr hq.hpv hq.hpm hq.hkm hq.hkr hi9 hq.hsz hms hkl) rfl (fun _ _ _ _ _ _ _ _ _ _ _ _ _ _ _ _ G71 hG71 hp_hv72 hk_hv72 hm_hv72 hr_hv72 hok_hv72 hp_hv73 hk_hv73 hm_hv73 hr_hv73 hok_hv73 => (W.nn (d9 [8, 9, 10, 11] ?_)))
    refine WD.a1 13 rfl (W.alloc zr53 (fun b80 => (W.nn (d9 [14, 15, 16] ?_))))
    refine g9 3 ?_
    refine WC.dw ((((sn9.k9.k9).k9).k9).k9) (d9 [0, 1, 2, 3, 4, 5] ?_)
    refine (h_l.mono hG71).aN (i := a.toNat) om9 (fun _ _ _ _ _ _ _ _ he81 hp_n82 hk_n82 hm_n82 hr_n82 hok_n82 => (WD.tk 6 rfl (ok_indexAddrO (i := a.toNat) sl24 ty53 (h_l.mono hG71) rfl rfl ⟨om9, om9⟩) (WD.a1 7 rfl (W.storeO (i := a.toNat) (o := 0) (vs := nd9) (a' := (pourN c.leaf c.bud (getL l a) (kidAt l a (chooseN c (getL l a) k).2) (chooseN c (getL l a) k).2).1) ty53 rfl rfl rfl rfl rfl ((h_l.mono hG71)) (pmC (pmC (pmC (pmC (pmC pr9))))) (by first | omega | (rw [List.length_set]; omega)) (by decide) (fun cs h => by obtain ⟨_, _, _, _, _, _, _, _, rfl, _⟩ := h; exact (nk9 hp_hv72 hk_hv72 hm_hv72 hr_hv72 hok_hv72)) (fun Ms85 ho86 => (W.perm (pmC (pmC (pmC (pmC (pmC pr9))))).symm (W.nn (g9 2 ?_))))))))
    refine WC.dw ((((sn9.k9.k9).k9).k9).k9) (d9 [0, 1, 2, 3, 4, 5, 6] ?_)
    refine ho86.aN (i := ((kidAt l a (chooseN c (getL l a) k).2)).slot.toNat) (by rw [List.length_set]; omega) (fun _ _ _ _ _ _ _ _ he87 hp_n88 hk_n88 hm_n88 hr_n88 hok_n88 => (WD.tk 7 rfl (ok_indexAddrO (i := ((kidAt l a (chooseN c (getL l a) k).2)).slot.toNat) sl24 ty53 ho86 rfl rfl ⟨om9, by rw [List.length_set]; omega⟩) (WD.a1 8 rfl (W.storeO (i := ((kidAt l a (chooseN c (getL l a) k).2)).slot.toNat) (o := 0) (vs := nd9) (a' := (pourN c.leaf c.bud (getL l a) (kidAt l a (chooseN c (getL l a) k).2) (chooseN c (getL l a) k).2).2.1) ty53 rfl rfl rfl rfl rfl (ho86) (pmC (pmC (pmC (pmC (pmC pr9))))) (by first | omega | (rw [List.length_set]; omega)) (by decide) (fun cs h => by obtain ⟨_, _, _, _, _, _, _, _, rfl, _⟩ := h; exact (nk9 hp_hv73 hk_hv73 hm_hv73 hr_hv73 hok_hv73)) (fun Ms91 ho92 => (W.perm (pmC (pmC (pmC (pmC (pmC pr9))))).symm (W.nn (g9 9 ?_))))))))
    refine WC.cd (fun h106 p106 => ?_) (fun h106 p106 => ?_)
    ·try dsimp only at p106
     exfalso; omega
    try dsimp only at p106
    refine g9 12 ?_
    refine ⟨.inr rfl, [_, _, _], ⟨rfl, rfl, rfl, trivial⟩, ((b_s, ce9 39 [iV c.fan, iV c.leaf, iV c.bud, iV c.slots, iV c.rest, lV sa_l l.length sc_l]) :: (Ms91 ++ [])), (((sr9.k9.cons _).cons _).cons _).cons _, ?_⟩
    have hE := (step_2 q43).trans (kid_4 p77)
    have hL9 : ((l.set a.toNat (pourN c.leaf c.bud (getL l a) (kidAt l a (chooseN c (getL l a) k).2) (chooseN c (getL l a) k).2).1).set ((kidAt l a (chooseN c (getL l a) k).2)).slot.toNat (pourN c.leaf c.bud (getL l a) (kidAt l a (chooseN c (getL l a) k).2) (chooseN c (getL l a) k).2).2.1) = pourL l (pourN c.leaf c.bud (getL l a) (kidAt l a (chooseN c (getL l a) k).2) (chooseN c (getL l a) k).2).1 (pourN c.leaf c.bud (getL l a) (kidAt l a (chooseN c (getL l a) k).2) (chooseN c (getL l a) k).2).2.1 := by unfold pourL; rw [hsA, hsB]
    exact ⟨tup3 hE p77 rfl rfl, RfR.to (⟨_, _, congrArg _ (List.append_nil _), ho92⟩ : RfR 53 39 b_s c _ _ _) (hL9.trans (congrArg Prod.snd hE).symm)⟩
   refine W.alloc zr53 (fun b93 => (W.nn (WD.a1 7 rfl (W.cM (rpour_fc c.fan c.leaf c.bud c.slots c.rest (p := (getL l a)) (k := (kidAt l a (chooseN c (getL l a) k).2)) (nk9 hp_n3 hk_n3 hm_n3 hr_n3 hok_n3) (nk9 hp_n21 hk_n21 hm_n21 hr_n21 hok_n21) (chooseN c (getL l a) k).2 hq.hb hq.hr hq.hpv hq.hpm hq.hkm hq.hkr hi9 hq.hsz hms hkl) rfl (fun _ _ _ _ _ _ _ _ _ _ _ _ _ _ _ _ G94 hG94 hp_hv95 hk_hv95 hm_hv95 hr_hv95 hok_hv95 hp_hv96 hk_hv96 hm_hv96 hr_hv96 hok_hv96 => (W.nn (d9 [8, 9, 10, 11, 14, 15, 16] ?_)))))))
   refine g9 3 ?_
   refine WC.dw ((((sn9.k9.k9).k9).k9).k9) (d9 [0, 1, 2, 3, 4, 5] ?_)
   refine (h_l.mono hG94).aN (i := a.toNat) om9 (fun _ _ _ _ _ _ _ _ he103 hp_n104 hk_n104 hm_n104 hr_n104 hok_n104 => (WD.tk 6 rfl (ok_indexAddrO (i := a.toNat) sl24 ty53 (h_l.mono hG94) rfl rfl ⟨om9, om9⟩) (WD.a1 7 rfl (W.storeO (i := a.toNat) (o := 0) (vs := nd9) (a' := (pourN c.leaf c.bud (getL l a) (kidAt l a (chooseN c (getL l a) k).2) (chooseN c (getL l a) k).2).1) ty53 rfl rfl rfl rfl rfl ((h_l.mono hG94)) (pmC (pmC (pmC (pmC (pmC pr9))))) (by first | omega | (rw [List.length_set]; omega)) (by decide) (fun cs h => by obtain ⟨_, _, _, _, _, _, _, _, rfl, _⟩ := h; exact (nk9 hp_hv95 hk_hv95 hm_hv95 hr_hv95 hok_hv95)) (fun Ms107 ho108 => (W.perm (pmC (pmC (pmC (pmC (pmC pr9))))).symm (W.nn (g9 2 ?_))))))))
   refine WC.dw ((((sn9.k9.k9).k9).k9).k9) (d9 [0, 1, 2, 3, 4, 5, 6] ?_)
   refine ho108.aN (i := ((kidAt l a (chooseN c (getL l a) k).2)).slot.toNat) (by rw [List.length_set]; omega) (fun _ _ _ _ _ _ _ _ he109 hp_n110 hk_n110 hm_n110 hr_n110 hok_n110 => (WD.tk 7 rfl (ok_indexAddrO (i := ((kidAt l a (chooseN c (getL l a) k).2)).slot.toNat) sl24 ty53 ho108 rfl rfl ⟨om9, by rw [List.length_set]; omega⟩) (WD.a1 8 rfl (W.storeO (i := ((kidAt l a (chooseN c (getL l a) k).2)).slot.toNat) (o := 0) (vs := nd9) (a' := (pourN c.leaf c.bud (getL l a) (kidAt l a (chooseN c (getL l a) k).2) (chooseN c (getL l a) k).2).2.1) ty53 rfl rfl rfl rfl rfl (ho108) (pmC (pmC (pmC (pmC (pmC pr9))))) (by first | omega | (rw [List.length_set]; omega)) (by decide) (fun cs h => by obtain ⟨_, _, _, _, _, _, _, _, rfl, _⟩ := h; exact (nk9 hp_hv96 hk_hv96 hm_hv96 hr_hv96 hok_hv96)) (fun Ms113 ho114 => (W.perm (pmC (pmC (pmC (pmC (pmC pr9))))).symm (W.nn (g9 9 ?_))))))))
   refine WC.cd (fun h106 p106 => ?_) (fun h106 p106 => ?_)
   ·try dsimp only at p106
    exfalso; omega
   try dsimp only at p106
   refine g9 12 ?_
   refine ⟨.inr rfl, [_, _, _], ⟨rfl, rfl, rfl, trivial⟩, ((b_s, ce9 39 [iV c.fan, iV c.leaf, iV c.bud, iV c.slots, iV c.rest, lV sa_l l.length sc_l]) :: (Ms113 ++ [])), (((sr9.k9.cons _).cons _).cons _).cons _, ?_⟩
   have hE := (step_2 q43).trans (kid_4 p77)
   have hL9 : ((l.set a.toNat (pourN c.leaf c.bud (getL l a) (kidAt l a (chooseN c (getL l a) k).2) (chooseN c (getL l a) k).2).1).set ((kidAt l a (chooseN c (getL l a) k).2)).slot.toNat (pourN c.leaf c.bud (getL l a) (kidAt l a (chooseN c (getL l a) k).2) (chooseN c (getL l a) k).2).2.1) = pourL l (pourN c.leaf c.bud (getL l a) (kidAt l a (chooseN c (getL l a) k).2) (chooseN c (getL l a) k).2).1 (pourN c.leaf c.bud (getL l a) (kidAt l a (chooseN c (getL l a) k).2) (chooseN c (getL l a) k).2).2.1 := by unfold pourL; rw [hsA, hsB]
   exact ⟨tup3 hE p77 rfl rfl, RfR.to (⟨_, _, congrArg _ (List.append_nil _), ho114⟩ : RfR 53 39 b_s c _ _ _) (hL9.trans (congrArg Prod.snd hE).symm)⟩
  refine W.alloc zr53 (fun b115 => (W.nn ?_))
  refine WD.any [7, 12] (by kernel_rfl) rfl ⟨WD.ap ?_, WD.ap ?_, trivial⟩
  ·refine W.cM (rpour_fc c.fan c.leaf c.bud c.slots c.rest (p := (getL l a)) (k := (kidAt l a (chooseN c (getL l a) k).2)) (nk9 hp_n3 hk_n3 hm_n3 hr_n3 hok_n3) (nk9 hp_n21 hk_n21 hm_n21 hr_n21 hok_n21) (chooseN c (getL l a) k).2 hq.hb hq.hr hq.hpv hq.hpm hq.hkm hq.hkr hi9 hq.hsz hms hkl) rfl (fun _ _ _ _ _ _ _ _ _ _ _ _ _ _ _ _ G116 hG116 hp_hv117 hk_hv117 hm_hv117 hr_hv117 hok_hv117 hp_hv118 hk_hv118 hm_hv118 hr_hv118 hok_hv118 => (W.nn (d9 [8, 9, 10, 11] ?_)))
   refine WD.a1 12 rfl (W.alloc zr53 (fun b125 => (W.nn (d9 [14, 15, 16] ?_))))
   refine g9 3 ?_
   refine WC.dw ((((sn9.k9.k9).k9).k9).k9) (d9 [0, 1, 2, 3, 4, 5] ?_)
   refine (h_l.mono hG116).aN (i := a.toNat) om9 (fun _ _ _ _ _ _ _ _ he126 hp_n127 hk_n127 hm_n127 hr_n127 hok_n127 => (WD.tk 6 rfl (ok_indexAddrO (i := a.toNat) sl24 ty53 (h_l.mono hG116) rfl rfl ⟨om9, om9⟩) (WD.a1 7 rfl (W.storeO (i := a.toNat) (o := 0) (vs := nd9) (a' := (pourN c.leaf c.bud (getL l a) (kidAt l a (chooseN c (getL l a) k).2) (chooseN c (getL l a) k).2).1) ty53 rfl rfl rfl rfl rfl ((h_l.mono hG116)) (pmC (pmC (pmC (pmC (pmC pr9))))) (by first | omega | (rw [List.length_set]; omega)) (by decide) (fun cs h => by obtain ⟨_, _, _, _, _, _, _, _, rfl, _⟩ := h; exact (nk9 hp_hv117 hk_hv117 hm_hv117 hr_hv117 hok_hv117)) (fun Ms130 ho131 => (W.perm (pmC (pmC (pmC (pmC (pmC pr9))))).symm (W.nn (g9 2 ?_))))))))
   refine WC.dw ((((sn9.k9.k9).k9).k9).k9) (d9 [0, 1, 2, 3, 4, 5, 6] ?_)
   refine ho131.aN (i := ((kidAt l a (chooseN c (getL l a) k).2)).slot.toNat) (by rw [List.length_set]; omega) (fun _ _ _ _ _ _ _ _ he132 hp_n133 hk_n133 hm_n133 hr_n133 hok_n133 => (WD.tk 7 rfl (ok_indexAddrO (i := ((kidAt l a (chooseN c (getL l a) k).2)).slot.toNat) sl24 ty53 ho131 rfl rfl ⟨om9, by rw [List.length_set]; omega⟩) (WD.a1 8 rfl (W.storeO (i := ((kidAt l a (chooseN c (getL l a) k).2)).slot.toNat) (o := 0) (vs := nd9) (a' := (pourN c.leaf c.bud (getL l a) (kidAt l a (chooseN c (getL l a) k).2) (chooseN c (getL l a) k).2).2.1) ty53 rfl rfl rfl rfl rfl (ho131) (pmC (pmC (pmC (pmC (pmC pr9))))) (by first | omega | (rw [List.length_set]; omega)) (by decide) (fun cs h => by obtain ⟨_, _, _, _, _, _, _, _, rfl, _⟩ := h; exact (nk9 hp_hv118 hk_hv118 hm_hv118 hr_hv118 hok_hv118)) (fun Ms136 ho137 => (W.perm (pmC (pmC (pmC (pmC (pmC pr9))))).symm (W.nn (g9 9 ?_))))))))
   refine WC.cd (fun h106 p106 => ?_) (fun h106 p106 => ?_)
   ·try dsimp only at p106
    exfalso; omega
   try dsimp only at p106
   refine g9 12 ?_
   refine ⟨.inr rfl, [_, _, _], ⟨rfl, rfl, rfl, trivial⟩, ((b_s, ce9 39 [iV c.fan, iV c.leaf, iV c.bud, iV c.slots, iV c.rest, lV sa_l l.length sc_l]) :: (Ms136 ++ [])), (((sr9.k9.cons _).cons _).cons _).cons _, ?_⟩
   have hE := (step_2 q43).trans (kid_4 p77)
   have hL9 : ((l.set a.toNat (pourN c.leaf c.bud (getL l a) (kidAt l a (chooseN c (getL l a) k).2) (chooseN c (getL l a) k).2).1).set ((kidAt l a (chooseN c (getL l a) k).2)).slot.toNat (pourN c.leaf c.bud (getL l a) (kidAt l a (chooseN c (getL l a) k).2) (chooseN c (getL l a) k).2).2.1) = pourL l (pourN c.leaf c.bud (getL l a) (kidAt l a (chooseN c (getL l a) k).2) (chooseN c (getL l a) k).2).1 (pourN c.leaf c.bud (getL l a) (kidAt l a (chooseN c (getL l a) k).2) (chooseN c (getL l a) k).2).2.1 := by unfold pourL; rw [hsA, hsB]
   exact ⟨tup3 hE p77 rfl rfl, RfR.to (⟨_, _, congrArg _ (List.append_nil _), ho137⟩ : RfR 53 39 b_s c _ _ _) (hL9.trans (congrArg Prod.snd hE).symm)⟩
  refine W.alloc zr53 (fun b138 => (W.nn (WD.a1 7 rfl (W.cM (rpour_fc c.fan c.leaf c.bud c.slots c.rest (p := (getL l a)) (k := (kidAt l a (chooseN c (getL l a) k).2)) (nk9 hp_n3 hk_n3 hm_n3 hr_n3 hok_n3) (nk9 hp_n21 hk_n21 hm_n21 hr_n21 hok_n21) (chooseN c (getL l a) k).2 hq.hb hq.hr hq.hpv hq.hpm hq.hkm hq.hkr hi9 hq.hsz hms hkl) rfl (fun _ _ _ _ _ _ _ _ _ _ _ _ _ _ _ _ G139 hG139 hp_hv140 hk_hv140 hm_hv140 hr_hv140 hok_hv140 hp_hv141 hk_hv141 hm_hv141 hr_hv141 hok_hv141 => (W.nn (d9 [8, 9, 10, 11, 14, 15, 16] ?_)))))))
  refine g9 3 ?_
  refine WC.dw ((((sn9.k9.k9).k9).k9).k9) (d9 [0, 1, 2, 3, 4, 5] ?_)
  refine (h_l.mono hG139).aN (i := a.toNat) om9 (fun _ _ _ _ _ _ _ _ he148 hp_n149 hk_n149 hm_n149 hr_n149 hok_n149 => (WD.tk 6 rfl (ok_indexAddrO (i := a.toNat) sl24 ty53 (h_l.mono hG139) rfl rfl ⟨om9, om9⟩) (WD.a1 7 rfl (W.storeO (i := a.toNat) (o := 0) (vs := nd9) (a' := (pourN c.leaf c.bud (getL l a) (kidAt l a (chooseN c (getL l a) k).2) (chooseN c (getL l a) k).2).1) ty53 rfl rfl rfl rfl rfl ((h_l.mono hG139)) (pmC (pmC (pmC (pmC (pmC pr9))))) (by first | omega | (rw [List.length_set]; omega)) (by decide) (fun cs h => by obtain ⟨_, _, _, _, _, _, _, _, rfl, _⟩ := h; exact (nk9 hp_hv140 hk_hv140 hm_hv140 hr_hv140 hok_hv140)) (fun Ms152 ho153 => (W.perm (pmC (pmC (pmC (pmC (pmC pr9))))).symm (W.nn (g9 2 ?_))))))))
  refine WC.dw ((((sn9.k9.k9).k9).k9).k9) (d9 [0, 1, 2, 3, 4, 5, 6] ?_)
  refine ho153.aN (i := ((kidAt l a (chooseN c (getL l a) k).2)).slot.toNat) (by rw [List.length_set]; omega) (fun _ _ _ _ _ _ _ _ he154 hp_n155 hk_n155 hm_n155 hr_n155 hok_n155 => (WD.tk 7 rfl (ok_indexAddrO (i := ((kidAt l a (chooseN c (getL l a) k).2)).slot.toNat) sl24 ty53 ho153 rfl rfl ⟨om9, by rw [List.length_set]; omega⟩) (WD.a1 8 rfl (W.storeO (i := ((kidAt l a (chooseN c (getL l a) k).2)).slot.toNat) (o := 0) (vs := nd9) (a' := (pourN c.leaf c.bud (getL l a) (kidAt l a (chooseN c (getL l a) k).2) (chooseN c (getL l a) k).2).2.1) ty53 rfl rfl rfl rfl rfl (ho153) (pmC (pmC (pmC (pmC (pmC pr9))))) (by first | omega | (rw [List.length_set]; omega)) (by decide) (fun cs h => by obtain ⟨_, _, _, _, _, _, _, _, rfl, _⟩ := h; exact (nk9 hp_hv141 hk_hv141 hm_hv141 hr_hv141 hok_hv141)) (fun Ms158 ho159 => (W.perm (pmC (pmC (pmC (pmC (pmC pr9))))).symm (W.nn (g9 9 ?_))))))))
  refine WC.cd (fun h106 p106 => ?_) (fun h106 p106 => ?_)
  ·try dsimp only at p106
   exfalso; omega
  try dsimp only at p106
  refine g9 12 ?_
  refine ⟨.inr rfl, [_, _, _], ⟨rfl, rfl, rfl, trivial⟩, ((b_s, ce9 39 [iV c.fan, iV c.leaf, iV c.bud, iV c.slots, iV c.rest, lV sa_l l.length sc_l]) :: (Ms158 ++ [])), (((sr9.k9.cons _).cons _).cons _).cons _, ?_⟩
  have hE := (step_2 q43).trans (kid_4 p77)
  have hL9 : ((l.set a.toNat (pourN c.leaf c.bud (getL l a) (kidAt l a (chooseN c (getL l a) k).2) (chooseN c (getL l a) k).2).1).set ((kidAt l a (chooseN c (getL l a) k).2)).slot.toNat (pourN c.leaf c.bud (getL l a) (kidAt l a (chooseN c (getL l a) k).2) (chooseN c (getL l a) k).2).2.1) = pourL l (pourN c.leaf c.bud (getL l a) (kidAt l a (chooseN c (getL l a) k).2) (chooseN c (getL l a) k).2).1 (pourN c.leaf c.bud (getL l a) (kidAt l a (chooseN c (getL l a) k).2) (chooseN c (getL l a) k).2).2.1 := by unfold pourL; rw [hsA, hsB]
  exact ⟨tup3 hE p77 rfl rfl, RfR.to (⟨_, _, congrArg _ (List.append_nil _), ho159⟩ : RfR 53 39 b_s c _ _ _) (hL9.trans (congrArg Prod.snd hE).symm)⟩
 try dsimp only at p77
 refine g9 9 ?_
 refine WC.cd (fun h106 p106 => ?_) (fun h106 p106 => ?_)
 ·try dsimp only at p106
  refine g9 11 ?_
  refine ⟨.inr rfl, [_, _, _], ⟨rfl, rfl, rfl, trivial⟩, ((b_s, ce9 39 [iV c.fan, iV c.leaf, iV c.bud, iV c.slots, iV c.rest, lV sa_l l.length sc_l]) :: (Ms_l ++ [])), (sr9.k9.cons _).cons _, ?_⟩
  have hE := (step_2 q43).trans (kid_5 p106)
  exact ⟨tup3 hE rfl rfl rfl, RfR.to (⟨_, _, congrArg _ (List.append_nil _), h_l⟩ : RfR 53 39 b_s c _ _ _) (congrArg Prod.snd hE).symm⟩
 try dsimp only at p106
 refine g9 12 ?_
 refine ⟨.inr rfl, [_, _, _], ⟨rfl, rfl, rfl, trivial⟩, ((b_s, ce9 39 [iV c.fan, iV c.leaf, iV c.bud, iV c.slots, iV c.rest, lV sa_l l.length sc_l]) :: (Ms_l ++ [])), (sr9.k9.cons _).cons _, ?_⟩
 have hE := (step_2 q43).trans (kid_0 (dec_0 p67 p77 p106))
 exact ⟨tup3 hE (dec_0 p67 p77 p106) rfl rfl, RfR.to (⟨_, _, congrArg _ (List.append_nil _), h_l⟩ : RfR 53 39 b_s c _ _ _) (congrArg Prod.snd hE).symm⟩

end Go.Proofs.YtfmigmijckdldaaGreat
