/- The walk of a step that has to do with a kid. -/
import Derived.Test.YtfmigmijckdldaaGreatQgVp
import Derived.Test.YtfmigmijckdldaaGreatQgUc
set_option maxRecDepth 100000
set_option maxHeartbeats 1600000
set_option linter.unusedVariables false
set_option linter.unusedSimpArgs false
set_option linter.unnecessarySimpa false
namespace Go.Proofs.YtfmigmijckdldaaGreat
open Go Go.Fw Go.RowKit
attribute [local irreducible] Ok W WC
theorem pkid_fc {G : GH} {b : Nat} {c : Cfg} {l : List Nd} {M : MH} (h : StR 53 4 3 125 78 b c G l M) (a i : Int) : Fc Tryz.prog 28 [pt9 b, iV ((getL l a).kids.getD i.toNat 0)] G M (fun v G' M' => (∃ cs, v = .tuple #[.agg (List.toArray cs), .bool (decide (0 ≤ (getL l a).kids.getD i.toNat 0 ∧ (getL l a).kids.getD i.toNat 0 < (l.length : Int)))] ∧ NodeC G' cs (kidAt l a i)) ∧ M' = M) := pnode_fc h _
theorem fkid_fc {G : GH} {b_s : Nat} {c c2 : Cfg} {l : List Nd} {ss : List Seat} {Ms_s : MH} (h_s : StR 53 4 3 125 78 b_s c G l Ms_s) (t : Tree c2 l ss) {a : Int} {cs_n : List Value} (h_n : NodeC G cs_n (getL l a)) (i : Int) (hc9 : c = c2) (ha : 0 ≤ a ∧ a < (l.length : Int)) (h0 : ¬ (getL l a).level = 0) (hi : 0 ≤ i ∧ i < ((getL l a).kids.length : Int)) (hi9 : i64 i) :
    Fc Tryz.prog 30 [pt9 b_s, .agg (List.toArray cs_n), iV i] G Ms_s (fun v G' M' => v = .tuple #[iV (kidStep c l a i).1.1, iV (kidStep c l a i).1.2.1, iV (kidStep c l a i).1.2.2] ∧ StR 53 4 3 125 78 b_s c G' (kidStep c l a i).2 M') := by
 obtain ⟨_, _, _, _, _, _, _, _, rfl, hp_n, hk_n, hm_n, hr_n, hok_n⟩ := h_n
 subst hc9
 obtain ⟨P, s⟩ := step_at t ha h0 hi
 have hPR := (t.seat s.mem).1
 have hKm := (t.at s.mem s.h0 (j := i.toNat) (by have := s.hi; omega)).1
 have hKR := (t.seat hKm).1
 rw [s.n] at hPR
 rw [s.kid] at hKR
 have hsl : (getL l a).slot = a := (getL_slot t.slot ha).1
 have hPS := t.sml.2 _ (getL_slot t.slot ha).2
 have hKS := t.sml.2 _ (getL_slot t.slot s.kin).2
 have hPD : NdS (getL l a) := nds_R t.cfg hPR
 have hKD : NdS (kidAt l a i) := nds_R t.cfg hKR
 have hcb9 : c.bud ≤ 9223372036854775807 := by have := t.cfg.2.2.1.2; omega
 have hq : PourPre c.bud (getL l a) (kidAt l a i) := pre_of hPR hKR h0 hPD hKD hcb9
 have hin9 : (getL l a).innerR c.fan c.bud := by have h4 := hPR.2.2.2; rwa [if_neg h0] at h4
 have hms := hin9.2.2.1
 have hkl := (rightN_spec hin9.2.1).2
 have hi91 := hi9.1
 have hi92 := hi9.2
 have hlk9 : ((getL l a).kids.length : Int) ≤ 4000 := by have := hPD.1; omega
 have hkd : (getL l a).kids[i.toNat]'om9 = ((getL l a).kids.getD i.toNat 0) := by rw [List.getD_eq_getElem?_getD, List.getElem?_eq_getElem om9]; rfl
 refine Fc.go [.tmp 6, .tmp 7, .tmp 8] Tryz.func30 Tryz.ntmps30 rfl (fun w0 => (WC.perm (M' := (Ms_s ++ [])) (by simp) (g9 2 ?_)))
 refine W.box (L := [iV _, iV _, lV _ _ _, lV _ _ _, sV _, .bool _, iV _, iV _, lV _ _ _, lV _ _ _]) rfl rfl (fun b1 => (g9 15 ?_))
 refine WC.cd (fun h19 p19 => ?_) (fun h19 p19 => ?_)
 ·try dsimp only at p19
  exfalso; omega
 try dsimp only at p19
 refine g9 8 ?_
 refine hk_n.a2 (i := i.toNat) om9 (fun he2 hi3 => (W.ok (ok_indexAddr (i := i.toNat) sl50 ty3 hk_n rfl rfl ⟨om9, om9⟩) (g9 1 ?_)))
 refine W.call (Mp := Ms_s) (pkid_fc h_s a i) (congrArg (fun k : Int => [_, Value.int .i64 k]) hkd) (pmC pr9) ?_
 intro v9 G6 Ms8 hG6 q7
 refine match q7 with | ⟨⟨_, e_11, ⟨_, _, _, _, _, _, _, _, e_12, hp_hR10, hk_hR10, hm_hR10, hr_hR10, hok_hR10⟩⟩, eeq7⟩ => ?_
 subst e_11
 subst e_12
 have eeq7 := eeq7.symm
 subst eeq7
 refine W.perm (pmC pr9).symm (g9 3 ?_)
 refine W.alloc zr53 (fun b13 => (g9 11 ?_))
 refine WC.cn (fun h33 p33 => ?_) (fun h33 p33 => ?_)
 ·try dsimp only at p33
  exact absurd s.kin p33
 try dsimp only at p33
 refine g9 3 ?_
 refine WC.dw (sn9.k9.k9) (d9 [0, 2, 3, 4] ?_)
 refine WD.a1 1 rfl (W.call (Mp := Ms_s) (pconfig_fc (StR.mono hG6 h_s)) rfl (pmC (pmC pr9)) ?_)
 intro v17 G14 Ms16 hG14 q15
 refine match q15 with | ⟨e_19, eeq15⟩ => ?_
 subst e_19
 have eeq15 := eeq15.symm
 subst eeq15
 refine W.perm (pmC (pmC pr9)).symm (W.nn (WD.a1 5 rfl (W.qcall (fdecide_fc c.fan c.leaf c.bud c.slots c.rest (p := (getL l a)) (k := (kidAt l a i)) (nm9 lec hp_n hk_n hm_n hr_n hok_n) (nm9 hG14 hp_hR10 hk_hR10 hm_hR10 hr_hR10 hok_hR10) i hq hi9 s.kof hms hkl) rfl (W.nn (d9 [6] ?_)))))
 refine g9 15 ?_
 refine WC.cd (fun h44 p44 => ?_) (fun h44 p44 => ?_)
 ·try dsimp only at p44
  refine g9 6 ?_
  refine W.call (Mp := Ms_s) (gparti_fc (StR.mono lec h_s) t a i hi9) (congrArg (fun k : Int => [_, Value.int .i64 k, _]) hsl) (pmC (pmC pr9)) ?_
  intro v23 G20 Ms22 hG20 q21
  refine match q21 with | ⟨e_25, hR24⟩ => ?_
  subst e_25
  refine W.perm (pmC (pmC pr9)).symm (g9 9 ?_)
  refine WC.cn (fun h51 p51 => ?_) (fun h51 p51 => ?_)
  ·try dsimp only at p51
   refine g9 13 ?_
   refine ⟨.inr rfl, [_, _, _], ⟨rfl, rfl, rfl, trivial⟩, Ms22, ((List.sublist_append_left _ _).cons _).cons _, ?_⟩
   have hE := kid_e p44 p51
   exact ⟨tup3 hE rfl hsl rfl, StR.to hR24 (congrArg Prod.snd hE).symm⟩
  try dsimp only at p51
  refine g9 14 ?_
  refine ⟨.inr rfl, [_, _, _], ⟨rfl, rfl, rfl, trivial⟩, Ms22, ((List.sublist_append_left _ _).cons _).cons _, ?_⟩
  have hE := kid_3 p44 om9
  exact ⟨tup3 hE p44 hsl rfl, StR.to hR24 (congrArg Prod.snd hE).symm⟩
 try dsimp only at p44
 refine g9 6 ?_
 refine WC.cd (fun h56 p56 => ?_) (fun h56 p56 => ?_)
 ·try dsimp only at p56
  have p56c : decideN c (getL l a) (kidAt l a i) i = 4 := p56
  have hcp : 0 < countN c.leaf c.bud (getL l a) (kidAt l a i) i := by rcases decide_cases c (getL l a) (kidAt l a i) i with h9 | h9 | ⟨_, h9⟩ | h9; omega; omega; exact h9; omega
  have hpq9 := s.pour t hcp
  obtain ⟨T9, hpo⟩ := hpq9
  have hsA : 0 ≤ (pourN c.leaf c.bud (getL l a) (kidAt l a i) i).1.slot ∧ (pourN c.leaf c.bud (getL l a) (kidAt l a i) i).1.slot < (l.length : Int) := by rw [hpo.al.1]; exact hpo.sin hpo.mem
  have hsB : 0 ≤ (pourN c.leaf c.bud (getL l a) (kidAt l a i) i).2.1.slot ∧ (pourN c.leaf c.bud (getL l a) (kidAt l a i) i).2.1.slot < (l.length : Int) := by rw [hpo.bl.1]; exact hpo.sin hpo.km.1
  refine WC.seq (WC.dw (sn9.k9.k9) (d9 [0, 2, 3, 4] ?_))
  refine WD.any [1, 10, 11] (by kernel_rfl) rfl ⟨WD.ap ?_, WD.ap ?_, WD.ap ?_, trivial⟩
  ·refine W.call (Mp := Ms_s) (pconfig_fc (StR.mono lec h_s)) rfl (pmC (pmC pr9)) ?_
   intro v29 G26 Ms28 hG26 q27
   refine match q27 with | ⟨e_31, eeq27⟩ => ?_
   subst e_31
   have eeq27 := eeq27.symm
   subst eeq27
   refine W.perm (pmC (pmC pr9)).symm (W.nn ?_)
   refine WD.any [5, 10, 11] (by kernel_rfl) rfl ⟨WD.ap ?_, WD.ap ?_, WD.ap ?_, trivial⟩
   ·refine W.cM (pour_fc c.fan c.leaf c.bud c.slots c.rest (p := (getL l a)) (k := (kidAt l a i)) (nm9 lec hp_n hk_n hm_n hr_n hok_n) (nm9 lec hp_hR10 hk_hR10 hm_hR10 hr_hR10 hok_hR10) i hq.hb hq.hr hq.hpv hq.hpm hq.hkm hq.hkr hi9 hq.hsz) rfl (fun _ _ _ _ _ _ _ _ _ _ _ _ _ _ _ _ G32 hG32 hp_hv33 hk_hv33 hm_hv33 hr_hv33 hok_hv33 hp_hv34 hk_hv34 hm_hv34 hr_hv34 hok_hv34 => (W.nn (d9 [6, 7, 8, 9] ?_)))
    refine WD.any [10, 11] (by kernel_rfl) rfl ⟨WD.ap ?_, WD.ap ?_, trivial⟩
    ·refine W.alloc zr53 (fun b41 => (W.nn (WD.a1 11 rfl (W.alloc zr53 (fun b42 => (W.nn (d9 [12, 13, 14] ?_)))))))
     refine g9 6 ?_
     refine W.call (Mp := Ms_s) (pset_at (StR.mono lec h_s) (by exact hsA) (nk9 hp_hv33 hk_hv33 hm_hv33 hr_hv33 hok_hv33)) rfl (pmC (pmC (pmC (pmC pr9)))) ?_
     intro v46 G43 Ms45 hG43 q44
     refine match q44 with | ⟨e_48, hR47⟩ => ?_
     subst e_48
     refine W.perm (pmC (pmC (pmC (pmC pr9)))).symm (g9 5 ?_)
     refine W.call (Mp := Ms45) (pset_at hR47 (by rw [List.length_set]; exact hsB) (nm9 hG43 hp_hv34 hk_hv34 hm_hv34 hr_hv34 hok_hv34)) rfl (pmC (pmC (pmC (pmC pr9)))) ?_
     intro v52 G49 Ms51 hG49 q50
     refine match q50 with | ⟨e_54, hR53⟩ => ?_
     subst e_54
     refine W.perm (pmC (pmC (pmC (pmC pr9)))).symm (g9 14 ?_)
     refine ⟨.inr rfl, [_, _, _], ⟨rfl, rfl, rfl, trivial⟩, Ms51, ((((List.sublist_append_left _ _).cons _).cons _).cons _).cons _, ?_⟩
     have hE := kid_4 p56
     exact ⟨tup3 hE p56 hsl rfl, StR.to hR53 (congrArg Prod.snd hE).symm⟩
    refine W.alloc zr53 (fun b55 => (W.nn (WD.a1 10 rfl (W.alloc zr53 (fun b56 => (W.nn (d9 [12, 13, 14] ?_)))))))
    refine g9 6 ?_
    refine W.call (Mp := Ms_s) (pset_at (StR.mono lec h_s) (by exact hsA) (nk9 hp_hv33 hk_hv33 hm_hv33 hr_hv33 hok_hv33)) rfl (pmC (pmC (pmC (pmC pr9)))) ?_
    intro v60 G57 Ms59 hG57 q58
    refine match q58 with | ⟨e_62, hR61⟩ => ?_
    subst e_62
    refine W.perm (pmC (pmC (pmC (pmC pr9)))).symm (g9 5 ?_)
    refine W.call (Mp := Ms59) (pset_at hR61 (by rw [List.length_set]; exact hsB) (nm9 hG57 hp_hv34 hk_hv34 hm_hv34 hr_hv34 hok_hv34)) rfl (pmC (pmC (pmC (pmC pr9)))) ?_
    intro v66 G63 Ms65 hG63 q64
    refine match q64 with | ⟨e_68, hR67⟩ => ?_
    subst e_68
    refine W.perm (pmC (pmC (pmC (pmC pr9)))).symm (g9 14 ?_)
    refine ⟨.inr rfl, [_, _, _], ⟨rfl, rfl, rfl, trivial⟩, Ms65, ((((List.sublist_append_left _ _).cons _).cons _).cons _).cons _, ?_⟩
    have hE := kid_4 p56
    exact ⟨tup3 hE p56 hsl rfl, StR.to hR67 (congrArg Prod.snd hE).symm⟩
   ·refine W.alloc zr53 (fun b69 => (W.nn ?_))
    refine WD.any [5, 11] (by kernel_rfl) rfl ⟨WD.ap ?_, WD.ap ?_, trivial⟩
    ·refine W.cM (pour_fc c.fan c.leaf c.bud c.slots c.rest (p := (getL l a)) (k := (kidAt l a i)) (nm9 lec hp_n hk_n hm_n hr_n hok_n) (nm9 lec hp_hR10 hk_hR10 hm_hR10 hr_hR10 hok_hR10) i hq.hb hq.hr hq.hpv hq.hpm hq.hkm hq.hkr hi9 hq.hsz) rfl (fun _ _ _ _ _ _ _ _ _ _ _ _ _ _ _ _ G70 hG70 hp_hv71 hk_hv71 hm_hv71 hr_hv71 hok_hv71 hp_hv72 hk_hv72 hm_hv72 hr_hv72 hok_hv72 => (W.nn (d9 [6, 7, 8, 9] ?_)))
     refine WD.a1 11 rfl (W.alloc zr53 (fun b79 => (W.nn (d9 [12, 13, 14] ?_))))
     refine g9 6 ?_
     refine W.call (Mp := Ms_s) (pset_at (StR.mono lec h_s) (by exact hsA) (nk9 hp_hv71 hk_hv71 hm_hv71 hr_hv71 hok_hv71)) rfl (pmC (pmC (pmC (pmC pr9)))) ?_
     intro v83 G80 Ms82 hG80 q81
     refine match q81 with | ⟨e_85, hR84⟩ => ?_
     subst e_85
     refine W.perm (pmC (pmC (pmC (pmC pr9)))).symm (g9 5 ?_)
     refine W.call (Mp := Ms82) (pset_at hR84 (by rw [List.length_set]; exact hsB) (nm9 hG80 hp_hv72 hk_hv72 hm_hv72 hr_hv72 hok_hv72)) rfl (pmC (pmC (pmC (pmC pr9)))) ?_
     intro v89 G86 Ms88 hG86 q87
     refine match q87 with | ⟨e_91, hR90⟩ => ?_
     subst e_91
     refine W.perm (pmC (pmC (pmC (pmC pr9)))).symm (g9 14 ?_)
     refine ⟨.inr rfl, [_, _, _], ⟨rfl, rfl, rfl, trivial⟩, Ms88, ((((List.sublist_append_left _ _).cons _).cons _).cons _).cons _, ?_⟩
     have hE := kid_4 p56
     exact ⟨tup3 hE p56 hsl rfl, StR.to hR90 (congrArg Prod.snd hE).symm⟩
    refine W.alloc zr53 (fun b92 => (W.nn (WD.a1 5 rfl (W.cM (pour_fc c.fan c.leaf c.bud c.slots c.rest (p := (getL l a)) (k := (kidAt l a i)) (nm9 lec hp_n hk_n hm_n hr_n hok_n) (nm9 lec hp_hR10 hk_hR10 hm_hR10 hr_hR10 hok_hR10) i hq.hb hq.hr hq.hpv hq.hpm hq.hkm hq.hkr hi9 hq.hsz) rfl (fun _ _ _ _ _ _ _ _ _ _ _ _ _ _ _ _ G93 hG93 hp_hv94 hk_hv94 hm_hv94 hr_hv94 hok_hv94 hp_hv95 hk_hv95 hm_hv95 hr_hv95 hok_hv95 => (W.nn (d9 [6, 7, 8, 9, 12, 13, 14] ?_)))))))
    refine g9 6 ?_
    refine W.call (Mp := Ms_s) (pset_at (StR.mono lec h_s) (by exact hsA) (nk9 hp_hv94 hk_hv94 hm_hv94 hr_hv94 hok_hv94)) rfl (pmC (pmC (pmC (pmC pr9)))) ?_
    intro v105 G102 Ms104 hG102 q103
    refine match q103 with | ⟨e_107, hR106⟩ => ?_
    subst e_107
    refine W.perm (pmC (pmC (pmC (pmC pr9)))).symm (g9 5 ?_)
    refine W.call (Mp := Ms104) (pset_at hR106 (by rw [List.length_set]; exact hsB) (nm9 hG102 hp_hv95 hk_hv95 hm_hv95 hr_hv95 hok_hv95)) rfl (pmC (pmC (pmC (pmC pr9)))) ?_
    intro v111 G108 Ms110 hG108 q109
    refine match q109 with | ⟨e_113, hR112⟩ => ?_
    subst e_113
    refine W.perm (pmC (pmC (pmC (pmC pr9)))).symm (g9 14 ?_)
    refine ⟨.inr rfl, [_, _, _], ⟨rfl, rfl, rfl, trivial⟩, Ms110, ((((List.sublist_append_left _ _).cons _).cons _).cons _).cons _, ?_⟩
    have hE := kid_4 p56
    exact ⟨tup3 hE p56 hsl rfl, StR.to hR112 (congrArg Prod.snd hE).symm⟩
   refine W.alloc zr53 (fun b114 => (W.nn ?_))
   refine WD.any [5, 10] (by kernel_rfl) rfl ⟨WD.ap ?_, WD.ap ?_, trivial⟩
   ·refine W.cM (pour_fc c.fan c.leaf c.bud c.slots c.rest (p := (getL l a)) (k := (kidAt l a i)) (nm9 lec hp_n hk_n hm_n hr_n hok_n) (nm9 lec hp_hR10 hk_hR10 hm_hR10 hr_hR10 hok_hR10) i hq.hb hq.hr hq.hpv hq.hpm hq.hkm hq.hkr hi9 hq.hsz) rfl (fun _ _ _ _ _ _ _ _ _ _ _ _ _ _ _ _ G115 hG115 hp_hv116 hk_hv116 hm_hv116 hr_hv116 hok_hv116 hp_hv117 hk_hv117 hm_hv117 hr_hv117 hok_hv117 => (W.nn (d9 [6, 7, 8, 9] ?_)))
    refine WD.a1 10 rfl (W.alloc zr53 (fun b124 => (W.nn (d9 [12, 13, 14] ?_))))
    refine g9 6 ?_
    refine W.call (Mp := Ms_s) (pset_at (StR.mono lec h_s) (by exact hsA) (nk9 hp_hv116 hk_hv116 hm_hv116 hr_hv116 hok_hv116)) rfl (pmC (pmC (pmC (pmC pr9)))) ?_
    intro v128 G125 Ms127 hG125 q126
    refine match q126 with | ⟨e_130, hR129⟩ => ?_
    subst e_130
    refine W.perm (pmC (pmC (pmC (pmC pr9)))).symm (g9 5 ?_)
    refine W.call (Mp := Ms127) (pset_at hR129 (by rw [List.length_set]; exact hsB) (nm9 hG125 hp_hv117 hk_hv117 hm_hv117 hr_hv117 hok_hv117)) rfl (pmC (pmC (pmC (pmC pr9)))) ?_
    intro v134 G131 Ms133 hG131 q132
    refine match q132 with | ⟨e_136, hR135⟩ => ?_
    subst e_136
    refine W.perm (pmC (pmC (pmC (pmC pr9)))).symm (g9 14 ?_)
    refine ⟨.inr rfl, [_, _, _], ⟨rfl, rfl, rfl, trivial⟩, Ms133, ((((List.sublist_append_left _ _).cons _).cons _).cons _).cons _, ?_⟩
    have hE := kid_4 p56
    exact ⟨tup3 hE p56 hsl rfl, StR.to hR135 (congrArg Prod.snd hE).symm⟩
   refine W.alloc zr53 (fun b137 => (W.nn (WD.a1 5 rfl (W.cM (pour_fc c.fan c.leaf c.bud c.slots c.rest (p := (getL l a)) (k := (kidAt l a i)) (nm9 lec hp_n hk_n hm_n hr_n hok_n) (nm9 lec hp_hR10 hk_hR10 hm_hR10 hr_hR10 hok_hR10) i hq.hb hq.hr hq.hpv hq.hpm hq.hkm hq.hkr hi9 hq.hsz) rfl (fun _ _ _ _ _ _ _ _ _ _ _ _ _ _ _ _ G138 hG138 hp_hv139 hk_hv139 hm_hv139 hr_hv139 hok_hv139 hp_hv140 hk_hv140 hm_hv140 hr_hv140 hok_hv140 => (W.nn (d9 [6, 7, 8, 9, 12, 13, 14] ?_)))))))
   refine g9 6 ?_
   refine W.call (Mp := Ms_s) (pset_at (StR.mono lec h_s) (by exact hsA) (nk9 hp_hv139 hk_hv139 hm_hv139 hr_hv139 hok_hv139)) rfl (pmC (pmC (pmC (pmC pr9)))) ?_
   intro v150 G147 Ms149 hG147 q148
   refine match q148 with | ⟨e_152, hR151⟩ => ?_
   subst e_152
   refine W.perm (pmC (pmC (pmC (pmC pr9)))).symm (g9 5 ?_)
   refine W.call (Mp := Ms149) (pset_at hR151 (by rw [List.length_set]; exact hsB) (nm9 hG147 hp_hv140 hk_hv140 hm_hv140 hr_hv140 hok_hv140)) rfl (pmC (pmC (pmC (pmC pr9)))) ?_
   intro v156 G153 Ms155 hG153 q154
   refine match q154 with | ⟨e_158, hR157⟩ => ?_
   subst e_158
   refine W.perm (pmC (pmC (pmC (pmC pr9)))).symm (g9 14 ?_)
   refine ⟨.inr rfl, [_, _, _], ⟨rfl, rfl, rfl, trivial⟩, Ms155, ((((List.sublist_append_left _ _).cons _).cons _).cons _).cons _, ?_⟩
   have hE := kid_4 p56
   exact ⟨tup3 hE p56 hsl rfl, StR.to hR157 (congrArg Prod.snd hE).symm⟩
  ·refine W.alloc zr53 (fun b159 => (W.nn ?_))
   refine WD.any [1, 11] (by kernel_rfl) rfl ⟨WD.ap ?_, WD.ap ?_, trivial⟩
   ·refine W.call (Mp := Ms_s) (pconfig_fc (StR.mono lec h_s)) rfl (pmC (pmC (pmC pr9))) ?_
    intro v163 G160 Ms162 hG160 q161
    refine match q161 with | ⟨e_165, eeq161⟩ => ?_
    subst e_165
    have eeq161 := eeq161.symm
    subst eeq161
    refine W.perm (pmC (pmC (pmC pr9))).symm (W.nn ?_)
    refine WD.any [5, 11] (by kernel_rfl) rfl ⟨WD.ap ?_, WD.ap ?_, trivial⟩
    ·refine W.cM (pour_fc c.fan c.leaf c.bud c.slots c.rest (p := (getL l a)) (k := (kidAt l a i)) (nm9 lec hp_n hk_n hm_n hr_n hok_n) (nm9 lec hp_hR10 hk_hR10 hm_hR10 hr_hR10 hok_hR10) i hq.hb hq.hr hq.hpv hq.hpm hq.hkm hq.hkr hi9 hq.hsz) rfl (fun _ _ _ _ _ _ _ _ _ _ _ _ _ _ _ _ G166 hG166 hp_hv167 hk_hv167 hm_hv167 hr_hv167 hok_hv167 hp_hv168 hk_hv168 hm_hv168 hr_hv168 hok_hv168 => (W.nn (d9 [6, 7, 8, 9] ?_)))
     refine WD.a1 11 rfl (W.alloc zr53 (fun b175 => (W.nn (d9 [12, 13, 14] ?_))))
     refine g9 6 ?_
     refine W.call (Mp := Ms_s) (pset_at (StR.mono lec h_s) (by exact hsA) (nk9 hp_hv167 hk_hv167 hm_hv167 hr_hv167 hok_hv167)) rfl (pmC (pmC (pmC (pmC pr9)))) ?_
     intro v179 G176 Ms178 hG176 q177
     refine match q177 with | ⟨e_181, hR180⟩ => ?_
     subst e_181
     refine W.perm (pmC (pmC (pmC (pmC pr9)))).symm (g9 5 ?_)
     refine W.call (Mp := Ms178) (pset_at hR180 (by rw [List.length_set]; exact hsB) (nm9 hG176 hp_hv168 hk_hv168 hm_hv168 hr_hv168 hok_hv168)) rfl (pmC (pmC (pmC (pmC pr9)))) ?_
     intro v185 G182 Ms184 hG182 q183
     refine match q183 with | ⟨e_187, hR186⟩ => ?_
     subst e_187
     refine W.perm (pmC (pmC (pmC (pmC pr9)))).symm (g9 14 ?_)
     refine ⟨.inr rfl, [_, _, _], ⟨rfl, rfl, rfl, trivial⟩, Ms184, ((((List.sublist_append_left _ _).cons _).cons _).cons _).cons _, ?_⟩
     have hE := kid_4 p56
     exact ⟨tup3 hE p56 hsl rfl, StR.to hR186 (congrArg Prod.snd hE).symm⟩
    refine W.alloc zr53 (fun b188 => (W.nn (WD.a1 5 rfl (W.cM (pour_fc c.fan c.leaf c.bud c.slots c.rest (p := (getL l a)) (k := (kidAt l a i)) (nm9 lec hp_n hk_n hm_n hr_n hok_n) (nm9 lec hp_hR10 hk_hR10 hm_hR10 hr_hR10 hok_hR10) i hq.hb hq.hr hq.hpv hq.hpm hq.hkm hq.hkr hi9 hq.hsz) rfl (fun _ _ _ _ _ _ _ _ _ _ _ _ _ _ _ _ G189 hG189 hp_hv190 hk_hv190 hm_hv190 hr_hv190 hok_hv190 hp_hv191 hk_hv191 hm_hv191 hr_hv191 hok_hv191 => (W.nn (d9 [6, 7, 8, 9, 12, 13, 14] ?_)))))))
    refine g9 6 ?_
    refine W.call (Mp := Ms_s) (pset_at (StR.mono lec h_s) (by exact hsA) (nk9 hp_hv190 hk_hv190 hm_hv190 hr_hv190 hok_hv190)) rfl (pmC (pmC (pmC (pmC pr9)))) ?_
    intro v201 G198 Ms200 hG198 q199
    refine match q199 with | ⟨e_203, hR202⟩ => ?_
    subst e_203
    refine W.perm (pmC (pmC (pmC (pmC pr9)))).symm (g9 5 ?_)
    refine W.call (Mp := Ms200) (pset_at hR202 (by rw [List.length_set]; exact hsB) (nm9 hG198 hp_hv191 hk_hv191 hm_hv191 hr_hv191 hok_hv191)) rfl (pmC (pmC (pmC (pmC pr9)))) ?_
    intro v207 G204 Ms206 hG204 q205
    refine match q205 with | ⟨e_209, hR208⟩ => ?_
    subst e_209
    refine W.perm (pmC (pmC (pmC (pmC pr9)))).symm (g9 14 ?_)
    refine ⟨.inr rfl, [_, _, _], ⟨rfl, rfl, rfl, trivial⟩, Ms206, ((((List.sublist_append_left _ _).cons _).cons _).cons _).cons _, ?_⟩
    have hE := kid_4 p56
    exact ⟨tup3 hE p56 hsl rfl, StR.to hR208 (congrArg Prod.snd hE).symm⟩
   refine W.alloc zr53 (fun b210 => (W.nn (WD.a1 1 rfl (W.call (Mp := Ms_s) (pconfig_fc (StR.mono lec h_s)) rfl (pmC (pmC (pmC (pmC pr9)))) ?_))))
   intro v214 G211 Ms213 hG211 q212
   refine match q212 with | ⟨e_216, eeq212⟩ => ?_
   subst e_216
   have eeq212 := eeq212.symm
   subst eeq212
   refine W.perm (pmC (pmC (pmC (pmC pr9)))).symm (W.nn (WD.a1 5 rfl (W.cM (pour_fc c.fan c.leaf c.bud c.slots c.rest (p := (getL l a)) (k := (kidAt l a i)) (nm9 lec hp_n hk_n hm_n hr_n hok_n) (nm9 lec hp_hR10 hk_hR10 hm_hR10 hr_hR10 hok_hR10) i hq.hb hq.hr hq.hpv hq.hpm hq.hkm hq.hkr hi9 hq.hsz) rfl (fun _ _ _ _ _ _ _ _ _ _ _ _ _ _ _ _ G217 hG217 hp_hv218 hk_hv218 hm_hv218 hr_hv218 hok_hv218 hp_hv219 hk_hv219 hm_hv219 hr_hv219 hok_hv219 => (W.nn (d9 [6, 7, 8, 9, 12, 13, 14] ?_))))))
   refine g9 6 ?_
   refine W.call (Mp := Ms_s) (pset_at (StR.mono lec h_s) (by exact hsA) (nk9 hp_hv218 hk_hv218 hm_hv218 hr_hv218 hok_hv218)) rfl (pmC (pmC (pmC (pmC pr9)))) ?_
   intro v229 G226 Ms228 hG226 q227
   refine match q227 with | ⟨e_231, hR230⟩ => ?_
   subst e_231
   refine W.perm (pmC (pmC (pmC (pmC pr9)))).symm (g9 5 ?_)
   refine W.call (Mp := Ms228) (pset_at hR230 (by rw [List.length_set]; exact hsB) (nm9 hG226 hp_hv219 hk_hv219 hm_hv219 hr_hv219 hok_hv219)) rfl (pmC (pmC (pmC (pmC pr9)))) ?_
   intro v235 G232 Ms234 hG232 q233
   refine match q233 with | ⟨e_237, hR236⟩ => ?_
   subst e_237
   refine W.perm (pmC (pmC (pmC (pmC pr9)))).symm (g9 14 ?_)
   refine ⟨.inr rfl, [_, _, _], ⟨rfl, rfl, rfl, trivial⟩, Ms234, ((((List.sublist_append_left _ _).cons _).cons _).cons _).cons _, ?_⟩
   have hE := kid_4 p56
   exact ⟨tup3 hE p56 hsl rfl, StR.to hR236 (congrArg Prod.snd hE).symm⟩
  refine W.alloc zr53 (fun b238 => (W.nn ?_))
  refine WD.any [1, 10] (by kernel_rfl) rfl ⟨WD.ap ?_, WD.ap ?_, trivial⟩
  ·refine W.call (Mp := Ms_s) (pconfig_fc (StR.mono lec h_s)) rfl (pmC (pmC (pmC pr9))) ?_
   intro v242 G239 Ms241 hG239 q240
   refine match q240 with | ⟨e_244, eeq240⟩ => ?_
   subst e_244
   have eeq240 := eeq240.symm
   subst eeq240
   refine W.perm (pmC (pmC (pmC pr9))).symm (W.nn ?_)
   refine WD.any [5, 10] (by kernel_rfl) rfl ⟨WD.ap ?_, WD.ap ?_, trivial⟩
   ·refine W.cM (pour_fc c.fan c.leaf c.bud c.slots c.rest (p := (getL l a)) (k := (kidAt l a i)) (nm9 lec hp_n hk_n hm_n hr_n hok_n) (nm9 lec hp_hR10 hk_hR10 hm_hR10 hr_hR10 hok_hR10) i hq.hb hq.hr hq.hpv hq.hpm hq.hkm hq.hkr hi9 hq.hsz) rfl (fun _ _ _ _ _ _ _ _ _ _ _ _ _ _ _ _ G245 hG245 hp_hv246 hk_hv246 hm_hv246 hr_hv246 hok_hv246 hp_hv247 hk_hv247 hm_hv247 hr_hv247 hok_hv247 => (W.nn (d9 [6, 7, 8, 9] ?_)))
    refine WD.a1 10 rfl (W.alloc zr53 (fun b254 => (W.nn (d9 [12, 13, 14] ?_))))
    refine g9 6 ?_
    refine W.call (Mp := Ms_s) (pset_at (StR.mono lec h_s) (by exact hsA) (nk9 hp_hv246 hk_hv246 hm_hv246 hr_hv246 hok_hv246)) rfl (pmC (pmC (pmC (pmC pr9)))) ?_
    intro v258 G255 Ms257 hG255 q256
    refine match q256 with | ⟨e_260, hR259⟩ => ?_
    subst e_260
    refine W.perm (pmC (pmC (pmC (pmC pr9)))).symm (g9 5 ?_)
    refine W.call (Mp := Ms257) (pset_at hR259 (by rw [List.length_set]; exact hsB) (nm9 hG255 hp_hv247 hk_hv247 hm_hv247 hr_hv247 hok_hv247)) rfl (pmC (pmC (pmC (pmC pr9)))) ?_
    intro v264 G261 Ms263 hG261 q262
    refine match q262 with | ⟨e_266, hR265⟩ => ?_
    subst e_266
    refine W.perm (pmC (pmC (pmC (pmC pr9)))).symm (g9 14 ?_)
    refine ⟨.inr rfl, [_, _, _], ⟨rfl, rfl, rfl, trivial⟩, Ms263, ((((List.sublist_append_left _ _).cons _).cons _).cons _).cons _, ?_⟩
    have hE := kid_4 p56
    exact ⟨tup3 hE p56 hsl rfl, StR.to hR265 (congrArg Prod.snd hE).symm⟩
   refine W.alloc zr53 (fun b267 => (W.nn (WD.a1 5 rfl (W.cM (pour_fc c.fan c.leaf c.bud c.slots c.rest (p := (getL l a)) (k := (kidAt l a i)) (nm9 lec hp_n hk_n hm_n hr_n hok_n) (nm9 lec hp_hR10 hk_hR10 hm_hR10 hr_hR10 hok_hR10) i hq.hb hq.hr hq.hpv hq.hpm hq.hkm hq.hkr hi9 hq.hsz) rfl (fun _ _ _ _ _ _ _ _ _ _ _ _ _ _ _ _ G268 hG268 hp_hv269 hk_hv269 hm_hv269 hr_hv269 hok_hv269 hp_hv270 hk_hv270 hm_hv270 hr_hv270 hok_hv270 => (W.nn (d9 [6, 7, 8, 9, 12, 13, 14] ?_)))))))
   refine g9 6 ?_
   refine W.call (Mp := Ms_s) (pset_at (StR.mono lec h_s) (by exact hsA) (nk9 hp_hv269 hk_hv269 hm_hv269 hr_hv269 hok_hv269)) rfl (pmC (pmC (pmC (pmC pr9)))) ?_
   intro v280 G277 Ms279 hG277 q278
   refine match q278 with | ⟨e_282, hR281⟩ => ?_
   subst e_282
   refine W.perm (pmC (pmC (pmC (pmC pr9)))).symm (g9 5 ?_)
   refine W.call (Mp := Ms279) (pset_at hR281 (by rw [List.length_set]; exact hsB) (nm9 hG277 hp_hv270 hk_hv270 hm_hv270 hr_hv270 hok_hv270)) rfl (pmC (pmC (pmC (pmC pr9)))) ?_
   intro v286 G283 Ms285 hG283 q284
   refine match q284 with | ⟨e_288, hR287⟩ => ?_
   subst e_288
   refine W.perm (pmC (pmC (pmC (pmC pr9)))).symm (g9 14 ?_)
   refine ⟨.inr rfl, [_, _, _], ⟨rfl, rfl, rfl, trivial⟩, Ms285, ((((List.sublist_append_left _ _).cons _).cons _).cons _).cons _, ?_⟩
   have hE := kid_4 p56
   exact ⟨tup3 hE p56 hsl rfl, StR.to hR287 (congrArg Prod.snd hE).symm⟩
  refine W.alloc zr53 (fun b289 => (W.nn (WD.a1 1 rfl (W.call (Mp := Ms_s) (pconfig_fc (StR.mono lec h_s)) rfl (pmC (pmC (pmC (pmC pr9)))) ?_))))
  intro v293 G290 Ms292 hG290 q291
  refine match q291 with | ⟨e_295, eeq291⟩ => ?_
  subst e_295
  have eeq291 := eeq291.symm
  subst eeq291
  refine W.perm (pmC (pmC (pmC (pmC pr9)))).symm (W.nn (WD.a1 5 rfl (W.cM (pour_fc c.fan c.leaf c.bud c.slots c.rest (p := (getL l a)) (k := (kidAt l a i)) (nm9 lec hp_n hk_n hm_n hr_n hok_n) (nm9 lec hp_hR10 hk_hR10 hm_hR10 hr_hR10 hok_hR10) i hq.hb hq.hr hq.hpv hq.hpm hq.hkm hq.hkr hi9 hq.hsz) rfl (fun _ _ _ _ _ _ _ _ _ _ _ _ _ _ _ _ G296 hG296 hp_hv297 hk_hv297 hm_hv297 hr_hv297 hok_hv297 hp_hv298 hk_hv298 hm_hv298 hr_hv298 hok_hv298 => (W.nn (d9 [6, 7, 8, 9, 12, 13, 14] ?_))))))
  refine g9 6 ?_
  refine W.call (Mp := Ms_s) (pset_at (StR.mono lec h_s) (by exact hsA) (nk9 hp_hv297 hk_hv297 hm_hv297 hr_hv297 hok_hv297)) rfl (pmC (pmC (pmC (pmC pr9)))) ?_
  intro v308 G305 Ms307 hG305 q306
  refine match q306 with | ⟨e_310, hR309⟩ => ?_
  subst e_310
  refine W.perm (pmC (pmC (pmC (pmC pr9)))).symm (g9 5 ?_)
  refine W.call (Mp := Ms307) (pset_at hR309 (by rw [List.length_set]; exact hsB) (nm9 hG305 hp_hv298 hk_hv298 hm_hv298 hr_hv298 hok_hv298)) rfl (pmC (pmC (pmC (pmC pr9)))) ?_
  intro v314 G311 Ms313 hG311 q312
  refine match q312 with | ⟨e_316, hR315⟩ => ?_
  subst e_316
  refine W.perm (pmC (pmC (pmC (pmC pr9)))).symm (g9 14 ?_)
  refine ⟨.inr rfl, [_, _, _], ⟨rfl, rfl, rfl, trivial⟩, Ms313, ((((List.sublist_append_left _ _).cons _).cons _).cons _).cons _, ?_⟩
  have hE := kid_4 p56
  exact ⟨tup3 hE p56 hsl rfl, StR.to hR315 (congrArg Prod.snd hE).symm⟩
 try dsimp only at p56
 refine g9 6 ?_
 refine WC.cd (fun h74 p74 => ?_) (fun h74 p74 => ?_)
 ·try dsimp only at p74
  refine g9 13 ?_
  refine ⟨.inr rfl, [_, _, _], ⟨rfl, rfl, rfl, trivial⟩, Ms_s, ((List.sublist_append_left _ _).cons _).cons _, ?_⟩
  have hE := kid_5 p74
  exact ⟨tup3 hE p74 rfl rfl, StR.to (StR.mono lec h_s) (congrArg Prod.snd hE).symm⟩
 try dsimp only at p74
 refine g9 14 ?_
 refine ⟨.inr rfl, [_, _, _], ⟨rfl, rfl, rfl, trivial⟩, Ms_s, ((List.sublist_append_left _ _).cons _).cons _, ?_⟩
 have hE := kid_0 (dec_0 p44 p56 p74)
 exact ⟨tup3 hE (dec_0 p44 p56 p74) hsl rfl, StR.to (StR.mono lec h_s) (congrArg Prod.snd hE).symm⟩

theorem fstep_in {G : GH} {b_s : Nat} {c c2 : Cfg} {l : List Nd} {ss : List Seat} {Ms_s : MH} (h_s : StR 53 4 3 125 78 b_s c G l Ms_s) (t : Tree c2 l ss) (a : Int) (k : Str) (hc9 : c = c2) (ha : 0 ≤ a ∧ a < (l.length : Int)) :
    Fc Tryz.prog 9 [pt9 b_s, iV a, sV k.b] G Ms_s (fun v G' M' => v = .tuple #[iV (stepN c l a k).1.1, iV (stepN c l a k).1.2.1, iV (stepN c l a k).1.2.2] ∧ StR 53 4 3 125 78 b_s c G' (stepN c l a k).2 M') := by
 subst hc9
 have hc9 : c = c := rfl
 obtain ⟨P9, hP9, eP9⟩ := t.seat_of ha
 have hPR := (t.seat hP9).1
 rw [eP9] at hPR
 have hPD : NdS (getL l a) := nds_R t.cfg hPR
 have hcp : ChoosePre (getL l a) := choose_pre hPR hPD
 have hlk9 : ((getL l a).kids.length : Int) ≤ 4000 := by have := hPD.1; omega
 refine Fc.go [.tmp 6, .tmp 7, .tmp 8] Tryz.func9 Tryz.ntmps9 rfl (fun w0 => (WC.perm (M' := (Ms_s ++ [])) (by simp) (g9 11 ?_)))
 refine W.ok (ok_eqlPN pp27 rfl rfl) (g9 9 ?_)
 refine W.call (Mp := Ms_s) (pnode_fc h_s a) rfl pr9 ?_
 intro v12 G9 Ms11 hG9 q10
 refine match q10 with | ⟨⟨_, e_14, ⟨_, _, _, _, _, _, _, _, e_15, hp_hR13, hk_hR13, hm_hR13, hr_hR13, hok_hR13⟩⟩, eeq10⟩ => ?_
 subst e_14
 subst e_15
 have eeq10 := eeq10.symm
 subst eeq10
 refine g9 3 ?_
 refine W.alloc zr53 (fun b16 => (g9 11 ?_))
 refine WC.cn (fun h23 p23 => ?_) (fun h23 p23 => ?_)
 ·try dsimp only at p23
  exact absurd ha p23
 try dsimp only at p23
 refine g9 3 ?_
 refine WC.dw sn9.k9 (d9 [0, 2, 3] ?_)
 refine WD.a1 1 rfl (W.call (Mp := Ms_s) (pconfig_fc (StR.mono hG9 h_s)) rfl (pmC pr9) ?_)
 intro v20 G17 Ms19 hG17 q18
 refine match q18 with | ⟨e_22, eeq18⟩ => ?_
 subst e_22
 have eeq18 := eeq18.symm
 subst eeq18
 refine W.perm (pmC pr9).symm (W.nn (WD.a1 4 rfl (W.qcall (fchoose_fc c.fan c.leaf c.bud c.slots c.rest (n := (getL l a)) (nm9 hG17 hp_hR13 hk_hR13 hm_hR13 hr_hR13 hok_hR13) k hcp) rfl (W.nn (d9 [5, 6, 7, 8, 9] ?_)))))
 refine g9 15 ?_
 refine WC.cd (fun h35 p35 => ?_) (fun h35 p35 => ?_)
 ·try dsimp only at p35
  refine g9 3 ?_
  refine W.call (Mp := Ms_s) (glift_fc (StR.mono lec h_s) t) rfl (pmC pr9) ?_
  intro v26 G23 Ms25 hG23 q24
  refine match q24 with | ⟨e_28, hR27⟩ => ?_
  subst e_28
  refine W.perm (pmC pr9).symm (g9 9 ?_)
  refine WC.cn (fun h39 p39 => ?_) (fun h39 p39 => ?_)
  ·try dsimp only at p39
   refine g9 12 ?_
   refine ⟨.inr rfl, [_, _, _], ⟨rfl, rfl, rfl, trivial⟩, Ms25, (List.sublist_append_left _ _).cons _, ?_⟩
   have hE := step_e p35 p39
   exact ⟨tup3 hE rfl rfl rfl, StR.to hR27 (congrArg Prod.snd hE).symm⟩
  try dsimp only at p39
  refine g9 13 ?_
  refine ⟨.inr rfl, [_, _, _], ⟨rfl, rfl, rfl, trivial⟩, Ms25, (List.sublist_append_left _ _).cons _, ?_⟩
  have hE := step_1 p35 om9
  exact ⟨tup3 hE p35 rfl rfl, StR.to hR27 (congrArg Prod.snd hE).symm⟩
 try dsimp only at p35
 refine g9 6 ?_
 refine WC.cd (fun h43 p43 => ?_) (fun h43 p43 => ?_)
 ·try dsimp only at p43
  have hch := choose_in (k := k) t ha p43
  refine g9 5 ?_
  refine W.call (Mp := Ms_s) (fkid_fc (StR.mono lec h_s) t (a := a) (nm9 hG17 hp_hR13 hk_hR13 hm_hR13 hr_hR13 hok_hR13) (chooseN c (getL l a) k).2 hc9 ha hch.1 hch.2 ⟨by have := hch.2; omega, by have := hch.2; omega⟩) rfl (pmC pr9) ?_
  intro v32 G29 Ms31 hG29 q30
  refine match q30 with | ⟨e_34, hR33⟩ => ?_
  subst e_34
  refine W.perm (pmC pr9).symm (g9 11 ?_)
  refine ⟨.inr rfl, [_, _, _], ⟨rfl, rfl, rfl, trivial⟩, Ms31, (List.sublist_append_left _ _).cons _, ?_⟩
  have hE := step_2 p43
  exact ⟨congrArg (fun q : (Int × Int × Int) × List Nd => Value.tuple #[iV q.1.1, iV q.1.2.1, iV q.1.2.2]) hE.symm, StR.to hR33 (congrArg Prod.snd hE).symm⟩
 try dsimp only at p43
 refine g9 13 ?_
 refine ⟨.inr rfl, [_, _, _], ⟨rfl, rfl, rfl, trivial⟩, Ms_s, (List.sublist_append_left _ _).cons _, ?_⟩
 have hE := step_0 (cho_0 p35 p43)
 exact ⟨tup3 hE (cho_0 p35 p43) rfl rfl, StR.to (StR.mono lec h_s) (congrArg Prod.snd hE).symm⟩

end Go.Proofs.YtfmigmijckdldaaGreat

namespace Go.Fw
open Go Go.RowKit
theorem lift_grow (c : Cfg) (l : List Nd) : l.length ≤ (liftS c l).2.length := by
 unfold liftS
 split
 ·exact Nat.le_refl _
 ·split
  ·exact Nat.le_refl _
  ·unfold liftL
   simp
theorem part_grow (c : Cfg) (l : List Nd) (p i : Int) : l.length ≤ (partI c l p i).2.length := by
 unfold partI
 split
 ·exact Nat.le_refl _
 ·unfold partS
  split
  ·exact Nat.le_refl _
  ·split
   ·exact Nat.le_refl _
   ·split
    ·exact Nat.le_refl _
    ·split
     ·exact Nat.le_refl _
     ·unfold lstP
      simp
theorem pour_grow (l : List Nd) (a b : Nd) : l.length ≤ (pourL l a b).length := by unfold pourL; simp
theorem kid_grow (c : Cfg) (l : List Nd) (a i : Int) : l.length ≤ (kidStep c l a i).2.length := by
 have hp := part_grow c l a i
 rcases decide_cases c (getL l a) (kidAt l a i) i with h | h | ⟨h, h2⟩ | h
 ·rw [kid_0 h]; exact Nat.le_refl _
 ·by_cases h3 : (partI c l a i).1 = 0
  ·rw [kid_3 h h3]; exact hp
  ·rw [kid_e h h3]; exact hp
 ·rw [kid_4 h]; exact pour_grow _ _ _
 ·rw [kid_5 h]; exact Nat.le_refl _
theorem step_grow (c : Cfg) (l : List Nd) (a : Int) (k : Str) : l.length ≤ (stepN c l a k).2.length := by
 have hl := lift_grow c l
 rcases choose_cases c (getL l a) k with h | h | ⟨h, _⟩
 ·rw [step_0 h]; exact Nat.le_refl _
 ·by_cases h3 : (liftS c l).1 = 0
  ·rw [step_1 h h3]; exact hl
  ·rw [step_e h h3]; exact hl
 ·rw [step_2 h]; exact kid_grow c l a _
theorem step_next {c : Cfg} {l : List Nd} {ss : List Seat} (t : Tree c l ss) {a : Int} (ha : 0 ≤ a ∧ a < l.length) (k : Str) : 0 ≤ (stepN c l a k).1.2.1 ∧ (stepN c l a k).1.2.1 < ((stepN c l a k).2.length : Int) := by
 have hg := step_grow c l a k
 rcases choose_cases c (getL l a) k with h | h | ⟨h, _⟩
 ·rw [step_0 h]; exact ha
 ·by_cases h3 : (liftS c l).1 = 0
  ·rw [step_1 h h3] at hg ⊢; exact ⟨ha.1, by show a < _; dsimp only at hg ⊢; omega⟩
  ·rw [step_e h h3] at hg ⊢; exact ⟨ha.1, by show a < _; dsimp only at hg ⊢; omega⟩
 ·obtain ⟨h0, hi⟩ := choose_in t ha h
  obtain ⟨P, s⟩ := step_at t ha h0 hi
  have hpg := part_grow c l a (chooseN c (getL l a) k).2
  rw [step_2 h]
  rcases decide_cases c (getL l a) (kidAt l a (chooseN c (getL l a) k).2) (chooseN c (getL l a) k).2 with h | h | ⟨h, h2⟩ | h
  ·rw [kid_0 h]; exact ha
  ·by_cases h3 : (partI c l a (chooseN c (getL l a) k).2).1 = 0
   ·rw [kid_3 h h3]; exact ⟨ha.1, by dsimp only; omega⟩
   ·rw [kid_e h h3]; exact ⟨ha.1, by dsimp only; omega⟩
  ·rw [kid_4 h]
   have := pour_grow l (pourN c.leaf c.bud (getL l a) (kidAt l a (chooseN c (getL l a) k).2) (chooseN c (getL l a) k).2).1 (pourN c.leaf c.bud (getL l a) (kidAt l a (chooseN c (getL l a) k).2) (chooseN c (getL l a) k).2).2.1
   exact ⟨ha.1, by dsimp only; omega⟩
  ·rw [kid_5 h]
   show 0 ≤ (kidAt _ _ _).slot ∧ (kidAt _ _ _).slot < _
   rw [s.ksl]
   exact s.kin
noncomputable def cycF (c : Cfg) (k : Str) : Nat → List Nd → Int → Int → Option (Int × Int × List Nd)
 | 0, _, _, _ => none
 | m + 1, l, a, n => if (stepN c l a k).1.1 = 0 then some (n, (stepN c l a k).1.2.2, (stepN c l a k).2) else cycF c k m (stepN c l a k).2 (stepN c l a k).1.2.1 (if (stepN c l a k).1.1 = 5 then n else n + 1)
theorem cyc_end {c : Cfg} {k : Str} {m : Nat} {l : List Nd} {a n : Int} (h : (stepN c l a k).1.1 = 0) : cycF c k (m + 1) l a n = some (n, (stepN c l a k).1.2.2, (stepN c l a k).2) := if_pos h
theorem cyc_down {c : Cfg} {k : Str} {m : Nat} {l : List Nd} {a n : Int} (h : (stepN c l a k).1.1 = 5) : cycF c k (m + 1) l a n = cycF c k m (stepN c l a k).2 (stepN c l a k).1.2.1 n := by
 show (if _ then _ else _) = _
 rw [if_neg om9, if_pos h]
theorem cyc_did {c : Cfg} {k : Str} {m : Nat} {l : List Nd} {a n : Int} (h : ¬ (stepN c l a k).1.1 = 0) (h2 : ¬ (stepN c l a k).1.1 = 5) : cycF c k (m + 1) l a n = cycF c k m (stepN c l a k).2 (stepN c l a k).1.2.1 (n + 1) := by
 show (if _ then _ else _) = _
 rw [if_neg h, if_neg h2]
theorem cyc_tree {c : Cfg} {k : Str} : ∀ (m : Nat) {l : List Nd} {ss : List Seat} {a n : Int} {r : Int × Int × List Nd}, Tree c l ss → 0 ≤ a ∧ a < l.length → cycF c k m l a n = some r → ∃ T, Tree c r.2.2 T ∧ mapN r.2.2 = mapN l
 | 0, _, _, _, _, _, _, _, h => by cases h
 | m + 1, l, ss, a, n, r, t, ha, h => by
  obtain ⟨T, hT, hm⟩ := step_tree t ha k
  by_cases h0 : (stepN c l a k).1.1 = 0
  ·rw [cyc_end h0] at h
   cases h
   exact ⟨T, hT, hm⟩
  ·have hn := step_next t ha k
   by_cases h5 : (stepN c l a k).1.1 = 5
   ·rw [cyc_down h5] at h
    obtain ⟨T2, h1, h2⟩ := cyc_tree m hT hn h
    exact ⟨T2, h1, h2.trans hm⟩
   ·rw [cyc_did h0 h5] at h
    obtain ⟨T2, h1, h2⟩ := cyc_tree m hT hn h
    exact ⟨T2, h1, h2.trans hm⟩
end Go.Fw
namespace Go.Proofs.YtfmigmijckdldaaGreat
open Go Go.Fw Go.RowKit
attribute [local irreducible] Ok W WC
theorem fcycle_fc {G : GH} {b_s : Nat} {c c2 : Cfg} {l : List Nd} {ss : List Seat} {Ms_s : MH} (h_s : StR 53 4 3 125 78 b_s c G l Ms_s) (t : Tree c2 l ss) (k : Str) (hc9 : c = c2) (N : Nat) (r : Int × Int × List Nd) (hr : cycF c k N l 0 0 = some r) (hN : N ≤ 1000000) :
    Fc Tryz.prog 19 [pt9 b_s, sV k.b] G Ms_s (fun v G' M' => v = .tuple #[iV r.1, iV r.2.1] ∧ StR 53 4 3 125 78 b_s c G' r.2.2 M') := by
 subst hc9
 have htp := t.pos
 refine Fc.go [.tmp 4, .tmp 5] Tryz.func19 Tryz.ntmps19 rfl (fun w0 => (WC.perm (M' := (Ms_s ++ [])) (by simp) (g9 17 ?_)))
 refine WC.loop (X := (Nat × List Nd × Int × Int) × MH) (fun x => [(6, iV x.1.2.2.2), (7, iV x.1.2.2.1), (1, sV k.b), (0, pt9 b_s)]) (fun x G Ml => Ml = (x.2 ++ []) ∧ StR 53 4 3 125 78 b_s c G (x.1.2.1) x.2 ∧ cycF c k x.1.1 x.1.2.1 x.1.2.2.1 x.1.2.2.2 = some r ∧ (∃ T, Tree c x.1.2.1 T) ∧ (0 ≤ x.1.2.2.1 ∧ x.1.2.2.1 < (x.1.2.1.length : Int)) ∧ 0 ≤ x.1.2.2.2 ∧ x.1.2.2.2 + (x.1.1 : Int) ≤ 1000000) (fun x => x.1.1) (((N, l, 0, 0) : Nat × List Nd × Int × Int), Ms_s) hs9 ?_ ?_
 ·exact ⟨rfl, (by exact h_s), hr, ⟨ss, t⟩, ⟨by dsimp only; omega, by dsimp only; omega⟩, by dsimp only; omega, by dsimp only; omega⟩
 rintro ⟨⟨m, L, a, n⟩, M_0⟩ gG1 G1 _ hG1 ⟨rfl, ho_0, hcy, hTr, haL, hn0, hnm⟩
 try dsimp only at ho_0 hcy hTr haL hn0 hnm
 obtain ⟨T8, t9⟩ := hTr
 have hm1 : 0 < m := by
   rcases Nat.eq_zero_or_pos m with h | h
   · rw [h] at hcy; cases hcy
   exact h
 rw [show m = m - 1 + 1 by omega] at hcy
 have hnx := step_next t9 haL k
 obtain ⟨T9, hT9, hmp9⟩ := step_tree t9 haL k
 refine WC.fr (f := setL gG1 [(6, iV n), (7, iV a), (1, sV k.b), (0, pt9 b_s)]) rfl (g9 6 ?_)
 refine W.call (Mp := M_0) (fstep_in ho_0 t9 a k rfl haL) rfl pr9 ?_
 intro v5 G2 Ms4 hG2 q3
 refine match q3 with | ⟨e_7, hR6⟩ => ?_
 subst e_7
 refine g9 22 ?_
 refine WC.cd (fun h23 p23 => ?_) (fun h23 p23 => ?_)
 ·try dsimp only at p23
  refine g9 14 ?_
  refine ⟨.inr rfl, [_, _], ⟨rfl, rfl, trivial⟩, Ms4, List.sublist_append_left _ _, ?_⟩
  have hE := Option.some.inj ((cyc_end p23).symm.trans hcy)
  exact ⟨congrArg (fun q : Int × Int × List Nd => Value.tuple #[iV q.1, iV q.2.1]) hE, StR.to hR6 (congrArg (fun q : Int × Int × List Nd => q.2.2) hE)⟩
 try dsimp only at p23
 refine g9 6 ?_
 refine WC.cd (fun h27 p27 => ?_) (fun h27 p27 => ?_)
 ·try dsimp only at p27
  refine g9 9 ?_
  exact ⟨hG2, (((m - 1, (stepN c L a k).2, (stepN c L a k).1.2.1, n) : Nat × List Nd × Int × Int), Ms4), hs9, ⟨rfl, (by exact hR6), (cyc_down p27).symm.trans hcy, ⟨_, hT9⟩, hnx, by dsimp only; omega, by dsimp only; omega⟩, by dsimp only; omega⟩
 try dsimp only at p27
 refine g9 13 ?_
 exact ⟨hG2, (((m - 1, (stepN c L a k).2, (stepN c L a k).1.2.1, n + 1) : Nat × List Nd × Int × Int), Ms4), hs9, ⟨rfl, (by exact hR6), (cyc_did p23 p27).symm.trans hcy, ⟨_, hT9⟩, hnx, by dsimp only; omega, by dsimp only; omega⟩, by dsimp only; omega⟩

end Go.Proofs.YtfmigmijckdldaaGreat

namespace Go.Fw
open Go Go.RowKit
def RfR (te Tb : TypeId) (b : Nat) (c : Cfg) (G : GH) (l : List Nd) (M : MH) : Prop :=
 ∃ (v : Value) (Mo : MH), M = (b, .cells (List.toArray [.int .i64 c.fan, .int .i64 c.leaf, .int .i64 c.bud, .int .i64 c.slots, .int .i64 c.rest, v]) Tb (0, 0)) :: Mo ∧ OwnR eNode te G v l Mo
theorem RfR.to {te Tb b : Nat} {c : Cfg} {G : GH} {l l' : List Nd} {M : MH} (h : RfR te Tb b c G l M) (e : l = l') : RfR te Tb b c G l' M := e ▸ h
theorem getL_nat {l : List Nd} {p : Int} (h : 0 ≤ p ∧ p < l.length) : getL l p = l[p.toNat]'om9 := by
 have := getL_at (l := l) (k := p.toNat) om9
 rwa [show ((p.toNat : Nat) : Int) = p by omega] at this
end Go.Fw
namespace Go.Proofs.YtfmigmijckdldaaGreat
open Go Go.Fw Go.RowKit
attribute [local irreducible] Ok W WC
theorem rof_fc {G : GH} (cfan : Int) (cleaf : Int) (cbud : Int) (cslots : Int) (crest : Int) {v_l : Value} {l : List Nd} (h_l : SlR eNode G v_l l) :
    Fc Tryz.prog 8 [.agg #[iV cfan, iV cleaf, iV cbud, iV cslots, iV crest], v_l] G [] (fun v G' M' => ∃ b, v = pt9 b ∧ RfR 53 39 b (⟨cfan, cleaf, cbud, cslots, crest⟩ : Cfg) G' l M') := by
 obtain ⟨sa_l, sc_l, rfl⟩ := h_l.form
 have hl := h_l.len47
 have hlb : l.length * 152 ≤ 140737488355328 := h_l.bytes
 refine Fc.go [.tmp 4] Tryz.func8 Tryz.ntmps8 rfl (fun w0 => (g9 2 ?_))
 refine W.box (L := [iV _, iV _, iV _, iV _, iV _]) rfl rfl (fun b1 => (g9 4 ?_))
 refine WC.dw sr9.k9 (d9 [0, 2] ?_)
 refine WD.a1 1 rfl (W.lit0 (e := eNode) sl24 ty53 zr53 rfl (fun v2 Ms3 ho4 => (W.perm (pmC pr9).symm ?_)))
 have q8 := ho4.form
 refine match q8 with | ⟨sa5, sc6, e_7⟩ => ?_
 subst e_7
 refine W.nn (WD.a1 3 rfl (W.app (e := eNode) sl24 ty53 zr53 rfl by53 rfl rfl (ho4) (h_l) (pmC pr9) (by show (List.length _ + List.length _) * 152 ≤ _; simp; omega) (fun v9 Ms10 ho11 => (W.perm (pmC pr9).symm ?_))))
 have q15 := ho11.form
 refine match q15 with | ⟨sa12, sc13, e_14⟩ => ?_
 subst e_14
 refine W.nn (WD.tk 4 rfl (ok_build (L := [iV _, iV _, iV _, iV _, iV _, lV _ _ _]) pl39 zr39 rfl rfl rfl) (WD.a1 5 rfl (W.box (L := [iV _, iV _, iV _, iV _, iV _, lV _ _ _]) rfl rfl (fun b16 => (W.nn (d9 [6] ?_))))))
 refine g9 3 ?_
 refine ⟨.inr rfl, [_], ⟨rfl, trivial⟩, ((b16, ce9 39 [iV cfan, iV cleaf, iV cbud, iV cslots, iV crest, lV sa12 (([] ++ l)).length sc13]) :: (Ms10 ++ [])), (sr9.cons _).k9, ?_⟩
 exact ⟨_, rfl, ⟨_, _, congrArg _ (List.append_nil _), ho11⟩⟩

theorem rlift26_fc {G : GH} {b_s : Nat} {c : Cfg} {v_l : Value} {l : List Nd} {Ms_l : MH} (h_l : OwnR eNode 53 G v_l l Ms_l) (hp0 : 0 < l.length ∧ l.length ≤ 4096) (hlv : i64 ((getL l 0).level + 1)) (hks : ∀ m ∈ (getL l 0).msgs, m.key.b.size < 140737488355328) :
    Fc Tryz.prog 34 [pt9 b_s] G ((b_s, ce9 39 [iV c.fan, iV c.leaf, iV c.bud, iV c.slots, iV c.rest, v_l]) :: (Ms_l)) (fun v G' M' => v = iV (liftS c l).1 ∧ RfR 53 39 b_s c G' (liftS c l).2 M') := by
 obtain ⟨sa_l, sc_l, rfl⟩ := h_l.form
 have hl := h_l.len47
 have hlb : l.length * 152 ≤ 140737488355328 := h_l.bytes
 obtain ⟨hp1, hp2⟩ := hp0
 have hg0 : getL l 0 = l[0]'om9 := getL_at (k := 0) om9
 rw [hg0] at hlv hks
 have hxi : i64 (l.length : Int) := ⟨om9, om9⟩
 have hyi : i64 ((l.length : Int) + 1) := ⟨om9, om9⟩
 refine Fc.go [.tmp 2] Tryz.func34 Tryz.ntmps34 rfl (fun w0 => (WC.perm (M' := ((b_s, ce9 39 [iV c.fan, iV c.leaf, iV c.bud, iV c.slots, iV c.rest, lV sa_l l.length sc_l]) :: (Ms_l ++ []))) (by simp) (g9 28 ?_)))
 refine h_l.aN (i := 0) om9 (fun _ _ _ _ _ _ _ _ he17 hp_n18 hk_n18 hm_n18 hr_n18 hok_n18 => (W.ok (ok_indexAddrO (i := 0) sl24 ty53 h_l rfl rfl ⟨om9, om9⟩) (W.ok (ok_loadO (vs := nd9) ty53 he17 (pmC pr9) rfl rfl rfl (by simp)) (g9 2 ?_))))
 refine W.call (Mp := []) (rlift_fc (nk9 hp_n18 hk_n18 hm_n18 hr_n18 hok_n18) (l.length : Int) ((l.length : Int) + 1) (by assumption) (by assumption) hlv hks) rfl pr9 ?_
 intro _ G21 _ hG21 q25
 refine match q25 with | ⟨e_26, _, e_27, _, _, _, e_28, hv22, hv23, hv24⟩ => ?_
 subst e_26
 subst e_27
 subst e_28
 refine match hv22 with | ⟨_, _, _, _, _, _, _, _, e_29, hp_hv22, hk_hv22, hm_hv22, hr_hv22, hok_hv22⟩ => ?_
 subst e_29
 refine match hv23 with | ⟨_, _, _, _, _, _, _, _, e_30, hp_hv23, hk_hv23, hm_hv23, hr_hv23, hok_hv23⟩ => ?_
 subst e_30
 refine match hv24 with | ⟨_, _, _, _, _, _, _, _, e_31, hp_hv24, hk_hv24, hm_hv24, hr_hv24, hok_hv24⟩ => ?_
 subst e_31
 refine g9 5 ?_
 refine W.alloc zr53 (fun b32 => (W.alloc zr53 (fun b33 => (W.alloc zr53 (fun b34 => (g9 13 ?_))))))
 refine WC.cond rfl (fun h35 => ?_) (fun h35 => ?_)
 ·refine g9 7 ?_
  refine ⟨.inr rfl, [_], ⟨rfl, trivial⟩, ((b_s, ce9 39 [iV c.fan, iV c.leaf, iV c.bud, iV c.slots, iV c.rest, lV sa_l l.length sc_l]) :: (Ms_l ++ [])), ((sr9.k9.cons _).cons _).cons _, ?_⟩
  exact ⟨congrArg (fun p : Int × List Nd => Value.int .i64 p.1) (liftS_6 (x := (l.length : Int)) (y := (l.length : Int) + 1) (by rw [hg0]; simpa using h35)).symm, RfR.to ⟨_, _, congrArg _ (List.append_nil _), (h_l.mono hG21)⟩ (congrArg Prod.snd (liftS_6 (x := (l.length : Int)) (y := (l.length : Int) + 1) (by rw [hg0]; simpa using h35))).symm⟩
 have hok9 : (liftN (getL l 0) (l.length : Int) ((l.length : Int) + 1)).2.2.2 = true := by rw [hg0]; simpa using h35
 refine g9 14 ?_
 refine WC.cd (fun h42 p42 => ?_) (fun h42 p42 => ?_)
 ·try dsimp only at p42
  refine g9 7 ?_
  refine ⟨.inr rfl, [_], ⟨rfl, trivial⟩, ((b_s, ce9 39 [iV c.fan, iV c.leaf, iV c.bud, iV c.slots, iV c.rest, lV sa_l l.length sc_l]) :: (Ms_l ++ [])), ((sr9.k9.cons _).cons _).cons _, ?_⟩
  exact ⟨congrArg (fun p : Int × List Nd => Value.int .i64 p.1) (liftS_4 hok9 om9).symm, RfR.to ⟨_, _, congrArg _ (List.append_nil _), (h_l.mono hG21)⟩ (congrArg Prod.snd (liftS_4 hok9 om9)).symm⟩
 try dsimp only at p42
 refine g9 3 ?_
 refine WC.dw (((sn9.k9.k9).k9).k9) (d9 [0, 1, 2, 3, 4] ?_)
 refine (h_l.mono hG21).aN (i := 0) om9 (fun _ _ _ _ _ _ _ _ he35 hp_n36 hk_n36 hm_n36 hr_n36 hok_n36 => (WD.tk 5 rfl (ok_indexAddrO (i := 0) sl24 ty53 (h_l.mono hG21) rfl rfl ⟨om9, om9⟩) (WD.a1 6 rfl (W.storeO (i := 0) (o := 0) (vs := nd9) (a' := ((liftN (l[0]'om9) (l.length : Int) ((l.length : Int) + 1))).1) ty53 rfl rfl rfl rfl rfl ((h_l.mono hG21)) (pmC (pmC (pmC (pmC pr9)))) om9 (by decide) (fun cs h => by obtain ⟨_, _, _, _, _, _, _, _, rfl, _⟩ := h; exact (nk9 hp_hv22 hk_hv22 hm_hv22 hr_hv22 hok_hv22)) (fun Ms39 ho40 => (W.perm (pmC (pmC (pmC (pmC pr9)))).symm (W.nn (g9 3 ?_))))))))
 refine WC.dw ((((sn9.cons _).k9).k9).k9) (d9 [0, 1, 2, 3, 5, 6] ?_)
 refine WD.any [4, 7] (by kernel_rfl) rfl ⟨WD.ap ?_, WD.ap ?_, trivial⟩
 ·refine g9 1 ?_
  refine W.nn (WD.a1 7 rfl (W.lit (e := eNode) (l := [((liftN (l[0]'om9) (l.length : Int) ((l.length : Int) + 1))).2.1, ((liftN (l[0]'om9) (l.length : Int) ((l.length : Int) + 1))).2.2.1]) (css := [[iV _, iV _, lV _ _ _, lV _ _ _, sV _, .bool _, iV _, iV _, lV _ _ _, lV _ _ _], [iV _, iV _, lV _ _ _, lV _ _ _, sV _, .bool _, iV _, iV _, lV _ _ _, lV _ _ _]]) sl24 ty53 zr53 rfl rfl rfl rfl rfl rfl ⟨(nk9 hp_hv23 hk_hv23 hm_hv23 hr_hv23 hok_hv23), (nk9 hp_hv24 hk_hv24 hm_hv24 hr_hv24 hok_hv24), trivial⟩ (fun bl41 G41 hG41 hv41 => (W.nn (WD.a1 8 rfl (W.app (e := eNode) sl24 ty53 zr53 rfl by53 rfl rfl ((ho40.mono hG41)) (hv41) (pmC (pmC (pmC (pmC pr9)))) (by show (List.length _ + List.length _) * 152 ≤ _; rw [List.length_set]; simp; omega) (fun v42 Ms43 ho44 => (W.perm (pmC (pmC (pmC (pmC pr9)))).symm ?_))))))))
  have q48 := ho44.form
  refine match q48 with | ⟨sa45, sc46, e_47⟩ => ?_
  subst e_47
  refine W.nn (d9 [9, 10, 11] ?_)
  refine g9 8 ?_
  refine ⟨.inr rfl, [_], ⟨rfl, trivial⟩, ((b_s, ce9 39 [iV c.fan, iV c.leaf, iV c.bud, iV c.slots, iV c.rest, lV sa45 ((((l).set (0) ((liftN (l[0]'om9) (l.length : Int) ((l.length : Int) + 1))).1) ++ [((liftN (l[0]'om9) (l.length : Int) ((l.length : Int) + 1))).2.1, ((liftN (l[0]'om9) (l.length : Int) ((l.length : Int) + 1))).2.2.1])).length sc46]) :: (Ms43 ++ [])), ((sr9.k9.cons _).cons _).cons _, ?_⟩
  have hE := liftS_0 (c := c) hok9 om9
  rw [hg0] at hE
  exact ⟨congrArg (fun p : Int × List Nd => Value.int .i64 p.1) hE.symm, RfR.to ⟨_, _, congrArg _ (List.append_nil _), ho44⟩ (congrArg Prod.snd hE).symm⟩
 refine W.lit (e := eNode) (l := [((liftN (l[0]'om9) (l.length : Int) ((l.length : Int) + 1))).2.1, ((liftN (l[0]'om9) (l.length : Int) ((l.length : Int) + 1))).2.2.1]) (css := [[iV _, iV _, lV _ _ _, lV _ _ _, sV _, .bool _, iV _, iV _, lV _ _ _, lV _ _ _], [iV _, iV _, lV _ _ _, lV _ _ _, sV _, .bool _, iV _, iV _, lV _ _ _, lV _ _ _]]) sl24 ty53 zr53 rfl rfl rfl rfl rfl rfl ⟨(nk9 hp_hv23 hk_hv23 hm_hv23 hr_hv23 hok_hv23), (nk9 hp_hv24 hk_hv24 hm_hv24 hr_hv24 hok_hv24), trivial⟩ (fun bl49 G49 hG49 hv49 => (W.nn (WD.a1 4 rfl (g9 1 ?_))))
 refine W.nn (WD.a1 8 rfl (W.app (e := eNode) sl24 ty53 zr53 rfl by53 rfl rfl ((ho40.mono hG49)) (hv49) (pmC (pmC (pmC (pmC pr9)))) (by show (List.length _ + List.length _) * 152 ≤ _; rw [List.length_set]; simp; omega) (fun v50 Ms51 ho52 => (W.perm (pmC (pmC (pmC (pmC pr9)))).symm ?_))))
 have q56 := ho52.form
 refine match q56 with | ⟨sa53, sc54, e_55⟩ => ?_
 subst e_55
 refine W.nn (d9 [9, 10, 11] ?_)
 refine g9 8 ?_
 refine ⟨.inr rfl, [_], ⟨rfl, trivial⟩, ((b_s, ce9 39 [iV c.fan, iV c.leaf, iV c.bud, iV c.slots, iV c.rest, lV sa53 ((((l).set (0) ((liftN (l[0]'om9) (l.length : Int) ((l.length : Int) + 1))).1) ++ [((liftN (l[0]'om9) (l.length : Int) ((l.length : Int) + 1))).2.1, ((liftN (l[0]'om9) (l.length : Int) ((l.length : Int) + 1))).2.2.1])).length sc54]) :: (Ms51 ++ [])), ((sr9.k9.cons _).cons _).cons _, ?_⟩
 have hE := liftS_0 (c := c) hok9 om9
 rw [hg0] at hE
 exact ⟨congrArg (fun p : Int × List Nd => Value.int .i64 p.1) hE.symm, RfR.to ⟨_, _, congrArg _ (List.append_nil _), ho52⟩ (congrArg Prod.snd hE).symm⟩

end Go.Proofs.YtfmigmijckdldaaGreat
