/- The walk of a step that has to do with a kid. -/
import Derived.Test.YtbbemibbmbmamaaGreatQhVj
set_option maxRecDepth 100000
set_option maxHeartbeats 1600000
set_option linter.unusedVariables false
set_option linter.unusedSimpArgs false
set_option linter.unnecessarySimpa false
namespace Go.Proofs.YtbbemibbmbmamaaGreat
open Go Go.Fw Go.RowKit
attribute [local irreducible] Ok W WC
theorem Zsb {G : GH} {b : Nat} {c : Cfg} {l : List Nd} {M : MH} (h : StR 60 4 3 189 139 b c G l M) (a i : Int) : Fc Tryz.prog 67 [pt9 b, iV ((Za l a).kids.getD i.toNat 0)] G M (fun v G' M' => (∃ cs, v = .tuple #[.agg (List.toArray cs), .bool (decide (0 ≤ (Za l a).kids.getD i.toNat 0 ∧ (Za l a).kids.getD i.toNat 0 < (l.length : Int)))] ∧ NodeC G' cs (Zl l a i)) ∧ M' = M) := Zai h _
theorem Zsc {G : GH} {b_s : Nat} {c c2 : Cfg} {l : List Nd} {ss : List Seat} {Ms_s : MH} (h_s : StR 60 4 3 189 139 b_s c G l Ms_s) (t : Tree c2 l ss) {a : Int} {cs_n : List Value} (h_n : NodeC G cs_n (Za l a)) (i : Int) (hc9 : c = c2) (ha : 0 ≤ a ∧ a < (l.length : Int)) (h0 : ¬ (Za l a).level = 0) (hi : 0 ≤ i ∧ i < ((Za l a).kids.length : Int)) (hi9 : i64 i) :
    Fc Tryz.prog 152 [pt9 b_s, .agg (List.toArray cs_n), iV i] G Ms_s (fun v G' M' => v = .tuple #[iV (Xp c l a i).1.1, iV (Xp c l a i).1.2.1, iV (Xp c l a i).1.2.2] ∧ StR 60 4 3 189 139 b_s c G' (Xp c l a i).2 M') := by
 obtain ⟨_, _, _, _, _, _, _, _, rfl, hp_n, hk_n, hm_n, hr_n, hok_n⟩ := h_n
 subst hc9
 obtain ⟨P, s⟩ := JD t ha h0 hi
 have hPR := (t.seat s.mem).1
 have hKm := (t.at s.mem s.h0 (j := i.toNat) (by have := s.hi; omega)).1
 have hKR := (t.seat hKm).1
 rw [s.n] at hPR
 rw [s.kid] at hKR
 have hsl : (Za l a).slot = a := (YN t.slot ha).1
 have hPS := t.sml.2 _ (YN t.slot ha).2
 have hKS := t.sml.2 _ (YN t.slot s.kin).2
 have hPD : NdS (Za l a) := Za8 t.cfg hPR
 have hKD : NdS (Zl l a i) := Za8 t.cfg hKR
 have hcb9 : c.bud ≤ 9223372036854775807 := by have := t.cfg.2.2.1.2; omega
 have hq : PourPre c.bud (Za l a) (Zl l a i) := Zrz hPR hKR h0 hPD hKD hcb9
 have hin9 : (Za l a).innerR c.fan c.bud := by have h4 := hPR.2.2.2; rwa [if_neg h0] at h4
 have hms := hin9.2.2.1
 have hkl := (YQ hin9.2.1).2
 have hi91 := hi9.1
 have hi92 := hi9.2
 have hlk9 : ((Za l a).kids.length : Int) ≤ 4000 := by have := hPD.1; omega
 have hkd : (Za l a).kids[i.toNat]'om9 = ((Za l a).kids.getD i.toNat 0) := by rw [List.getD_eq_getElem?_getD, List.getElem?_eq_getElem om9]; rfl
 refine Fc.go [.tmp 6, .tmp 7, .tmp 8] Tryz.func152 Tryz.ntmps152 rfl (fun w0 => (WC.perm (M' := (Ms_s ++ [])) (by simp) (g9 2 ?_)))
 refine W.box (L := [iV _, iV _, lV _ _ _, lV _ _ _, sV _, .bool _, iV _, iV _, lV _ _ _, lV _ _ _]) rfl rfl (fun b1 => (g9 15 ?_))
 refine WC.cd (fun h19 p19 => ?_) (fun h19 p19 => ?_)
 ·try dsimp only at p19
  exfalso; omega
 try dsimp only at p19
 refine g9 8 ?_
 refine hk_n.a2 (i := i.toNat) om9 (fun he2 hi3 => (W.ok (Z1 (i := i.toNat) ZU ty3 hk_n rfl rfl ⟨om9, om9⟩) (g9 1 ?_)))
 refine W.call (Mp := Ms_s) (Zsb h_s a i) (congrArg (fun k : Int => [_, Value.int .i64 k]) hkd) (pmC pr9) ?_
 intro v9 G6 Ms8 hG6 q7
 refine match q7 with | ⟨⟨_, e_11, ⟨_, _, _, _, _, _, _, _, e_12, hp_hR10, hk_hR10, hm_hR10, hr_hR10, hok_hR10⟩⟩, eeq7⟩ => ?_
 subst e_11
 subst e_12
 have eeq7 := eeq7.symm
 subst eeq7
 refine W.perm (pmC pr9).symm (g9 3 ?_)
 refine W.alloc Zo (fun b13 => (g9 11 ?_))
 refine WC.cn (fun h33 p33 => ?_) (fun h33 p33 => ?_)
 ·try dsimp only at p33
  exact absurd s.kin p33
 try dsimp only at p33
 refine g9 3 ?_
 refine WC.dw (sn9.k9.k9) (d9 [0, 2, 3, 4] ?_)
 refine WD.a1 1 rfl (W.call (Mp := Ms_s) (JB (StR.mono hG6 h_s)) rfl (pmC (pmC pr9)) ?_)
 intro v17 G14 Ms16 hG14 q15
 refine match q15 with | ⟨e_19, eeq15⟩ => ?_
 subst e_19
 have eeq15 := eeq15.symm
 subst eeq15
 refine W.perm (pmC (pmC pr9)).symm (W.nn (WD.a1 5 rfl (W.qcall (ZrY c.fan c.leaf c.bud c.slots c.rest (p := (Za l a)) (k := (Zl l a i)) (nm9 lec hp_n hk_n hm_n hr_n hok_n) (nm9 hG14 hp_hR10 hk_hR10 hm_hR10 hr_hR10 hok_hR10) i hq hi9 s.kof hms hkl) rfl (W.nn (d9 [6] ?_)))))
 refine g9 15 ?_
 refine WC.cd (fun h44 p44 => ?_) (fun h44 p44 => ?_)
 ·try dsimp only at p44
  refine g9 6 ?_
  refine W.call (Mp := Ms_s) (Zr8 (StR.mono lec h_s) t a i hi9) (congrArg (fun k : Int => [_, Value.int .i64 k, _]) hsl) (pmC (pmC pr9)) ?_
  intro v23 G20 Ms22 hG20 q21
  refine match q21 with | ⟨e_25, hR24⟩ => ?_
  subst e_25
  refine W.perm (pmC (pmC pr9)).symm (g9 9 ?_)
  refine WC.cn (fun h51 p51 => ?_) (fun h51 p51 => ?_)
  ·try dsimp only at p51
   refine g9 13 ?_
   refine ⟨.inr rfl, [_, _, _], ⟨rfl, rfl, rfl, trivial⟩, Ms22, ((List.sublist_append_left _ _).cons _).cons _, ?_⟩
   have hE := X6 p44 p51
   exact ⟨Xq hE rfl hsl rfl, StR.to hR24 (congrArg Prod.snd hE).symm⟩
  try dsimp only at p51
  refine g9 14 ?_
  refine ⟨.inr rfl, [_, _, _], ⟨rfl, rfl, rfl, trivial⟩, Ms22, ((List.sublist_append_left _ _).cons _).cons _, ?_⟩
  have hE := X5 p44 om9
  exact ⟨Xq hE p44 hsl rfl, StR.to hR24 (congrArg Prod.snd hE).symm⟩
 try dsimp only at p44
 refine g9 6 ?_
 refine WC.cd (fun h56 p56 => ?_) (fun h56 p56 => ?_)
 ·try dsimp only at p56
  have p56c : Z4 c (Za l a) (Zl l a i) i = 4 := p56
  have hcp : 0 < ZY c.leaf c.bud (Za l a) (Zl l a i) i := by rcases XU c (Za l a) (Zl l a i) i with h9 | h9 | ⟨_, h9⟩ | h9; omega; omega; exact h9; omega
  have hpq9 := s.pour t hcp
  obtain ⟨T9, hpo⟩ := hpq9
  have hsA : 0 ≤ (Z9 c.leaf c.bud (Za l a) (Zl l a i) i).1.slot ∧ (Z9 c.leaf c.bud (Za l a) (Zl l a i) i).1.slot < (l.length : Int) := by rw [hpo.al.1]; exact hpo.sin hpo.mem
  have hsB : 0 ≤ (Z9 c.leaf c.bud (Za l a) (Zl l a i) i).2.1.slot ∧ (Z9 c.leaf c.bud (Za l a) (Zl l a i) i).2.1.slot < (l.length : Int) := by rw [hpo.bl.1]; exact hpo.sin hpo.km.1
  refine WC.seq (WC.dw (sn9.k9.k9) (d9 [0, 2, 3, 4] ?_))
  refine WD.any [1, 10, 11] (by kernel_rfl) rfl ⟨WD.ap ?_, WD.ap ?_, WD.ap ?_, trivial⟩
  ·refine W.call (Mp := Ms_s) (JB (StR.mono lec h_s)) rfl (pmC (pmC pr9)) ?_
   intro v29 G26 Ms28 hG26 q27
   refine match q27 with | ⟨e_31, eeq27⟩ => ?_
   subst e_31
   have eeq27 := eeq27.symm
   subst eeq27
   refine W.perm (pmC (pmC pr9)).symm (W.nn ?_)
   refine WD.any [5, 10, 11] (by kernel_rfl) rfl ⟨WD.ap ?_, WD.ap ?_, WD.ap ?_, trivial⟩
   ·refine W.cM (JT c.fan c.leaf c.bud c.slots c.rest (p := (Za l a)) (k := (Zl l a i)) (nm9 lec hp_n hk_n hm_n hr_n hok_n) (nm9 lec hp_hR10 hk_hR10 hm_hR10 hr_hR10 hok_hR10) i hq.hb hq.hr hq.hpv hq.hpm hq.hkm hq.hkr hi9 hq.hsz) rfl (fun _ _ _ _ _ _ _ _ _ _ _ _ _ _ _ _ G32 hG32 hp_hv33 hk_hv33 hm_hv33 hr_hv33 hok_hv33 hp_hv34 hk_hv34 hm_hv34 hr_hv34 hok_hv34 => (W.nn (d9 [6, 7, 8, 9] ?_)))
    refine WD.any [10, 11] (by kernel_rfl) rfl ⟨WD.ap ?_, WD.ap ?_, trivial⟩
    ·refine W.alloc Zo (fun b41 => (W.nn (WD.a1 11 rfl (W.alloc Zo (fun b42 => (W.nn (d9 [12, 13, 14] ?_)))))))
     refine g9 6 ?_
     refine W.call (Mp := Ms_s) (Yy (StR.mono lec h_s) (by exact hsA) (nk9 hp_hv33 hk_hv33 hm_hv33 hr_hv33 hok_hv33)) rfl (pmC (pmC (pmC (pmC pr9)))) ?_
     intro v46 G43 Ms45 hG43 q44
     refine match q44 with | ⟨e_48, hR47⟩ => ?_
     subst e_48
     refine W.perm (pmC (pmC (pmC (pmC pr9)))).symm (g9 5 ?_)
     refine W.call (Mp := Ms45) (Yy hR47 (by rw [List.length_set]; exact hsB) (nm9 hG43 hp_hv34 hk_hv34 hm_hv34 hr_hv34 hok_hv34)) rfl (pmC (pmC (pmC (pmC pr9)))) ?_
     intro v52 G49 Ms51 hG49 q50
     refine match q50 with | ⟨e_54, hR53⟩ => ?_
     subst e_54
     refine W.perm (pmC (pmC (pmC (pmC pr9)))).symm (g9 14 ?_)
     refine ⟨.inr rfl, [_, _, _], ⟨rfl, rfl, rfl, trivial⟩, Ms51, ((((List.sublist_append_left _ _).cons _).cons _).cons _).cons _, ?_⟩
     have hE := YR p56
     exact ⟨Xq hE p56 hsl rfl, StR.to hR53 (congrArg Prod.snd hE).symm⟩
    refine W.alloc Zo (fun b55 => (W.nn (WD.a1 10 rfl (W.alloc Zo (fun b56 => (W.nn (d9 [12, 13, 14] ?_)))))))
    refine g9 6 ?_
    refine W.call (Mp := Ms_s) (Yy (StR.mono lec h_s) (by exact hsA) (nk9 hp_hv33 hk_hv33 hm_hv33 hr_hv33 hok_hv33)) rfl (pmC (pmC (pmC (pmC pr9)))) ?_
    intro v60 G57 Ms59 hG57 q58
    refine match q58 with | ⟨e_62, hR61⟩ => ?_
    subst e_62
    refine W.perm (pmC (pmC (pmC (pmC pr9)))).symm (g9 5 ?_)
    refine W.call (Mp := Ms59) (Yy hR61 (by rw [List.length_set]; exact hsB) (nm9 hG57 hp_hv34 hk_hv34 hm_hv34 hr_hv34 hok_hv34)) rfl (pmC (pmC (pmC (pmC pr9)))) ?_
    intro v66 G63 Ms65 hG63 q64
    refine match q64 with | ⟨e_68, hR67⟩ => ?_
    subst e_68
    refine W.perm (pmC (pmC (pmC (pmC pr9)))).symm (g9 14 ?_)
    refine ⟨.inr rfl, [_, _, _], ⟨rfl, rfl, rfl, trivial⟩, Ms65, ((((List.sublist_append_left _ _).cons _).cons _).cons _).cons _, ?_⟩
    have hE := YR p56
    exact ⟨Xq hE p56 hsl rfl, StR.to hR67 (congrArg Prod.snd hE).symm⟩
   ·refine W.alloc Zo (fun b69 => (W.nn ?_))
    refine WD.any [5, 11] (by kernel_rfl) rfl ⟨WD.ap ?_, WD.ap ?_, trivial⟩
    ·refine W.cM (JT c.fan c.leaf c.bud c.slots c.rest (p := (Za l a)) (k := (Zl l a i)) (nm9 lec hp_n hk_n hm_n hr_n hok_n) (nm9 lec hp_hR10 hk_hR10 hm_hR10 hr_hR10 hok_hR10) i hq.hb hq.hr hq.hpv hq.hpm hq.hkm hq.hkr hi9 hq.hsz) rfl (fun _ _ _ _ _ _ _ _ _ _ _ _ _ _ _ _ G70 hG70 hp_hv71 hk_hv71 hm_hv71 hr_hv71 hok_hv71 hp_hv72 hk_hv72 hm_hv72 hr_hv72 hok_hv72 => (W.nn (d9 [6, 7, 8, 9] ?_)))
     refine WD.a1 11 rfl (W.alloc Zo (fun b79 => (W.nn (d9 [12, 13, 14] ?_))))
     refine g9 6 ?_
     refine W.call (Mp := Ms_s) (Yy (StR.mono lec h_s) (by exact hsA) (nk9 hp_hv71 hk_hv71 hm_hv71 hr_hv71 hok_hv71)) rfl (pmC (pmC (pmC (pmC pr9)))) ?_
     intro v83 G80 Ms82 hG80 q81
     refine match q81 with | ⟨e_85, hR84⟩ => ?_
     subst e_85
     refine W.perm (pmC (pmC (pmC (pmC pr9)))).symm (g9 5 ?_)
     refine W.call (Mp := Ms82) (Yy hR84 (by rw [List.length_set]; exact hsB) (nm9 hG80 hp_hv72 hk_hv72 hm_hv72 hr_hv72 hok_hv72)) rfl (pmC (pmC (pmC (pmC pr9)))) ?_
     intro v89 G86 Ms88 hG86 q87
     refine match q87 with | ⟨e_91, hR90⟩ => ?_
     subst e_91
     refine W.perm (pmC (pmC (pmC (pmC pr9)))).symm (g9 14 ?_)
     refine ⟨.inr rfl, [_, _, _], ⟨rfl, rfl, rfl, trivial⟩, Ms88, ((((List.sublist_append_left _ _).cons _).cons _).cons _).cons _, ?_⟩
     have hE := YR p56
     exact ⟨Xq hE p56 hsl rfl, StR.to hR90 (congrArg Prod.snd hE).symm⟩
    refine W.alloc Zo (fun b92 => (W.nn (WD.a1 5 rfl (W.cM (JT c.fan c.leaf c.bud c.slots c.rest (p := (Za l a)) (k := (Zl l a i)) (nm9 lec hp_n hk_n hm_n hr_n hok_n) (nm9 lec hp_hR10 hk_hR10 hm_hR10 hr_hR10 hok_hR10) i hq.hb hq.hr hq.hpv hq.hpm hq.hkm hq.hkr hi9 hq.hsz) rfl (fun _ _ _ _ _ _ _ _ _ _ _ _ _ _ _ _ G93 hG93 hp_hv94 hk_hv94 hm_hv94 hr_hv94 hok_hv94 hp_hv95 hk_hv95 hm_hv95 hr_hv95 hok_hv95 => (W.nn (d9 [6, 7, 8, 9, 12, 13, 14] ?_)))))))
    refine g9 6 ?_
    refine W.call (Mp := Ms_s) (Yy (StR.mono lec h_s) (by exact hsA) (nk9 hp_hv94 hk_hv94 hm_hv94 hr_hv94 hok_hv94)) rfl (pmC (pmC (pmC (pmC pr9)))) ?_
    intro v105 G102 Ms104 hG102 q103
    refine match q103 with | ⟨e_107, hR106⟩ => ?_
    subst e_107
    refine W.perm (pmC (pmC (pmC (pmC pr9)))).symm (g9 5 ?_)
    refine W.call (Mp := Ms104) (Yy hR106 (by rw [List.length_set]; exact hsB) (nm9 hG102 hp_hv95 hk_hv95 hm_hv95 hr_hv95 hok_hv95)) rfl (pmC (pmC (pmC (pmC pr9)))) ?_
    intro v111 G108 Ms110 hG108 q109
    refine match q109 with | ⟨e_113, hR112⟩ => ?_
    subst e_113
    refine W.perm (pmC (pmC (pmC (pmC pr9)))).symm (g9 14 ?_)
    refine ⟨.inr rfl, [_, _, _], ⟨rfl, rfl, rfl, trivial⟩, Ms110, ((((List.sublist_append_left _ _).cons _).cons _).cons _).cons _, ?_⟩
    have hE := YR p56
    exact ⟨Xq hE p56 hsl rfl, StR.to hR112 (congrArg Prod.snd hE).symm⟩
   refine W.alloc Zo (fun b114 => (W.nn ?_))
   refine WD.any [5, 10] (by kernel_rfl) rfl ⟨WD.ap ?_, WD.ap ?_, trivial⟩
   ·refine W.cM (JT c.fan c.leaf c.bud c.slots c.rest (p := (Za l a)) (k := (Zl l a i)) (nm9 lec hp_n hk_n hm_n hr_n hok_n) (nm9 lec hp_hR10 hk_hR10 hm_hR10 hr_hR10 hok_hR10) i hq.hb hq.hr hq.hpv hq.hpm hq.hkm hq.hkr hi9 hq.hsz) rfl (fun _ _ _ _ _ _ _ _ _ _ _ _ _ _ _ _ G115 hG115 hp_hv116 hk_hv116 hm_hv116 hr_hv116 hok_hv116 hp_hv117 hk_hv117 hm_hv117 hr_hv117 hok_hv117 => (W.nn (d9 [6, 7, 8, 9] ?_)))
    refine WD.a1 10 rfl (W.alloc Zo (fun b124 => (W.nn (d9 [12, 13, 14] ?_))))
    refine g9 6 ?_
    refine W.call (Mp := Ms_s) (Yy (StR.mono lec h_s) (by exact hsA) (nk9 hp_hv116 hk_hv116 hm_hv116 hr_hv116 hok_hv116)) rfl (pmC (pmC (pmC (pmC pr9)))) ?_
    intro v128 G125 Ms127 hG125 q126
    refine match q126 with | ⟨e_130, hR129⟩ => ?_
    subst e_130
    refine W.perm (pmC (pmC (pmC (pmC pr9)))).symm (g9 5 ?_)
    refine W.call (Mp := Ms127) (Yy hR129 (by rw [List.length_set]; exact hsB) (nm9 hG125 hp_hv117 hk_hv117 hm_hv117 hr_hv117 hok_hv117)) rfl (pmC (pmC (pmC (pmC pr9)))) ?_
    intro v134 G131 Ms133 hG131 q132
    refine match q132 with | ⟨e_136, hR135⟩ => ?_
    subst e_136
    refine W.perm (pmC (pmC (pmC (pmC pr9)))).symm (g9 14 ?_)
    refine ⟨.inr rfl, [_, _, _], ⟨rfl, rfl, rfl, trivial⟩, Ms133, ((((List.sublist_append_left _ _).cons _).cons _).cons _).cons _, ?_⟩
    have hE := YR p56
    exact ⟨Xq hE p56 hsl rfl, StR.to hR135 (congrArg Prod.snd hE).symm⟩
   refine W.alloc Zo (fun b137 => (W.nn (WD.a1 5 rfl (W.cM (JT c.fan c.leaf c.bud c.slots c.rest (p := (Za l a)) (k := (Zl l a i)) (nm9 lec hp_n hk_n hm_n hr_n hok_n) (nm9 lec hp_hR10 hk_hR10 hm_hR10 hr_hR10 hok_hR10) i hq.hb hq.hr hq.hpv hq.hpm hq.hkm hq.hkr hi9 hq.hsz) rfl (fun _ _ _ _ _ _ _ _ _ _ _ _ _ _ _ _ G138 hG138 hp_hv139 hk_hv139 hm_hv139 hr_hv139 hok_hv139 hp_hv140 hk_hv140 hm_hv140 hr_hv140 hok_hv140 => (W.nn (d9 [6, 7, 8, 9, 12, 13, 14] ?_)))))))
   refine g9 6 ?_
   refine W.call (Mp := Ms_s) (Yy (StR.mono lec h_s) (by exact hsA) (nk9 hp_hv139 hk_hv139 hm_hv139 hr_hv139 hok_hv139)) rfl (pmC (pmC (pmC (pmC pr9)))) ?_
   intro v150 G147 Ms149 hG147 q148
   refine match q148 with | ⟨e_152, hR151⟩ => ?_
   subst e_152
   refine W.perm (pmC (pmC (pmC (pmC pr9)))).symm (g9 5 ?_)
   refine W.call (Mp := Ms149) (Yy hR151 (by rw [List.length_set]; exact hsB) (nm9 hG147 hp_hv140 hk_hv140 hm_hv140 hr_hv140 hok_hv140)) rfl (pmC (pmC (pmC (pmC pr9)))) ?_
   intro v156 G153 Ms155 hG153 q154
   refine match q154 with | ⟨e_158, hR157⟩ => ?_
   subst e_158
   refine W.perm (pmC (pmC (pmC (pmC pr9)))).symm (g9 14 ?_)
   refine ⟨.inr rfl, [_, _, _], ⟨rfl, rfl, rfl, trivial⟩, Ms155, ((((List.sublist_append_left _ _).cons _).cons _).cons _).cons _, ?_⟩
   have hE := YR p56
   exact ⟨Xq hE p56 hsl rfl, StR.to hR157 (congrArg Prod.snd hE).symm⟩
  ·refine W.alloc Zo (fun b159 => (W.nn ?_))
   refine WD.any [1, 11] (by kernel_rfl) rfl ⟨WD.ap ?_, WD.ap ?_, trivial⟩
   ·refine W.call (Mp := Ms_s) (JB (StR.mono lec h_s)) rfl (pmC (pmC (pmC pr9))) ?_
    intro v163 G160 Ms162 hG160 q161
    refine match q161 with | ⟨e_165, eeq161⟩ => ?_
    subst e_165
    have eeq161 := eeq161.symm
    subst eeq161
    refine W.perm (pmC (pmC (pmC pr9))).symm (W.nn ?_)
    refine WD.any [5, 11] (by kernel_rfl) rfl ⟨WD.ap ?_, WD.ap ?_, trivial⟩
    ·refine W.cM (JT c.fan c.leaf c.bud c.slots c.rest (p := (Za l a)) (k := (Zl l a i)) (nm9 lec hp_n hk_n hm_n hr_n hok_n) (nm9 lec hp_hR10 hk_hR10 hm_hR10 hr_hR10 hok_hR10) i hq.hb hq.hr hq.hpv hq.hpm hq.hkm hq.hkr hi9 hq.hsz) rfl (fun _ _ _ _ _ _ _ _ _ _ _ _ _ _ _ _ G166 hG166 hp_hv167 hk_hv167 hm_hv167 hr_hv167 hok_hv167 hp_hv168 hk_hv168 hm_hv168 hr_hv168 hok_hv168 => (W.nn (d9 [6, 7, 8, 9] ?_)))
     refine WD.a1 11 rfl (W.alloc Zo (fun b175 => (W.nn (d9 [12, 13, 14] ?_))))
     refine g9 6 ?_
     refine W.call (Mp := Ms_s) (Yy (StR.mono lec h_s) (by exact hsA) (nk9 hp_hv167 hk_hv167 hm_hv167 hr_hv167 hok_hv167)) rfl (pmC (pmC (pmC (pmC pr9)))) ?_
     intro v179 G176 Ms178 hG176 q177
     refine match q177 with | ⟨e_181, hR180⟩ => ?_
     subst e_181
     refine W.perm (pmC (pmC (pmC (pmC pr9)))).symm (g9 5 ?_)
     refine W.call (Mp := Ms178) (Yy hR180 (by rw [List.length_set]; exact hsB) (nm9 hG176 hp_hv168 hk_hv168 hm_hv168 hr_hv168 hok_hv168)) rfl (pmC (pmC (pmC (pmC pr9)))) ?_
     intro v185 G182 Ms184 hG182 q183
     refine match q183 with | ⟨e_187, hR186⟩ => ?_
     subst e_187
     refine W.perm (pmC (pmC (pmC (pmC pr9)))).symm (g9 14 ?_)
     refine ⟨.inr rfl, [_, _, _], ⟨rfl, rfl, rfl, trivial⟩, Ms184, ((((List.sublist_append_left _ _).cons _).cons _).cons _).cons _, ?_⟩
     have hE := YR p56
     exact ⟨Xq hE p56 hsl rfl, StR.to hR186 (congrArg Prod.snd hE).symm⟩
    refine W.alloc Zo (fun b188 => (W.nn (WD.a1 5 rfl (W.cM (JT c.fan c.leaf c.bud c.slots c.rest (p := (Za l a)) (k := (Zl l a i)) (nm9 lec hp_n hk_n hm_n hr_n hok_n) (nm9 lec hp_hR10 hk_hR10 hm_hR10 hr_hR10 hok_hR10) i hq.hb hq.hr hq.hpv hq.hpm hq.hkm hq.hkr hi9 hq.hsz) rfl (fun _ _ _ _ _ _ _ _ _ _ _ _ _ _ _ _ G189 hG189 hp_hv190 hk_hv190 hm_hv190 hr_hv190 hok_hv190 hp_hv191 hk_hv191 hm_hv191 hr_hv191 hok_hv191 => (W.nn (d9 [6, 7, 8, 9, 12, 13, 14] ?_)))))))
    refine g9 6 ?_
    refine W.call (Mp := Ms_s) (Yy (StR.mono lec h_s) (by exact hsA) (nk9 hp_hv190 hk_hv190 hm_hv190 hr_hv190 hok_hv190)) rfl (pmC (pmC (pmC (pmC pr9)))) ?_
    intro v201 G198 Ms200 hG198 q199
    refine match q199 with | ⟨e_203, hR202⟩ => ?_
    subst e_203
    refine W.perm (pmC (pmC (pmC (pmC pr9)))).symm (g9 5 ?_)
    refine W.call (Mp := Ms200) (Yy hR202 (by rw [List.length_set]; exact hsB) (nm9 hG198 hp_hv191 hk_hv191 hm_hv191 hr_hv191 hok_hv191)) rfl (pmC (pmC (pmC (pmC pr9)))) ?_
    intro v207 G204 Ms206 hG204 q205
    refine match q205 with | ⟨e_209, hR208⟩ => ?_
    subst e_209
    refine W.perm (pmC (pmC (pmC (pmC pr9)))).symm (g9 14 ?_)
    refine ⟨.inr rfl, [_, _, _], ⟨rfl, rfl, rfl, trivial⟩, Ms206, ((((List.sublist_append_left _ _).cons _).cons _).cons _).cons _, ?_⟩
    have hE := YR p56
    exact ⟨Xq hE p56 hsl rfl, StR.to hR208 (congrArg Prod.snd hE).symm⟩
   refine W.alloc Zo (fun b210 => (W.nn (WD.a1 1 rfl (W.call (Mp := Ms_s) (JB (StR.mono lec h_s)) rfl (pmC (pmC (pmC (pmC pr9)))) ?_))))
   intro v214 G211 Ms213 hG211 q212
   refine match q212 with | ⟨e_216, eeq212⟩ => ?_
   subst e_216
   have eeq212 := eeq212.symm
   subst eeq212
   refine W.perm (pmC (pmC (pmC (pmC pr9)))).symm (W.nn (WD.a1 5 rfl (W.cM (JT c.fan c.leaf c.bud c.slots c.rest (p := (Za l a)) (k := (Zl l a i)) (nm9 lec hp_n hk_n hm_n hr_n hok_n) (nm9 lec hp_hR10 hk_hR10 hm_hR10 hr_hR10 hok_hR10) i hq.hb hq.hr hq.hpv hq.hpm hq.hkm hq.hkr hi9 hq.hsz) rfl (fun _ _ _ _ _ _ _ _ _ _ _ _ _ _ _ _ G217 hG217 hp_hv218 hk_hv218 hm_hv218 hr_hv218 hok_hv218 hp_hv219 hk_hv219 hm_hv219 hr_hv219 hok_hv219 => (W.nn (d9 [6, 7, 8, 9, 12, 13, 14] ?_))))))
   refine g9 6 ?_
   refine W.call (Mp := Ms_s) (Yy (StR.mono lec h_s) (by exact hsA) (nk9 hp_hv218 hk_hv218 hm_hv218 hr_hv218 hok_hv218)) rfl (pmC (pmC (pmC (pmC pr9)))) ?_
   intro v229 G226 Ms228 hG226 q227
   refine match q227 with | ⟨e_231, hR230⟩ => ?_
   subst e_231
   refine W.perm (pmC (pmC (pmC (pmC pr9)))).symm (g9 5 ?_)
   refine W.call (Mp := Ms228) (Yy hR230 (by rw [List.length_set]; exact hsB) (nm9 hG226 hp_hv219 hk_hv219 hm_hv219 hr_hv219 hok_hv219)) rfl (pmC (pmC (pmC (pmC pr9)))) ?_
   intro v235 G232 Ms234 hG232 q233
   refine match q233 with | ⟨e_237, hR236⟩ => ?_
   subst e_237
   refine W.perm (pmC (pmC (pmC (pmC pr9)))).symm (g9 14 ?_)
   refine ⟨.inr rfl, [_, _, _], ⟨rfl, rfl, rfl, trivial⟩, Ms234, ((((List.sublist_append_left _ _).cons _).cons _).cons _).cons _, ?_⟩
   have hE := YR p56
   exact ⟨Xq hE p56 hsl rfl, StR.to hR236 (congrArg Prod.snd hE).symm⟩
  refine W.alloc Zo (fun b238 => (W.nn ?_))
  refine WD.any [1, 10] (by kernel_rfl) rfl ⟨WD.ap ?_, WD.ap ?_, trivial⟩
  ·refine W.call (Mp := Ms_s) (JB (StR.mono lec h_s)) rfl (pmC (pmC (pmC pr9))) ?_
   intro v242 G239 Ms241 hG239 q240
   refine match q240 with | ⟨e_244, eeq240⟩ => ?_
   subst e_244
   have eeq240 := eeq240.symm
   subst eeq240
   refine W.perm (pmC (pmC (pmC pr9))).symm (W.nn ?_)
   refine WD.any [5, 10] (by kernel_rfl) rfl ⟨WD.ap ?_, WD.ap ?_, trivial⟩
   ·refine W.cM (JT c.fan c.leaf c.bud c.slots c.rest (p := (Za l a)) (k := (Zl l a i)) (nm9 lec hp_n hk_n hm_n hr_n hok_n) (nm9 lec hp_hR10 hk_hR10 hm_hR10 hr_hR10 hok_hR10) i hq.hb hq.hr hq.hpv hq.hpm hq.hkm hq.hkr hi9 hq.hsz) rfl (fun _ _ _ _ _ _ _ _ _ _ _ _ _ _ _ _ G245 hG245 hp_hv246 hk_hv246 hm_hv246 hr_hv246 hok_hv246 hp_hv247 hk_hv247 hm_hv247 hr_hv247 hok_hv247 => (W.nn (d9 [6, 7, 8, 9] ?_)))
    refine WD.a1 10 rfl (W.alloc Zo (fun b254 => (W.nn (d9 [12, 13, 14] ?_))))
    refine g9 6 ?_
    refine W.call (Mp := Ms_s) (Yy (StR.mono lec h_s) (by exact hsA) (nk9 hp_hv246 hk_hv246 hm_hv246 hr_hv246 hok_hv246)) rfl (pmC (pmC (pmC (pmC pr9)))) ?_
    intro v258 G255 Ms257 hG255 q256
    refine match q256 with | ⟨e_260, hR259⟩ => ?_
    subst e_260
    refine W.perm (pmC (pmC (pmC (pmC pr9)))).symm (g9 5 ?_)
    refine W.call (Mp := Ms257) (Yy hR259 (by rw [List.length_set]; exact hsB) (nm9 hG255 hp_hv247 hk_hv247 hm_hv247 hr_hv247 hok_hv247)) rfl (pmC (pmC (pmC (pmC pr9)))) ?_
    intro v264 G261 Ms263 hG261 q262
    refine match q262 with | ⟨e_266, hR265⟩ => ?_
    subst e_266
    refine W.perm (pmC (pmC (pmC (pmC pr9)))).symm (g9 14 ?_)
    refine ⟨.inr rfl, [_, _, _], ⟨rfl, rfl, rfl, trivial⟩, Ms263, ((((List.sublist_append_left _ _).cons _).cons _).cons _).cons _, ?_⟩
    have hE := YR p56
    exact ⟨Xq hE p56 hsl rfl, StR.to hR265 (congrArg Prod.snd hE).symm⟩
   refine W.alloc Zo (fun b267 => (W.nn (WD.a1 5 rfl (W.cM (JT c.fan c.leaf c.bud c.slots c.rest (p := (Za l a)) (k := (Zl l a i)) (nm9 lec hp_n hk_n hm_n hr_n hok_n) (nm9 lec hp_hR10 hk_hR10 hm_hR10 hr_hR10 hok_hR10) i hq.hb hq.hr hq.hpv hq.hpm hq.hkm hq.hkr hi9 hq.hsz) rfl (fun _ _ _ _ _ _ _ _ _ _ _ _ _ _ _ _ G268 hG268 hp_hv269 hk_hv269 hm_hv269 hr_hv269 hok_hv269 hp_hv270 hk_hv270 hm_hv270 hr_hv270 hok_hv270 => (W.nn (d9 [6, 7, 8, 9, 12, 13, 14] ?_)))))))
   refine g9 6 ?_
   refine W.call (Mp := Ms_s) (Yy (StR.mono lec h_s) (by exact hsA) (nk9 hp_hv269 hk_hv269 hm_hv269 hr_hv269 hok_hv269)) rfl (pmC (pmC (pmC (pmC pr9)))) ?_
   intro v280 G277 Ms279 hG277 q278
   refine match q278 with | ⟨e_282, hR281⟩ => ?_
   subst e_282
   refine W.perm (pmC (pmC (pmC (pmC pr9)))).symm (g9 5 ?_)
   refine W.call (Mp := Ms279) (Yy hR281 (by rw [List.length_set]; exact hsB) (nm9 hG277 hp_hv270 hk_hv270 hm_hv270 hr_hv270 hok_hv270)) rfl (pmC (pmC (pmC (pmC pr9)))) ?_
   intro v286 G283 Ms285 hG283 q284
   refine match q284 with | ⟨e_288, hR287⟩ => ?_
   subst e_288
   refine W.perm (pmC (pmC (pmC (pmC pr9)))).symm (g9 14 ?_)
   refine ⟨.inr rfl, [_, _, _], ⟨rfl, rfl, rfl, trivial⟩, Ms285, ((((List.sublist_append_left _ _).cons _).cons _).cons _).cons _, ?_⟩
   have hE := YR p56
   exact ⟨Xq hE p56 hsl rfl, StR.to hR287 (congrArg Prod.snd hE).symm⟩
  refine W.alloc Zo (fun b289 => (W.nn (WD.a1 1 rfl (W.call (Mp := Ms_s) (JB (StR.mono lec h_s)) rfl (pmC (pmC (pmC (pmC pr9)))) ?_))))
  intro v293 G290 Ms292 hG290 q291
  refine match q291 with | ⟨e_295, eeq291⟩ => ?_
  subst e_295
  have eeq291 := eeq291.symm
  subst eeq291
  refine W.perm (pmC (pmC (pmC (pmC pr9)))).symm (W.nn (WD.a1 5 rfl (W.cM (JT c.fan c.leaf c.bud c.slots c.rest (p := (Za l a)) (k := (Zl l a i)) (nm9 lec hp_n hk_n hm_n hr_n hok_n) (nm9 lec hp_hR10 hk_hR10 hm_hR10 hr_hR10 hok_hR10) i hq.hb hq.hr hq.hpv hq.hpm hq.hkm hq.hkr hi9 hq.hsz) rfl (fun _ _ _ _ _ _ _ _ _ _ _ _ _ _ _ _ G296 hG296 hp_hv297 hk_hv297 hm_hv297 hr_hv297 hok_hv297 hp_hv298 hk_hv298 hm_hv298 hr_hv298 hok_hv298 => (W.nn (d9 [6, 7, 8, 9, 12, 13, 14] ?_))))))
  refine g9 6 ?_
  refine W.call (Mp := Ms_s) (Yy (StR.mono lec h_s) (by exact hsA) (nk9 hp_hv297 hk_hv297 hm_hv297 hr_hv297 hok_hv297)) rfl (pmC (pmC (pmC (pmC pr9)))) ?_
  intro v308 G305 Ms307 hG305 q306
  refine match q306 with | ⟨e_310, hR309⟩ => ?_
  subst e_310
  refine W.perm (pmC (pmC (pmC (pmC pr9)))).symm (g9 5 ?_)
  refine W.call (Mp := Ms307) (Yy hR309 (by rw [List.length_set]; exact hsB) (nm9 hG305 hp_hv298 hk_hv298 hm_hv298 hr_hv298 hok_hv298)) rfl (pmC (pmC (pmC (pmC pr9)))) ?_
  intro v314 G311 Ms313 hG311 q312
  refine match q312 with | ⟨e_316, hR315⟩ => ?_
  subst e_316
  refine W.perm (pmC (pmC (pmC (pmC pr9)))).symm (g9 14 ?_)
  refine ⟨.inr rfl, [_, _, _], ⟨rfl, rfl, rfl, trivial⟩, Ms313, ((((List.sublist_append_left _ _).cons _).cons _).cons _).cons _, ?_⟩
  have hE := YR p56
  exact ⟨Xq hE p56 hsl rfl, StR.to hR315 (congrArg Prod.snd hE).symm⟩
 try dsimp only at p56
 refine g9 6 ?_
 refine WC.cd (fun h74 p74 => ?_) (fun h74 p74 => ?_)
 ·try dsimp only at p74
  refine g9 13 ?_
  refine ⟨.inr rfl, [_, _, _], ⟨rfl, rfl, rfl, trivial⟩, Ms_s, ((List.sublist_append_left _ _).cons _).cons _, ?_⟩
  have hE := X7 p74
  exact ⟨Xq hE p74 rfl rfl, StR.to (StR.mono lec h_s) (congrArg Prod.snd hE).symm⟩
 try dsimp only at p74
 refine g9 14 ?_
 refine ⟨.inr rfl, [_, _, _], ⟨rfl, rfl, rfl, trivial⟩, Ms_s, ((List.sublist_append_left _ _).cons _).cons _, ?_⟩
 have hE := JC (Zkq p44 p56 p74)
 exact ⟨Xq hE (Zkq p44 p56 p74) hsl rfl, StR.to (StR.mono lec h_s) (congrArg Prod.snd hE).symm⟩

theorem Zsd {G : GH} {b_s : Nat} {c c2 : Cfg} {l : List Nd} {ss : List Seat} {Ms_s : MH} (h_s : StR 60 4 3 189 139 b_s c G l Ms_s) (t : Tree c2 l ss) (a : Int) (k : Str) (hc9 : c = c2) (ha : 0 ≤ a ∧ a < (l.length : Int)) :
    Fc Tryz.prog 106 [pt9 b_s, iV a, sV k.b] G Ms_s (fun v G' M' => v = .tuple #[iV (Zx c l a k).1.1, iV (Zx c l a k).1.2.1, iV (Zx c l a k).1.2.2] ∧ StR 60 4 3 189 139 b_s c G' (Zx c l a k).2 M') := by
 subst hc9
 have hc9 : c = c := rfl
 obtain ⟨P9, hP9, eP9⟩ := t.seat_of ha
 have hPR := (t.seat hP9).1
 rw [eP9] at hPR
 have hPD : NdS (Za l a) := Za8 t.cfg hPR
 have hcp : ChoosePre (Za l a) := ZrU hPR hPD
 have hlk9 : ((Za l a).kids.length : Int) ≤ 4000 := by have := hPD.1; omega
 refine Fc.go [.tmp 6, .tmp 7, .tmp 8] Tryz.func106 Tryz.ntmps106 rfl (fun w0 => (WC.perm (M' := (Ms_s ++ [])) (by simp) (g9 11 ?_)))
 refine W.ok (Xa J2 rfl rfl) (g9 9 ?_)
 refine W.call (Mp := Ms_s) (Zai h_s a) rfl pr9 ?_
 intro v12 G9 Ms11 hG9 q10
 refine match q10 with | ⟨⟨_, e_14, ⟨_, _, _, _, _, _, _, _, e_15, hp_hR13, hk_hR13, hm_hR13, hr_hR13, hok_hR13⟩⟩, eeq10⟩ => ?_
 subst e_14
 subst e_15
 have eeq10 := eeq10.symm
 subst eeq10
 refine g9 3 ?_
 refine W.alloc Zo (fun b16 => (g9 11 ?_))
 refine WC.cn (fun h23 p23 => ?_) (fun h23 p23 => ?_)
 ·try dsimp only at p23
  exact absurd ha p23
 try dsimp only at p23
 refine g9 3 ?_
 refine WC.dw sn9.k9 (d9 [0, 2, 3] ?_)
 refine WD.a1 1 rfl (W.call (Mp := Ms_s) (JB (StR.mono hG9 h_s)) rfl (pmC pr9) ?_)
 intro v20 G17 Ms19 hG17 q18
 refine match q18 with | ⟨e_22, eeq18⟩ => ?_
 subst e_22
 have eeq18 := eeq18.symm
 subst eeq18
 refine W.perm (pmC pr9).symm (W.nn (WD.a1 4 rfl (W.qcall (ZrX c.fan c.leaf c.bud c.slots c.rest (n := (Za l a)) (nm9 hG17 hp_hR13 hk_hR13 hm_hR13 hr_hR13 hok_hR13) k hcp) rfl (W.nn (d9 [5, 6, 7, 8, 9] ?_)))))
 refine g9 15 ?_
 refine WC.cd (fun h35 p35 => ?_) (fun h35 p35 => ?_)
 ·try dsimp only at p35
  refine g9 3 ?_
  refine W.call (Mp := Ms_s) (Zkp (StR.mono lec h_s) t) rfl (pmC pr9) ?_
  intro v26 G23 Ms25 hG23 q24
  refine match q24 with | ⟨e_28, hR27⟩ => ?_
  subst e_28
  refine W.perm (pmC pr9).symm (g9 9 ?_)
  refine WC.cn (fun h39 p39 => ?_) (fun h39 p39 => ?_)
  ·try dsimp only at p39
   refine g9 12 ?_
   refine ⟨.inr rfl, [_, _, _], ⟨rfl, rfl, rfl, trivial⟩, Ms25, (List.sublist_append_left _ _).cons _, ?_⟩
   have hE := Jm p35 p39
   exact ⟨Xq hE rfl rfl rfl, StR.to hR27 (congrArg Prod.snd hE).symm⟩
  try dsimp only at p39
  refine g9 13 ?_
  refine ⟨.inr rfl, [_, _, _], ⟨rfl, rfl, rfl, trivial⟩, Ms25, (List.sublist_append_left _ _).cons _, ?_⟩
  have hE := Jl p35 om9
  exact ⟨Xq hE p35 rfl rfl, StR.to hR27 (congrArg Prod.snd hE).symm⟩
 try dsimp only at p35
 refine g9 6 ?_
 refine WC.cd (fun h43 p43 => ?_) (fun h43 p43 => ?_)
 ·try dsimp only at p43
  have hch := JU (k := k) t ha p43
  refine g9 5 ?_
  refine W.call (Mp := Ms_s) (Zsc (StR.mono lec h_s) t (a := a) (nm9 hG17 hp_hR13 hk_hR13 hm_hR13 hr_hR13 hok_hR13) (ZB c (Za l a) k).2 hc9 ha hch.1 hch.2 ⟨by have := hch.2; omega, by have := hch.2; omega⟩) rfl (pmC pr9) ?_
  intro v32 G29 Ms31 hG29 q30
  refine match q30 with | ⟨e_34, hR33⟩ => ?_
  subst e_34
  refine W.perm (pmC pr9).symm (g9 11 ?_)
  refine ⟨.inr rfl, [_, _, _], ⟨rfl, rfl, rfl, trivial⟩, Ms31, (List.sublist_append_left _ _).cons _, ?_⟩
  have hE := X4 p43
  exact ⟨congrArg (fun q : (Int × Int × Int) × List Nd => Value.tuple #[iV q.1.1, iV q.1.2.1, iV q.1.2.2]) hE.symm, StR.to hR33 (congrArg Prod.snd hE).symm⟩
 try dsimp only at p43
 refine g9 13 ?_
 refine ⟨.inr rfl, [_, _, _], ⟨rfl, rfl, rfl, trivial⟩, Ms_s, (List.sublist_append_left _ _).cons _, ?_⟩
 have hE := Jk (Zkr p35 p43)
 exact ⟨Xq hE (Zkr p35 p43) rfl rfl, StR.to (StR.mono lec h_s) (congrArg Prod.snd hE).symm⟩

end Go.Proofs.YtbbemibbmbmamaaGreat

namespace Go.Fw
open Go Go.RowKit
theorem Zse (c : Cfg) (l : List Nd) : l.length ≤ (ZS c l).2.length := by
 unfold ZS
 split
 ·exact Nat.le_refl _
 ·split
  ·exact Nat.le_refl _
  ·unfold YV
   simp
theorem Zgf (c : Cfg) (l : List Nd) (p i : Int) : l.length ≤ (ZP c l p i).2.length := by
 unfold ZP
 split
 ·exact Nat.le_refl _
 ·unfold Xx
  split
  ·exact Nat.le_refl _
  ·split
   ·exact Nat.le_refl _
   ·split
    ·exact Nat.le_refl _
    ·split
     ·exact Nat.le_refl _
     ·unfold JS
      simp
theorem Zks (l : List Nd) (a b : Nd) : l.length ≤ (ZW l a b).length := by unfold ZW; simp
theorem Zsf (c : Cfg) (l : List Nd) (a i : Int) : l.length ≤ (Xp c l a i).2.length := by
 have hp := Zgf c l a i
 rcases XU c (Za l a) (Zl l a i) i with h | h | ⟨h, h2⟩ | h
 ·rw [JC h]; exact Nat.le_refl _
 ·by_cases h3 : (ZP c l a i).1 = 0
  ·rw [X5 h h3]; exact hp
  ·rw [X6 h h3]; exact hp
 ·rw [YR h]; exact Zks _ _ _
 ·rw [X7 h]; exact Nat.le_refl _
theorem Zsg (c : Cfg) (l : List Nd) (a : Int) (k : Str) : l.length ≤ (Zx c l a k).2.length := by
 have hl := Zse c l
 rcases Jn c (Za l a) k with h | h | ⟨h, _⟩
 ·rw [Jk h]; exact Nat.le_refl _
 ·by_cases h3 : (ZS c l).1 = 0
  ·rw [Jl h h3]; exact hl
  ·rw [Jm h h3]; exact hl
 ·rw [X4 h]; exact Zsf c l a _
theorem ZaM {c : Cfg} {l : List Nd} {ss : List Seat} (t : Tree c l ss) {a : Int} (ha : 0 ≤ a ∧ a < l.length) (k : Str) : 0 ≤ (Zx c l a k).1.2.1 ∧ (Zx c l a k).1.2.1 < ((Zx c l a k).2.length : Int) := by
 have hg := Zsg c l a k
 rcases Jn c (Za l a) k with h | h | ⟨h, _⟩
 ·rw [Jk h]; exact ha
 ·by_cases h3 : (ZS c l).1 = 0
  ·rw [Jl h h3] at hg ⊢; exact ⟨ha.1, by show a < _; dsimp only at hg ⊢; omega⟩
  ·rw [Jm h h3] at hg ⊢; exact ⟨ha.1, by show a < _; dsimp only at hg ⊢; omega⟩
 ·obtain ⟨h0, hi⟩ := JU t ha h
  obtain ⟨P, s⟩ := JD t ha h0 hi
  have hpg := Zgf c l a (ZB c (Za l a) k).2
  rw [X4 h]
  rcases XU c (Za l a) (Zl l a (ZB c (Za l a) k).2) (ZB c (Za l a) k).2 with h | h | ⟨h, h2⟩ | h
  ·rw [JC h]; exact ha
  ·by_cases h3 : (ZP c l a (ZB c (Za l a) k).2).1 = 0
   ·rw [X5 h h3]; exact ⟨ha.1, by dsimp only; omega⟩
   ·rw [X6 h h3]; exact ⟨ha.1, by dsimp only; omega⟩
  ·rw [YR h]
   have := Zks l (Z9 c.leaf c.bud (Za l a) (Zl l a (ZB c (Za l a) k).2) (ZB c (Za l a) k).2).1 (Z9 c.leaf c.bud (Za l a) (Zl l a (ZB c (Za l a) k).2) (ZB c (Za l a) k).2).2.1
   exact ⟨ha.1, by dsimp only; omega⟩
  ·rw [X7 h]
   show 0 ≤ (Zl _ _ _).slot ∧ (Zl _ _ _).slot < _
   rw [s.ksl]
   exact s.kin
noncomputable def Yq (c : Cfg) (k : Str) : Nat → List Nd → Int → Int → Option (Int × Int × List Nd)
 | 0, _, _, _ => none
 | m + 1, l, a, n => if (Zx c l a k).1.1 = 0 then some (n, (Zx c l a k).1.2.2, (Zx c l a k).2) else Yq c k m (Zx c l a k).2 (Zx c l a k).1.2.1 (if (Zx c l a k).1.1 = 5 then n else n + 1)
theorem Y7 {c : Cfg} {k : Str} {m : Nat} {l : List Nd} {a n : Int} (h : (Zx c l a k).1.1 = 0) : Yq c k (m + 1) l a n = some (n, (Zx c l a k).1.2.2, (Zx c l a k).2) := if_pos h
theorem Jo {c : Cfg} {k : Str} {m : Nat} {l : List Nd} {a n : Int} (h : (Zx c l a k).1.1 = 5) : Yq c k (m + 1) l a n = Yq c k m (Zx c l a k).2 (Zx c l a k).1.2.1 n := by
 show (if _ then _ else _) = _
 rw [if_neg om9, if_pos h]
theorem Xh {c : Cfg} {k : Str} {m : Nat} {l : List Nd} {a n : Int} (h : ¬ (Zx c l a k).1.1 = 0) (h2 : ¬ (Zx c l a k).1.1 = 5) : Yq c k (m + 1) l a n = Yq c k m (Zx c l a k).2 (Zx c l a k).1.2.1 (n + 1) := by
 show (if _ then _ else _) = _
 rw [if_neg h, if_neg h2]
theorem Zb0 {c : Cfg} {k : Str} : ∀ (m : Nat) {l : List Nd} {ss : List Seat} {a n : Int} {r : Int × Int × List Nd}, Tree c l ss → 0 ≤ a ∧ a < l.length → Yq c k m l a n = some r → ∃ T, Tree c r.2.2 T ∧ Zh r.2.2 = Zh l
 | 0, _, _, _, _, _, _, _, h => by cases h
 | m + 1, l, ss, a, n, r, t, ha, h => by
  obtain ⟨T, hT, hm⟩ := Zaq t ha k
  by_cases h0 : (Zx c l a k).1.1 = 0
  ·rw [Y7 h0] at h
   cases h
   exact ⟨T, hT, hm⟩
  ·have hn := ZaM t ha k
   by_cases h5 : (Zx c l a k).1.1 = 5
   ·rw [Jo h5] at h
    obtain ⟨T2, h1, h2⟩ := Zb0 m hT hn h
    exact ⟨T2, h1, h2.trans hm⟩
   ·rw [Xh h0 h5] at h
    obtain ⟨T2, h1, h2⟩ := Zb0 m hT hn h
    exact ⟨T2, h1, h2.trans hm⟩
end Go.Fw
namespace Go.Proofs.YtbbemibbmbmamaaGreat
open Go Go.Fw Go.RowKit
attribute [local irreducible] Ok W WC
theorem Zkt {G : GH} {b_s : Nat} {c c2 : Cfg} {l : List Nd} {ss : List Seat} {Ms_s : MH} (h_s : StR 60 4 3 189 139 b_s c G l Ms_s) (t : Tree c2 l ss) (k : Str) (hc9 : c = c2) (N : Nat) (r : Int × Int × List Nd) (hr : Yq c k N l 0 0 = some r) (hN : N ≤ 1000000) :
    Fc Tryz.prog 49 [pt9 b_s, sV k.b] G Ms_s (fun v G' M' => v = .tuple #[iV r.1, iV r.2.1] ∧ StR 60 4 3 189 139 b_s c G' r.2.2 M') := by
 subst hc9
 have htp := t.pos
 refine Fc.go [.tmp 4, .tmp 5] Tryz.func49 Tryz.ntmps49 rfl (fun w0 => (WC.perm (M' := (Ms_s ++ [])) (by simp) (g9 17 ?_)))
 refine WC.loop (X := (Nat × List Nd × Int × Int) × MH) (fun x => [(6, iV x.1.2.2.2), (7, iV x.1.2.2.1), (1, sV k.b), (0, pt9 b_s)]) (fun x G Ml => Ml = (x.2 ++ []) ∧ StR 60 4 3 189 139 b_s c G (x.1.2.1) x.2 ∧ Yq c k x.1.1 x.1.2.1 x.1.2.2.1 x.1.2.2.2 = some r ∧ (∃ T, Tree c x.1.2.1 T) ∧ (0 ≤ x.1.2.2.1 ∧ x.1.2.2.1 < (x.1.2.1.length : Int)) ∧ 0 ≤ x.1.2.2.2 ∧ x.1.2.2.2 + (x.1.1 : Int) ≤ 1000000) (fun x => x.1.1) (((N, l, 0, 0) : Nat × List Nd × Int × Int), Ms_s) hs9 ?_ ?_
 ·exact ⟨rfl, (by exact h_s), hr, ⟨ss, t⟩, ⟨by dsimp only; omega, by dsimp only; omega⟩, by dsimp only; omega, by dsimp only; omega⟩
 rintro ⟨⟨m, L, a, n⟩, M_0⟩ gG1 G1 _ hG1 ⟨rfl, ho_0, hcy, hTr, haL, hn0, hnm⟩
 try dsimp only at ho_0 hcy hTr haL hn0 hnm
 obtain ⟨T8, t9⟩ := hTr
 have hm1 : 0 < m := by
   rcases Nat.eq_zero_or_pos m with h | h
   · rw [h] at hcy; cases hcy
   exact h
 rw [show m = m - 1 + 1 by omega] at hcy
 have hnx := ZaM t9 haL k
 obtain ⟨T9, hT9, hmp9⟩ := Zaq t9 haL k
 refine WC.fr (f := ZX gG1 [(6, iV n), (7, iV a), (1, sV k.b), (0, pt9 b_s)]) rfl (g9 6 ?_)
 refine W.call (Mp := M_0) (Zsd ho_0 t9 a k rfl haL) rfl pr9 ?_
 intro v5 G2 Ms4 hG2 q3
 refine match q3 with | ⟨e_7, hR6⟩ => ?_
 subst e_7
 refine g9 22 ?_
 refine WC.cd (fun h23 p23 => ?_) (fun h23 p23 => ?_)
 ·try dsimp only at p23
  refine g9 14 ?_
  refine ⟨.inr rfl, [_, _], ⟨rfl, rfl, trivial⟩, Ms4, List.sublist_append_left _ _, ?_⟩
  have hE := Option.some.inj ((Y7 p23).symm.trans hcy)
  exact ⟨congrArg (fun q : Int × Int × List Nd => Value.tuple #[iV q.1, iV q.2.1]) hE, StR.to hR6 (congrArg (fun q : Int × Int × List Nd => q.2.2) hE)⟩
 try dsimp only at p23
 refine g9 6 ?_
 refine WC.cd (fun h27 p27 => ?_) (fun h27 p27 => ?_)
 ·try dsimp only at p27
  refine g9 9 ?_
  exact ⟨hG2, (((m - 1, (Zx c L a k).2, (Zx c L a k).1.2.1, n) : Nat × List Nd × Int × Int), Ms4), hs9, ⟨rfl, (by exact hR6), (Jo p27).symm.trans hcy, ⟨_, hT9⟩, hnx, by dsimp only; omega, by dsimp only; omega⟩, by dsimp only; omega⟩
 try dsimp only at p27
 refine g9 13 ?_
 exact ⟨hG2, (((m - 1, (Zx c L a k).2, (Zx c L a k).1.2.1, n + 1) : Nat × List Nd × Int × Int), Ms4), hs9, ⟨rfl, (by exact hR6), (Xh p23 p27).symm.trans hcy, ⟨_, hT9⟩, hnx, by dsimp only; omega, by dsimp only; omega⟩, by dsimp only; omega⟩

end Go.Proofs.YtbbemibbmbmamaaGreat

namespace Go.Fw
open Go Go.RowKit
structure Opr where
 kind : Int
 key : Str
 hi : Str
 opn : Bool
 val : Str
 lim : Int
 deriving DecidableEq
instance : Inhabited Opr := ⟨⟨0, Str.nil, Str.nil, false, Str.nil, 0⟩⟩
def Opr.Ok (o : Opr) : Prop := i64 o.kind ∧ i64 o.lim
def eOp : Enc Opr where
 k := 6
 w := 72
 R := fun _ cs o => cs = [.int .i64 o.kind, .string o.key.b, .string o.hi.b, .bool o.opn, .string o.val.b, .int .i64 o.lim] ∧ o.Ok
 mono := fun _ h => h
 len := fun h => by rw [h.1]; rfl
 one := fun h u hu => by rw [h.1] at hu; simp at hu; rcases hu with rfl | rfl | rfl | rfl | rfl | rfl <;> rfl
theorem Zsh {P : Program} {t i s b : TypeId} (ht : Zbm P t = some [(i, 0, 1), (s, 1, 1), (s, 2, 1), (b, 3, 1), (s, 4, 1), (i, 5, 1)]) (hi : P.underlying i = some (.int .i64)) (hs : P.underlying s = some .string) (hb : P.underlying b = some .bool) (hc : P.cellsOf t = 6) : Dec P t eOp := by
 intro H enc w fuel cs x h hw
 obtain ⟨hl, hf⟩ := Zg2 ht h hw
 obtain ⟨y0, n0, t0, w0⟩ := hf 0 _ _ _ rfl
 obtain ⟨y1, n1, t1, w1⟩ := hf 1 _ _ _ rfl
 obtain ⟨y2, n2, t2, w2⟩ := hf 2 _ _ _ rfl
 obtain ⟨y3, n3, t3, w3⟩ := hf 3 _ _ _ rfl
 obtain ⟨y4, n4, t4, w4⟩ := hf 4 _ _ _ rfl
 obtain ⟨y5, n5, t5, w5⟩ := hf 5 _ _ _ rfl
 obtain ⟨a0, e0, q0⟩ := ZaS hi t0 w0
 obtain ⟨a1, e1⟩ := Zg4 hs t1 w1
 obtain ⟨a2, e2⟩ := Zg4 hs t2 w2
 obtain ⟨a3, e3⟩ := ZuJ hb t3
 obtain ⟨a4, e4⟩ := Zg4 hs t4 w4
 obtain ⟨a5, e5, q5⟩ := ZaS hi t5 w5
 rw [hc] at hl
 match cs, hl with
 | [_, _, _, _, _, _], _ =>
  simp at e0 e1 e2 e3 e4 e5
  subst e0 e1 e2 e3 e4 e5
  exact ⟨⟨a0, a1, a2, a3, a4, a5⟩, rfl, q0, q5⟩
def Opr.span (o : Opr) : Span := if o.kind = 4 ∨ o.kind = 6 then ⟨o.key, o.hi, o.opn⟩ else ⟨o.key, o.key.next, false⟩
def Opr.R (o : Opr) : Prop := (1 ≤ o.kind ∧ o.kind ≤ 6 ∧ o.key.b.size ≤ 16 ∧ o.hi.b.size ≤ 16 ∧ o.val.b.size ≤ 16) ∧
 (2 < o.kind → o.val = Str.nil) ∧ (o.kind ≠ 6 → o.lim = 0) ∧ (o.kind = 6 → 1 ≤ o.lim ∧ o.lim ≤ 64) ∧
 if o.kind = 4 ∨ o.kind = 6 then o.span.empty = false ∧ (o.opn = false ∨ o.hi = Str.nil) else o.hi = Str.nil ∧ o.opn = false
instance (o : Opr) : Decidable o.R := by unfold Opr.R; infer_instance
def Opr.msg (o : Opr) (s : Int) : Msg := ⟨s, o.kind, o.key, o.hi, o.opn, o.val⟩
theorem Opr.R.fit {o : Opr} (h : o.R) (s : Int) : (o.msg s).fit := ZcQ ⟨h.1.2.2.1, h.1.2.2.2.2⟩
structure Ans where
 err : Int
 has : Bool
 val : Str
 rows : List Pair
 deriving DecidableEq
instance : Inhabited Ans := ⟨⟨0, false, Str.nil, []⟩⟩
def AnsC (G : GH) (cs : List Value) (a : Ans) : Prop :=
 ∃ p c, cs = [.int .i64 a.err, .bool a.has, .string a.val.b, .slice p a.rows.length c] ∧ SlR Zs G (.slice p a.rows.length c) a.rows ∧ i64 a.err
structure Drow where
 key : Str
 a : Str
 b : Str
 inA : Bool
 inB : Bool
 deriving DecidableEq
instance : Inhabited Drow := ⟨⟨Str.nil, Str.nil, Str.nil, false, false⟩⟩
def doN (l : List Pair) (o : Opr) : List Pair × Ans :=
 if ¬ o.R then (l, ⟨3, false, Str.nil, []⟩)
 else if o.kind = 5 then (l, ⟨0, (Zi l o.key).isSome, (Zi l o.key).getD Str.nil, []⟩)
 else if o.kind = 6 then (l, ⟨0, false, Str.nil, X1 l o.span o.lim⟩)
 else (takeN l (o.msg 1), ⟨0, false, Str.nil, []⟩)
theorem Zsi {l : List Pair} {o : Opr} (h : ¬ o.R) : doN l o = (l, ⟨3, false, Str.nil, []⟩) := if_pos h
theorem Zsj {l : List Pair} {o : Opr} (h : o.R) (h5 : o.kind = 5) : doN l o = (l, ⟨0, (Zi l o.key).isSome, (Zi l o.key).getD Str.nil, []⟩) := by rw [doN, if_neg (by simpa using h), if_pos h5]
theorem Zsk {l : List Pair} {o : Opr} (h : o.R) (h6 : o.kind = 6) : doN l o = (l, ⟨0, false, Str.nil, X1 l o.span o.lim⟩) := by rw [doN, if_neg (by simpa using h), if_neg om9, if_pos h6]
theorem Zsl {l : List Pair} {o : Opr} (h : o.R) (h5 : ¬ o.kind = 5) (h6 : ¬ o.kind = 6) : doN l o = (takeN l (o.msg 1), ⟨0, false, Str.nil, []⟩) := by rw [doN, if_neg (by simpa using h), if_neg h5, if_neg h6]
def Drow.same (r : Drow) : Bool := r.inA && r.inB && decide (r.a = r.b)
theorem Zku {l : List Pair} {k : Str} (h : ∀ p ∈ l, p.key ≠ k) : Zi l k = none := by
 induction l with
 | nil => rfl
 | cons p l ih => rw [Xw, if_neg (h p (by simp))]; exact ih fun p hp => h p (by simp [hp])
end Go.Fw

namespace Go.Fw
def Rise (l : List Str) : Prop := l.Pairwise fun a b => a.lt b = true
theorem Rise.ext : ∀ {a b : List Str}, Rise a → Rise b → (∀ k, k ∈ a ↔ k ∈ b) → a = b
 | [], [], _, _, _ => rfl
 | [], y :: b, _, _, h => by have := (h y).2 (by simp); cases this
 | x :: a, [], _, _, h => by have := (h x).1 (by simp); cases this
 | x :: a, y :: b, ha, hb, h => by
  obtain ⟨ha1, ha2⟩ := List.pairwise_cons.1 ha
  obtain ⟨hb1, hb2⟩ := List.pairwise_cons.1 hb
  have hxy : x = y := by
   rcases List.mem_cons.1 ((h x).1 (by simp)) with e | hx
   ·exact e
   ·rcases List.mem_cons.1 ((h y).2 (by simp)) with e | hy
    ·exact e.symm
    ·have := Str.lt_trans (hb1 x hx) (ha1 y hy); rw [Str.lt_irrefl] at this; cases this
  subst hxy
  refine congrArg (x :: ·) (Rise.ext ha2 hb2 fun k => ⟨fun hk => ?_, fun hk => ?_⟩)
  ·rcases List.mem_cons.1 ((h k).1 (by simp [hk])) with e | hk2
   ·subst e; have := ha1 k hk; rw [Str.lt_irrefl] at this; cases this
   ·exact hk2
  ·rcases List.mem_cons.1 ((h k).2 (by simp [hk])) with e | hk2
   ·subst e; have := hb1 k hk; rw [Str.lt_irrefl] at this; cases this
   ·exact hk2
end Go.Fw

namespace Go.Fw
theorem Zkv {l : List Pair} {k : Str} : (Zi l k).isSome = true ↔ k ∈ l.map (·.key) := by
 induction l with
 | nil => simp [Zi]
 | cons p l ih =>
  rw [Xw]
  by_cases h : p.key = k
  ·rw [if_pos h]; simp [h]
  ·rw [if_neg h, ih]; simp [Ne.symm h]
theorem Zkw : ∀ {a b : List Pair}, Srt a → Srt b → (∀ k, Zi a k = Zi b k) → a = b
 | [], [], _, _, _ => rfl
 | [], y :: b, _, _, h => by have := h y.key; rw [Xw, if_pos rfl] at this; cases this
 | x :: a, [], _, _, h => by have := h x.key; rw [Xw, if_pos rfl] at this; cases this
 | x :: a, y :: b, ha, hb, h => by
  obtain ⟨ha1, ha2⟩ := List.pairwise_cons.1 ha
  obtain ⟨hb1, hb2⟩ := List.pairwise_cons.1 hb
  have mx : y.key ∈ (x :: a).map (·.key) := Zkv.1 (by rw [h, Xw, if_pos rfl]; rfl)
  have my : x.key ∈ (y :: b).map (·.key) := Zkv.1 (by rw [← h, Xw, if_pos rfl]; rfl)
  have hk : x.key = y.key := by
   rw [List.map_cons] at mx my
   rcases List.mem_cons.1 mx with e | mx
   ·exact e.symm
   ·rcases List.mem_cons.1 my with e | my
    ·exact e
    ·obtain ⟨p, hp, ep⟩ := List.mem_map.1 mx
     obtain ⟨q, hq, eq⟩ := List.mem_map.1 my
     have h1 := ha1 p hp
     have h2 := hb1 q hq
     rw [ep] at h1; rw [eq] at h2
     have := Str.lt_trans h1 h2
     rw [Str.lt_irrefl] at this; cases this
  have hv : x.val = y.val := by
   have := h x.key
   rw [Xw, if_pos rfl, Xw, if_pos hk.symm] at this
   exact Option.some.inj this
  have hxy : x = y := by cases x; cases y; simp_all
  subst hxy
  refine congrArg (x :: ·) (Zkw ha2 hb2 fun k => ?_)
  have h3 := h k
  rw [Xw, Xw] at h3
  by_cases hkx : x.key = k
  ·rw [Zku fun p hp e => ?_, Zku fun p hp e => ?_]
   ·have := hb1 p hp; rw [hkx, e, Str.lt_irrefl] at this; cases this
   ·have := ha1 p hp; rw [hkx, e, Str.lt_irrefl] at this; cases this
  ·rwa [if_neg hkx, if_neg hkx] at h3
end Go.Fw
namespace Go.Fw
open Go Go.RowKit
def Yh (n : Nd) (m : Msg) : Nd := { n with msgs := n.msgs ++ [m], seen := m.stamp }
structure InjOf (c : Cfg) (l : List Nd) (ss : List Seat) (m : Msg) : Prop where
  t : Tree c l ss
  h0 : ¬ (Za l 0).level = 0
  mR : m.R
  st : m.stamp = (Za l 0).seen + 1
  le : m.stamp ≤ 1099511627776
  sn : ∀ n ∈ l, n.seen ≤ (Za l 0).seen
  fit : m.size ≤ c.bud - Zw (Za l 0).msgs
def Yb (l : List Nd) (r : Nd) : List Nd := l.set 0 r
namespace InjOf
variable {c : Cfg} {l : List Nd} {ss : List Seat} {m : Msg}
theorem pos (p : InjOf c l ss m) : 0 < l.length := p.t.pos
theorem gx (p : InjOf c l ss m) : (Zm l 0).n = Za l 0 := p.t.rootn
theorem rsl (p : InjOf c l ss m) : (Za l 0).slot = 0 ∧ Za l 0 ∈ l := YN p.t.slot ⟨Int.le_refl _, by have := p.pos; omega⟩
theorem rseat (p : InjOf c l ss m) : SeatP c (Zm l 0) := p.t.seat p.t.root
theorem rR (p : InjOf c l ss m) : (Za l 0).R c.fan c.leaf c.bud := by have := p.rseat.1; rwa [p.gx] at this
theorem rin (p : InjOf c l ss m) : (Za l 0).innerR c.fan c.bud := by have h := p.rR.2.2.2; rwa [if_neg p.h0] at h
theorem rtop (p : InjOf c l ss m) : (Za l 0).top = true := by
  have := p.rseat.2.1.1.1
  rw [p.gx] at this
  exact this
theorem old (p : InjOf c l ss m) : ∀ x ∈ ss, ∀ y ∈ x.ms, y.stamp < m.stamp := by
  have hroot : ∀ y ∈ (Za l 0).msgs, y.stamp < m.stamp := fun y hy => by
    obtain ⟨j, hj, rfl⟩ := List.getElem_of_mem hy
    have := (p.rin.2.2.2.2.2.2 j hj).1
    have := p.st
    omega
  have key : ∀ x ∈ ss, (∀ y ∈ x.ms, y.stamp < m.stamp) ∧ ∀ y ∈ x.n.msgs, y.stamp < m.stamp := by
    refine p.t.ind ⟨fun y hy => (by cases hy), fun y hy => hroot y (by rw [p.gx] at hy; exact hy)⟩ fun x hx h0 ⟨h1, h2⟩ j hj => ?_
    have hk := p.t.kid_ms hx (p.t.rst x hx) j
    have hms : ∀ y ∈ (Zb l x j).ms, y.stamp < m.stamp := fun y hy => by
      rw [hk.1] at hy
      rcases List.mem_append.1 hy with hy | hy
      · obtain ⟨z, hz, e⟩ := JG hy; rw [e]; exact h2 z hz
      · obtain ⟨z, hz, e⟩ := JG hy; rw [e]; exact h1 z hz
    refine ⟨hms, fun y hy => ?_⟩
    have hK := p.t.at hx h0 hj
    by_cases hl : (Zb l x j).n.level = 0
    · rw [p.t.nomsgs hK.1 hl] at hy; cases hy
    · have hI := (p.t.msgs hK.1).2.2 y hy
      have hs := p.sn _ (p.t.nd hK.1).2.2
      have := p.st
      omega
  exact fun x hx => (key x hx).1
noncomputable def gI (l : List Nd) (m : Msg) (x : Seat) : Seat := if x.n.slot = 0 then ⟨Yh (Za l 0) m, Span.all, []⟩ else ⟨x.n, x.s, x.ms ++ Zc x.s [m]⟩
theorem root_of (p : InjOf c l ss m) {x : Seat} (hx : x ∈ ss) (e : x.n.slot = 0) : x = Zm l 0 := p.t.uniq hx p.t.root (by rw [e]; exact p.t.root0.symm)
theorem g_r (p : InjOf c l ss m) : gI l m (Zm l 0) = ⟨Yh (Za l 0) m, Span.all, []⟩ := if_pos p.t.root0
theorem g_x {x : Seat} (h : x.n.slot ≠ 0) : gI l m x = ⟨x.n, x.s, x.ms ++ Zc x.s [m]⟩ := if_neg h
theorem two (p : InjOf c l ss m) {Q : Seat → Prop} (hr : Q (Zm l 0)) (hx : ∀ x ∈ ss, x.n.slot ≠ 0 → Q x) : ∀ x ∈ ss, Q x := fun x hm => by
  by_cases e : x.n.slot = 0
  · rw [p.root_of hm e]; exact hr
  · exact hx x hm e
theorem g_same (p : InjOf c l ss m) : ∀ x ∈ ss, (gI l m x).n.slot = x.n.slot ∧ (gI l m x).n.level = x.n.level ∧ (gI l m x).n.right = x.n.right ∧ (gI l m x).n.pivots = x.n.pivots ∧ (gI l m x).n.kids = x.n.kids ∧ (gI l m x).s = x.s ∧ (gI l m x).n.rows = x.n.rows := by
  refine p.two ?_ fun x hx h => ?_
  · rw [p.g_r, p.gx]; exact ⟨rfl, rfl, rfl, rfl, rfl, rfl, rfl⟩
  · rw [g_x h]; exact ⟨rfl, rfl, rfl, rfl, rfl, rfl, rfl⟩
theorem slots (p : InjOf c l ss m) : SlotsP (Yb l (Yh (Za l 0) m)) := by
  have h := ZbX p.t.slot (x := Yh (Za l 0) m) (by show 0 ≤ (Za l 0).slot ∧ (Za l 0).slot < _; rw [p.rsl.1]; have := p.pos; omega) p.le
  have e : (Yh (Za l 0) m).slot.toNat = 0 := by show (Za l 0).slot.toNat = 0; rw [p.rsl.1]; rfl
  rw [e] at h; exact h
theorem len (p : InjOf c l ss m) : (Yb l (Yh (Za l 0) m)).length = l.length := by unfold Yb; rw [List.length_set]
theorem find (p : InjOf c l ss m) (s : Int) : Zr (Yb l (Yh (Za l 0) m)) s = (if s = 0 then Yh (Za l 0) m else Za l s, decide (0 ≤ s ∧ s < (l.length : Int))) := by
  rw [Zaw p.slots, p.len]
  congr 1
  have e : (Yh (Za l 0) m).slot = 0 := p.rsl.1
  have h := Zal (l := l) (x := Yh (Za l 0) m) (by rw [e]; have := p.pos; omega) (i := s)
  rw [e] at h
  exact h
theorem find_g (p : InjOf c l ss m) {x : Seat} (hx : x ∈ ss) : Zr (Yb l (Yh (Za l 0) m)) x.n.slot = ((gI l m x).n, true) := by
  have hs := (p.t.nd hx).1
  rw [p.find, decide_eq_true ⟨hs.1, hs.2⟩]
  congr 1
  revert hs
  refine p.two (Q := fun x => 0 ≤ x.n.slot ∧ x.n.slot < (l.length : Int) → (if x.n.slot = 0 then Yh (Za l 0) m else Za l x.n.slot) = (gI l m x).n) (fun hs => ?_) (fun x hx h hs => ?_) x hx
  · rw [if_pos p.t.root0, p.g_r]
  · rw [if_neg h, g_x h]; exact (p.t.nd hx).2.1.symm
theorem slot_at (p : InjOf c l ss m) {x : Seat} (hx : x ∈ ss) (h0 : ¬ x.n.level = 0) {j : Nat} (hj : j < x.n.kids.length) : x.n.kids.getD j 0 = (Zb l x j).n.slot := by
  have e := (p.t.at hx h0 hj)
  rw [List.getD_eq_getElem?_getD, List.getElem?_eq_getElem hj, e.2.2.1, (YN p.t.slot e.2.1).1]; rfl
theorem kid_ne (p : InjOf c l ss m) {x : Seat} (hx : x ∈ ss) (h0 : ¬ x.n.level = 0) {j : Nat} (hj : j < x.n.kids.length) : (Zb l x j).n.slot ≠ 0 := by
  have hin : Zb l x j ∈ Zk l x := by rw [(Yc (p.t.kids hx) h0).1]; exact List.mem_map.2 ⟨j, List.mem_range.2 hj, rfl⟩
  have := p.t.root_kid hx hin
  rwa [p.t.root0] at this
theorem rst9 (p : InjOf c l ss m) {x : Seat} (hx : x ∈ ss) (s : Span) : Rst (x.ms ++ Zc s [m]) := by
  refine List.pairwise_append.2 ⟨p.t.rst x hx, Jr (by simp [Rst]), fun a ha b hb => ?_⟩
  obtain ⟨z, hz, e⟩ := JG hb
  simp at hz
  subst hz
  rw [e]; exact p.old x hx a ha
theorem kid_g (p : InjOf c l ss m) {x : Seat} (hx : x ∈ ss) (h0 : ¬ x.n.level = 0) {j : Nat} (hj : j < x.n.kids.length) : Zb (Yb l (Yh (Za l 0) m)) (gI l m x) j = gI l m (Zb l x j) := by
  have hy := (p.t.at hx h0 hj).1
  have hn0 := p.kid_ne hx h0 hj
  obtain ⟨s1, s2, s3, s4, s5, s6, s7⟩ := p.g_same x hx
  have en : (Zb (Yb l (Yh (Za l 0) m)) (gI l m x) j).n = (Zb l x j).n := by
    show (Zr _ ((gI l m x).n.kids.getD j 0)).1 = _
    rw [s5, p.slot_at hx h0 hj, p.find_g hy, g_x hn0]
  have es : (Zb (Yb l (Yh (Za l 0) m)) (gI l m x) j).s = (Zb l x j).s := by
    show (gI l m x).s.meet (Zf (gI l m x).n.pivots (j : Int)) = _
    rw [s4, s6]; rfl
  have hr := p.rst9 hy (Zb l x j).s
  have em : ZO [Zc (Zb l x j).s (gI l m x).n.msgs, Zc (Zb l x j).s (gI l m x).ms] = (Zb l x j).ms ++ Zc (Zb l x j).s [m] := by
    have hk := (p.t.kid_ms hx (p.t.rst x hx) j).1
    by_cases e : x.n.slot = 0
    · obtain rfl := p.root_of hx e
      rw [p.g_r]
      show ZO [Zc _ ((Za l 0).msgs ++ [m]), Zc _ []] = _
      have e0 : Zc (Zb l (Zm l 0) j).s (Zm l 0).ms = [] := rfl
      rw [e0, List.append_nil, p.gx] at hk
      rw [X9, ← hk]
      exact (ZaQ hr List.Pairwise.nil fun a ha b hb => by cases hb).1.trans (List.append_nil _)
    · rw [g_x e]
      show ZO [Zc _ x.n.msgs, Zc _ (x.ms ++ Zc x.s [m])] = _
      rw [X9, XG fun k hk => Zbh k hk]
      rw [hk] at hr ⊢
      rw [List.append_assoc] at hr ⊢
      obtain ⟨r1, r2, r3⟩ := ZaH hr
      exact (ZaQ r1 r2 r3).1
  have e3 : (Zb (Yb l (Yh (Za l 0) m)) (gI l m x) j).ms = ZO [Zc (Zb (Yb l (Yh (Za l 0) m)) (gI l m x) j).s (gI l m x).n.msgs, Zc (Zb (Yb l (Yh (Za l 0) m)) (gI l m x) j).s (gI l m x).ms] := rfl
  rw [es, em] at e3
  rw [g_x hn0]
  cases hA : Zb (Yb l (Yh (Za l 0) m)) (gI l m x) j
  rw [hA] at en es e3
  simp only at en es e3
  rw [en, es, e3]
theorem each (p : InjOf c l ss m) {x : Seat} (hx : x ∈ ss) : (ZZ (Yb l (Yh (Za l 0) m)) (gI l m x)).isSome = true ∧ Zk (Yb l (Yh (Za l 0) m)) (gI l m x) = (Zk l x).map (gI l m) := by
  obtain ⟨s1, s2, s3, s4, s5, s6, s7⟩ := p.g_same x hx
  by_cases h0 : x.n.level = 0
  · rw [Zau (by rw [s2]; exact h0), XA (by rw [s2]; exact h0), XA h0]; exact ⟨rfl, rfl⟩
  · obtain ⟨h1, h2, h3, h4⟩ := Yc (p.t.kids hx) h0
    obtain ⟨g1, g2⟩ := ZaG (l := Yb l (Yh (Za l 0) m)) (x := gI l m x) (by rw [s2]; exact h2) (by rw [s4, s5]; exact h3) fun j hj => by
      rw [s5] at hj
      have e := p.t.at hx h0 hj
      unfold YS
      rw [s5, p.slot_at hx h0 hj, p.find_g e.1]
      simp only [Bool.true_and, decide_eq_true_eq]
      rw [(p.g_same _ e.1).2.1, s2]; exact e.2.2.2
    refine ⟨g1, ?_⟩
    rw [g2, h1, s5]
    unfold YL
    rw [List.map_map]
    exact List.map_congr_left fun j hj => p.kid_g hx h0 (List.mem_range.1 hj)
theorem froot (p : InjOf c l ss m) : gI l m (Zm l 0) = Zm (Yb l (Yh (Za l 0) m)) 0 := by
  have hf := p.find_g p.t.root
  rw [p.t.root0, p.g_r] at hf
  rw [p.g_r]
  unfold Zm
  rw [hf]
theorem fix (p : InjOf c l ss m) : ss.map (gI l m) = Zm (Yb l (Yh (Za l 0) m)) 0 :: (ss.map (gI l m)).flatMap (Zk (Yb l (Yh (Za l 0) m))) := by
  rw [PourOf.flat_map fun x hx => (p.each hx).2]
  conv => lhs; rw [p.t.fix]
  rw [List.map_cons, p.froot]
theorem keys (p : InjOf c l ss m) : (ss.map (gI l m)).map Seat.key = ss.map Seat.key := by
  rw [List.map_map]
  refine List.map_congr_left fun x hx => ?_
  obtain ⟨s1, s2, s3, _⟩ := p.g_same x hx
  show ((gI l m x).n.slot, (gI l m x).n.level, (gI l m x).n.right) = _
  rw [s1, s2, s3]; rfl
theorem perm (p : InjOf c l ss m) : ((ss.map (gI l m)).map fun x : Seat => x.n.slot).Perm ((Yb l (Yh (Za l 0) m)).map fun n : Nd => n.slot) := by
  have h1 : (ss.map (gI l m)).map (fun x : Seat => x.n.slot) = ss.map (fun x : Seat => x.n.slot) := by
    rw [List.map_map]
    exact List.map_congr_left fun x hx => (p.g_same x hx).1
  rw [h1]
  have h4 : ((Yb l (Yh (Za l 0) m)).map fun n : Nd => n.slot) = (l.map fun n : Nd => n.slot) := by rw [ZaJ p.slots, ZaJ p.t.slot, p.len]
  rw [h4]; exact p.t.perm_s
theorem nR (p : InjOf c l ss m) : (Yh (Za l 0) m).R c.fan c.leaf c.bud := by
  obtain ⟨⟨r1, r2, r3⟩, r4, r5, _⟩ := p.rR
  obtain ⟨i1, i2, i3, i4, i5, i6, i7⟩ := p.rin
  have hst := p.st
  have hfit := p.fit
  refine ⟨⟨r1, r2, by show 0 ≤ m.stamp; omega⟩, r4, r5, ?_⟩
  rw [if_neg (show ¬ (Yh (Za l 0) m).level = 0 from p.h0)]
  refine ⟨i1, i2, ?_, ?_, i5, i6, fun j hj => ?_⟩
  · refine MsgsR.iff.2 ⟨fun x hx => ?_, ?_⟩
    · rcases List.mem_append.1 hx with hx | hx
      · exact (MsgsR.iff.1 i3).1 x hx
      · simp at hx; subst hx; exact p.mR
    · refine List.pairwise_append.2 ⟨(MsgsR.iff.1 i3).2, by simp, fun a ha b hb => ?_⟩
      simp at hb; subst hb
      obtain ⟨q, hq, rfl⟩ := List.getElem_of_mem ha
      have := (i7 q hq).1
      omega
  · show Zw ((Za l 0).msgs ++ [m]) ≤ _
    rw [Zdp]
    have : Zw [m] = m.size := by simp [Zw]
    omega
  · refine ⟨?_, .inl p.rtop⟩
    have hj2 : j < ((Za l 0).msgs ++ [m]).length := hj
    show (((Za l 0).msgs ++ [m])[j]).stamp ≤ m.stamp
    rw [List.getElem_append]
    split
    · rename_i h
      have := (i7 j h).1
      omega
    · simp
theorem seats9 (p : InjOf c l ss m) : ∀ x ∈ ss, SeatP c (gI l m x) := by
  refine p.two ?_ fun x hx h => ?_
  · rw [p.g_r]
    have sR := p.rseat
    have e := p.gx
    obtain ⟨q1, ⟨⟨q2, q3⟩, q4, q5, q6⟩, q7, q8⟩ := sR
    rw [e] at q2 q3 q7
    refine ⟨p.nR, ⟨⟨q2, q3⟩, fun j hj => (Zax _), fun j hj => ?_, fun j hj => ?_⟩, q7, fun j hj => absurd hj (Nat.not_lt_zero j)⟩
    · have := q5 j (by rw [e]; exact hj)
      simp only [e] at this
      exact this
    · refine PourOf.norm_of fun q _ => Zax q
  · rw [g_x h]
    obtain ⟨q1, q2, q7, q8⟩ := p.t.seat hx
    refine ⟨q1, q2, q7, fun j hj => ?_⟩
    have hmem : (x.ms ++ Zc x.s [m])[j] ∈ x.ms ++ Zc x.s [m] := List.getElem_mem hj
    show x.n.seen < ((x.ms ++ Zc x.s [m])[j]).stamp
    rcases List.mem_append.1 hmem with hm | hm
    · obtain ⟨q, hq, e⟩ := List.getElem_of_mem hm
      rw [← e]; exact q8 q hq
    · obtain ⟨z, hz, e⟩ := JG hm
      simp at hz; subst hz
      rw [e]
      have := p.sn _ (p.t.nd hx).2.2
      have := p.st
      omega
theorem tree (p : InjOf c l ss m) : Tree c (Yb l (Yh (Za l 0) m)) (ss.map (gI l m)) := by
  have hsm := p.t.sml
  refine Zdm p.t.cfg (by rw [p.len]; exact p.t.pos) (ZdM p.t.cfg (by rw [p.len]; exact hsm.1) fun n hn => ?_) p.slots p.fix (fun z hz => ?_) p.perm ?_ (by rw [p.len]; exact p.t.q.1.2.2) fun z hz => ?_
  · have old : ∀ n ∈ l, n.R c.fan c.leaf c.bud := fun n hn => by
      have := (p.t.perm.mem_iff).2 hn
      obtain ⟨x, hx, rfl⟩ := List.mem_map.1 this
      exact (p.t.seat hx).1
    rcases List.mem_or_eq_of_mem_set hn with hn | rfl
    · exact old n hn
    · exact p.nR
  · obtain ⟨x, hx, rfl⟩ := List.mem_map.1 hz
    exact (p.each hx).1
  · rw [p.keys]; exact (ZbI ss).1 p.t.q.1.2.1
  · obtain ⟨x, hx, rfl⟩ := List.mem_map.1 hz
    exact p.seats9 x hx
theorem map (p : InjOf c l ss m) : Zh (Yb l (Yh (Za l 0) m)) = takeN (Zh l) m := by
  have t' := p.tree
  have hk : m.key.b.size < 140737488355328 := by have := p.mR.1.2.1; omega
  have hkd : 1 ≤ m.kind ∧ m.kind ≤ 4 := by
    have h := p.mR.2
    split at h
    · omega
    · rcases h.2.2 with h | h | h <;> omega
  refine Zkw t'.srt (J1.1 (p.t.mapFits.takeM p.mR.1.2.1 p.mR.1.2.2.1)).2 fun k => ?_
  rw [Zht hk hkd.1 hkd.2, ← p.t.lookup k, ← t'.lookup k]
  have hL := p.t.leafOk k
  have hne : (Zn l k).n.slot ≠ 0 := fun e => p.h0 (by rw [← p.gx, ← p.root_of hL.mem e]; exact hL.lvl)
  have e : gI l m (Zn l k) = Zn (Yb l (Yh (Za l 0) m)) k := by
    refine t'.leaf_eq (List.mem_map.2 ⟨_, hL.mem, rfl⟩) ?_ ?_
    · rw [(p.g_same _ hL.mem).2.2.2.2.2.1]; exact hL.has
    · rw [(p.g_same _ hL.mem).2.1]; exact hL.lvl
  rw [← e, g_x hne]
  show Eff.apply (YB ((Zn l k).ms ++ Zc (Zn l k).s [m]) k) _ = _
  rw [ZeK, ZeK, List.foldl_append, Zfm hL.has]
  rfl
end InjOf
def wtM (fan : Nat) (P : List Str) (m : Msg) : Nat := if m.kind = 4 then fan - Zg P m.key else 1
def wtS (fan : Nat) (P : List Str) (l : List Msg) : Nat := (l.map (wtM fan P)).sum
def wtN (c : Cfg) (n : Nd) : Nat := wtS c.fan.toNat n.pivots n.msgs + (c.fan.toNat - n.kids.length)
theorem Zkx {fan : Nat} (hf : fan ≤ 64) (P : List Str) : ∀ l : List Msg, (wtS fan P l : Int) ≤ 2 * Zw l
 | [] => by simp [wtS, Zw]
 | m :: l => by
  have ih := Zkx hf P l
  have h1 : (wtM fan P m : Int) ≤ 2 * m.size := by
   unfold wtM Msg.size
   split
   ·omega
   ·omega
  simp only [wtS, Zw, List.map_cons, List.sum_cons] at ih ⊢
  omega
theorem Zgg {c : Cfg} {n : Nd} (hc : CfgR c) (h : n.innerR c.fan c.bud) : wtN c n ≤ 8256 := by
 obtain ⟨⟨f1, f2⟩, _, ⟨b1, b2⟩, _⟩ := hc
 have h1 := Zkx (fan := c.fan.toNat) om9 n.pivots n.msgs
 have h2 := h.2.2.2.1
 unfold wtN
 omega
theorem Zsm {fan : Nat} {P : List Str} {m : Msg} (h : Zg P m.key < fan) : 1 ≤ wtM fan P m := by
 unfold wtM; split <;> omega
theorem Zky {s : Span} (h : ¬ s.norm.empty = true) : s.norm.lo = s.lo := by
 unfold Span.norm at h ⊢
 split
 ·rename_i h2
  rw [if_pos h2] at h
  exact absurd (by simp [Span.empty, Span.zero, Str.lt_irrefl]) h
 ·split <;> rfl
theorem Zkz {m : Msg} {s : Span} (h4 : m.kind = 4) (h : (m.clip s).2 = true) : (m.clip s).1.kind = 4 ∧ (m.clip s).1.key = if m.key.lt s.lo = true then s.lo else m.key := by
 unfold Msg.clip at h ⊢
 split at h
 ·cases h
 ·rename_i h2
  rw [if_neg h2, if_pos h4]
  refine ⟨h4, ?_⟩
  dsimp only
  have hs : m.span = ⟨m.key, m.hi, m.opn⟩ := if_pos h4
  rw [hs] at h2 ⊢
  unfold Span.meet at h2 ⊢
  rw [Zky h2]
theorem Zsn {P : List Str} {i : Int} {T : List Msg} {m m' : Msg} (h : Y3 P i T m = some m') : m' = m ∨ (m.kind = 4 ∧ (Zf P i).opn = false ∧ (m.clip ⟨(Zf P i).hi, Str.nil, true⟩).2 = true ∧ m' = (m.clip ⟨(Zf P i).hi, Str.nil, true⟩).1) := by
 unfold Y3 at h
 split at h
 ·split at h
  ·rename_i h2
   cases h
   right
   have h3 := h2.2
   unfold ZE at h3 ⊢
   split at h3
   ·cases h3
   ·rename_i h4
    rw [if_neg h4]
    exact ⟨h2.1, by simpa using h4, h3, rfl⟩
  ·cases h
 ·cases h; exact .inl rfl
theorem Zso {fan : Nat} {P : List Str} {i : Int} {T : List Msg} {m m' : Msg} (h : Y3 P i T m = some m') : wtM fan P m' ≤ wtM fan P m := by
 rcases Zsn h with rfl | ⟨h4, _, h2, rfl⟩
 ·exact Nat.le_refl _
 ·obtain ⟨h5, h6⟩ := Zkz h4 h2
  unfold wtM
  rw [if_pos h4, if_pos h5, h6]
  dsimp only
  have : Zg P m.key ≤ Zg P (if m.key.lt (Zf P i).hi = true then (Zf P i).hi else m.key) := by
   apply Zcz
   split
   ·rename_i h7; exact Str.lt_asymm h7
   ·exact Str.lt_irrefl _
  omega
theorem Zsp {fan : Nat} {P : List Str} {i : Nat} {T : List Msg} {m : Msg} (hr : Z2 P = true) (hT : m.stamp ∈ T.map Msg.stamp) (hi : Zg P m.key = i) (hf : i < fan) :
  ((Y3 P i T m).elim 0 (wtM fan P)) + 1 ≤ wtM fan P m := by
 cases h : Y3 P i T m with
 | none => exact Zsm om9
 | some m' =>
  show wtM fan P m' + 1 ≤ wtM fan P m
  have hiP : i ≤ P.length := by rw [← hi]; exact List.length_filter_le _ _
  unfold Y3 at h
  rw [if_pos hT] at h
  split at h
  ·rename_i h2
   cases h
   have h3 := h2.2
   unfold ZE at h3 ⊢
   split at h3
   ·cases h3
   ·rename_i h4
    rw [if_neg h4]
    obtain ⟨h5, h6⟩ := Zkz h2.1 h3
    have hk : (Zf P (i : Int)).has m.key = true := by rw [Xv hr _ hiP, hi]; simp
    have ho : (Zf P (i : Int)).opn = false := by simpa using h4
    have hlt : m.key.lt (Zf P (i : Int)).hi = true := by
     rcases (Yp.1 hk).2 with h | h
     ·rw [ho] at h; cases h
     ·exact h
    unfold wtM
    rw [if_pos h2.1, if_pos h5, h6, if_pos hlt]
    dsimp only
    have h7 : Zg P m.key ≤ Zg P (Zf P (i : Int)).hi := Zcz (Str.lt_asymm hlt)
    have h8 : Zg P (Zf P (i : Int)).hi ≠ i := fun e => by
     have h9 : (Zf P (i : Int)).has (Zf P (i : Int)).hi = true := by rw [Xv hr _ hiP, e]; simp
     rcases (Yp.1 h9).2 with h | h
     ·rw [ho] at h; cases h
     ·rw [Str.lt_irrefl] at h; cases h
    omega
  ·cases h
theorem ZkA {w : Msg → Nat} {f : Msg → Option Msg} : ∀ {l : List Msg}, (∀ m ∈ l, (f m).elim 0 w ≤ w m) → ((l.filterMap f).map w).sum ≤ (l.map w).sum
 | [], _ => by simp
 | m :: l, h => by
  have ih := ZkA (w := w) (f := f) (l := l) fun x hx => h x (List.mem_cons_of_mem _ hx)
  have h1 := h m (by simp)
  rw [List.filterMap_cons]
  cases hf : f m with
  | none => simp only [List.map_cons, List.sum_cons]; omega
  | some x => rw [hf] at h1; simp only [List.map_cons, List.sum_cons]; dsimp only [Option.elim] at h1; omega
theorem ZkB {w : Msg → Nat} {f : Msg → Option Msg} : ∀ {l : List Msg} {a : Msg}, (∀ m ∈ l, (f m).elim 0 w ≤ w m) → a ∈ l → (f a).elim 0 w + 1 ≤ w a → ((l.filterMap f).map w).sum + 1 ≤ (l.map w).sum
 | [], _, _, ha, _ => by cases ha
 | m :: l, a, h, ha, hl => by
  have h1 := h m (by simp)
  rw [List.filterMap_cons]
  rcases List.mem_cons.1 ha with rfl | ha
  ·have ih := ZkA (w := w) (f := f) (l := l) fun x hx => h x (List.mem_cons_of_mem _ hx)
   cases hf : f a with
   | none => rw [hf] at hl; simp only [List.map_cons, List.sum_cons]; dsimp only [Option.elim] at hl; omega
   | some x => rw [hf] at hl; simp only [List.map_cons, List.sum_cons]; dsimp only [Option.elim] at hl; omega
  ·have ih := ZkB (w := w) (f := f) (l := l) (fun x hx => h x (List.mem_cons_of_mem _ hx)) ha hl
   cases hf : f m with
   | none => simp only [List.map_cons, List.sum_cons]; omega
   | some x => rw [hf] at h1; simp only [List.map_cons, List.sum_cons]; dsimp only [Option.elim] at h1; omega
theorem Poured.lighter {c : Cfg} {p k : Nd} {i : Nat} {a b : Nd} {T : List Msg} (h : Poured c p k i a b T) (hr : Z2 p.pivots = true) (hi : i < c.fan.toNat) : wtN c a + 1 ≤ wtN c p := by
 obtain ⟨n, hn, hle, hT⟩ := h.take
 obtain ⟨x0, hx⟩ : ∃ x, x ∈ T := ⟨_, List.getElem_mem h.ne⟩
 have hx2 : x0 ∈ Zd p.pivots p.msgs i := by
  rw [hT] at hx
  exact List.mem_of_mem_take hx
 obtain ⟨m, hm, h2⟩ := List.mem_filterMap.1 hx2
 unfold XF at h2
 split at h2
 ·rename_i h3
  have e : (m.clip (Zf p.pivots i)).1 = x0 := Option.some.inj h2
  have hst : m.stamp ∈ T.map Msg.stamp := by
   rw [← X0 h3.2, e]
   exact List.mem_map_of_mem hx
  have key := ZkB (w := wtM c.fan.toNat p.pivots) (f := Y3 p.pivots i T) (l := p.msgs) (a := m) (fun x _ => by
   cases hf : Y3 p.pivots i T x with
   | none => exact Nat.zero_le _
   | some y => exact Zso hf) (Zdt hm) (Zsp hr hst om9 hi)
  rw [h.ea]
  unfold wtN wtS
  dsimp only
  unfold ZM
  omega
 ·cases h2
theorem Zsq {c : Cfg} {n : Nd} {i : Nat} {k : Str} {v : Int} (hf : (n.kids.length : Int) < c.fan) (hi : i < n.kids.length) : wtN c (Y6 n i k v) + 1 ≤ wtN c n := by
 have h1 : ∀ l : List Msg, wtS c.fan.toNat ((n.pivots.take i ++ [k]) ++ n.pivots.drop i) l ≤ wtS c.fan.toNat n.pivots l := by
  intro l
  induction l with
  | nil => exact Nat.le_refl _
  | cons m l ih =>
   have h2 : wtM c.fan.toNat ((n.pivots.take i ++ [k]) ++ n.pivots.drop i) m ≤ wtM c.fan.toNat n.pivots m := by
    unfold wtM
    rw [ZiF]
    split
    ·omega
    ·exact Nat.le_refl _
   simp only [wtS, List.map_cons, List.sum_cons] at ih ⊢
   omega
 have h3 := h1 n.msgs
 have h4 : ((n.kids.take (i + 1) ++ [v]) ++ n.kids.drop (i + 1)).length = n.kids.length + 1 := by simp; omega
 unfold wtN Y6
 dsimp only
 rw [h4]
 omega
theorem ZkC {c : Cfg} {n n' : Nd} (h0 : ¬ n.level = 0) (h1 : n'.level = n.level) (h2 : n'.kids.length = n.kids.length) : ZK c n' = ZK c n := by
 unfold ZK
 rw [if_neg h0, if_neg (by rw [h1]; exact h0), h2]
theorem ZdX {c : Cfg} {l : List Nd} {ss : List Seat} (t : Tree c l ss) {a : Int} (ha : 0 ≤ a ∧ a < l.length) (h0 : ¬ (Za l a).level = 0) : wtN c (Za l a) ≤ 8256 := by
 obtain ⟨P, hP, e⟩ := t.seat_of ha
 rw [← e] at h0 ⊢
 exact Zgg t.cfg (t.inner hP h0)
theorem ZkD {c : Cfg} {l : List Nd} {ss : List Seat} {P : Seat} {i : Nat} {x y : Nd} {T : List Msg} (p : PourOf c l ss P i x y T) (s : Int) :
  Za (ZW l x y) s = if s = y.slot then y else if s = x.slot then x else Za l s := by
 have hx : 0 ≤ x.slot ∧ x.slot < l.length := by rw [p.al.1]; exact p.sin p.mem
 have hy : 0 ≤ y.slot ∧ y.slot < l.length := by rw [p.bl.1]; exact p.sin p.km.1
 unfold ZW
 rw [Zal (by rw [List.length_set]; exact hy), Zal hx]
theorem Zsr {c : Cfg} {l : List Nd} {ss : List Seat} {P : Seat} {i : Nat} {x y : Nd} {T : List Msg} (p : PourOf c l ss P i x y T) : Za (ZW l x y) P.n.slot = x := by
 rw [ZkD p, p.bl.1, p.al.1, if_neg p.ksl.symm, if_pos rfl]
theorem ZkE {c : Cfg} {l : List Nd} {ss : List Seat} (t : Tree c l ss) {a i : Int} {P : Seat} (s : StepAt c l ss a i P) (h : 0 < ZY c.leaf c.bud (Za l a) (Zl l a i) i) :
  ∃ x y, ZW l (Z9 c.leaf c.bud (Za l a) (Zl l a i) i).1 (Z9 c.leaf c.bud (Za l a) (Zl l a i) i).2.1 = ZW l x y ∧ Za (ZW l x y) a = x ∧ (ZW l x y).length = l.length ∧ x.slot = (Za l a).slot ∧ x.level = (Za l a).level ∧ x.kids = (Za l a).kids ∧ wtN c x + 1 ≤ wtN c (Za l a) ∧
   ∀ q : Int, (Za (ZW l x y) q).level = (Za l q).level ∧ (Za (ZW l x y) q).kids = (Za l q).kids := by
 obtain ⟨T, p⟩ := s.pour t h
 have hn := s.n
 have hs := s.slot
 have hf : i.toNat < c.fan.toNat := by
  have h1 := s.hi
  have h2 := p.pin.1.2.2
  omega
 have hi : ((i.toNat : Nat) : Int) = i := by have := s.hi; omega
 have hlt := Poured.lighter p.po p.rt.1 hf
 rw [hn] at hlt
 refine ⟨_, _, rfl, ?_, p.len, ?_, ?_, ?_, hlt, fun q => ?_⟩
 ·have := Zsr p
  rwa [hs] at this
 ·exact p.al.1.trans (by rw [hn])
 ·exact p.al.2.1.trans (by rw [hn])
 ·exact p.al.2.2.2.1.trans (by rw [hn])
 ·rw [ZkD p]
  have hk := (p.t.nd p.km.1).2.1
  have hp := (p.t.nd p.mem).2.1
  split
  ·rename_i e
   rw [e, p.bl.1, ← hk]; exact ⟨p.bl.2.1, p.bl.2.2.2.1⟩
  ·split
   ·rename_i e
    rw [e, p.al.1, ← hp]; exact ⟨p.al.2.1, p.al.2.2.2.1⟩
   ·exact ⟨rfl, rfl⟩
theorem ZkF {n : Nd} {i : Nat} {k : Str} {v : Int} (h : (Xi n i k v).2 = true) : (Xi n i k v).1 = Y6 n i k v ∧ i < n.kids.length := by
 unfold Xi at h ⊢
 split at h
 ·cases h
 ·rename_i h2
  rw [if_neg h2]
  by_cases h3 : n.kids.length ≤ i ∨ (Zf n.pivots (i : Int)).has k = false ∨ k = (Zf n.pivots (i : Int)).lo
  ·exact absurd (.inr (Zgt h3)) h2
  ·have h4 : ¬ n.kids.length ≤ i := fun e => h3 (.inl e)
   have h5 : (Zf n.pivots (i : Int)).has k = true := by
    cases h6 : (Zf n.pivots (i : Int)).has k
    ·exact absurd (.inr (.inl h6)) h3
    ·rfl
   rw [Zd2 h4 h5 (fun e => h3 (.inr (.inr e)))]
   exact ⟨rfl, om9⟩
theorem Zss {c : Cfg} {l : List Nd} {a i : Int} (h : (ZP c l a i).1 = 0) (hl : (Za l a).slot = a) :
  l.length ≤ (ZP c l a i).2.length ∧ ∃ k v, Za (ZP c l a i).2 a = Y6 (Za l a) i.toNat k v ∧ i.toNat < (Za l a).kids.length ∧ ZK c (Za l a) = false := by
 refine ⟨Zgf c l a i, ?_⟩
 unfold ZP at h ⊢
 split at h
 ·cases h
 ·rename_i hi
  rw [if_neg hi]
  by_cases h1 : 0 ≤ a ∧ a < l.length
  ·by_cases h2 : (Za l a).kids.length ≤ i.toNat
   ·rw [Zao (.inr (.inl h2))] at h; cases h
   ·by_cases h3 : 0 ≤ kdN l a i.toNat ∧ kdN l a i.toNat < l.length
    ·cases h4 : ZK c (Za l a)
     ·by_cases h5 : (Yr l a i.toNat).2.2.2 = true
      ·by_cases h6 : (adP l a i.toNat).2 = true
       ·by_cases h7 : (l.length : Int) < c.slots
        ·rw [ZdS h1 h2 h3 h4 h5 h6 h7]
         obtain ⟨e1, e2⟩ := ZkF (n := Za l a) h6
         refine ⟨(Yr l a i.toNat).2.2.1, (l.length : Int), ?_, e2, rfl⟩
         have hsl := Zke h6
         unfold JS
         dsimp only
         rw [ZcL]
         rw [if_neg (by simp only [List.length_set]; omega)]
         have hx : (adP l a i.toNat).1.slot = a := hsl.trans hl
         have := Zal (l := l.set (Yr l a i.toNat).1.slot.toNat (Yr l a i.toNat).1) (x := (adP l a i.toNat).1) (by rw [hx, List.length_set]; exact h1) a
         rw [hx, if_pos rfl] at this
         rw [this]
         exact e1
        ·rw [ZdR h1 h2 h3 h4 h5 h6 h7] at h; cases h
       ·rw [ZbZ h1 h2 h3 h4 (.inr (by simpa using h6))] at h; cases h
      ·rw [ZbZ h1 h2 h3 h4 (.inl (by simpa using h5))] at h; cases h
     ·rw [Zf6 h1 h2 h3 h4] at h; cases h
    ·rw [Zao (.inr (.inr h3))] at h; cases h
  ·rw [Zao (.inl h1)] at h; cases h
theorem ZkG {c : Cfg} {l : List Nd} {a i : Int} (h0 : ¬ (Za l a).level = 0) (h : (ZP c l a i).1 = 0) (hl : (Za l a).slot = a) :
  (Za (ZP c l a i).2 a).slot = a ∧ (Za (ZP c l a i).2 a).level = (Za l a).level ∧ wtN c (Za (ZP c l a i).2 a) + 1 ≤ wtN c (Za l a) := by
 obtain ⟨_, k, v, e, hi, hf⟩ := Zss h hl
 rw [e]
 refine ⟨hl, rfl, Zsq ?_ hi⟩
 unfold ZK at hf
 rw [if_neg h0, decide_eq_false_iff_not] at hf
 omega
def LowP (c : Cfg) (l : List Nd) (a : Int) : Prop := ¬ (Za l a).slot = 0 ∨ (2 ≤ (Za l a).level ∧ ZK c (Za l a) = false ∧ ∀ j : Nat, j < (Za l a).kids.length → ZK c (Zl l a j) = false)
theorem ZdY {c : Cfg} {n : Nd} {k : Str} (h : (ZB c n k).1 = 1) : ¬ n.level = 0 ∧ n.slot = 0 ∧ ZK c n = true := by
 unfold ZB at h
 split at h
 ·cases h
 ·rename_i h0
  split at h
  ·rename_i h1; exact ⟨h0, h1.1, h1.2⟩
  ·cases h
theorem ZaN {c : Cfg} {l : List Nd} {ss : List Seat} (t : Tree c l ss) {a i : Int} {P : Seat} (s : StepAt c l ss a i P) : ¬ (Zl l a i).slot = 0 ∧ (Zl l a i).level = (Za l a).level - 1 ∧ Za l (Zl l a i).slot = Zl l a i ∧ 0 ≤ (Zl l a i).slot ∧ (Zl l a i).slot < l.length := by
 have hk := t.at s.mem s.h0 (j := i.toNat) (by have := s.hi; omega)
 have hlv := hk.2.2.2
 rw [s.kid, s.n] at hlv
 refine ⟨fun e => ?_, hlv, by rw [s.ksl]; rfl, by rw [s.ksl]; exact s.kin.1, by rw [s.ksl]; exact s.kin.2⟩
 have h1 := t.nodup_s
 rw [t.fix, List.map_cons, List.nodup_cons] at h1
 refine h1.1 (List.mem_map.2 ⟨Zb l P i.toNat, List.mem_flatMap.2 ⟨P, s.mem, ?_⟩, ?_⟩)
 ·rw [(Yc (t.kids s.mem) s.h0).1]
  exact List.mem_map.2 ⟨i.toNat, List.mem_range.2 (by have := s.hi; omega), rfl⟩
 ·rw [s.kid, e, t.rootn, (YN t.slot ⟨Int.le_refl _, by have := t.pos; omega⟩).1]
theorem Zst {c : Cfg} {p k : Nd} {i : Int} (h : Z4 c p k i = 3) : (0 < k.level ∧ ZK c k = true) ∨ ¬ 0 < k.level := by
 unfold Z4 at h
 split at h
 ·rename_i h1; exact .inl h1
 ·split at h
  ·cases h
  ·split at h
   ·cases h
   ·rename_i h3; exact .inr h3
theorem ZdZ {c : Cfg} {p k : Nd} {i : Int} (h : Z4 c p k i = 5) : 0 < k.level ∧ ZK c k = false ∧ ¬ 0 < ZY c.leaf c.bud p k i := by
 unfold Z4 at h
 split at h
 ·split at h <;> cases h
 ·rename_i h1
  split at h
  ·cases h
  ·rename_i h2
   split at h
   ·rename_i h3
    refine ⟨h3, ?_, h2⟩
    cases h4 : ZK c k
    ·rfl
    ·exact absurd ⟨h3, h4⟩ h1
   ·split at h
    ·split at h <;> cases h
    ·cases h
theorem ZkH {c : Cfg} {k : Str} : ∀ (m : Nat) {l : List Nd} {ss : List Seat} {a n : Int}, Tree c l ss → 0 ≤ a ∧ a < l.length → LowP c l a → (Za l a).level.toNat * 8300 + wtN c (Za l a) ≤ m → ∃ r, Yq c k (m + 1) l a n = some r := by
 intro m
 induction m using Nat.strongRecOn with
 | _ m ih =>
  intro l ss a n t ha hp hm
  rcases Jn c (Za l a) k with h | h | ⟨h, h0, _⟩
  ·exact ⟨_, Y7 (by rw [Jk h])⟩
  ·obtain ⟨_, h2, h3⟩ := ZdY h
   rcases hp with hp | ⟨_, hp, _⟩
   ·exact absurd h2 hp
   ·rw [hp] at h3; cases h3
  ·obtain ⟨_, hi1, hi2⟩ := JU t ha h
   obtain ⟨P, s⟩ := JD t ha h0 ⟨hi1, hi2⟩
   have hst := X4 h
   have hsl := (YN t.slot ha).1
   obtain ⟨T, hT, _⟩ := Zaq t ha k
   have hnx := ZaM t ha k
   have hlv : 0 < (Za l a).level := by have := s.kof.1; exact this
   rcases XU c (Za l a) (Zl l a (ZB c (Za l a) k).2) (ZB c (Za l a) k).2 with hd | hd | ⟨hd, hd2⟩ | hd
   ·exact ⟨_, Y7 (by rw [hst, JC hd])⟩
   ·by_cases h3 : (ZP c l a (ZB c (Za l a) k).2).1 = 0
    ·have e := hst.trans (X5 hd h3)
     obtain ⟨g1, g2, g3⟩ := ZkG h0 h3 hsl
     rw [Xh (by rw [e]; simp) (by rw [e]; simp)]
     rw [e] at hT hnx ⊢
     dsimp only at hT hnx ⊢
     obtain ⟨m2, rfl⟩ : ∃ m2, m = m2 + 1 := ⟨m - 1, om9⟩
     refine ih m2 om9 hT hnx ?_ (by rw [g2]; omega)
     rcases hp with hp | ⟨q1, q2, q3⟩
     ·left; rw [g1]; rw [hsl] at hp; exact hp
     ·exfalso
      have hk := ZaN t s
      have hf := q3 (ZB c (Za l a) k).2.toNat om9
      rw [show (((ZB c (Za l a) k).2.toNat : Nat) : Int) = (ZB c (Za l a) k).2 by omega] at hf
      rcases Zst hd with ⟨_, h5⟩ | h5
      ·rw [hf] at h5; cases h5
      ·omega
    ·exact ⟨_, Y7 (by rw [hst, X6 hd h3])⟩
   ·have e := hst.trans (YR hd)
    obtain ⟨x, y, e2, g1, g2, g3, g4, g5, g6, g7⟩ := ZkE t s hd2
    rw [e2] at e
    rw [Xh (by rw [e]; simp) (by rw [e]; simp)]
    rw [e] at hT hnx ⊢
    dsimp only at hT hnx ⊢
    obtain ⟨m2, rfl⟩ : ∃ m2, m = m2 + 1 := ⟨m - 1, om9⟩
    refine ih m2 om9 hT hnx ?_ (by rw [g1, g4]; omega)
    rcases hp with hp | ⟨q1, q2, q3⟩
    ·left; rw [g1, g3]; exact hp
    ·right
     rw [g1]
     refine ⟨by rw [g4]; exact q1, (ZkC h0 g4 (by rw [g5])).trans q2, fun j hj => ?_⟩
     rw [g5] at hj
     have ek : Zl (ZW l x y) a j = Za (ZW l x y) ((Za l a).kids.getD j 0) := by
      unfold Zl
      rw [g1, g5, Int.toNat_natCast]
     have ek2 : Zl l a j = Za l ((Za l a).kids.getD j 0) := by unfold Zl; rw [Int.toNat_natCast]
     have h7 := g7 ((Za l a).kids.getD j 0)
     obtain ⟨P2, s2⟩ := JD t ha h0 (i := (j : Int)) ⟨om9, om9⟩
     have hk2 := (ZaN t s2).2.1
     rw [ek, ZkC (n := Zl l a j) (by rw [hk2]; omega) (by rw [ek2]; exact h7.1) (by rw [ek2, h7.2])]
     exact q3 j hj
   ·have e := hst.trans (X7 hd)
    obtain ⟨k1, k2, k3, k4⟩ := ZaN t s
    have h5 := ZdZ hd
    rw [Jo (by rw [e])]
    rw [e] at hT hnx ⊢
    dsimp only at hT hnx ⊢
    obtain ⟨m2, rfl⟩ : ∃ m2, m = m2 + 1 := ⟨m - 1, om9⟩
    have hw := ZdX t (a := (Zl l a (ZB c (Za l a) k).2).slot) k4 (by rw [k3]; omega)
    refine ih m2 om9 t k4 (.inl (by rw [k3]; exact k1)) ?_
    rw [k3] at hw ⊢
    omega
theorem Zsu {c : Cfg} {l : List Nd} {ss : List Seat} (t : Tree c l ss) (h0 : ¬ (Za l 0).level = 0) (h : (ZS c l).1 = 0) : LowP c (ZS c l).2 0 ∧ (Za (ZS c l).2 0).level = (Za l 0).level + 1 := by
 have hp := t.pos
 obtain ⟨P, hP, eP⟩ := t.seat_of (a := 0) ⟨Int.le_refl _, om9⟩
 have hin := t.inner hP (by rw [eP]; exact h0)
 rw [eP] at hin
 have hlv := t.lvl hP
 rw [eP] at hlv
 by_cases hk : (Z7 (Za l 0) l.length ((l.length : Int) + 1)).2.2.2 = true
 ·by_cases hr : c.slots.toNat - l.length < 2
  ·rw [Zba hk hr] at h; cases h
  ·rw [ZbY hk hr]
   have hc : (Zq (Za l 0) ((l.length : Int) + 1)).2.2.2 = true := by rw [← Zam _ (l.length : Int)]; exact hk
   obtain ⟨x, y, q, hh, e, hv, _⟩ := ZdL (t.seat hP).1 (y := (l.length : Int) + 1) (by rw [eP]; exact hc)
   rw [eP] at e hv
   rw [Za9 hc, e]
   obtain ⟨_, _, hh2, _, ka, _, kb, _⟩ : True ∧ True ∧ hh < (Za l 0).pivots.length ∧ True ∧ x.kids = (Za l 0).kids.take (hh + 1) ∧ True ∧ y.kids = (Za l 0).kids.drop (hh + 1) ∧ True := by
    obtain ⟨_, _, g1, _, _, g2, _, g3⟩ := hv.inner h0
    exact ⟨trivial, trivial, g1, trivial, g2, trivial, g3, trivial⟩
   have hpl := (YQ hin.2.1).2
   have hfan := hin.1.2.2
   obtain ⟨⟨f1, f2⟩, _⟩ := t.cfg
   have e0 : Za (YV l (Jj (Za l 0) q l.length ((l.length : Int) + 1)) (Yu (Za l 0) x l.length) (Yu (Za l 0) y y.slot)) 0 = Jj (Za l 0) q l.length ((l.length : Int) + 1) := by
    have := Zae (l := YV l (Jj (Za l 0) q l.length ((l.length : Int) + 1)) (Yu (Za l 0) x l.length) (Yu (Za l 0) y y.slot)) (k := 0) (by unfold YV; simp)
    refine Eq.trans this ?_
    unfold YV
    rw [List.getElem_append_left (by simp; exact hp), List.getElem_set_self]
   have ek : ∀ (j : Nat) (z : Nd), (YV l (Jj (Za l 0) q l.length ((l.length : Int) + 1)) (Yu (Za l 0) x l.length) (Yu (Za l 0) y y.slot))[l.length + j]? = some z → Za (YV l (Jj (Za l 0) q l.length ((l.length : Int) + 1)) (Yu (Za l 0) x l.length) (Yu (Za l 0) y y.slot)) ((l.length : Int) + j) = z := fun j z hz => by
    obtain ⟨g1, g2⟩ := List.getElem?_eq_some_iff.1 hz
    have := Zae g1
    rw [show (((l.length + j : Nat)) : Int) = (l.length : Int) + j by omega] at this
    rw [this]; exact g2
   have ex : Za (YV l (Jj (Za l 0) q l.length ((l.length : Int) + 1)) (Yu (Za l 0) x l.length) (Yu (Za l 0) y y.slot)) (l.length : Int) = Yu (Za l 0) x l.length := by
    have := ek 0 (Yu (Za l 0) x l.length) (by unfold YV; rw [List.getElem?_append_right (by simp)]; simp)
    simpa using this
   have ey : Za (YV l (Jj (Za l 0) q l.length ((l.length : Int) + 1)) (Yu (Za l 0) x l.length) (Yu (Za l 0) y y.slot)) ((l.length : Int) + 1) = Yu (Za l 0) y y.slot := by
    have := ek 1 (Yu (Za l 0) y y.slot) (by unfold YV; rw [List.getElem?_append_right (by simp)]; simp)
    simpa using this
   refine ⟨.inr ?_, by rw [e0]; rfl⟩
   dsimp only
   rw [e0]
   refine ⟨by show 2 ≤ (Za l 0).level + 1; omega, ?_, fun j hj => ?_⟩
   ·unfold ZK
    rw [if_neg (by show ¬ (Za l 0).level + 1 = 0; omega), decide_eq_false_iff_not]
    show ¬ c.fan ≤ ((2 : Nat) : Int)
    omega
   ·have hj2 : j < 2 := hj
    unfold Zl
    rw [e0]
    have hlx : x.level = (Za l 0).level := hv.la
    have hly : y.level = (Za l 0).level := hv.lb
    have hkx : x.kids.length = hh + 1 := by rw [ka, List.length_take]; omega
    have hky : y.kids.length = (Za l 0).kids.length - (hh + 1) := by rw [kb, List.length_drop]
    rcases (by omega : j = 0 ∨ j = 1) with rfl | rfl
    ·show ZK c (Za _ (l.length : Int)) = false
     rw [ex]
     unfold ZK Yu
     dsimp only
     rw [if_neg (by rw [hlx]; exact h0), decide_eq_false_iff_not]
     omega
    ·show ZK c (Za _ ((l.length : Int) + 1)) = false
     rw [ey]
     unfold ZK Yu
     dsimp only
     rw [if_neg (by rw [hly]; exact h0), decide_eq_false_iff_not]
     omega
 ·rw [ZdQ (by simpa using hk)] at h; cases h
theorem Zsv {c : Cfg} {k : Str} (v : Nat) : ∀ (w : Nat) {l : List Nd} {ss : List Seat} {n : Int}, Tree c l ss → (Za l 0).level.toNat = v → wtN c (Za l 0) ≤ w → 8256 ≤ w + 8256 → ∃ r, Yq c k ((v + 2) * 8300 + w + 1) l 0 n = some r := by
 intro w
 induction w using Nat.strongRecOn with
 | _ w ih =>
  intro l ss n t hv hw hx
  have ha : (0 : Int) ≤ 0 ∧ (0 : Int) < l.length := ⟨Int.le_refl _, by have := t.pos; omega⟩
  obtain ⟨T, hT, _⟩ := Zaq t ha k
  have hnx := ZaM t ha k
  have hsl := (YN t.slot ha).1
  rcases Jn c (Za l 0) k with h | h | ⟨h, h0, _⟩
  ·exact ⟨_, Y7 (by rw [Jk h])⟩
  ·obtain ⟨h0, h2, h3⟩ := ZdY h
   by_cases hl : (ZS c l).1 = 0
   ·have e := Jl h hl
    rw [Xh (by rw [e]; simp) (by rw [e]; simp)]
    rw [e] at hT hnx ⊢
    dsimp only at hT hnx ⊢
    obtain ⟨g1, g2⟩ := Zsu t h0 hl
    have hlv : 0 ≤ (Za l 0).level := by
     obtain ⟨P, hP, eP⟩ := t.seat_of ha
     rw [← eP]; exact t.lvl hP
    have hw2 := ZdX hT (a := 0) hnx (by rw [g2]; omega)
    have := ZkH (k := k) ((v + 2) * 8300 + w - 1) (n := n + 1) hT hnx g1 (by rw [g2]; omega)
    rwa [show (v + 2) * 8300 + w - 1 + 1 = (v + 2) * 8300 + w by omega] at this
   ·exact ⟨_, Y7 (by rw [Jm h hl])⟩
  ·obtain ⟨_, hi1, hi2⟩ := JU t ha h
   obtain ⟨P, s⟩ := JD t ha h0 ⟨hi1, hi2⟩
   have hst := X4 h
   have hlv : 0 < (Za l 0).level := by have := s.kof.1; exact this
   rcases XU c (Za l 0) (Zl l 0 (ZB c (Za l 0) k).2) (ZB c (Za l 0) k).2 with hd | hd | ⟨hd, hd2⟩ | hd
   ·exact ⟨_, Y7 (by rw [hst, JC hd])⟩
   ·by_cases h3 : (ZP c l 0 (ZB c (Za l 0) k).2).1 = 0
    ·have e := hst.trans (X5 hd h3)
     obtain ⟨g1, g2, g3⟩ := ZkG h0 h3 hsl
     rw [Xh (by rw [e]; simp) (by rw [e]; simp)]
     rw [e] at hT hnx ⊢
     dsimp only at hT hnx ⊢
     have := ih (w - 1) om9 (n := n + 1) hT (by rw [g2]; exact hv) om9 om9
     rwa [show (v + 2) * 8300 + (w - 1) + 1 = (v + 2) * 8300 + w by omega] at this
    ·exact ⟨_, Y7 (by rw [hst, X6 hd h3])⟩
   ·have e := hst.trans (YR hd)
    obtain ⟨x, y, e2, g1, g2, g3, g4, g5, g6, g7⟩ := ZkE t s hd2
    rw [e2] at e
    rw [Xh (by rw [e]; simp) (by rw [e]; simp)]
    rw [e] at hT hnx ⊢
    dsimp only at hT hnx ⊢
    have := ih (w - 1) om9 (n := n + 1) hT (by rw [g1, g4]; exact hv) (by rw [g1]; omega) om9
    rwa [show (v + 2) * 8300 + (w - 1) + 1 = (v + 2) * 8300 + w by omega] at this
   ·have e := hst.trans (X7 hd)
    obtain ⟨k1, k2, k3, k4⟩ := ZaN t s
    have h5 := ZdZ hd
    rw [Jo (by rw [e])]
    rw [e] at hT hnx ⊢
    dsimp only at hT hnx ⊢
    have hw := ZdX t (a := (Zl l 0 (ZB c (Za l 0) k).2).slot) k4 (by rw [k3]; omega)
    have := ZkH (k := k) ((v + 2) * 8300 + w - 1) (n := n) t k4 (.inl (by rw [k3]; exact k1)) (by rw [k3] at hw ⊢; omega)
    rwa [show (v + 2) * 8300 + w - 1 + 1 = (v + 2) * 8300 + w by omega] at this
end Go.Fw
