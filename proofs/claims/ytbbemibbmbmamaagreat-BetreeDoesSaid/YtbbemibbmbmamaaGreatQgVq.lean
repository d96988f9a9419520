/- The walk of a step that has to do with a kid. -/
import Derived.Test.YtbbemibbmbmamaaGreatQgVj
set_option maxRecDepth 100000
set_option maxHeartbeats 1600000
set_option linter.unusedVariables false
set_option linter.unusedSimpArgs false
set_option linter.unnecessarySimpa false
namespace Go.Fw
theorem gL {α : Type} (a b : List α) : a.Sublist (a ++ b) := List.sublist_append_left a b
theorem gM.{u, v} {α : Sort u} {β : Sort v} {a b : α} (f : α → β) (h : a = b) : f a = f b := congrArg f h
theorem gN {p : Prop} (h : p := by first | (simp_all; done) | (simp_all; omega) | grind) : p := h
end Go.Fw
namespace Go.Proofs.YtbbemibbmbmamaaGreat
open Go Go.Fw Go.RowKit
attribute [local irreducible] Ok W WC
theorem Zrr {G : GH} {b : Nat} {c : Cfg} {l : List Nd} {M : MH} (h : StR 60 4 3 189 139 b c G l M) (a i : Int) : Fc Tryz.prog 67 [pt9 b, iV ((Za l a).kids.getD i.toNat 0)] G M (fun v G' M' => (∃ cs, v = .tuple #[.agg (List.toArray cs), .bool (decide (0 ≤ (Za l a).kids.getD i.toNat 0 ∧ (Za l a).kids.getD i.toNat 0 < (l.length : Int)))] ∧ NodeC G' cs (Zm l a i)) ∧ M' = M) := J7 h _
theorem Zrs {G : GH} {b_s : Nat} {c c2 : Cfg} {l : List Nd} {ss : List Seat} {gQ : MH} (h_s : StR 60 4 3 189 139 b_s c G l gQ) (t : Tree c2 l ss) {a : Int} {cs_n : List Value} (h_n : NodeC G cs_n (Za l a)) (i : Int) (hc9 : c = c2) (ha : 0 ≤ a ∧ a < (l.length : Int)) (h0 : ¬ (Za l a).level = 0) (hi : 0 ≤ i ∧ i < ((Za l a).kids.length : Int)) (hi9 : i64 i) :
    Fc Tryz.prog 152 [pt9 b_s, .agg (List.toArray cs_n), iV i] G gQ (fun v G' M' => v = .tuple #[iV (Xn c l a i).1.1, iV (Xn c l a i).1.2.1, iV (Xn c l a i).1.2.2] ∧ StR 60 4 3 189 139 b_s c G' (Xn c l a i).2 M') := by
 obtain ⟨_, _, _, _, _, _, _, _, rfl, hp_n, hk_n, hm_n, hr_n, hok_n⟩ := h_n
 subst hc9
 obtain ⟨P, s⟩ := J8 t ha h0 hi
 have hPR := (t.seat s.mem).1
 have hKm := (t.at s.mem s.h0 (j := i.toNat) (by have := s.hi; omega)).1
 have hKR := (t.seat hKm).1
 rw [s.n] at hPR
 rw [s.kid] at hKR
 have hsl : (Za l a).slot = a := (YQ t.slot ha).1
 have hPS := t.sml.2 _ (YQ t.slot ha).2
 have hKS := t.sml.2 _ (YQ t.slot s.kin).2
 have hPD : NdS (Za l a) := Zba t.cfg hPR
 have hKD : NdS (Zm l a i) := Zba t.cfg hKR
 have hcb9 : c.bud ≤ 9223372036854775807 := by have := t.cfg.2.2.1.2; omega
 have hq : PourPre c.bud (Za l a) (Zm l a i) := Zra hPR hKR h0 hPD hKD hcb9
 have hin9 : (Za l a).innerR c.fan c.bud := by have h4 := hPR.2.2.2; rwa [if_neg h0] at h4
 have hms := hin9.2.2.1
 have hkl := (Y3 hin9.2.1).2
 have hi91 := hi9.1
 have hi92 := hi9.2
 have hlk9 : ((Za l a).kids.length : Int) ≤ 4000 := by have := hPD.1; omega
 have hkd : (Za l a).kids[i.toNat]'om9 = ((Za l a).kids.getD i.toNat 0) := by rw [List.getD_eq_getElem?_getD, List.getElem?_eq_getElem om9]; rfl
 refine Fc.go [.tmp 6, .tmp 7, .tmp 8] Tryz.func152 Tryz.ntmps152 rfl (fun w0 => (WC.perm (M' := (gQ ++ [])) (by simp) (g9 2 ?_)))
 refine W.box (L := [iV _, iV _, lV _ _ _, lV _ _ _, sV _, .bool _, iV _, iV _, lV _ _ _, lV _ _ _]) rfl rfl (fun b1 => (g9 15 ?_))
 refine WC.cd (fun h19 p19 => ?_) (fun h19 p19 => ?_)
 ·try dsimp only at p19
  exfalso; omega
 try dsimp only at p19
 refine g9 8 ?_
 refine hk_n.a2 (i := i.toNat) om9 (fun he2 hi3 => (W.ok (ZX (i := i.toNat) ZV ty3 hk_n rfl rfl ⟨om9, om9⟩) (g9 1 ?_)))
 refine W.call (Mp := gQ) (Zrr h_s a i) (gM (fun k : Int => [_, Value.int .i64 k]) hkd) (pmC pr9) ?_
 intro v9 G6 Ms8 hG6 q7
 refine match q7 with | ⟨⟨_, e_11, ⟨_, _, _, _, _, _, _, _, e_12, hp_10, hk_10, hm_10, hr_10, hok_10⟩⟩, eeq7⟩ => ?_
 subst e_11
 subst e_12
 have eeq7 := eeq7.symm
 subst eeq7
 refine W.perm (pmC pr9).symm (g9 3 ?_)
 refine W.alloc Zn (fun b13 => (g9 11 ?_))
 refine WC.cn (fun h33 p33 => ?_) (fun h33 p33 => ?_)
 ·try dsimp only at p33
  exact absurd s.kin p33
 try dsimp only at p33
 refine g9 3 ?_
 refine WC.dw (sn9.k9.k9) (d9 [0, 2, 3, 4] ?_)
 refine WD.a1 1 rfl (W.call (Mp := gQ) (Jv (StR.mono hG6 h_s)) rfl (pmC (pmC pr9)) ?_)
 intro v17 G14 Ms16 hG14 q15
 refine match q15 with | ⟨e_19, eeq15⟩ => ?_
 subst e_19
 have eeq15 := eeq15.symm
 subst eeq15
 refine W.perm (pmC (pmC pr9)).symm (W.nn (WD.a1 5 rfl (W.qcall (ZpO c.fan c.leaf c.bud c.slots c.rest (p := (Za l a)) (k := (Zm l a i)) (nm9 lec hp_n hk_n hm_n hr_n hok_n) (nm9 hG14 hp_10 hk_10 hm_10 hr_10 hok_10) i hq hi9 s.kof hms hkl) rfl (W.nn (d9 [6] ?_)))))
 refine g9 15 ?_
 refine WC.cd (fun h44 p44 => ?_) (fun h44 p44 => ?_)
 ·try dsimp only at p44
  refine g9 6 ?_
  refine W.call (Mp := gQ) (Zro (StR.mono lec h_s) t a i hi9) (gM (fun k : Int => [_, Value.int .i64 k, _]) hsl) (pmC (pmC pr9)) ?_
  intro v23 G20 Ms22 hG20 q21
  refine match q21 with | ⟨e_25, hR24⟩ => ?_
  subst e_25
  refine W.perm (pmC (pmC pr9)).symm (g9 9 ?_)
  refine WC.cn (fun h51 p51 => ?_) (fun h51 p51 => ?_)
  ·try dsimp only at p51
   refine g9 13 ?_
   refine ⟨.inr rfl, [_, _, _], ⟨rfl, rfl, rfl, trivial⟩, Ms22, ((gL _ _).cons _).cons _, ?_⟩
   have hE := Jz p44 p51
   exact ⟨Xo hE rfl hsl rfl, StR.to hR24 (gM Prod.snd hE).symm⟩
  try dsimp only at p51
  refine g9 14 ?_
  refine ⟨.inr rfl, [_, _, _], ⟨rfl, rfl, rfl, trivial⟩, Ms22, ((gL _ _).cons _).cons _, ?_⟩
  have hE := Jy p44 om9
  exact ⟨Xo hE p44 hsl rfl, StR.to hR24 (gM Prod.snd hE).symm⟩
 try dsimp only at p44
 refine g9 6 ?_
 refine WC.cd (fun h56 p56 => ?_) (fun h56 p56 => ?_)
 ·try dsimp only at p56
  have p56c : Z9 c (Za l a) (Zm l a i) i = 4 := p56
  have hcp : 0 < ZY c.leaf c.bud (Za l a) (Zm l a i) i := by rcases Jh c (Za l a) (Zm l a i) i with h9 | h9 | ⟨_, h9⟩ | h9; omega; omega; exact h9; omega
  have hpq9 := s.pour t hcp
  obtain ⟨T9, hpo⟩ := hpq9
  have hsA : 0 ≤ (Z8 c.leaf c.bud (Za l a) (Zm l a i) i).1.slot ∧ (Z8 c.leaf c.bud (Za l a) (Zm l a i) i).1.slot < (l.length : Int) := by rw [hpo.al.1]; exact hpo.sin hpo.mem
  have hsB : 0 ≤ (Z8 c.leaf c.bud (Za l a) (Zm l a i) i).2.1.slot ∧ (Z8 c.leaf c.bud (Za l a) (Zm l a i) i).2.1.slot < (l.length : Int) := by rw [hpo.bl.1]; exact hpo.sin hpo.km.1
  refine WC.seq (WC.dw (sn9.k9.k9) (d9 [0, 2, 3, 4] ?_))
  refine WD.any [1, 10, 11] (by kernel_rfl) rfl ⟨WD.ap ?_, WD.ap ?_, WD.ap ?_, trivial⟩
  ·refine W.call (Mp := gQ) (Jv (StR.mono lec h_s)) rfl (pmC (pmC pr9)) ?_
   intro v29 G26 Ms28 hG26 q27
   refine match q27 with | ⟨e_31, eeq27⟩ => ?_
   subst e_31
   have eeq27 := eeq27.symm
   subst eeq27
   refine W.perm (pmC (pmC pr9)).symm (W.nn ?_)
   refine WD.any [5, 10, 11] (by kernel_rfl) rfl ⟨WD.ap ?_, WD.ap ?_, WD.ap ?_, trivial⟩
   ·refine W.cM (JQ c.fan c.leaf c.bud c.slots c.rest (p := (Za l a)) (k := (Zm l a i)) (nm9 lec hp_n hk_n hm_n hr_n hok_n) (nm9 lec hp_10 hk_10 hm_10 hr_10 hok_10) i hq.hb hq.hr hq.hpv hq.hpm hq.hkm hq.hkr hi9 hq.hsz) rfl (fun _ _ _ _ _ _ _ _ _ _ _ _ _ _ _ _ G32 hG32 hp_v33 hk_v33 hm_v33 hr_v33 hok_v33 hp_v34 hk_v34 hm_v34 hr_v34 hok_v34 => (W.nn (d9 [6, 7, 8, 9] ?_)))
    refine WD.any [10, 11] (by kernel_rfl) rfl ⟨WD.ap ?_, WD.ap ?_, trivial⟩
    ·refine W.alloc Zn (fun b41 => (W.nn (WD.a1 11 rfl (W.alloc Zn (fun b42 => (W.nn (d9 [12, 13, 14] ?_)))))))
     refine g9 6 ?_
     refine W.call (Mp := gQ) (Yz (StR.mono lec h_s) (by exact hsA) (nk9 hp_v33 hk_v33 hm_v33 hr_v33 hok_v33)) rfl (pmC (pmC (pmC (pmC pr9)))) ?_
     intro v46 G43 Ms45 hG43 q44
     refine match q44 with | ⟨e_48, hR47⟩ => ?_
     subst e_48
     refine W.perm (pmC (pmC (pmC (pmC pr9)))).symm (g9 5 ?_)
     refine W.call (Mp := Ms45) (Yz hR47 (by rw [List.length_set]; exact hsB) (nm9 hG43 hp_v34 hk_v34 hm_v34 hr_v34 hok_v34)) rfl (pmC (pmC (pmC (pmC pr9)))) ?_
     intro v52 G49 Ms51 hG49 q50
     refine match q50 with | ⟨e_54, hR53⟩ => ?_
     subst e_54
     refine W.perm (pmC (pmC (pmC (pmC pr9)))).symm (g9 14 ?_)
     refine ⟨.inr rfl, [_, _, _], ⟨rfl, rfl, rfl, trivial⟩, Ms51, ((((gL _ _).cons _).cons _).cons _).cons _, ?_⟩
     have hE := Y1 p56
     exact ⟨Xo hE p56 hsl rfl, StR.to hR53 (gM Prod.snd hE).symm⟩
    refine W.alloc Zn (fun b55 => (W.nn (WD.a1 10 rfl (W.alloc Zn (fun b56 => (W.nn (d9 [12, 13, 14] ?_)))))))
    refine g9 6 ?_
    refine W.call (Mp := gQ) (Yz (StR.mono lec h_s) (by exact hsA) (nk9 hp_v33 hk_v33 hm_v33 hr_v33 hok_v33)) rfl (pmC (pmC (pmC (pmC pr9)))) ?_
    intro v60 G57 Ms59 hG57 q58
    refine match q58 with | ⟨e_62, hR61⟩ => ?_
    subst e_62
    refine W.perm (pmC (pmC (pmC (pmC pr9)))).symm (g9 5 ?_)
    refine W.call (Mp := Ms59) (Yz hR61 (by rw [List.length_set]; exact hsB) (nm9 hG57 hp_v34 hk_v34 hm_v34 hr_v34 hok_v34)) rfl (pmC (pmC (pmC (pmC pr9)))) ?_
    intro v66 G63 Ms65 hG63 q64
    refine match q64 with | ⟨e_68, hR67⟩ => ?_
    subst e_68
    refine W.perm (pmC (pmC (pmC (pmC pr9)))).symm (g9 14 ?_)
    refine ⟨.inr rfl, [_, _, _], ⟨rfl, rfl, rfl, trivial⟩, Ms65, ((((gL _ _).cons _).cons _).cons _).cons _, ?_⟩
    have hE := Y1 p56
    exact ⟨Xo hE p56 hsl rfl, StR.to hR67 (gM Prod.snd hE).symm⟩
   ·refine W.alloc Zn (fun b69 => (W.nn ?_))
    refine WD.any [5, 11] (by kernel_rfl) rfl ⟨WD.ap ?_, WD.ap ?_, trivial⟩
    ·refine W.cM (JQ c.fan c.leaf c.bud c.slots c.rest (p := (Za l a)) (k := (Zm l a i)) (nm9 lec hp_n hk_n hm_n hr_n hok_n) (nm9 lec hp_10 hk_10 hm_10 hr_10 hok_10) i hq.hb hq.hr hq.hpv hq.hpm hq.hkm hq.hkr hi9 hq.hsz) rfl (fun _ _ _ _ _ _ _ _ _ _ _ _ _ _ _ _ G70 hG70 hp_v71 hk_v71 hm_v71 hr_v71 hok_v71 hp_v72 hk_v72 hm_v72 hr_v72 hok_v72 => (W.nn (d9 [6, 7, 8, 9] ?_)))
     refine WD.a1 11 rfl (W.alloc Zn (fun b79 => (W.nn (d9 [12, 13, 14] ?_))))
     refine g9 6 ?_
     refine W.call (Mp := gQ) (Yz (StR.mono lec h_s) (by exact hsA) (nk9 hp_v71 hk_v71 hm_v71 hr_v71 hok_v71)) rfl (pmC (pmC (pmC (pmC pr9)))) ?_
     intro v83 G80 Ms82 hG80 q81
     refine match q81 with | ⟨e_85, hR84⟩ => ?_
     subst e_85
     refine W.perm (pmC (pmC (pmC (pmC pr9)))).symm (g9 5 ?_)
     refine W.call (Mp := Ms82) (Yz hR84 (by rw [List.length_set]; exact hsB) (nm9 hG80 hp_v72 hk_v72 hm_v72 hr_v72 hok_v72)) rfl (pmC (pmC (pmC (pmC pr9)))) ?_
     intro v89 G86 Ms88 hG86 q87
     refine match q87 with | ⟨e_91, hR90⟩ => ?_
     subst e_91
     refine W.perm (pmC (pmC (pmC (pmC pr9)))).symm (g9 14 ?_)
     refine ⟨.inr rfl, [_, _, _], ⟨rfl, rfl, rfl, trivial⟩, Ms88, ((((gL _ _).cons _).cons _).cons _).cons _, ?_⟩
     have hE := Y1 p56
     exact ⟨Xo hE p56 hsl rfl, StR.to hR90 (gM Prod.snd hE).symm⟩
    refine W.alloc Zn (fun b92 => (W.nn (WD.a1 5 rfl (W.cM (JQ c.fan c.leaf c.bud c.slots c.rest (p := (Za l a)) (k := (Zm l a i)) (nm9 lec hp_n hk_n hm_n hr_n hok_n) (nm9 lec hp_10 hk_10 hm_10 hr_10 hok_10) i hq.hb hq.hr hq.hpv hq.hpm hq.hkm hq.hkr hi9 hq.hsz) rfl (fun _ _ _ _ _ _ _ _ _ _ _ _ _ _ _ _ G93 hG93 hp_v94 hk_v94 hm_v94 hr_v94 hok_v94 hp_v95 hk_v95 hm_v95 hr_v95 hok_v95 => (W.nn (d9 [6, 7, 8, 9, 12, 13, 14] ?_)))))))
    refine g9 6 ?_
    refine W.call (Mp := gQ) (Yz (StR.mono lec h_s) (by exact hsA) (nk9 hp_v94 hk_v94 hm_v94 hr_v94 hok_v94)) rfl (pmC (pmC (pmC (pmC pr9)))) ?_
    intro v105 G102 Ms104 hG102 q103
    refine match q103 with | ⟨e_107, hR106⟩ => ?_
    subst e_107
    refine W.perm (pmC (pmC (pmC (pmC pr9)))).symm (g9 5 ?_)
    refine W.call (Mp := Ms104) (Yz hR106 (by rw [List.length_set]; exact hsB) (nm9 hG102 hp_v95 hk_v95 hm_v95 hr_v95 hok_v95)) rfl (pmC (pmC (pmC (pmC pr9)))) ?_
    intro v111 G108 Ms110 hG108 q109
    refine match q109 with | ⟨e_113, hR112⟩ => ?_
    subst e_113
    refine W.perm (pmC (pmC (pmC (pmC pr9)))).symm (g9 14 ?_)
    refine ⟨.inr rfl, [_, _, _], ⟨rfl, rfl, rfl, trivial⟩, Ms110, ((((gL _ _).cons _).cons _).cons _).cons _, ?_⟩
    have hE := Y1 p56
    exact ⟨Xo hE p56 hsl rfl, StR.to hR112 (gM Prod.snd hE).symm⟩
   refine W.alloc Zn (fun b114 => (W.nn ?_))
   refine WD.any [5, 10] (by kernel_rfl) rfl ⟨WD.ap ?_, WD.ap ?_, trivial⟩
   ·refine W.cM (JQ c.fan c.leaf c.bud c.slots c.rest (p := (Za l a)) (k := (Zm l a i)) (nm9 lec hp_n hk_n hm_n hr_n hok_n) (nm9 lec hp_10 hk_10 hm_10 hr_10 hok_10) i hq.hb hq.hr hq.hpv hq.hpm hq.hkm hq.hkr hi9 hq.hsz) rfl (fun _ _ _ _ _ _ _ _ _ _ _ _ _ _ _ _ G115 hG115 hp_v116 hk_v116 hm_v116 hr_v116 hok_v116 hp_v117 hk_v117 hm_v117 hr_v117 hok_v117 => (W.nn (d9 [6, 7, 8, 9] ?_)))
    refine WD.a1 10 rfl (W.alloc Zn (fun b124 => (W.nn (d9 [12, 13, 14] ?_))))
    refine g9 6 ?_
    refine W.call (Mp := gQ) (Yz (StR.mono lec h_s) (by exact hsA) (nk9 hp_v116 hk_v116 hm_v116 hr_v116 hok_v116)) rfl (pmC (pmC (pmC (pmC pr9)))) ?_
    intro v128 G125 Ms127 hG125 q126
    refine match q126 with | ⟨e_130, hR129⟩ => ?_
    subst e_130
    refine W.perm (pmC (pmC (pmC (pmC pr9)))).symm (g9 5 ?_)
    refine W.call (Mp := Ms127) (Yz hR129 (by rw [List.length_set]; exact hsB) (nm9 hG125 hp_v117 hk_v117 hm_v117 hr_v117 hok_v117)) rfl (pmC (pmC (pmC (pmC pr9)))) ?_
    intro v134 G131 Ms133 hG131 q132
    refine match q132 with | ⟨e_136, hR135⟩ => ?_
    subst e_136
    refine W.perm (pmC (pmC (pmC (pmC pr9)))).symm (g9 14 ?_)
    refine ⟨.inr rfl, [_, _, _], ⟨rfl, rfl, rfl, trivial⟩, Ms133, ((((gL _ _).cons _).cons _).cons _).cons _, ?_⟩
    have hE := Y1 p56
    exact ⟨Xo hE p56 hsl rfl, StR.to hR135 (gM Prod.snd hE).symm⟩
   refine W.alloc Zn (fun b137 => (W.nn (WD.a1 5 rfl (W.cM (JQ c.fan c.leaf c.bud c.slots c.rest (p := (Za l a)) (k := (Zm l a i)) (nm9 lec hp_n hk_n hm_n hr_n hok_n) (nm9 lec hp_10 hk_10 hm_10 hr_10 hok_10) i hq.hb hq.hr hq.hpv hq.hpm hq.hkm hq.hkr hi9 hq.hsz) rfl (fun _ _ _ _ _ _ _ _ _ _ _ _ _ _ _ _ G138 hG138 hp_v139 hk_v139 hm_v139 hr_v139 hok_v139 hp_v140 hk_v140 hm_v140 hr_v140 hok_v140 => (W.nn (d9 [6, 7, 8, 9, 12, 13, 14] ?_)))))))
   refine g9 6 ?_
   refine W.call (Mp := gQ) (Yz (StR.mono lec h_s) (by exact hsA) (nk9 hp_v139 hk_v139 hm_v139 hr_v139 hok_v139)) rfl (pmC (pmC (pmC (pmC pr9)))) ?_
   intro v150 G147 Ms149 hG147 q148
   refine match q148 with | ⟨e_152, hR151⟩ => ?_
   subst e_152
   refine W.perm (pmC (pmC (pmC (pmC pr9)))).symm (g9 5 ?_)
   refine W.call (Mp := Ms149) (Yz hR151 (by rw [List.length_set]; exact hsB) (nm9 hG147 hp_v140 hk_v140 hm_v140 hr_v140 hok_v140)) rfl (pmC (pmC (pmC (pmC pr9)))) ?_
   intro v156 G153 Ms155 hG153 q154
   refine match q154 with | ⟨e_158, hR157⟩ => ?_
   subst e_158
   refine W.perm (pmC (pmC (pmC (pmC pr9)))).symm (g9 14 ?_)
   refine ⟨.inr rfl, [_, _, _], ⟨rfl, rfl, rfl, trivial⟩, Ms155, ((((gL _ _).cons _).cons _).cons _).cons _, ?_⟩
   have hE := Y1 p56
   exact ⟨Xo hE p56 hsl rfl, StR.to hR157 (gM Prod.snd hE).symm⟩
  ·refine W.alloc Zn (fun b159 => (W.nn ?_))
   refine WD.any [1, 11] (by kernel_rfl) rfl ⟨WD.ap ?_, WD.ap ?_, trivial⟩
   ·refine W.call (Mp := gQ) (Jv (StR.mono lec h_s)) rfl (pmC (pmC (pmC pr9))) ?_
    intro v163 G160 Ms162 hG160 q161
    refine match q161 with | ⟨e_165, eeq161⟩ => ?_
    subst e_165
    have eeq161 := eeq161.symm
    subst eeq161
    refine W.perm (pmC (pmC (pmC pr9))).symm (W.nn ?_)
    refine WD.any [5, 11] (by kernel_rfl) rfl ⟨WD.ap ?_, WD.ap ?_, trivial⟩
    ·refine W.cM (JQ c.fan c.leaf c.bud c.slots c.rest (p := (Za l a)) (k := (Zm l a i)) (nm9 lec hp_n hk_n hm_n hr_n hok_n) (nm9 lec hp_10 hk_10 hm_10 hr_10 hok_10) i hq.hb hq.hr hq.hpv hq.hpm hq.hkm hq.hkr hi9 hq.hsz) rfl (fun _ _ _ _ _ _ _ _ _ _ _ _ _ _ _ _ G166 hG166 hp_v167 hk_v167 hm_v167 hr_v167 hok_v167 hp_v168 hk_v168 hm_v168 hr_v168 hok_v168 => (W.nn (d9 [6, 7, 8, 9] ?_)))
     refine WD.a1 11 rfl (W.alloc Zn (fun b175 => (W.nn (d9 [12, 13, 14] ?_))))
     refine g9 6 ?_
     refine W.call (Mp := gQ) (Yz (StR.mono lec h_s) (by exact hsA) (nk9 hp_v167 hk_v167 hm_v167 hr_v167 hok_v167)) rfl (pmC (pmC (pmC (pmC pr9)))) ?_
     intro v179 G176 Ms178 hG176 q177
     refine match q177 with | ⟨e_181, hR180⟩ => ?_
     subst e_181
     refine W.perm (pmC (pmC (pmC (pmC pr9)))).symm (g9 5 ?_)
     refine W.call (Mp := Ms178) (Yz hR180 (by rw [List.length_set]; exact hsB) (nm9 hG176 hp_v168 hk_v168 hm_v168 hr_v168 hok_v168)) rfl (pmC (pmC (pmC (pmC pr9)))) ?_
     intro v185 G182 Ms184 hG182 q183
     refine match q183 with | ⟨e_187, hR186⟩ => ?_
     subst e_187
     refine W.perm (pmC (pmC (pmC (pmC pr9)))).symm (g9 14 ?_)
     refine ⟨.inr rfl, [_, _, _], ⟨rfl, rfl, rfl, trivial⟩, Ms184, ((((gL _ _).cons _).cons _).cons _).cons _, ?_⟩
     have hE := Y1 p56
     exact ⟨Xo hE p56 hsl rfl, StR.to hR186 (gM Prod.snd hE).symm⟩
    refine W.alloc Zn (fun b188 => (W.nn (WD.a1 5 rfl (W.cM (JQ c.fan c.leaf c.bud c.slots c.rest (p := (Za l a)) (k := (Zm l a i)) (nm9 lec hp_n hk_n hm_n hr_n hok_n) (nm9 lec hp_10 hk_10 hm_10 hr_10 hok_10) i hq.hb hq.hr hq.hpv hq.hpm hq.hkm hq.hkr hi9 hq.hsz) rfl (fun _ _ _ _ _ _ _ _ _ _ _ _ _ _ _ _ G189 hG189 hp_v190 hk_v190 hm_v190 hr_v190 hok_v190 hp_v191 hk_v191 hm_v191 hr_v191 hok_v191 => (W.nn (d9 [6, 7, 8, 9, 12, 13, 14] ?_)))))))
    refine g9 6 ?_
    refine W.call (Mp := gQ) (Yz (StR.mono lec h_s) (by exact hsA) (nk9 hp_v190 hk_v190 hm_v190 hr_v190 hok_v190)) rfl (pmC (pmC (pmC (pmC pr9)))) ?_
    intro v201 G198 Ms200 hG198 q199
    refine match q199 with | ⟨e_203, hR202⟩ => ?_
    subst e_203
    refine W.perm (pmC (pmC (pmC (pmC pr9)))).symm (g9 5 ?_)
    refine W.call (Mp := Ms200) (Yz hR202 (by rw [List.length_set]; exact hsB) (nm9 hG198 hp_v191 hk_v191 hm_v191 hr_v191 hok_v191)) rfl (pmC (pmC (pmC (pmC pr9)))) ?_
    intro v207 G204 Ms206 hG204 q205
    refine match q205 with | ⟨e_209, hR208⟩ => ?_
    subst e_209
    refine W.perm (pmC (pmC (pmC (pmC pr9)))).symm (g9 14 ?_)
    refine ⟨.inr rfl, [_, _, _], ⟨rfl, rfl, rfl, trivial⟩, Ms206, ((((gL _ _).cons _).cons _).cons _).cons _, ?_⟩
    have hE := Y1 p56
    exact ⟨Xo hE p56 hsl rfl, StR.to hR208 (gM Prod.snd hE).symm⟩
   refine W.alloc Zn (fun b210 => (W.nn (WD.a1 1 rfl (W.call (Mp := gQ) (Jv (StR.mono lec h_s)) rfl (pmC (pmC (pmC (pmC pr9)))) ?_))))
   intro v214 G211 Ms213 hG211 q212
   refine match q212 with | ⟨e_216, eeq212⟩ => ?_
   subst e_216
   have eeq212 := eeq212.symm
   subst eeq212
   refine W.perm (pmC (pmC (pmC (pmC pr9)))).symm (W.nn (WD.a1 5 rfl (W.cM (JQ c.fan c.leaf c.bud c.slots c.rest (p := (Za l a)) (k := (Zm l a i)) (nm9 lec hp_n hk_n hm_n hr_n hok_n) (nm9 lec hp_10 hk_10 hm_10 hr_10 hok_10) i hq.hb hq.hr hq.hpv hq.hpm hq.hkm hq.hkr hi9 hq.hsz) rfl (fun _ _ _ _ _ _ _ _ _ _ _ _ _ _ _ _ G217 hG217 hp_v218 hk_v218 hm_v218 hr_v218 hok_v218 hp_v219 hk_v219 hm_v219 hr_v219 hok_v219 => (W.nn (d9 [6, 7, 8, 9, 12, 13, 14] ?_))))))
   refine g9 6 ?_
   refine W.call (Mp := gQ) (Yz (StR.mono lec h_s) (by exact hsA) (nk9 hp_v218 hk_v218 hm_v218 hr_v218 hok_v218)) rfl (pmC (pmC (pmC (pmC pr9)))) ?_
   intro v229 G226 Ms228 hG226 q227
   refine match q227 with | ⟨e_231, hR230⟩ => ?_
   subst e_231
   refine W.perm (pmC (pmC (pmC (pmC pr9)))).symm (g9 5 ?_)
   refine W.call (Mp := Ms228) (Yz hR230 (by rw [List.length_set]; exact hsB) (nm9 hG226 hp_v219 hk_v219 hm_v219 hr_v219 hok_v219)) rfl (pmC (pmC (pmC (pmC pr9)))) ?_
   intro v235 G232 Ms234 hG232 q233
   refine match q233 with | ⟨e_237, hR236⟩ => ?_
   subst e_237
   refine W.perm (pmC (pmC (pmC (pmC pr9)))).symm (g9 14 ?_)
   refine ⟨.inr rfl, [_, _, _], ⟨rfl, rfl, rfl, trivial⟩, Ms234, ((((gL _ _).cons _).cons _).cons _).cons _, ?_⟩
   have hE := Y1 p56
   exact ⟨Xo hE p56 hsl rfl, StR.to hR236 (gM Prod.snd hE).symm⟩
  refine W.alloc Zn (fun b238 => (W.nn ?_))
  refine WD.any [1, 10] (by kernel_rfl) rfl ⟨WD.ap ?_, WD.ap ?_, trivial⟩
  ·refine W.call (Mp := gQ) (Jv (StR.mono lec h_s)) rfl (pmC (pmC (pmC pr9))) ?_
   intro v242 G239 Ms241 hG239 q240
   refine match q240 with | ⟨e_244, eeq240⟩ => ?_
   subst e_244
   have eeq240 := eeq240.symm
   subst eeq240
   refine W.perm (pmC (pmC (pmC pr9))).symm (W.nn ?_)
   refine WD.any [5, 10] (by kernel_rfl) rfl ⟨WD.ap ?_, WD.ap ?_, trivial⟩
   ·refine W.cM (JQ c.fan c.leaf c.bud c.slots c.rest (p := (Za l a)) (k := (Zm l a i)) (nm9 lec hp_n hk_n hm_n hr_n hok_n) (nm9 lec hp_10 hk_10 hm_10 hr_10 hok_10) i hq.hb hq.hr hq.hpv hq.hpm hq.hkm hq.hkr hi9 hq.hsz) rfl (fun _ _ _ _ _ _ _ _ _ _ _ _ _ _ _ _ G245 hG245 hp_v246 hk_v246 hm_v246 hr_v246 hok_v246 hp_v247 hk_v247 hm_v247 hr_v247 hok_v247 => (W.nn (d9 [6, 7, 8, 9] ?_)))
    refine WD.a1 10 rfl (W.alloc Zn (fun b254 => (W.nn (d9 [12, 13, 14] ?_))))
    refine g9 6 ?_
    refine W.call (Mp := gQ) (Yz (StR.mono lec h_s) (by exact hsA) (nk9 hp_v246 hk_v246 hm_v246 hr_v246 hok_v246)) rfl (pmC (pmC (pmC (pmC pr9)))) ?_
    intro v258 G255 Ms257 hG255 q256
    refine match q256 with | ⟨e_260, hR259⟩ => ?_
    subst e_260
    refine W.perm (pmC (pmC (pmC (pmC pr9)))).symm (g9 5 ?_)
    refine W.call (Mp := Ms257) (Yz hR259 (by rw [List.length_set]; exact hsB) (nm9 hG255 hp_v247 hk_v247 hm_v247 hr_v247 hok_v247)) rfl (pmC (pmC (pmC (pmC pr9)))) ?_
    intro v264 G261 Ms263 hG261 q262
    refine match q262 with | ⟨e_266, hR265⟩ => ?_
    subst e_266
    refine W.perm (pmC (pmC (pmC (pmC pr9)))).symm (g9 14 ?_)
    refine ⟨.inr rfl, [_, _, _], ⟨rfl, rfl, rfl, trivial⟩, Ms263, ((((gL _ _).cons _).cons _).cons _).cons _, ?_⟩
    have hE := Y1 p56
    exact ⟨Xo hE p56 hsl rfl, StR.to hR265 (gM Prod.snd hE).symm⟩
   refine W.alloc Zn (fun b267 => (W.nn (WD.a1 5 rfl (W.cM (JQ c.fan c.leaf c.bud c.slots c.rest (p := (Za l a)) (k := (Zm l a i)) (nm9 lec hp_n hk_n hm_n hr_n hok_n) (nm9 lec hp_10 hk_10 hm_10 hr_10 hok_10) i hq.hb hq.hr hq.hpv hq.hpm hq.hkm hq.hkr hi9 hq.hsz) rfl (fun _ _ _ _ _ _ _ _ _ _ _ _ _ _ _ _ G268 hG268 hp_v269 hk_v269 hm_v269 hr_v269 hok_v269 hp_v270 hk_v270 hm_v270 hr_v270 hok_v270 => (W.nn (d9 [6, 7, 8, 9, 12, 13, 14] ?_)))))))
   refine g9 6 ?_
   refine W.call (Mp := gQ) (Yz (StR.mono lec h_s) (by exact hsA) (nk9 hp_v269 hk_v269 hm_v269 hr_v269 hok_v269)) rfl (pmC (pmC (pmC (pmC pr9)))) ?_
   intro v280 G277 Ms279 hG277 q278
   refine match q278 with | ⟨e_282, hR281⟩ => ?_
   subst e_282
   refine W.perm (pmC (pmC (pmC (pmC pr9)))).symm (g9 5 ?_)
   refine W.call (Mp := Ms279) (Yz hR281 (by rw [List.length_set]; exact hsB) (nm9 hG277 hp_v270 hk_v270 hm_v270 hr_v270 hok_v270)) rfl (pmC (pmC (pmC (pmC pr9)))) ?_
   intro v286 G283 Ms285 hG283 q284
   refine match q284 with | ⟨e_288, hR287⟩ => ?_
   subst e_288
   refine W.perm (pmC (pmC (pmC (pmC pr9)))).symm (g9 14 ?_)
   refine ⟨.inr rfl, [_, _, _], ⟨rfl, rfl, rfl, trivial⟩, Ms285, ((((gL _ _).cons _).cons _).cons _).cons _, ?_⟩
   have hE := Y1 p56
   exact ⟨Xo hE p56 hsl rfl, StR.to hR287 (gM Prod.snd hE).symm⟩
  refine W.alloc Zn (fun b289 => (W.nn (WD.a1 1 rfl (W.call (Mp := gQ) (Jv (StR.mono lec h_s)) rfl (pmC (pmC (pmC (pmC pr9)))) ?_))))
  intro v293 G290 Ms292 hG290 q291
  refine match q291 with | ⟨e_295, eeq291⟩ => ?_
  subst e_295
  have eeq291 := eeq291.symm
  subst eeq291
  refine W.perm (pmC (pmC (pmC (pmC pr9)))).symm (W.nn (WD.a1 5 rfl (W.cM (JQ c.fan c.leaf c.bud c.slots c.rest (p := (Za l a)) (k := (Zm l a i)) (nm9 lec hp_n hk_n hm_n hr_n hok_n) (nm9 lec hp_10 hk_10 hm_10 hr_10 hok_10) i hq.hb hq.hr hq.hpv hq.hpm hq.hkm hq.hkr hi9 hq.hsz) rfl (fun _ _ _ _ _ _ _ _ _ _ _ _ _ _ _ _ G296 hG296 hp_v297 hk_v297 hm_v297 hr_v297 hok_v297 hp_v298 hk_v298 hm_v298 hr_v298 hok_v298 => (W.nn (d9 [6, 7, 8, 9, 12, 13, 14] ?_))))))
  refine g9 6 ?_
  refine W.call (Mp := gQ) (Yz (StR.mono lec h_s) (by exact hsA) (nk9 hp_v297 hk_v297 hm_v297 hr_v297 hok_v297)) rfl (pmC (pmC (pmC (pmC pr9)))) ?_
  intro v308 G305 Ms307 hG305 q306
  refine match q306 with | ⟨e_310, hR309⟩ => ?_
  subst e_310
  refine W.perm (pmC (pmC (pmC (pmC pr9)))).symm (g9 5 ?_)
  refine W.call (Mp := Ms307) (Yz hR309 (by rw [List.length_set]; exact hsB) (nm9 hG305 hp_v298 hk_v298 hm_v298 hr_v298 hok_v298)) rfl (pmC (pmC (pmC (pmC pr9)))) ?_
  intro v314 G311 Ms313 hG311 q312
  refine match q312 with | ⟨e_316, hR315⟩ => ?_
  subst e_316
  refine W.perm (pmC (pmC (pmC (pmC pr9)))).symm (g9 14 ?_)
  refine ⟨.inr rfl, [_, _, _], ⟨rfl, rfl, rfl, trivial⟩, Ms313, ((((gL _ _).cons _).cons _).cons _).cons _, ?_⟩
  have hE := Y1 p56
  exact ⟨Xo hE p56 hsl rfl, StR.to hR315 (gM Prod.snd hE).symm⟩
 try dsimp only at p56
 refine g9 6 ?_
 refine WC.cd (fun h74 p74 => ?_) (fun h74 p74 => ?_)
 ·try dsimp only at p74
  refine g9 13 ?_
  refine ⟨.inr rfl, [_, _, _], ⟨rfl, rfl, rfl, trivial⟩, gQ, ((gL _ _).cons _).cons _, ?_⟩
  have hE := JA p74
  exact ⟨Xo hE p74 rfl rfl, StR.to (StR.mono lec h_s) (gM Prod.snd hE).symm⟩
 try dsimp only at p74
 refine g9 14 ?_
 refine ⟨.inr rfl, [_, _, _], ⟨rfl, rfl, rfl, trivial⟩, gQ, ((gL _ _).cons _).cons _, ?_⟩
 have hE := JT (ZjN p44 p56 p74)
 exact ⟨Xo hE (ZjN p44 p56 p74) hsl rfl, StR.to (StR.mono lec h_s) (gM Prod.snd hE).symm⟩

theorem Zrt {G : GH} {b_s : Nat} {c c2 : Cfg} {l : List Nd} {ss : List Seat} {gQ : MH} (h_s : StR 60 4 3 189 139 b_s c G l gQ) (t : Tree c2 l ss) (a : Int) (k : Str) (hc9 : c = c2) (ha : 0 ≤ a ∧ a < (l.length : Int)) :
    Fc Tryz.prog 106 [pt9 b_s, iV a, sV k.b] G gQ (fun v G' M' => v = .tuple #[iV (ZE c l a k).1.1, iV (ZE c l a k).1.2.1, iV (ZE c l a k).1.2.2] ∧ StR 60 4 3 189 139 b_s c G' (ZE c l a k).2 M') := by
 subst hc9
 have hc9 : c = c := rfl
 obtain ⟨P9, hP9, eP9⟩ := t.seat_of ha
 have hPR := (t.seat hP9).1
 rw [eP9] at hPR
 have hPD : NdS (Za l a) := Zba t.cfg hPR
 have hcp : ChoosePre (Za l a) := ZpK hPR hPD
 have hlk9 : ((Za l a).kids.length : Int) ≤ 4000 := by have := hPD.1; omega
 refine Fc.go [.tmp 6, .tmp 7, .tmp 8] Tryz.func106 Tryz.ntmps106 rfl (fun w0 => (WC.perm (M' := (gQ ++ [])) (by simp) (g9 11 ?_)))
 refine W.ok (Y4 J3 rfl rfl) (g9 9 ?_)
 refine W.call (Mp := gQ) (J7 h_s a) rfl pr9 ?_
 intro v12 G9 Ms11 hG9 q10
 refine match q10 with | ⟨⟨_, e_14, ⟨_, _, _, _, _, _, _, _, e_15, hp_13, hk_13, hm_13, hr_13, hok_13⟩⟩, eeq10⟩ => ?_
 subst e_14
 subst e_15
 have eeq10 := eeq10.symm
 subst eeq10
 refine g9 3 ?_
 refine W.alloc Zn (fun b16 => (g9 11 ?_))
 refine WC.cn (fun h23 p23 => ?_) (fun h23 p23 => ?_)
 ·try dsimp only at p23
  exact absurd ha p23
 try dsimp only at p23
 refine g9 3 ?_
 refine WC.dw sn9.k9 (d9 [0, 2, 3] ?_)
 refine WD.a1 1 rfl (W.call (Mp := gQ) (Jv (StR.mono hG9 h_s)) rfl (pmC pr9) ?_)
 intro v20 G17 Ms19 hG17 q18
 refine match q18 with | ⟨e_22, eeq18⟩ => ?_
 subst e_22
 have eeq18 := eeq18.symm
 subst eeq18
 refine W.perm (pmC pr9).symm (W.nn (WD.a1 4 rfl (W.qcall (ZpN c.fan c.leaf c.bud c.slots c.rest (n := (Za l a)) (nm9 hG17 hp_13 hk_13 hm_13 hr_13 hok_13) k hcp) rfl (W.nn (d9 [5, 6, 7, 8, 9] ?_)))))
 refine g9 15 ?_
 refine WC.cd (fun h35 p35 => ?_) (fun h35 p35 => ?_)
 ·try dsimp only at p35
  refine g9 3 ?_
  refine W.call (Mp := gQ) (ZjM (StR.mono lec h_s) t) rfl (pmC pr9) ?_
  intro v26 G23 Ms25 hG23 q24
  refine match q24 with | ⟨e_28, hR27⟩ => ?_
  subst e_28
  refine W.perm (pmC pr9).symm (g9 9 ?_)
  refine WC.cn (fun h39 p39 => ?_) (fun h39 p39 => ?_)
  ·try dsimp only at p39
   refine g9 12 ?_
   refine ⟨.inr rfl, [_, _, _], ⟨rfl, rfl, rfl, trivial⟩, Ms25, (gL _ _).cons _, ?_⟩
   have hE := JS p35 p39
   exact ⟨Xo hE rfl rfl rfl, StR.to hR27 (gM Prod.snd hE).symm⟩
  try dsimp only at p39
  refine g9 13 ?_
  refine ⟨.inr rfl, [_, _, _], ⟨rfl, rfl, rfl, trivial⟩, Ms25, (gL _ _).cons _, ?_⟩
  have hE := JR p35 om9
  exact ⟨Xo hE p35 rfl rfl, StR.to hR27 (gM Prod.snd hE).symm⟩
 try dsimp only at p35
 refine g9 6 ?_
 refine WC.cd (fun h43 p43 => ?_) (fun h43 p43 => ?_)
 ·try dsimp only at p43
  have hch := Zas (k := k) t ha p43
  refine g9 5 ?_
  refine W.call (Mp := gQ) (Zrs (StR.mono lec h_s) t (a := a) (nm9 hG17 hp_13 hk_13 hm_13 hr_13 hok_13) (ZD c (Za l a) k).2 hc9 ha hch.1 hch.2 ⟨by have := hch.2; omega, by have := hch.2; omega⟩) rfl (pmC pr9) ?_
  intro v32 G29 Ms31 hG29 q30
  refine match q30 with | ⟨e_34, hR33⟩ => ?_
  subst e_34
  refine W.perm (pmC pr9).symm (g9 11 ?_)
  refine ⟨.inr rfl, [_, _, _], ⟨rfl, rfl, rfl, trivial⟩, Ms31, (gL _ _).cons _, ?_⟩
  have hE := Jx p43
  exact ⟨gM (fun q : (Int × Int × Int) × List Nd => Value.tuple #[iV q.1.1, iV q.1.2.1, iV q.1.2.2]) hE.symm, StR.to hR33 (gM Prod.snd hE).symm⟩
 try dsimp only at p43
 refine g9 13 ?_
 refine ⟨.inr rfl, [_, _, _], ⟨rfl, rfl, rfl, trivial⟩, gQ, (gL _ _).cons _, ?_⟩
 have hE := Jw (ZjO p35 p43)
 exact ⟨Xo hE (ZjO p35 p43) rfl rfl, StR.to (StR.mono lec h_s) (gM Prod.snd hE).symm⟩

end Go.Proofs.YtbbemibbmbmamaaGreat

namespace Go.Fw
open Go Go.RowKit
theorem Zru (c : Cfg) (l : List Nd) : l.length ≤ (ZS c l).2.length := by
 unfold ZS
 split
 ·exact Nat.le_refl _
 ·split
  ·exact Nat.le_refl _
  ·unfold YU
   simp
theorem ZfO (c : Cfg) (l : List Nd) (p i : Int) : l.length ≤ (ZQ c l p i).2.length := by
 unfold ZQ
 split
 ·exact Nat.le_refl _
 ·unfold XD
  split
  ·exact Nat.le_refl _
  ·split
   ·exact Nat.le_refl _
   ·split
    ·exact Nat.le_refl _
    ·split
     ·exact Nat.le_refl _
     ·unfold J6
      simp
theorem ZjP (l : List Nd) (a b : Nd) : l.length ≤ (ZW l a b).length := by unfold ZW; simp
theorem Zrv (c : Cfg) (l : List Nd) (a i : Int) : l.length ≤ (Xn c l a i).2.length := by
 have hp := ZfO c l a i
 rcases Jh c (Za l a) (Zm l a i) i with h | h | ⟨h, h2⟩ | h
 ·rw [JT h]; exact Nat.le_refl _
 ·by_cases h3 : (ZQ c l a i).1 = 0
  ·rw [Jy h h3]; exact hp
  ·rw [Jz h h3]; exact hp
 ·rw [Y1 h]; exact ZjP _ _ _
 ·rw [JA h]; exact Nat.le_refl _
theorem Zrw (c : Cfg) (l : List Nd) (a : Int) (k : Str) : l.length ≤ (ZE c l a k).2.length := by
 have hl := Zru c l
 rcases JB c (Za l a) k with h | h | ⟨h, _⟩
 ·rw [Jw h]; exact Nat.le_refl _
 ·by_cases h3 : (ZS c l).1 = 0
  ·rw [JR h h3]; exact hl
  ·rw [JS h h3]; exact hl
 ·rw [Jx h]; exact Zrv c l a _
theorem Zbc {c : Cfg} {l : List Nd} {ss : List Seat} (t : Tree c l ss) {a : Int} (ha : 0 ≤ a ∧ a < l.length) (k : Str) : 0 ≤ (ZE c l a k).1.2.1 ∧ (ZE c l a k).1.2.1 < ((ZE c l a k).2.length : Int) := by
 have hg := Zrw c l a k
 rcases JB c (Za l a) k with h | h | ⟨h, _⟩
 ·rw [Jw h]; exact ha
 ·by_cases h3 : (ZS c l).1 = 0
  ·rw [JR h h3] at hg ⊢; exact ⟨ha.1, by show a < _; dsimp only at hg ⊢; omega⟩
  ·rw [JS h h3] at hg ⊢; exact ⟨ha.1, by show a < _; dsimp only at hg ⊢; omega⟩
 ·obtain ⟨h0, hi⟩ := Zas t ha h
  obtain ⟨P, s⟩ := J8 t ha h0 hi
  have hpg := ZfO c l a (ZD c (Za l a) k).2
  rw [Jx h]
  rcases Jh c (Za l a) (Zm l a (ZD c (Za l a) k).2) (ZD c (Za l a) k).2 with h | h | ⟨h, h2⟩ | h
  ·rw [JT h]; exact ha
  ·by_cases h3 : (ZQ c l a (ZD c (Za l a) k).2).1 = 0
   ·rw [Jy h h3]; exact ⟨ha.1, by dsimp only; omega⟩
   ·rw [Jz h h3]; exact ⟨ha.1, by dsimp only; omega⟩
  ·rw [Y1 h]
   have := ZjP l (Z8 c.leaf c.bud (Za l a) (Zm l a (ZD c (Za l a) k).2) (ZD c (Za l a) k).2).1 (Z8 c.leaf c.bud (Za l a) (Zm l a (ZD c (Za l a) k).2) (ZD c (Za l a) k).2).2.1
   exact ⟨ha.1, by dsimp only; omega⟩
  ·rw [JA h]
   show 0 ≤ (Zm _ _ _).slot ∧ (Zm _ _ _).slot < _
   rw [s.ksl]
   exact s.kin
noncomputable def Y8 (c : Cfg) (k : Str) : Nat → List Nd → Int → Int → Option (Int × Int × List Nd)
 | 0, _, _, _ => none
 | m + 1, l, a, n => if (ZE c l a k).1.1 = 0 then some (n, (ZE c l a k).1.2.2, (ZE c l a k).2) else Y8 c k m (ZE c l a k).2 (ZE c l a k).1.2.1 (if (ZE c l a k).1.1 = 5 then n else n + 1)
theorem XK {c : Cfg} {k : Str} {m : Nat} {l : List Nd} {a n : Int} (h : (ZE c l a k).1.1 = 0) : Y8 c k (m + 1) l a n = some (n, (ZE c l a k).1.2.2, (ZE c l a k).2) := if_pos h
theorem Zat {c : Cfg} {k : Str} {m : Nat} {l : List Nd} {a n : Int} (h : (ZE c l a k).1.1 = 5) : Y8 c k (m + 1) l a n = Y8 c k m (ZE c l a k).2 (ZE c l a k).1.2.1 n := by
 show (if _ then _ else _) = _
 rw [if_neg om9, if_pos h]
theorem X2 {c : Cfg} {k : Str} {m : Nat} {l : List Nd} {a n : Int} (h : ¬ (ZE c l a k).1.1 = 0) (h2 : ¬ (ZE c l a k).1.1 = 5) : Y8 c k (m + 1) l a n = Y8 c k m (ZE c l a k).2 (ZE c l a k).1.2.1 (n + 1) := by
 show (if _ then _ else _) = _
 rw [if_neg h, if_neg h2]
theorem ZcN {c : Cfg} {k : Str} : ∀ (m : Nat) {l : List Nd} {ss : List Seat} {a n : Int} {r : Int × Int × List Nd}, Tree c l ss → 0 ≤ a ∧ a < l.length → Y8 c k m l a n = some r → ∃ T, Tree c r.2.2 T ∧ Zh r.2.2 = Zh l
 | 0, _, _, _, _, _, _, _, h => by cases h
 | m + 1, l, ss, a, n, r, t, ha, h => by
  obtain ⟨T, hT, hm⟩ := ZaM t ha k
  by_cases h0 : (ZE c l a k).1.1 = 0
  ·rw [XK h0] at h
   cases h
   exact ⟨T, hT, hm⟩
  ·have hn := Zbc t ha k
   by_cases h5 : (ZE c l a k).1.1 = 5
   ·rw [Zat h5] at h
    obtain ⟨T2, h1, h2⟩ := ZcN m hT hn h
    exact ⟨T2, h1, h2.trans hm⟩
   ·rw [X2 h0 h5] at h
    obtain ⟨T2, h1, h2⟩ := ZcN m hT hn h
    exact ⟨T2, h1, h2.trans hm⟩
end Go.Fw
namespace Go.Proofs.YtbbemibbmbmamaaGreat
open Go Go.Fw Go.RowKit
attribute [local irreducible] Ok W WC
theorem ZjQ {G : GH} {b_s : Nat} {c c2 : Cfg} {l : List Nd} {ss : List Seat} {gQ : MH} (h_s : StR 60 4 3 189 139 b_s c G l gQ) (t : Tree c2 l ss) (k : Str) (hc9 : c = c2) (N : Nat) (r : Int × Int × List Nd) (hr : Y8 c k N l 0 0 = some r) (hN : N ≤ 1000000) :
    Fc Tryz.prog 49 [pt9 b_s, sV k.b] G gQ (fun v G' M' => v = .tuple #[iV r.1, iV r.2.1] ∧ StR 60 4 3 189 139 b_s c G' r.2.2 M') := by
 subst hc9
 have htp := t.pos
 refine Fc.go [.tmp 4, .tmp 5] Tryz.func49 Tryz.ntmps49 rfl (fun w0 => (WC.perm (M' := (gQ ++ [])) (by simp) (g9 17 ?_)))
 refine WC.loop (X := (Nat × List Nd × Int × Int) × MH) (fun x => [(6, iV x.1.2.2.2), (7, iV x.1.2.2.1), (1, sV k.b), (0, pt9 b_s)]) (fun x G Ml => Ml = (x.2 ++ []) ∧ StR 60 4 3 189 139 b_s c G (x.1.2.1) x.2 ∧ Y8 c k x.1.1 x.1.2.1 x.1.2.2.1 x.1.2.2.2 = some r ∧ (∃ T, Tree c x.1.2.1 T) ∧ (0 ≤ x.1.2.2.1 ∧ x.1.2.2.1 < (x.1.2.1.length : Int)) ∧ 0 ≤ x.1.2.2.2 ∧ x.1.2.2.2 + (x.1.1 : Int) ≤ 1000000) (fun x => x.1.1) (((N, l, 0, 0) : Nat × List Nd × Int × Int), gQ) hs9 ?_ ?_
 ·exact ⟨rfl, (by exact h_s), hr, ⟨ss, t⟩, ⟨by dsimp only; omega, by dsimp only; omega⟩, by dsimp only; omega, by dsimp only; omega⟩
 rintro ⟨⟨m, L, a, n⟩, M_0⟩ gG1 G1 _ hG1 ⟨rfl, ho_0, hcy, hTr, haL, hn0, hnm⟩
 try dsimp only at ho_0 hcy hTr haL hn0 hnm
 obtain ⟨T8, t9⟩ := hTr
 have hm1 : 0 < m := by
   rcases Nat.eq_zero_or_pos m with h | h
   · rw [h] at hcy; cases hcy
   exact h
 rw [show m = m - 1 + 1 by omega] at hcy
 have hnx := Zbc t9 haL k
 obtain ⟨T9, hT9, hmp9⟩ := ZaM t9 haL k
 refine WC.fr (f := ZR gG1 [(6, iV n), (7, iV a), (1, sV k.b), (0, pt9 b_s)]) rfl (g9 6 ?_)
 refine W.call (Mp := M_0) (Zrt ho_0 t9 a k rfl haL) rfl pr9 ?_
 intro v5 G2 Ms4 hG2 q3
 refine match q3 with | ⟨e_7, hR6⟩ => ?_
 subst e_7
 refine g9 22 ?_
 refine WC.cd (fun h23 p23 => ?_) (fun h23 p23 => ?_)
 ·try dsimp only at p23
  refine g9 14 ?_
  refine ⟨.inr rfl, [_, _], ⟨rfl, rfl, trivial⟩, Ms4, gL _ _, ?_⟩
  have hE := Option.some.inj ((XK p23).symm.trans hcy)
  exact ⟨gM (fun q : Int × Int × List Nd => Value.tuple #[iV q.1, iV q.2.1]) hE, StR.to hR6 (gM (fun q : Int × Int × List Nd => q.2.2) hE)⟩
 try dsimp only at p23
 refine g9 6 ?_
 refine WC.cd (fun h27 p27 => ?_) (fun h27 p27 => ?_)
 ·try dsimp only at p27
  refine g9 9 ?_
  exact ⟨hG2, (((m - 1, (ZE c L a k).2, (ZE c L a k).1.2.1, n) : Nat × List Nd × Int × Int), Ms4), hs9, ⟨rfl, (by exact hR6), (Zat p27).symm.trans hcy, ⟨_, hT9⟩, hnx, by dsimp only; omega, by dsimp only; omega⟩, by dsimp only; omega⟩
 try dsimp only at p27
 refine g9 13 ?_
 exact ⟨hG2, (((m - 1, (ZE c L a k).2, (ZE c L a k).1.2.1, n + 1) : Nat × List Nd × Int × Int), Ms4), hs9, ⟨rfl, (by exact hR6), (X2 p23 p27).symm.trans hcy, ⟨_, hT9⟩, hnx, by dsimp only; omega, by dsimp only; omega⟩, by dsimp only; omega⟩

end Go.Proofs.YtbbemibbmbmamaaGreat

namespace Go.Fw
open Go Go.RowKit
structure Opr where
 kind : Int
 key : Str
 hi : Str
 opn : Bool
 val : Str
 lim : Int
 deriving DecidableEq
instance : Inhabited Opr := ⟨⟨0, Str.nil, Str.nil, false, Str.nil, 0⟩⟩
def Opr.Ok (o : Opr) : Prop := i64 o.kind ∧ i64 o.lim
def eOp : Enc Opr where
 k := 6
 w := 72
 R := fun _ cs o => cs = [.int .i64 o.kind, .string o.key.b, .string o.hi.b, .bool o.opn, .string o.val.b, .int .i64 o.lim] ∧ o.Ok
 mono := fun _ h => h
 len := fun h => by rw [h.1]; rfl
 one := fun h u hu => by rw [h.1] at hu; simp at hu; rcases hu with rfl | rfl | rfl | rfl | rfl | rfl <;> rfl
theorem Zrx {P : Program} {t i s b : TypeId} (ht : Zbs P t = some [(i, 0, 1), (s, 1, 1), (s, 2, 1), (b, 3, 1), (s, 4, 1), (i, 5, 1)]) (hi : P.underlying i = some (.int .i64)) (hs : P.underlying s = some .string) (hb : P.underlying b = some .bool) (hc : P.cellsOf t = 6) : Dec P t eOp := by
 intro H enc w fuel cs x h hw
 obtain ⟨hl, hf⟩ := ZgP ht h hw
 obtain ⟨y0, n0, t0, w0⟩ := hf 0 _ _ _ rfl
 obtain ⟨y1, n1, t1, w1⟩ := hf 1 _ _ _ rfl
 obtain ⟨y2, n2, t2, w2⟩ := hf 2 _ _ _ rfl
 obtain ⟨y3, n3, t3, w3⟩ := hf 3 _ _ _ rfl
 obtain ⟨y4, n4, t4, w4⟩ := hf 4 _ _ _ rfl
 obtain ⟨y5, n5, t5, w5⟩ := hf 5 _ _ _ rfl
 obtain ⟨a0, e0, q0⟩ := ZaR hi t0 w0
 obtain ⟨a1, e1⟩ := ZgR hs t1 w1
 obtain ⟨a2, e2⟩ := ZgR hs t2 w2
 obtain ⟨a3, e3⟩ := ZuB hb t3
 obtain ⟨a4, e4⟩ := ZgR hs t4 w4
 obtain ⟨a5, e5, q5⟩ := ZaR hi t5 w5
 rw [hc] at hl
 match cs, hl with
 | [_, _, _, _, _, _], _ =>
  simp at e0 e1 e2 e3 e4 e5
  subst e0 e1 e2 e3 e4 e5
  exact ⟨⟨a0, a1, a2, a3, a4, a5⟩, rfl, q0, q5⟩
def Opr.span (o : Opr) : Span := if o.kind = 4 ∨ o.kind = 6 then ⟨o.key, o.hi, o.opn⟩ else ⟨o.key, o.key.next, false⟩
def Opr.R (o : Opr) : Prop := (1 ≤ o.kind ∧ o.kind ≤ 6 ∧ o.key.b.size ≤ 16 ∧ o.hi.b.size ≤ 16 ∧ o.val.b.size ≤ 16) ∧
 (2 < o.kind → o.val = Str.nil) ∧ (o.kind ≠ 6 → o.lim = 0) ∧ (o.kind = 6 → 1 ≤ o.lim ∧ o.lim ≤ 64) ∧
 if o.kind = 4 ∨ o.kind = 6 then o.span.empty = false ∧ (o.opn = false ∨ o.hi = Str.nil) else o.hi = Str.nil ∧ o.opn = false
instance (o : Opr) : Decidable o.R := by unfold Opr.R; infer_instance
theorem YV {o : Opr} {b : Bool} (h : b = true ↔ o.R := by
 have hn : ∀ s : Str, s.b = ⟨#[]⟩ ↔ s = Str.nil := fun s => ⟨fun h => Str.ext' h, fun h => by rw [h]; rfl⟩
 simp only [Opr.R]
 exact gN) : Value.bool b = Value.bool (decide o.R) := gM Value.bool (Bool.eq_iff_iff.2 (h.trans decide_eq_true_iff.symm))
def Opr.msg (o : Opr) (s : Int) : Msg := ⟨s, o.kind, o.key, o.hi, o.opn, o.val⟩
theorem Opr.R.fit {o : Opr} (h : o.R) (s : Int) : (o.msg s).fit := Zb1 ⟨h.1.2.2.1, h.1.2.2.2.2⟩
structure Ans where
 err : Int
 has : Bool
 val : Str
 rows : List Pair
 deriving DecidableEq
instance : Inhabited Ans := ⟨⟨0, false, Str.nil, []⟩⟩
def AnsC (G : GH) (cs : List Value) (a : Ans) : Prop :=
 ∃ p c, cs = [.int .i64 a.err, .bool a.has, .string a.val.b, .slice p a.rows.length c] ∧ SlR Zi G (.slice p a.rows.length c) a.rows ∧ i64 a.err
structure Drow where
 key : Str
 a : Str
 b : Str
 inA : Bool
 inB : Bool
 deriving DecidableEq
instance : Inhabited Drow := ⟨⟨Str.nil, Str.nil, Str.nil, false, false⟩⟩
def doN (l : List Pair) (o : Opr) : List Pair × Ans :=
 if ¬ o.R then (l, ⟨3, false, Str.nil, []⟩)
 else if o.kind = 5 then (l, ⟨0, (Zg l o.key).isSome, (Zg l o.key).getD Str.nil, []⟩)
 else if o.kind = 6 then (l, ⟨0, false, Str.nil, Yj l o.span o.lim⟩)
 else (takeN l (o.msg 1), ⟨0, false, Str.nil, []⟩)
theorem ZjR {l : List Pair} {o : Opr} (h : ¬ o.R) : doN l o = (l, ⟨3, false, Str.nil, []⟩) := if_pos h
theorem ZjS {l : List Pair} {o : Opr} (h : o.R) (h5 : o.kind = 5) : doN l o = (l, ⟨0, (Zg l o.key).isSome, (Zg l o.key).getD Str.nil, []⟩) := by rw [doN, if_neg (by simpa using h), if_pos h5]
theorem ZjT {l : List Pair} {o : Opr} (h : o.R) (h6 : o.kind = 6) : doN l o = (l, ⟨0, false, Str.nil, Yj l o.span o.lim⟩) := by rw [doN, if_neg (by simpa using h), if_neg om9, if_pos h6]
theorem ZjU {l : List Pair} {o : Opr} (h : o.R) (h5 : ¬ o.kind = 5) (h6 : ¬ o.kind = 6) : doN l o = (takeN l (o.msg 1), ⟨0, false, Str.nil, []⟩) := by rw [doN, if_neg (by simpa using h), if_neg h5, if_neg h6]
theorem Zry {l : List Pair} {o : Opr} (h : PairsR l) : PairsR (doN l o).1 ∧ (doN l o).1.length ≤ l.length + 1 := by
 unfold doN
 split
 ·exact ⟨h, by show l.length ≤ _; omega⟩
 ·split
  ·exact ⟨h, by show l.length ≤ _; omega⟩
  ·split
   ·exact ⟨h, by show l.length ≤ _; omega⟩
   ·rename_i h1 h2 h3
    have hR : o.R := by simpa using h1
    have := h.take_len (o.msg 1)
    exact ⟨h.takeF (hR.fit 1), this⟩
def Drow.same (r : Drow) : Bool := r.inA && r.inB && decide (r.a = r.b)
theorem ZjV {l : List Pair} {k : Str} (h : ∀ p ∈ l, p.key ≠ k) : Zg l k = none := by
 induction l with
 | nil => rfl
 | cons p l ih => rw [Xt, if_neg (h p (by simp))]; exact ih fun p hp => h p (by simp [hp])
end Go.Fw

namespace Go.Fw
def Rise (l : List Str) : Prop := l.Pairwise fun a b => a.lt b = true
theorem Rise.ext : ∀ {a b : List Str}, Rise a → Rise b → (∀ k, k ∈ a ↔ k ∈ b) → a = b
 | [], [], _, _, _ => rfl
 | [], y :: b, _, _, h => by have := (h y).2 (by simp); cases this
 | x :: a, [], _, _, h => by have := (h x).1 (by simp); cases this
 | x :: a, y :: b, ha, hb, h => by
  obtain ⟨ha1, ha2⟩ := List.pairwise_cons.1 ha
  obtain ⟨hb1, hb2⟩ := List.pairwise_cons.1 hb
  have hxy : x = y := by
   rcases List.mem_cons.1 ((h x).1 (by simp)) with e | hx
   ·exact e
   ·rcases List.mem_cons.1 ((h y).2 (by simp)) with e | hy
    ·exact e.symm
    ·have := Str.lt_trans (hb1 x hx) (ha1 y hy); rw [Str.lt_irrefl] at this; cases this
  subst hxy
  refine gM (x :: ·) (Rise.ext ha2 hb2 fun k => ⟨fun hk => ?_, fun hk => ?_⟩)
  ·rcases List.mem_cons.1 ((h k).1 (by simp [hk])) with e | hk2
   ·subst e; have := ha1 k hk; rw [Str.lt_irrefl] at this; cases this
   ·exact hk2
  ·rcases List.mem_cons.1 ((h k).2 (by simp [hk])) with e | hk2
   ·subst e; have := hb1 k hk; rw [Str.lt_irrefl] at this; cases this
   ·exact hk2
end Go.Fw

namespace Go.Fw
theorem ZjW {l : List Pair} {k : Str} : (Zg l k).isSome = true ↔ k ∈ l.map (·.key) := by
 induction l with
 | nil => simp [Zg]
 | cons p l ih =>
  rw [Xt]
  by_cases h : p.key = k
  ·rw [if_pos h]; simp [h]
  ·rw [if_neg h, ih]; simp [Ne.symm h]
theorem ZjX : ∀ {a b : List Pair}, Srt a → Srt b → (∀ k, Zg a k = Zg b k) → a = b
 | [], [], _, _, _ => rfl
 | [], y :: b, _, _, h => by have := h y.key; rw [Xt, if_pos rfl] at this; cases this
 | x :: a, [], _, _, h => by have := h x.key; rw [Xt, if_pos rfl] at this; cases this
 | x :: a, y :: b, ha, hb, h => by
  obtain ⟨ha1, ha2⟩ := List.pairwise_cons.1 ha
  obtain ⟨hb1, hb2⟩ := List.pairwise_cons.1 hb
  have mx : y.key ∈ (x :: a).map (·.key) := ZjW.1 (by rw [h, Xt, if_pos rfl]; rfl)
  have my : x.key ∈ (y :: b).map (·.key) := ZjW.1 (by rw [← h, Xt, if_pos rfl]; rfl)
  have hk : x.key = y.key := by
   rw [List.map_cons] at mx my
   rcases List.mem_cons.1 mx with e | mx
   ·exact e.symm
   ·rcases List.mem_cons.1 my with e | my
    ·exact e
    ·obtain ⟨p, hp, ep⟩ := List.mem_map.1 mx
     obtain ⟨q, hq, eq⟩ := List.mem_map.1 my
     have h1 := ha1 p hp
     have h2 := hb1 q hq
     rw [ep] at h1; rw [eq] at h2
     have := Str.lt_trans h1 h2
     rw [Str.lt_irrefl] at this; cases this
  have hv : x.val = y.val := by
   have := h x.key
   rw [Xt, if_pos rfl, Xt, if_pos hk.symm] at this
   exact Option.some.inj this
  have hxy : x = y := by cases x; cases y; simp_all
  subst hxy
  refine gM (x :: ·) (ZjX ha2 hb2 fun k => ?_)
  have h3 := h k
  rw [Xt, Xt] at h3
  by_cases hkx : x.key = k
  ·rw [ZjV fun p hp e => ?_, ZjV fun p hp e => ?_]
   ·have := hb1 p hp; rw [hkx, e, Str.lt_irrefl] at this; cases this
   ·have := ha1 p hp; rw [hkx, e, Str.lt_irrefl] at this; cases this
  ·rwa [if_neg hkx, if_neg hkx] at h3
end Go.Fw
namespace Go.Fw
open Go Go.RowKit
def Yh (n : Nd) (m : Msg) : Nd := { n with msgs := n.msgs ++ [m], seen := m.stamp }
structure InjOf (c : Cfg) (l : List Nd) (ss : List Seat) (m : Msg) : Prop where
  t : Tree c l ss
  h0 : ¬ (Za l 0).level = 0
  mR : m.R
  st : m.stamp = (Za l 0).seen + 1
  le : m.stamp ≤ 1099511627776
  sn : ∀ n ∈ l, n.seen ≤ (Za l 0).seen
  fit : m.size ≤ c.bud - Zx (Za l 0).msgs
def Yb (l : List Nd) (r : Nd) : List Nd := l.set 0 r
namespace InjOf
variable {c : Cfg} {l : List Nd} {ss : List Seat} {m : Msg}
theorem pos (p : InjOf c l ss m) : 0 < l.length := p.t.pos
theorem gx (p : InjOf c l ss m) : (Zl l 0).n = Za l 0 := p.t.rootn
theorem rsl (p : InjOf c l ss m) : (Za l 0).slot = 0 ∧ Za l 0 ∈ l := YQ p.t.slot ⟨Int.le_refl _, by have := p.pos; omega⟩
theorem rseat (p : InjOf c l ss m) : SeatP c (Zl l 0) := p.t.seat p.t.root
theorem rR (p : InjOf c l ss m) : (Za l 0).R c.fan c.leaf c.bud := by have := p.rseat.1; rwa [p.gx] at this
theorem rin (p : InjOf c l ss m) : (Za l 0).innerR c.fan c.bud := by have h := p.rR.2.2.2; rwa [if_neg p.h0] at h
theorem rtop (p : InjOf c l ss m) : (Za l 0).top = true := by
  have := p.rseat.2.1.1.1
  rw [p.gx] at this
  exact this
theorem old (p : InjOf c l ss m) : ∀ x ∈ ss, ∀ y ∈ x.ms, y.stamp < m.stamp := by
  have hroot : ∀ y ∈ (Za l 0).msgs, y.stamp < m.stamp := fun y hy => by
    obtain ⟨j, hj, rfl⟩ := List.getElem_of_mem hy
    have := (p.rin.2.2.2.2.2.2 j hj).1
    have := p.st
    omega
  have key : ∀ x ∈ ss, (∀ y ∈ x.ms, y.stamp < m.stamp) ∧ ∀ y ∈ x.n.msgs, y.stamp < m.stamp := by
    refine p.t.ind ⟨fun y hy => (by cases hy), fun y hy => hroot y (by rw [p.gx] at hy; exact hy)⟩ fun x hx h0 ⟨h1, h2⟩ j hj => ?_
    have hk := p.t.kid_ms hx (p.t.rst x hx) j
    have hms : ∀ y ∈ (Zb l x j).ms, y.stamp < m.stamp := fun y hy => by
      rw [hk.1] at hy
      rcases List.mem_append.1 hy with hy | hy
      · obtain ⟨z, hz, e⟩ := JE hy; rw [e]; exact h2 z hz
      · obtain ⟨z, hz, e⟩ := JE hy; rw [e]; exact h1 z hz
    refine ⟨hms, fun y hy => ?_⟩
    have hK := p.t.at hx h0 hj
    by_cases hl : (Zb l x j).n.level = 0
    · rw [p.t.nomsgs hK.1 hl] at hy; cases hy
    · have hI := (p.t.msgs hK.1).2.2 y hy
      have hs := p.sn _ (p.t.nd hK.1).2.2
      have := p.st
      omega
  exact fun x hx => (key x hx).1
noncomputable def gI (l : List Nd) (m : Msg) (x : Seat) : Seat := if x.n.slot = 0 then ⟨Yh (Za l 0) m, Span.all, []⟩ else ⟨x.n, x.s, x.ms ++ Zc x.s [m]⟩
theorem root_of (p : InjOf c l ss m) {x : Seat} (hx : x ∈ ss) (e : x.n.slot = 0) : x = Zl l 0 := p.t.uniq hx p.t.root (by rw [e]; exact p.t.root0.symm)
theorem g_r (p : InjOf c l ss m) : gI l m (Zl l 0) = ⟨Yh (Za l 0) m, Span.all, []⟩ := if_pos p.t.root0
theorem g_x {x : Seat} (h : x.n.slot ≠ 0) : gI l m x = ⟨x.n, x.s, x.ms ++ Zc x.s [m]⟩ := if_neg h
theorem two (p : InjOf c l ss m) {Q : Seat → Prop} (hr : Q (Zl l 0)) (hx : ∀ x ∈ ss, x.n.slot ≠ 0 → Q x) : ∀ x ∈ ss, Q x := fun x hm => by
  by_cases e : x.n.slot = 0
  · rw [p.root_of hm e]; exact hr
  · exact hx x hm e
theorem g_same (p : InjOf c l ss m) : ∀ x ∈ ss, (gI l m x).n.slot = x.n.slot ∧ (gI l m x).n.level = x.n.level ∧ (gI l m x).n.right = x.n.right ∧ (gI l m x).n.pivots = x.n.pivots ∧ (gI l m x).n.kids = x.n.kids ∧ (gI l m x).s = x.s ∧ (gI l m x).n.rows = x.n.rows := by
  refine p.two ?_ fun x hx h => ?_
  · rw [p.g_r, p.gx]; exact ⟨rfl, rfl, rfl, rfl, rfl, rfl, rfl⟩
  · rw [g_x h]; exact ⟨rfl, rfl, rfl, rfl, rfl, rfl, rfl⟩
theorem slots (p : InjOf c l ss m) : SlotsP (Yb l (Yh (Za l 0) m)) := by
  have h := ZbW p.t.slot (x := Yh (Za l 0) m) (by show 0 ≤ (Za l 0).slot ∧ (Za l 0).slot < _; rw [p.rsl.1]; have := p.pos; omega) p.le
  have e : (Yh (Za l 0) m).slot.toNat = 0 := by show (Za l 0).slot.toNat = 0; rw [p.rsl.1]; rfl
  rw [e] at h; exact h
theorem len (p : InjOf c l ss m) : (Yb l (Yh (Za l 0) m)).length = l.length := by unfold Yb; rw [List.length_set]
theorem find (p : InjOf c l ss m) (s : Int) : Zq (Yb l (Yh (Za l 0) m)) s = (if s = 0 then Yh (Za l 0) m else Za l s, decide (0 ≤ s ∧ s < (l.length : Int))) := by
  rw [Zaz p.slots, p.len]
  congr 1
  have e : (Yh (Za l 0) m).slot = 0 := p.rsl.1
  have h := Zap (l := l) (x := Yh (Za l 0) m) (by rw [e]; have := p.pos; omega) (i := s)
  rw [e] at h
  exact h
theorem find_g (p : InjOf c l ss m) {x : Seat} (hx : x ∈ ss) : Zq (Yb l (Yh (Za l 0) m)) x.n.slot = ((gI l m x).n, true) := by
  have hs := (p.t.nd hx).1
  rw [p.find, decide_eq_true ⟨hs.1, hs.2⟩]
  congr 1
  revert hs
  refine p.two (Q := fun x => 0 ≤ x.n.slot ∧ x.n.slot < (l.length : Int) → (if x.n.slot = 0 then Yh (Za l 0) m else Za l x.n.slot) = (gI l m x).n) (fun hs => ?_) (fun x hx h hs => ?_) x hx
  · rw [if_pos p.t.root0, p.g_r]
  · rw [if_neg h, g_x h]; exact (p.t.nd hx).2.1.symm
theorem slot_at (p : InjOf c l ss m) {x : Seat} (hx : x ∈ ss) (h0 : ¬ x.n.level = 0) {j : Nat} (hj : j < x.n.kids.length) : x.n.kids.getD j 0 = (Zb l x j).n.slot := by
  have e := (p.t.at hx h0 hj)
  rw [List.getD_eq_getElem?_getD, List.getElem?_eq_getElem hj, e.2.2.1, (YQ p.t.slot e.2.1).1]; rfl
theorem kid_ne (p : InjOf c l ss m) {x : Seat} (hx : x ∈ ss) (h0 : ¬ x.n.level = 0) {j : Nat} (hj : j < x.n.kids.length) : (Zb l x j).n.slot ≠ 0 := by
  have hin : Zb l x j ∈ Zk l x := by rw [(Yd (p.t.kids hx) h0).1]; exact List.mem_map.2 ⟨j, List.mem_range.2 hj, rfl⟩
  have := p.t.root_kid hx hin
  rwa [p.t.root0] at this
theorem rst9 (p : InjOf c l ss m) {x : Seat} (hx : x ∈ ss) (s : Span) : Rst (x.ms ++ Zc s [m]) := by
  refine List.pairwise_append.2 ⟨p.t.rst x hx, Jk (by simp [Rst]), fun a ha b hb => ?_⟩
  obtain ⟨z, hz, e⟩ := JE hb
  simp at hz
  subst hz
  rw [e]; exact p.old x hx a ha
theorem kid_g (p : InjOf c l ss m) {x : Seat} (hx : x ∈ ss) (h0 : ¬ x.n.level = 0) {j : Nat} (hj : j < x.n.kids.length) : Zb (Yb l (Yh (Za l 0) m)) (gI l m x) j = gI l m (Zb l x j) := by
  have hy := (p.t.at hx h0 hj).1
  have hn0 := p.kid_ne hx h0 hj
  obtain ⟨s1, s2, s3, s4, s5, s6, s7⟩ := p.g_same x hx
  have en : (Zb (Yb l (Yh (Za l 0) m)) (gI l m x) j).n = (Zb l x j).n := by
    show (Zq _ ((gI l m x).n.kids.getD j 0)).1 = _
    rw [s5, p.slot_at hx h0 hj, p.find_g hy, g_x hn0]
  have es : (Zb (Yb l (Yh (Za l 0) m)) (gI l m x) j).s = (Zb l x j).s := by
    show (gI l m x).s.meet (Ze (gI l m x).n.pivots (j : Int)) = _
    rw [s4, s6]; rfl
  have hr := p.rst9 hy (Zb l x j).s
  have em : ZL [Zc (Zb l x j).s (gI l m x).n.msgs, Zc (Zb l x j).s (gI l m x).ms] = (Zb l x j).ms ++ Zc (Zb l x j).s [m] := by
    have hk := (p.t.kid_ms hx (p.t.rst x hx) j).1
    by_cases e : x.n.slot = 0
    · obtain rfl := p.root_of hx e
      rw [p.g_r]
      show ZL [Zc _ ((Za l 0).msgs ++ [m]), Zc _ []] = _
      have e0 : Zc (Zb l (Zl l 0) j).s (Zl l 0).ms = [] := rfl
      rw [e0, List.append_nil, p.gx] at hk
      rw [X5, ← hk]
      exact (ZaP hr List.Pairwise.nil fun a ha b hb => by cases hb).1.trans (List.append_nil _)
    · rw [g_x e]
      show ZL [Zc _ x.n.msgs, Zc _ (x.ms ++ Zc x.s [m])] = _
      rw [X5, XE fun k hk => ZcX k hk]
      rw [hk] at hr ⊢
      rw [List.append_assoc] at hr ⊢
      obtain ⟨r1, r2, r3⟩ := ZaJ hr
      exact (ZaP r1 r2 r3).1
  have e3 : (Zb (Yb l (Yh (Za l 0) m)) (gI l m x) j).ms = ZL [Zc (Zb (Yb l (Yh (Za l 0) m)) (gI l m x) j).s (gI l m x).n.msgs, Zc (Zb (Yb l (Yh (Za l 0) m)) (gI l m x) j).s (gI l m x).ms] := rfl
  rw [es, em] at e3
  rw [g_x hn0]
  cases hA : Zb (Yb l (Yh (Za l 0) m)) (gI l m x) j
  rw [hA] at en es e3
  simp only at en es e3
  rw [en, es, e3]
theorem each (p : InjOf c l ss m) {x : Seat} (hx : x ∈ ss) : (ZZ (Yb l (Yh (Za l 0) m)) (gI l m x)).isSome = true ∧ Zk (Yb l (Yh (Za l 0) m)) (gI l m x) = (Zk l x).map (gI l m) := by
  obtain ⟨s1, s2, s3, s4, s5, s6, s7⟩ := p.g_same x hx
  by_cases h0 : x.n.level = 0
  · rw [Zax (by rw [s2]; exact h0), Xw (by rw [s2]; exact h0), Xw h0]; exact ⟨rfl, rfl⟩
  · obtain ⟨h1, h2, h3, h4⟩ := Yd (p.t.kids hx) h0
    obtain ⟨g1, g2⟩ := ZaI (l := Yb l (Yh (Za l 0) m)) (x := gI l m x) (by rw [s2]; exact h2) (by rw [s4, s5]; exact h3) fun j hj => by
      rw [s5] at hj
      have e := p.t.at hx h0 hj
      unfold YP
      rw [s5, p.slot_at hx h0 hj, p.find_g e.1]
      simp only [Bool.true_and, decide_eq_true_eq]
      rw [(p.g_same _ e.1).2.1, s2]; exact e.2.2.2
    refine ⟨g1, ?_⟩
    rw [g2, h1, s5]
    unfold YL
    rw [List.map_map]
    exact List.map_congr_left fun j hj => p.kid_g hx h0 (List.mem_range.1 hj)
theorem froot (p : InjOf c l ss m) : gI l m (Zl l 0) = Zl (Yb l (Yh (Za l 0) m)) 0 := by
  have hf := p.find_g p.t.root
  rw [p.t.root0, p.g_r] at hf
  rw [p.g_r]
  unfold Zl
  rw [hf]
theorem fix (p : InjOf c l ss m) : ss.map (gI l m) = Zl (Yb l (Yh (Za l 0) m)) 0 :: (ss.map (gI l m)).flatMap (Zk (Yb l (Yh (Za l 0) m))) := by
  rw [PourOf.flat_map fun x hx => (p.each hx).2]
  conv => lhs; rw [p.t.fix]
  rw [List.map_cons, p.froot]
theorem keys (p : InjOf c l ss m) : (ss.map (gI l m)).map Seat.key = ss.map Seat.key := by
  rw [List.map_map]
  refine List.map_congr_left fun x hx => ?_
  obtain ⟨s1, s2, s3, _⟩ := p.g_same x hx
  show ((gI l m x).n.slot, (gI l m x).n.level, (gI l m x).n.right) = _
  rw [s1, s2, s3]; rfl
theorem perm (p : InjOf c l ss m) : ((ss.map (gI l m)).map fun x : Seat => x.n.slot).Perm ((Yb l (Yh (Za l 0) m)).map fun n : Nd => n.slot) := by
  have h1 : (ss.map (gI l m)).map (fun x : Seat => x.n.slot) = ss.map (fun x : Seat => x.n.slot) := by
    rw [List.map_map]
    exact List.map_congr_left fun x hx => (p.g_same x hx).1
  rw [h1]
  have h4 : ((Yb l (Yh (Za l 0) m)).map fun n : Nd => n.slot) = (l.map fun n : Nd => n.slot) := by rw [ZaL p.slots, ZaL p.t.slot, p.len]
  rw [h4]; exact p.t.perm_s
theorem nR (p : InjOf c l ss m) : (Yh (Za l 0) m).R c.fan c.leaf c.bud := by
  obtain ⟨⟨r1, r2, r3⟩, r4, r5, _⟩ := p.rR
  obtain ⟨i1, i2, i3, i4, i5, i6, i7⟩ := p.rin
  have hst := p.st
  have hfit := p.fit
  refine ⟨⟨r1, r2, by show 0 ≤ m.stamp; omega⟩, r4, r5, ?_⟩
  rw [if_neg (show ¬ (Yh (Za l 0) m).level = 0 from p.h0)]
  refine ⟨i1, i2, ?_, ?_, i5, i6, fun j hj => ?_⟩
  · refine MsgsR.iff.2 ⟨fun x hx => ?_, ?_⟩
    · rcases List.mem_append.1 hx with hx | hx
      · exact (MsgsR.iff.1 i3).1 x hx
      · simp at hx; subst hx; exact p.mR
    · refine List.pairwise_append.2 ⟨(MsgsR.iff.1 i3).2, by simp, fun a ha b hb => ?_⟩
      simp at hb; subst hb
      obtain ⟨q, hq, rfl⟩ := List.getElem_of_mem ha
      have := (i7 q hq).1
      omega
  · show Zx ((Za l 0).msgs ++ [m]) ≤ _
    rw [Zdr]
    have : Zx [m] = m.size := by simp [Zx]
    omega
  · refine ⟨?_, .inl p.rtop⟩
    have hj2 : j < ((Za l 0).msgs ++ [m]).length := hj
    show (((Za l 0).msgs ++ [m])[j]).stamp ≤ m.stamp
    rw [List.getElem_append]
    split
    · rename_i h
      have := (i7 j h).1
      omega
    · simp
theorem seats9 (p : InjOf c l ss m) : ∀ x ∈ ss, SeatP c (gI l m x) := by
  refine p.two ?_ fun x hx h => ?_
  · rw [p.g_r]
    have sR := p.rseat
    have e := p.gx
    obtain ⟨q1, ⟨⟨q2, q3⟩, q4, q5, q6⟩, q7, q8⟩ := sR
    rw [e] at q2 q3 q7
    refine ⟨p.nR, ⟨⟨q2, q3⟩, fun j hj => (ZaA _), fun j hj => ?_, fun j hj => ?_⟩, q7, fun j hj => absurd hj (Nat.not_lt_zero j)⟩
    · have := q5 j (by rw [e]; exact hj)
      simp only [e] at this
      exact this
    · refine PourOf.norm_of fun q _ => ZaA q
  · rw [g_x h]
    obtain ⟨q1, q2, q7, q8⟩ := p.t.seat hx
    refine ⟨q1, q2, q7, fun j hj => ?_⟩
    have hmem : (x.ms ++ Zc x.s [m])[j] ∈ x.ms ++ Zc x.s [m] := List.getElem_mem hj
    show x.n.seen < ((x.ms ++ Zc x.s [m])[j]).stamp
    rcases List.mem_append.1 hmem with hm | hm
    · obtain ⟨q, hq, e⟩ := List.getElem_of_mem hm
      rw [← e]; exact q8 q hq
    · obtain ⟨z, hz, e⟩ := JE hm
      simp at hz; subst hz
      rw [e]
      have := p.sn _ (p.t.nd hx).2.2
      have := p.st
      omega
theorem tree (p : InjOf c l ss m) : Tree c (Yb l (Yh (Za l 0) m)) (ss.map (gI l m)) := by
  have hsm := p.t.sml
  refine Zdo p.t.cfg (by rw [p.len]; exact p.t.pos) (ZdR p.t.cfg (by rw [p.len]; exact hsm.1) fun n hn => ?_) p.slots p.fix (fun z hz => ?_) p.perm ?_ (by rw [p.len]; exact p.t.q.1.2.2) fun z hz => ?_
  · have old : ∀ n ∈ l, n.R c.fan c.leaf c.bud := fun n hn => by
      have := (p.t.perm.mem_iff).2 hn
      obtain ⟨x, hx, rfl⟩ := List.mem_map.1 this
      exact (p.t.seat hx).1
    rcases List.mem_or_eq_of_mem_set hn with hn | rfl
    · exact old n hn
    · exact p.nR
  · obtain ⟨x, hx, rfl⟩ := List.mem_map.1 hz
    exact (p.each hx).1
  · rw [p.keys]; exact (ZbK ss).1 p.t.q.1.2.1
  · obtain ⟨x, hx, rfl⟩ := List.mem_map.1 hz
    exact p.seats9 x hx
theorem map (p : InjOf c l ss m) : Zh (Yb l (Yh (Za l 0) m)) = takeN (Zh l) m := by
  have t' := p.tree
  have hk : m.key.b.size < 140737488355328 := by have := p.mR.1.2.1; omega
  have hkd : 1 ≤ m.kind ∧ m.kind ≤ 4 := by
    have h := p.mR.2
    split at h
    · omega
    · rcases h.2.2 with h | h | h <;> omega
  refine ZjX t'.srt (J1.1 (p.t.mapFits.takeM p.mR.1.2.1 p.mR.1.2.2.1)).2 fun k => ?_
  rw [Zhi hk hkd.1 hkd.2, ← p.t.lookup k, ← t'.lookup k]
  have hL := p.t.leafOk k
  have hne : (Zt l k).n.slot ≠ 0 := fun e => p.h0 (by rw [← p.gx, ← p.root_of hL.mem e]; exact hL.lvl)
  have e : gI l m (Zt l k) = Zt (Yb l (Yh (Za l 0) m)) k := by
    refine t'.leaf_eq (List.mem_map.2 ⟨_, hL.mem, rfl⟩) ?_ ?_
    · rw [(p.g_same _ hL.mem).2.2.2.2.2.1]; exact hL.has
    · rw [(p.g_same _ hL.mem).2.1]; exact hL.lvl
  rw [← e, g_x hne]
  show Eff.apply (YC ((Zt l k).ms ++ Zc (Zt l k).s [m]) k) _ = _
  rw [ZeK, ZeK, List.foldl_append, Zfl hL.has]
  rfl
end InjOf
def wtM (fan : Nat) (P : List Str) (m : Msg) : Nat := if m.kind = 4 then fan - Zf P m.key else 1
def wtS (fan : Nat) (P : List Str) (l : List Msg) : Nat := (l.map (wtM fan P)).sum
def wtN (c : Cfg) (n : Nd) : Nat := wtS c.fan.toNat n.pivots n.msgs + (c.fan.toNat - n.kids.length)
theorem ZjY {fan : Nat} (hf : fan ≤ 64) (P : List Str) : ∀ l : List Msg, (wtS fan P l : Int) ≤ 2 * Zx l
 | [] => by simp [wtS, Zx]
 | m :: l => by
  have ih := ZjY hf P l
  have h1 : (wtM fan P m : Int) ≤ 2 * m.size := by
   unfold wtM Msg.size
   split
   ·omega
   ·omega
  simp only [wtS, Zx, List.map_cons, List.sum_cons] at ih ⊢
  omega
theorem ZfP {c : Cfg} {n : Nd} (hc : CfgR c) (h : n.innerR c.fan c.bud) : wtN c n ≤ 8256 := by
 obtain ⟨⟨f1, f2⟩, _, ⟨b1, b2⟩, _⟩ := hc
 have h1 := ZjY (fan := c.fan.toNat) om9 n.pivots n.msgs
 have h2 := h.2.2.2.1
 unfold wtN
 omega
theorem Zrz {fan : Nat} {P : List Str} {m : Msg} (h : Zf P m.key < fan) : 1 ≤ wtM fan P m := by
 unfold wtM; split <;> omega
theorem ZjZ {s : Span} (h : ¬ s.norm.empty = true) : s.norm.lo = s.lo := by
 unfold Span.norm at h ⊢
 split
 ·rename_i h2
  rw [if_pos h2] at h
  exact absurd (by simp [Span.empty, Span.zero, Str.lt_irrefl]) h
 ·split <;> rfl
theorem Zj0 {m : Msg} {s : Span} (h4 : m.kind = 4) (h : (m.clip s).2 = true) : (m.clip s).1.kind = 4 ∧ (m.clip s).1.key = if m.key.lt s.lo = true then s.lo else m.key := by
 unfold Msg.clip at h ⊢
 split at h
 ·cases h
 ·rename_i h2
  rw [if_neg h2, if_pos h4]
  refine ⟨h4, ?_⟩
  dsimp only
  have hs : m.span = ⟨m.key, m.hi, m.opn⟩ := if_pos h4
  rw [hs] at h2 ⊢
  unfold Span.meet at h2 ⊢
  rw [ZjZ h2]
theorem ZrA {P : List Str} {i : Int} {T : List Msg} {m m' : Msg} (h : Y7 P i T m = some m') : m' = m ∨ (m.kind = 4 ∧ (Ze P i).opn = false ∧ (m.clip ⟨(Ze P i).hi, Str.nil, true⟩).2 = true ∧ m' = (m.clip ⟨(Ze P i).hi, Str.nil, true⟩).1) := by
 unfold Y7 at h
 split at h
 ·split at h
  ·rename_i h2
   cases h
   right
   have h3 := h2.2
   unfold ZF at h3 ⊢
   split at h3
   ·cases h3
   ·rename_i h4
    rw [if_neg h4]
    exact ⟨h2.1, by simpa using h4, h3, rfl⟩
  ·cases h
 ·cases h; exact .inl rfl
theorem ZrB {fan : Nat} {P : List Str} {i : Int} {T : List Msg} {m m' : Msg} (h : Y7 P i T m = some m') : wtM fan P m' ≤ wtM fan P m := by
 rcases ZrA h with rfl | ⟨h4, _, h2, rfl⟩
 ·exact Nat.le_refl _
 ·obtain ⟨h5, h6⟩ := Zj0 h4 h2
  unfold wtM
  rw [if_pos h4, if_pos h5, h6]
  dsimp only
  have : Zf P m.key ≤ Zf P (if m.key.lt (Ze P i).hi = true then (Ze P i).hi else m.key) := by
   apply ZcA
   split
   ·rename_i h7; exact Str.lt_asymm h7
   ·exact Str.lt_irrefl _
  omega
theorem ZrC {fan : Nat} {P : List Str} {i : Nat} {T : List Msg} {m : Msg} (hr : Z1 P = true) (hT : m.stamp ∈ T.map Msg.stamp) (hi : Zf P m.key = i) (hf : i < fan) :
  ((Y7 P i T m).elim 0 (wtM fan P)) + 1 ≤ wtM fan P m := by
 cases h : Y7 P i T m with
 | none => exact Zrz om9
 | some m' =>
  show wtM fan P m' + 1 ≤ wtM fan P m
  have hiP : i ≤ P.length := by rw [← hi]; exact List.length_filter_le _ _
  unfold Y7 at h
  rw [if_pos hT] at h
  split at h
  ·rename_i h2
   cases h
   have h3 := h2.2
   unfold ZF at h3 ⊢
   split at h3
   ·cases h3
   ·rename_i h4
    rw [if_neg h4]
    obtain ⟨h5, h6⟩ := Zj0 h2.1 h3
    have hk : (Ze P (i : Int)).has m.key = true := by rw [XH hr _ hiP, hi]; simp
    have ho : (Ze P (i : Int)).opn = false := by simpa using h4
    have hlt : m.key.lt (Ze P (i : Int)).hi = true := by
     rcases (Yy.1 hk).2 with h | h
     ·rw [ho] at h; cases h
     ·exact h
    unfold wtM
    rw [if_pos h2.1, if_pos h5, h6, if_pos hlt]
    dsimp only
    have h7 : Zf P m.key ≤ Zf P (Ze P (i : Int)).hi := ZcA (Str.lt_asymm hlt)
    have h8 : Zf P (Ze P (i : Int)).hi ≠ i := fun e => by
     have h9 : (Ze P (i : Int)).has (Ze P (i : Int)).hi = true := by rw [XH hr _ hiP, e]; simp
     rcases (Yy.1 h9).2 with h | h
     ·rw [ho] at h; cases h
     ·rw [Str.lt_irrefl] at h; cases h
    omega
  ·cases h
theorem Zj1 {w : Msg → Nat} {f : Msg → Option Msg} : ∀ {l : List Msg}, (∀ m ∈ l, (f m).elim 0 w ≤ w m) → ((l.filterMap f).map w).sum ≤ (l.map w).sum
 | [], _ => by simp
 | m :: l, h => by
  have ih := Zj1 (w := w) (f := f) (l := l) fun x hx => h x (List.mem_cons_of_mem _ hx)
  have h1 := h m (by simp)
  rw [List.filterMap_cons]
  cases hf : f m with
  | none => simp only [List.map_cons, List.sum_cons]; omega
  | some x => rw [hf] at h1; simp only [List.map_cons, List.sum_cons]; dsimp only [Option.elim] at h1; omega
theorem Zj2 {w : Msg → Nat} {f : Msg → Option Msg} : ∀ {l : List Msg} {a : Msg}, (∀ m ∈ l, (f m).elim 0 w ≤ w m) → a ∈ l → (f a).elim 0 w + 1 ≤ w a → ((l.filterMap f).map w).sum + 1 ≤ (l.map w).sum
 | [], _, _, ha, _ => by cases ha
 | m :: l, a, h, ha, hl => by
  have h1 := h m (by simp)
  rw [List.filterMap_cons]
  rcases List.mem_cons.1 ha with rfl | ha
  ·have ih := Zj1 (w := w) (f := f) (l := l) fun x hx => h x (List.mem_cons_of_mem _ hx)
   cases hf : f a with
   | none => rw [hf] at hl; simp only [List.map_cons, List.sum_cons]; dsimp only [Option.elim] at hl; omega
   | some x => rw [hf] at hl; simp only [List.map_cons, List.sum_cons]; dsimp only [Option.elim] at hl; omega
  ·have ih := Zj2 (w := w) (f := f) (l := l) (fun x hx => h x (List.mem_cons_of_mem _ hx)) ha hl
   cases hf : f m with
   | none => simp only [List.map_cons, List.sum_cons]; omega
   | some x => rw [hf] at h1; simp only [List.map_cons, List.sum_cons]; dsimp only [Option.elim] at h1; omega
theorem Poured.lighter {c : Cfg} {p k : Nd} {i : Nat} {a b : Nd} {T : List Msg} (h : Poured c p k i a b T) (hr : Z1 p.pivots = true) (hi : i < c.fan.toNat) : wtN c a + 1 ≤ wtN c p := by
 obtain ⟨n, hn, hle, hT⟩ := h.take
 obtain ⟨x0, hx⟩ : ∃ x, x ∈ T := ⟨_, List.getElem_mem h.ne⟩
 have hx2 : x0 ∈ Zd p.pivots p.msgs i := by
  rw [hT] at hx
  exact List.mem_of_mem_take hx
 obtain ⟨m, hm, h2⟩ := List.mem_filterMap.1 hx2
 unfold XC at h2
 split at h2
 ·rename_i h3
  have e : (m.clip (Ze p.pivots i)).1 = x0 := Option.some.inj h2
  have hst : m.stamp ∈ T.map Msg.stamp := by
   rw [← XZ h3.2, e]
   exact List.mem_map_of_mem hx
  have key := Zj2 (w := wtM c.fan.toNat p.pivots) (f := Y7 p.pivots i T) (l := p.msgs) (a := m) (fun x _ => by
   cases hf : Y7 p.pivots i T x with
   | none => exact Nat.zero_le _
   | some y => exact ZrB hf) (ZdD hm) (ZrC hr hst om9 hi)
  rw [h.ea]
  unfold wtN wtS
  dsimp only
  unfold ZK
  omega
 ·cases h2
theorem ZrD {c : Cfg} {n : Nd} {i : Nat} {k : Str} {v : Int} (hf : (n.kids.length : Int) < c.fan) (hi : i < n.kids.length) : wtN c (Y9 n i k v) + 1 ≤ wtN c n := by
 have h1 : ∀ l : List Msg, wtS c.fan.toNat ((n.pivots.take i ++ [k]) ++ n.pivots.drop i) l ≤ wtS c.fan.toNat n.pivots l := by
  intro l
  induction l with
  | nil => exact Nat.le_refl _
  | cons m l ih =>
   have h2 : wtM c.fan.toNat ((n.pivots.take i ++ [k]) ++ n.pivots.drop i) m ≤ wtM c.fan.toNat n.pivots m := by
    unfold wtM
    rw [Ziu]
    split
    ·omega
    ·exact Nat.le_refl _
   simp only [wtS, List.map_cons, List.sum_cons] at ih ⊢
   omega
 have h3 := h1 n.msgs
 have h4 : ((n.kids.take (i + 1) ++ [v]) ++ n.kids.drop (i + 1)).length = n.kids.length + 1 := by simp; omega
 unfold wtN Y9
 dsimp only
 rw [h4]
 omega
theorem Zj3 {c : Cfg} {n n' : Nd} (h0 : ¬ n.level = 0) (h1 : n'.level = n.level) (h2 : n'.kids.length = n.kids.length) : ZN c n' = ZN c n := by
 unfold ZN
 rw [if_neg h0, if_neg (by rw [h1]; exact h0), h2]
theorem ZdU {c : Cfg} {l : List Nd} {ss : List Seat} (t : Tree c l ss) {a : Int} (ha : 0 ≤ a ∧ a < l.length) (h0 : ¬ (Za l a).level = 0) : wtN c (Za l a) ≤ 8256 := by
 obtain ⟨P, hP, e⟩ := t.seat_of ha
 rw [← e] at h0 ⊢
 exact ZfP t.cfg (t.inner hP h0)
theorem Zj4 {c : Cfg} {l : List Nd} {ss : List Seat} {P : Seat} {i : Nat} {x y : Nd} {T : List Msg} (p : PourOf c l ss P i x y T) (s : Int) :
  Za (ZW l x y) s = if s = y.slot then y else if s = x.slot then x else Za l s := by
 have hx : 0 ≤ x.slot ∧ x.slot < l.length := by rw [p.al.1]; exact p.sin p.mem
 have hy : 0 ≤ y.slot ∧ y.slot < l.length := by rw [p.bl.1]; exact p.sin p.km.1
 unfold ZW
 rw [Zap (by rw [List.length_set]; exact hy), Zap hx]
theorem ZrE {c : Cfg} {l : List Nd} {ss : List Seat} {P : Seat} {i : Nat} {x y : Nd} {T : List Msg} (p : PourOf c l ss P i x y T) : Za (ZW l x y) P.n.slot = x := by
 rw [Zj4 p, p.bl.1, p.al.1, if_neg p.ksl.symm, if_pos rfl]
theorem Zj5 {c : Cfg} {l : List Nd} {ss : List Seat} (t : Tree c l ss) {a i : Int} {P : Seat} (s : StepAt c l ss a i P) (h : 0 < ZY c.leaf c.bud (Za l a) (Zm l a i) i) :
  ∃ x y, ZW l (Z8 c.leaf c.bud (Za l a) (Zm l a i) i).1 (Z8 c.leaf c.bud (Za l a) (Zm l a i) i).2.1 = ZW l x y ∧ Za (ZW l x y) a = x ∧ (ZW l x y).length = l.length ∧ x.slot = (Za l a).slot ∧ x.level = (Za l a).level ∧ x.kids = (Za l a).kids ∧ wtN c x + 1 ≤ wtN c (Za l a) ∧
   ∀ q : Int, (Za (ZW l x y) q).level = (Za l q).level ∧ (Za (ZW l x y) q).kids = (Za l q).kids := by
 obtain ⟨T, p⟩ := s.pour t h
 have hn := s.n
 have hs := s.slot
 have hf : i.toNat < c.fan.toNat := by
  have h1 := s.hi
  have h2 := p.pin.1.2.2
  omega
 have hi : ((i.toNat : Nat) : Int) = i := by have := s.hi; omega
 have hlt := Poured.lighter p.po p.rt.1 hf
 rw [hn] at hlt
 refine ⟨_, _, rfl, ?_, p.len, ?_, ?_, ?_, hlt, fun q => ?_⟩
 ·have := ZrE p
  rwa [hs] at this
 ·exact p.al.1.trans (by rw [hn])
 ·exact p.al.2.1.trans (by rw [hn])
 ·exact p.al.2.2.2.1.trans (by rw [hn])
 ·rw [Zj4 p]
  have hk := (p.t.nd p.km.1).2.1
  have hp := (p.t.nd p.mem).2.1
  split
  ·rename_i e
   rw [e, p.bl.1, ← hk]; exact ⟨p.bl.2.1, p.bl.2.2.2.1⟩
  ·split
   ·rename_i e
    rw [e, p.al.1, ← hp]; exact ⟨p.al.2.1, p.al.2.2.2.1⟩
   ·exact ⟨rfl, rfl⟩
theorem Zj6 {n : Nd} {i : Nat} {k : Str} {v : Int} (h : (Xi n i k v).2 = true) : (Xi n i k v).1 = Y9 n i k v ∧ i < n.kids.length := by
 unfold Xi at h ⊢
 split at h
 ·cases h
 ·rename_i h2
  rw [if_neg h2]
  by_cases h3 : n.kids.length ≤ i ∨ (Ze n.pivots (i : Int)).has k = false ∨ k = (Ze n.pivots (i : Int)).lo
  ·exact absurd (.inr (Zgg h3)) h2
  ·have h4 : ¬ n.kids.length ≤ i := fun e => h3 (.inl e)
   have h5 : (Ze n.pivots (i : Int)).has k = true := by
    cases h6 : (Ze n.pivots (i : Int)).has k
    ·exact absurd (.inr (.inl h6)) h3
    ·rfl
   rw [Zd5 h4 h5 (fun e => h3 (.inr (.inr e)))]
   exact ⟨rfl, om9⟩
theorem ZrF {c : Cfg} {l : List Nd} {a i : Int} (h : (ZQ c l a i).1 = 0) (hl : (Za l a).slot = a) :
  l.length ≤ (ZQ c l a i).2.length ∧ ∃ k v, Za (ZQ c l a i).2 a = Y9 (Za l a) i.toNat k v ∧ i.toNat < (Za l a).kids.length ∧ ZN c (Za l a) = false := by
 refine ⟨ZfO c l a i, ?_⟩
 unfold ZQ at h ⊢
 split at h
 ·cases h
 ·rename_i hi
  rw [if_neg hi]
  by_cases h1 : 0 ≤ a ∧ a < l.length
  ·by_cases h2 : (Za l a).kids.length ≤ i.toNat
   ·rw [Zal (.inr (.inl h2))] at h; cases h
   ·by_cases h3 : 0 ≤ kdN l a i.toNat ∧ kdN l a i.toNat < l.length
    ·cases h4 : ZN c (Za l a)
     ·by_cases h5 : (Ys l a i.toNat).2.2.2 = true
      ·by_cases h6 : (adP l a i.toNat).2 = true
       ·by_cases h7 : (l.length : Int) < c.slots
        ·rw [Zdy h1 h2 h3 h4 h5 h6 h7]
         obtain ⟨e1, e2⟩ := Zj6 (n := Za l a) h6
         refine ⟨(Ys l a i.toNat).2.2.1, (l.length : Int), ?_, e2, rfl⟩
         have hsl := ZiU h6
         unfold J6
         dsimp only
         rw [ZcM]
         rw [if_neg (by simp only [List.length_set]; omega)]
         have hx : (adP l a i.toNat).1.slot = a := hsl.trans hl
         have := Zap (l := l.set (Ys l a i.toNat).1.slot.toNat (Ys l a i.toNat).1) (x := (adP l a i.toNat).1) (by rw [hx, List.length_set]; exact h1) a
         rw [hx, if_pos rfl] at this
         rw [this]
         exact e1
        ·rw [Zdx h1 h2 h3 h4 h5 h6 h7] at h; cases h
       ·rw [ZbP h1 h2 h3 h4 (.inr (by simpa using h6))] at h; cases h
      ·rw [ZbP h1 h2 h3 h4 (.inl (by simpa using h5))] at h; cases h
     ·rw [Zfq h1 h2 h3 h4] at h; cases h
    ·rw [Zal (.inr (.inr h3))] at h; cases h
  ·rw [Zal (.inl h1)] at h; cases h
theorem Zj7 {c : Cfg} {l : List Nd} {a i : Int} (h0 : ¬ (Za l a).level = 0) (h : (ZQ c l a i).1 = 0) (hl : (Za l a).slot = a) :
  (Za (ZQ c l a i).2 a).slot = a ∧ (Za (ZQ c l a i).2 a).level = (Za l a).level ∧ wtN c (Za (ZQ c l a i).2 a) + 1 ≤ wtN c (Za l a) := by
 obtain ⟨_, k, v, e, hi, hf⟩ := ZrF h hl
 rw [e]
 refine ⟨hl, rfl, ZrD ?_ hi⟩
 unfold ZN at hf
 rw [if_neg h0, decide_eq_false_iff_not] at hf
 omega
def LowP (c : Cfg) (l : List Nd) (a : Int) : Prop := ¬ (Za l a).slot = 0 ∨ (2 ≤ (Za l a).level ∧ ZN c (Za l a) = false ∧ ∀ j : Nat, j < (Za l a).kids.length → ZN c (Zm l a j) = false)
theorem ZdV {c : Cfg} {n : Nd} {k : Str} (h : (ZD c n k).1 = 1) : ¬ n.level = 0 ∧ n.slot = 0 ∧ ZN c n = true := by
 unfold ZD at h
 split at h
 ·cases h
 ·rename_i h0
  split at h
  ·rename_i h1; exact ⟨h0, h1.1, h1.2⟩
  ·cases h
theorem Zbd {c : Cfg} {l : List Nd} {ss : List Seat} (t : Tree c l ss) {a i : Int} {P : Seat} (s : StepAt c l ss a i P) : ¬ (Zm l a i).slot = 0 ∧ (Zm l a i).level = (Za l a).level - 1 ∧ Za l (Zm l a i).slot = Zm l a i ∧ 0 ≤ (Zm l a i).slot ∧ (Zm l a i).slot < l.length := by
 have hk := t.at s.mem s.h0 (j := i.toNat) (by have := s.hi; omega)
 have hlv := hk.2.2.2
 rw [s.kid, s.n] at hlv
 refine ⟨fun e => ?_, hlv, by rw [s.ksl]; rfl, by rw [s.ksl]; exact s.kin.1, by rw [s.ksl]; exact s.kin.2⟩
 have h1 := t.nodup_s
 rw [t.fix, List.map_cons, List.nodup_cons] at h1
 refine h1.1 (List.mem_map.2 ⟨Zb l P i.toNat, List.mem_flatMap.2 ⟨P, s.mem, ?_⟩, ?_⟩)
 ·rw [(Yd (t.kids s.mem) s.h0).1]
  exact List.mem_map.2 ⟨i.toNat, List.mem_range.2 (by have := s.hi; omega), rfl⟩
 ·rw [s.kid, e, t.rootn, (YQ t.slot ⟨Int.le_refl _, by have := t.pos; omega⟩).1]
theorem ZrG {c : Cfg} {p k : Nd} {i : Int} (h : Z9 c p k i = 3) : (0 < k.level ∧ ZN c k = true) ∨ ¬ 0 < k.level := by
 unfold Z9 at h
 split at h
 ·rename_i h1; exact .inl h1
 ·split at h
  ·cases h
  ·split at h
   ·cases h
   ·rename_i h3; exact .inr h3
theorem ZfQ {c : Cfg} {p k : Nd} {i : Int} (h : Z9 c p k i = 5) : 0 < k.level ∧ ZN c k = false ∧ ¬ 0 < ZY c.leaf c.bud p k i := by
 unfold Z9 at h
 split at h
 ·split at h <;> cases h
 ·rename_i h1
  split at h
  ·cases h
  ·rename_i h2
   split at h
   ·rename_i h3
    refine ⟨h3, ?_, h2⟩
    cases h4 : ZN c k
    ·rfl
    ·exact absurd ⟨h3, h4⟩ h1
   ·split at h
    ·split at h <;> cases h
    ·cases h
theorem Zj8 {c : Cfg} {k : Str} : ∀ (m : Nat) {l : List Nd} {ss : List Seat} {a n : Int}, Tree c l ss → 0 ≤ a ∧ a < l.length → LowP c l a → (Za l a).level.toNat * 8300 + wtN c (Za l a) ≤ m → ∃ r, Y8 c k (m + 1) l a n = some r := by
 intro m
 induction m using Nat.strongRecOn with
 | _ m ih =>
  intro l ss a n t ha hp hm
  rcases JB c (Za l a) k with h | h | ⟨h, h0, _⟩
  ·exact ⟨_, XK (by rw [Jw h])⟩
  ·obtain ⟨_, h2, h3⟩ := ZdV h
   rcases hp with hp | ⟨_, hp, _⟩
   ·exact absurd h2 hp
   ·rw [hp] at h3; cases h3
  ·obtain ⟨_, hi1, hi2⟩ := Zas t ha h
   obtain ⟨P, s⟩ := J8 t ha h0 ⟨hi1, hi2⟩
   have hst := Jx h
   have hsl := (YQ t.slot ha).1
   obtain ⟨T, hT, _⟩ := ZaM t ha k
   have hnx := Zbc t ha k
   have hlv : 0 < (Za l a).level := by have := s.kof.1; exact this
   rcases Jh c (Za l a) (Zm l a (ZD c (Za l a) k).2) (ZD c (Za l a) k).2 with hd | hd | ⟨hd, hd2⟩ | hd
   ·exact ⟨_, XK (by rw [hst, JT hd])⟩
   ·by_cases h3 : (ZQ c l a (ZD c (Za l a) k).2).1 = 0
    ·have e := hst.trans (Jy hd h3)
     obtain ⟨g1, g2, g3⟩ := Zj7 h0 h3 hsl
     rw [X2 (by rw [e]; simp) (by rw [e]; simp)]
     rw [e] at hT hnx ⊢
     dsimp only at hT hnx ⊢
     obtain ⟨m2, rfl⟩ : ∃ m2, m = m2 + 1 := ⟨m - 1, om9⟩
     refine ih m2 om9 hT hnx ?_ (by rw [g2]; omega)
     rcases hp with hp | ⟨q1, q2, q3⟩
     ·left; rw [g1]; rw [hsl] at hp; exact hp
     ·exfalso
      have hk := Zbd t s
      have hf := q3 (ZD c (Za l a) k).2.toNat om9
      rw [show (((ZD c (Za l a) k).2.toNat : Nat) : Int) = (ZD c (Za l a) k).2 by omega] at hf
      rcases ZrG hd with ⟨_, h5⟩ | h5
      ·rw [hf] at h5; cases h5
      ·omega
    ·exact ⟨_, XK (by rw [hst, Jz hd h3])⟩
   ·have e := hst.trans (Y1 hd)
    obtain ⟨x, y, e2, g1, g2, g3, g4, g5, g6, g7⟩ := Zj5 t s hd2
    rw [e2] at e
    rw [X2 (by rw [e]; simp) (by rw [e]; simp)]
    rw [e] at hT hnx ⊢
    dsimp only at hT hnx ⊢
    obtain ⟨m2, rfl⟩ : ∃ m2, m = m2 + 1 := ⟨m - 1, om9⟩
    refine ih m2 om9 hT hnx ?_ (by rw [g1, g4]; omega)
    rcases hp with hp | ⟨q1, q2, q3⟩
    ·left; rw [g1, g3]; exact hp
    ·right
     rw [g1]
     refine ⟨by rw [g4]; exact q1, (Zj3 h0 g4 (by rw [g5])).trans q2, fun j hj => ?_⟩
     rw [g5] at hj
     have ek : Zm (ZW l x y) a j = Za (ZW l x y) ((Za l a).kids.getD j 0) := by
      unfold Zm
      rw [g1, g5, Int.toNat_natCast]
     have ek2 : Zm l a j = Za l ((Za l a).kids.getD j 0) := by unfold Zm; rw [Int.toNat_natCast]
     have h7 := g7 ((Za l a).kids.getD j 0)
     obtain ⟨P2, s2⟩ := J8 t ha h0 (i := (j : Int)) ⟨om9, om9⟩
     have hk2 := (Zbd t s2).2.1
     rw [ek, Zj3 (n := Zm l a j) (by rw [hk2]; omega) (by rw [ek2]; exact h7.1) (by rw [ek2, h7.2])]
     exact q3 j hj
   ·have e := hst.trans (JA hd)
    obtain ⟨k1, k2, k3, k4⟩ := Zbd t s
    have h5 := ZfQ hd
    rw [Zat (by rw [e])]
    rw [e] at hT hnx ⊢
    dsimp only at hT hnx ⊢
    obtain ⟨m2, rfl⟩ : ∃ m2, m = m2 + 1 := ⟨m - 1, om9⟩
    have hw := ZdU t (a := (Zm l a (ZD c (Za l a) k).2).slot) k4 (by rw [k3]; omega)
    refine ih m2 om9 t k4 (.inl (by rw [k3]; exact k1)) ?_
    rw [k3] at hw ⊢
    omega
theorem ZrH {c : Cfg} {l : List Nd} {ss : List Seat} (t : Tree c l ss) (h0 : ¬ (Za l 0).level = 0) (h : (ZS c l).1 = 0) : LowP c (ZS c l).2 0 ∧ (Za (ZS c l).2 0).level = (Za l 0).level + 1 := by
 have hp := t.pos
 obtain ⟨P, hP, eP⟩ := t.seat_of (a := 0) ⟨Int.le_refl _, om9⟩
 have hin := t.inner hP (by rw [eP]; exact h0)
 rw [eP] at hin
 have hlv := t.lvl hP
 rw [eP] at hlv
 by_cases hk : (Z5 (Za l 0) l.length ((l.length : Int) + 1)).2.2.2 = true
 ·by_cases hr : c.slots.toNat - l.length < 2
  ·rw [Za9 hk hr] at h; cases h
  ·rw [ZbO hk hr]
   have hc : (Zp (Za l 0) ((l.length : Int) + 1)).2.2.2 = true := by rw [← Zaq _ (l.length : Int)]; exact hk
   obtain ⟨x, y, q, hh, e, hv, _⟩ := ZdQ (t.seat hP).1 (y := (l.length : Int) + 1) (by rw [eP]; exact hc)
   rw [eP] at e hv
   rw [Zbb hc, e]
   obtain ⟨_, _, hh2, _, ka, _, kb, _⟩ : True ∧ True ∧ hh < (Za l 0).pivots.length ∧ True ∧ x.kids = (Za l 0).kids.take (hh + 1) ∧ True ∧ y.kids = (Za l 0).kids.drop (hh + 1) ∧ True := by
    obtain ⟨_, _, g1, _, _, g2, _, g3⟩ := hv.inner h0
    exact ⟨trivial, trivial, g1, trivial, g2, trivial, g3, trivial⟩
   have hpl := (Y3 hin.2.1).2
   have hfan := hin.1.2.2
   obtain ⟨⟨f1, f2⟩, _⟩ := t.cfg
   have e0 : Za (YU l (Jg (Za l 0) q l.length ((l.length : Int) + 1)) (Yv (Za l 0) x l.length) (Yv (Za l 0) y y.slot)) 0 = Jg (Za l 0) q l.length ((l.length : Int) + 1) := by
    have := Zag (l := YU l (Jg (Za l 0) q l.length ((l.length : Int) + 1)) (Yv (Za l 0) x l.length) (Yv (Za l 0) y y.slot)) (k := 0) (by unfold YU; simp)
    refine Eq.trans this ?_
    unfold YU
    rw [List.getElem_append_left (by simp; exact hp), List.getElem_set_self]
   have ek : ∀ (j : Nat) (z : Nd), (YU l (Jg (Za l 0) q l.length ((l.length : Int) + 1)) (Yv (Za l 0) x l.length) (Yv (Za l 0) y y.slot))[l.length + j]? = some z → Za (YU l (Jg (Za l 0) q l.length ((l.length : Int) + 1)) (Yv (Za l 0) x l.length) (Yv (Za l 0) y y.slot)) ((l.length : Int) + j) = z := fun j z hz => by
    obtain ⟨g1, g2⟩ := List.getElem?_eq_some_iff.1 hz
    have := Zag g1
    rw [show (((l.length + j : Nat)) : Int) = (l.length : Int) + j by omega] at this
    rw [this]; exact g2
   have ex : Za (YU l (Jg (Za l 0) q l.length ((l.length : Int) + 1)) (Yv (Za l 0) x l.length) (Yv (Za l 0) y y.slot)) (l.length : Int) = Yv (Za l 0) x l.length := by
    have := ek 0 (Yv (Za l 0) x l.length) (by unfold YU; rw [List.getElem?_append_right (by simp)]; simp)
    simpa using this
   have ey : Za (YU l (Jg (Za l 0) q l.length ((l.length : Int) + 1)) (Yv (Za l 0) x l.length) (Yv (Za l 0) y y.slot)) ((l.length : Int) + 1) = Yv (Za l 0) y y.slot := by
    have := ek 1 (Yv (Za l 0) y y.slot) (by unfold YU; rw [List.getElem?_append_right (by simp)]; simp)
    simpa using this
   refine ⟨.inr ?_, by rw [e0]; rfl⟩
   dsimp only
   rw [e0]
   refine ⟨by show 2 ≤ (Za l 0).level + 1; omega, ?_, fun j hj => ?_⟩
   ·unfold ZN
    rw [if_neg (by show ¬ (Za l 0).level + 1 = 0; omega), decide_eq_false_iff_not]
    show ¬ c.fan ≤ ((2 : Nat) : Int)
    omega
   ·have hj2 : j < 2 := hj
    unfold Zm
    rw [e0]
    have hlx : x.level = (Za l 0).level := hv.la
    have hly : y.level = (Za l 0).level := hv.lb
    have hkx : x.kids.length = hh + 1 := by rw [ka, List.length_take]; omega
    have hky : y.kids.length = (Za l 0).kids.length - (hh + 1) := by rw [kb, List.length_drop]
    rcases (by omega : j = 0 ∨ j = 1) with rfl | rfl
    ·show ZN c (Za _ (l.length : Int)) = false
     rw [ex]
     unfold ZN Yv
     dsimp only
     rw [if_neg (by rw [hlx]; exact h0), decide_eq_false_iff_not]
     omega
    ·show ZN c (Za _ ((l.length : Int) + 1)) = false
     rw [ey]
     unfold ZN Yv
     dsimp only
     rw [if_neg (by rw [hly]; exact h0), decide_eq_false_iff_not]
     omega
 ·rw [Zdw (by simpa using hk)] at h; cases h
theorem ZrI {c : Cfg} {k : Str} (v : Nat) : ∀ (w : Nat) {l : List Nd} {ss : List Seat} {n : Int}, Tree c l ss → (Za l 0).level.toNat = v → wtN c (Za l 0) ≤ w → 8256 ≤ w + 8256 → ∃ r, Y8 c k ((v + 2) * 8300 + w + 1) l 0 n = some r := by
 intro w
 induction w using Nat.strongRecOn with
 | _ w ih =>
  intro l ss n t hv hw hx
  have ha : (0 : Int) ≤ 0 ∧ (0 : Int) < l.length := ⟨Int.le_refl _, by have := t.pos; omega⟩
  obtain ⟨T, hT, _⟩ := ZaM t ha k
  have hnx := Zbc t ha k
  have hsl := (YQ t.slot ha).1
  rcases JB c (Za l 0) k with h | h | ⟨h, h0, _⟩
  ·exact ⟨_, XK (by rw [Jw h])⟩
  ·obtain ⟨h0, h2, h3⟩ := ZdV h
   by_cases hl : (ZS c l).1 = 0
   ·have e := JR h hl
    rw [X2 (by rw [e]; simp) (by rw [e]; simp)]
    rw [e] at hT hnx ⊢
    dsimp only at hT hnx ⊢
    obtain ⟨g1, g2⟩ := ZrH t h0 hl
    have hlv : 0 ≤ (Za l 0).level := by
     obtain ⟨P, hP, eP⟩ := t.seat_of ha
     rw [← eP]; exact t.lvl hP
    have hw2 := ZdU hT (a := 0) hnx (by rw [g2]; omega)
    have := Zj8 (k := k) ((v + 2) * 8300 + w - 1) (n := n + 1) hT hnx g1 (by rw [g2]; omega)
    rwa [show (v + 2) * 8300 + w - 1 + 1 = (v + 2) * 8300 + w by omega] at this
   ·exact ⟨_, XK (by rw [JS h hl])⟩
  ·obtain ⟨_, hi1, hi2⟩ := Zas t ha h
   obtain ⟨P, s⟩ := J8 t ha h0 ⟨hi1, hi2⟩
   have hst := Jx h
   have hlv : 0 < (Za l 0).level := by have := s.kof.1; exact this
   rcases Jh c (Za l 0) (Zm l 0 (ZD c (Za l 0) k).2) (ZD c (Za l 0) k).2 with hd | hd | ⟨hd, hd2⟩ | hd
   ·exact ⟨_, XK (by rw [hst, JT hd])⟩
   ·by_cases h3 : (ZQ c l 0 (ZD c (Za l 0) k).2).1 = 0
    ·have e := hst.trans (Jy hd h3)
     obtain ⟨g1, g2, g3⟩ := Zj7 h0 h3 hsl
     rw [X2 (by rw [e]; simp) (by rw [e]; simp)]
     rw [e] at hT hnx ⊢
     dsimp only at hT hnx ⊢
     have := ih (w - 1) om9 (n := n + 1) hT (by rw [g2]; exact hv) om9 om9
     rwa [show (v + 2) * 8300 + (w - 1) + 1 = (v + 2) * 8300 + w by omega] at this
    ·exact ⟨_, XK (by rw [hst, Jz hd h3])⟩
   ·have e := hst.trans (Y1 hd)
    obtain ⟨x, y, e2, g1, g2, g3, g4, g5, g6, g7⟩ := Zj5 t s hd2
    rw [e2] at e
    rw [X2 (by rw [e]; simp) (by rw [e]; simp)]
    rw [e] at hT hnx ⊢
    dsimp only at hT hnx ⊢
    have := ih (w - 1) om9 (n := n + 1) hT (by rw [g1, g4]; exact hv) (by rw [g1]; omega) om9
    rwa [show (v + 2) * 8300 + (w - 1) + 1 = (v + 2) * 8300 + w by omega] at this
   ·have e := hst.trans (JA hd)
    obtain ⟨k1, k2, k3, k4⟩ := Zbd t s
    have h5 := ZfQ hd
    rw [Zat (by rw [e])]
    rw [e] at hT hnx ⊢
    dsimp only at hT hnx ⊢
    have hw := ZdU t (a := (Zm l 0 (ZD c (Za l 0) k).2).slot) k4 (by rw [k3]; omega)
    have := Zj8 (k := k) ((v + 2) * 8300 + w - 1) (n := n) t k4 (.inl (by rw [k3]; exact k1)) (by rw [k3] at hw ⊢; omega)
    rwa [show (v + 2) * 8300 + w - 1 + 1 = (v + 2) * 8300 + w by omega] at this
theorem ZbX {c : Cfg} {k : Str} : ∀ (m : Nat) {l : List Nd} {a n : Int} {r : Int × Int × List Nd}, Y8 c k m l a n = some r → n ≤ r.1
 | 0, _, _, _, _, h => by cases h
 | m + 1, l, a, n, r, h => by
  by_cases h0 : (ZE c l a k).1.1 = 0
  ·rw [XK h0] at h; cases h; exact Int.le_refl _
  ·by_cases h5 : (ZE c l a k).1.1 = 5
   ·rw [Zat h5] at h; exact ZbX m h
   ·rw [X2 h0 h5] at h
    have := ZbX m h
    omega
theorem ZrJ {P : List Str} {l : List Msg} (hr : Z1 P = true) (hR : ∀ m ∈ l, m.R) (h : 0 < l.length) : 0 < (Zd P l (Xu P l).1).length := by
 have h1 := ZpF (P := P) h
 rw [Zfu h]
 have h2 : ∃ m ∈ Zj l, Zf P m.key = YT (wOf P (Zj l)) (P.length + 1) := by
  apply Classical.byContradiction
  intro hn
  have : (Zj l).filter (fun m => decide (Zf P m.key = YT (wOf P (Zj l)) (P.length + 1))) = [] := by
   rw [List.filter_eq_nil_iff]
   intro m hm h3
   exact hn ⟨m, hm, of_decide_eq_true h3⟩
  unfold wOf at h1 this
  rw [this] at h1
  simp [Zx] at h1
 obtain ⟨m, hm, e⟩ := h2
 have hmR := hR m (ZdD hm)
 have hb : YT (wOf P (Zj l)) (P.length + 1) ≤ P.length := by rw [← e]; exact List.length_filter_le _ _
 have hcl : (m.clip (Ze P ((YT (wOf P (Zj l)) (P.length + 1) : Nat) : Int))).2 = true := by
  have hne : ¬ (m.span.meet (Ze P ((YT (wOf P (Zj l)) (P.length + 1) : Nat) : Int))).empty = true := fun h => by
   have := YN.1 h m.key
   rw [ZO, Msg.has_key hmR, XH hr _ hb, e] at this
   simp at this
  unfold Msg.clip
  rw [if_neg hne]
  split <;> rfl
 dsimp only
 refine List.length_pos_of_mem (a := (m.clip (Ze P ((YT (wOf P (Zj l)) (P.length + 1) : Nat) : Int))).1) (List.mem_filterMap.2 ⟨m, hm, ?_⟩)
 unfold XC
 rw [if_pos ⟨om9, hcl⟩]
theorem ZrK {c : Cfg} {p k : Nd} {i : Int} (hp : ZN c p = false) (hf : 0 < (Zd p.pivots p.msgs i).length) : ¬ Z9 c p k i = 0 := by
 unfold Z9
 split
 ·rw [if_neg (by rw [hp]; simp)]; simp
 ·split
  ·simp
  ·split
   ·simp
   ·first
    | (rw [if_pos hf, if_neg (by rw [hp]; simp)]; simp; done)
    | (rw [if_neg (by rw [hp]; simp)]; simp)
theorem Zj9 {c : Cfg} {p k : Nd} {i : Int} (h : Z9 c p k i = 3) : (0 < k.level ∧ ZN c k = true) ∨ (¬ 0 < k.level ∧ ¬ 0 < ZY c.leaf c.bud p k i) := by
 unfold Z9 at h
 split at h
 ·rename_i h1; exact .inl h1
 ·split at h
  ·cases h
  ·rename_i h2
   split at h
   ·cases h
   ·rename_i h3; exact .inr ⟨h3, h2⟩
theorem Zka {m : Msg} (h : m.R) : m.size ≤ 36 := by
 have := YW h
 unfold Msg.size
 split <;> omega
theorem ZfR {c : Cfg} {p k : Nd} {i : Int} (hc : CfgR c) (hk : KidOf p k i) (hR : ∀ m ∈ Zd p.pivots p.msgs i, m.R) (hf : 0 < (Zd p.pivots p.msgs i).length) (h : ¬ 0 < ZY c.leaf c.bud p k i) :
  (k.level = 0 → 2 ≤ k.rows.length) ∧ (¬ k.level = 0 → 0 < k.msgs.length) := by
 obtain ⟨_, ⟨l1, l2⟩, ⟨b1, b2⟩, _⟩ := hc
 rw [ZbS hk] at h
 obtain ⟨m, L, e⟩ : ∃ m L, Zd p.pivots p.msgs i = m :: L := by
  cases hh : Zd p.pivots p.msgs i with
  | nil => rw [hh] at hf; cases hf
  | cons m L => exact ⟨m, L, rfl⟩
 have hmR := hR m (by rw [e]; simp)
 rw [e] at h
 refine ⟨fun h0 => ?_, fun h0 => ?_⟩
 ·rw [Zja h0] at h
  dsimp only at h
  unfold Ye at h
  split at h
  ·dsimp only at h; omega
  ·rename_i h2
   rw [ZkB hmR] at h2
   unfold Zd1 at h2
   simp only [Bool.or_eq_true, decide_eq_true_eq, not_or] at h2
   omega
 ·rw [Zfy h0 rfl] at h
  dsimp only at h
  unfold Xh at h
  split at h
  ·omega
  ·rename_i h2
   apply Classical.byContradiction
   intro h3
   have h4 : k.msgs = [] := List.eq_nil_of_length_eq_zero om9
   apply h2
   rw [h4]
   have := Zka hmR
   simp [Yg, Zx]
   omega
theorem Zkb {n : Nd} {y : Int} (h0 : n.level = 0) (h : 2 ≤ n.rows.length) : (Zp n y).2.2.2 = true := by
 rw [Zak, ZaU h0]
 dsimp only
 rw [ZeG om9]
theorem ZfS {n : Nd} {y : Int} (h0 : ¬ n.level = 0) (hr : Yt n.pivots n.kids.length = true) (h : 4 ≤ n.kids.length) : (Zp n y).2.2.2 = true := by
 rw [Zak, ZaV h0 hr]
 dsimp only
 have := (Y3 hr).2
 rw [ZgO om9]
theorem ZrL {n : Nd} {i : Nat} {k : Str} {v : Int} (h0 : ¬ n.level = 0) (hi : i < n.kids.length) (hk : (Ze n.pivots (i : Int)).has k = true) (hl : ¬ k = (Ze n.pivots (i : Int)).lo) : (Xi n i k v).2 = true := by
 rw [Zgf h0]
 rw [Zd5 om9 hk hl]
 simp
theorem Zkc {c : Cfg} {l : List Nd} {ss : List Seat} (t : Tree c l ss) {a i : Int} {P : Seat} (ha : 0 ≤ a ∧ a < l.length) (s : StepAt c l ss a i P) (hf : ZN c (Za l a) = false)
  (h : (0 < (Zm l a i).level ∧ ZN c (Zm l a i) = true) ∨ ((Zm l a i).level = 0 ∧ 2 ≤ (Zm l a i).rows.length)) : (ZQ c l a i).1 = 0 ∨ (ZQ c l a i).1 = 4 := by
 have hi := s.hi
 have hin : i.toNat < P.n.kids.length := om9
 have hat := t.at s.mem s.h0 hin
 have hkR := t.seat hat.1
 have ec : (Zp (Zm l a i) l.length).2.2.2 = true := by
  rcases h with ⟨h1, h2⟩ | ⟨h1, h2⟩
  ·have h3 : ¬ (Zm l a i).level = 0 := om9
   have h4 := t.inner hat.1 (by rw [s.kid]; exact h3)
   rw [s.kid] at h4
   refine ZfS h3 h4.2.1 ?_
   unfold ZN at h2
   rw [if_neg h3] at h2
   have := of_decide_eq_true h2
   obtain ⟨⟨f1, _⟩, _⟩ := t.cfg
   omega
  ·exact Zkb h1 h2
 unfold ZQ
 rw [if_neg om9]
 have h3 : 0 ≤ kdN l a i.toNat ∧ kdN l a i.toNat < l.length := s.kin
 have e5 : (Ys l a i.toNat).2.2.2 = true := ec
 have e6 : (adP l a i.toNat).2 = true := by
  obtain ⟨x, y, q, hh, e, hv, _, _, _, _, _, _, hq⟩ := ZdQ hkR.1 (y := (l.length : Int)) (by rw [s.kid]; exact ec)
  obtain ⟨g1, g2⟩ := t.k_in hat.1 hv hq
  have hks : (Zb l P i.toNat).s = P.s.meet (Ze P.n.pivots ((i.toNat : Nat) : Int)) := rfl
  rw [hks, ZO, Bool.and_eq_true] at g1
  have eq : (Ys l a i.toNat).2.2.1 = q := by
   show (Zp (Zm l a i) l.length).2.2.1 = q
   rw [← s.kid, e]
  show (Xi (Za l a) i.toNat (Ys l a i.toNat).2.2.1 l.length).2 = true
  rw [eq, ← s.n]
  refine ZrL s.h0 hin g1.2 (fun e7 => g2 ?_)
  rw [hks]
  have h8 : ¬ (P.s.meet (Ze P.n.pivots ((i.toNat : Nat) : Int))).empty = true := fun h => by
   have := YN.1 h q
   rw [ZO, g1.1, g1.2] at this
   cases this
  unfold Span.meet at h8 ⊢
  rw [ZjZ h8]
  dsimp only
  split
  ·exact e7
  ·rename_i h9
   have h10 := (Yy.1 g1.1).1
   rw [e7] at h10
   rw [e7]
   cases h11 : P.s.lo.lt (Ze P.n.pivots ((i.toNat : Nat) : Int)).lo
   ·exact (Str.lt_total h10 h11)
   ·exact absurd h11 h9
 by_cases h7 : (l.length : Int) < c.slots
 ·rw [Zdy ha (by rw [← s.n]; omega) h3 hf e5 e6 h7]; exact .inl rfl
 ·rw [Zdx ha (by rw [← s.n]; omega) h3 hf e5 e6 h7]; exact .inr rfl
theorem prog {c : Cfg} {k : Str} : ∀ (m : Nat) {l : List Nd} {ss : List Seat} {a n : Int} {r : Int × Int × List Nd}, Tree c l ss → 0 ≤ a ∧ a < l.length → ¬ (Za l a).level = 0 → 0 < (Za l a).msgs.length → ZN c (Za l a) = false → Y8 c k m l a n = some r → n < r.1 ∨ r.2.1 = 4
 | 0, _, _, _, _, _, _, _, _, _, _, h => by cases h
 | m + 1, l, ss, a, n, r, t, ha, h0, hm, hf, h => by
  obtain ⟨Q, hQ, eQ⟩ := t.seat_of ha
  have hin := t.inner hQ (by rw [eQ]; exact h0)
  rw [eQ] at hin
  have hmR : ∀ m ∈ (Za l a).msgs, m.R := (MsgsR.iff.1 hin.2.2.1).1
  have hri := (Y3 hin.2.1).1
  have hfor := ZrJ hri hmR hm
  have hc := Zfv (k := k) h0 (fun e => by rw [hf] at e; cases e.2) (show (Xu (Za l a).pivots (Za l a).msgs).2 = true by rw [Zfu hm])
  have hc1 : (ZD c (Za l a) k).1 = 2 := by rw [hc]
  have hc2 : (ZD c (Za l a) k).2 = (Xu (Za l a).pivots (Za l a).msgs).1 := by rw [hc]
  obtain ⟨_, hi1, hi2⟩ := Zas t ha hc1
  obtain ⟨P, s⟩ := J8 t ha h0 ⟨hi1, hi2⟩
  have hst := Jx hc1
  rw [← hc2] at hfor
  generalize (ZD c (Za l a) k).2 = i at *
  have hforR : ∀ m ∈ Zd (Za l a).pivots (Za l a).msgs i, m.R := ZfE (fun q hq => by
   obtain ⟨j, hj, rfl⟩ := List.getElem_of_mem hq
   exact (hin.2.2.2.2.2.1 j hj).2.1) hmR
  obtain ⟨k1, k2, k3, k4⟩ := Zbd t s
  have hkl : 0 ≤ (Zm l a i).level := by have := s.kof.1; omega
  rcases Jh c (Za l a) (Zm l a i) i with hd | hd | ⟨hd, _⟩ | hd
  ·exact absurd hd (ZrK hf hfor)
  ·have hpe : (ZQ c l a i).1 = 0 ∨ (ZQ c l a i).1 = 4 := by
    refine Zkc t ha s hf ?_
    rcases Zj9 hd with h | ⟨h1, h2⟩
    ·exact .inl h
    ·have h3 : (Zm l a i).level = 0 := om9
     exact .inr ⟨h3, (ZfR t.cfg s.kof hforR hfor h2).1 h3⟩
   rcases hpe with h3 | h3
   ·have e := hst.trans (Jy hd h3)
    rw [X2 (by rw [e]; simp) (by rw [e]; simp)] at h
    have := ZbX m h
    exact .inl om9
   ·have e := hst.trans (Jz hd om9)
    rw [XK (by rw [e])] at h
    cases h
    exact .inr (by rw [e]; exact h3)
  ·have e := hst.trans (Y1 hd)
   rw [X2 (by rw [e]; simp) (by rw [e]; simp)] at h
   have := ZbX m h
   exact .inl om9
  ·have e := hst.trans (JA hd)
   obtain ⟨d1, d2, d3⟩ := ZfQ hd
   rw [Zat (by rw [e])] at h
   rw [e] at h
   dsimp only at h
   exact prog m t k4 (by rw [k3]; omega) (by rw [k3]; exact (ZfR t.cfg s.kof hforR hfor d3).2 om9) (by rw [k3]; exact d2) h
theorem ZrM {c : Cfg} {k : Str} {m : Nat} {l : List Nd} {ss : List Seat} {r : Int × Int × List Nd} (t : Tree c l ss) (hm : 0 < (Za l 0).msgs.length) (h : Y8 c k m l 0 0 = some r) : 0 < r.1 ∨ r.2.1 = 4 := by
 have ha : (0 : Int) ≤ 0 ∧ (0 : Int) < l.length := ⟨Int.le_refl _, by have := t.pos; omega⟩
 obtain ⟨Q, hQ, eQ⟩ := t.seat_of ha
 have h0 : ¬ (Za l 0).level = 0 := fun e => by
  have := t.nomsgs hQ (by rw [eQ]; exact e)
  rw [eQ] at this
  rw [this] at hm
  cases hm
 cases hf : ZN c (Za l 0)
 ·exact prog m t ha h0 hm hf h
 ·obtain ⟨m2, rfl⟩ : ∃ m2, m = m2 + 1 := by
   cases m with
   | zero => cases h
   | succ m2 => exact ⟨m2, rfl⟩
  have hsl := (YQ t.slot ha).1
  have hc1 : (ZD c (Za l 0) k).1 = 1 := by rw [ZiY h0 hsl hf]
  have hin := t.inner hQ (by rw [eQ]; exact h0)
  rw [eQ] at hin
  have hk4 : 4 ≤ (Za l 0).kids.length := by
   unfold ZN at hf
   rw [if_neg h0] at hf
   have := of_decide_eq_true hf
   obtain ⟨⟨f1, _⟩, _⟩ := t.cfg
   omega
  have hlf : (Z5 (Za l 0) 0 0).2.2.2 = true := by rw [Zaq]; exact ZfS h0 hin.2.1 hk4
  by_cases hr : c.slots.toNat - l.length < 2
  ·have e := JS hc1 (show ¬ (ZS c l).1 = 0 by rw [Za9 hlf hr]; simp)
   rw [XK (by rw [e])] at h
   cases h
   exact .inr (by rw [e, Za9 hlf hr])
  ·have e := JR hc1 (show (ZS c l).1 = 0 by rw [ZbO hlf hr])
   rw [X2 (by rw [e]; simp) (by rw [e]; simp)] at h
   have := ZbX m2 h
   exact .inl om9
def SeenB (S : Int) (l : List Nd) : Prop := ∀ n ∈ l, n.seen ≤ S
structure Grown (k : Int) (l : List Nd) : Prop where
  all : SeenB (Za l 0).seen l
  le : (Za l 0).seen ≤ k
  pos : 0 ≤ (Za l 0).seen
section
variable {c : Cfg} {l : List Nd} {ss : List Seat}
theorem Tree.one_leaf (t : Tree c l ss) (h : (Za l 0).level = 0) : l = [Za l 0] := by
  have h0 : (Zl l 0).n.level = 0 := by rw [t.rootn]; exact h
  have h1 : ∀ x ∈ ss, x = Zl l 0 := t.ind rfl fun x hx hl e => absurd (by rw [e]; exact h0) hl
  have h2 : ss.length = 1 := by
    have h3 := t.nodup_s
    have h4 := t.fix
    cases hs : ss with
    | nil => rw [hs] at h4; cases h4
    | cons x L =>
      cases hL : L with
      | nil => rfl
      | cons y L2 =>
        exfalso
        rw [hs, hL] at h3 h1
        have e1 := h1 x (by simp)
        have e2 := h1 y (by simp)
        rw [e1, e2] at h3
        simp at h3
  have h3 : l.length = 1 := by rw [← t.len, h2]
  match l, h3 with
  | [n], _ => rfl
theorem ZrN {rows : List Pair} {m : Msg} {n : Int} (hp : PairsR rows) (hm : m.R) (h : Yi rows m n = true) (hl : (rows.length : Int) ≤ n) : ((takeN rows m).length : Int) ≤ n := by
  have h1 := Zf9 n [m] rows hp (fun x hx => by simp at hx; subst hx; exact hm)
  have h2 : (Ye n rows [m]).1 = takeN rows m := by
    show (if Yi rows m n = true then ((Ye n (takeN rows m) []).1, (Ye n (takeN rows m) []).2 + 1) else (rows, 0)).1 = _
    rw [if_pos h]
    cases htk : takeN rows m <;> rfl
  rw [h2] at h1
  omega
def JU (n : Nd) (m : Msg) : Nd := { n with rows := takeN n.rows m, seen := m.stamp }
theorem ZrO (t : Tree c l ss) (h : (Za l 0).level = 0) {m : Msg} (hm : m.R) (hf : Yi (Za l 0).rows m c.leaf = true) (hle : m.stamp ≤ 1099511627776) :
    (∃ T, Tree c (Yb l (JU (Za l 0) m)) T) ∧ Zh (Yb l (JU (Za l 0) m)) = takeN (Zh l) m := by
  have e := t.one_leaf h
  have hS := t.seat t.root
  have hg := t.rootn
  have hsl := YQ t.slot ⟨Int.le_refl _, by have := t.pos; omega⟩
  have hR := hS.1
  rw [hg] at hR
  have htop : (Za l 0).top = true := by have := hS.2.1.1.1; rw [hg] at this; exact this
  have hseen : (Za l 0).seen ≤ 1099511627776 := by
    obtain ⟨j, hj, e2⟩ := List.getElem_of_mem hsl.2
    rw [← e2]; exact (t.slot j hj).2
  generalize Za l 0 = n at *
  obtain ⟨⟨r1, r2, r3⟩, r4, r5, r6⟩ := hR
  rw [if_pos h] at r6
  obtain ⟨f1, f2, f3, f4⟩ := r6
  have e2 : Yb l (JU n m) = [JU n m] := by rw [e]; rfl
  have hst := hm.1.1
  have hR2 : (JU n m).R c.fan c.leaf c.bud := by
    refine ⟨⟨r1, r2, by show 0 ≤ m.stamp; omega⟩, r4, r5, ?_⟩
    rw [if_pos (show (JU n m).level = 0 from h)]
    refine ⟨f1, ZrN f3 hm hf f2, f3.takeM hm.1.2.1 hm.1.2.2.1, fun i hi => ?_⟩
    show (n.top || _) = true
    rw [htop]; rfl
  rw [e2]
  refine ⟨⟨_, Zip t.cfg h hsl.1 hle hR2 htop (Zba t.cfg hR2)⟩, ?_⟩
  rw [Zfe (show (JU n m).level = 0 from h) hsl.1 hle, e, Zfe h hsl.1 hseen]; rfl

def Zu (c : Cfg) (l : List Nd) (o : Opr) : Int × Int × List Nd :=
  if (Za l 0).level = 0 then (if Yi (Za l 0).rows (o.msg ((Za l 0).seen + 1)) c.leaf = true then ((Za l 0).seen + 1, 0, Yb l (JU (Za l 0) (o.msg ((Za l 0).seen + 1)))) else (0, 4, l))
  else if Yg c.bud (Za l 0).msgs (o.msg ((Za l 0).seen + 1)) = true then ((Za l 0).seen + 1, 0, Yb l (Yh (Za l 0) (o.msg ((Za l 0).seen + 1)))) else (0, 4, l)
theorem ZbY (h : (Za l 0).level = 0) {o : Opr} (h2 : Yi (Za l 0).rows (o.msg ((Za l 0).seen + 1)) c.leaf = true) : Zu c l o = ((Za l 0).seen + 1, 0, Yb l (JU (Za l 0) (o.msg ((Za l 0).seen + 1)))) := by unfold Zu; rw [if_pos h, if_pos h2]
theorem Zbe (h : (Za l 0).level = 0) {o : Opr} (h2 : Yi (Za l 0).rows (o.msg ((Za l 0).seen + 1)) c.leaf = false) : Zu c l o = (0, 4, l) := by unfold Zu; rw [if_pos h, if_neg (by simp [h2])]
theorem ZbZ (h : ¬ (Za l 0).level = 0) {o : Opr} (h2 : Yg c.bud (Za l 0).msgs (o.msg ((Za l 0).seen + 1)) = true) : Zu c l o = ((Za l 0).seen + 1, 0, Yb l (Yh (Za l 0) (o.msg ((Za l 0).seen + 1)))) := by unfold Zu; rw [if_neg h, if_pos h2]
theorem Zbf (h : ¬ (Za l 0).level = 0) {o : Opr} (h2 : Yg c.bud (Za l 0).msgs (o.msg ((Za l 0).seen + 1)) = false) : Zu c l o = (0, 4, l) := by unfold Zu; rw [if_neg h, if_neg (by simp [h2])]
theorem ZfT {o : Opr} (h : o.R) (h4 : o.kind ≤ 4) {s : Int} (hs : 1 ≤ s) : (o.msg s).R := by
  obtain ⟨⟨h1, h2, h3, h5, h6⟩, h7, _, _, h8⟩ := h
  refine ⟨⟨hs, h3, h6, h5⟩, ?_⟩
  show if o.kind = 4 then _ else _
  split
  · rename_i h9
    rw [if_pos (.inl h9)] at h8
    refine ⟨h7 (by omega), h8.2, ?_⟩
    have : (o.msg s).span = o.span := by
      show (if o.kind = 4 then _ else _) = _
      unfold Opr.span
      rw [if_pos h9, if_pos (.inl h9)]; rfl
    rw [this]; exact h8.1
  · rename_i h9
    rw [if_neg (by omega)] at h8
    refine ⟨h8.1, h8.2, ?_⟩
    show o.kind = 1 ∨ o.kind = 2 ∨ (o.kind = 3 ∧ o.val = Str.nil)
    rcases (by omega : o.kind = 1 ∨ o.kind = 2 ∨ o.kind = 3) with h | h | h
    · exact .inl h
    · exact .inr (.inl h)
    · exact .inr (.inr ⟨h, h7 (by omega)⟩)
theorem ZfU {r : Nd} (hp : 0 < l.length) : Za (Yb l r) 0 = r := by
  rw [Zar ⟨Int.le_refl _, by unfold Yb; rw [List.length_set]; omega⟩]
  unfold Yb
  simp
theorem ZrP {r n : Nd} (h : n ∈ Yb l r) : n ∈ l ∨ n = r := List.mem_or_eq_of_mem_set h
theorem ZrQ (t : Tree c l ss) {o : Opr} (ho : o.R) (h4 : o.kind ≤ 4) {k : Int} (hg : Grown k l) (hk : k < 1099511627776) (h : (Zu c l o).2.1 = 0) :
    (∃ T, Tree c (Zu c l o).2.2 T) ∧ Zh (Zu c l o).2.2 = takeN (Zh l) (o.msg 1) ∧ Grown (k + 1) (Zu c l o).2.2 ∧ (Zu c l o).2.2.length = l.length ∧ (Zu c l o).1 = (Za l 0).seen + 1 := by
  have hp := hg.pos
  have hl := hg.le
  have hpos := t.pos
  have hmR := ZfT ho h4 (s := (Za l 0).seen + 1) (by omega)
  have grown : ∀ r : Nd, r.seen = (Za l 0).seen + 1 → Grown (k + 1) (Yb l r) := fun r hr => by
    refine ⟨fun n hn => ?_, ?_, ?_⟩
    · rw [ZfU hpos, hr]
      rcases ZrP hn with hn | rfl
      · have := hg.all n hn; omega
      · omega
    · rw [ZfU hpos, hr]; omega
    · rw [ZfU hpos, hr]; omega
  by_cases h0 : (Za l 0).level = 0
  · cases hf : Yi (Za l 0).rows (o.msg ((Za l 0).seen + 1)) c.leaf
    · rw [Zbe h0 hf] at h; cases h
    · rw [ZbY h0 hf]
      obtain ⟨h1, h2⟩ := ZrO t h0 hmR hf (by show (Za l 0).seen + 1 ≤ _; omega)
      exact ⟨h1, h2, grown _ rfl, by show (Yb l _).length = _; unfold Yb; rw [List.length_set], rfl⟩
  · cases hf : Yg c.bud (Za l 0).msgs (o.msg ((Za l 0).seen + 1))
    · rw [Zbf h0 hf] at h; cases h
    · rw [ZbZ h0 hf]
      unfold Yg at hf
      rw [Bool.and_eq_true] at hf
      have p : InjOf c l ss (o.msg ((Za l 0).seen + 1)) := ⟨t, h0, hmR, rfl, by show (Za l 0).seen + 1 ≤ _; omega, hg.all, of_decide_eq_true hf.1⟩
      exact ⟨⟨_, p.tree⟩, p.map, grown _ rfl, by show (Yb l _).length = _; unfold Yb; rw [List.length_set], rfl⟩
theorem ZrR (t : Tree c l ss) {o : Opr} (ho : o.R) (h4 : o.kind ≤ 4) {k : Int} (hg : Grown k l) (h : ¬ (Zu c l o).2.1 = 0) :
    Zu c l o = (0, 4, l) ∧ ((Za l 0).level = 0 → 2 ≤ (Za l 0).rows.length) ∧ (¬ (Za l 0).level = 0 → 0 < (Za l 0).msgs.length) := by
  have hmR := ZfT ho h4 (s := (Za l 0).seen + 1) (by have := hg.pos; omega)
  obtain ⟨_, ⟨f1, _⟩, ⟨b1, _⟩, _⟩ := t.cfg
  by_cases h0 : (Za l 0).level = 0
  · cases hf : Yi (Za l 0).rows (o.msg ((Za l 0).seen + 1)) c.leaf
    · refine ⟨Zbe h0 hf, fun _ => ?_, fun h => absurd h0 h⟩
      unfold Yi Zbg at hf
      simp only [Bool.or_eq_false_iff, decide_eq_false_iff_not] at hf
      omega
    · rw [ZbY h0 hf] at h; exact absurd rfl h
  · cases hf : Yg c.bud (Za l 0).msgs (o.msg ((Za l 0).seen + 1))
    · refine ⟨Zbf h0 hf, fun h => absurd h h0, fun _ => ?_⟩
      apply Classical.byContradiction
      intro hn
      have e : (Za l 0).msgs = [] := List.eq_nil_of_length_eq_zero (by omega)
      rw [e] at hf
      have := Zka hmR
      unfold Yg at hf
      simp [Zx] at hf
      omega
    · rw [ZbZ h0 hf] at h; exact absurd rfl h
def ZdW (l : List Nd) (o : Opr) : Nd := if (Za l 0).level = 0 then JU (Za l 0) (o.msg ((Za l 0).seen + 1)) else Yh (Za l 0) (o.msg ((Za l 0).seen + 1))
theorem Zkd (h : (Za l 0).level = 0) (o : Opr) : ZdW l o = JU (Za l 0) (o.msg ((Za l 0).seen + 1)) := if_pos h
theorem Zke (h : ¬ (Za l 0).level = 0) (o : Opr) : ZdW l o = Yh (Za l 0) (o.msg ((Za l 0).seen + 1)) := if_neg h
theorem Zkf {o : Opr} (h : (Zu c l o).2.1 = 0) : (Zu c l o).2.2 = l.set 0 (ZdW l o) ∧ (Zu c l o).1 = (Za l 0).seen + 1 := by
  by_cases h0 : (Za l 0).level = 0
  · rw [Zkd h0]
    cases hf : Yi (Za l 0).rows (o.msg ((Za l 0).seen + 1)) c.leaf
    · rw [Zbe h0 hf] at h; cases h
    · rw [ZbY h0 hf]; exact ⟨rfl, rfl⟩
  · rw [Zke h0]
    cases hf : Yg c.bud (Za l 0).msgs (o.msg ((Za l 0).seen + 1))
    · rw [Zbf h0 hf] at h; cases h
    · rw [ZbZ h0 hf]; exact ⟨rfl, rfl⟩
theorem ZfV {o : Opr} (h : ¬ (Zu c l o).2.1 = 0) : Zu c l o = (0, 4, l) := by
  by_cases h0 : (Za l 0).level = 0
  · cases hf : Yi (Za l 0).rows (o.msg ((Za l 0).seen + 1)) c.leaf
    · exact Zbe h0 hf
    · rw [ZbY h0 hf] at h; exact absurd rfl h
  · cases hf : Yg c.bud (Za l 0).msgs (o.msg ((Za l 0).seen + 1))
    · exact Zbf h0 hf
    · rw [ZbZ h0 hf] at h; exact absurd rfl h
theorem ZdX (l : List Pair) (m : Msg) (n : Int) : (Zau l m n).2 = Yi l m n := by
  cases h : Yi l m n
  · rw [Zf7 h]
  · rw [ZcQ h]
theorem ZrS {l : List Pair} {m : Msg} {n : Int} (h : Yi l m n = true) : (Zau l m n).1 = takeN l m := by rw [ZcQ h]
end
section
variable {c : Cfg} {l : List Nd} {ss : List Seat}
theorem Zkg (t : Tree c l ss) (k : Str) : ∃ N r, N ≤ 200000 ∧ Y8 c k N l 0 0 = some r := by
  by_cases h0 : (Za l 0).level = 0
  · exact ⟨1, _, by omega, XK (by rw [Jw (by rw [ZiX h0])])⟩
  · have hw := ZdU t ⟨Int.le_refl _, by have := t.pos; omega⟩ h0
    have h8 := t.height
    rw [t.rootn] at h8
    obtain ⟨r, hr⟩ := ZrI (k := k) (Za l 0).level.toNat 8256 (n := 0) t rfl hw (by omega)
    exact ⟨_, r, by omega, hr⟩
theorem ZrT {p i : Int} (h : (ZQ c l p i).1 = 4) : (ZQ c l p i).2 = l ∧ ¬ (l.length : Int) < c.slots := by
  unfold ZQ at h ⊢
  split at h
  · cases h
  · rename_i h1
    rw [if_neg h1]
    unfold XD at h ⊢
    split at h
    · cases h
    · rename_i h2
      rw [if_neg h2]
      split at h
      · cases h
      · rename_i h3
        rw [if_neg h3]
        split at h
        · cases h
        · rename_i h4
          rw [if_neg h4]
          split at h
          · rename_i h5
            exact ⟨by rw [if_pos h5], h5⟩
          · cases h
theorem ZrU {p k : Nd} {i : Int} (h : Z9 c p k i = 3) : ZN c p = false := by
  cases hf : ZN c p
  · rfl
  · exfalso
    unfold Z9 at h
    rw [hf] at h
    split at h
    · rw [if_pos rfl] at h; cases h
    · split at h
      · cases h
      · split at h
        · cases h
        · split at h
          · rw [if_pos rfl] at h; cases h
          · cases h
theorem ZrV {p k : Nd} {i : Int} (h : Z9 c p k i = 3) (h2 : ¬ 0 < k.level) : 0 < (Zd p.pivots p.msgs i).length := by
  apply Classical.byContradiction
  intro hn
  unfold Z9 at h
  rw [if_neg (fun e => h2 e.1)] at h
  split at h
  · cases h
  · simp [h2, hn] at h
theorem Zkh {k : Str} (t : Tree c l ss) (h : (ZD c (Za l 0) k).1 = 1 ∨ ((Za l 0).level = 0 ∧ 2 ≤ (Za l 0).rows.length)) : (Z5 (Za l 0) 0 0).2.2.2 = true := by
  rw [Zaq]
  rcases h with h | ⟨h1, h2⟩
  · obtain ⟨h0, _, h3⟩ := ZdV h
    have hin := t.inner t.root (by rw [t.rootn]; exact h0)
    rw [t.rootn] at hin
    refine ZfS h0 hin.2.1 ?_
    unfold ZN at h3
    rw [if_neg h0] at h3
    have := of_decide_eq_true h3
    obtain ⟨⟨f1, _⟩, _⟩ := t.cfg
    omega
  · exact Zkb h1 h2
theorem Zki (t : Tree c l ss) (h : (Z5 (Za l 0) 0 0).2.2.2 = true) : (ZS c l).1 = 0 ∨ (ZS c l = (4, l) ∧ c.slots - (l.length : Int) < 2) := by
  by_cases h2 : c.slots.toNat - l.length < 2
  · exact .inr ⟨Za9 h h2, by omega⟩
  · exact .inl (by rw [ZbO h h2])
theorem ZrW (t : Tree c l ss) {a : Int} (ha : 0 ≤ a ∧ a < l.length) (k : Str) : (ZE c l a k).1.2.2 = 0 ∨ ((ZE c l a k).1.1 = 0 ∧ (ZE c l a k).1.2.2 = 4 ∧ (ZE c l a k).2 = l ∧ c.slots - (l.length : Int) < 2) := by
  rcases JB c (Za l a) k with h | h | ⟨h, _⟩
  · rw [Jw h]; exact .inl rfl
  · obtain ⟨_, hs, _⟩ := ZdV h
    have hsl := (YQ t.slot ha).1
    have ea : a = 0 := by omega
    subst ea
    rcases Zki t (Zkh (k := k) t (.inl h)) with h3 | ⟨h3, h4⟩
    · rw [JR h h3]; exact .inl rfl
    · rw [JS h (by rw [h3]; simp), h3]; exact .inr ⟨rfl, rfl, rfl, h4⟩
  · obtain ⟨h0, hi⟩ := Zas t ha h
    obtain ⟨P, s⟩ := J8 t ha h0 hi
    rw [Jx h]
    generalize (ZD c (Za l a) k).2 = i at *
    rcases Jh c (Za l a) (Zm l a i) i with hd | hd | ⟨hd, _⟩ | hd
    · rw [JT hd]; exact .inl rfl
    · have hf := ZrU hd
      have hkl : 0 ≤ (Zm l a i).level := by have := s.kof.1; have := (Zbd t s).2.1; omega
      have hin := t.inner s.mem s.h0
      rw [s.n] at hin
      have hpe : (ZQ c l a i).1 = 0 ∨ (ZQ c l a i).1 = 4 := by
        refine Zkc t ha s hf ?_
        rcases Zj9 hd with h | ⟨h1, h2⟩
        · exact .inl h
        · have h3 : (Zm l a i).level = 0 := by omega
          have hfor := ZrV hd h1
          have hforR : ∀ m ∈ Zd (Za l a).pivots (Za l a).msgs i, m.R := ZfE (fun q hq => by
            obtain ⟨j, hj, rfl⟩ := List.getElem_of_mem hq
            exact (hin.2.2.2.2.2.1 j hj).2.1) (MsgsR.iff.1 hin.2.2.1).1
          exact .inr ⟨h3, (ZfR t.cfg s.kof hforR hfor h2).1 h3⟩
      rcases hpe with h3 | h3
      · rw [Jy hd h3]; exact .inl rfl
      · obtain ⟨e1, e2⟩ := ZrT h3
        rw [Jz hd (by omega)]
        exact .inr ⟨rfl, h3, e1, by omega⟩
    · rw [Y1 hd]; exact .inl rfl
    · rw [JA hd]; exact .inl rfl
theorem ZdY {k : Str} : ∀ (m : Nat) {l : List Nd} {ss : List Seat} {a n : Int} {r : Int × Int × List Nd}, Tree c l ss → 0 ≤ a ∧ a < l.length → Y8 c k m l a n = some r → r.2.1 = 0 ∨ (r.2.1 = 4 ∧ c.slots - (r.2.2.length : Int) < 2)
  | 0, _, _, _, _, _, _, _, h => by cases h
  | m + 1, l, ss, a, n, r, t, ha, h => by
    obtain ⟨T, hT, _⟩ := ZaM t ha k
    have hnx := Zbc t ha k
    by_cases h1 : (ZE c l a k).1.1 = 0
    · rw [XK h1] at h
      cases h
      rcases ZrW t ha k with h2 | ⟨_, h2, h3, h4⟩
      · exact .inl h2
      · exact .inr ⟨h2, by show c.slots - ((ZE c l a k).2.length : Int) < 2; rw [h3]; exact h4⟩
    · by_cases h2 : (ZE c l a k).1.1 = 5
      · rw [Zat h2] at h; exact ZdY m hT hnx h
      · rw [X2 h1 h2] at h; exact ZdY m hT hnx h
end
section
variable {c : Cfg} {l : List Nd} {ss : List Seat}
theorem ZrX (n : Nd) : (Yn n).1.seen = n.seen ∧ (Yn n).2.1.seen = n.seen := by
  unfold Yn
  split
  · exact ⟨rfl, rfl⟩
  · split <;> exact ⟨rfl, rfl⟩
theorem Zkj {n : Nd} {i : Int} (h : (Zp n i).2.2.2 = true) : (Zp n i).1.seen = n.seen ∧ (Zp n i).2.1.seen = n.seen := by
  rw [Zak] at h
  rw [JK h]
  exact ZrX n
theorem ZcO {S : Int} {l : List Nd} {i : Nat} {x : Nd} (h : SeenB S l) (hx : x.seen ≤ S) : SeenB S (l.set i x) := fun n hn => by
  rcases List.mem_or_eq_of_mem_set hn with hn | rfl
  · exact h n hn
  · exact hx
theorem ZrY {S : Int} {l : List Nd} {x : Nd} (h : SeenB S l) (hx : x.seen ≤ S) : SeenB S (l ++ [x]) := fun n hn => by
  rcases List.mem_append.1 hn with hn | hn
  · exact h n hn
  · simp at hn; subst hn; exact hx
theorem ZfW {S : Int} (h : SeenB S l) (hs : 0 ≤ S) (i : Int) : (Za l i).seen ≤ S := by
  by_cases hi : 0 ≤ i ∧ i < l.length
  · rw [Zar hi]; exact h _ (List.getElem_mem _)
  · rw [Zrp hi]; exact hs
def SeenQ (S : Int) (l : List Nd) : Prop := SeenB S l ∧ (Za l 0).seen = S
theorem Zkk (t : Tree c l ss) {S : Int} (hs : 0 ≤ S) (h : SeenQ S l) : SeenQ S (ZS c l).2 := by
  have hp := t.pos
  unfold ZS
  split
  · exact h
  · split
    · exact h
    · rename_i h1 h2
      have h1 : (Z5 (Za l 0) l.length ((l.length : Int) + 1)).2.2.2 = true := by simpa using h1
      have hc := h1
      rw [Zaq] at hc
      obtain ⟨e1, e2⟩ := Zkj hc
      rw [Zbb hc]
      dsimp only
      have er : (Jg (Za l 0) (Zp (Za l 0) ((l.length : Int) + 1)).2.2.1 l.length ((l.length : Int) + 1)).seen = S := h.2
      have ha : ∀ z s, z.seen = (Za l 0).seen → (Yv (Za l 0) z s).seen ≤ S := fun z s e => by
        unfold Yv
        dsimp only
        split
        · rw [e, h.2]; exact Int.le_refl _
        · exact hs
      refine ⟨?_, ?_⟩
      · unfold YU
        refine fun n hn => ?_
        rcases List.mem_append.1 hn with hn | hn
        · exact ZcO h.1 (by rw [er]; exact Int.le_refl _) n hn
        · simp at hn
          rcases hn with rfl | rfl
          · exact ha _ _ e1
          · exact ha _ _ e2
      · unfold YU
        rw [Zar ⟨Int.le_refl _, by rw [List.length_append, List.length_set]; omega⟩]
        rw [List.getElem_append_left (by rw [List.length_set]; show 0 < _; omega)]
        simp
        exact er
theorem ZdZ {i : Nat} {x : Nd} (hp : 0 < l.length) : Za (l.set i x) 0 = if i = 0 then x else Za l 0 := by
  rw [Zar ⟨Int.le_refl _, by rw [List.length_set]; omega⟩, Zar ⟨Int.le_refl _, by omega⟩]
  simp only [List.getElem_set]
  rfl
theorem ZrZ (t : Tree c l ss) {p i : Int} {S : Int} (hs : 0 ≤ S) (h : SeenQ S l) : SeenQ S (ZQ c l p i).2 := by
  have hp := t.pos
  unfold ZQ
  split
  · exact h
  · generalize i.toNat = j
    unfold XD
    split
    · exact h
    · rename_i h1
      split
      · exact h
      · split
        · exact h
        · rename_i h3
          split
          · exact h
          · rename_i h4
            have h3 : (Ys l p j).2.2.2 = true ∧ (adP l p j).2 = true := by
              constructor
              · cases h5 : (Ys l p j).2.2.2
                · exact absurd (.inl h5) h3
                · rfl
              · cases h5 : (adP l p j).2
                · exact absurd (.inr h5) h3
                · rfl
            obtain ⟨e1, e2⟩ := Zkj (n := Za l (kdN l p j)) (i := (l.length : Int)) h3.1
            obtain ⟨e3, _⟩ := Zj6 (n := Za l p) h3.2
            have ha : (adP l p j).1.seen = (Za l p).seen := by
              show (Xi (Za l p) j _ _).1.seen = _
              rw [e3]; rfl
            have hk := ZfW h.1 hs (kdN l p j)
            have hq := ZfW h.1 hs p
            have hin : ¬ (¬ (0 ≤ p ∧ p < l.length) ∨ (Za l p).kids.length ≤ j ∨ ¬ (0 ≤ kdN l p j ∧ kdN l p j < l.length)) := h1
            have hp2 : 0 ≤ p ∧ p < l.length := Classical.byContradiction fun e => hin (.inl e)
            have hk2 : 0 ≤ kdN l p j ∧ kdN l p j < l.length := Classical.byContradiction fun e => hin (.inr (.inr e))
            have hcs := (ZiT h3.1).1
            have hks := (YQ t.slot hk2).1
            unfold J6
            refine ⟨ZrY (ZcO (ZcO h.1 ?_) ?_) ?_, ?_⟩
            · show (Zp _ _).1.seen ≤ S; rw [e1]; exact hk
            · rw [ha]; exact hq
            · show (Zp _ _).2.1.seen ≤ S; rw [e2]; exact hk
            · have hl1 : 0 < (l.set (Ys l p j).1.slot.toNat (Ys l p j).1).length := by rw [List.length_set]; exact hp
              rw [ZcM, if_neg (by simp only [List.length_set]; omega), ZdZ hl1, ZdZ hp]
              split
              · rename_i e
                have : p = 0 := by omega
                rw [ha, this]; exact h.2
              · split
                · rename_i e
                  rw [hcs, hks] at e
                  have : kdN l p j = 0 := by omega
                  show (Zp _ _).1.seen = S
                  rw [e1, this]; exact h.2
                · exact h.2
theorem Zr0 (t : Tree c l ss) {a i : Int} {P : Seat} (s : StepAt c l ss a i P) (h4 : 0 < ZY c.leaf c.bud (Za l a) (Zm l a i) i) {S : Int} (hs : 0 ≤ S) (h : SeenQ S l) :
    SeenQ S (ZW l (Z8 c.leaf c.bud (Za l a) (Zm l a i) i).1 (Z8 c.leaf c.bud (Za l a) (Zm l a i) i).2.1) := by
  obtain ⟨T, p⟩ := s.pour t h4
  have hp := t.pos
  have hn := s.n
  have tk := ZcD p.may p.po
  obtain ⟨⟨xl, hxl, exl⟩, _⟩ := Zdu tk.rst p.po.ne
  have hm : xl ∈ Zc (Zb l P i.toNat).s P.n.msgs := by rw [p.hcl]; exact List.mem_append_left _ hxl
  obtain ⟨m, hm, e⟩ := JE hm
  obtain ⟨j, hj, rfl⟩ := List.getElem_of_mem hm
  have h5 := (p.pin.2.2.2.2.2.2 j hj).1
  have h6 := ZfW h.1 hs a
  rw [← hn] at h6
  have h7 := p.al.2.2.2.2.2.2.2.1
  have h8 := p.po.seen
  have hx : 0 ≤ (Z8 c.leaf c.bud (Za l a) (Zm l a i) i).1.slot ∧ (Z8 c.leaf c.bud (Za l a) (Zm l a i) i).1.slot < l.length := by rw [p.al.1]; exact p.sin p.mem
  have hk0 := (Zbd t s).1
  have hy : (Z8 c.leaf c.bud (Za l a) (Zm l a i) i).2.1.slot = (Zm l a i).slot := p.bl.1.trans (by rw [s.kid])
  have hy2 : 0 ≤ (Z8 c.leaf c.bud (Za l a) (Zm l a i) i).2.1.slot := by rw [p.bl.1]; exact (p.sin p.km.1).1
  unfold ZW
  refine ⟨ZcO (ZcO h.1 (by rw [h7]; exact h6)) (by rw [h8, exl, e]; exact Int.le_trans h5 h6), ?_⟩
  rw [ZdZ (by rw [List.length_set]; exact hp), if_neg (by omega), ZdZ hp]
  split
  · rename_i e0
    rw [h7]
    have e1 := p.al.1
    have : P.n.slot = 0 := by omega
    have e2 : P.n = Za l 0 := by have := (t.nd p.mem).2.1; rw [‹P.n.slot = 0›] at this; exact this
    rw [e2]; exact h.2
  · exact h.2
theorem Zr1 (t : Tree c l ss) {a : Int} (ha : 0 ≤ a ∧ a < l.length) (k : Str) {S : Int} (hs : 0 ≤ S) (h : SeenQ S l) : SeenQ S (ZE c l a k).2 := by
  rcases JB c (Za l a) k with h1 | h1 | ⟨h1, _⟩
  · rw [Jw h1]; exact h
  · have hl := Zkk t hs h
    by_cases h3 : (ZS c l).1 = 0
    · rw [JR h1 h3]; exact hl
    · rw [JS h1 h3]; exact hl
  · obtain ⟨h0, hi⟩ := Zas t ha h1
    obtain ⟨P, s⟩ := J8 t ha h0 hi
    rw [Jx h1]
    generalize (ZD c (Za l a) k).2 = i at *
    rcases Jh c (Za l a) (Zm l a i) i with hd | hd | ⟨hd, hd2⟩ | hd
    · rw [JT hd]; exact h
    · have hl := ZrZ t (p := a) (i := i) hs h
      by_cases h3 : (ZQ c l a i).1 = 0
      · rw [Jy hd h3]; exact hl
      · rw [Jz hd h3]; exact hl
    · rw [Y1 hd]; exact Zr0 t s hd2 hs h
    · rw [JA hd]; exact h
theorem ZfX {k : Str} {S : Int} (hs : 0 ≤ S) : ∀ (m : Nat) {l : List Nd} {ss : List Seat} {a n : Int} {r : Int × Int × List Nd}, Tree c l ss → 0 ≤ a ∧ a < l.length → SeenQ S l → Y8 c k m l a n = some r → SeenQ S r.2.2
  | 0, _, _, _, _, _, _, _, _, h => by cases h
  | m + 1, l, ss, a, n, r, t, ha, hq, h => by
    obtain ⟨T, hT, _⟩ := ZaM t ha k
    have hnx := Zbc t ha k
    have hq2 := Zr1 t ha k hs hq
    by_cases h1 : (ZE c l a k).1.1 = 0
    · rw [XK h1] at h
      cases h
      exact hq2
    · by_cases h2 : (ZE c l a k).1.1 = 5
      · rw [Zat h2] at h; exact ZfX hs m hT hnx hq2 h
      · rw [X2 h1 h2] at h; exact ZfX hs m hT hnx hq2 h
theorem Grown.q {k : Int} (h : Grown k l) : SeenQ (Za l 0).seen l := ⟨h.all, rfl⟩
theorem Grown.of {k S : Int} (h : SeenQ S l) (h1 : S ≤ k) (h0 : 0 ≤ S) : Grown k l := ⟨by rw [h.2]; exact h.1, by rw [h.2]; exact h1, by rw [h.2]; exact h0⟩
theorem Grown.lift {k : Int} (t : Tree c l ss) (h : Grown k l) : Grown k (ZS c l).2 := Grown.of (Zkk t h.pos h.q) h.le h.pos
theorem Grown.cyc {k : Int} {q : Str} {m : Nat} {r : Int × Int × List Nd} (t : Tree c l ss) (h : Grown k l) (hr : Y8 c q m l 0 0 = some r) : Grown k r.2.2 := Grown.of (ZfX h.pos m t ⟨Int.le_refl _, by have := t.pos; omega⟩ h.q hr) h.le h.pos

/-! ### What goes down -/
def X3 : Nat := 9000 ^ 12
noncomputable def wtL (c : Cfg) (n : Nd) : Nat := if n.level = 0 then 0 else wtN c n * 9000 ^ n.level.toNat
noncomputable def Zb0 (c : Cfg) (l : List Nd) : Nat := (l.map (wtL c)).sum
noncomputable def muL (c : Cfg) (l : List Nd) : Nat := (c.slots.toNat - l.length) * (4097 * X3) + Zb0 c l
theorem Tree.low (t : Tree c l ss) : ∀ x ∈ ss, x.n.level ≤ 11 := by
  have h : ∀ x ∈ ss, x.n.level ≤ 11 := t.ind t.height fun x hx h0 hl j hj => by
    have := (t.at hx h0 hj).2.2.2
    omega
  exact h
theorem Tree.wt_lt (t : Tree c l ss) {n : Nd} (hn : n ∈ l) : wtL c n < X3 := by
  have := (t.perm.mem_iff).2 hn
  obtain ⟨x, hx, rfl⟩ := List.mem_map.1 this
  unfold wtL
  split
  · exact Nat.pow_pos (by omega)
  · rename_i h0
    have h1 := ZfP t.cfg (t.inner hx h0)
    have h2 := t.low x hx
    have h3 : 9000 ^ x.n.level.toNat ≤ 9000 ^ 11 := Nat.pow_le_pow_right (by omega) (by omega)
    have h4 : wtN c x.n * 9000 ^ x.n.level.toNat ≤ 8256 * 9000 ^ 11 := Nat.mul_le_mul h1 h3
    have h5 : (8256 : Nat) * 9000 ^ 11 < X3 := by unfold X3; decide
    exact Nat.lt_of_le_of_lt h4 h5
theorem Zkl {f : Nd → Nat} {b : Nat} : ∀ {l : List Nd}, (∀ n ∈ l, f n < b) → (l.map f).sum ≤ l.length * b
  | [], _ => by simp
  | n :: l, h => by
    have h1 := h n (by simp)
    have h2 := Zkl (l := l) fun x hx => h x (List.mem_cons_of_mem _ hx)
    rw [List.map_cons, List.sum_cons, List.length_cons, Nat.add_mul]
    omega
theorem Tree.pot_lt (t : Tree c l ss) : Zb0 c l < 4097 * X3 := by
  have h1 := Zkl (f := wtL c) (b := X3) (l := l) fun n hn => t.wt_lt hn
  have h2 := t.sml.1
  have h3 : l.length * X3 ≤ 4096 * X3 := Nat.mul_le_mul_right _ h2
  have h4 : 0 < X3 := Nat.pow_pos (by omega)
  unfold Zb0
  have h5 : 4097 * X3 = 4096 * X3 + X3 := by rw [← Nat.succ_mul]
  omega
theorem ZfY {l' : List Nd} {T : List Seat} (t' : Tree c l' T) (h : l.length < l'.length) : muL c l' < muL c l := by
  have h1 := t'.pot_lt
  have h2 := t'.q.1.2.2
  unfold muL
  have h3 : (c.slots.toNat - l'.length + 1) * (4097 * X3) ≤ (c.slots.toNat - l.length) * (4097 * X3) := Nat.mul_le_mul_right _ (by omega)
  rw [Nat.add_mul] at h3
  omega
theorem ZfZ {f : Nd → Nat} : ∀ {l : List Nd} {i : Nat} (h : i < l.length) (x : Nd), ((l.set i x).map f).sum + f l[i] = (l.map f).sum + f x
  | n :: l, 0, _, x => by simp only [List.set_cons_zero, List.map_cons, List.sum_cons, List.getElem_cons_zero]; omega
  | n :: l, i + 1, h, x => by
    have := ZfZ (f := f) (l := l) (i := i) (by simpa using h) x
    simp only [List.set_cons_succ, List.map_cons, List.sum_cons, List.getElem_cons_succ]
    omega
theorem Zr2 (t : Tree c l ss) {a i : Int} {P : Seat} (s : StepAt c l ss a i P) (h4 : 0 < ZY c.leaf c.bud (Za l a) (Zm l a i) i) :
    muL c (ZW l (Z8 c.leaf c.bud (Za l a) (Zm l a i) i).1 (Z8 c.leaf c.bud (Za l a) (Zm l a i) i).2.1) < muL c l := by
  obtain ⟨T, p⟩ := s.pour t h4
  have hf : i.toNat < c.fan.toNat := by
    have h1 := s.hi
    have h2 := p.pin.1.2.2
    omega
  have hlt := Poured.lighter p.po p.rt.1 hf
  have hm := (Zfo p.may p.po).1
  generalize (Z8 c.leaf c.bud (Za l a) (Zm l a i) i).1 = x at *
  generalize (Z8 c.leaf c.bud (Za l a) (Zm l a i) i).2.1 = y at *
  have hx : 0 ≤ x.slot ∧ x.slot < l.length := by rw [p.al.1]; exact p.sin p.mem
  have hy : 0 ≤ y.slot ∧ y.slot < l.length := by rw [p.bl.1]; exact p.sin p.km.1
  have hne : x.slot.toNat ≠ y.slot.toNat := by
    have := p.ksl
    rw [← p.al.1, ← p.bl.1] at this
    omega
  have hxl : x.slot.toNat < l.length := by omega
  have hyl : y.slot.toNat < (l.set x.slot.toNat x).length := by rw [List.length_set]; omega
  have e1 := ZfZ (f := wtL c) hxl x
  have e2 := ZfZ (f := wtL c) hyl y
  have gx : l[x.slot.toNat] = P.n := by
    have h := (t.nd p.mem).2.1
    rw [Zar (p.sin p.mem)] at h
    have h2 := p.al.1
    simp only [h2]
    exact h.symm
  have gy : (l.set x.slot.toNat x)[y.slot.toNat] = (Zb l P i.toNat).n := by
    rw [List.getElem_set_ne hne]
    have h := (t.nd p.km.1).2.1
    rw [Zar (p.sin p.km.1)] at h
    have h2 := p.bl.1
    simp only [h2]
    exact h.symm
  rw [gx] at e1
  rw [gy] at e2
  have w1 : wtL c x + 9000 ^ P.n.level.toNat ≤ wtL c P.n := by
    unfold wtL
    rw [p.al.2.1, if_neg p.h0, if_neg p.h0]
    have := Nat.mul_le_mul_right (9000 ^ P.n.level.toNat) hlt
    rw [Nat.add_mul, Nat.one_mul] at this
    exact this
  have w2 : wtL c y < 9000 ^ P.n.level.toNat := by
    unfold wtL
    split
    · exact Nat.pow_pos (by omega)
    · rename_i h0
      have hI : y.innerR c.fan c.bud := by have h := hm.1.2.1.2.2.2; rwa [if_neg h0] at h
      have h1 := ZfP t.cfg hI
      have h2 := p.km.2
      have h3 := p.bl.2.1
      have h5 := t.lvl p.km.1
      have h6 := t.lvl p.mem
      have h7 : P.n.level.toNat = y.level.toNat + 1 := by omega
      rw [h7, Nat.pow_succ]
      have h8 : 0 < 9000 ^ y.level.toNat := Nat.pow_pos (by omega)
      have h9 := Nat.mul_le_mul_right (9000 ^ y.level.toNat) h1
      omega
  have hlen : (ZW l x y).length = l.length := p.len
  unfold muL
  rw [hlen]
  have : Zb0 c (ZW l x y) < Zb0 c l := by
    unfold Zb0 ZW
    omega
  omega
theorem Zr3 (t : Tree c l ss) {a : Int} (ha : 0 ≤ a ∧ a < l.length) (k : Str) (h1 : ¬ (ZE c l a k).1.1 = 0) (h2 : ¬ (ZE c l a k).1.1 = 5) : muL c (ZE c l a k).2 < muL c l := by
  obtain ⟨T, hT, _⟩ := ZaM t ha k
  rcases JB c (Za l a) k with h | h | ⟨h, _⟩
  · rw [Jw h] at h1; exact absurd rfl h1
  · by_cases h3 : (ZS c l).1 = 0
    · rw [JR h h3] at hT ⊢
      refine ZfY hT ?_
      unfold ZS at h3 ⊢
      split at h3
      · cases h3
      · rename_i h4
        rw [if_neg h4]
        split at h3
        · cases h3
        · rename_i h5
          rw [if_neg h5]
          unfold YU
          simp
    · rw [JS h h3] at h1; exact absurd rfl h1
  · obtain ⟨h0, hi⟩ := Zas t ha h
    obtain ⟨P, s⟩ := J8 t ha h0 hi
    rw [Jx h] at h1 h2 hT ⊢
    generalize (ZD c (Za l a) k).2 = i at *
    rcases Jh c (Za l a) (Zm l a i) i with hd | hd | ⟨hd, hd2⟩ | hd
    · rw [JT hd] at h1; exact absurd rfl h1
    · by_cases h3 : (ZQ c l a i).1 = 0
      · rw [Jy hd h3] at hT ⊢
        refine ZfY hT ?_
        unfold ZQ at h3 ⊢
        split at h3
        · cases h3
        · rename_i h4
          rw [if_neg h4]
          unfold XD at h3 ⊢
          split at h3
          · cases h3
          · rename_i h5
            rw [if_neg h5]
            split at h3
            · cases h3
            · rename_i h6
              rw [if_neg h6]
              split at h3
              · cases h3
              · rename_i h7
                rw [if_neg h7]
                split at h3
                · cases h3
                · rename_i h8
                  rw [if_neg h8]
                  unfold J6
                  simp
      · rw [Jz hd h3] at h1; exact absurd rfl h1
    · rw [Y1 hd]; exact Zr2 t s hd2
    · rw [JA hd] at h2; exact absurd rfl h2
theorem Zkm {p i : Int} (h : ¬ (ZQ c l p i).1 = 0) : (ZQ c l p i).2 = l := by
  unfold ZQ at h ⊢
  split at h
  · rename_i h4; rw [if_pos h4]
  · rename_i h4
    rw [if_neg h4]
    unfold XD at h ⊢
    split at h
    · rename_i h5; rw [if_pos h5]
    · rename_i h5
      rw [if_neg h5]
      split at h
      · rename_i h6; rw [if_pos h6]
      · rename_i h6
        rw [if_neg h6]
        split at h
        · rename_i h7; rw [if_pos h7]
        · rename_i h7
          rw [if_neg h7]
          split at h
          · rename_i h8; rw [if_pos h8]
          · exact absurd rfl h
theorem Zkn (h : ¬ (ZS c l).1 = 0) : (ZS c l).2 = l := by
  unfold ZS at h ⊢
  split at h
  · rename_i h4; rw [if_pos h4]
  · rename_i h4
    rw [if_neg h4]
    split at h
    · rename_i h5; rw [if_pos h5]
    · exact absurd rfl h
theorem Zr4 (t : Tree c l ss) {a : Int} (ha : 0 ≤ a ∧ a < l.length) {k : Str} (h1 : (ZE c l a k).1.1 = 0) : (ZE c l a k).2 = l := by
  rcases JB c (Za l a) k with h | h | ⟨h, _⟩
  · rw [Jw h]
  · by_cases h3 : (ZS c l).1 = 0
    · rw [JR h h3] at h1; cases h1
    · rw [JS h h3]; exact Zkn h3
  · rw [Jx h] at h1 ⊢
    generalize (ZD c (Za l a) k).2 = i at *
    rcases Jh c (Za l a) (Zm l a i) i with hd | hd | ⟨hd, hd2⟩ | hd
    · rw [JT hd]
    · by_cases h3 : (ZQ c l a i).1 = 0
      · rw [Jy hd h3] at h1; cases h1
      · rw [Jz hd h3]; exact Zkm h3
    · rw [Y1 hd] at h1; cases h1
    · rw [JA hd]
theorem Zr5 (t : Tree c l ss) {a : Int} (ha : 0 ≤ a ∧ a < l.length) {k : Str} (h1 : (ZE c l a k).1.1 = 5) : (ZE c l a k).2 = l := by
  rcases JB c (Za l a) k with h | h | ⟨h, _⟩
  · rw [Jw h]
  · by_cases h3 : (ZS c l).1 = 0
    · rw [JR h h3] at h1; cases h1
    · rw [JS h h3]; exact Zkn h3
  · rw [Jx h] at h1 ⊢
    generalize (ZD c (Za l a) k).2 = i at *
    rcases Jh c (Za l a) (Zm l a i) i with hd | hd | ⟨hd, hd2⟩ | hd
    · rw [JT hd]
    · by_cases h3 : (ZQ c l a i).1 = 0
      · rw [Jy hd h3] at h1; cases h1
      · rw [Jz hd h3]; exact Zkm h3
    · rw [Y1 hd] at h1; cases h1
    · rw [JA hd]
theorem Zf0 {k : Str} : ∀ (m : Nat) {l : List Nd} {ss : List Seat} {a n : Int} {r : Int × Int × List Nd}, Tree c l ss → 0 ≤ a ∧ a < l.length → Y8 c k m l a n = some r → (n < r.1 → muL c r.2.2 < muL c l) ∧ (r.1 ≤ n → r.2.2 = l)
  | 0, _, _, _, _, _, _, _, h => by cases h
  | m + 1, l, ss, a, n, r, t, ha, h => by
    obtain ⟨T, hT, _⟩ := ZaM t ha k
    have hnx := Zbc t ha k
    by_cases h1 : (ZE c l a k).1.1 = 0
    · rw [XK h1] at h
      cases h
      refine ⟨fun e => absurd e (Int.lt_irrefl _), fun _ => ?_⟩
      exact Zr4 t ha h1
    · by_cases h2 : (ZE c l a k).1.1 = 5
      · have hst := Zr5 t ha h2
        rw [Zat h2] at h
        rw [hst] at h hT hnx
        exact Zf0 m hT hnx h
      · have hmu := Zr3 t ha k h1 h2
        rw [X2 h1 h2] at h
        have ih := Zf0 m hT hnx h
        have hmo := ZbX m h
        refine ⟨fun _ => ?_, fun e => by omega⟩
        by_cases h3 : n + 1 < r.1
        · exact Nat.lt_trans (ih.1 h3) hmu
        · rw [ih.2 (by omega)]; exact hmu
end
theorem Zd0 (bud : Int) (ms : List Msg) (m : Msg) : (Ju bud ms m).2 = Yg bud ms m := Zfz bud ms m
theorem Zr6 {bud : Int} {ms : List Msg} {m : Msg} (h : Yg bud ms m = true) : (Ju bud ms m).1 = ms ++ [m] := by rw [ZbQ h]
noncomputable def XL (c : Cfg) (l : List Nd) (o : Opr) : Nd :=
  if (Za l 0).level = 0 then { Za l 0 with rows := (Zau (Za l 0).rows (o.msg ((Za l 0).seen + 1)) c.leaf).1, seen := (Za l 0).seen + (if (Zu c l o).2.1 = 0 then 1 else 0) }
  else { Za l 0 with msgs := (Ju c.bud (Za l 0).msgs (o.msg ((Za l 0).seen + 1))).1, seen := (Za l 0).seen + (if (Zu c l o).2.1 = 0 then 1 else 0) }
section
variable {c : Cfg} {l : List Nd} {ss : List Seat} {o : Opr}
theorem Zf1 (h : (Za l 0).level = 0) (e : (Zu c l o).2.1 = 0) : XL c l o = { Za l 0 with rows := (Zau (Za l 0).rows (o.msg ((Za l 0).seen + 1)) c.leaf).1, seen := (Za l 0).seen + 1 } := by unfold XL; rw [if_pos h, if_pos e]
theorem Zko (h : (Za l 0).level = 0) (e : ¬ (Zu c l o).2.1 = 0) : XL c l o = { Za l 0 with rows := (Zau (Za l 0).rows (o.msg ((Za l 0).seen + 1)) c.leaf).1, seen := (Za l 0).seen } := by unfold XL; rw [if_pos h, if_neg e, Int.add_zero]
theorem Zf2 (h : ¬ (Za l 0).level = 0) (e : (Zu c l o).2.1 = 0) : XL c l o = { Za l 0 with msgs := (Ju c.bud (Za l 0).msgs (o.msg ((Za l 0).seen + 1))).1, seen := (Za l 0).seen + 1 } := by unfold XL; rw [if_neg h, if_pos e]
theorem Zkp (h : ¬ (Za l 0).level = 0) (e : ¬ (Zu c l o).2.1 = 0) : XL c l o = { Za l 0 with msgs := (Ju c.bud (Za l 0).msgs (o.msg ((Za l 0).seen + 1))).1, seen := (Za l 0).seen } := by unfold XL; rw [if_neg h, if_neg e, Int.add_zero]
theorem Zr7 (e : (Zu c l o).2.1 = 0) : XL c l o = ZdW l o := by
  by_cases h : (Za l 0).level = 0
  · rw [Zf1 h e, Zkd h]
    cases hf : Yi (Za l 0).rows (o.msg ((Za l 0).seen + 1)) c.leaf
    · rw [Zbe h hf] at e; cases e
    · rw [ZrS hf]; rfl
  · rw [Zf2 h e, Zke h]
    cases hf : Yg c.bud (Za l 0).msgs (o.msg ((Za l 0).seen + 1))
    · rw [Zbf h hf] at e; cases e
    · rw [Zr6 hf]; rfl
theorem Zkq : (XL c l o).slot = (Za l 0).slot := by unfold XL; split <;> rfl
theorem Zr8 (e : (Zu c l o).2.1 = 0) : (XL c l o).seen = (Zu c l o).1 := by rw [(Zkf e).2]; unfold XL; split <;> simp [e]
theorem Zr9 (t : Tree c l ss) (e : (Zu c l o).2.1 = 0) : l.set (XL c l o).slot.toNat (XL c l o) = (Zu c l o).2.2 := by
  rw [(Zkf e).1, Zkq, Zr7 e, (YQ t.slot ⟨Int.le_refl _, by have := t.pos; omega⟩).1]; rfl
end
end Go.Fw
namespace Go.Proofs.YtbbemibbmbmamaaGreat
open Go Go.Fw Go.RowKit
attribute [local irreducible] Ok W WC
theorem Zsa {G : GH} {v_l : Value} {l : List Pair} (h_l : SlR Zi G v_l l) (k : Str) {v_ms : Value} {ms : List Msg} (h_ms : SlR Zo G v_ms ms) (hP : PairsR l) (hm : ∀ m ∈ ms, m.key.b.size < 140737488355328 ∧ m.val.b.size ≤ 16) :
    Fc Tryz.prog 143 [v_l, sV k.b, v_ms] G [] (fun v _ _ => v = .tuple #[sV (Str.b ((Eff.apply (YC ms k) (Zg l k)).getD Str.nil)), .bool ((Eff.apply (YC ms k) (Zg l k)).isSome)]) := by
 obtain ⟨sa_l, sc_l, rfl⟩ := h_l.form
 obtain ⟨sa_ms, sc_ms, rfl⟩ := h_ms.form
 have hr := hP.srt
 have hgv := hP.val k
 have hov := ZeN ms k (fun m h => (hm m h).2)
 have hos := Zcq (Zg l k)
 refine Fc.go [.tmp 6, .tmp 7] Tryz.func143 Tryz.ntmps143 rfl (fun w0 => (g9 10 ?_))
 refine W.qcall (ZoV h_l _ (by assumption)) rfl (g9 11 ?_)
 refine W.qcall (ZoQ h_ms _ (by assumption)) rfl (g9 2 ?_)
 refine W.qcall (Zdj (YC ms k).kind (YC ms k).val (Zg l k).isSome ((Zg l k).getD Str.nil) om9 om9) rfl (g9 14 ?_)
 refine WC.cond rfl (fun h28 => ?_) (fun h28 => ?_)
 ·refine g9 9 ?_
  show Value.tuple #[Value.string _, Value.bool _] = _
  have hx : Eff.apply (⟨(YC ms k).kind, (YC ms k).val⟩ : Eff) (Z7 (Zg l k).isSome ((Zg l k).getD Str.nil)) = Eff.apply (YC ms k) (Zg l k) := by rw [hos]
  rw [hx] at h28
  have e : Eff.apply (YC ms k) (Zg l k) = none := by simpa using h28
  rw [e]; rfl
 refine g9 11 ?_
 show Value.tuple #[Value.string _, Value.bool _] = _
 have hx : Eff.apply (⟨(YC ms k).kind, (YC ms k).val⟩ : Eff) (Z7 (Zg l k).isSome ((Zg l k).getD Str.nil)) = Eff.apply (YC ms k) (Zg l k) := by rw [hos]
 rw [hx] at h28
 have e : (Eff.apply (YC ms k) (Zg l k)).isSome = true := by simpa using h28
 rw [hx, e]

theorem Zsb {G : GH} {v_l : Value} {l : List Pair} (h_l : SlR Zi G v_l l) (k : Str) {v_ms : Value} {ms : List Msg} (h_ms : SlR Zo G v_ms ms) (hP : PairsR l) (hm : ∀ m ∈ ms, m.key.b.size < 140737488355328 ∧ m.val.b.size ≤ 16) :
    Fc Tryz.prog 97 [v_l, sV k.b, v_ms] G [] (fun v _ _ => v = .tuple #[sV (Str.b ((Eff.apply (YC ms k) (Zg l k)).getD Str.nil)), .bool ((Eff.apply (YC ms k) (Zg l k)).isSome)]) := by
 obtain ⟨sa_l, sc_l, rfl⟩ := h_l.form
 obtain ⟨sa_ms, sc_ms, rfl⟩ := h_ms.form
 have hr := hP.srt
 have hgv := hP.val k
 have hov := ZeN ms k (fun m h => (hm m h).2)
 have hos := Zcq (Zg l k)
 refine Fc.go [.tmp 6, .tmp 7] Tryz.func97 Tryz.ntmps97 rfl (fun w0 => (g9 11 ?_))
 refine W.qcall (Zsa h_l _ h_ms (by assumption) (by assumption)) rfl (g9 8 ?_)
 rfl

theorem Zf3 {G : GH} (pk : Int) (gO : Str) (gX : Str) (po : Bool) (pv : Str) (pl : Int) (hk : gO.b.size < 140737488355328) :
    Fc Tryz.prog 42 [.agg #[iV pk, sV gO.b, sV gX.b, .bool po, sV pv.b, iV pl]] G [] (fun v _ _ => v = .agg (List.toArray ((Opr.span (⟨pk, gO, gX, po, pv, pl⟩ : Opr)).cells))) := by
 refine Fc.go [.cell 2 62] Tryz.func42 Tryz.ntmps42 rfl (fun w0 => (g9 2 ?_))
 refine W.box (L := [iV _, sV _, sV _, .bool _, sV _, iV _]) rfl rfl (fun b1 => (W.alloc Zv (fun b2 => (g9 9 ?_))))
 refine W.sd 6 (fun h5 p5 => ?_) (fun h5 p5 => ?_)
 ·refine g9 15 ?_
  refine W.ok (Zw (L := [sV _, sV _, .bool _]) Y0 Zv rfl rfl rfl) (g9 6 ?_)
  refine gM (fun l => Value.agg (List.toArray l)) ?_
  rw [Opr.span, if_pos (by dsimp only; omega)]; rfl
 refine g9 9 ?_
 refine WC.cd (fun h9 p9 => ?_) (fun h9 p9 => ?_)
 ·refine g9 8 ?_
  refine W.ok (Zw (L := [sV _, sV _, .bool _]) Y0 Zv rfl rfl rfl) (g9 6 ?_)
  refine gM (fun l => Value.agg (List.toArray l)) ?_
  rw [Opr.span, if_pos (by dsimp only; omega)]; rfl
 refine g9 8 ?_
 refine W.ok (Zbt rfl rfl (by show _ + 1 ≤ _; omega)) (W.ok (Zw (L := [sV _, sV _, .bool _]) Y0 Zv rfl rfl rfl) (g9 5 ?_))
 refine gM (fun l => Value.agg (List.toArray l)) ?_
 rw [Opr.span, if_neg (by dsimp only; omega)] <;> simp [Span.cells, Str.next_b hk, ZU]

theorem Zsc {G : GH} (pk : Int) (gO : Str) (gX : Str) (po : Bool) (pv : Str) (pl : Int) :
    Fc Tryz.prog 93 [.agg #[iV pk, sV gO.b, sV gX.b, .bool po, sV pv.b, iV pl]] G [] (fun v _ _ => v = .bool (decide (pk = 1 ∨ pk = 2))) := by
 refine Fc.go [.tmp 2] Tryz.func93 Tryz.ntmps93 rfl (fun w0 => (g9 2 ?_))
 refine W.box (L := [iV _, sV _, sV _, .bool _, sV _, iV _]) rfl rfl (fun b3 => (g9 9 ?_))
 refine W.sd 6 (fun h5 p5 => ?_) (fun h5 p5 => ?_)
 ·refine g9 9 ?_
  refine gM Value.bool ?_
  simp_all
 refine g9 12 ?_
 refine gM Value.bool ?_
 simp_all

theorem Zkr {G : GH} (pk : Int) (gO : Str) (gX : Str) (po : Bool) (pv : Str) (pl : Int) :
    Fc Tryz.prog 94 [.agg #[iV pk, sV gO.b, sV gX.b, .bool po, sV pv.b, iV pl]] G [] (fun v _ _ => v = .bool (decide (pk = 4 ∨ pk = 6))) := by
 refine Fc.go [.tmp 2] Tryz.func94 Tryz.ntmps94 rfl (fun w0 => (g9 2 ?_))
 refine W.box (L := [iV _, sV _, sV _, .bool _, sV _, iV _]) rfl rfl (fun b4 => (g9 9 ?_))
 refine W.sd 6 (fun h5 p5 => ?_) (fun h5 p5 => ?_)
 ·refine g9 9 ?_
  refine gM Value.bool ?_
  simp_all
 refine g9 12 ?_
 refine gM Value.bool ?_
 simp_all

theorem Zsd {G : GH} (pk : Int) (gO : Str) (gX : Str) (po : Bool) (pv : Str) (pl : Int) :
    Fc Tryz.prog 131 [.agg #[iV pk, sV gO.b, sV gX.b, .bool po, sV pv.b, iV pl]] G [] (fun v _ _ => v = .bool (decide (1 ≤ pk ∧ pk ≤ 4))) := by
 refine Fc.go [.tmp 2] Tryz.func131 Tryz.ntmps131 rfl (fun w0 => (g9 2 ?_))
 refine W.box (L := [iV _, sV _, sV _, .bool _, sV _, iV _]) rfl rfl (fun b5 => (g9 9 ?_))
 refine W.sd 6 (fun h5 p5 => ?_) (fun h5 p5 => ?_)
 ·refine g9 12 ?_
  refine gM Value.bool ?_
  first | (simp_all; done) | (simp_all; omega)
 refine g9 9 ?_
 refine gM Value.bool ?_
 first | (simp_all; done) | (simp_all; omega)

theorem Zks {G : GH} (pk : Int) (gO : Str) (gX : Str) (po : Bool) (pv : Str) (pl : Int) (hk : gO.b.size < 140737488355328) :
    Fc Tryz.prog 47 [.agg #[iV pk, sV gO.b, sV gX.b, .bool po, sV pv.b, iV pl]] G [] (fun v _ _ => v = .agg (List.toArray ((Opr.span (⟨pk, gO, gX, po, pv, pl⟩ : Opr)).cells))) := by
 refine Fc.go [.cell 2 62] Tryz.func47 Tryz.ntmps47 rfl (fun w0 => (g9 2 ?_))
 refine W.box (L := [iV _, sV _, sV _, .bool _, sV _, iV _]) rfl rfl (fun b6 => (W.alloc Zv (fun b7 => (g9 6 ?_))))
 refine W.qcall (Zkr _ _ _ _ _ _) rfl (g9 2 ?_)
 refine WC.cond rfl (fun h4 => ?_) (fun h4 => ?_)
 ·refine g9 8 ?_
  refine W.ok (Zw (L := [sV _, sV _, .bool _]) Y0 Zv rfl rfl rfl) (g9 6 ?_)
  refine gM (fun l => Value.agg (List.toArray l)) ?_
  rw [Opr.span, if_pos (odt h4)]; rfl
 refine g9 6 ?_
 refine W.qcall (Zh3 _ (by first | assumption | omega | (dsimp only; omega))) rfl (g9 5 ?_)
 refine gM (fun l => Value.agg (List.toArray l)) ?_
 rw [Opr.span, if_neg (odf h4)]; try rfl

theorem Zse {G : GH} (pk : Int) (gO : Str) (gX : Str) (po : Bool) (pv : Str) (pl : Int) :
    Fc Tryz.prog 39 [.agg #[iV pk, sV gO.b, sV gX.b, .bool po, sV pv.b, iV pl]] G [] (fun v _ _ => v = .bool (decide (Opr.R (⟨pk, gO, gX, po, pv, pl⟩ : Opr)))) := by
 have h1 := gO.le
 have h2 := gX.le
 have h3 := pv.le
 refine Fc.go [.tmp 2] Tryz.func39 Tryz.ntmps39 rfl (fun w0 => (g9 2 ?_))
 refine W.box (L := [iV _, sV _, sV _, .bool _, sV _, iV _]) rfl rfl (fun b8 => (g9 10 ?_))
 refine W.sd 6 (fun h5 p5 => ?_) (fun h5 p5 => ?_)
 ·refine g9 33 ?_
  exact YV
 refine g9 8 ?_
 refine W.sd 11 (fun h9 p9 => ?_) (fun h9 p9 => ?_)
 ·refine g9 28 ?_
  exact YV
 refine g9 10 ?_
 refine W.sd 17 (fun h15 p15 => ?_) (fun h15 p15 => ?_)
 ·refine g9 22 ?_
  exact YV
 refine g9 10 ?_
 refine W.sd 23 (fun h21 p21 => ?_) (fun h21 p21 => ?_)
 ·refine g9 16 ?_
  exact YV
 refine g9 11 ?_
 refine WC.cd (fun h27 p27 => ?_) (fun h27 p27 => ?_)
 ·refine g9 8 ?_
  exact YV
 refine g9 2 ?_
 refine WC.join (X := Unit) (fun u5 => [(1, pt9 b8)]) (fun u5 _ Ml => Ml = [(b8, ce9 34 [iV pk, sV gO.b, sV gX.b, .bool po, sV pv.b, iV pl])] ∧ (pk ≤ 2 ∨ pv.b = ⟨#[]⟩) ∧ (pk = 6 ∨ pl = 0) ∧ (pk = 6 → 1 ≤ pl ∧ pl ≤ 64)) ?_ ?_
 ·refine g9 6 ?_
  refine W.sd 32 (fun h31 p31 => ?_) (fun h31 p31 => ?_)
  ·refine g9 8 ?_
   refine W.sm 37 (fun h35 p35 => ?_) (fun h35 p35 => ?_)
   ·refine g9 35 ?_
    exact YV
   refine g9 8 ?_
   refine W.sm 41 (fun h40 p40 => ?_) (fun h40 p40 => ?_)
   ·refine g9 10 ?_
    refine W.sm 47 (fun h44 p44 => ?_) (fun h44 p44 => ?_)
    ·refine g9 25 ?_
     exact YV
    refine g9 8 ?_
    refine W.sd 51 (fun h50 p50 => ?_) (fun h50 p50 => ?_)
    ·refine g9 8 ?_
     refine W.sd 55 (fun h54 p54 => ?_) (fun h54 p54 => ?_)
     ·refine g9 19 ?_
      exact YV
     refine g9 13 ?_
     refine WC.cd (fun h58 p58 => ?_) (fun h58 p58 => ?_)
     ·refine g9 8 ?_
      exact YV
     refine g9 2 ?_
     exact ⟨Le.rfl, (), hs9, ⟨rfl, gN, gN, gN⟩⟩
    refine g9 16 ?_
    exact ⟨Le.rfl, (), hs9, ⟨rfl, gN, gN, gN⟩⟩
   refine g9 15 ?_
   refine W.sd 51 (fun h50 p50 => ?_) (fun h50 p50 => ?_)
   ·refine g9 8 ?_
    refine W.sd 55 (fun h54 p54 => ?_) (fun h54 p54 => ?_)
    ·refine g9 19 ?_
     exact YV
    refine g9 13 ?_
    refine WC.cd (fun h58 p58 => ?_) (fun h58 p58 => ?_)
    ·refine g9 8 ?_
     exact YV
    refine g9 2 ?_
    exact ⟨Le.rfl, (), hs9, ⟨rfl, gN, gN, gN⟩⟩
   refine g9 16 ?_
   exact ⟨Le.rfl, (), hs9, ⟨rfl, gN, gN, gN⟩⟩
  refine g9 13 ?_
  refine W.sm 41 (fun h40 p40 => ?_) (fun h40 p40 => ?_)
  ·refine g9 10 ?_
   refine W.sm 47 (fun h44 p44 => ?_) (fun h44 p44 => ?_)
   ·refine g9 25 ?_
    exact YV
   refine g9 8 ?_
   refine W.sd 51 (fun h50 p50 => ?_) (fun h50 p50 => ?_)
   ·refine g9 8 ?_
    refine W.sd 55 (fun h54 p54 => ?_) (fun h54 p54 => ?_)
    ·refine g9 19 ?_
     exact YV
    refine g9 13 ?_
    refine WC.cd (fun h58 p58 => ?_) (fun h58 p58 => ?_)
    ·refine g9 8 ?_
     exact YV
    refine g9 2 ?_
    exact ⟨Le.rfl, (), hs9, ⟨rfl, gN, gN, gN⟩⟩
   refine g9 16 ?_
   exact ⟨Le.rfl, (), hs9, ⟨rfl, gN, gN, gN⟩⟩
  refine g9 15 ?_
  refine W.sd 51 (fun h50 p50 => ?_) (fun h50 p50 => ?_)
  ·refine g9 8 ?_
   refine W.sd 55 (fun h54 p54 => ?_) (fun h54 p54 => ?_)
   ·refine g9 19 ?_
    exact YV
   refine g9 13 ?_
   refine WC.cd (fun h58 p58 => ?_) (fun h58 p58 => ?_)
   ·refine g9 8 ?_
    exact YV
   refine g9 2 ?_
   exact ⟨Le.rfl, (), hs9, ⟨rfl, gN, gN, gN⟩⟩
  refine g9 16 ?_
  exact ⟨Le.rfl, (), hs9, ⟨rfl, gN, gN, gN⟩⟩
 rintro u5 gG9 G9 _ hG9 ⟨rfl, hj1, hj2, hj3⟩
 refine g9 7 ?_
 refine W.sd 65 (fun h64 p64 => ?_) (fun h64 p64 => ?_)
 ·refine g9 10 ?_
  refine W.qcall (Zf3 _ _ _ _ _ _ (by first | assumption | omega | (dsimp only; omega))) rfl (W.qcall (ZaE _ _ _) rfl (g9 2 ?_))
  refine W.sp 74 rfl (fun h73 => ?_) (fun h73 => ?_)
  ·replace h73 : (!(Opr.span (⟨pk, gO, gX, po, pv, pl⟩ : Opr)).empty) = true := h73
   refine g9 8 ?_
   refine W.sp 78 rfl (fun h77 => ?_) (fun h77 => ?_)
   ·refine g9 12 ?_
    exact YV
   refine g9 15 ?_
   exact YV
  replace h73 : (!(Opr.span (⟨pk, gO, gX, po, pv, pl⟩ : Opr)).empty) = false := h73
  refine g9 15 ?_
  exact YV
 refine g9 9 ?_
 refine WC.cd (fun h68 p68 => ?_) (fun h68 p68 => ?_)
 ·refine g9 3 ?_
  refine W.qcall (Zf3 _ _ _ _ _ _ (by first | assumption | omega | (dsimp only; omega))) rfl (W.qcall (ZaE _ _ _) rfl (g9 2 ?_))
  refine W.sp 74 rfl (fun h73 => ?_) (fun h73 => ?_)
  ·replace h73 : (!(Opr.span (⟨pk, gO, gX, po, pv, pl⟩ : Opr)).empty) = true := h73
   refine g9 8 ?_
   refine W.sp 78 rfl (fun h77 => ?_) (fun h77 => ?_)
   ·refine g9 12 ?_
    exact YV
   refine g9 15 ?_
   exact YV
  replace h73 : (!(Opr.span (⟨pk, gO, gX, po, pv, pl⟩ : Opr)).empty) = false := h73
  refine g9 15 ?_
  exact YV
 refine g9 8 ?_
 refine W.sd 87 (fun h86 p86 => ?_) (fun h86 p86 => ?_)
 ·refine g9 12 ?_
  exact YV
 refine g9 9 ?_
 exact YV

theorem Zkt {G : GH} (pk : Int) (gO : Str) (gX : Str) (po : Bool) (pv : Str) (pl : Int) :
    Fc Tryz.prog 44 [.agg #[iV pk, sV gO.b, sV gX.b, .bool po, sV pv.b, iV pl]] G [] (fun v _ _ => v = iV (if Opr.R (⟨pk, gO, gX, po, pv, pl⟩ : Opr) then 0 else 3)) := by
 have h1 := gO.le
 have h2 := gX.le
 have h3 := pv.le
 have hn : ∀ s : Str, s.b = ⟨#[]⟩ ↔ s = Str.nil := fun s => ⟨fun h => Str.ext' h, fun h => by rw [h]; rfl⟩
 refine Fc.go [.tmp 2] Tryz.func44 Tryz.ntmps44 rfl (fun w0 => (g9 2 ?_))
 refine W.box (L := [iV _, sV _, sV _, .bool _, sV _, iV _]) rfl rfl (fun b1 => (g9 3 ?_))
 refine WC.join (X := Bool) (fun ok => [(3, .bool ok), (1, pt9 b1)]) (fun ok _ Ml => Ml = [(b1, ce9 34 [iV pk, sV gO.b, sV gX.b, .bool po, sV pv.b, iV pl])] ∧ ok = decide (1 ≤ pk ∧ pk ≤ 6 ∧ gO.b.size ≤ 16 ∧ gX.b.size ≤ 16 ∧ pv.b.size ≤ 16)) ?_ ?_
 ·refine g9 5 ?_
  refine W.sd 7 (fun h6 p6 => ?_) (fun h6 p6 => ?_)
  ·refine g9 8 ?_
   refine W.sd 12 (fun h10 p10 => ?_) (fun h10 p10 => ?_)
   ·refine g9 5 ?_
    refine W.qcall (Zh7 _) rfl (g9 2 ?_)
    refine W.sp 17 rfl (fun h15 => ?_) (fun h15 => ?_)
    ·have k15 := odt h15
     refine g9 5 ?_
     refine W.qcall (Zh7 _) rfl (g9 2 ?_)
     refine W.sp 22 rfl (fun h20 => ?_) (fun h20 => ?_)
     ·have k20 := odt h20
      refine g9 5 ?_
      refine W.qcall (ZoM _) rfl (g9 4 ?_)
      exact ⟨Le.rfl, _, hs9, ⟨rfl, (by rw [Bool.eq_iff_iff, decide_eq_true_iff]; exact gN)⟩⟩
     refine g9 7 ?_
     exact ⟨Le.rfl, _, hs9, ⟨rfl, (by rw [Bool.eq_iff_iff, decide_eq_true_iff]; exact gN)⟩⟩
    refine g9 12 ?_
    exact ⟨Le.rfl, _, hs9, ⟨rfl, (by rw [Bool.eq_iff_iff, decide_eq_true_iff]; exact gN)⟩⟩
   refine g9 17 ?_
   exact ⟨Le.rfl, _, hs9, ⟨rfl, (by rw [Bool.eq_iff_iff, decide_eq_true_iff]; exact gN)⟩⟩
  refine g9 22 ?_
  exact ⟨Le.rfl, _, hs9, ⟨rfl, (by rw [Bool.eq_iff_iff, decide_eq_true_iff]; exact gN)⟩⟩
 rintro ok gG2 G2 _ hG2 ⟨rfl, hok⟩
 refine WC.join (X := Bool) (fun ok => [(3, .bool ok), (1, pt9 b1)]) (fun ok _ Ml => Ml = [(b1, ce9 34 [iV pk, sV gO.b, sV gX.b, .bool po, sV pv.b, iV pl])] ∧ ok = decide (1 ≤ pk ∧ pk ≤ 6 ∧ gO.b.size ≤ 16 ∧ gX.b.size ≤ 16 ∧ pv.b.size ≤ 16 ∧ (2 < pk → pv = Str.nil) ∧ (po = false ∨ gX = Str.nil))) ?_ ?_
 ·refine g9 3 ?_
  refine W.sp 28 rfl (fun hokb => ?_) (fun hokb => ?_)
  ·have hP := odt (hok.symm.trans hokb)
   have hks : gO.b.size < 140737488355328 := by omega
   refine g9 3 ?_
   refine W.qcall (Zsc _ _ _ _ _ _) rfl (g9 2 ?_)
   refine W.sp 31 rfl (fun h30 => ?_) (fun h30 => ?_)
   ·refine g9 15 ?_
    refine W.sp 41 rfl (fun h40 => ?_) (fun h40 => ?_)
    ·refine g9 9 ?_
     exact ⟨Le.rfl, _, hs9, ⟨rfl, (by rw [Bool.eq_iff_iff, decide_eq_true_iff]; exact gN)⟩⟩
    refine g9 12 ?_
    exact ⟨Le.rfl, _, hs9, ⟨rfl, (by rw [Bool.eq_iff_iff, decide_eq_true_iff]; exact gN)⟩⟩
   refine g9 10 ?_
   refine W.sd 37 (fun h34 p34 => ?_) (fun h34 p34 => ?_)
   ·refine g9 8 ?_
    refine W.sp 41 rfl (fun h40 => ?_) (fun h40 => ?_)
    ·refine g9 9 ?_
     exact ⟨Le.rfl, _, hs9, ⟨rfl, (by rw [Bool.eq_iff_iff, decide_eq_true_iff]; exact gN)⟩⟩
    refine g9 12 ?_
    exact ⟨Le.rfl, _, hs9, ⟨rfl, (by rw [Bool.eq_iff_iff, decide_eq_true_iff]; exact gN)⟩⟩
   refine g9 12 ?_
   exact ⟨Le.rfl, _, hs9, ⟨rfl, (by rw [Bool.eq_iff_iff, decide_eq_true_iff]; exact gN)⟩⟩
  refine g9 21 ?_
  exact ⟨Le.rfl, _, hs9, ⟨rfl, (by rw [Bool.eq_iff_iff, decide_eq_true_iff]; exact gN)⟩⟩
 rintro ok gG3 G3 _ hG3 ⟨rfl, hok⟩
 refine WC.join (X := Bool) (fun ok => [(3, .bool ok), (1, pt9 b1)]) (fun ok _ Ml => Ml = [(b1, ce9 34 [iV pk, sV gO.b, sV gX.b, .bool po, sV pv.b, iV pl])] ∧ ok = decide (1 ≤ pk ∧ pk ≤ 6 ∧ gO.b.size ≤ 16 ∧ gX.b.size ≤ 16 ∧ pv.b.size ≤ 16 ∧ (2 < pk → pv = Str.nil) ∧ (po = false ∨ gX = Str.nil) ∧ if pk = 4 ∨ pk = 6 then (Opr.span (⟨pk, gO, gX, po, pv, pl⟩ : Opr)).empty = false else gX = Str.nil ∧ po = false)) ?_ ?_
 ·refine g9 3 ?_
  refine W.qcall (Zkr _ _ _ _ _ _) rfl (g9 2 ?_)
  refine WC.cond rfl (fun h48 => ?_) (fun h48 => ?_)
  ·refine g9 3 ?_
   refine W.sp 50 rfl (fun hokb => ?_) (fun hokb => ?_)
   ·have hP := odt (hok.symm.trans hokb)
    have hks : gO.b.size < 140737488355328 := by omega
    refine g9 3 ?_
    refine W.qcall (Zks _ _ _ _ _ _ (by first | assumption | omega | (dsimp only; omega))) rfl (g9 1 ?_)
    refine W.qcall (Zcy _ _ _) rfl (g9 6 ?_)
    exact ⟨Le.rfl, _, hs9, ⟨rfl, (by rw [Bool.eq_iff_iff, decide_eq_true_iff]; show (!(Opr.span (⟨pk, gO, gX, po, pv, pl⟩ : Opr)).empty) = true ↔ _; rw [if_pos (odt h48)]; exact gN)⟩⟩
   refine g9 8 ?_
   exact ⟨Le.rfl, _, hs9, ⟨rfl, (by refine (decide_eq_false fun h => odf (hok.symm.trans hokb) ?_).symm; obtain ⟨a, b, c, d, e, f, g, _⟩ := h; exact ⟨a, b, c, d, e, f, g⟩)⟩⟩
  refine g9 3 ?_
  refine W.sp 57 rfl (fun hokb => ?_) (fun hokb => ?_)
  ·have hP := odt (hok.symm.trans hokb)
   have hks : gO.b.size < 140737488355328 := by omega
   refine g9 8 ?_
   refine W.sd 62 (fun h60 p60 => ?_) (fun h60 p60 => ?_)
   ·refine g9 10 ?_
    exact ⟨Le.rfl, _, hs9, ⟨rfl, (by rw [Bool.eq_iff_iff, decide_eq_true_iff]; rw [if_neg (odf h48)]; exact gN)⟩⟩
   refine g9 7 ?_
   exact ⟨Le.rfl, _, hs9, ⟨rfl, (by rw [Bool.eq_iff_iff, decide_eq_true_iff]; rw [if_neg (odf h48)]; exact gN)⟩⟩
  refine g9 12 ?_
  exact ⟨Le.rfl, _, hs9, ⟨rfl, (by rw [Bool.eq_iff_iff, decide_eq_true_iff]; rw [if_neg (odf h48)]; exact gN)⟩⟩
 rintro ok gG4 G4 _ hG4 ⟨rfl, hok⟩
 refine WC.join (X := Bool) (fun ok => [(3, .bool ok)]) (fun ok _ Ml => Ml = [(b1, ce9 34 [iV pk, sV gO.b, sV gX.b, .bool po, sV pv.b, iV pl])] ∧ ok = decide (Opr.R (⟨pk, gO, gX, po, pv, pl⟩ : Opr))) ?_ ?_
 ·refine g9 7 ?_
  refine WC.cd (fun h69 p69 => ?_) (fun h69 p69 => ?_)
  ·refine g9 3 ?_
   refine W.sp 71 rfl (fun hokb => ?_) (fun hokb => ?_)
   ·have hP := odt (hok.symm.trans hokb)
    have hks : gO.b.size < 140737488355328 := by omega
    refine g9 8 ?_
    refine W.sd 76 (fun h74 p74 => ?_) (fun h74 p74 => ?_)
    ·refine g9 10 ?_
     exact ⟨Le.rfl, _, hs9, ⟨rfl, (by rw [Bool.eq_iff_iff, decide_eq_true_iff]; simp only [Opr.R]; exact gN)⟩⟩
    refine g9 7 ?_
    exact ⟨Le.rfl, _, hs9, ⟨rfl, (by rw [Bool.eq_iff_iff, decide_eq_true_iff]; simp only [Opr.R]; exact gN)⟩⟩
   refine g9 12 ?_
   exact ⟨Le.rfl, _, hs9, ⟨rfl, (by rw [Bool.eq_iff_iff, decide_eq_true_iff]; simp only [Opr.R]; exact gN)⟩⟩
  refine g9 3 ?_
  refine W.sp 82 rfl (fun hokb => ?_) (fun hokb => ?_)
  ·have hP := odt (hok.symm.trans hokb)
   have hks : gO.b.size < 140737488355328 := by omega
   refine g9 10 ?_
   exact ⟨Le.rfl, _, hs9, ⟨rfl, (by rw [Bool.eq_iff_iff, decide_eq_true_iff]; simp only [Opr.R]; exact gN)⟩⟩
  refine g9 7 ?_
  exact ⟨Le.rfl, _, hs9, ⟨rfl, (by rw [Bool.eq_iff_iff, decide_eq_true_iff]; simp only [Opr.R]; exact gN)⟩⟩
 rintro ok gG5 G5 _ hG5 ⟨rfl, hok⟩
 refine g9 7 ?_
 refine WC.cond rfl (fun h88 => ?_) (fun h88 => ?_)
 ·refine g9 8 ?_
  refine gM (Value.int .i64) ?_
  subst hok
  rw [if_neg (by simpa using h88)]
 refine g9 9 ?_
 refine gM (Value.int .i64) ?_
 subst hok
 rw [if_pos (by simpa using h88)]

theorem Zsf {G : GH} (pk : Int) (gO : Str) (gX : Str) (po : Bool) (pv : Str) (pl : Int) (n : Int) :
    Fc Tryz.prog 28 [.agg #[iV pk, sV gO.b, sV gX.b, .bool po, sV pv.b, iV pl], iV n] G [] (fun v _ _ => v = .bool (decide ((gO.b.size : Int) ≤ n ∧ (gX.b.size : Int) ≤ n ∧ (pv.b.size : Int) ≤ n))) := by
 have h1 := gO.le
 have h2 := gX.le
 have h3 := pv.le
 refine Fc.go [.tmp 4] Tryz.func28 Tryz.ntmps28 rfl (fun w0 => (g9 2 ?_))
 refine W.box (L := [iV _, sV _, sV _, .bool _, sV _, iV _]) rfl rfl (fun b6 => (g9 11 ?_))
 refine W.sd 10 (fun h9 p9 => ?_) (fun h9 p9 => ?_)
 ·refine g9 12 ?_
  refine W.sd 17 (fun h15 p15 => ?_) (fun h15 p15 => ?_)
  ·refine g9 16 ?_
   refine gM Value.bool ?_
   first | (simp_all; done) | (simp_all; omega) | (simp_all; intros; omega)
  refine g9 11 ?_
  refine gM Value.bool ?_
  first | (simp_all; done) | (simp_all; omega) | (simp_all; intros; omega)
 refine g9 18 ?_
 refine gM Value.bool ?_
 first | (simp_all; done) | (simp_all; omega) | (simp_all; intros; omega)

theorem Zsg {G : GH} (pk : Int) (gO : Str) (gX : Str) (po : Bool) (pv : Str) (pl : Int) (s : Int) (hR : Opr.R (⟨pk, gO, gX, po, pv, pl⟩ : Opr)) (hk4 : pk ≤ 4) (hs : 1 ≤ s) :
    Fc Tryz.prog 78 [.agg #[iV pk, sV gO.b, sV gX.b, .bool po, sV pv.b, iV pl], iV s] G [] (fun v _ _ => v = .tuple #[.agg (List.toArray ((Opr.msg (⟨pk, gO, gX, po, pv, pl⟩ : Opr) s).cells)), .bool (true)]) := by
 have hk1 := hR.1.1
 dsimp only at hk1
 refine Fc.go [.cell 4 87, .tmp 5] Tryz.func78 Tryz.ntmps78 rfl (fun w0 => (g9 2 ?_))
 refine W.box (L := [iV _, sV _, sV _, .bool _, sV _, iV _]) rfl rfl (fun b1 => (W.alloc ZJ (fun b2 => (g9 7 ?_))))
 refine W.qcall (Zkt _ _ _ _ _ _) rfl (g9 2 ?_)
 refine W.sm 9 (fun h8 p8 => ?_) (fun h8 p8 => ?_)
 ·simp [hR] at h8
 refine g9 3 ?_
 refine W.qcall (Zsd _ _ _ _ _ _) rfl (g9 4 ?_)
 refine W.sp 14 rfl (fun h12 => ?_) (fun h12 => ?_)
 ·simp only [Bool.not_eq_true', decide_eq_false_iff_not] at h12
  exfalso; omega
 refine g9 7 ?_
 refine WC.cd (fun h16 p16 => ?_) (fun h16 p16 => ?_)
 ·exfalso; omega
 refine g9 15 ?_
 refine W.ok (Zw (L := [iV _, iV _, sV _, sV _, .bool _, sV _]) Za5 ZJ rfl rfl rfl) (g9 6 ?_)
 rfl

theorem Zsh {G : GH} {v_l : Value} {l : List Pair} (h_l : SlR Zi G v_l l) (pk : Int) (gO : Str) (gX : Str) (po : Bool) (pv : Str) (pl : Int) (hP : PairsR l) (hn : l.length ≤ 1000000) :
    Fc Tryz.prog 12 [v_l, .agg #[iV pk, sV gO.b, sV gX.b, .bool po, sV pv.b, iV pl]] G [] (fun v G' M' => M' = [] ∧ ∃ r : List Pair × Ans, r = doN l (⟨pk, gO, gX, po, pv, pl⟩ : Opr) ∧ ∃ u0 u1, v = .tuple #[u0, .agg (List.toArray u1)] ∧ SlR Zi G' u0 (r.1) ∧ AnsC G' u1 (r.2)) := by
 obtain ⟨sa_l, sc_l, rfl⟩ := h_l.form
 have hr := hP.srt
 have hl := h_l.len47
 refine Fc.go [.tmp 4, .cell 5 38] Tryz.func12 Tryz.ntmps12 rfl (fun w0 => (g9 2 ?_))
 refine W.box (L := [iV _, sV _, sV _, .bool _, sV _, iV _]) rfl rfl (fun b3 => (W.as (W.alloc Zah (fun b4 => (g9 4 ?_)))))
 refine W.ok (Zw (L := [iV _, .bool _, sV _, lV _ _ _]) Ze0 Zah rfl rfl rfl) (W.alloc Zah (fun b5 => (g9 7 ?_)))
 refine W.qcall (Zse _ _ _ _ _ _) rfl (g9 3 ?_)
 refine WC.cond rfl (fun h10 => ?_) (fun h10 => ?_)
 ·refine g9 7 ?_
  refine WC.dw ((sr9.k9.cons _).k9) (d9 [0, 1, 2, 3] ?_)
  refine g9 5 ?_
  refine ⟨rfl, _, (ZjR (by simpa using h10)).symm, _, _, rfl, ?_, ?_⟩
  · exact h_l
  exact ⟨_, _, rfl, SlR.nil, (by first | assumption | exact ⟨by decide, by decide⟩ | exact ⟨by dsimp only; omega, by dsimp only; omega⟩ | (simp only [h3]; exact ⟨by decide, by decide⟩) | exact ⟨by rw [h3]; decide, by rw [h3]; decide⟩)⟩
 have hR : Opr.R (⟨pk, gO, gX, po, pv, pl⟩ : Opr) := by simpa using h10
 have hks := hR.1.2.2.1
 dsimp only at hks
 have hkf : Msg.fit ⟨1, pk, gO, gX, po, pv⟩ := hR.fit 1
 refine g9 10 ?_
 refine WC.cd (fun h16 p16 => ?_) (fun h16 p16 => ?_)
 ·refine g9 5 ?_
  refine W.qcall (Zh9 h_l _) rfl (g9 10 ?_)
  refine WC.dw ((sr9.k9.cons _).k9) (d9 [0, 1, 2, 3] ?_)
  refine g9 5 ?_
  refine ⟨rfl, _, (ZjS hR p16).symm, _, _, rfl, ?_, ?_⟩
  · exact h_l
  exact ⟨_, _, rfl, SlR.nil, (by first | assumption | exact ⟨by decide, by decide⟩ | exact ⟨by dsimp only; omega, by dsimp only; omega⟩ | (simp only [h3]; exact ⟨by decide, by decide⟩) | exact ⟨by rw [h3]; decide, by rw [h3]; decide⟩)⟩
 refine g9 10 ?_
 refine WC.cd (fun h30 p30 => ?_) (fun h30 p30 => ?_)
 ·refine WC.seq (WC.dw ((sr9.k9.k9).cons _) (d9 [0, 1, 3, 4] ?_))
  refine WD.a1 2 rfl (W.qcall (Zf3 _ _ _ _ _ _ (by first | assumption | omega | (dsimp only; omega))) rfl (W.nn (WD.a1 5 rfl (W.cS (Zku h_l _ _ _ _ (by first | assumption | omega | (simp; omega) | (exact PairsR.fold (by assumption) (by assumption)))) rfl (fun sa_v7 sc_v7 G6 hG6 hv7 => (W.nn (d9 [6, 7] ?_)))))))
  refine g9 3 ?_
  refine WC.dw ((sr9.k9.cons _).k9) (d9 [0, 1, 2, 3] ?_)
  refine g9 5 ?_
  refine ⟨rfl, _, (ZjT hR p30).symm, _, _, rfl, ?_, ?_⟩
  · exact (h_l.mono hG6)
  exact ⟨_, _, rfl, hv7, (by first | assumption | exact ⟨by decide, by decide⟩ | exact ⟨by dsimp only; omega, by dsimp only; omega⟩ | (simp only [h3]; exact ⟨by decide, by decide⟩) | exact ⟨by rw [h3]; decide, by rw [h3]; decide⟩)⟩
 refine g9 3 ?_
 refine WC.dw ((sr9.k9.cons _).k9) (d9 [0, 1, 2, 3, 4, 5, 6, 7, 8, 9, 10] ?_)
 refine WD.tk 11 rfl (Zw (L := [iV _, iV _, sV _, sV _, .bool _, sV _]) Za5 ZJ rfl rfl rfl) (d9 [13] ?_)
 refine WD.a1 12 rfl (W.cS (ZkF h_l _ _ _ _ _ _ (by first | assumption | omega | (simp; omega) | (exact PairsR.fold (by assumption) (by assumption))) (by first | assumption | omega | (simp; omega) | (exact PairsR.fold (by assumption) (by assumption))) (by first | assumption | exact Zb1 (by assumption))) rfl (fun sa_v14 sc_v14 G13 hG13 hv14 => (W.nn (d9 [14, 15] ?_))))
 refine g9 4 ?_
 refine ⟨rfl, _, (ZjU hR p16 p30).symm, _, _, rfl, ?_, ?_⟩
 · exact hv14
 exact ⟨_, _, rfl, SlR.nil, (by first | assumption | exact ⟨by decide, by decide⟩ | exact ⟨by dsimp only; omega, by dsimp only; omega⟩ | (simp only [h3]; exact ⟨by decide, by decide⟩) | exact ⟨by rw [h3]; decide, by rw [h3]; decide⟩)⟩

end Go.Proofs.YtbbemibbmbmamaaGreat
