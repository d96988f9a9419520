/- Walks of writes at the root. -/
import Derived.Test.YtbbemibbmbmamaaGreatQgVq
set_option maxRecDepth 100000
set_option maxHeartbeats 1600000
set_option linter.unusedVariables false
set_option linter.unusedSimpArgs false
set_option linter.unnecessarySimpa false
namespace Go.Proofs.YtbbemibbmbmamaaGreat
open Go Go.Fw Go.RowKit
attribute [local irreducible] Ok W WC
theorem Zqi {G : GH} {b_s : Nat} {c c2 : Cfg} {l : List Nd} {ss : List Seat} {gQ : MH} (h_s : StR 60 4 3 189 139 b_s c G l gQ) (t : Tree c2 l ss) (pk : Int) (gO : Str) (gX : Str) (po : Bool) (pv : Str) (pl : Int) (hc9 : c = c2) (hR : Opr.R (⟨pk, gO, gX, po, pv, pl⟩ : Opr)) (hk4 : pk ≤ 4) (hsn : 0 ≤ (Za l 0).seen ∧ (Za l 0).seen ≤ 1000000000000) :
    Fc Tryz.prog 148 [pt9 b_s, .agg #[iV pk, sV gO.b, sV gX.b, .bool po, sV pv.b, iV pl]] G gQ (fun v G' M' => (∃ cs, v = .tuple #[.agg (List.toArray cs), iV (Zu c l (⟨pk, gO, gX, po, pv, pl⟩ : Opr)).2.1] ∧ NodeC G' cs (XL c l (⟨pk, gO, gX, po, pv, pl⟩ : Opr))) ∧ M' = gQ) := by
 subst hc9
 have hp9 := t.pos
 have hs1 : 1 ≤ (Za l 0).seen + 1 := by omega
 have hs2 : i64 ((Za l 0).seen + 1) := ⟨om9, om9⟩
 have hmR : Msg.R ((⟨pk, gO, gX, po, pv, pl⟩ : Opr).msg ((Za l 0).seen + 1)) := ZfT hR hk4 hs1
 have hrs : (Za l 0).R c.fan c.leaf c.bud := by have h9 := (t.seat t.root).1; rwa [t.rootn] at h9
 obtain ⟨hli1, hli2⟩ := t.cfg.2.1
 have hli : i64 c.leaf := ⟨om9, om9⟩
 have hbu := t.cfg.2.2.1
 have hbn : 0 ≤ c.bud ∧ c.bud ≤ 9223372036854775807 := by omega
 have hPr : PairsR (Za l 0).rows := by have h9 := t.rows t.root; rwa [t.rootn] at h9
 have hNd := Zba t.cfg hrs
 have hrl := hNd.2.2.2.1
 have hml : (Za l 0).msgs.length ≤ 1000000 := by have := hNd.2.2.1; omega
 have hmi1 : i64 ((Za l 0).seen + 1) := hs2
 have hmi2 : i64 pk := ⟨by have := hR.1.1; dsimp only at this; omega, om9⟩
 have hms9 : ∀ m ∈ (Za l 0).msgs, m.key.b.size ≤ 16 ∧ m.val.b.size ≤ 16 := fun m hm => YW ((t.msgs t.root).2.1 m (by rw [t.rootn]; exact hm))
 refine Fc.go [.cell 4 60, .tmp 5] Tryz.func148 Tryz.ntmps148 rfl (fun w0 => (WC.perm (M' := (gQ ++ [])) (by simp) (g9 2 ?_)))
 refine W.box (L := [iV _, sV _, sV _, .bool _, sV _, iV _]) rfl rfl (fun b1 => (W.alloc Zn (fun b2 => (g9 6 ?_))))
 refine W.call (Mp := gQ) (J7 h_s 0) rfl (pmC (pmC pr9)) ?_
 intro v6 G3 Ms5 hG3 q4
 refine match q4 with | ⟨⟨_, e_8, ⟨_, _, _, _, _, _, _, _, e_9, hp_7, hk_7, hm_7, hr_7, hok_7⟩⟩, eeq4⟩ => ?_
 subst e_8
 subst e_9
 have eeq4 := eeq4.symm
 subst eeq4
 refine W.perm (pmC (pmC pr9)).symm (g9 3 ?_)
 refine W.alloc Zn (fun b10 => (g9 11 ?_))
 refine WC.cn (fun h15 p15 => ?_) (fun h15 p15 => ?_)
 ·try dsimp only at p15
  exact absurd h15 (by simp; omega)
 try dsimp only at p15
 refine g9 8 ?_
 refine W.qcall (Zsg pk gO gX po pv pl ((Za l 0).seen + 1) hR hk4 hs1) rfl (g9 3 ?_)
 refine W.alloc ZJ (fun b11 => (g9 22 ?_))
 refine WC.cd (fun h30 p30 => ?_) (fun h30 p30 => ?_)
 ·try dsimp only at p30
  refine WC.dw (((sn9.k9.k9).cons _).k9) (d9 [0, 2, 3] ?_)
  refine WD.any [1, 4] (by kernel_rfl) rfl ⟨WD.ap ?_, WD.ap ?_, trivial⟩
  ·refine g9 1 ?_
   refine W.nn (WD.a1 4 rfl (W.call (Mp := gQ) (Jv (StR.mono hG3 h_s)) rfl (pmC (pmC (pmC (pmC pr9)))) ?_))
   intro v15 G12 Ms14 hG12 q13
   refine match q13 with | ⟨e_17, eeq13⟩ => ?_
   subst e_17
   have eeq13 := eeq13.symm
   subst eeq13
   refine W.perm (pmC (pmC (pmC (pmC pr9)))).symm (W.nn (WD.tk 5 rfl (Zet (L := [iV _, iV _, iV _, iV _, iV _]) (vs := ic9) ZhY rfl rfl rfl) (WD.a1 6 rfl (W.call (Mp := []) (Zgc (hr_7.mono hG12) (((⟨pk, gO, gX, po, pv, pl⟩ : Opr).msg ((Za l 0).seen + 1))).stamp (((⟨pk, gO, gX, po, pv, pl⟩ : Opr).msg ((Za l 0).seen + 1))).kind (((⟨pk, gO, gX, po, pv, pl⟩ : Opr).msg ((Za l 0).seen + 1))).key (((⟨pk, gO, gX, po, pv, pl⟩ : Opr).msg ((Za l 0).seen + 1))).hi (((⟨pk, gO, gX, po, pv, pl⟩ : Opr).msg ((Za l 0).seen + 1))).opn (((⟨pk, gO, gX, po, pv, pl⟩ : Opr).msg ((Za l 0).seen + 1))).val c.leaf hPr om9 (hR.fit _)) rfl pr9 ?_))))
   intro _ G18 _ hG18 q20
   refine match q20 with | ⟨e_21, _, e_22, _, e_23, hv19⟩ => ?_
   subst e_21
   subst e_22
   subst e_23
   have q25 := hv19.form
   refine match q25 with | ⟨sa_v19, sc_v19, e_24⟩ => ?_
   subst e_24
   refine W.nn (d9 [7, 8, 9, 10, 11, 12] ?_)
   refine g9 9 ?_
   refine WC.cond rfl (fun h54 => ?_) (fun h54 => ?_)
   ·refine g9 9 ?_
    refine ⟨.inr rfl, [_, _], ⟨⟨_, _, _, _, _, rfl, YE (i := 2) rfl, Ym, (by simp), rfl, rfl⟩, rfl, trivial⟩, gQ, ((((gL _ _).cons _).cons _).cons _).cons _, ?_⟩
    have hb9 : Yi (Za l 0).rows ((⟨pk, gO, gX, po, pv, pl⟩ : Opr).msg ((Za l 0).seen + 1)) c.leaf = false := by rw [← ZdX]; simpa using h54
    have hE := Zbe (c := c) (o := (⟨pk, gO, gX, po, pv, pl⟩ : Opr)) p30 hb9
    have hE2 : (Zu c l (⟨pk, gO, gX, po, pv, pl⟩ : Opr)).2.1 = 4 := by rw [hE]
    rw [Zko p30 om9, hE2]
    exact ⟨⟨_, rfl, _, _, _, _, _, _, _, _, rfl, (hp_7.mono lec), (hk_7.mono lec), (hm_7.mono lec), hv19, hok_7⟩, rfl⟩
   refine g9 18 ?_
   refine ⟨.inr rfl, [_, _], ⟨⟨_, _, _, _, _, rfl, YE (i := 2) rfl, Ym, (by simp), rfl, rfl⟩, rfl, trivial⟩, gQ, ((((gL _ _).cons _).cons _).cons _).cons _, ?_⟩
   have hb9 : Yi (Za l 0).rows ((⟨pk, gO, gX, po, pv, pl⟩ : Opr).msg ((Za l 0).seen + 1)) c.leaf = true := by rw [← ZdX]; simpa using h54
   have hE := ZbY (c := c) (o := (⟨pk, gO, gX, po, pv, pl⟩ : Opr)) p30 hb9
   have hE2 : (Zu c l (⟨pk, gO, gX, po, pv, pl⟩ : Opr)).2.1 = 0 := by rw [hE]
   rw [Zf1 p30 (by exact hE2), hE2]
   exact ⟨⟨_, rfl, _, _, _, _, _, _, _, _, rfl, (hp_7.mono lec), (hk_7.mono lec), (hm_7.mono lec), hv19, ⟨hok_7.1, hok_7.2.1, hok_7.2.2.1, hs2⟩⟩, rfl⟩
  refine W.call (Mp := gQ) (Jv (StR.mono hG3 h_s)) rfl (pmC (pmC (pmC (pmC pr9)))) ?_
  intro v29 G26 Ms28 hG26 q27
  refine match q27 with | ⟨e_31, eeq27⟩ => ?_
  subst e_31
  have eeq27 := eeq27.symm
  subst eeq27
  refine W.perm (pmC (pmC (pmC (pmC pr9)))).symm (W.nn (WD.tk 5 rfl (Zet (L := [iV _, iV _, iV _, iV _, iV _]) (vs := ic9) ZhY rfl rfl rfl) (WD.a1 1 rfl (g9 1 ?_))))
  refine W.nn (WD.a1 6 rfl (W.call (Mp := []) (Zgc (hr_7.mono hG26) (((⟨pk, gO, gX, po, pv, pl⟩ : Opr).msg ((Za l 0).seen + 1))).stamp (((⟨pk, gO, gX, po, pv, pl⟩ : Opr).msg ((Za l 0).seen + 1))).kind (((⟨pk, gO, gX, po, pv, pl⟩ : Opr).msg ((Za l 0).seen + 1))).key (((⟨pk, gO, gX, po, pv, pl⟩ : Opr).msg ((Za l 0).seen + 1))).hi (((⟨pk, gO, gX, po, pv, pl⟩ : Opr).msg ((Za l 0).seen + 1))).opn (((⟨pk, gO, gX, po, pv, pl⟩ : Opr).msg ((Za l 0).seen + 1))).val c.leaf hPr om9 (hR.fit _)) rfl pr9 ?_))
  intro _ G32 _ hG32 q34
  refine match q34 with | ⟨e_35, _, e_36, _, e_37, hv33⟩ => ?_
  subst e_35
  subst e_36
  subst e_37
  have q39 := hv33.form
  refine match q39 with | ⟨sa_v33, sc_v33, e_38⟩ => ?_
  subst e_38
  refine W.nn (d9 [7, 8, 9, 10, 11, 12] ?_)
  refine g9 9 ?_
  refine WC.cond rfl (fun h54 => ?_) (fun h54 => ?_)
  ·refine g9 9 ?_
   refine ⟨.inr rfl, [_, _], ⟨⟨_, _, _, _, _, rfl, YE (i := 2) rfl, Ym, (by simp), rfl, rfl⟩, rfl, trivial⟩, gQ, ((((gL _ _).cons _).cons _).cons _).cons _, ?_⟩
   have hb9 : Yi (Za l 0).rows ((⟨pk, gO, gX, po, pv, pl⟩ : Opr).msg ((Za l 0).seen + 1)) c.leaf = false := by rw [← ZdX]; simpa using h54
   have hE := Zbe (c := c) (o := (⟨pk, gO, gX, po, pv, pl⟩ : Opr)) p30 hb9
   have hE2 : (Zu c l (⟨pk, gO, gX, po, pv, pl⟩ : Opr)).2.1 = 4 := by rw [hE]
   rw [Zko p30 om9, hE2]
   exact ⟨⟨_, rfl, _, _, _, _, _, _, _, _, rfl, (hp_7.mono lec), (hk_7.mono lec), (hm_7.mono lec), hv33, hok_7⟩, rfl⟩
  refine g9 18 ?_
  refine ⟨.inr rfl, [_, _], ⟨⟨_, _, _, _, _, rfl, YE (i := 2) rfl, Ym, (by simp), rfl, rfl⟩, rfl, trivial⟩, gQ, ((((gL _ _).cons _).cons _).cons _).cons _, ?_⟩
  have hb9 : Yi (Za l 0).rows ((⟨pk, gO, gX, po, pv, pl⟩ : Opr).msg ((Za l 0).seen + 1)) c.leaf = true := by rw [← ZdX]; simpa using h54
  have hE := ZbY (c := c) (o := (⟨pk, gO, gX, po, pv, pl⟩ : Opr)) p30 hb9
  have hE2 : (Zu c l (⟨pk, gO, gX, po, pv, pl⟩ : Opr)).2.1 = 0 := by rw [hE]
  rw [Zf1 p30 (by exact hE2), hE2]
  exact ⟨⟨_, rfl, _, _, _, _, _, _, _, _, rfl, (hp_7.mono lec), (hk_7.mono lec), (hm_7.mono lec), hv33, ⟨hok_7.1, hok_7.2.1, hok_7.2.2.1, hs2⟩⟩, rfl⟩
 try dsimp only at p30
 refine WC.dw (((sn9.k9.k9).cons _).k9) (d9 [0, 2, 3] ?_)
 refine WD.any [1, 4] (by kernel_rfl) rfl ⟨WD.ap ?_, WD.ap ?_, trivial⟩
 ·refine g9 1 ?_
  refine W.nn (WD.a1 4 rfl (W.call (Mp := gQ) (Jv (StR.mono hG3 h_s)) rfl (pmC (pmC (pmC (pmC pr9)))) ?_))
  intro v43 G40 Ms42 hG40 q41
  refine match q41 with | ⟨e_45, eeq41⟩ => ?_
  subst e_45
  have eeq41 := eeq41.symm
  subst eeq41
  refine W.perm (pmC (pmC (pmC (pmC pr9)))).symm (W.nn (WD.tk 5 rfl (Zet (L := [iV _, iV _, iV _, iV _, iV _]) (vs := ic9) ZhZ rfl rfl rfl) (WD.a1 6 rfl (W.call (Mp := []) (ZfF (hm_7.mono hG40) (((⟨pk, gO, gX, po, pv, pl⟩ : Opr).msg ((Za l 0).seen + 1))).stamp (((⟨pk, gO, gX, po, pv, pl⟩ : Opr).msg ((Za l 0).seen + 1))).kind (((⟨pk, gO, gX, po, pv, pl⟩ : Opr).msg ((Za l 0).seen + 1))).key (((⟨pk, gO, gX, po, pv, pl⟩ : Opr).msg ((Za l 0).seen + 1))).hi (((⟨pk, gO, gX, po, pv, pl⟩ : Opr).msg ((Za l 0).seen + 1))).opn (((⟨pk, gO, gX, po, pv, pl⟩ : Opr).msg ((Za l 0).seen + 1))).val c.bud hms9 hbn ⟨hmi1, hmi2⟩ hml) rfl pr9 ?_))))
  intro _ G46 _ hG46 q48
  refine match q48 with | ⟨e_49, _, e_50, _, e_51, hv47⟩ => ?_
  subst e_49
  subst e_50
  subst e_51
  have q53 := hv47.form
  refine match q53 with | ⟨sa_v47, sc_v47, e_52⟩ => ?_
  subst e_52
  refine W.nn (d9 [7, 8, 9, 10, 11, 12] ?_)
  refine g9 9 ?_
  refine WC.cond rfl (fun h54 => ?_) (fun h54 => ?_)
  ·refine g9 9 ?_
   refine ⟨.inr rfl, [_, _], ⟨⟨_, _, _, _, _, rfl, YE (i := 2) rfl, Ym, (by simp), rfl, rfl⟩, rfl, trivial⟩, gQ, ((((gL _ _).cons _).cons _).cons _).cons _, ?_⟩
   have hb9 : Yg c.bud (Za l 0).msgs ((⟨pk, gO, gX, po, pv, pl⟩ : Opr).msg ((Za l 0).seen + 1)) = false := by rw [← Zd0]; simpa using h54
   have hE := Zbf (c := c) (o := (⟨pk, gO, gX, po, pv, pl⟩ : Opr)) p30 hb9
   have hE2 : (Zu c l (⟨pk, gO, gX, po, pv, pl⟩ : Opr)).2.1 = 4 := by rw [hE]
   rw [Zkp p30 om9, hE2]
   exact ⟨⟨_, rfl, _, _, _, _, _, _, _, _, rfl, (hp_7.mono lec), (hk_7.mono lec), hv47, (hr_7.mono lec), hok_7⟩, rfl⟩
  refine g9 18 ?_
  refine ⟨.inr rfl, [_, _], ⟨⟨_, _, _, _, _, rfl, YE (i := 2) rfl, Ym, (by simp), rfl, rfl⟩, rfl, trivial⟩, gQ, ((((gL _ _).cons _).cons _).cons _).cons _, ?_⟩
  have hb9 : Yg c.bud (Za l 0).msgs ((⟨pk, gO, gX, po, pv, pl⟩ : Opr).msg ((Za l 0).seen + 1)) = true := by rw [← Zd0]; simpa using h54
  have hE := ZbZ (c := c) (o := (⟨pk, gO, gX, po, pv, pl⟩ : Opr)) p30 hb9
  have hE2 : (Zu c l (⟨pk, gO, gX, po, pv, pl⟩ : Opr)).2.1 = 0 := by rw [hE]
  rw [Zf2 p30 (by exact hE2), hE2]
  exact ⟨⟨_, rfl, _, _, _, _, _, _, _, _, rfl, (hp_7.mono lec), (hk_7.mono lec), hv47, (hr_7.mono lec), ⟨hok_7.1, hok_7.2.1, hok_7.2.2.1, hs2⟩⟩, rfl⟩
 refine W.call (Mp := gQ) (Jv (StR.mono hG3 h_s)) rfl (pmC (pmC (pmC (pmC pr9)))) ?_
 intro v57 G54 Ms56 hG54 q55
 refine match q55 with | ⟨e_59, eeq55⟩ => ?_
 subst e_59
 have eeq55 := eeq55.symm
 subst eeq55
 refine W.perm (pmC (pmC (pmC (pmC pr9)))).symm (W.nn (WD.tk 5 rfl (Zet (L := [iV _, iV _, iV _, iV _, iV _]) (vs := ic9) ZhZ rfl rfl rfl) (WD.a1 1 rfl (g9 1 ?_))))
 refine W.nn (WD.a1 6 rfl (W.call (Mp := []) (ZfF (hm_7.mono hG54) (((⟨pk, gO, gX, po, pv, pl⟩ : Opr).msg ((Za l 0).seen + 1))).stamp (((⟨pk, gO, gX, po, pv, pl⟩ : Opr).msg ((Za l 0).seen + 1))).kind (((⟨pk, gO, gX, po, pv, pl⟩ : Opr).msg ((Za l 0).seen + 1))).key (((⟨pk, gO, gX, po, pv, pl⟩ : Opr).msg ((Za l 0).seen + 1))).hi (((⟨pk, gO, gX, po, pv, pl⟩ : Opr).msg ((Za l 0).seen + 1))).opn (((⟨pk, gO, gX, po, pv, pl⟩ : Opr).msg ((Za l 0).seen + 1))).val c.bud hms9 hbn ⟨hmi1, hmi2⟩ hml) rfl pr9 ?_))
 intro _ G60 _ hG60 q62
 refine match q62 with | ⟨e_63, _, e_64, _, e_65, hv61⟩ => ?_
 subst e_63
 subst e_64
 subst e_65
 have q67 := hv61.form
 refine match q67 with | ⟨sa_v61, sc_v61, e_66⟩ => ?_
 subst e_66
 refine W.nn (d9 [7, 8, 9, 10, 11, 12] ?_)
 refine g9 9 ?_
 refine WC.cond rfl (fun h54 => ?_) (fun h54 => ?_)
 ·refine g9 9 ?_
  refine ⟨.inr rfl, [_, _], ⟨⟨_, _, _, _, _, rfl, YE (i := 2) rfl, Ym, (by simp), rfl, rfl⟩, rfl, trivial⟩, gQ, ((((gL _ _).cons _).cons _).cons _).cons _, ?_⟩
  have hb9 : Yg c.bud (Za l 0).msgs ((⟨pk, gO, gX, po, pv, pl⟩ : Opr).msg ((Za l 0).seen + 1)) = false := by rw [← Zd0]; simpa using h54
  have hE := Zbf (c := c) (o := (⟨pk, gO, gX, po, pv, pl⟩ : Opr)) p30 hb9
  have hE2 : (Zu c l (⟨pk, gO, gX, po, pv, pl⟩ : Opr)).2.1 = 4 := by rw [hE]
  rw [Zkp p30 om9, hE2]
  exact ⟨⟨_, rfl, _, _, _, _, _, _, _, _, rfl, (hp_7.mono lec), (hk_7.mono lec), hv61, (hr_7.mono lec), hok_7⟩, rfl⟩
 refine g9 18 ?_
 refine ⟨.inr rfl, [_, _], ⟨⟨_, _, _, _, _, rfl, YE (i := 2) rfl, Ym, (by simp), rfl, rfl⟩, rfl, trivial⟩, gQ, ((((gL _ _).cons _).cons _).cons _).cons _, ?_⟩
 have hb9 : Yg c.bud (Za l 0).msgs ((⟨pk, gO, gX, po, pv, pl⟩ : Opr).msg ((Za l 0).seen + 1)) = true := by rw [← Zd0]; simpa using h54
 have hE := ZbZ (c := c) (o := (⟨pk, gO, gX, po, pv, pl⟩ : Opr)) p30 hb9
 have hE2 : (Zu c l (⟨pk, gO, gX, po, pv, pl⟩ : Opr)).2.1 = 0 := by rw [hE]
 rw [Zf2 p30 (by exact hE2), hE2]
 exact ⟨⟨_, rfl, _, _, _, _, _, _, _, _, rfl, (hp_7.mono lec), (hk_7.mono lec), hv61, (hr_7.mono lec), ⟨hok_7.1, hok_7.2.1, hok_7.2.2.1, hs2⟩⟩, rfl⟩

theorem Zqj {G : GH} {b_s : Nat} {c c2 : Cfg} {l : List Nd} {ss : List Seat} {gQ : MH} (h_s : StR 60 4 3 189 139 b_s c G l gQ) (t : Tree c2 l ss) (pk : Int) (gO : Str) (gX : Str) (po : Bool) (pv : Str) (pl : Int) (hc9 : c = c2) (hR : Opr.R (⟨pk, gO, gX, po, pv, pl⟩ : Opr)) (hk4 : pk ≤ 4) (hsn : 0 ≤ (Za l 0).seen ∧ (Za l 0).seen ≤ 1000000000000) :
    Fc Tryz.prog 104 [pt9 b_s, .agg #[iV pk, sV gO.b, sV gX.b, .bool po, sV pv.b, iV pl]] G gQ (fun v G' M' => v = .tuple #[iV (Zu c l (⟨pk, gO, gX, po, pv, pl⟩ : Opr)).1, iV (Zu c l (⟨pk, gO, gX, po, pv, pl⟩ : Opr)).2.1] ∧ StR 60 4 3 189 139 b_s c G' (Zu c l (⟨pk, gO, gX, po, pv, pl⟩ : Opr)).2.2 M') := by
 subst hc9
 have hc9 : c = c := rfl
 have hp9 := t.pos
 have hsl0 := (YQ t.slot (i := 0) ⟨Int.le_refl _, om9⟩).1
 refine Fc.go [.tmp 4, .tmp 5] Tryz.func104 Tryz.ntmps104 rfl (fun w0 => (WC.perm (M' := (gQ ++ [])) (by simp) (g9 2 ?_)))
 refine W.box (L := [iV _, sV _, sV _, .bool _, sV _, iV _]) rfl rfl (fun b68 => (g9 8 ?_))
 refine W.call (Mp := gQ) (Zqi h_s t pk gO gX po pv pl hc9 hR hk4 hsn) rfl (pmC pr9) ?_
 intro v72 G69 Ms71 hG69 q70
 refine match q70 with | ⟨⟨_, e_74, ⟨_, _, _, _, _, _, _, _, e_75, hp_73, hk_73, hm_73, hr_73, hok_73⟩⟩, eeq70⟩ => ?_
 subst e_74
 subst e_75
 have eeq70 := eeq70.symm
 subst eeq70
 refine W.perm (pmC pr9).symm (g9 3 ?_)
 refine W.alloc Zn (fun b76 => (g9 11 ?_))
 refine WC.cn (fun h15 p15 => ?_) (fun h15 p15 => ?_)
 ·try dsimp only at p15
  refine g9 9 ?_
  refine ⟨.inr rfl, [_, _], ⟨rfl, rfl, trivial⟩, gQ, ((gL _ _).cons _).cons _, ?_⟩
  have hE := ZfV (c := c) (l := l) (o := (⟨pk, gO, gX, po, pv, pl⟩ : Opr)) p15
  exact ⟨gM (fun q : Int => Value.tuple #[iV q, iV (Zu c l (⟨pk, gO, gX, po, pv, pl⟩ : Opr)).2.1]) (show (0 : Int) = (Zu c l (⟨pk, gO, gX, po, pv, pl⟩ : Opr)).1 by rw [hE]), StR.to (StR.mono hG69 h_s) (by rw [hE])⟩
 try dsimp only at p15
 refine g9 3 ?_
 refine WC.dw (sn9.k9.k9) (d9 [0, 1, 2, 3] ?_)
 refine WD.a1 4 rfl (W.call (Mp := gQ) (Yz (StR.mono hG69 h_s) (by rw [Zkq, hsl0]; omega) (nk9 hp_73 hk_73 hm_73 hr_73 hok_73)) rfl (pmC (pmC pr9)) ?_)
 intro v80 G77 Ms79 hG77 q78
 refine match q78 with | ⟨e_82, hR81⟩ => ?_
 subst e_82
 refine W.perm (pmC (pmC pr9)).symm (W.nn (d9 [5, 6] ?_))
 refine g9 3 ?_
 refine ⟨.inr rfl, [_, _], ⟨rfl, rfl, trivial⟩, Ms79, ((gL _ _).cons _).cons _, ?_⟩
 have hE : (Zu c l (⟨pk, gO, gX, po, pv, pl⟩ : Opr)).2.1 = 0 := by omega
 exact ⟨(gM (fun q : Int => Value.tuple #[iV q, iV 0]) (Zr8 hE)).trans (gM (fun q : Int => Value.tuple #[iV (Zu c l (⟨pk, gO, gX, po, pv, pl⟩ : Opr)).1, iV q]) hE.symm), StR.to hR81 (Zr9 t hE)⟩

end Go.Proofs.YtbbemibbmbmamaaGreat
namespace Go.Fw
open Go Go.RowKit
def BtR (te tB ti tb TS TT bt bs : Nat) (c : Cfg) (G : GH) (X : List Nd × Str) (M : MH) : Prop := ∃ Ms, M = (bt, .cells (List.toArray [.pointer (some ⟨bs, 0, none⟩), .string X.2.b]) TT (0, 0)) :: Ms ∧ StR te tB ti tb TS bs c G X.1 Ms
theorem BtR.mono {te tB ti tb TS TT bt bs : Nat} {c : Cfg} {G G' : GH} {X : List Nd × Str} {M : MH} (hl : Le G G') (h : BtR te tB ti tb TS TT bt bs c G X M) : BtR te tB ti tb TS TT bt bs c G' X M := by
  obtain ⟨Ms, h1, h2⟩ := h; exact ⟨Ms, h1, h2.mono hl⟩
section
variable {c : Cfg} {l l' : List Nd} {ss : List Seat} {o : Opr} {k : Int} {q : Str} {e : Int}
def isM (n : Nd) : Bool := decide ((0 : Int) < (n.msgs.length : Int))
def Zan (l : List Nd) : Bool := l.all fun n => !isM n
theorem Zqk (l : List Nd) : (!decide ((0 : Int) ≤ Yw isM l)) = Zan l := by
  rcases ZcP isM l with ⟨h, h2⟩ | ⟨k, hk, h, h2, _⟩
  · rw [h]
    have : Zan l = true := List.all_eq_true.2 fun x hx => by rw [h2 x hx]; rfl
    rw [this]; rfl
  · rw [h]
    have : Zan l = false := Bool.eq_false_iff.2 fun hq => by
      have := List.all_eq_true.1 hq l[k] (List.getElem_mem hk)
      rw [h2] at this; cases this
    rw [this]; simp
theorem Zql {l : List Nd} (h : ∀ j (h : j < l.length), (l[j]).msgs.length = 0) : Zan l = true := List.all_eq_true.2 fun x hx => by
  obtain ⟨j, hj, rfl⟩ := List.getElem_of_mem hx
  unfold isM
  rw [h j hj]; rfl
theorem Zqm {l : List Nd} {j : Nat} (hj : j < l.length) (h : 0 < (l[j]).msgs.length) : Zan l = false := Bool.eq_false_iff.2 fun hq => by
  have := List.all_eq_true.1 hq l[j] (List.getElem_mem hj)
  unfold isM at this
  rw [decide_eq_true (by omega)] at this; cases this
def RoomP (c : Cfg) (l : List Nd) (q : Str) (e : Int) (l' : List Nd) : Prop :=
  ((Za l 0).level = 0 ∧ e = (ZS c l).1 ∧ l' = (ZS c l).2) ∨
  (¬ (Za l 0).level = 0 ∧ ∃ N r, Y8 c q N l 0 0 = some r ∧ l' = r.2.2 ∧ e = (if 0 < r.1 then 0 else if r.2.1 = 0 then 4 else r.2.1))
theorem Zqn (h : (ZS c l).1 = 0) : l.length < (ZS c l).2.length := by
  unfold ZS at h ⊢
  split at h
  · cases h
  · rename_i h4
    rw [if_neg h4]
    split at h
    · cases h
    · rename_i h5
      rw [if_neg h5]
      unfold YU
      simp
theorem Zjn (t : Tree c l ss) (ho : o.R) (h4 : o.kind ≤ 4) (hg : Grown k l) (hf : ¬ (Zu c l o).2.1 = 0) (h : RoomP c l q e l') :
    (∃ T, Tree c l' T) ∧ Zh l' = Zh l ∧ Grown k l' ∧ (e = 0 → muL c l' < muL c l) ∧ (¬ e = 0 → e = 4 ∧ c.slots - (l'.length : Int) < 2) := by
  obtain ⟨_, hl, hi⟩ := ZrR t ho h4 hg hf
  rcases h with ⟨h0, rfl, rfl⟩ | ⟨h0, N, r, hr, rfl, rfl⟩
  · obtain ⟨T, hT, hm⟩ := ZiQ t
    refine ⟨⟨T, hT⟩, hm, hg.lift t, fun h1 => ZfY hT (Zqn h1), fun h1 => ?_⟩
    rcases Zki t (Zkh (k := q) t (.inr ⟨h0, hl h0⟩)) with h2 | ⟨h2, h3⟩
    · exact absurd h2 h1
    · rw [h2]; exact ⟨rfl, h3⟩
  · have ha : (0 : Int) ≤ 0 ∧ (0 : Int) < l.length := ⟨Int.le_refl _, by have := t.pos; omega⟩
    obtain ⟨T, hT, hm⟩ := ZcN N t ha hr
    have hmu := Zf0 N t ha hr
    have her := ZdY N t ha hr
    refine ⟨⟨T, hT⟩, hm, hg.cyc t hr, fun h1 => ?_, fun h1 => ?_⟩
    · by_cases h2 : 0 < r.1
      · exact hmu.1 h2
      · rw [if_neg h2] at h1
        split at h1
        · cases h1
        · rename_i h3; exact absurd h1 h3
    · by_cases h2 : 0 < r.1
      · rw [if_pos h2] at h1; exact absurd rfl h1
      · rw [if_neg h2]
        rcases ZrM t (hi h0) hr with h3 | h3
        · exact absurd h3 h2
        · rw [if_neg (by omega)]
          rcases her with h5 | ⟨h5, h6⟩
          · omega
          · exact ⟨h5, h6⟩
structure WrP (c : Cfg) (k : Int) (o : Opr) (l : List Nd) (e : Int) (l' : List Nd) : Prop where
  t : ∃ T, Tree c l' T
  g : Grown (k + 1) l'
  r : (e = 0 ∧ Zh l' = takeN (Zh l) (o.msg 1)) ∨ (e = 4 ∧ Zh l' = Zh l ∧ c.slots - (l'.length : Int) < 2)
  x : (Zu c l o).2.1 = 0 → l' = (Zu c l o).2.2 ∧ e = 0
theorem Grown.up {k' : Int} (h : Grown k l) (hk : k ≤ k') : Grown k' l := ⟨h.all, by have := h.le; omega, h.pos⟩
theorem WrP.ok {l0 : List Nd} (t : Tree c l ss) (ho : o.R) (h4 : o.kind ≤ 4) (hg : Grown k l) (hk : k < 1099511627776) (hm : Zh l = Zh l0) (hx : l = l0 ∨ ¬ (Zu c l0 o).2.1 = 0) (h : (Zu c l o).2.1 = 0) : WrP c k o l0 0 (Zu c l o).2.2 := by
  obtain ⟨h1, h2, h3, _, _⟩ := ZrQ t ho h4 hg hk h
  exact ⟨h1, h3, .inl ⟨rfl, by rw [h2, hm]⟩, fun h0 => hx.elim (fun e => by subst e; exact ⟨rfl, rfl⟩) fun hn => absurd h0 hn⟩
theorem WrP.no {l0 : List Nd} (t : Tree c l ss) (ho : o.R) (h4 : o.kind ≤ 4) (hg : Grown k l) (hm : Zh l = Zh l0) (hx : l = l0 ∨ ¬ (Zu c l0 o).2.1 = 0) (hf : ¬ (Zu c l o).2.1 = 0) (h : RoomP c l q e l') (he : ¬ e = 0) : WrP c k o l0 e l' := by
  obtain ⟨h1, h2, h3, _, h5⟩ := Zjn t ho h4 hg hf h
  exact ⟨h1, h3.up (by omega), .inr ⟨(h5 he).1, by rw [h2, hm], (h5 he).2⟩, fun h0 => hx.elim (fun e => absurd (e ▸ h0) hf) fun hn => absurd h0 hn⟩
structure DoP (c : Cfg) (k : Int) (o : Opr) (l : List Nd) (a : Ans) (l' : List Nd) : Prop where
  t : ∃ T, Tree c l' T
  g : Grown (k + 1) l'
  r : (a = (doN (Zh l) o).2 ∧ Zh l' = (doN (Zh l) o).1) ∨ (a = ⟨4, false, Str.nil, []⟩ ∧ Zh l' = Zh l ∧ o.kind ≤ 4 ∧ (doN (Zh l) o).2.err = 0 ∧ c.slots - (l'.length : Int) < 2)
  x : o.R → o.kind ≤ 4 → (Zu c l o).2.1 = 0 → l' = (Zu c l o).2.2 ∧ a = ⟨0, false, Str.nil, []⟩
  z : 4 < o.kind → l' = l
theorem DoP.bad (t : Tree c l ss) (hg : Grown k l) (h : ¬ o.R) : DoP c k o l ⟨3, false, Str.nil, []⟩ l := ⟨⟨_, t⟩, hg.up (by omega), .inl (by rw [ZjR h]; exact ⟨rfl, rfl⟩), fun hR => absurd hR h, fun _ => rfl⟩
theorem DoP.get (t : Tree c l ss) (hg : Grown k l) (h : o.R) (h5 : o.kind = 5) : DoP c k o l ⟨0, (Zg (Zh l) o.key).isSome, (Zg (Zh l) o.key).getD Str.nil, []⟩ l := ⟨⟨_, t⟩, hg.up (by omega), .inl (by rw [ZjS h h5]; exact ⟨rfl, rfl⟩), fun _ h4 => absurd h4 (by omega), fun _ => rfl⟩
theorem DoP.scan (t : Tree c l ss) (hg : Grown k l) (h : o.R) (h6 : o.kind = 6) : DoP c k o l ⟨0, false, Str.nil, Yj (Zh l) o.span o.lim⟩ l := ⟨⟨_, t⟩, hg.up (by omega), .inl (by rw [ZjT h h6]; exact ⟨rfl, rfl⟩), fun _ h4 => absurd h4 (by omega), fun _ => rfl⟩
theorem DoP.wr {l' : List Nd} (h : o.R) (h5 : ¬ o.kind = 5) (h6 : ¬ o.kind = 6) (hw : WrP c k o l e l') : DoP c k o l ⟨e, false, Str.nil, []⟩ l' := by
  have h7 : o.kind ≤ 4 := by have h8 := h.1.1; have h9 := h.1.2.1; omega
  refine ⟨hw.t, hw.g, ?_, fun _ _ h0 => ⟨(hw.x h0).1, by rw [(hw.x h0).2]⟩, fun h8 => absurd h8 (by omega)⟩
  rw [ZjU h h5 h6]
  rcases hw.r with ⟨rfl, h1⟩ | ⟨rfl, h1, h2⟩
  · exact .inl ⟨rfl, h1⟩
  · exact .inr ⟨rfl, h1, h7, rfl, h2⟩
end
end Go.Fw
namespace Go.Proofs.YtbbemibbmbmamaaGreat
open Go Go.Fw Go.RowKit
attribute [local irreducible] Ok W WC
theorem Zqo {G : GH} (slo : Str) (shi : Str) (so : Bool) {v_ls : Value} {ls : List (List Msg)} (h_ls : SlR (eSl Zo) G v_ls ls) (ht : YI ls ≤ 100000000) (hln : ls.length ≤ 100000) (hks : ∀ i (h : i < ls.length), ∀ m ∈ ls[i], m.key.b.size < 140737488355328) :
    Fc Tryz.prog 144 [.agg #[sV slo.b, sV shi.b, .bool so], v_ls] G [] (fun v G' M' => M' = [] ∧ ∃ u0, v = u0 ∧ SlR Zo G' u0 (ZL (ls.map (Zc ⟨slo, shi, so⟩)))) := by
 obtain ⟨sa_ls, sc_ls, rfl⟩ := h_ls.form
 have hl := h_ls.len47
 have htm := ZkZ (f := (Zc ⟨slo, shi, so⟩)) (fun l => JZ) ls
 refine Fc.go [.tmp 4] Tryz.func144 Tryz.ntmps144 rfl (fun w0 => (g9 2 ?_))
 refine W.box (L := [sV _, sV _, .bool _]) rfl rfl (fun b1 => (g9 17 ?_))
 refine WC.loop (X := (Nat) × Value × MH) (fun k => [(10, nt9 k.1), (2, pt9 b1), (8, lV sa_ls ls.length sc_ls), (9, nt9 ((ls).length)), (5, k.2.1)]) (fun k G Ml => Ml = ((b1, ce9 62 [sV slo.b, sV shi.b, .bool so]) :: (k.2.2 ++ [])) ∧ OwnR (eSl Zo) 58 G k.2.1 ((ls.take k.1).map (Zc ⟨slo, shi, so⟩)) k.2.2 ∧ k.1 ≤ ls.length) (fun k => ls.length - k.1) (0, lV none 0 0, ([] : MH)) hs9 ?_ ?_
 ·exact ⟨rfl, (by simpa using OwnR.nil), om9⟩
 rintro ⟨k, v_5, M_5⟩ gG2 G2 _ hG2 ⟨rfl, ho_5, hk⟩
 try dsimp only at ho_5 hk
 refine WC.fr (f := ZR gG2 [(10, nt9 k), (2, pt9 b1), (8, lV sa_ls ls.length sc_ls), (9, nt9 ((ls).length)), (5, v_5)]) rfl (g9 6 ?_)
 refine WC.cd (fun h11 p11 => ?_) (fun h11 p11 => ?_)
 ·refine g9 6 ?_
  have q6 := (h_ls.mono hG2).at (i := k) om9
  refine match q6 with | ⟨_, he3, ⟨_, e_5, hs4⟩⟩ => ?_
  subst e_5
  obtain ⟨sa_hs4, sc_hs4, rfl⟩ := hs4.form
  refine g9 9 ?_
  refine W.cS (ZdH hs4 slo shi so (hks k om9)) rfl (fun sa_v8 sc_v8 G7 hG7 hv8 => (W.lit (e := (eSl Zo)) (l := [Zc ⟨slo, shi, so⟩ (ls[k])]) (css := [[lV _ _ _]]) Za7 Za6 Zcw rfl rfl rfl rfl rfl rfl ⟨⟨_, rfl, hv8⟩, trivial⟩ (fun bl14 G14 hG14 hv14 => (W.app (e := (eSl Zo)) Za7 Za6 Zcw rfl ZhU rfl rfl ((ho_5.mono lec)) (hv14) (pmC pr9) (by show (List.length _ + 1) * 24 ≤ _; rw [List.length_map, List.length_take]; omega) (fun v15 Ms16 ho17 => (W.perm (pmC pr9).symm (g9 9 ?_)))))))
  exact ⟨lec, (k + 1, v15, Ms16), hs9, ⟨rfl, (by have h := ho17; rw [List.take_succ_eq_append_getElem om9, List.map_append]; exact h), om9⟩, om9⟩
 refine g9 8 ?_
 refine W.giveO ho_5 (pmC pr9) (fun G18 hG18 hv18 => ?_)
 have hc19 := SlR.cast hv18 (l' := ls.map (Zc ⟨slo, shi, so⟩)) (by rw [List.take_of_length_le om9])
 have q21 := hc19.form
 refine match q21 with | ⟨_, _, e_20⟩ => ?_
 subst e_20
 refine W.cS (Zqg hc19 om9 (by rw [List.length_map]; omega)) rfl (fun sa_v23 sc_v23 G22 hG22 hv23 => (g9 5 ?_))
 refine ⟨rfl, _, rfl, ?_⟩
 · exact hv23

theorem ZfH {G : GH} {b_s : Nat} {c c2 : Cfg} {l : List Nd} {ss : List Seat} {gQ : MH} (h_s : StR 60 4 3 189 139 b_s c G l gQ) (t : Tree c2 l ss) (k : Str) :
    Fc Tryz.prog 96 [pt9 b_s, sV k.b] G gQ (fun v G' M' => M' = gQ ∧ ∃ u0, v = .tuple #[.agg (List.toArray u0), .agg (List.toArray ((Zt l k).s.cells)), .bool (true)] ∧ NodeC G' u0 ((Zt l k).n)) := by
 have hwp := t.way_pos k
 have hwl := t.way_len k
 have hwn : ((ZC l k).map fun y : Seat => y.n).length = (ZC l k).length := List.length_map ..
 have hws : ((ZC l k).map fun y : Seat => y.s).length = (ZC l k).length := List.length_map ..
 refine Fc.go [.cell 4 60, .cell 5 62, .tmp 6] Tryz.func96 Tryz.ntmps96 rfl (fun w0 => (WC.perm (M' := (gQ ++ [])) (by simp) (g9 2 ?_)))
 refine W.alloc Zn (fun b24 => (W.alloc Zv (fun b25 => (g9 7 ?_))))
 refine W.call (Mp := gQ) (ZjK h_s t _) rfl (pmC (pmC pr9)) ?_
 intro v31 G28 Ms30 hG28 q29
 refine match q29 with | ⟨eeq29, _, _, e_33, hv26, hv27⟩ => ?_
 subst e_33
 have eeq29 := eeq29.symm
 subst eeq29
 refine W.perm (pmC (pmC pr9)).symm ?_
 have q35 := hv26.form
 refine match q35 with | ⟨sa_v26, sc_v26, e_34⟩ => ?_
 subst e_34
 have q37 := hv27.form
 refine match q37 with | ⟨sa_v27, sc_v27, e_36⟩ => ?_
 subst e_36
 refine g9 15 ?_
 refine WC.cd (fun h17 p17 => ?_) (fun h17 p17 => ?_)
 ·exfalso; omega
 refine g9 3 ?_
 refine WC.dw ((sr9.cons _).cons _) (d9 [0, 1, 2, 3] ?_)
 refine hv26.aN (i := ((ZC l k).length - 1)) om9 (fun _ _ _ _ _ _ _ _ he38 hp_n39 hk_n39 hm_n39 hr_n39 hok_n39 => (WD.tk 4 rfl (ZX (i := ((ZC l k).length - 1)) Xg Ym hv26 rfl rfl ⟨om9, om9⟩) (d9 [5, 6, 7, 8, 9] ?_)))
 refine hv27.a1 (i := ((ZC l k).length - 1)) om9 (fun he42 => (WD.tk 10 rfl (ZX (i := ((ZC l k).length - 1)) XR Yq hv27 rfl rfl ⟨om9, om9⟩) (d9 [11, 12, 13, 14] ?_)))
 refine g9 3 ?_
 refine ⟨.inr rfl, [_, _, _], ⟨⟨_, _, _, _, _, rfl, YE (i := 1) rfl, Ym, (by simp), rfl, rfl⟩, ⟨_, _, _, _, _, rfl, YE (i := 0) rfl, Yq, (by simp), rfl, rfl⟩, rfl, trivial⟩, gQ, ((gL _ _).cons _).cons _, ?_⟩
 exact ⟨rfl, _, gM (fun s : Span => Value.tuple #[.agg (List.toArray _), .agg (List.toArray s.cells), .bool true]) (t.last_s k om9 om9), NodeC.of (nk9 hp_n39 hk_n39 hm_n39 hr_n39 hok_n39) (t.last_n k om9 om9)⟩

theorem Zjo {G : GH} {b_s : Nat} {c c2 : Cfg} {l : List Nd} {ss : List Seat} {gQ : MH} (h_s : StR 60 4 3 189 139 b_s c G l gQ) (t : Tree c2 l ss) (k : Str) :
    Fc Tryz.prog 98 [pt9 b_s, sV k.b] G gQ (fun v G' M' => M' = gQ ∧ ∃ u0, v = u0 ∧ SlR Zo G' u0 ((Zt l k).ms)) := by
 have hwp := t.way_pos k
 have hwl := t.way_len k
 have hwn : ((ZC l k).map fun y : Seat => y.n).length = (ZC l k).length := List.length_map ..
 have hws : ((ZC l k).map fun y : Seat => y.s).length = (ZC l k).length := List.length_map ..
 have hmt := t.path_tot k
 refine Fc.go [.tmp 4] Tryz.func98 Tryz.ntmps98 rfl (fun w0 => (WC.perm (M' := (gQ ++ [])) (by simp) (g9 9 ?_)))
 refine W.call (Mp := gQ) (ZjK h_s t _) rfl pr9 ?_
 intro v51 G48 Ms50 hG48 q49
 refine match q49 with | ⟨eeq49, _, _, e_53, hv46, hv47⟩ => ?_
 subst e_53
 have eeq49 := eeq49.symm
 subst eeq49
 have q55 := hv46.form
 refine match q55 with | ⟨sa_v46, sc_v46, e_54⟩ => ?_
 subst e_54
 have q57 := hv47.form
 refine match q57 with | ⟨sa_v47, sc_v47, e_56⟩ => ?_
 subst e_56
 refine g9 21 ?_
 refine WC.loop (X := (Nat) × Value × MH) (fun i => [(18, nt9 i.1), (5, lV sa_v46 (((ZC (l) (k)).map fun y : Seat => y.n)).length sc_v46), (6, lV sa_v47 (((ZC (l) (k)).map fun y : Seat => y.s)).length sc_v47), (16, lV sa_v46 (((ZC (l) (k)).map fun y : Seat => y.n)).length sc_v46), (17, nt9 ((((ZC (l) (k)).map fun y : Seat => y.n)).length)), (7, i.2.1)]) (fun i G Ml => Ml = (i.2.2 ++ (gQ ++ [])) ∧ OwnR (eSl Zo) 58 G i.2.1 ((((ZC l k).map fun y : Seat => y.n).map fun n : Nd => n.msgs).take i.1) i.2.2 ∧ i.1 ≤ (ZC l k).length) (fun i => (ZC l k).length - i.1) (0, lV none 0 0, ([] : MH)) hs9 ?_ ?_
 ·exact ⟨rfl, (by simpa using OwnR.nil), om9⟩
 rintro ⟨i, v_7, M_7⟩ gG58 G58 _ hG58 ⟨rfl, ho_7, hi⟩
 try dsimp only at ho_7 hi
 refine WC.fr (f := ZR gG58 [(18, nt9 i), (5, lV sa_v46 (((ZC (l) (k)).map fun y : Seat => y.n)).length sc_v46), (6, lV sa_v47 (((ZC (l) (k)).map fun y : Seat => y.s)).length sc_v47), (16, lV sa_v46 (((ZC (l) (k)).map fun y : Seat => y.n)).length sc_v46), (17, nt9 ((((ZC (l) (k)).map fun y : Seat => y.n)).length)), (7, v_7)]) rfl (g9 6 ?_)
 refine WC.cd (fun h19 p19 => ?_) (fun h19 p19 => ?_)
 ·refine g9 6 ?_
  refine (hv46.mono hG58).aN (i := i) om9 (fun _ _ _ _ _ _ _ _ he59 hp_n60 hk_n60 hm_n60 hr_n60 hok_n60 => (g9 2 ?_))
  refine W.alloc Zn (fun b63 => (g9 7 ?_))
  refine W.lit (e := (eSl Zo)) (l := [((((ZC (l) (k)).map fun y : Seat => y.n))[i]).msgs]) (css := [[lV _ _ _]]) Za7 Za6 Zcw rfl rfl rfl rfl rfl rfl ⟨⟨_, rfl, hm_n60⟩, trivial⟩ (fun bl64 G64 hG64 hv64 => (W.app (e := (eSl Zo)) Za7 Za6 Zcw rfl ZhU rfl rfl ((ho_7.mono hG64)) (hv64) (pmC pr9) (by show (List.length _ + 1) * 24 ≤ _; rw [List.length_take, List.length_map, List.length_map]; omega) (fun v65 Ms66 ho67 => (W.perm (pmC pr9).symm (g9 7 ?_)))))
  refine W.sub (sr9.cons _) (g9 2 ?_)
  exact ⟨hG64, (i + 1, v65, Ms66), hs9, ⟨rfl, (by have h := ho67; rw [List.take_succ_eq_append_getElem (by simp; omega), List.getElem_map]; exact h), om9⟩, om9⟩
 refine g9 13 ?_
 refine WC.cd (fun h30 p30 => ?_) (fun h30 p30 => ?_)
 ·exfalso; omega
 refine g9 8 ?_
 refine (hv47.mono hG58).a1 (i := ((ZC l k).length - 1)) om9 (fun he68 => (W.ok (ZX (i := ((ZC l k).length - 1)) XR Yq (hv47.mono hG58) rfl rfl ⟨om9, om9⟩) (g9 2 ?_)))
 refine W.giveO ho_7 pr9 (fun G72 hG72 hv72 => ?_)
 have hc73 := SlR.cast hv72 (l' := (((ZC l k).map fun y : Seat => y.n).map fun n : Nd => n.msgs)) (by rw [List.take_of_length_le (by simp; omega)])
 have q75 := hc73.form
 refine match q75 with | ⟨_, _, e_74⟩ => ?_
 subst e_74
 refine W.cS (Zqo _ _ _ hc73 om9 (by rw [List.length_map, List.length_map]; omega) (t.path_key k)) rfl (fun sa_v77 sc_v77 G76 hG76 hv77 => (g9 4 ?_))
 refine ⟨.inr rfl, [_], ⟨rfl, trivial⟩, gQ, gL _ _, ?_⟩
 refine ⟨rfl, _, rfl, ?_⟩
 · exact SlR.cast hv77 (t.path_msgs k (t.last_s k om9 om9))

theorem Zqp {G : GH} {v_l : Value} {l : List Pair} (h_l : SlR Zi G v_l l) (slo : Str) (shi : Str) (so : Bool) {v_ms : Value} {ms : List Msg} (h_ms : SlR Zo G v_ms ms) (hP : PairsR l) (hn : l.length + ms.length ≤ 1000000) (hm : ∀ m ∈ ms, m.key.b.size ≤ 16 ∧ m.val.b.size ≤ 16) (hs : slo.b.size ≤ 300) :
    Fc Tryz.prog 145 [v_l, .agg #[sV slo.b, sV shi.b, .bool so], v_ms] G [] (fun v G' M' => M' = [] ∧ ∃ u0, v = u0 ∧ SlR Zi G' u0 (Zr (l.filter fun p => Span.has ⟨slo, shi, so⟩ p.key) (Zc ⟨slo, shi, so⟩ ms))) := by
 obtain ⟨sa_l, sc_l, rfl⟩ := h_l.form
 obtain ⟨sa_ms, sc_ms, rfl⟩ := h_ms.form
 have hPf : PairsR (l.filter fun p => Span.has ⟨slo, shi, so⟩ p.key) := hP.filter _
 have hcm := Zd3 (s := ⟨slo, shi, so⟩) hs hm
 have hcl : (Zc ⟨slo, shi, so⟩ ms).length ≤ ms.length := JZ
 have hfl := List.length_filter_le (fun p : Pair => Span.has ⟨slo, shi, so⟩ p.key) l
 have hks : ∀ m ∈ ms, m.key.b.size < 140737488355328 := fun m h => by have := (hm m h).1; omega
 refine Fc.go [.tmp 6] Tryz.func145 Tryz.ntmps145 rfl (fun w0 => (g9 2 ?_))
 refine W.box (L := [sV _, sV _, .bool _]) rfl rfl (fun b1 => (g9 4 ?_))
 refine WC.dw sr9.k9 (d9 [0, 1, 3, 4] ?_)
 refine WD.a1 2 rfl (W.cS (Zsi h_l _ _ _ (by first | assumption | omega | (simp; omega) | (exact PairsR.fold (by assumption) (by assumption)))) rfl (fun sa_v3 sc_v3 G2 hG2 hv3 => (W.nn (WD.a1 5 rfl (W.cS (ZdH (h_ms.mono hG2) slo shi so hks) rfl (fun sa_v10 sc_v10 G9 hG9 hv10 => (W.nn (WD.a1 6 rfl (W.cS (ZsA (hv3.mono hG9) hv10 hPf om9 hcm) rfl (fun sa_v17 sc_v17 G16 hG16 hv17 => (W.nn (d9 [7] ?_))))))))))))
 refine g9 4 ?_
 refine ⟨rfl, _, rfl, ?_⟩
 · exact hv17

theorem Zqq {G : GH} {v_l : Value} {l : List Pair} (h_l : SlR Zi G v_l l) (slo : Str) (shi : Str) (so : Bool) {v_ms : Value} {ms : List Msg} (h_ms : SlR Zo G v_ms ms) (hP : PairsR l) (hn : l.length + ms.length ≤ 1000000) (hm : ∀ m ∈ ms, m.key.b.size ≤ 16 ∧ m.val.b.size ≤ 16) (hs : slo.b.size ≤ 300) :
    Fc Tryz.prog 66 [v_l, .agg #[sV slo.b, sV shi.b, .bool so], v_ms] G [] (fun v G' M' => M' = [] ∧ ∃ u0, v = u0 ∧ SlR Zi G' u0 (Zr (l.filter fun p => Span.has ⟨slo, shi, so⟩ p.key) (Zc ⟨slo, shi, so⟩ ms))) := by
 obtain ⟨sa_l, sc_l, rfl⟩ := h_l.form
 obtain ⟨sa_ms, sc_ms, rfl⟩ := h_ms.form
 have hPf : PairsR (l.filter fun p => Span.has ⟨slo, shi, so⟩ p.key) := hP.filter _
 have hcm := Zd3 (s := ⟨slo, shi, so⟩) hs hm
 have hcl : (Zc ⟨slo, shi, so⟩ ms).length ≤ ms.length := JZ
 have hfl := List.length_filter_le (fun p : Pair => Span.has ⟨slo, shi, so⟩ p.key) l
 have hks : ∀ m ∈ ms, m.key.b.size < 140737488355328 := fun m h => by have := (hm m h).1; omega
 refine Fc.go [.tmp 6] Tryz.func66 Tryz.ntmps66 rfl (fun w0 => (g9 2 ?_))
 refine W.box (L := [sV _, sV _, .bool _]) rfl rfl (fun b23 => (g9 4 ?_))
 refine WC.dw sr9.k9 (d9 [0, 1, 2, 3, 5, 6] ?_)
 refine WD.a1 4 rfl (W.cS (Zku h_l slo shi so (l.length : Int) om9) rfl (fun sa_v25 sc_v25 G24 hG24 hv25 => (W.nn (WD.a1 7 rfl (W.cS (ZfG (h_ms.mono hG24) slo shi so hks) rfl (fun sa_v32 sc_v32 G31 hG31 hv32 => (W.nn (WD.a1 8 rfl (W.cS (ZsB (SlR.cast (hv25.mono hG31) (Zsr l ⟨slo, shi, so⟩)) hv32 hPf om9 hcm) rfl (fun sa_v39 sc_v39 G38 hG38 hv39 => (W.nn (d9 [9] ?_))))))))))))
 refine g9 4 ?_
 refine ⟨rfl, _, rfl, ?_⟩
 · exact hv39

theorem Zqr {G : GH} {v_l : Value} {l : List Nd} (h_l : SlR ZA G v_l l) (c2 : Cfg) (ss : List Seat) (t : Tree c2 l ss) :
    Fc Tryz.prog 24 [v_l] G [] (fun v G' M' => M' = [] ∧ ∃ u0, v = u0 ∧ SlR Zi G' u0 (Zh l)) := by
 obtain ⟨sa_l, sc_l, rfl⟩ := h_l.form
 have hl := h_l.len47
 have hS := t.sml
 have hl100 := hS.1
 have hsl := t.len
 refine Fc.go [.tmp 2] Tryz.func24 Tryz.ntmps24 rfl (fun w0 => (g9 13 ?_))
 refine W.call (Mp := []) (Zjm h_l _ (by assumption)) rfl pr9 ?_
 intro v3 G1 _ hG1 q2
 have q4 := q2.1
 subst q4
 have q5 := q2.2
 refine Or.elim q5 (fun q6 => ?_) (fun q7 => ?_)
 ·refine match q6 with | ⟨u_s8, ssq, hssq, e_9, hv_s8, hqsq⟩ => ?_
  subst e_9
  have q11 := hv_s8.form
  refine match q11 with | ⟨sa_s8, sc_s8, e_10⟩ => ?_
  subst e_10
  have e9 : ss = ssq := Option.some.inj (t.sts.symm.trans hssq)
  subst e9
  have hss47q := hv_s8.len47
  refine g9 24 ?_
  refine WC.loop (X := (Nat) × Value × MH) (fun i => [(6, nt9 i.1), (4, lV sa_s8 ss.length sc_s8), (3, i.2.1)]) (fun i G Ml => Ml = (i.2.2 ++ []) ∧ OwnR Zi 74 G i.2.1 ((ZG (ss.take i.1)).flatMap Yr) i.2.2 ∧ i.1 ≤ ss.length) (fun i => ss.length - i.1) (0, lV none 0 0, ([] : MH)) hs9 ?_ ?_
  ·exact ⟨rfl, (by exact OwnR.nil), om9⟩
  rintro ⟨i, v_3, M_3⟩ gG12 G12 _ hG12 ⟨rfl, ho_3, hi⟩
  try dsimp only at ho_3 hi
  have hvl := t.views_len i
  refine WC.fr (f := ZR gG12 [(6, nt9 i), (4, lV sa_s8 ss.length sc_s8), (3, v_3)]) rfl (g9 9 ?_)
  refine WC.cd (fun h17 p17 => ?_) (fun h17 p17 => ?_)
  ·refine g9 8 ?_
   have q16 := (hv_s8.mono hG12).at (i := i) om9
   refine match q16 with | ⟨_, he13, ⟨_, _, _, _, _, _, _, _, qa_t14, qc_t14, e_15, hp_t14, hk_t14, hm_t14, hr_t14, hq_t14, hok_t14⟩⟩ => ?_
   subst e_15
   refine g9 7 ?_
   refine WC.cd (fun h26 p26 => ?_) (fun h26 p26 => ?_)
   ·have hmem : (ss[i]'om9) ∈ ss := List.getElem_mem _
    have htf := t.fits _ hmem
    have hvx := t.view_len hmem
    have hrx : (ss[i]'om9).n.rows.length ≤ 4000 := (t.sml.at (.inr (t.nd hmem).2.2)).2.2.2.1
    have hmx : (ss[i]'om9).ms.length ≤ 102400 := by have := (t.ms_len _ hmem).1; omega
    refine WC.dw sn9 (d9 [0, 1, 2] ?_)
    have q20 := (hv_s8.mono hG12).at (i := i) om9
    refine match q20 with | ⟨_, he17, ⟨_, _, _, _, _, _, _, _, qa_t18, qc_t18, e_19, hp_t18, hk_t18, hm_t18, hr_t18, hq_t18, hok_t18⟩⟩ => ?_
    subst e_19
    refine d9 [3, 4, 5, 6, 7, 8] ?_
    have q24 := (hv_s8.mono hG12).at (i := i) om9
    refine match q24 with | ⟨_, he21, ⟨_, _, _, _, _, _, _, _, qa_t22, qc_t22, e_23, hp_t22, hk_t22, hm_t22, hr_t22, hq_t22, hok_t22⟩⟩ => ?_
    subst e_23
    refine d9 [9, 10, 11, 12, 13] ?_
    have q28 := (hv_s8.mono hG12).at (i := i) om9
    refine match q28 with | ⟨_, he25, ⟨_, _, _, _, _, _, _, _, qa_t26, qc_t26, e_27, hp_t26, hk_t26, hm_t26, hr_t26, hq_t26, hok_t26⟩⟩ => ?_
    subst e_27
    refine d9 [14, 15, 16] ?_
    refine WD.a1 17 rfl (W.call (Mp := []) (Zqq hr_t18 (ss[i]'om9).s.lo (ss[i]'om9).s.hi (ss[i]'om9).s.opn hq_t26 (t.rows hmem) om9 (fun m hm => YW (htf.2 m hm)) (by have := htf.1.1; omega)) rfl pr9 ?_)
    intro _ G29 _ hG29 q31
    refine match q31 with | ⟨e_32, _, e_33, hv30⟩ => ?_
    subst e_32
    subst e_33
    have hc34 := SlR.cast hv30 (l' := Yr (ss[i]'om9)) (rfl)
    have q36 := hc34.form
    refine match q36 with | ⟨sa_hc34, sc_hc34, e_35⟩ => ?_
    subst e_35
    refine W.nn (WD.a1 18 rfl (W.app (e := Zi) Zy Zz Yp rfl X1 rfl rfl ((ho_3.mono hG29)) (hc34) pr9 (by show (List.length _ + List.length _) * 32 ≤ _; omega) (fun v37 Ms38 ho39 => (W.nn (d9 [19] ?_)))))
    refine WD.done (by kernel_rfl) (JF (Xc (g9 6 ?_)))
    exact ⟨hG29, (i + 1, v37, Ms38), hs9, ⟨rfl, (by have h := ho39; rw [ZtZ om9 p26, List.flatMap_append, List.flatMap_singleton]; exact h), om9⟩, om9⟩
   refine g9 9 ?_
   exact ⟨Le.rfl, (i + 1, v_3, M_3), hs9, ⟨rfl, (by have h := ho_3; rw [Zt0 om9 p26]; exact h), om9⟩, om9⟩
  refine g9 11 ?_
  refine WC.giveO ho_3 pr9 (fun G40 hG40 hv40 => (g9 2 ?_))
  refine ⟨rfl, _, rfl, ?_⟩
  · exact SlR.cast hv40 (by rw [Jl t.sts, List.take_of_length_le om9])
 exact absurd (t.sts.symm.trans (by obtain ⟨_, _, h0, _⟩ := q7; exact h0)) (by simp)

theorem Zjp {G : GH} {b_s : Nat} {c c2 : Cfg} {l : List Nd} {ss : List Seat} {gQ : MH} (h_s : StR 60 4 3 189 139 b_s c G l gQ) (t : Tree c2 l ss) (k : Str) :
    Fc Tryz.prog 50 [pt9 b_s, sV k.b] G gQ (fun v G' M' => M' = gQ ∧ v = sV (Str.b ((if (Zt l k).s.opn = true then Str.nil else (Zt l k).s.hi)))) := by
 refine Fc.go [.tmp 4] Tryz.func50 Tryz.ntmps50 rfl (fun w0 => (WC.perm (M' := (gQ ++ [])) (by simp) (g9 9 ?_)))
 refine W.call (Mp := gQ) (ZfH h_s t _) rfl pr9 ?_
 intro v13 G10 Ms12 hG10 q11
 refine match q11 with | ⟨eeq11, _, e_15, hv9⟩ => ?_
 subst e_15
 have eeq11 := eeq11.symm
 subst eeq11
 refine match hv9 with | ⟨_, _, _, _, _, _, _, _, e_16, hp_v9, hk_v9, hm_v9, hr_v9, hok_v9⟩ => ?_
 subst e_16
 refine g9 4 ?_
 refine W.alloc Zn (fun b17 => (W.alloc Zv (fun b18 => (g9 12 ?_))))
 refine WC.cond rfl (fun h11_1_2 => ?_) (fun h11_1_2 => ?_)
 ·refine g9 7 ?_
  refine ⟨.inr rfl, [_], ⟨rfl, trivial⟩, gQ, ((gL _ _).cons _).cons _, ?_⟩
  exact ⟨rfl, gM (fun s : Str => Value.string s.b) (if_pos h11_1_2 : (if (Zt l k).s.opn = true then Str.nil else (Zt l k).s.hi) = Str.nil).symm⟩
 refine g9 10 ?_
 refine ⟨.inr rfl, [_], ⟨rfl, trivial⟩, gQ, ((gL _ _).cons _).cons _, ?_⟩
 exact ⟨rfl, gM (fun s : Str => Value.string s.b) (if_neg (by rw [h11_1_2]; simp) : (if (Zt l k).s.opn = true then Str.nil else (Zt l k).s.hi) = (Zt l k).s.hi).symm⟩

theorem Zqs {G : GH} {b_t : Nat} {b_s : Nat} {c : Cfg} {l : List Nd} {ss : List Seat} {gQ : MH} (h_s : StR 60 4 3 189 139 b_s c G l gQ) (t : Tree c l ss) {cur : Str} :
    Fc Tryz.prog 19 [pt9 b_t] G ((b_t, ce9 79 [pt9 b_s, sV cur.b]) :: (gQ)) (fun v G' M' => SlR ZA G' v l ∧ M' = (b_t, ce9 79 [pt9 b_s, sV cur.b]) :: gQ) := by
 refine Fc.go [.tmp 2] Tryz.func19 Tryz.ntmps19 rfl (fun w0 => (WC.perm (M' := ((b_t, ce9 79 [pt9 b_s, sV cur.b]) :: (gQ ++ []))) (by simp) (g9 9 ?_)))
 refine W.ok (Y4 Zaj rfl rfl) (g9 11 ?_)
 refine W.call (Mp := gQ) (Zqa h_s) rfl (pmC pr9) ?_
 intro v4 G1 Ms3 hG1 q2
 refine match q2 with | ⟨hR5, eeq2⟩ => ?_
 have eeq2 := eeq2.symm
 subst eeq2
 refine W.perm (pmC pr9).symm (g9 4 ?_)
 refine ⟨.inr rfl, [_], ⟨rfl, trivial⟩, ((b_t, ce9 79 [pt9 b_s, sV cur.b]) :: (gQ ++ [])), sr9.k9, ?_⟩
 exact ⟨hR5, gM _ (List.append_nil _)⟩

theorem Zqt {G : GH} {b_t : Nat} {b_s : Nat} {c : Cfg} {l : List Nd} {ss : List Seat} {gQ : MH} (h_s : StR 60 4 3 189 139 b_s c G l gQ) (t : Tree c l ss) {cur : Str} :
    Fc Tryz.prog 22 [pt9 b_t] G ((b_t, ce9 79 [pt9 b_s, sV cur.b]) :: (gQ)) (fun v G' M' => v = iV (l.length : Int) ∧ M' = (b_t, ce9 79 [pt9 b_s, sV cur.b]) :: gQ) := by
 refine Fc.go [.tmp 2] Tryz.func22 Tryz.ntmps22 rfl (fun w0 => (WC.perm (M' := ((b_t, ce9 79 [pt9 b_s, sV cur.b]) :: (gQ ++ []))) (by simp) (g9 9 ?_)))
 refine W.ok (Y4 Zaj rfl rfl) (g9 11 ?_)
 refine W.call (Mp := gQ) (Zqb h_s) rfl (pmC pr9) ?_
 intro v9 G6 Ms8 hG6 q7
 refine match q7 with | ⟨e_11, eeq7⟩ => ?_
 subst e_11
 have eeq7 := eeq7.symm
 subst eeq7
 refine W.perm (pmC pr9).symm (g9 4 ?_)
 refine ⟨.inr rfl, [_], ⟨rfl, trivial⟩, ((b_t, ce9 79 [pt9 b_s, sV cur.b]) :: (gQ ++ [])), sr9.k9, ?_⟩
 exact ⟨rfl, gM _ (List.append_nil _)⟩

theorem Zqu {G : GH} {b_t b_s : Nat} {c : Cfg} {l : List Nd} {ss : List Seat} {cur : Str} {gR : MH} (h_t : BtR 60 4 3 189 139 79 b_t b_s c G (l, cur) gR) (t : Tree c l ss) (k : Str) :
    Fc Tryz.prog 105 [pt9 b_t, sV k.b] G gR (fun v G' M' => ∃ e l', RoomP c l k e l' ∧ v = iV e ∧ BtR 60 4 3 189 139 79 b_t b_s c G' (l', cur) M') := by
 have hp9 := t.pos
 obtain ⟨N9, r9, hN9, hr9⟩ := Zkg t k
 refine Fc.go [.tmp 4] Tryz.func105 Tryz.ntmps105 rfl (fun w0 => (WC.perm (M' := (gR ++ [])) (by simp) (g9 7 ?_)))
 obtain ⟨Msbt1, eMbt1, hBbt1⟩ := h_t
 subst eMbt1
 have hSbt1 : StR 60 4 3 189 139 b_s c G l Msbt1 := hBbt1
 refine WC.perm (M' := ((b_t, ce9 79 [pt9 b_s, sV cur.b]) :: (Msbt1 ++ []))) pr9.symm (g9 5 ?_)
 refine W.call (Mp := Msbt1) (J7 hSbt1 0) rfl (pmC pr9) ?_
 intro v5 G2 Ms4 hG2 q3
 refine match q3 with | ⟨⟨_, e_7, ⟨pa_6, pc_6, ka_6, kc_6, ma_6, mc_6, ra_6, rc_6, e_8, hp_6, hk_6, hm_6, hr_6, hok_6⟩⟩, eeq3⟩ => ?_
 subst e_7
 subst e_8
 have eeq3 := eeq3.symm
 subst eeq3
 refine W.perm (pmC pr9).symm (g9 3 ?_)
 refine W.alloc Zn (fun b9 => (g9 11 ?_))
 refine WC.cd (fun h19 p19 => ?_) (fun h19 p19 => ?_)
 ·try dsimp only at p19
  refine g9 6 ?_
  refine W.call (Mp := Msbt1) (ZjM (StR.mono hG2 hSbt1) t) rfl (pmC (pmC pr9)) ?_
  intro v13 G10 Ms12 hG10 q11
  refine match q11 with | ⟨e_15, hR14⟩ => ?_
  subst e_15
  refine W.perm (pmC (pmC pr9)).symm (g9 3 ?_)
  have hB16 : BtR 60 4 3 189 139 79 b_t b_s c G10 ((ZS c l).2, cur) ((b_t, ce9 79 [pt9 b_s, sV cur.b]) :: Ms12) := ⟨_, rfl, hR14⟩
  refine WC.perm (M' := ((b9, ce9 60 (ndl (Za l 0) pa_6 pc_6 ka_6 kc_6 ma_6 mc_6 ra_6 rc_6)) :: (((b_t, ce9 79 [pt9 b_s, sV cur.b]) :: Ms12) ++ []))) ((pmC pr9).symm.trans (((pmC pr9).cons _).trans ((List.Perm.swap _ _ _).trans (pr9.cons _)))) (g9 2 ?_)
  refine ⟨.inr rfl, [_], ⟨rfl, trivial⟩, ((b_t, ce9 79 [pt9 b_s, sV cur.b]) :: Ms12), (gL _ _).cons _, ?_⟩
  exact ⟨_, _, .inl ⟨p19, rfl, rfl⟩, rfl, hB16⟩
 try dsimp only at p19
 refine g9 10 ?_
 refine W.call (Mp := Msbt1) (ZjQ (StR.mono hG2 hSbt1) t k rfl N9 r9 hr9 om9) rfl (pmC (pmC pr9)) ?_
 intro v20 G17 Ms19 hG17 q18
 refine match q18 with | ⟨e_22, hR21⟩ => ?_
 subst e_22
 refine W.perm (pmC (pmC pr9)).symm (g9 15 ?_)
 refine WC.cd (fun h36 p36 => ?_) (fun h36 p36 => ?_)
 ·try dsimp only at p36
  refine g9 5 ?_
  have hB23 : BtR 60 4 3 189 139 79 b_t b_s c G17 (r9.2.2, cur) ((b_t, ce9 79 [pt9 b_s, sV cur.b]) :: Ms19) := ⟨_, rfl, hR21⟩
  refine WC.perm (M' := ((b9, ce9 60 (ndl (Za l 0) pa_6 pc_6 ka_6 kc_6 ma_6 mc_6 ra_6 rc_6)) :: (((b_t, ce9 79 [pt9 b_s, sV cur.b]) :: Ms19) ++ []))) ((pmC pr9).symm.trans (((pmC pr9).cons _).trans ((List.Perm.swap _ _ _).trans (pr9.cons _)))) (g9 3 ?_)
  refine ⟨.inr rfl, [_], ⟨rfl, trivial⟩, ((b_t, ce9 79 [pt9 b_s, sV cur.b]) :: Ms19), (gL _ _).cons _, ?_⟩
  exact ⟨_, _, .inr ⟨p19, N9, r9, hr9, rfl, (if_pos p36).symm⟩, rfl, hB23⟩
 try dsimp only at p36
 refine g9 7 ?_
 refine WC.cn (fun h39 p39 => ?_) (fun h39 p39 => ?_)
 ·try dsimp only at p39
  refine g9 6 ?_
  have hB24 : BtR 60 4 3 189 139 79 b_t b_s c G17 (r9.2.2, cur) ((b_t, ce9 79 [pt9 b_s, sV cur.b]) :: Ms19) := ⟨_, rfl, hR21⟩
  refine WC.perm (M' := ((b9, ce9 60 (ndl (Za l 0) pa_6 pc_6 ka_6 kc_6 ma_6 mc_6 ra_6 rc_6)) :: (((b_t, ce9 79 [pt9 b_s, sV cur.b]) :: Ms19) ++ []))) ((pmC pr9).symm.trans (((pmC pr9).cons _).trans ((List.Perm.swap _ _ _).trans (pr9.cons _)))) (g9 3 ?_)
  refine ⟨.inr rfl, [_], ⟨rfl, trivial⟩, ((b_t, ce9 79 [pt9 b_s, sV cur.b]) :: Ms19), (gL _ _).cons _, ?_⟩
  exact ⟨_, _, .inr ⟨p19, N9, r9, hr9, rfl, by rw [if_neg p36, if_neg p39]⟩, rfl, hB24⟩
 try dsimp only at p39
 refine g9 8 ?_
 have hB25 : BtR 60 4 3 189 139 79 b_t b_s c G17 (r9.2.2, cur) ((b_t, ce9 79 [pt9 b_s, sV cur.b]) :: Ms19) := ⟨_, rfl, hR21⟩
 refine WC.perm (M' := ((b9, ce9 60 (ndl (Za l 0) pa_6 pc_6 ka_6 kc_6 ma_6 mc_6 ra_6 rc_6)) :: (((b_t, ce9 79 [pt9 b_s, sV cur.b]) :: Ms19) ++ []))) ((pmC pr9).symm.trans (((pmC pr9).cons _).trans ((List.Perm.swap _ _ _).trans (pr9.cons _)))) (WC.ret ?_)
 refine ⟨.inr rfl, [_], ⟨rfl, trivial⟩, ((b_t, ce9 79 [pt9 b_s, sV cur.b]) :: Ms19), (gL _ _).cons _, ?_⟩
 exact ⟨_, _, .inr ⟨p19, N9, r9, hr9, rfl, by rw [if_neg p36, if_pos om9]⟩, rfl, hB25⟩

theorem Zqv {G : GH} {b_t b_s : Nat} {c : Cfg} {l : List Nd} {ss : List Seat} {cur : Str} {gR : MH} (h_t : BtR 60 4 3 189 139 79 b_t b_s c G (l, cur) gR) (t : Tree c l ss) (pk : Int) (gO : Str) (gX : Str) (po : Bool) (pv : Str) (pl : Int) (k : Int) (hR : Opr.R (⟨pk, gO, gX, po, pv, pl⟩ : Opr)) (hk4 : pk ≤ 4) (hgr : Grown k l) (hk9 : k ≤ 1000000000) :
    Fc Tryz.prog 48 [pt9 b_t, .agg #[iV pk, sV gO.b, sV gX.b, .bool po, sV pv.b, iV pl]] G gR (fun v G' M' => ∃ e l', WrP c k (⟨pk, gO, gX, po, pv, pl⟩ : Opr) l e l' ∧ v = iV e ∧ BtR 60 4 3 189 139 79 b_t b_s c G' (l', cur) M') := by
 refine Fc.go [.tmp 4] Tryz.func48 Tryz.ntmps48 rfl (fun w0 => (WC.perm (M' := (gR ++ [])) (by simp) (g9 2 ?_)))
 refine W.box (L := [iV _, sV _, sV _, .bool _, sV _, iV _]) rfl rfl (fun b26 => (g9 4 ?_))
 refine WC.loop (X := (List Nd) × MH) (fun x => [(3, pt9 b26), (0, pt9 b_t)]) (fun x G Ml => Ml = ((b26, ce9 34 [iV pk, sV gO.b, sV gX.b, .bool po, sV pv.b, iV pl]) :: (x.2 ++ [])) ∧ BtR 60 4 3 189 139 79 b_t b_s c G ((x.1, cur)) x.2 ∧ (∃ T, Tree c x.1 T) ∧ Zh x.1 = Zh l ∧ Grown k x.1 ∧ (x.1 = l ∨ ¬ (Zu c l (⟨pk, gO, gX, po, pv, pl⟩ : Opr)).2.1 = 0)) (fun x => muL c x.1) (l, gR) hs9 ?_ ?_
 ·exact ⟨rfl, (by exact h_t), ⟨ss, t⟩, rfl, hgr, .inl rfl⟩
 rintro ⟨L, M_0⟩ gG27 G27 _ hG27 ⟨rfl, ho_0, hTr, hmp, hg, hx9⟩
 try dsimp only at ho_0 hTr hmp hg hx9
 obtain ⟨T8, t9⟩ := hTr
 have hsn9 : 0 ≤ (Za L 0).seen ∧ (Za L 0).seen ≤ 1000000000000 := ⟨hg.pos, by have := hg.le; omega⟩
 refine WC.fr (f := ZR gG27 [(3, pt9 b26), (0, pt9 b_t)]) rfl (g9 2 ?_)
 obtain ⟨Msbt28, eMbt28, hBbt28⟩ := ho_0
 subst eMbt28
 have hSbt28 : StR 60 4 3 189 139 b_s c G27 L Msbt28 := hBbt28
 refine WC.perm (M' := ((b_t, ce9 79 [pt9 b_s, sV cur.b]) :: ((b26, ce9 34 [iV pk, sV gO.b, sV gX.b, .bool po, sV pv.b, iV pl]) :: (Msbt28 ++ [])))) (pmD pr9).symm (WC.dw (sn9.k9.k9) (d9 [0, 1, 2, 3, 4] ?_))
 refine WD.a1 5 rfl (W.call (Mp := Msbt28) (Zqj hSbt28 t9 pk gO gX po pv pl rfl hR hk4 hsn9) rfl (pmC (pmC pr9)) ?_)
 intro v32 G29 Ms31 hG29 q30
 refine match q30 with | ⟨e_34, hR33⟩ => ?_
 subst e_34
 refine W.perm (pmC (pmC pr9)).symm (W.nn (d9 [6, 7, 8, 9, 10] ?_))
 refine g9 9 ?_
 refine WC.cn (fun h17 p17 => ?_) (fun h17 p17 => ?_)
 ·try dsimp only at p17
  refine g9 6 ?_
  have hB35 : BtR 60 4 3 189 139 79 b_t b_s c G29 ((Zu c L (⟨pk, gO, gX, po, pv, pl⟩ : Opr)).2.2, cur) ((b_t, ce9 79 [pt9 b_s, sV cur.b]) :: Ms31) := ⟨_, rfl, hR33⟩
  refine WC.perm (M' := ((b26, ce9 34 [iV pk, sV gO.b, sV gX.b, .bool po, sV pv.b, iV pl]) :: (((b_t, ce9 79 [pt9 b_s, sV cur.b]) :: Ms31) ++ []))) ((pmC pr9).symm.trans (((pmC pr9).cons _).trans pr9)) (g9 5 ?_)
  refine ⟨.inr rfl, [_], ⟨rfl, trivial⟩, ((b_t, ce9 79 [pt9 b_s, sV cur.b]) :: Ms31), (gL _ _).cons _, ?_⟩
  have hE : (Zu c L (⟨pk, gO, gX, po, pv, pl⟩ : Opr)).2.1 = 0 := by
    by_cases h : (Zu c L (⟨pk, gO, gX, po, pv, pl⟩ : Opr)).2.1 = 0
    · exact h
    exact absurd (by rw [ZfV h]) p17
  exact ⟨(Zu c L (⟨pk, gO, gX, po, pv, pl⟩ : Opr)).2.1, (Zu c L (⟨pk, gO, gX, po, pv, pl⟩ : Opr)).2.2, by rw [hE]; exact WrP.ok t9 hR hk4 hg om9 hmp hx9 hE, rfl, hB35⟩
 try dsimp only at p17
 refine g9 3 ?_
 have hf9 : ¬ (Zu c L (⟨pk, gO, gX, po, pv, pl⟩ : Opr)).2.1 = 0 := by rw [p17]; decide
 have hS36 := StR.to hR33 (show (Zu c L (⟨pk, gO, gX, po, pv, pl⟩ : Opr)).2.2 = L by rw [ZfV hf9])
 have hB37 : BtR 60 4 3 189 139 79 b_t b_s c G29 (L, cur) ((b_t, ce9 79 [pt9 b_s, sV cur.b]) :: Ms31) := ⟨_, rfl, hS36⟩
 refine WC.perm (M' := ((b26, ce9 34 [iV pk, sV gO.b, sV gX.b, .bool po, sV pv.b, iV pl]) :: (((b_t, ce9 79 [pt9 b_s, sV cur.b]) :: Ms31) ++ []))) ((pmC pr9).symm.trans (((pmC pr9).cons _).trans pr9)) (g9 4 ?_)
 refine W.call (Mp := ((b_t, ce9 79 [pt9 b_s, sV cur.b]) :: Ms31)) (Zqu hB37 t9 gO) rfl (pmC pr9) ?_
 intro v44 G41 Ms43 hG41 q42
 refine match q42 with | ⟨e38, l39, hRm40, e_46, hR45⟩ => ?_
 subst e_46
 refine W.perm (pmC pr9).symm ?_
 have hra9 := Zjn t9 hR hk4 hg hf9 hRm40
 refine g9 9 ?_
 refine WC.cn (fun h24 p24 => ?_) (fun h24 p24 => ?_)
 ·try dsimp only at p24
  refine g9 10 ?_
  refine ⟨.inr rfl, [_], ⟨rfl, trivial⟩, Ms43, (gL _ _).cons _, ?_⟩
  exact ⟨e38, l39, WrP.no t9 hR hk4 hg hmp hx9 hf9 hRm40 p24, rfl, hR45⟩
 try dsimp only at p24
 refine g9 3 ?_
 exact ⟨lec, (l39, Ms43), hs9, ⟨rfl, (by exact hR45), hra9.1, hra9.2.1.trans hmp, hra9.2.2.1, .inr (hx9.elim (fun e => e ▸ hf9) id)⟩, hra9.2.2.2.1 p24⟩

theorem Zqw {G : GH} {b_s : Nat} {c c2 : Cfg} {l : List Nd} {ss : List Seat} {gQ : MH} (h_s : StR 60 4 3 189 139 b_s c G l gQ) (t : Tree c2 l ss) (k : Str) :
    Fc Tryz.prog 45 [pt9 b_s, sV k.b] G gQ (fun v G' M' => M' = gQ ∧ v = .tuple #[sV (Str.b (((Zg (Zh l) k)).getD Str.nil)), .bool (((Zg (Zh l) k)).isSome)]) := by
 have hlo := t.leafOk k
 have hft := t.fits _ hlo.mem
 have hfm : ∀ m ∈ (Zt l k).ms, m.key.b.size < 140737488355328 ∧ m.val.b.size ≤ 16 := fun m hm => ⟨by have := (YW (hft.2 m hm)).1; omega, (YW (hft.2 m hm)).2⟩
 refine Fc.go [.tmp 4, .tmp 5] Tryz.func45 Tryz.ntmps45 rfl (fun w0 => (WC.perm (M' := (gQ ++ [])) (by simp) (g9 10 ?_)))
 refine W.call (Mp := gQ) (ZfH h_s t _) rfl pr9 ?_
 intro v13 G10 Ms12 hG10 q11
 refine match q11 with | ⟨eeq11, _, e_15, hv9⟩ => ?_
 subst e_15
 have eeq11 := eeq11.symm
 subst eeq11
 refine match hv9 with | ⟨_, _, _, _, _, _, _, _, e_16, hp_v9, hk_v9, hm_v9, hr_v9, hok_v9⟩ => ?_
 subst e_16
 refine g9 4 ?_
 refine W.alloc Zn (fun b17 => (W.alloc Zv (fun b18 => (g9 16 ?_))))
 refine WC.dw (sn9.k9.k9) (d9 [0, 1, 2, 3, 4] ?_)
 refine WD.a1 5 rfl (W.call (Mp := gQ) (Zjo (StR.mono hG10 h_s) t _) rfl (pmC (pmC pr9)) ?_)
 intro v23 G20 Ms22 hG20 q21
 refine match q21 with | ⟨eeq21, _, e_25, hv19⟩ => ?_
 subst e_25
 have eeq21 := eeq21.symm
 subst eeq21
 refine W.perm (pmC (pmC pr9)).symm ?_
 have q27 := hv19.form
 refine match q27 with | ⟨sa_v19, sc_v19, e_26⟩ => ?_
 subst e_26
 refine W.nn (WD.a1 6 rfl (W.qcall (Zsb (hr_v9.mono hG20) k hv19 (t.rows hlo.mem) hfm) rfl (W.nn (d9 [7, 8, 9, 10] ?_))))
 refine g9 3 ?_
 refine ⟨.inr rfl, [_, _], ⟨rfl, rfl, trivial⟩, gQ, ((gL _ _).cons _).cons _, ?_⟩
 exact ⟨rfl, gM (fun o : Option Str => Value.tuple #[sV (o.getD Str.nil).b, .bool o.isSome]) (t.lookup k)⟩

theorem Zqx {G : GH} {v_l : Value} {l : List Pair} (h_l : SlR Zi G v_l l) (slo : Str) (shi : Str) (so : Bool) {v_ms : Value} {ms : List Msg} (h_ms : SlR Zo G v_ms ms) (c : Str) (n : Int) (hP : PairsR l) (hn : l.length + ms.length ≤ 1000000) (hm : ∀ m ∈ ms, m.key.b.size ≤ 16 ∧ m.val.b.size ≤ 16) (hs : slo.b.size ≤ 300) :
    Fc Tryz.prog 100 [v_l, .agg #[sV slo.b, sV shi.b, .bool so], v_ms, sV c.b, iV n] G [] (fun v G' M' => M' = [] ∧ ∃ r : List Pair × Str × Bool, r = Zbm l ⟨slo, shi, so⟩ ms c n ∧ ∃ u0, v = .tuple #[u0, sV (Str.b (r.2.1)), .bool (r.2.2)] ∧ SlR Zi G' u0 (r.1)) := by
 obtain ⟨sa_l, sc_l, rfl⟩ := h_l.form
 obtain ⟨sa_ms, sc_ms, rfl⟩ := h_ms.form
 have hcl := Zt1 (Zr (l.filter fun p => Span.has ⟨slo, shi, so⟩ p.key) (Zc ⟨slo, shi, so⟩ ms)) n
 refine Fc.go [.tmp 10, .tmp 11, .tmp 12] Tryz.func100 Tryz.ntmps100 rfl (fun w0 => (g9 2 ?_))
 refine W.box (L := [sV _, sV _, .bool _]) rfl rfl (fun b1 => (g9 9 ?_))
 refine W.qcall (Zcy _ _ _) rfl (g9 2 ?_)
 refine WC.cond rfl (fun h16 => ?_) (fun h16 => ?_)
 ·refine g9 11 ?_
  refine ⟨rfl, _, (Zt2 h16).symm, _, rfl, ?_⟩
  · exact SlR.nil
 refine g9 7 ?_
 refine W.cS (Zqp h_l slo shi so h_ms hP hn hm hs) rfl (fun sa_v3 sc_v3 G2 hG2 hv3 => (g9 8 ?_))
 refine W.sp 24 rfl (fun ha_so => ?_) (fun ha_so => ?_)
 ·refine g9 22 ?_
  refine WC.dw sr9.k9 (d9 [0, 1, 2, 3] ?_)
  refine WD.tk 4 rfl (ZgA rfl rfl) (WD.tk 5 rfl (Ok.int (n := ((Xr (Zr (l.filter fun p => Span.has ⟨slo, shi, so⟩ p.key) (Zc ⟨slo, shi, so⟩ ms)) n : Nat) : Int)) (Zen rfl rfl) om9) ?_)
  have hs9 := SlR.slice hv3 (lo := 0) (hi := (Xr (Zr (l.filter fun p => Span.has ⟨slo, shi, so⟩ p.key) (Zc ⟨slo, shi, so⟩ ms)) n)) om9 om9
  refine WD.tk 6 rfl (Jm (0) ((Xr (Zr (l.filter fun p => Span.has ⟨slo, shi, so⟩ p.key) (Zc ⟨slo, shi, so⟩ ms)) n)) Zy Zz hv3 rfl rfl ⟨_, _, rfl, om9⟩ ⟨om9, om9⟩) (d9 [8, 9, 10] ?_)
  refine WD.a1 7 rfl (W.cS (XS hs9) rfl (fun sa_v11 sc_v11 G10 hG10 hv11 => (W.nn (d9 [11, 12, 13] ?_))))
  refine g9 4 ?_
  refine ⟨rfl, _, (Zgv h16 (x := Str.nil) (b := true) (by simp [ha_so]) (by simp [ha_so])).symm, _, rfl, ?_⟩
  · exact hv11
 refine g9 23 ?_
 refine WC.dw sr9.k9 (d9 [0, 1, 2, 3] ?_)
 refine WD.tk 4 rfl (ZgA rfl rfl) (WD.tk 5 rfl (Ok.int (n := ((Xr (Zr (l.filter fun p => Span.has ⟨slo, shi, so⟩ p.key) (Zc ⟨slo, shi, so⟩ ms)) n : Nat) : Int)) (Zen rfl rfl) om9) ?_)
 have hs17 := SlR.slice hv3 (lo := 0) (hi := (Xr (Zr (l.filter fun p => Span.has ⟨slo, shi, so⟩ p.key) (Zc ⟨slo, shi, so⟩ ms)) n)) om9 om9
 refine WD.tk 6 rfl (Jm (0) ((Xr (Zr (l.filter fun p => Span.has ⟨slo, shi, so⟩ p.key) (Zc ⟨slo, shi, so⟩ ms)) n)) Zy Zz hv3 rfl rfl ⟨_, _, rfl, om9⟩ ⟨om9, om9⟩) (d9 [8, 9, 10] ?_)
 refine WD.a1 7 rfl (W.cS (XS hs17) rfl (fun sa_v19 sc_v19 G18 hG18 hv19 => (W.nn (d9 [11, 12, 13] ?_))))
 refine g9 4 ?_
 refine ⟨rfl, _, (Zgv h16 (x := shi) (b := decide (n ≤ ((Zr (l.filter fun p => Span.has ⟨slo, shi, so⟩ p.key) (Zc ⟨slo, shi, so⟩ ms)).length : Int))) (by simp [ha_so]) (by simp [ha_so])).symm, _, rfl, ?_⟩
 · exact hv19

theorem Zqy {G : GH} (slo : Str) (shi : Str) (so : Bool) (k : Str) :
    Fc Tryz.prog 102 [.agg #[sV slo.b, sV shi.b, .bool so], sV k.b] G [] (fun v _ _ => v = .agg (List.toArray ((Span.meet ⟨slo, shi, so⟩ ⟨k, Str.nil, true⟩).cells))) := by
 refine Fc.go [.cell 4 62] Tryz.func102 Tryz.ntmps102 rfl (fun w0 => (g9 2 ?_))
 refine W.box (L := [sV _, sV _, .bool _]) rfl rfl (fun b1 => (W.alloc Zv (fun b2 => (g9 6 ?_))))
 refine W.ok (Zw (L := [sV _, sV _, .bool _]) Y0 Zv rfl rfl rfl) (W.qcall (J5 _ _ _ _ Str.nil _) rfl (g9 5 ?_))
 rfl

theorem Zjq {G : GH} {b_s : Nat} {c c2 : Cfg} {l : List Nd} {ss : List Seat} {gQ : MH} (h_s : StR 60 4 3 189 139 b_s c G l gQ) (t : Tree c2 l ss) (xlo : Str) (xhi : Str) (xo : Bool) (n : Int) (hxs : xlo.b.size ≤ 300 ∧ xhi.b.size ≤ 300) (hin : i64 n) :
    Fc Tryz.prog 46 [pt9 b_s, .agg #[sV xlo.b, sV xhi.b, .bool xo], iV n] G gQ (fun v G' M' => M' = gQ ∧ ∃ u0, v = u0 ∧ SlR Zi G' u0 (Yj (Zh l) ⟨xlo, xhi, xo⟩ n)) := by
 obtain ⟨hin1, hin2⟩ := hin
 refine Fc.go [.tmp 6] Tryz.func46 Tryz.ntmps46 rfl (fun w0 => (WC.perm (M' := (gQ ++ [])) (by simp) (g9 2 ?_)))
 refine W.box (L := [sV _, sV _, .bool _]) rfl rfl (fun b21 => (g9 11 ?_))
 refine W.qcall (ZaF _ _ _) rfl (W.alloc Zv (fun b22 => (g9 4 ?_)))
 refine WC.loop (X := (Span × List Pair) × Value × MH × Nat) (fun y => [(0, pt9 b_s), (2, iV n), (7, y.2.1), (8, .pointer (some ⟨y.2.2.2, 0, none⟩))]) (fun y G Ml => Ml = ((y.2.2.2, ce9 62 [sV (y.1.1).lo.b, sV (y.1.1).hi.b, .bool (y.1.1).opn]) :: ((b21, ce9 62 [sV xlo.b, sV xhi.b, .bool xo]) :: (y.2.2.1 ++ (gQ ++ [])))) ∧ OwnR Zi 74 G y.2.1 (y.1.2) y.2.2.1 ∧ SwOk l ⟨xlo, xhi, xo⟩ n y.1.1 y.1.2 ∧ (y.1.1.lo.b.size ≤ 300 ∧ y.1.1.hi.b.size ≤ 300)) (fun y => Zdn ss y.1.1) (((Span.norm ⟨xlo, xhi, xo⟩, []) : Span × List Pair), lV none 0 0, ([] : MH), b22) hs9 ?_ ?_
 ·exact ⟨rfl, (by exact OwnR.nil), SwOk.init l _ n, Zc6 hxs.1 hxs.2⟩
 rintro ⟨⟨r, out⟩, v_7, M_7, B_8⟩ gG23 G23 _ hG23 ⟨rfl, ho_7, hw, hrs⟩
 try dsimp only at ho_7 hw hrs
 have hol := hw.olen t
 have hml := t.map_len
 refine WC.fr (f := ZR gG23 [(0, pt9 b_s), (2, iV n), (7, v_7), (8, pt9 B_8)]) rfl (WC.perm (M' := ((B_8, ce9 62 [sV (r).lo.b, sV (r).hi.b, .bool (r).opn]) :: ((b21, ce9 62 [sV xlo.b, sV xhi.b, .bool xo]) :: (M_7 ++ (gQ ++ []))))) pr9 (g9 7 ?_))
 refine W.call (Mp := gQ) (ZfH (StR.mono hG23 h_s) t _) rfl (pmC (pmC (pmA pr9))) ?_
 intro v28 G25 Ms27 hG25 q26
 refine match q26 with | ⟨eeq26, _, e_30, hv24⟩ => ?_
 subst e_30
 have eeq26 := eeq26.symm
 subst eeq26
 refine W.perm (pmC (pmC pr9)).symm ?_
 refine match hv24 with | ⟨_, _, _, _, _, _, _, _, e_31, hp_v24, hk_v24, hm_v24, hr_v24, hok_v24⟩ => ?_
 subst e_31
 refine g9 4 ?_
 refine W.alloc Zn (fun b32 => (W.alloc Zv (fun b33 => (g9 14 ?_))))
 refine W.qcall (Zcy _ _ _) rfl (g9 2 ?_)
 refine W.sp 31 rfl (fun h29 => ?_) (fun h29 => ?_)
 ·refine g9 14 ?_
  refine WC.giveO (ho_7.mono hG25) (pmC (pmC (pmC (pmC (pmA pr9))))) (fun G34 hG34 hv34 => (g9 6 ?_))
  refine ⟨.inr rfl, [_], ⟨rfl, trivial⟩, gQ, ((((gL _ _).cons _).cons _).cons _).cons _, ?_⟩
  exact ⟨rfl, _, rfl, SlR.cast hv34 (hw.empty h29)⟩
 have g := t.leg (rest := r) h29
 have hlo := Zo1 t r.lo
 have hft := t.fits _ hlo.1
 have hz9 := Zb7 (n := 300) hrs (b := (Zt l r.lo).s) ⟨by have := hft.1.1; omega, by have := hft.1.2; omega⟩
 have hz300 := hz9.1
 have hz301 := hz9.2
 have hrl := t.rows_len hlo.1
 have hml2 := (t.ms_len _ hlo.1).1
 refine g9 11 ?_
 refine WC.cd (fun h35 p35 => ?_) (fun h35 p35 => ?_)
 ·refine g9 6 ?_
  refine WC.giveO (ho_7.mono hG25) (pmC (pmC (pmC (pmC (pmA pr9))))) (fun G35 hG35 hv35 => (g9 6 ?_))
  refine ⟨.inr rfl, [_], ⟨rfl, trivial⟩, gQ, ((((gL _ _).cons _).cons _).cons _).cons _, ?_⟩
  exact ⟨rfl, _, rfl, SlR.cast hv35 (hw.full om9)⟩
 have hpart := Leg.part t hlo.1 hlo.2 g r.lo (n - (out.length : Int))
 have hvl := List.length_filter_le (fun p : Pair => Span.has (r.meet (Zt l r.lo).s) p.key) (Zh l)
 have hcl : (((Zh l).filter fun p => Span.has (r.meet (Zt l r.lo).s) p.key).take (Xr ((Zh l).filter fun p => Span.has (r.meet (Zt l r.lo).s) p.key) (n - (out.length : Int)))).length ≤ ((Zh l).filter fun p => Span.has (r.meet (Zt l r.lo).s) p.key).length := by rw [List.length_take]; omega
 refine g9 3 ?_
 refine WC.dw (((sn9.k9.k9).k9).k9) (d9 [0, 1, 2, 3, 5, 6, 7, 9, 10, 11, 12, 13, 14] ?_)
 refine WD.a1 4 rfl (W.qcall (J5 _ _ _ _ _ _) rfl (W.nn (WD.a1 8 rfl (W.call (Mp := gQ) (Zjo (StR.mono lec h_s) t _) rfl (pmC (pmC (pmC (pmC pr9)))) ?_))))
 intro v40 G37 Ms39 hG37 q38
 refine match q38 with | ⟨eeq38, _, e_42, hv36⟩ => ?_
 subst e_42
 have eeq38 := eeq38.symm
 subst eeq38
 refine W.perm (pmC (pmC (pmC (pmC pr9)))).symm ?_
 have q44 := hv36.form
 refine match q44 with | ⟨sa_v36, sc_v36, e_43⟩ => ?_
 subst e_43
 refine W.nn (WD.a1 15 rfl (W.call (Mp := []) (Zqx (hr_v24.mono hG37) (r.meet (Zt l r.lo).s).lo (r.meet (Zt l r.lo).s).hi (r.meet (Zt l r.lo).s).opn hv36 r.lo (n - (out.length : Int)) (t.rows hlo.1) om9 (fun m hm => YW (hft.2 m hm)) hz300) rfl pr9 ?_))
 intro _ G45 _ hG45 q47
 refine match q47 with | ⟨e_48, _, e_49, _, e_50, hv46⟩ => ?_
 subst e_48
 subst e_49
 subst e_50
 have hc51 := SlR.cast hv46 (l' := (((Zh l).filter fun p => Span.has (r.meet (Zt l r.lo).s) p.key).take (Xr ((Zh l).filter fun p => Span.has (r.meet (Zt l r.lo).s) p.key) (n - (out.length : Int))))) (by rw [hpart])
 have q53 := hc51.form
 refine match q53 with | ⟨sa_hc51, sc_hc51, e_52⟩ => ?_
 subst e_52
 refine W.nn (d9 [16, 17, 18, 19, 20, 21, 22] ?_)
 refine g9 6 ?_
 refine W.app (e := Zi) Zy Zz Yp rfl X1 rfl rfl ((ho_7.mono lec)) (hc51) (pmC (pmC (pmC (pmC (pmA pr9))))) (by show (List.length _ + List.length _) * 32 ≤ _; omega) (fun v54 Ms55 ho56 => (W.perm (pmC (pmC (pmC (pmC pr9)))).symm (g9 8 ?_)))
 refine W.sp 62 rfl (fun h54_2 => ?_) (fun h54_2 => ?_)
 ·refine g9 14 ?_
  refine WC.giveO ho56 (pmC (pmC (pmC (pmC pr9)))) (fun G57 hG57 hv57 => (g9 6 ?_))
  refine ⟨.inr rfl, [_], ⟨rfl, trivial⟩, gQ, ((((gL _ _).cons _).cons _).cons _).cons _, ?_⟩
  exact ⟨rfl, _, rfl, SlR.cast hv57 (hw.over t om9 g (by rw [hpart] at h54_2; exact h54_2))⟩
 have hgo := hw.go t om9 g (by rw [hpart] at h54_2; exact h54_2)
 have hcur : (Zbm (Zt l r.lo).n.rows (r.meet (Zt l r.lo).s) (Zt l r.lo).ms r.lo (n - (out.length : Int))).2.1 = (r.meet (Zt l r.lo).s).hi := by rw [hpart]; show (if _ then _ else _) = _; rw [if_neg (by rw [hgo.1]; simp)]
 refine g9 7 ?_
 refine W.ok (ZuJ rfl rfl) (g9 3 ?_)
 refine WC.cond rfl (fun h66 => ?_) (fun h66 => ?_)
 ·exfalso
  rw [hcur] at h66
  have h0 := g.fin hgo.1
  unfold Str.lt at h0
  rw [h0] at h66
  simp at h66
 refine g9 5 ?_
 refine W.qcall (Zqy _ _ _ _) rfl (g9 9 ?_)
 refine WC.sub (((sr9.cons _).k9).k9) (WC.sub ((sr9.cons _).k9) (WC.sub (sr9.cons _) (g9 1 ?_)))
 refine W.alloc Zv (fun b58 => (g9 3 ?_))
 exact ⟨lec, (((r.meet ⟨(Zbm (Zt l r.lo).n.rows (r.meet (Zt l r.lo).s) (Zt l r.lo).ms r.lo (n - (out.length : Int))).2.1, Str.nil, true⟩, out ++ ((Zh l).filter fun p => Span.has (r.meet (Zt l r.lo).s) p.key)) : Span × List Pair), v54, Ms55, b58), hs9, ⟨rfl, (by have h := ho56; rw [hgo.2.2] at h; exact h), by rw [hcur]; exact hgo.2.1, Zb7 hrs ⟨by rw [hcur]; exact hz301, by show Str.nil.b.size ≤ 300; decide⟩⟩, by rw [hcur]; exact Leg.ahead hlo.1 hlo.2 h29 g hgo.1⟩

theorem Zqz {G : GH} {b_s : Nat} {c c2 : Cfg} {l : List Nd} {ss : List Seat} {gQ : MH} (h_s : StR 60 4 3 189 139 b_s c G l gQ) (t : Tree c2 l ss) :
    Fc Tryz.prog 51 [pt9 b_s] G gQ (fun v G' M' => M' = gQ ∧ ∃ u0, v = u0 ∧ SlR Zi G' u0 (Zh l)) := by
 have hml := t.map_len
 refine Fc.go [.tmp 2] Tryz.func51 Tryz.ntmps51 rfl (fun w0 => (WC.perm (M' := (gQ ++ [])) (by simp) (g9 8 ?_)))
 refine W.qcall (Ze6 ) rfl (W.call (Mp := gQ) (Zjq h_s t Span.all.lo Span.all.hi Span.all.opn _ ⟨by decide, by decide⟩ ⟨by decide, by decide⟩) rfl pr9 ?_)
 intro v63 G60 Ms62 hG60 q61
 refine match q61 with | ⟨eeq61, _, e_65, hv59⟩ => ?_
 subst e_65
 have eeq61 := eeq61.symm
 subst eeq61
 have q67 := hv59.form
 refine match q67 with | ⟨sa_v59, sc_v59, e_66⟩ => ?_
 subst e_66
 refine g9 4 ?_
 refine ⟨.inr rfl, [_], ⟨rfl, trivial⟩, gQ, gL _ _, ?_⟩
 refine ⟨rfl, _, rfl, ?_⟩
 · exact SlR.cast hv59 (Zo2 om9)

theorem ZqA {G : GH} {b_t : Nat} {b_s : Nat} {c : Cfg} {l : List Nd} {ss : List Seat} {gQ : MH} (h_s : StR 60 4 3 189 139 b_s c G l gQ) (t : Tree c l ss) {cur : Str} :
    Fc Tryz.prog 18 [pt9 b_t] G ((b_t, ce9 79 [pt9 b_s, sV cur.b]) :: (gQ)) (fun v G' M' => SlR Zi G' v (Zh l) ∧ M' = (b_t, ce9 79 [pt9 b_s, sV cur.b]) :: gQ) := by
 refine Fc.go [.tmp 2] Tryz.func18 Tryz.ntmps18 rfl (fun w0 => (WC.perm (M' := ((b_t, ce9 79 [pt9 b_s, sV cur.b]) :: (gQ ++ []))) (by simp) (g9 9 ?_)))
 refine W.ok (Y4 Zaj rfl rfl) (g9 11 ?_)
 refine W.call (Mp := gQ) (Zqz h_s t) rfl (pmC pr9) ?_
 intro v5 G2 Ms4 hG2 q3
 refine match q3 with | ⟨eeq3, _, e_7, hv1⟩ => ?_
 subst e_7
 have eeq3 := eeq3.symm
 subst eeq3
 refine W.perm (pmC pr9).symm ?_
 have q9 := hv1.form
 refine match q9 with | ⟨sa_v1, sc_v1, e_8⟩ => ?_
 subst e_8
 refine g9 4 ?_
 refine ⟨.inr rfl, [_], ⟨rfl, trivial⟩, ((b_t, ce9 79 [pt9 b_s, sV cur.b]) :: (gQ ++ [])), sr9.k9, ?_⟩
 exact ⟨hv1, gM _ (List.append_nil _)⟩

theorem ZqB {G : GH} {b_t : Nat} {b_s : Nat} {c : Cfg} {l : List Nd} {ss : List Seat} {gQ : MH} (h_s : StR 60 4 3 189 139 b_s c G l gQ) (t : Tree c l ss) {cur : Str} :
    Fc Tryz.prog 25 [pt9 b_t] G ((b_t, ce9 79 [pt9 b_s, sV cur.b]) :: (gQ)) (fun v G' M' => v = iV ((Za l 0).level + 1) ∧ M' = (b_t, ce9 79 [pt9 b_s, sV cur.b]) :: gQ) := by
 have hh9 := t.height
 rw [t.rootn] at hh9
 have hl9 := (t.seat t.root).1.1.2.1
 rw [t.rootn] at hl9
 refine Fc.go [.tmp 2] Tryz.func25 Tryz.ntmps25 rfl (fun w0 => (WC.perm (M' := ((b_t, ce9 79 [pt9 b_s, sV cur.b]) :: (gQ ++ []))) (by simp) (g9 9 ?_)))
 refine W.ok (Y4 Zaj rfl rfl) (g9 11 ?_)
 refine W.call (Mp := gQ) (J7 h_s 0) rfl (pmC pr9) ?_
 intro v13 G10 Ms12 hG10 q11
 refine match q11 with | ⟨⟨_, e_15, ⟨_, _, _, _, _, _, _, _, e_16, hp_14, hk_14, hm_14, hr_14, hok_14⟩⟩, eeq11⟩ => ?_
 subst e_15
 subst e_16
 have eeq11 := eeq11.symm
 subst eeq11
 refine W.perm (pmC pr9).symm (g9 3 ?_)
 refine W.alloc Zn (fun b17 => (g9 13 ?_))
 refine ⟨.inr rfl, [_], ⟨rfl, trivial⟩, ((b_t, ce9 79 [pt9 b_s, sV cur.b]) :: (gQ ++ [])), sr9.k9.cons _, ?_⟩
 exact ⟨rfl, gM _ (List.append_nil _)⟩

theorem ZqC {G : GH} {cs_n : List Value} {n : Nd} (h_n : NodeC G cs_n n) :
    Fc Tryz.prog 58 [.agg (List.toArray cs_n)] G [] (fun v _ _ => v = .bool (isM n)) := by
 obtain ⟨_, _, _, _, _, _, _, _, rfl, hp_n, hk_n, hm_n, hr_n, hok_n⟩ := h_n
 refine Fc.go [.tmp 2] Tryz.func58 Tryz.ntmps58 rfl (fun w0 => (g9 2 ?_))
 refine W.box (L := [iV _, iV _, lV _ _ _, lV _ _ _, sV _, .bool _, iV _, iV _, lV _ _ _, lV _ _ _]) rfl rfl (fun b18 => (g9 14 ?_))
 rfl

theorem ZqD {G : GH} {v_l : Value} {l : List Nd} (h_l : SlR ZA G v_l l) :
    Fc Tryz.prog 111 [v_l, .func (.func 58) #[] #[]] G [] (fun v _ _ => v = iV (Yw isM l)) := by
 obtain ⟨sa_l, sc_l, rfl⟩ := h_l.form
 have hl := h_l.len47
 refine Fc.go [.tmp 4] Tryz.func111 Tryz.ntmps111 rfl (fun w0 => (g9 14 ?_))
 refine WC.loop (X := Nat) (fun k => [(8, nt9 k), (0, lV sa_l l.length sc_l), (1, .func (.func 58) #[] #[]), (7, nt9 ((l).length))]) (fun k _ Ml => Ml = [] ∧ k ≤ l.length ∧ ∀ j (h : j < l.length), j < k → isM l[j] = false) (fun k => l.length - k) 0 hs9 ?_ ?_
 ·exact ⟨rfl, om9, fun j _ h => by omega⟩
 rintro k gG19 G19 _ hG19 ⟨rfl, hk, hj⟩
 refine g9 6 ?_
 refine WC.cd (fun h9 p9 => ?_) (fun h9 p9 => ?_)
 ·refine g9 15 ?_
  refine (h_l.mono hG19).aN (i := k) om9 (fun _ _ _ _ _ _ _ _ he20 hp_n21 hk_n21 hm_n21 hr_n21 hok_n21 => (g9 2 ?_))
  refine W.qcallV (fst := []) (caps := []) rfl (ZqC (nk9 hp_n21 hk_n21 hm_n21 hr_n21 hok_n21)) rfl (g9 2 ?_)
  refine WC.cond rfl (fun h16 => ?_) (fun h16 => ?_)
  ·refine g9 13 ?_
   refine gM (Value.int .i64) ?_
   exact (Zf4 (q := isM) om9 h16 hj).symm
  refine g9 8 ?_
  exact ⟨Le.rfl, k + 1, hs9, ⟨rfl, om9, fun j h hji => by
      by_cases e2 : j = k
      · subst e2; exact h16
      · exact hj j h om9⟩, om9⟩
 refine g9 12 ?_
 refine gM (Value.int .i64) ?_
 exact (Zf5 (q := isM) (fun j h => hj j om9 om9)).symm

theorem ZqE {G : GH} {v_l : Value} {l : List Nd} (h_l : SlR ZA G v_l l) :
    Fc Tryz.prog 57 [v_l, .func (.func 58) #[] #[]] G [] (fun v _ _ => v = .bool (decide ((0 : Int) ≤ Yw isM l))) := by
 obtain ⟨sa_l, sc_l, rfl⟩ := h_l.form
 refine Fc.go [.tmp 4] Tryz.func57 Tryz.ntmps57 rfl (fun w0 => (g9 9 ?_))
 refine W.qcall (ZqD h_l) rfl (g9 6 ?_)
 rfl

theorem ZbU {G : GH} {b_t b_s : Nat} {c : Cfg} {l : List Nd} {ss : List Seat} {cur : Str} {gR : MH} (h_t : BtR 60 4 3 189 139 79 b_t b_s c G (l, cur) gR) (t : Tree c l ss) (pk : Int) (gO : Str) (gX : Str) (po : Bool) (pv : Str) (pl : Int) (k : Int) (hgr : Grown k l) (hk9 : k ≤ 1000000000) :
    Fc Tryz.prog 14 [pt9 b_t, .agg #[iV pk, sV gO.b, sV gX.b, .bool po, sV pv.b, iV pl]] G gR (fun v G' M' => ∃ a l', DoP c k (⟨pk, gO, gX, po, pv, pl⟩ : Opr) l a l' ∧ (∃ cs, v = .agg (List.toArray cs) ∧ AnsC G' cs a) ∧ BtR 60 4 3 189 139 79 b_t b_s c G' (l', cur) M') := by
 have h1 := gO.le
 have h2 := gX.le
 have h3 := pv.le
 refine Fc.go [.cell 4 38] Tryz.func14 Tryz.ntmps14 rfl (fun w0 => (WC.perm (M' := (gR ++ [])) (by simp) (g9 2 ?_)))
 refine W.box (L := [iV _, sV _, sV _, .bool _, sV _, iV _]) rfl rfl (fun b1 => (W.alloc Zah (fun b2 => (g9 6 ?_))))
 refine W.ok (Y4 Zaj rfl rfl) (g9 9 ?_)
 refine W.qcall (Zkt _ _ _ _ _ _) rfl (g9 9 ?_)
 refine WC.cn (fun h12 p12 => ?_) (fun h12 p12 => ?_)
 ·try dsimp only at p12
  have hR : ¬ Opr.R (⟨pk, gO, gX, po, pv, pl⟩ : Opr) := fun hq => by rw [if_pos hq] at p12; exact p12 rfl
  have h39 : (if Opr.R (⟨pk, gO, gX, po, pv, pl⟩ : Opr) then (0 : Int) else 3) = 3 := if_neg hR
  refine g9 3 ?_
  refine W.ok (Zw (L := [iV _, .bool _, sV _, lV _ _ _]) Ze0 Zah rfl rfl rfl) (g9 5 ?_)
  refine ⟨.inr rfl, [_], ⟨⟨_, _, _, _, _, rfl, YE (i := 0) rfl, Zct, (by simp), rfl, rfl⟩, trivial⟩, gR, ((gL _ _).cons _).cons _, ?_⟩
  exact ⟨⟨(if Opr.R (⟨pk, gO, gX, po, pv, pl⟩ : Opr) then (0 : Int) else 3), false, Str.nil, []⟩, l, by rw [h39]; exact DoP.bad t hgr hR, ⟨_, rfl, _, _, rfl, SlR.nil, by rw [h39]; exact ⟨by decide, by decide⟩⟩, h_t⟩
 try dsimp only at p12
 have hR : Opr.R (⟨pk, gO, gX, po, pv, pl⟩ : Opr) := by
   by_cases hq : Opr.R (⟨pk, gO, gX, po, pv, pl⟩ : Opr)
   · exact hq
   rw [if_neg hq] at p12; omega
 have hks := hR.1.2.2.1
 have hk6 := hR.1.2.1
 have hk7 := hR.1.1
 dsimp only at hks hk6 hk7
 refine g9 16 ?_
 refine WC.cd (fun h22 p22 => ?_) (fun h22 p22 => ?_)
 ·try dsimp only at p22
  obtain ⟨Msbt3, eMbt3, hBbt3⟩ := h_t
  subst eMbt3
  have hSbt3 : StR 60 4 3 189 139 b_s c G l Msbt3 := hBbt3
  refine WC.perm (M' := ((b_t, ce9 79 [pt9 b_s, sV cur.b]) :: ((b2, ce9 38 [iV 0, .bool false, sV ⟨#[]⟩, lV none 0 0]) :: ((b1, ce9 34 [iV pk, sV gO.b, sV gX.b, .bool po, sV pv.b, iV pl]) :: (Msbt3 ++ []))))) (pmD (pmD pr9)).symm (WC.dw ((sn9.k9.cons _).k9) (d9 [0, 1, 2, 3, 4, 5] ?_))
  refine WD.a1 6 rfl (W.call (Mp := Msbt3) (Zqw hSbt3 t gO) rfl (pmC (pmC (pmC pr9))) ?_)
  intro v7 G4 Ms6 hG4 q5
  refine match q5 with | ⟨eeq5, e_9⟩ => ?_
  subst e_9
  have eeq5 := eeq5.symm
  subst eeq5
  refine W.perm (pmC (pmC (pmC pr9))).symm (W.nn (d9 [7, 8, 9, 10, 11, 12, 13] ?_))
  refine WD.done (by kernel_rfl) (JF (Xc (g9 6 ?_)))
  have hB10 : BtR 60 4 3 189 139 79 b_t b_s c G4 (l, cur) ((b_t, ce9 79 [pt9 b_s, sV cur.b]) :: Msbt3) := ⟨_, rfl, (StR.mono hG4 hSbt3)⟩
  refine WC.perm (M' := ((b2, ce9 38 [iV 0, .bool ((Zg (Zh l) gO).isSome), sV ((Zg (Zh l) gO).getD Str.nil).b, lV none 0 0]) :: ((b1, ce9 34 [iV pk, sV gO.b, sV gX.b, .bool po, sV pv.b, iV pl]) :: (((b_t, ce9 79 [pt9 b_s, sV cur.b]) :: Msbt3) ++ [])))) ((pmC (pmC pr9)).symm.trans (((pmC (pmC pr9)).cons _).trans pr9)) (WC.ret ?_)
  refine ⟨.inr rfl, [_], ⟨⟨_, _, _, _, _, rfl, YE (i := 0) rfl, Zct, (by simp), rfl, rfl⟩, trivial⟩, ((b_t, ce9 79 [pt9 b_s, sV cur.b]) :: Msbt3), ((gL _ _).cons _).cons _, ?_⟩
  exact ⟨_, l, DoP.get t hgr hR p22, ⟨_, rfl, _, _, rfl, SlR.nil, (show i64 0 from ⟨by decide, by decide⟩)⟩, hB10⟩
 try dsimp only at p22
 refine g9 6 ?_
 refine WC.cd (fun h36 p36 => ?_) (fun h36 p36 => ?_)
 ·try dsimp only at p36
  have hxs9 : (Opr.span (⟨pk, gO, gX, po, pv, pl⟩ : Opr)).lo.b.size ≤ 300 ∧ (Opr.span (⟨pk, gO, gX, po, pv, pl⟩ : Opr)).hi.b.size ≤ 300 := by
    rw [Opr.span, if_pos (.inr p36)]
    have h8 := hR.1
    dsimp only at h8 ⊢
    omega
  have hin9 : i64 pl := by
    have h8 := hR.2.2.2.1 p36
    dsimp only at h8
    exact ⟨om9, om9⟩
  obtain ⟨Msbt11, eMbt11, hBbt11⟩ := h_t
  subst eMbt11
  have hSbt11 : StR 60 4 3 189 139 b_s c G l Msbt11 := hBbt11
  refine WC.perm (M' := ((b_t, ce9 79 [pt9 b_s, sV cur.b]) :: ((b2, ce9 38 [iV 0, .bool false, sV ⟨#[]⟩, lV none 0 0]) :: ((b1, ce9 34 [iV pk, sV gO.b, sV gX.b, .bool po, sV pv.b, iV pl]) :: (Msbt11 ++ []))))) (pmD (pmD pr9)).symm (WC.dw ((sn9.k9.cons _).k9) (d9 [0, 1, 2, 3, 4, 6, 7] ?_))
  refine WD.a1 5 rfl (W.qcall (Zks _ _ _ _ _ _ (by first | assumption | omega | (dsimp only; omega))) rfl (W.nn (WD.a1 8 rfl (W.call (Mp := Msbt11) (Zjq hSbt11 t (Opr.span (⟨pk, gO, gX, po, pv, pl⟩ : Opr)).lo (Opr.span (⟨pk, gO, gX, po, pv, pl⟩ : Opr)).hi (Opr.span (⟨pk, gO, gX, po, pv, pl⟩ : Opr)).opn pl hxs9 hin9) rfl (pmC (pmC (pmC pr9))) ?_))))
  intro v16 G13 Ms15 hG13 q14
  refine match q14 with | ⟨eeq14, _, e_18, hv12⟩ => ?_
  subst e_18
  have eeq14 := eeq14.symm
  subst eeq14
  refine W.perm (pmC (pmC (pmC pr9))).symm ?_
  have q20 := hv12.form
  refine match q20 with | ⟨sa_v12, sc_v12, e_19⟩ => ?_
  subst e_19
  refine W.nn (d9 [9, 10] ?_)
  refine WD.done (by kernel_rfl) (JF (Xc (g9 6 ?_)))
  have hB21 : BtR 60 4 3 189 139 79 b_t b_s c G13 (l, cur) ((b_t, ce9 79 [pt9 b_s, sV cur.b]) :: Msbt11) := ⟨_, rfl, (StR.mono hG13 hSbt11)⟩
  refine WC.perm (M' := ((b2, ce9 38 [iV 0, .bool false, sV ⟨#[]⟩, lV sa_v12 (Yj (Zh l) (Opr.span (⟨pk, gO, gX, po, pv, pl⟩ : Opr)) pl).length sc_v12]) :: ((b1, ce9 34 [iV pk, sV gO.b, sV gX.b, .bool po, sV pv.b, iV pl]) :: (((b_t, ce9 79 [pt9 b_s, sV cur.b]) :: Msbt11) ++ [])))) ((pmC (pmC pr9)).symm.trans (((pmC (pmC pr9)).cons _).trans pr9)) (WC.ret ?_)
  refine ⟨.inr rfl, [_], ⟨⟨_, _, _, _, _, rfl, YE (i := 0) rfl, Zct, (by simp), rfl, rfl⟩, trivial⟩, ((b_t, ce9 79 [pt9 b_s, sV cur.b]) :: Msbt11), ((gL _ _).cons _).cons _, ?_⟩
  exact ⟨_, l, DoP.scan t hgr hR p36, ⟨_, rfl, _, _, rfl, hv12, (show i64 0 from ⟨by decide, by decide⟩)⟩, hB21⟩
 try dsimp only at p36
 refine g9 3 ?_
 refine W.call (Mp := gR) (Zqv h_t t pk gO gX po pv pl k hR om9 hgr hk9) rfl (pmC (pmC pr9)) ?_
 intro v28 G25 Ms27 hG25 q26
 refine match q26 with | ⟨e22, l23, hW24, e_30, hR29⟩ => ?_
 subst e_30
 refine W.perm (pmC (pmC pr9)).symm (g9 12 ?_)
 refine ⟨.inr rfl, [_], ⟨⟨_, _, _, _, _, rfl, YE (i := 0) rfl, Zct, (by simp), rfl, rfl⟩, trivial⟩, Ms27, ((gL _ _).cons _).cons _, ?_⟩
 exact ⟨⟨e22, false, Str.nil, []⟩, l23, DoP.wr hR p22 p36 hW24, ⟨_, rfl, _, _, rfl, SlR.nil, by rcases hW24.r with ⟨h, _⟩ | ⟨h, _⟩ <;> rw [h] <;> exact ⟨by decide, by decide⟩⟩, hR29⟩

theorem ZqF {G : GH} {b_t b_s : Nat} {c : Cfg} {l : List Nd} {ss : List Seat} {cur : Str} {gR : MH} (h_t : BtR 60 4 3 189 139 79 b_t b_s c G (l, cur) gR) (t : Tree c l ss) :
    Fc Tryz.prog 15 [pt9 b_t] G gR (fun v G' M' => ∃ N r, Y8 c cur N l 0 0 = some r ∧ v = .tuple #[iV r.1, iV r.2.1] ∧ BtR 60 4 3 189 139 79 b_t b_s c G' (r.2.2, (if (Zt r.2.2 cur).s.opn = true then Str.nil else (Zt r.2.2 cur).s.hi)) M') := by
 have hp9 := t.pos
 obtain ⟨N9, r9, hN9, hr9⟩ := Zkg t cur
 obtain ⟨sT, tT, hmT⟩ := ZcN N9 t ⟨Int.le_refl _, om9⟩ hr9
 refine Fc.go [.tmp 2, .tmp 3] Tryz.func15 Tryz.ntmps15 rfl (fun w0 => (WC.perm (M' := (gR ++ [])) (by simp) (g9 10 ?_)))
 refine W.ok (Y4 Zaj rfl rfl) (g9 6 ?_)
 obtain ⟨Msbt31, eMbt31, hBbt31⟩ := h_t
 subst eMbt31
 have hSbt31 : StR 60 4 3 189 139 b_s c G l Msbt31 := hBbt31
 refine WC.perm (M' := ((b_t, ce9 79 [pt9 b_s, sV cur.b]) :: (Msbt31 ++ []))) pr9.symm (WC.dw sn9.k9 (d9 [0, 1, 2, 3, 4, 5, 6, 7] ?_))
 refine WD.a1 8 rfl (W.call (Mp := Msbt31) (ZjQ hSbt31 t cur rfl N9 r9 hr9 om9) rfl (pmC pr9) ?_)
 intro v35 G32 Ms34 hG32 q33
 refine match q33 with | ⟨e_37, hR36⟩ => ?_
 subst e_37
 refine W.perm (pmC pr9).symm (W.nn (d9 [9, 10, 11, 12, 13] ?_))
 refine g9 3 ?_
 refine WC.dw (sn9.cons _) (d9 [0, 1, 2, 3, 5, 6, 7] ?_)
 refine WD.any [4, 8] (by kernel_rfl) rfl ⟨WD.ap ?_, WD.ap ?_, trivial⟩
 ·refine g9 1 ?_
  refine W.nn (WD.a1 8 rfl (g9 1 ?_))
  refine W.nn (WD.a1 9 rfl (W.call (Mp := Ms34) (Zjp hR36 tT cur) rfl (pmC pr9) ?_))
  intro v41 G38 Ms40 hG38 q39
  refine match q39 with | ⟨eeq39, e_43⟩ => ?_
  subst e_43
  have eeq39 := eeq39.symm
  subst eeq39
  refine W.perm (pmC pr9).symm (W.nn (d9 [10, 11, 12] ?_))
  refine g9 10 ?_
  have hB44 : BtR 60 4 3 189 139 79 b_t b_s c G38 (r9.2.2, (if (Zt r9.2.2 cur).s.opn = true then Str.nil else (Zt r9.2.2 cur).s.hi)) ((b_t, ce9 79 [pt9 b_s, sV (if (Zt r9.2.2 cur).s.opn = true then Str.nil else (Zt r9.2.2 cur).s.hi).b]) :: Ms34) := ⟨_, rfl, (StR.mono hG38 hR36)⟩
  refine WC.perm (M' := (((b_t, ce9 79 [pt9 b_s, sV (if (Zt r9.2.2 cur).s.opn = true then Str.nil else (Zt r9.2.2 cur).s.hi).b]) :: Ms34) ++ [])) (pr9.symm.trans ((pr9.cons _).trans pr9)) (WC.ret ?_)
  refine ⟨.inr rfl, [_, _], ⟨rfl, rfl, trivial⟩, ((b_t, ce9 79 [pt9 b_s, sV (if (Zt r9.2.2 cur).s.opn = true then Str.nil else (Zt r9.2.2 cur).s.hi).b]) :: Ms34), gL _ _, ?_⟩
  exact ⟨N9, r9, hr9, rfl, hB44⟩
 refine g9 1 ?_
 refine W.nn (WD.a1 4 rfl (g9 1 ?_))
 refine W.nn (WD.a1 9 rfl (W.call (Mp := Ms34) (Zjp hR36 tT cur) rfl (pmC pr9) ?_))
 intro v48 G45 Ms47 hG45 q46
 refine match q46 with | ⟨eeq46, e_50⟩ => ?_
 subst e_50
 have eeq46 := eeq46.symm
 subst eeq46
 refine W.perm (pmC pr9).symm (W.nn (d9 [10, 11, 12] ?_))
 refine g9 10 ?_
 have hB51 : BtR 60 4 3 189 139 79 b_t b_s c G45 (r9.2.2, (if (Zt r9.2.2 cur).s.opn = true then Str.nil else (Zt r9.2.2 cur).s.hi)) ((b_t, ce9 79 [pt9 b_s, sV (if (Zt r9.2.2 cur).s.opn = true then Str.nil else (Zt r9.2.2 cur).s.hi).b]) :: Ms34) := ⟨_, rfl, (StR.mono hG45 hR36)⟩
 refine WC.perm (M' := (((b_t, ce9 79 [pt9 b_s, sV (if (Zt r9.2.2 cur).s.opn = true then Str.nil else (Zt r9.2.2 cur).s.hi).b]) :: Ms34) ++ [])) (pr9.symm.trans ((pr9.cons _).trans pr9)) (WC.ret ?_)
 refine ⟨.inr rfl, [_, _], ⟨rfl, rfl, trivial⟩, ((b_t, ce9 79 [pt9 b_s, sV (if (Zt r9.2.2 cur).s.opn = true then Str.nil else (Zt r9.2.2 cur).s.hi).b]) :: Ms34), gL _ _, ?_⟩
 exact ⟨N9, r9, hr9, rfl, hB51⟩

end Go.Proofs.YtbbemibbmbmamaaGreat
namespace Go.Fw
open Go Go.RowKit
structure Act32 where
  o : Opr
  fl : Int
instance : Inhabited Act32 := ⟨⟨default, 0⟩⟩
def ActC32 (cs : List Value) (x : Act32) : Prop := cs = [.int .i64 x.o.kind, .string x.o.key.b, .string x.o.hi.b, .bool x.o.opn, .string x.o.val.b, .int .i64 x.o.lim, .int .i64 x.fl] ∧ x.o.Ok ∧ i64 x.fl
def ZdI : Enc Act32 where
  k := 7
  w := 80
  R := fun _ cs x => ActC32 cs x
  mono := fun _ h => h
  len := fun h => by rw [h.1]; rfl
  one := fun h u hu => by rw [h.1] at hu; simp at hu; rcases hu with rfl | rfl | rfl | rfl | rfl | rfl | rfl <;> rfl
theorem ZqG {P : Program} {t i tn : TypeId} (ht : Zbs P t = some [(tn, 0, 6), (i, 6, 1)]) (hi : P.underlying i = some (.int .i64)) (hn : Dec P tn eOp) (hc : P.cellsOf t = 7) : Dec P t ZdI := by
  intro H enc w fuel cs x h hw
  obtain ⟨hl, hf⟩ := ZgP ht h hw
  obtain ⟨y0, n0, t0, w0⟩ := hf 0 _ _ _ rfl
  obtain ⟨y1, n1, t1, w1⟩ := hf 1 _ _ _ rfl
  obtain ⟨a0, e0, q0⟩ := hn enc w n0 _ y0 t0 w0
  obtain ⟨a1, e1, q1⟩ := ZaR hi t1 w1
  rw [hc] at hl
  match cs, hl with
  | [_, _, _, _, _, _, _], _ =>
    simp at e0 e1
    obtain ⟨e2, e3, e4, e5, e6, e7⟩ := e0
    subst e1 e2 e3 e4 e5 e6 e7
    exact ⟨⟨a0, a1⟩, rfl, q0, q1⟩
def Zao (l : List Act32) : Int := (l.map fun a => max 0 a.fl).sum
theorem ZqH {l : List Act32} {k : Nat} (hk : k < l.length) : Zao (l.take (k + 1)) = Zao (l.take k) + max 0 l[k].fl := by
  unfold Zao
  rw [List.take_succ_eq_append_getElem hk, List.map_append, List.sum_append]
  simp
theorem ZqI (l : List Act32) : 0 ≤ Zao l := by
  unfold Zao
  induction l with
  | nil => simp
  | cons a l ih => rw [List.map_cons, List.sum_cons]; omega
def FewR (l : List Act32) : Prop := l.length ≤ 100 ∧ (∀ a ∈ l, (a.o.key.b.size : Int) ≤ 300 ∧ (a.o.hi.b.size : Int) ≤ 300 ∧ (a.o.val.b.size : Int) ≤ 300 ∧ a.fl ≤ 20) ∧ Zao l ≤ 200
end Go.Fw
namespace Go.Proofs.YtbbemibbmbmamaaGreat
open Go Go.Fw Go.RowKit
attribute [local irreducible] Ok W WC
theorem Zjr {G : GH} (gV : Int) (gT : Int) (gW : Int) (gS : Int) (gU : Int) :
    Fc Tryz.prog 10 [.agg #[iV gV, iV gT, iV gW, iV gS, iV gU]] G [] (fun v G' M' => (¬ CfgR (⟨gV, gT, gW, gS, gU⟩ : Cfg) ∧ v = .tuple #[.pointer none, iV 2] ∧ M' = []) ∨ (CfgR (⟨gV, gT, gW, gS, gU⟩ : Cfg) ∧ ∃ bt bs, v = .tuple #[pt9 bt, iV 0] ∧ BtR 60 4 3 189 139 79 bt bs (⟨gV, gT, gW, gS, gU⟩ : Cfg) G' ([XA 0], Str.nil) M')) := by
 refine Fc.go [.tmp 2, .tmp 3] Tryz.func10 Tryz.ntmps10 rfl (fun w0 => (g9 2 ?_))
 refine W.box (L := [iV _, iV _, iV _, iV _, iV _]) rfl rfl (fun b1 => (g9 7 ?_))
 refine W.call (Mp := []) (Zqf (gV) (gT) (gW) (gS) (gU)) rfl pr9 ?_
 intro v5 G2 Ms4 hG2 q3
 refine Or.elim q3 (fun q6 => ?_) (fun q7 => ?_)
 ·refine match q6 with | ⟨hnc, e_8, e_9⟩ => ?_
  subst e_8
  subst e_9
  refine g9 25 ?_
  exact .inl ⟨hnc, rfl, rfl⟩
 refine match q7 with | ⟨hC, bSt, e_10, hS9⟩ => ?_
 subst e_10
 refine W.perm (pmC pr9).symm (g9 20 ?_)
 refine W.ok (Zw (L := [.pointer _, sV _]) ZnN ZnM rfl rfl rfl) (W.box (L := [.pointer _, sV _]) rfl rfl (fun b11 => (g9 5 ?_)))
 refine ⟨.inr rfl, [_, _], ⟨rfl, rfl, trivial⟩, ((b11, ce9 79 [pt9 bSt, sV ⟨#[]⟩]) :: Ms4), ((gL _ _).cons _).k9, ?_⟩
 exact .inr ⟨hC, _, _, rfl, _, rfl, hS9⟩

theorem ZqJ {G : GH} {v_l : Value} {l : List Nd} (h_l : SlR ZA G v_l l) :
    Fc Tryz.prog 26 [v_l] G [] (fun v _ _ => v = .bool (Zan l)) := by
 obtain ⟨sa_l, sc_l, rfl⟩ := h_l.form
 have hl := h_l.len47
 refine Fc.go [.tmp 2] Tryz.func26 Tryz.ntmps26 rfl (fun w0 => (g9 12 ?_))
 refine WC.loop (X := Nat) (fun k => [(3, nt9 k), (0, lV sa_l l.length sc_l)]) (fun k _ Ml => Ml = [] ∧ k ≤ l.length ∧ ∀ j (h : j < l.length), j < k → (l[j]).msgs.length = 0) (fun k => l.length - k) 0 hs9 ?_ ?_
 ·exact ⟨rfl, om9, fun j _ h => by omega⟩
 rintro k gG12 G12 _ hG12 ⟨rfl, hk, hj⟩
 refine g9 9 ?_
 refine WC.cd (fun h7 p7 => ?_) (fun h7 p7 => ?_)
 ·refine g9 8 ?_
  refine (h_l.mono hG12).aN (i := k) om9 (fun _ _ _ _ _ _ _ _ he13 hp_n14 hk_n14 hm_n14 hr_n14 hok_n14 => (g9 7 ?_))
  refine WC.cd (fun h16 p16 => ?_) (fun h16 p16 => ?_)
  ·refine g9 12 ?_
   refine gM Value.bool ?_
   exact (Zqm (l := l) (j := k) om9 om9).symm
  refine g9 9 ?_
  exact ⟨Le.rfl, k + 1, hs9, ⟨rfl, om9, fun j h hji => by
      by_cases e2 : j = k
      · subst e2; omega
      · exact hj j h om9⟩, om9⟩
 refine g9 12 ?_
 refine gM Value.bool ?_
 exact (Zql fun j h => hj j h om9).symm

theorem ZqK {G : GH} {v_l : Value} {l : List Act32} (h_l : SlR ZdI G v_l l) :
    Fc Tryz.prog 8 [v_l] G [] (fun v G' M' => (∃ r, v = .bool r ∧ (r = true → FewR l)) ∧ M' = []) := by
 obtain ⟨sa_l, sc_l, rfl⟩ := h_l.form
 have hl := h_l.len47
 refine Fc.go [.tmp 2] Tryz.func8 Tryz.ntmps8 rfl (fun w0 => (g9 17 ?_))
 refine WC.loop (X := Nat) (fun k => [(3, iV (Zao (l.take k))), (4, nt9 k), (0, lV sa_l l.length sc_l)]) (fun k _ Ml => Ml = [] ∧ k ≤ l.length ∧ k ≤ 101 ∧ (∀ j (h : j < l.length), j < k → ((l[j]).o.key.b.size : Int) ≤ 300 ∧ ((l[j]).o.hi.b.size : Int) ≤ 300 ∧ ((l[j]).o.val.b.size : Int) ≤ 300 ∧ (l[j]).fl ≤ 20) ∧ Zao (l.take k) ≤ 20 * k) (fun k => l.length - k) 0 hs9 ?_ ?_
 ·exact ⟨rfl, om9, om9, fun j _ h => by omega, by simp [Zao]⟩
 rintro k gG17 G17 _ hG17 ⟨rfl, hk, hk1, hj, hfs⟩
 have hfp := ZqI (l.take k)
 refine g9 8 ?_
 refine W.sd 9 (fun h8 p8 => ?_) (fun h8 p8 => ?_)
 ·refine g9 7 ?_
  refine WC.cd (fun h11 p11 => ?_) (fun h11 p11 => ?_)
  ·refine g9 9 ?_
   have q22 := (h_l.mono hG17).at (i := k) om9
   refine match q22 with | ⟨_, he18, ⟨e_21, ho_hm19, hf_hm19⟩⟩ => ?_
   subst e_21
   refine g9 3 ?_
   refine W.qcall (Zsf _ _ _ _ _ _ _) rfl (g9 2 ?_)
   refine W.sp 22 rfl (fun h21 => ?_) (fun h21 => ?_)
   ·refine g9 23 ?_
    exact ⟨⟨false, rfl, fun h => by cases h⟩, rfl⟩
   refine g9 5 ?_
   have q27 := (h_l.mono hG17).at (i := k) om9
   refine match q27 with | ⟨_, he23, ⟨e_26, ho_hm24, hf_hm24⟩⟩ => ?_
   subst e_26
   refine g9 10 ?_
   refine WC.cd (fun h28 p28 => ?_) (fun h28 p28 => ?_)
   ·refine g9 13 ?_
    exact ⟨⟨false, rfl, fun h => by cases h⟩, rfl⟩
   have hz := ZqH (l := l) (k := k) om9
   refine g9 6 ?_
   have q32 := (h_l.mono hG17).at (i := k) om9
   refine match q32 with | ⟨_, he28, ⟨e_31, ho_hm29, hf_hm29⟩⟩ => ?_
   subst e_31
   refine g9 3 ?_
   refine W.ok (Zen rfl rfl) (g9 11 ?_)
   exact ⟨Le.rfl, k + 1, hs9, ⟨rfl, om9, om9, fun j h hji => by
      by_cases e2 : j = k
      · subst e2; have h9 := h21; simp at h9; exact ⟨h9.1, h9.2.1, h9.2.2, om9⟩
      · exact hj j h om9, om9⟩, om9⟩
  refine g9 11 ?_
  refine W.sd 41 (fun h40 p40 => ?_) (fun h40 p40 => ?_)
  ·refine g9 10 ?_
   exfalso; have p11 := odf h11; omega
  refine g9 8 ?_
  exact ⟨⟨false, rfl, fun h => by cases h⟩, rfl⟩
 refine g9 17 ?_
 refine W.sd 41 (fun h40 p40 => ?_) (fun h40 p40 => ?_)
 ·refine g9 10 ?_
  have hkl : k = l.length := by omega
  subst hkl
  refine ⟨⟨_, rfl, fun h => ⟨om9, fun a ha => ?_, ?_⟩⟩, rfl⟩
  · obtain ⟨j, hj9, rfl⟩ := List.getElem_of_mem ha
    exact hj j hj9 hj9
  have h9 := odt h; rwa [List.take_length] at h9
 refine g9 8 ?_
 exact ⟨⟨false, rfl, fun h => by cases h⟩, rfl⟩

theorem Zjs {G : GH} {b_t b_s : Nat} {c : Cfg} {l : List Nd} {ss : List Seat} {cur : Str} {M : MH} (h : BtR 60 4 3 189 139 79 b_t b_s c G (l, cur) M) (t : Tree c l ss) : Fc Tryz.prog 19 [pt9 b_t] G M (fun v G' M' => SlR ZA G' v l ∧ M' = M) := by
  obtain ⟨Ms, rfl, hS⟩ := h
  exact Zqs hS t
theorem ZfI {G : GH} {b_t b_s : Nat} {c : Cfg} {l : List Nd} {ss : List Seat} {cur : Str} {M : MH} (h : BtR 60 4 3 189 139 79 b_t b_s c G (l, cur) M) (t : Tree c l ss) : Fc Tryz.prog 22 [pt9 b_t] G M (fun v G' M' => v = iV (l.length : Int) ∧ M' = M) := by
  obtain ⟨Ms, rfl, hS⟩ := h
  exact Zqt hS t
theorem Zjt {G : GH} {b_t b_s : Nat} {c : Cfg} {l : List Nd} {ss : List Seat} {cur : Str} {M : MH} (h : BtR 60 4 3 189 139 79 b_t b_s c G (l, cur) M) (t : Tree c l ss) : Fc Tryz.prog 18 [pt9 b_t] G M (fun v G' M' => SlR Zi G' v (Zh l) ∧ M' = M) := by
  obtain ⟨Ms, rfl, hS⟩ := h
  exact ZqA hS t
theorem ZqL {G : GH} {b_t b_s : Nat} {c : Cfg} {l : List Nd} {ss : List Seat} {cur : Str} {M : MH} (h : BtR 60 4 3 189 139 79 b_t b_s c G (l, cur) M) (t : Tree c l ss) : Fc Tryz.prog 25 [pt9 b_t] G M (fun v G' M' => v = iV ((Za l 0).level + 1) ∧ M' = M) := by
  obtain ⟨Ms, rfl, hS⟩ := h
  exact ZqB hS t
theorem Zju {G : GH} {b_t b_s : Nat} {c : Cfg} {l : List Nd} {ss : List Seat} {cur : Str} {gR : MH} (h_t : BtR 60 4 3 189 139 79 b_t b_s c G (l, cur) gR) (t : Tree c l ss) :
    Fc Tryz.prog 21 [pt9 b_t] G gR (fun v G' M' => v = .bool (Zan l) ∧ M' = gR) := by
 refine Fc.go [.tmp 2] Tryz.func21 Tryz.ntmps21 rfl (fun w0 => (WC.perm (M' := (gR ++ [])) (by simp) (g9 8 ?_)))
 refine W.call (Mp := gR) (Zjs h_t t) rfl pr9 ?_
 intro v4 G1 Ms3 hG1 q2
 refine match q2 with | ⟨hR5, eeq2⟩ => ?_
 have eeq2 := eeq2.symm
 subst eeq2
 have q7 := hR5.form
 refine match q7 with | ⟨sa_5, sc_5, e_6⟩ => ?_
 subst e_6
 refine W.qcall (ZqE hR5) rfl (g9 5 ?_)
 refine ⟨.inr rfl, [_], ⟨rfl, trivial⟩, gR, gL _ _, ?_⟩
 exact ⟨gM Value.bool (Zqk l), rfl⟩

end Go.Proofs.YtbbemibbmbmamaaGreat
namespace Go.Fw
open Go Go.RowKit
section
variable {c : Cfg} {l l' : List Nd} {ss : List Seat} {o : Opr} {k : Int} {q : Str} {a : Ans}
theorem ZqM (m : List Pair) (o : Opr) : (doN m o).2.err = 0 ∨ (doN m o).2.err = 3 := by
  unfold doN
  split
  · exact .inr rfl
  · split
    · exact .inl rfl
    · split <;> exact .inl rfl
theorem DoP.full (h : DoP c k o l a l') (e : a.err = 4) : a = ⟨4, false, Str.nil, []⟩ ∧ Zh l' = Zh l ∧ o.kind ≤ 4 ∧ (doN (Zh l) o).2.err = 0 ∧ c.slots - (l'.length : Int) < 2 := by
  rcases h.r with ⟨h1, _⟩ | h1
  · rw [h1] at e
    have := ZqM (Zh l) o
    omega
  · exact h1
theorem DoP.fine (h : DoP c k o l a l') (e : ¬ a.err = 4) : a = (doN (Zh l) o).2 ∧ Zh l' = (doN (Zh l) o).1 := by
  rcases h.r with h1 | ⟨h1, _⟩
  · exact h1
  · exact absurd (by rw [h1]) e
theorem Zjv (hc : CfgR c) : Tree c [XA 0] [JP (XA 0)] := by
  have hR : (XA 0).R c.fan c.leaf c.bud := by
    obtain ⟨_, ⟨h1, _⟩, _⟩ := hc
    refine ⟨⟨by decide, by decide, by decide⟩, fun _ => ⟨rfl, rfl⟩, fun h => (by cases h), ?_⟩
    rw [if_pos (show (XA 0).level = 0 from rfl)]
    refine ⟨rfl, by show (0 : Int) ≤ _; omega, (fun i h => absurd h (Nat.not_lt_zero i)), fun i hi => absurd hi (Nat.not_lt_zero i)⟩
  exact Zip hc rfl rfl (by decide) hR rfl (Zba hc hR)
theorem Zjw : Zh [XA 0] = [] := Zfe (n := XA 0) rfl rfl (by decide)
theorem Zjx : Grown 0 [XA 0] := ⟨fun n hn => by simp at hn; subst hn; exact Int.le_refl _, Int.le_refl _, Int.le_refl _⟩
theorem ZqN {N : Nat} {r : Int × Int × List Nd} (t : Tree c l ss) (hg : Grown k l) (hr : Y8 c q N l 0 0 = some r) : (∃ T, Tree c r.2.2 T) ∧ Zh r.2.2 = Zh l ∧ Grown k r.2.2 ∧ (r.2.1 = 0 ∨ (r.2.1 = 4 ∧ c.slots - (r.2.2.length : Int) < 2)) := by
  have ha : (0 : Int) ≤ 0 ∧ (0 : Int) < l.length := ⟨Int.le_refl _, by have := t.pos; omega⟩
  obtain ⟨T, hT, hm⟩ := ZcN N t ha hr
  exact ⟨⟨T, hT⟩, hm, hg.cyc t hr, ZdY N t ha hr⟩
theorem Zjy (t : Tree c l ss) : Za l 0 = l[0]'(t.pos) := Zar ⟨Int.le_refl _, by have := t.pos; omega⟩
theorem ZqO (t : Tree c l ss) : 0 ≤ (l[0]'(t.pos)).level ∧ (l[0]'(t.pos)).level ≤ 11 := by
  have h1 := t.height
  have h2 := (t.seat t.root).1.1.2.1
  rw [t.rootn, Zjy t] at h1 h2
  exact ⟨h2, h1⟩
end
end Go.Fw
namespace Go.Proofs.YtbbemibbmbmamaaGreat
open Go Go.Fw Go.RowKit
attribute [local irreducible] Ok W WC
theorem Zjz {G : GH} {cs_a : List Value} {a : Ans} (h_a : AnsC G cs_a a) {cs_b : List Value} {b : Ans} (h_b : AnsC G cs_b b) :
    Fc Tryz.prog 13 [.agg (List.toArray cs_a), .agg (List.toArray cs_b)] G [] (fun v _ _ => v = .bool (decide (a = b))) := by
 obtain ⟨_, _, rfl, hw_a, hok_a⟩ := h_a
 obtain ⟨_, _, rfl, hw_b, hok_b⟩ := h_b
 refine Fc.go [.tmp 4] Tryz.func13 Tryz.ntmps13 rfl (fun w0 => (g9 2 ?_))
 refine W.box (L := [iV _, .bool _, sV _, lV _ _ _]) rfl rfl (fun b1 => (W.box (L := [iV _, .bool _, sV _, lV _ _ _]) rfl rfl (fun b2 => (g9 11 ?_))))
 refine W.sd 10 (fun h9 p9 => ?_) (fun h9 p9 => ?_)
 ·refine g9 9 ?_
  refine W.ok (Zue bo4 rfl rfl) (g9 2 ?_)
  refine W.sp 17 rfl (fun h15 => ?_) (fun h15 => ?_)
  ·refine g9 12 ?_
   refine W.sd 24 (fun h22 p22 => ?_) (fun h22 p22 => ?_)
   ·refine g9 9 ?_
    refine W.qcall (Zdl hw_a hw_b) rfl (g9 6 ?_)
    refine gM Value.bool ?_
    rw [Bool.eq_iff_iff, decide_eq_true_iff]
    clear hw_a hok_a hw_b hok_b
    cases a; cases b
    simp_all [Str.b_inj]
   refine g9 11 ?_
   refine gM Value.bool ?_
   rw [Bool.eq_iff_iff, decide_eq_true_iff]
   clear hw_a hok_a hw_b hok_b
   cases a; cases b
   simp_all [Str.b_inj]
  refine g9 18 ?_
  refine gM Value.bool ?_
  rw [Bool.eq_iff_iff, decide_eq_true_iff]
  clear hw_a hok_a hw_b hok_b
  cases a; cases b
  simp_all [Str.b_inj]
 refine g9 25 ?_
 refine gM Value.bool ?_
 rw [Bool.eq_iff_iff, decide_eq_true_iff]
 clear hw_a hok_a hw_b hok_b
 cases a; cases b
 simp_all [Str.b_inj]

theorem ZqP {G : GH} (gV : Int) (gT : Int) (gW : Int) (gS : Int) (gU : Int) {v_l : Value} {l : List Act32} (h_l : SlR ZdI G v_l l) (haw : ∀ {G : GH}, Fc Tryz.prog 9 [] G [] (fun v _ _ => v = .bool true)) :
    Fc Tryz.prog 5 [.agg #[iV gV, iV gT, iV gW, iV gS, iV gU], v_l] G [] (fun v _ _ => v = .bool (true)) := by
 obtain ⟨sa_l, sc_l, rfl⟩ := h_l.form
 have hl := h_l.len47
 refine Fc.go [.tmp 4] Tryz.func5 Tryz.ntmps5 rfl (fun w0 => (g9 2 ?_))
 refine W.box (L := [iV _, iV _, iV _, iV _, iV _]) rfl rfl (fun b1 => (g9 7 ?_))
 refine W.call (Mp := []) (ZqK h_l) rfl pr9 ?_
 intro v5 G2 Ms4 hG2 q3
 refine match q3 with | ⟨⟨rf9, e_6, hfew⟩, e_7⟩ => ?_
 subst e_6
 subst e_7
 refine g9 3 ?_
 refine WC.cond rfl (fun h18 => ?_) (fun h18 => ?_)
 ·refine g9 2 ?_
  refine W.qcall (haw) rfl (g9 6 ?_)
  rfl
 have hfw : FewR l := hfew (by simpa using h18)
 obtain ⟨hfl, hfo, hff⟩ := hfw
 refine g9 5 ?_
 refine W.call (Mp := []) (Zjr gV gT gW gS gU) rfl pr9 ?_
 intro v11 G8 Ms10 hG8 q9
 refine Or.elim q9 (fun q12 => ?_) (fun q13 => ?_)
 ·refine match q12 with | ⟨hnc, e_14, e_15⟩ => ?_
  subst e_14
  subst e_15
  refine g9 11 ?_
  refine W.qcall ((Zjk _ _ _ _ _).mono (fun v _ _ _ hv => hv.trans (gM Value.bool (decide_eq_false hnc)))) rfl (g9 7 ?_)
  refine W.ok (Y4 Zaj rfl rfl) (g9 8 ?_)
  refine W.qcall (haw) rfl (g9 7 ?_)
  rfl
 refine match q13 with | ⟨hC, b_t, b_s, e_16, hB9⟩ => ?_
 subst e_16
 refine W.perm (pmC pr9).symm (g9 11 ?_)
 refine W.qcall ((Zjk _ _ _ _ _).mono (fun v _ _ _ hv => hv.trans (gM Value.bool (decide_eq_true hC)))) rfl (g9 10 ?_)
 refine W.ok (Y4 Zaj rfl rfl) (g9 25 ?_)
 refine WC.loop (X := (Nat × (List Nd × Str) × List Pair) × MH × Value) (fun x => [(45, nt9 x.1.1), (2, pt9 b1), (43, lV sa_l l.length sc_l), (44, nt9 ((l).length)), (5, pt9 b_t), (7, x.2.2)]) (fun x G Ml => Ml = ((b1, ce9 23 [iV gV, iV gT, iV gW, iV gS, iV gU]) :: (x.2.1 ++ [])) ∧ BtR 60 4 3 189 139 79 b_t b_s (⟨gV, gT, gW, gS, gU⟩ : Cfg) G (x.1.2.1) x.2.1 ∧ SlR Zi G x.2.2 (x.1.2.2) ∧ x.1.1 ≤ l.length ∧ x.1.2.2.length ≤ x.1.1 ∧ (∃ T, Tree (⟨gV, gT, gW, gS, gU⟩ : Cfg) x.1.2.1.1 T) ∧ Grown (x.1.1 : Int) x.1.2.1.1 ∧ x.1.2.2 = Zh x.1.2.1.1) (fun x => l.length - x.1.1) (((0, ([XA 0], Str.nil), []) : Nat × (List Nd × Str) × List Pair), Ms10, lV none 0 0) hs9 ?_ ?_
 ·exact ⟨rfl, (by exact hB9), (by simpa using SlR.nil), Nat.zero_le _, Nat.zero_le _, ⟨_, Zjv hC⟩, Zjx, Zjw.symm⟩
 rintro ⟨⟨k, ⟨L, cu⟩, m⟩, M_5, v_7⟩ gG17 G17 _ hG17 ⟨rfl, ho_5, ho_7, hk, hlm9, hTr, hg, hmm⟩
 try dsimp only at ho_5 ho_7 hk hlm9 hTr hg hmm
 obtain ⟨T8, t9⟩ := hTr
 have hcs : 1 ≤ gS ∧ gS ≤ 4096 := hC.2.2.2.1
 have hPm : PairsR m := by rw [hmm]; exact t9.mapFits
 have hdR9 := fun o : Opr => (Zry (o := o) hPm).2
 refine WC.fr (f := ZR gG17 [(45, nt9 k), (2, pt9 b1), (43, lV sa_l l.length sc_l), (44, nt9 ((l).length)), (5, pt9 b_t), (7, v_7)]) rfl (g9 6 ?_)
 refine WC.cd (fun h46 p46 => ?_) (fun h46 p46 => ?_)
 ·try dsimp only at p46
  have hfk := (hfo _ (List.getElem_mem (by omega : k < l.length))).2.2.2
  refine g9 6 ?_
  have q22 := (h_l.mono ((hG2.trans hG8).trans hG17)).at (i := (k)) om9
  refine match q22 with | ⟨_, he18, ⟨e_21, ho_hm19, hf_hm19⟩⟩ => ?_
  subst e_21
  refine W.ok (ZX (i := (k)) Zdg ZhS (h_l.mono lec) rfl rfl ⟨om9, om9⟩) (g9 1 ?_)
  refine W.alloc Znt (fun b23 => (g9 8 ?_))
  refine W.call (Mp := []) (Zsh ho_7 l[k].o.kind l[k].o.key l[k].o.hi l[k].o.opn l[k].o.val l[k].o.lim hPm om9) rfl pr9 ?_
  intro _ G24 _ hG24 q27
  refine match q27 with | ⟨e_28, _, e_29, _, _, e_30, hv25, hv26⟩ => ?_
  subst e_28
  subst e_29
  subst e_30
  have q32 := hv25.form
  refine match q32 with | ⟨sa_v25, sc_v25, e_31⟩ => ?_
  subst e_31
  refine match hv26 with | ⟨pa_v26, pc_v26, e_33, hw_v26, hok_v26⟩ => ?_
  subst e_33
  refine g9 3 ?_
  refine W.alloc Zah (fun b34 => (g9 9 ?_))
  refine W.call (Mp := M_5) (ZbU (BtR.mono hG24 ho_5) t9 l[k].o.kind l[k].o.key l[k].o.hi l[k].o.opn l[k].o.val l[k].o.lim (k : Int) hg om9) rfl (pmC (pmC (pmC pr9))) ?_
  intro v38 G35 Ms37 hG35 q36
  refine match q36 with | ⟨a9, l9, hD9, ⟨cs_a9, e_40, pa_a9, pc_a9, e_41, hw_a9, hok_a9⟩, hR39⟩ => ?_
  subst e_40
  subst e_41
  refine W.perm (pmC (pmC (pmC pr9))).symm ?_
  obtain ⟨T9, t10⟩ := hD9.t
  have hsl10 := t10.sml.1
  refine W.alloc Zah (fun b42 => (g9 3 ?_))
  refine WC.join (X := (Unit) × Value) (fun u20 => [(5, pt9 b_t), (2, pt9 b1), (9, pt9 b23), (43, lV sa_l l.length sc_l), (44, nt9 ((l).length)), (45, nt9 k), (7, u20.2)]) (fun u20 G Ml => Ml = ((b42, ce9 38 [iV (a9).err, .bool (a9).has, sV (a9).val.b, lV pa_a9 (a9).rows.length pc_a9]) :: ((b34, ce9 38 [iV ((doN m l[k].o).2).err, .bool ((doN m l[k].o).2).has, sV ((doN m l[k].o).2).val.b, lV pa_v26 ((doN m l[k].o).2).rows.length pc_v26]) :: ((b23, ce9 36 [iV ((l)[((k))]).o.kind, sV ((l)[((k))]).o.key.b, sV ((l)[((k))]).o.hi.b, .bool ((l)[((k))]).o.opn, sV ((l)[((k))]).o.val.b, iV ((l)[((k))]).o.lim, iV ((l)[((k))]).fl]) :: ((b1, ce9 23 [iV gV, iV gT, iV gW, iV gS, iV gU]) :: (Ms37 ++ []))))) ∧ SlR Zi G u20.2 (Zh l9) ∧ (Zh l9).length ≤ k + 1) ?_ ?_
  ·refine g9 7 ?_
   refine WC.cd (fun h62 p62 => ?_) (fun h62 p62 => ?_)
   ·try dsimp only at p62
    have hF9 := hD9.full p62
    refine WC.seq (WC.dw (((sn9.k9.k9).k9).k9) (d9 [0, 1, 2, 3] ?_))
    refine WD.sp 66 rfl (fun h65 => ?_) (fun h65 => ?_)
    ·have p65 := Zbp h65
     try dsimp only at p65
     exact absurd (by rw [hmm]; exact hF9.2.2.2.1) p65
    have p65 := Zbq h65
    try dsimp only at p65
    refine d9 [4, 5, 6, 7, 8, 9] ?_
    refine WD.sp 72 rfl (fun h70 => ?_) (fun h70 => ?_)
    ·have p70 := odt h70
     try dsimp only at p70
     exfalso; have h9 := hF9.2.2.1; dsimp only at h9; omega
    have p70 := odf h70
    try dsimp only at p70
    refine d9 [10, 11, 12] ?_
    refine WD.anyG [13] (by kernel_rfl) rfl ⟨⟨_, rfl, .inr ⟨_, 72, _, _, rfl, rfl, rfl, h70, rfl⟩, (W.call (Mp := Ms37) (ZfI hR39 t10) rfl (pmC (pmC (pmC (pmC pr9)))) ?_)⟩, trivial⟩
    intro v46 G43 Ms45 hG43 q44
    refine match q44 with | ⟨e_48, eeq44⟩ => ?_
    subst e_48
    have eeq44 := eeq44.symm
    subst eeq44
    refine W.perm (pmC (pmC (pmC (pmC pr9)))).symm (W.nn (d9 [14, 15, 16, 17] ?_))
    refine WD.sp 80 rfl (fun h78 => ?_) (fun h78 => ?_)
    ·have p78 := odt h78
     try dsimp only at p78
     exfalso; have h9 := hF9.2.2.2.2; dsimp only at h9; omega
    have p78 := odf h78
    try dsimp only at p78
    refine d9 [18] ?_
    refine WD.takeY 19 80 rfl rfl rfl rfl rfl h78 (by kernel_rfl) (by kernel_rfl) (by kernel_rfl) (Zw (L := [iV _, .bool _, sV _, lV _ _ _]) Ze0 Zah rfl rfl rfl) (WD.anyG [20] (by kernel_rfl) rfl ⟨⟨_, rfl, .inr ⟨_, 80, _, _, rfl, rfl, rfl, h78, rfl⟩, (W.qcall ((Zjz (b := ⟨4, false, Str.nil, []⟩) (show AnsC _ _ a9 from ⟨_, _, rfl, (hw_a9.mono hG43), hok_a9⟩) (show AnsC _ _ _ from ⟨_, _, rfl, SlR.nil, ⟨by decide, by decide⟩⟩)).mono (fun v _ _ _ hv => hv.trans (gM Value.bool (decide_eq_true hF9.1)))) rfl (W.nn (d9 [21, 22] ?_)))⟩, trivial⟩)
    refine g9 5 ?_
    exact ⟨hG43, ((), v_7), hs9, ⟨rfl, (by exact SlR.cast (ho_7.mono lec) (hmm.trans hF9.2.1.symm)), by rw [hF9.2.1, ← hmm]; omega⟩⟩
   try dsimp only at p62
   have hN9 := hD9.fine p62
   refine g9 10 ?_
   refine W.qcall ((Zjz (show AnsC _ _ a9 from ⟨_, _, rfl, hw_a9, hok_a9⟩) (show AnsC _ _ (doN m l[k].o).2 from ⟨_, _, rfl, (hw_v26.mono hG35), hok_v26⟩)).mono (fun v _ _ _ hv => hv.trans (gM Value.bool (decide_eq_true (hN9.1.trans (by rw [hmm])))))) rfl (g9 6 ?_)
   exact ⟨Le.rfl, ((), lV sa_v25 ((doN m l[k].o).1).length sc_v25), hs9, ⟨rfl, (by exact SlR.cast (hv25.mono hG35) (by have h8 := hN9.2; rw [← hmm] at h8; exact h8.symm)), by rw [hN9.2, ← hmm]; exact Nat.le_trans (hdR9 l[k].o) om9⟩⟩
  rintro ⟨u20, v_7⟩ gG49 G49 _ hG49 ⟨rfl, ho_7, hl9⟩
  try dsimp only at ho_7 hl9
  refine g9 9 ?_
  refine WC.loop (X := (Nat × (List Nd × Str)) × MH) (fun y => [(93, nt9 y.1.1), (2, pt9 b1), (7, v_7), (43, lV sa_l l.length sc_l), (44, nt9 ((l).length)), (45, nt9 k), (92, iV ((l)[((k))]).fl), (5, pt9 b_t)]) (fun y G Ml => Ml = ((b42, ce9 38 [iV (a9).err, .bool (a9).has, sV (a9).val.b, lV pa_a9 (a9).rows.length pc_a9]) :: ((b34, ce9 38 [iV ((doN m l[k].o).2).err, .bool ((doN m l[k].o).2).has, sV ((doN m l[k].o).2).val.b, lV pa_v26 ((doN m l[k].o).2).rows.length pc_v26]) :: ((b23, ce9 36 [iV ((l)[((k))]).o.kind, sV ((l)[((k))]).o.key.b, sV ((l)[((k))]).o.hi.b, .bool ((l)[((k))]).o.opn, sV ((l)[((k))]).o.val.b, iV ((l)[((k))]).o.lim, iV ((l)[((k))]).fl]) :: ((b1, ce9 23 [iV gV, iV gT, iV gW, iV gS, iV gU]) :: (y.2 ++ []))))) ∧ BtR 60 4 3 189 139 79 b_t b_s (⟨gV, gT, gW, gS, gU⟩ : Cfg) G (y.1.2) y.2 ∧ (∃ T, Tree (⟨gV, gT, gW, gS, gU⟩ : Cfg) y.1.2.1 T) ∧ Grown ((k : Int) + 1) y.1.2.1 ∧ Zh y.1.2.1 = Zh l9) (fun y => l[k].fl.toNat - y.1.1) (((0, (l9, cu)) : Nat × (List Nd × Str)), Ms37) hs9 ?_ ?_
  ·exact ⟨rfl, (by exact (BtR.mono hG49 hR39)), hD9.t, hD9.g, rfl⟩
  rintro ⟨⟨j, ⟨L2, cu2⟩⟩, M_5⟩ gG50 G50 _ hG50 ⟨rfl, ho_5, hTr2, hg2, hmp2⟩
  try dsimp only at ho_5 hTr2 hg2 hmp2
  obtain ⟨T10, t11⟩ := hTr2
  have hsl11 := t11.sml.1
  have hp11 := t11.pos
  have hrl9 := ZqO t11
  refine WC.fr (f := ZR gG50 [(93, nt9 j), (2, pt9 b1), (7, v_7), (43, lV sa_l l.length sc_l), (44, nt9 ((l).length)), (45, nt9 k), (92, iV ((l)[((k))]).fl), (5, pt9 b_t)]) rfl (g9 6 ?_)
  refine WC.cd (fun h94 p94 => ?_) (fun h94 p94 => ?_)
  ·try dsimp only at p94
   refine g9 7 ?_
   refine W.call (Mp := M_5) (ZqF ho_5 t11) rfl (pmC (pmC (pmC (pmC pr9)))) ?_
   intro v54 G51 Ms53 hG51 q52
   refine match q52 with | ⟨N9, r9, hr9, e_56, hR55⟩ => ?_
   subst e_56
   refine W.perm (pmC (pmC (pmC (pmC pr9)))).symm ?_
   have hf9 := ZqN t11 hg2 hr9
   obtain ⟨T12, t12⟩ := hf9.1
   have hsl12 := t12.sml.1
   refine g9 8 ?_
   refine WC.dw (((sn9.k9.k9).k9).k9) (d9 [0, 1, 2] ?_)
   refine WD.sp 102 rfl (fun h101 => ?_) (fun h101 => ?_)
   ·have p101 := Zbp h101
    try dsimp only at p101
    refine d9 [3, 4, 5] ?_
    refine WD.sp 105 rfl (fun h104 => ?_) (fun h104 => ?_)
    ·have p104 := Zbp h104
     try dsimp only at p104
     exfalso; rcases hf9.2.2.2 with h9 | ⟨h9, _⟩ <;> omega
    have p104 := Zbq h104
    try dsimp only at p104
    refine d9 [6, 7, 8] ?_
    refine WD.anyG [9] (by kernel_rfl) rfl ⟨⟨_, rfl, .inr ⟨_, 105, _, _, rfl, rfl, rfl, h104, rfl⟩, (W.call (Mp := Ms53) (ZfI hR55 t12) rfl (pmC (pmC (pmC (pmC pr9)))) ?_)⟩, trivial⟩
    intro v60 G57 Ms59 hG57 q58
    refine match q58 with | ⟨e_62, eeq58⟩ => ?_
    subst e_62
    have eeq58 := eeq58.symm
    subst eeq58
    refine W.perm (pmC (pmC (pmC (pmC pr9)))).symm (W.nn (d9 [10, 11, 12, 13] ?_))
    refine g9 2 ?_
    refine WC.cd (fun h111 p111 => ?_) (fun h111 p111 => ?_)
    ·try dsimp only at p111
     exfalso; rcases hf9.2.2.2 with h9 | ⟨_, h9⟩; exact p101 h9; dsimp only at h9; omega
    try dsimp only at p111
    refine g9 8 ?_
    exact ⟨lec, (((j + 1, (r9.2.2, if (Zt r9.2.2 cu2).s.opn = true then Str.nil else (Zt r9.2.2 cu2).s.hi)) : Nat × (List Nd × Str)), Ms53), hs9, ⟨rfl, (by exact (BtR.mono hG57 hR55)), hf9.1, hf9.2.2.1, hf9.2.1.trans hmp2⟩, by dsimp only; omega⟩
   have p101 := Zbq h101
   try dsimp only at p101
   refine d9 [3, 4, 5] ?_
   refine WD.takeU 6 105 rfl rfl rfl rfl rfl (by kernel_rfl) (by kernel_rfl) (by kernel_rfl) (WD.takeU 7 105 rfl rfl rfl rfl rfl (by kernel_rfl) (by kernel_rfl) (by kernel_rfl) (WD.takeU 8 105 rfl rfl rfl rfl rfl (by kernel_rfl) (by kernel_rfl) (by kernel_rfl) (WD.takeU 9 105 rfl rfl rfl rfl rfl (by kernel_rfl) (by kernel_rfl) (by kernel_rfl) (WD.takeU 10 105 rfl rfl rfl rfl rfl (by kernel_rfl) (by kernel_rfl) (by kernel_rfl) (WD.takeU 11 105 rfl rfl rfl rfl rfl (by kernel_rfl) (by kernel_rfl) (by kernel_rfl) (d9 [12, 13] ?_))))))
   refine g9 11 ?_
   exact ⟨hG51, (((j + 1, (r9.2.2, if (Zt r9.2.2 cu2).s.opn = true then Str.nil else (Zt r9.2.2 cu2).s.hi)) : Nat × (List Nd × Str)), Ms53), hs9, ⟨rfl, (by exact hR55), hf9.1, hf9.2.2.1, hf9.2.1.trans hmp2⟩, by dsimp only; omega⟩
  try dsimp only at p94
  refine g9 8 ?_
  refine W.call (Mp := M_5) (Zjs ho_5 t11) rfl (pmC (pmC (pmC (pmC pr9)))) ?_
  intro v66 G63 Ms65 hG63 q64
  refine match q64 with | ⟨hR67, eeq64⟩ => ?_
  have eeq64 := eeq64.symm
  subst eeq64
  refine W.perm (pmC (pmC (pmC (pmC pr9)))).symm ?_
  have q69 := hR67.form
  refine match q69 with | ⟨sa_67, sc_67, e_68⟩ => ?_
  subst e_68
  refine g9 4 ?_
  refine WC.dw (((sn9.k9.k9).k9).k9) (d9 [0, 2] ?_)
  refine WD.a1 1 rfl (W.call (Mp := M_5) (Zjt (BtR.mono hG63 ho_5) t11) rfl (pmC (pmC (pmC (pmC pr9)))) ?_)
  intro v73 G70 Ms72 hG70 q71
  refine match q71 with | ⟨hR74, eeq71⟩ => ?_
  have eeq71 := eeq71.symm
  subst eeq71
  refine W.perm (pmC (pmC (pmC (pmC pr9)))).symm ?_
  have q76 := hR74.form
  refine match q76 with | ⟨sa_74, sc_74, e_75⟩ => ?_
  subst e_75
  refine W.nn (WD.a1 3 rfl (W.qcall ((Zdl hR74 (ho_7.mono lec)).mono (fun v _ _ _ hv => hv.trans (gM Value.bool (decide_eq_true hmp2)))) rfl (W.nn (d9 [4, 5, 6, 8] ?_))))
  refine WD.anyG [7] (by kernel_rfl) rfl ⟨⟨_, rfl, .inr ⟨_, 122, _, _, rfl, rfl, rfl, rfl, rfl⟩, (W.cS (Zqr (hR67.mono hG70) _ _ t11) rfl (fun sa_v78 sc_v78 G77 hG77 hv78 => (W.nn (WD.anyG [9] (by kernel_rfl) rfl ⟨⟨_, rfl, .inr ⟨_, 122, _, _, rfl, rfl, rfl, rfl, rfl⟩, (W.qcall ((Zdl hv78 (ho_7.mono lec)).mono (fun v _ _ _ hv => hv.trans (gM Value.bool (decide_eq_true hmp2)))) rfl (W.nn (d9 [10, 11, 12, 13, 14] ?_)))⟩, trivial⟩))))⟩, trivial⟩
  refine WD.anyG [15] (by kernel_rfl) rfl ⟨⟨_, rfl, .inr ⟨_, 129, _, _, rfl, rfl, rfl, rfl, rfl⟩, (W.qcall ((Zri _ _ _ _ _ (hR67.mono lec) t11.sml).mono (fun v _ _ _ hv => hv.trans (gM Value.bool t11.sound))) rfl (W.nn (d9 [16, 17, 18, 19, 21, 22] ?_)))⟩, trivial⟩
  refine WD.anyG [20] (by kernel_rfl) rfl ⟨⟨_, rfl, .inr ⟨_, 135, _, _, rfl, rfl, rfl, rfl, rfl⟩, (W.call (Mp := M_5) (ZfI (BtR.mono lec ho_5) t11) rfl (pmC (pmC (pmC (pmC pr9)))) ?_)⟩, trivial⟩
  intro v87 G84 Ms86 hG84 q85
  refine match q85 with | ⟨e_89, eeq85⟩ => ?_
  subst e_89
  have eeq85 := eeq85.symm
  subst eeq85
  refine W.perm (pmC (pmC (pmC (pmC pr9)))).symm (W.nn (d9 [23, 24, 25] ?_))
  refine WD.sp 142 rfl (fun h140 => ?_) (fun h140 => ?_)
  ·have p140 := Zbp h140
   try dsimp only at p140
   exact absurd rfl p140
  have p140 := Zbq h140
  try dsimp only at p140
  refine d9 [26, 28] ?_
  refine (hR67.mono ((hG70.trans hG77).trans hG84)).aN (i := 0) om9 (fun _ _ _ _ _ _ _ _ he90 hp_n91 hk_n91 hm_n91 hr_n91 hok_n91 => (WD.takeY 29 142 rfl rfl rfl rfl rfl h140 (by kernel_rfl) (by kernel_rfl) (by kernel_rfl) (ZX (i := 0) Xg Ym (hR67.mono lec) rfl rfl ⟨om9, om9⟩) (d9 [30, 31, 32] ?_)))
  refine WD.anyG [27] (by kernel_rfl) rfl ⟨⟨_, rfl, .inr ⟨_, 142, _, _, rfl, rfl, rfl, h140, rfl⟩, (W.call (Mp := M_5) (ZqL (BtR.mono lec ho_5) t11) rfl (pmC (pmC (pmC (pmC pr9)))) ?_)⟩, trivial⟩
  intro v97 G94 Ms96 hG94 q95
  refine match q95 with | ⟨e_99, eeq95⟩ => ?_
  subst e_99
  have eeq95 := eeq95.symm
  subst eeq95
  refine W.perm (pmC (pmC (pmC (pmC pr9)))).symm (W.nn (d9 [33, 34, 35] ?_))
  refine WD.sp 152 rfl (fun h150 => ?_) (fun h150 => ?_)
  ·have p150 := Zbp h150
   try dsimp only at p150
   exact absurd (by rw [Zjy t11]) p150
  have p150 := Zbq h150
  try dsimp only at p150
  refine d9 [36, 38] ?_
  refine WD.anyG [37] (by kernel_rfl) rfl ⟨⟨_, rfl, .inr ⟨_, 152, _, _, rfl, rfl, rfl, h150, rfl⟩, (W.call (Mp := M_5) (Zju (BtR.mono lec ho_5) t11) rfl (pmC (pmC (pmC (pmC pr9)))) ?_)⟩, trivial⟩
  intro v103 G100 Ms102 hG100 q101
  refine match q101 with | ⟨e_105, eeq101⟩ => ?_
  subst e_105
  have eeq101 := eeq101.symm
  subst eeq101
  refine W.perm (pmC (pmC (pmC (pmC pr9)))).symm (W.nn (WD.anyG [39] (by kernel_rfl) rfl ⟨⟨_, rfl, .inr ⟨_, 152, _, _, rfl, rfl, rfl, h150, rfl⟩, (W.qcall (ZqJ (hR67.mono lec)) rfl (W.nn (WD.takeY 40 152 rfl rfl rfl rfl rfl h150 (by kernel_rfl) (by kernel_rfl) (by kernel_rfl) (Zlv bo4 rfl rfl) (d9 [41] ?_))))⟩, trivial⟩))
  refine g9 2 ?_
  refine WC.cond rfl (fun h157 => ?_) (fun h157 => ?_)
  ·exact absurd h157 (by simp)
  refine g9 6 ?_
  refine W.sub (((sr9.cons _).cons _).cons _) (g9 2 ?_)
  exact ⟨lec, (((k + 1, (L2, cu2), Zh l9) : Nat × (List Nd × Str) × List Pair), M_5, v_7), hs9, ⟨rfl, (by exact (BtR.mono lec ho_5)), (by simpa using (ho_7.mono lec)), by dsimp only; omega, hl9, ⟨T10, t11⟩, by have h9 := hg2; exact h9, hmp2.symm⟩, by dsimp only; omega⟩
 try dsimp only at p46
 refine g9 7 ?_
 refine W.qcall (haw) rfl (g9 5 ?_)
 rfl

end Go.Proofs.YtbbemibbmbmamaaGreat
namespace Go.Fw
open Go Go.RowKit
def Jf : Str := ⟨⟨#[97]⟩, by decide⟩
def ZcH : Str := ⟨⟨#[98]⟩, by decide⟩
def ZcI : Str := ⟨⟨#[49]⟩, by decide⟩
def ZjA : Str := ⟨⟨#[50]⟩, by decide⟩
def ZcJ : Str := ⟨⟨#[51]⟩, by decide⟩
def ZbV : Str := ⟨⟨#[49, 50]⟩, by decide⟩
def C32 : Cfg := ⟨4, 2, 36, 9, 0⟩
theorem ZjB : CfgR C32 := by decide
def ZdJ : Opr := ⟨1, Jf, Str.nil, false, ZcI, 0⟩
def ZdK : Opr := ⟨2, Jf, Str.nil, false, ZjA, 0⟩
def ZqQ : Opr := ⟨5, Jf, Str.nil, false, Str.nil, 0⟩
def ZdL : Opr := ⟨4, Str.nil, Str.nil, true, Str.nil, 0⟩
def ZdM : Opr := ⟨1, ZcH, Str.nil, false, ZcJ, 0⟩
theorem ZqR : ZdJ.R := by decide +kernel
theorem ZqS : ZdK.R := by decide +kernel
theorem ZqT : ZdL.R := by decide +kernel
theorem ZqU : ZdM.R := by decide +kernel
def ZdN : List Nd := (Zu C32 [XA 0] ZdJ).2.2
def ZcK : List Nd := (Zu C32 ZdN ZdK).2.2
def ZdO : List Nd := (Zu C32 ZcK ZdL).2.2
def ZfJ : List Nd := (Zu C32 ZdO ZdM).2.2
theorem ZqV : (Zu C32 [XA 0] ZdJ).2.1 = 0 := by decide +kernel
theorem ZqW : (Zu C32 ZdN ZdK).2.1 = 0 := by decide +kernel
theorem ZqX : (Zu C32 ZcK ZdL).2.1 = 0 := by decide +kernel
theorem ZqY : (Zu C32 ZdO ZdM).2.1 = 0 := by decide +kernel
theorem q32 : Zan ZfJ = true := by decide +kernel
theorem ZqZ : (doN [] ZdJ).1 = [⟨Jf, ZcI⟩] := by decide +kernel
theorem Zq0 : (doN [⟨Jf, ZcI⟩] ZdK).1 = [⟨Jf, ZbV⟩] := by decide +kernel
theorem Zq1 : (doN [⟨Jf, ZbV⟩] ZqQ).2 = ⟨0, true, ZbV, []⟩ := by decide +kernel
theorem Zq2 : (doN [⟨Jf, ZbV⟩] ZdL).1 = [] := by decide +kernel
theorem Zq3 : (doN [] ZdM).1 = [⟨ZcH, ZcJ⟩] := by decide +kernel
end Go.Fw
namespace Go.Proofs.YtbbemibbmbmamaaGreat
open Go Go.Fw Go.RowKit
attribute [local irreducible] Ok W WC
theorem Zq4 {G : GH} {b_t b_s : Nat} {c : Cfg} {l : List Nd} {ss : List Seat} {cur : Str} {gR : MH} (h_t : BtR 60 4 3 189 139 79 b_t b_s c G (l, cur) gR) (t : Tree c l ss) (hq : Zan l = true) :
    Fc Tryz.prog 16 [pt9 b_t] G gR (fun v G' M' => v = iV 0 ∧ BtR 60 4 3 189 139 79 b_t b_s c G' (l, cur) M') := by
 refine Fc.go [.tmp 2] Tryz.func16 Tryz.ntmps16 rfl (fun w0 => (WC.perm (M' := (gR ++ [])) (by simp) (g9 9 ?_)))
 refine W.ok (Y4 Zaj rfl rfl) (g9 12 ?_)
 refine WC.loop (X := (Nat) × MH) (fun k => [(3, iV 1), (0, pt9 b_t)]) (fun k G Ml => Ml = (k.2 ++ []) ∧ BtR 60 4 3 189 139 79 b_t b_s c G ((l, cur)) k.2 ∧ True) (fun k => 0) (0, gR) hs9 ?_ ?_
 ·exact ⟨rfl, (by exact h_t), trivial⟩
 rintro ⟨k, M_0⟩ gG1 G1 _ hG1 ⟨rfl, ho_0, _⟩
 try dsimp only at ho_0 _
 refine WC.fr (f := ZR gG1 [(3, iV 1), (0, pt9 b_t)]) rfl (g9 4 ?_)
 refine W.call (Mp := M_0) (Zju ho_0 t) rfl pr9 ?_
 intro v5 G2 Ms4 hG2 q3
 refine match q3 with | ⟨e_7, eeq3⟩ => ?_
 subst e_7
 have eeq3 := eeq3.symm
 subst eeq3
 refine g9 3 ?_
 refine WC.cond rfl (fun h10 => ?_) (fun h10 => ?_)
 ·rw [hq] at h10; cases h10
 refine g9 11 ?_
 refine ⟨.inr rfl, [_], ⟨rfl, trivial⟩, M_0, gL _ _, ?_⟩
 exact ⟨rfl, (BtR.mono hG2 ho_0)⟩

theorem Zq5 {G : GH}  :
    Fc Tryz.prog 9 [] G [] (fun v _ _ => v = .bool (true)) := by
 refine Fc.go [.tmp 0] Tryz.func9 Tryz.ntmps9 rfl (fun w0 => (g9 7 ?_))
 refine W.ok (Zw (L := [iV _, iV _, iV _, iV _, iV _]) ZnJ ZhR rfl rfl rfl) (W.call (Mp := []) (Zjr 4 2 36 9 0) rfl pr9 ?_)
 intro v11 G8 Ms10 hG8 q9
 have hN9 := Or.resolve_left q9 (fun h => h.1 ZjB)
 refine match hN9 with | ⟨hC, b_t, b_s, e_12, hB9⟩ => ?_
 subst e_12
 have t0 := Zjv ZjB
 have hg0 := Zjx
 refine g9 10 ?_
 refine W.ok (Zw (L := [iV _, sV _, sV _, .bool _, sV _, iV _]) Zcv Zcu rfl rfl rfl) (W.call (Mp := Ms10) (ZbU hB9 t0 1 Jf Str.nil false ZcI 0 (0 : Int) hg0 (by decide)) rfl pr9 ?_)
 intro v16 G13 Ms15 hG13 q14
 refine match q14 with | ⟨a1, l1, hD1, ⟨cs_a1, e_18, _, _, e_19, hw_a1, hok_a1⟩, hR17⟩ => ?_
 subst e_18
 subst e_19
 have eLA1 := hD1.x ZqR (by decide) ZqV
 have eL1 : l1 = ZdN := eLA1.1
 have eA1 := eLA1.2
 subst eA1
 subst eL1
 have hg1 := hD1.g
 have q20 := hD1.t
 refine match q20 with | ⟨T1, t1⟩ => ?_
 have hm1 : Zh ZdN = [⟨Jf, ZcI⟩] := (hD1.fine (by decide)).2.trans (by rw [Zjw]; exact ZqZ)
 refine g9 5 ?_
 refine W.ok (Zw (L := [iV _, sV _, sV _, .bool _, sV _, iV _]) Zcv Zcu rfl rfl rfl) (W.call (Mp := Ms15) (ZbU hR17 t1 2 Jf Str.nil false ZjA 0 (1 : Int) hg1 (by decide)) rfl pr9 ?_)
 intro v24 G21 Ms23 hG21 q22
 refine match q22 with | ⟨a2, l2, hD2, ⟨cs_a2, e_26, _, _, e_27, hw_a2, hok_a2⟩, hR25⟩ => ?_
 subst e_26
 subst e_27
 have eLA2 := hD2.x ZqS (by decide) ZqW
 have eL2 : l2 = ZcK := eLA2.1
 have eA2 := eLA2.2
 subst eA2
 subst eL2
 have hg2 := hD2.g
 have q28 := hD2.t
 refine match q28 with | ⟨T2, t2⟩ => ?_
 have hm2 : Zh ZcK = [⟨Jf, ZbV⟩] := (hD2.fine (by decide)).2.trans (by rw [hm1]; exact Zq0)
 refine g9 5 ?_
 refine W.ok (Zw (L := [iV _, sV _, sV _, .bool _, sV _, iV _]) Zcv Zcu rfl rfl rfl) (W.call (Mp := Ms23) (ZbU hR25 t2 5 Jf Str.nil false Str.nil 0 (2 : Int) hg2 (by decide)) rfl pr9 ?_)
 intro v32 G29 Ms31 hG29 q30
 refine match q30 with | ⟨a3, l3, hD3, ⟨cs_a3, e_34, _, _, e_35, hw_a3, hok_a3⟩, hR33⟩ => ?_
 subst e_34
 subst e_35
 have hf3 : ¬ a3.err = 4 := fun e => absurd (hD3.full e).2.2.1 (by decide)
 have eL3 : l3 = ZcK := hD3.z (by decide)
 have eA3 : a3 = ⟨0, true, ZbV, []⟩ := (hD3.fine hf3).1.trans (by rw [hm2]; exact Zq1)
 subst eA3
 subst eL3
 have hg3 := hD3.g
 have q36 := hD3.t
 refine match q36 with | ⟨T3, t3⟩ => ?_
 have hm3 := hm2
 refine W.alloc Zah (fun b37 => (g9 6 ?_))
 refine W.ok (Zw (L := [iV _, sV _, sV _, .bool _, sV _, iV _]) Zcv Zcu rfl rfl rfl) (W.call (Mp := Ms31) (ZbU hR33 t3 4 Str.nil Str.nil true Str.nil 0 (3 : Int) hg3 (by decide)) rfl (pmC pr9) ?_)
 intro v41 G38 Ms40 hG38 q39
 refine match q39 with | ⟨a4, l4, hD4, ⟨cs_a4, e_43, _, _, e_44, hw_a4, hok_a4⟩, hR42⟩ => ?_
 subst e_43
 subst e_44
 refine W.perm (pmC pr9).symm ?_
 have eLA4 := hD4.x ZqT (by decide) ZqX
 have eL4 : l4 = ZdO := eLA4.1
 have eA4 := eLA4.2
 subst eA4
 subst eL4
 have hg4 := hD4.g
 have q45 := hD4.t
 refine match q45 with | ⟨T4, t4⟩ => ?_
 have hm4 : Zh ZdO = [] := (hD4.fine (by decide)).2.trans (by rw [hm3]; exact Zq2)
 refine g9 5 ?_
 refine W.ok (Zw (L := [iV _, sV _, sV _, .bool _, sV _, iV _]) Zcv Zcu rfl rfl rfl) (W.call (Mp := Ms40) (ZbU hR42 t4 1 ZcH Str.nil false ZcJ 0 (4 : Int) hg4 (by decide)) rfl (pmC pr9) ?_)
 intro v49 G46 Ms48 hG46 q47
 refine match q47 with | ⟨a5, l5, hD5, ⟨cs_a5, e_51, _, _, e_52, hw_a5, hok_a5⟩, hR50⟩ => ?_
 subst e_51
 subst e_52
 refine W.perm (pmC pr9).symm ?_
 have eLA5 := hD5.x ZqU (by decide) ZqY
 have eL5 : l5 = ZfJ := eLA5.1
 have eA5 := eLA5.2
 subst eA5
 subst eL5
 have hg5 := hD5.g
 have q53 := hD5.t
 refine match q53 with | ⟨T5, t5⟩ => ?_
 have hm5 : Zh ZfJ = [⟨ZcH, ZcJ⟩] := (hD5.fine (by decide)).2.trans (by rw [hm4]; exact Zq3)
 refine g9 21 ?_
 refine W.sd 35 (fun h33 p33 => ?_) (fun h33 p33 => ?_)
 ·try dsimp only at p33
  refine g9 3 ?_
  refine W.call (Mp := Ms48) (Zjt hR50 t5) rfl (pmC pr9) ?_
  intro v57 G54 Ms56 hG54 q55
  refine match q55 with | ⟨hR58, eeq55⟩ => ?_
  have eeq55 := eeq55.symm
  subst eeq55
  refine W.perm (pmC pr9).symm ?_
  have q60 := hR58.form
  refine match q60 with | ⟨sa_58, sc_58, e_59⟩ => ?_
  subst e_59
  refine g9 1 ?_
  refine W.ok (Zw (L := [sV _, sV _]) Ze1 Yp rfl rfl rfl) (g9 1 ?_)
  refine W.lit (e := Zi) (l := [⟨ZcH, ZcJ⟩]) (css := [[sV _, sV _]]) Zy Zz Yp rfl rfl rfl rfl rfl rfl ⟨rfl, trivial⟩ (fun bl61 G61 hG61 hv61 => (g9 1 ?_))
  refine W.qcall ((Zdl (hR58.mono hG61) hv61).mono (fun v _ _ _ hv => hv.trans (gM Value.bool (decide_eq_true hm5)))) rfl (g9 5 ?_)
  refine W.call (Mp := Ms48) (Zq4 (BtR.mono lec hR50) t5 q32) rfl (pmC pr9) ?_
  intro v65 G62 Ms64 hG62 q63
  refine match q63 with | ⟨e_67, hR66⟩ => ?_
  subst e_67
  refine W.perm (pmC pr9).symm (g9 8 ?_)
  rfl
 try dsimp only at p33
 exact absurd rfl p33

theorem Zq6 {G : GH} (gV gT gW gS gU : Int) {v_l : Value} {l : List Act32} (h_l : SlR ZdI G v_l l) : Fc Tryz.prog 5 [.agg #[iV gV, iV gT, iV gW, iV gS, iV gU], v_l] G [] (fun v _ _ => v = .bool true) := ZqP gV gT gW gS gU h_l Zq5
end Go.Proofs.YtbbemibbmbmamaaGreat
