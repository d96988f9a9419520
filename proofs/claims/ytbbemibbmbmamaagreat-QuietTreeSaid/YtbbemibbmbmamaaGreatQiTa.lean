/- Walks of writes at the root. -/
import Derived.Test.YtbbemibbmbmamaaGreatQiUd
set_option maxRecDepth 100000
set_option maxHeartbeats 1600000
set_option linter.unusedVariables false
set_option linter.unusedSimpArgs false
set_option linter.unnecessarySimpa false
namespace Go.Proofs.YtbbemibbmbmamaaGreat
open Go Go.Fw Go.RowKit
attribute [local irreducible] Ok W WC
theorem ZsV {G : GH} {b_s : Nat} {c c2 : Cfg} {l : List Nd} {ss : List Seat} {Ms_s : MH} (h_s : StR 60 4 3 189 139 b_s c G l Ms_s) (t : Tree c2 l ss) (pk : Int) (pkey : Str) (phi : Str) (po : Bool) (pv : Str) (pl : Int) (hc9 : c = c2) (hR : Opr.R (⟨pk, pkey, phi, po, pv, pl⟩ : Opr)) (hk4 : pk ≤ 4) (hsn : 0 ≤ (Za l 0).seen ∧ (Za l 0).seen ≤ 1000000000000) :
    Fc Tryz.prog 148 [pt9 b_s, .agg #[iV pk, sV pkey.b, sV phi.b, .bool po, sV pv.b, iV pl]] G Ms_s (fun v G' M' => (∃ cs, v = .tuple #[.agg (List.toArray cs), iV (Zy c l (⟨pk, pkey, phi, po, pv, pl⟩ : Opr)).2.1] ∧ NodeC G' cs (XY c l (⟨pk, pkey, phi, po, pv, pl⟩ : Opr))) ∧ M' = Ms_s) := by
 subst hc9
 have hp9 := t.pos
 have hs1 : 1 ≤ (Za l 0).seen + 1 := by omega
 have hs2 : i64 ((Za l 0).seen + 1) := ⟨om9, om9⟩
 have hmR : Msg.R ((⟨pk, pkey, phi, po, pv, pl⟩ : Opr).msg ((Za l 0).seen + 1)) := Zge hR hk4 hs1
 have hrs : (Za l 0).R c.fan c.leaf c.bud := by have h9 := (t.seat t.root).1; rwa [t.rootn] at h9
 obtain ⟨hli1, hli2⟩ := t.cfg.2.1
 have hli : i64 c.leaf := ⟨om9, om9⟩
 have hbu := t.cfg.2.2.1
 have hbn : 0 ≤ c.bud ∧ c.bud ≤ 9223372036854775807 := by omega
 have hPr : PairsR (Za l 0).rows := by have h9 := t.rows t.root; rwa [t.rootn] at h9
 have hNd := Zbm t.cfg hrs
 have hrl := hNd.2.2.2.1
 have hml : (Za l 0).msgs.length ≤ 1000000 := by have := hNd.2.2.1; omega
 have hmi1 : i64 ((Za l 0).seen + 1) := hs2
 have hmi2 : i64 pk := ⟨by have := hR.1.1; dsimp only at this; omega, om9⟩
 have hms9 : ∀ m ∈ (Za l 0).msgs, m.key.b.size ≤ 16 ∧ m.val.b.size ≤ 16 := fun m hm => Y1 ((t.msgs t.root).2.1 m (by rw [t.rootn]; exact hm))
 refine Fc.go [.cell 4 60, .tmp 5] Tryz.func148 Tryz.ntmps148 rfl (fun w0 => (WC.perm (M' := (Ms_s ++ [])) (by simp) (g9 2 ?_)))
 refine W.box (L := [iV _, sV _, sV _, .bool _, sV _, iV _]) rfl rfl (fun b1 => (W.alloc Zm (fun b2 => (g9 6 ?_))))
 refine W.call (Mp := Ms_s) (Zaq h_s 0) rfl (pmC (pmC pr9)) ?_
 intro v6 G3 Ms5 hG3 q4
 refine match q4 with | ⟨⟨_, e_8, ⟨_, _, _, _, _, _, _, _, e_9, hp_hR7, hk_hR7, hm_hR7, hr_hR7, hok_hR7⟩⟩, eeq4⟩ => ?_
 subst e_8
 subst e_9
 have eeq4 := eeq4.symm
 subst eeq4
 refine W.perm (pmC (pmC pr9)).symm (g9 3 ?_)
 refine W.alloc Zm (fun b10 => (g9 11 ?_))
 refine WC.cn (fun h15 p15 => ?_) (fun h15 p15 => ?_)
 ·try dsimp only at p15
  exact absurd h15 (by simp; omega)
 try dsimp only at p15
 refine g9 8 ?_
 refine W.qcall (ZtF pk pkey phi po pv pl ((Za l 0).seen + 1) hR hk4 hs1) rfl (g9 3 ?_)
 refine W.alloc Z1 (fun b11 => (g9 22 ?_))
 refine WC.cd (fun h30 p30 => ?_) (fun h30 p30 => ?_)
 ·try dsimp only at p30
  refine WC.dw (((sn9.k9.k9).cons _).k9) (d9 [0, 2, 3] ?_)
  refine WD.any [1, 4] (by kernel_rfl) rfl ⟨WD.ap ?_, WD.ap ?_, trivial⟩
  ·refine g9 1 ?_
   refine W.nn (WD.a1 4 rfl (W.call (Mp := Ms_s) (JU (StR.mono hG3 h_s)) rfl (pmC (pmC (pmC (pmC pr9)))) ?_))
   intro v15 G12 Ms14 hG12 q13
   refine match q13 with | ⟨e_17, eeq13⟩ => ?_
   subst e_17
   have eeq13 := eeq13.symm
   subst eeq13
   refine W.perm (pmC (pmC (pmC (pmC pr9)))).symm (W.nn (WD.tk 5 rfl (ZeB (L := [iV _, iV _, iV _, iV _, iV _]) (vs := ic9) Zk4 rfl rfl rfl) (WD.a1 6 rfl (W.call (Mp := []) (ZgO (hr_hR7.mono hG12) (((⟨pk, pkey, phi, po, pv, pl⟩ : Opr).msg ((Za l 0).seen + 1))).stamp (((⟨pk, pkey, phi, po, pv, pl⟩ : Opr).msg ((Za l 0).seen + 1))).kind (((⟨pk, pkey, phi, po, pv, pl⟩ : Opr).msg ((Za l 0).seen + 1))).key (((⟨pk, pkey, phi, po, pv, pl⟩ : Opr).msg ((Za l 0).seen + 1))).hi (((⟨pk, pkey, phi, po, pv, pl⟩ : Opr).msg ((Za l 0).seen + 1))).opn (((⟨pk, pkey, phi, po, pv, pl⟩ : Opr).msg ((Za l 0).seen + 1))).val c.leaf hPr om9 (hR.fit _)) rfl pr9 ?_))))
   intro _ G18 _ hG18 q20
   refine match q20 with | ⟨e_21, _, e_22, _, e_23, hv19⟩ => ?_
   subst e_21
   subst e_22
   subst e_23
   have q25 := hv19.form
   refine match q25 with | ⟨sa_hv19, sc_hv19, e_24⟩ => ?_
   subst e_24
   refine W.nn (d9 [7, 8, 9, 10, 11, 12] ?_)
   refine g9 9 ?_
   refine WC.cond rfl (fun h54 => ?_) (fun h54 => ?_)
   ·refine g9 9 ?_
    refine ⟨.inr rfl, [_, _], ⟨⟨_, _, _, _, _, rfl, YI (i := 2) rfl, Yd, (by simp), rfl, rfl⟩, rfl, trivial⟩, Ms_s, ((((List.sublist_append_left _ _).cons _).cons _).cons _).cons _, ?_⟩
    have hb9 : Yj (Za l 0).rows ((⟨pk, pkey, phi, po, pv, pl⟩ : Opr).msg ((Za l 0).seen + 1)) c.leaf = false := by rw [← Zd9]; simpa using h54
    have hE := Zbp (c := c) (o := (⟨pk, pkey, phi, po, pv, pl⟩ : Opr)) p30 hb9
    have hE2 : (Zy c l (⟨pk, pkey, phi, po, pv, pl⟩ : Opr)).2.1 = 4 := by rw [hE]
    rw [Zkq p30 om9, hE2]
    exact ⟨⟨_, rfl, _, _, _, _, _, _, _, _, rfl, (hp_hR7.mono lec), (hk_hR7.mono lec), (hm_hR7.mono lec), hv19, hok_hR7⟩, rfl⟩
   refine g9 18 ?_
   refine ⟨.inr rfl, [_, _], ⟨⟨_, _, _, _, _, rfl, YI (i := 2) rfl, Yd, (by simp), rfl, rfl⟩, rfl, trivial⟩, Ms_s, ((((List.sublist_append_left _ _).cons _).cons _).cons _).cons _, ?_⟩
   have hb9 : Yj (Za l 0).rows ((⟨pk, pkey, phi, po, pv, pl⟩ : Opr).msg ((Za l 0).seen + 1)) c.leaf = true := by rw [← Zd9]; simpa using h54
   have hE := Zb2 (c := c) (o := (⟨pk, pkey, phi, po, pv, pl⟩ : Opr)) p30 hb9
   have hE2 : (Zy c l (⟨pk, pkey, phi, po, pv, pl⟩ : Opr)).2.1 = 0 := by rw [hE]
   rw [Zgn p30 (by exact hE2), hE2]
   exact ⟨⟨_, rfl, _, _, _, _, _, _, _, _, rfl, (hp_hR7.mono lec), (hk_hR7.mono lec), (hm_hR7.mono lec), hv19, ⟨hok_hR7.1, hok_hR7.2.1, hok_hR7.2.2.1, hs2⟩⟩, rfl⟩
  refine W.call (Mp := Ms_s) (JU (StR.mono hG3 h_s)) rfl (pmC (pmC (pmC (pmC pr9)))) ?_
  intro v29 G26 Ms28 hG26 q27
  refine match q27 with | ⟨e_31, eeq27⟩ => ?_
  subst e_31
  have eeq27 := eeq27.symm
  subst eeq27
  refine W.perm (pmC (pmC (pmC (pmC pr9)))).symm (W.nn (WD.tk 5 rfl (ZeB (L := [iV _, iV _, iV _, iV _, iV _]) (vs := ic9) Zk4 rfl rfl rfl) (WD.a1 1 rfl (g9 1 ?_))))
  refine W.nn (WD.a1 6 rfl (W.call (Mp := []) (ZgO (hr_hR7.mono hG26) (((⟨pk, pkey, phi, po, pv, pl⟩ : Opr).msg ((Za l 0).seen + 1))).stamp (((⟨pk, pkey, phi, po, pv, pl⟩ : Opr).msg ((Za l 0).seen + 1))).kind (((⟨pk, pkey, phi, po, pv, pl⟩ : Opr).msg ((Za l 0).seen + 1))).key (((⟨pk, pkey, phi, po, pv, pl⟩ : Opr).msg ((Za l 0).seen + 1))).hi (((⟨pk, pkey, phi, po, pv, pl⟩ : Opr).msg ((Za l 0).seen + 1))).opn (((⟨pk, pkey, phi, po, pv, pl⟩ : Opr).msg ((Za l 0).seen + 1))).val c.leaf hPr om9 (hR.fit _)) rfl pr9 ?_))
  intro _ G32 _ hG32 q34
  refine match q34 with | ⟨e_35, _, e_36, _, e_37, hv33⟩ => ?_
  subst e_35
  subst e_36
  subst e_37
  have q39 := hv33.form
  refine match q39 with | ⟨sa_hv33, sc_hv33, e_38⟩ => ?_
  subst e_38
  refine W.nn (d9 [7, 8, 9, 10, 11, 12] ?_)
  refine g9 9 ?_
  refine WC.cond rfl (fun h54 => ?_) (fun h54 => ?_)
  ·refine g9 9 ?_
   refine ⟨.inr rfl, [_, _], ⟨⟨_, _, _, _, _, rfl, YI (i := 2) rfl, Yd, (by simp), rfl, rfl⟩, rfl, trivial⟩, Ms_s, ((((List.sublist_append_left _ _).cons _).cons _).cons _).cons _, ?_⟩
   have hb9 : Yj (Za l 0).rows ((⟨pk, pkey, phi, po, pv, pl⟩ : Opr).msg ((Za l 0).seen + 1)) c.leaf = false := by rw [← Zd9]; simpa using h54
   have hE := Zbp (c := c) (o := (⟨pk, pkey, phi, po, pv, pl⟩ : Opr)) p30 hb9
   have hE2 : (Zy c l (⟨pk, pkey, phi, po, pv, pl⟩ : Opr)).2.1 = 4 := by rw [hE]
   rw [Zkq p30 om9, hE2]
   exact ⟨⟨_, rfl, _, _, _, _, _, _, _, _, rfl, (hp_hR7.mono lec), (hk_hR7.mono lec), (hm_hR7.mono lec), hv33, hok_hR7⟩, rfl⟩
  refine g9 18 ?_
  refine ⟨.inr rfl, [_, _], ⟨⟨_, _, _, _, _, rfl, YI (i := 2) rfl, Yd, (by simp), rfl, rfl⟩, rfl, trivial⟩, Ms_s, ((((List.sublist_append_left _ _).cons _).cons _).cons _).cons _, ?_⟩
  have hb9 : Yj (Za l 0).rows ((⟨pk, pkey, phi, po, pv, pl⟩ : Opr).msg ((Za l 0).seen + 1)) c.leaf = true := by rw [← Zd9]; simpa using h54
  have hE := Zb2 (c := c) (o := (⟨pk, pkey, phi, po, pv, pl⟩ : Opr)) p30 hb9
  have hE2 : (Zy c l (⟨pk, pkey, phi, po, pv, pl⟩ : Opr)).2.1 = 0 := by rw [hE]
  rw [Zgn p30 (by exact hE2), hE2]
  exact ⟨⟨_, rfl, _, _, _, _, _, _, _, _, rfl, (hp_hR7.mono lec), (hk_hR7.mono lec), (hm_hR7.mono lec), hv33, ⟨hok_hR7.1, hok_hR7.2.1, hok_hR7.2.2.1, hs2⟩⟩, rfl⟩
 try dsimp only at p30
 refine WC.dw (((sn9.k9.k9).cons _).k9) (d9 [0, 2, 3] ?_)
 refine WD.any [1, 4] (by kernel_rfl) rfl ⟨WD.ap ?_, WD.ap ?_, trivial⟩
 ·refine g9 1 ?_
  refine W.nn (WD.a1 4 rfl (W.call (Mp := Ms_s) (JU (StR.mono hG3 h_s)) rfl (pmC (pmC (pmC (pmC pr9)))) ?_))
  intro v43 G40 Ms42 hG40 q41
  refine match q41 with | ⟨e_45, eeq41⟩ => ?_
  subst e_45
  have eeq41 := eeq41.symm
  subst eeq41
  refine W.perm (pmC (pmC (pmC (pmC pr9)))).symm (W.nn (WD.tk 5 rfl (ZeB (L := [iV _, iV _, iV _, iV _, iV _]) (vs := ic9) Zk5 rfl rfl rfl) (WD.a1 6 rfl (W.call (Mp := []) (ZgK (hm_hR7.mono hG40) (((⟨pk, pkey, phi, po, pv, pl⟩ : Opr).msg ((Za l 0).seen + 1))).stamp (((⟨pk, pkey, phi, po, pv, pl⟩ : Opr).msg ((Za l 0).seen + 1))).kind (((⟨pk, pkey, phi, po, pv, pl⟩ : Opr).msg ((Za l 0).seen + 1))).key (((⟨pk, pkey, phi, po, pv, pl⟩ : Opr).msg ((Za l 0).seen + 1))).hi (((⟨pk, pkey, phi, po, pv, pl⟩ : Opr).msg ((Za l 0).seen + 1))).opn (((⟨pk, pkey, phi, po, pv, pl⟩ : Opr).msg ((Za l 0).seen + 1))).val c.bud hms9 hbn ⟨hmi1, hmi2⟩ hml) rfl pr9 ?_))))
  intro _ G46 _ hG46 q48
  refine match q48 with | ⟨e_49, _, e_50, _, e_51, hv47⟩ => ?_
  subst e_49
  subst e_50
  subst e_51
  have q53 := hv47.form
  refine match q53 with | ⟨sa_hv47, sc_hv47, e_52⟩ => ?_
  subst e_52
  refine W.nn (d9 [7, 8, 9, 10, 11, 12] ?_)
  refine g9 9 ?_
  refine WC.cond rfl (fun h54 => ?_) (fun h54 => ?_)
  ·refine g9 9 ?_
   refine ⟨.inr rfl, [_, _], ⟨⟨_, _, _, _, _, rfl, YI (i := 2) rfl, Yd, (by simp), rfl, rfl⟩, rfl, trivial⟩, Ms_s, ((((List.sublist_append_left _ _).cons _).cons _).cons _).cons _, ?_⟩
   have hb9 : Yo c.bud (Za l 0).msgs ((⟨pk, pkey, phi, po, pv, pl⟩ : Opr).msg ((Za l 0).seen + 1)) = false := by rw [← Zec]; simpa using h54
   have hE := Zbq (c := c) (o := (⟨pk, pkey, phi, po, pv, pl⟩ : Opr)) p30 hb9
   have hE2 : (Zy c l (⟨pk, pkey, phi, po, pv, pl⟩ : Opr)).2.1 = 4 := by rw [hE]
   rw [Zkr p30 om9, hE2]
   exact ⟨⟨_, rfl, _, _, _, _, _, _, _, _, rfl, (hp_hR7.mono lec), (hk_hR7.mono lec), hv47, (hr_hR7.mono lec), hok_hR7⟩, rfl⟩
  refine g9 18 ?_
  refine ⟨.inr rfl, [_, _], ⟨⟨_, _, _, _, _, rfl, YI (i := 2) rfl, Yd, (by simp), rfl, rfl⟩, rfl, trivial⟩, Ms_s, ((((List.sublist_append_left _ _).cons _).cons _).cons _).cons _, ?_⟩
  have hb9 : Yo c.bud (Za l 0).msgs ((⟨pk, pkey, phi, po, pv, pl⟩ : Opr).msg ((Za l 0).seen + 1)) = true := by rw [← Zec]; simpa using h54
  have hE := Zb3 (c := c) (o := (⟨pk, pkey, phi, po, pv, pl⟩ : Opr)) p30 hb9
  have hE2 : (Zy c l (⟨pk, pkey, phi, po, pv, pl⟩ : Opr)).2.1 = 0 := by rw [hE]
  rw [Zgo p30 (by exact hE2), hE2]
  exact ⟨⟨_, rfl, _, _, _, _, _, _, _, _, rfl, (hp_hR7.mono lec), (hk_hR7.mono lec), hv47, (hr_hR7.mono lec), ⟨hok_hR7.1, hok_hR7.2.1, hok_hR7.2.2.1, hs2⟩⟩, rfl⟩
 refine W.call (Mp := Ms_s) (JU (StR.mono hG3 h_s)) rfl (pmC (pmC (pmC (pmC pr9)))) ?_
 intro v57 G54 Ms56 hG54 q55
 refine match q55 with | ⟨e_59, eeq55⟩ => ?_
 subst e_59
 have eeq55 := eeq55.symm
 subst eeq55
 refine W.perm (pmC (pmC (pmC (pmC pr9)))).symm (W.nn (WD.tk 5 rfl (ZeB (L := [iV _, iV _, iV _, iV _, iV _]) (vs := ic9) Zk5 rfl rfl rfl) (WD.a1 1 rfl (g9 1 ?_))))
 refine W.nn (WD.a1 6 rfl (W.call (Mp := []) (ZgK (hm_hR7.mono hG54) (((⟨pk, pkey, phi, po, pv, pl⟩ : Opr).msg ((Za l 0).seen + 1))).stamp (((⟨pk, pkey, phi, po, pv, pl⟩ : Opr).msg ((Za l 0).seen + 1))).kind (((⟨pk, pkey, phi, po, pv, pl⟩ : Opr).msg ((Za l 0).seen + 1))).key (((⟨pk, pkey, phi, po, pv, pl⟩ : Opr).msg ((Za l 0).seen + 1))).hi (((⟨pk, pkey, phi, po, pv, pl⟩ : Opr).msg ((Za l 0).seen + 1))).opn (((⟨pk, pkey, phi, po, pv, pl⟩ : Opr).msg ((Za l 0).seen + 1))).val c.bud hms9 hbn ⟨hmi1, hmi2⟩ hml) rfl pr9 ?_))
 intro _ G60 _ hG60 q62
 refine match q62 with | ⟨e_63, _, e_64, _, e_65, hv61⟩ => ?_
 subst e_63
 subst e_64
 subst e_65
 have q67 := hv61.form
 refine match q67 with | ⟨sa_hv61, sc_hv61, e_66⟩ => ?_
 subst e_66
 refine W.nn (d9 [7, 8, 9, 10, 11, 12] ?_)
 refine g9 9 ?_
 refine WC.cond rfl (fun h54 => ?_) (fun h54 => ?_)
 ·refine g9 9 ?_
  refine ⟨.inr rfl, [_, _], ⟨⟨_, _, _, _, _, rfl, YI (i := 2) rfl, Yd, (by simp), rfl, rfl⟩, rfl, trivial⟩, Ms_s, ((((List.sublist_append_left _ _).cons _).cons _).cons _).cons _, ?_⟩
  have hb9 : Yo c.bud (Za l 0).msgs ((⟨pk, pkey, phi, po, pv, pl⟩ : Opr).msg ((Za l 0).seen + 1)) = false := by rw [← Zec]; simpa using h54
  have hE := Zbq (c := c) (o := (⟨pk, pkey, phi, po, pv, pl⟩ : Opr)) p30 hb9
  have hE2 : (Zy c l (⟨pk, pkey, phi, po, pv, pl⟩ : Opr)).2.1 = 4 := by rw [hE]
  rw [Zkr p30 om9, hE2]
  exact ⟨⟨_, rfl, _, _, _, _, _, _, _, _, rfl, (hp_hR7.mono lec), (hk_hR7.mono lec), hv61, (hr_hR7.mono lec), hok_hR7⟩, rfl⟩
 refine g9 18 ?_
 refine ⟨.inr rfl, [_, _], ⟨⟨_, _, _, _, _, rfl, YI (i := 2) rfl, Yd, (by simp), rfl, rfl⟩, rfl, trivial⟩, Ms_s, ((((List.sublist_append_left _ _).cons _).cons _).cons _).cons _, ?_⟩
 have hb9 : Yo c.bud (Za l 0).msgs ((⟨pk, pkey, phi, po, pv, pl⟩ : Opr).msg ((Za l 0).seen + 1)) = true := by rw [← Zec]; simpa using h54
 have hE := Zb3 (c := c) (o := (⟨pk, pkey, phi, po, pv, pl⟩ : Opr)) p30 hb9
 have hE2 : (Zy c l (⟨pk, pkey, phi, po, pv, pl⟩ : Opr)).2.1 = 0 := by rw [hE]
 rw [Zgo p30 (by exact hE2), hE2]
 exact ⟨⟨_, rfl, _, _, _, _, _, _, _, _, rfl, (hp_hR7.mono lec), (hk_hR7.mono lec), hv61, (hr_hR7.mono lec), ⟨hok_hR7.1, hok_hR7.2.1, hok_hR7.2.2.1, hs2⟩⟩, rfl⟩

theorem ZsW {G : GH} {b_s : Nat} {c c2 : Cfg} {l : List Nd} {ss : List Seat} {Ms_s : MH} (h_s : StR 60 4 3 189 139 b_s c G l Ms_s) (t : Tree c2 l ss) (pk : Int) (pkey : Str) (phi : Str) (po : Bool) (pv : Str) (pl : Int) (hc9 : c = c2) (hR : Opr.R (⟨pk, pkey, phi, po, pv, pl⟩ : Opr)) (hk4 : pk ≤ 4) (hsn : 0 ≤ (Za l 0).seen ∧ (Za l 0).seen ≤ 1000000000000) :
    Fc Tryz.prog 104 [pt9 b_s, .agg #[iV pk, sV pkey.b, sV phi.b, .bool po, sV pv.b, iV pl]] G Ms_s (fun v G' M' => v = .tuple #[iV (Zy c l (⟨pk, pkey, phi, po, pv, pl⟩ : Opr)).1, iV (Zy c l (⟨pk, pkey, phi, po, pv, pl⟩ : Opr)).2.1] ∧ StR 60 4 3 189 139 b_s c G' (Zy c l (⟨pk, pkey, phi, po, pv, pl⟩ : Opr)).2.2 M') := by
 subst hc9
 have hc9 : c = c := rfl
 have hp9 := t.pos
 have hsl0 := (Yv t.slot (i := 0) ⟨Int.le_refl _, om9⟩).1
 refine Fc.go [.tmp 4, .tmp 5] Tryz.func104 Tryz.ntmps104 rfl (fun w0 => (WC.perm (M' := (Ms_s ++ [])) (by simp) (g9 2 ?_)))
 refine W.box (L := [iV _, sV _, sV _, .bool _, sV _, iV _]) rfl rfl (fun b68 => (g9 8 ?_))
 refine W.call (Mp := Ms_s) (ZsV h_s t pk pkey phi po pv pl hc9 hR hk4 hsn) rfl (pmC pr9) ?_
 intro v72 G69 Ms71 hG69 q70
 refine match q70 with | ⟨⟨_, e_74, ⟨_, _, _, _, _, _, _, _, e_75, hp_hR73, hk_hR73, hm_hR73, hr_hR73, hok_hR73⟩⟩, eeq70⟩ => ?_
 subst e_74
 subst e_75
 have eeq70 := eeq70.symm
 subst eeq70
 refine W.perm (pmC pr9).symm (g9 3 ?_)
 refine W.alloc Zm (fun b76 => (g9 11 ?_))
 refine WC.cn (fun h15 p15 => ?_) (fun h15 p15 => ?_)
 ·try dsimp only at p15
  refine g9 9 ?_
  refine ⟨.inr rfl, [_, _], ⟨rfl, rfl, trivial⟩, Ms_s, ((List.sublist_append_left _ _).cons _).cons _, ?_⟩
  have hE := Zgg (c := c) (l := l) (o := (⟨pk, pkey, phi, po, pv, pl⟩ : Opr)) p15
  exact ⟨congrArg (fun q : Int => Value.tuple #[iV q, iV (Zy c l (⟨pk, pkey, phi, po, pv, pl⟩ : Opr)).2.1]) (show (0 : Int) = (Zy c l (⟨pk, pkey, phi, po, pv, pl⟩ : Opr)).1 by rw [hE]), StR.to (StR.mono hG69 h_s) (by rw [hE])⟩
 try dsimp only at p15
 refine g9 3 ?_
 refine WC.dw (sn9.k9.k9) (d9 [0, 1, 2, 3] ?_)
 refine WD.a1 4 rfl (W.call (Mp := Ms_s) (YA (StR.mono hG69 h_s) (by rw [Zks, hsl0]; omega) (nk9 hp_hR73 hk_hR73 hm_hR73 hr_hR73 hok_hR73)) rfl (pmC (pmC pr9)) ?_)
 intro v80 G77 Ms79 hG77 q78
 refine match q78 with | ⟨e_82, hR81⟩ => ?_
 subst e_82
 refine W.perm (pmC (pmC pr9)).symm (W.nn (d9 [5, 6] ?_))
 refine g9 3 ?_
 refine ⟨.inr rfl, [_, _], ⟨rfl, rfl, trivial⟩, Ms79, ((List.sublist_append_left _ _).cons _).cons _, ?_⟩
 have hE : (Zy c l (⟨pk, pkey, phi, po, pv, pl⟩ : Opr)).2.1 = 0 := by omega
 exact ⟨(congrArg (fun q : Int => Value.tuple #[iV q, iV 0]) (ZqI hE)).trans (congrArg (fun q : Int => Value.tuple #[iV (Zy c l (⟨pk, pkey, phi, po, pv, pl⟩ : Opr)).1, iV q]) hE.symm), StR.to hR81 (ZqJ t hE)⟩

theorem ZsX {G : GH} (slo : Str) (shi : Str) (so : Bool) {v_ls : Value} {ls : List (List Msg)} (h_ls : SlR (eSl Zu) G v_ls ls) (ht : YW ls ≤ 100000000) (hln : ls.length ≤ 100000) (hks : ∀ i (h : i < ls.length), ∀ m ∈ ls[i], m.key.b.size < 140737488355328) :
    Fc Tryz.prog 144 [.agg #[sV slo.b, sV shi.b, .bool so], v_ls] G [] (fun v G' M' => M' = [] ∧ ∃ u0, v = u0 ∧ SlR Zu G' u0 (ZO (ls.map (Zc ⟨slo, shi, so⟩)))) := by
 obtain ⟨sa_ls, sc_ls, rfl⟩ := h_ls.form
 have hl := h_ls.len47
 have htm := Zii (f := (Zc ⟨slo, shi, so⟩)) (fun l => Za7) ls
 refine Fc.go [.tmp 4] Tryz.func144 Tryz.ntmps144 rfl (fun w0 => (g9 2 ?_))
 refine W.box (L := [sV _, sV _, .bool _]) rfl rfl (fun b1 => (g9 17 ?_))
 refine WC.loop (X := (Nat) × Value × MH) (fun k => [(10, nt9 k.1), (2, pt9 b1), (8, lV sa_ls ls.length sc_ls), (9, nt9 ((ls).length)), (5, k.2.1)]) (fun k G Ml => Ml = ((b1, ce9 62 [sV slo.b, sV shi.b, .bool so]) :: (k.2.2 ++ [])) ∧ OwnR (eSl Zu) 58 G k.2.1 ((ls.take k.1).map (Zc ⟨slo, shi, so⟩)) k.2.2 ∧ k.1 ≤ ls.length) (fun k => ls.length - k.1) (0, lV none 0 0, ([] : MH)) hs9 ?_ ?_
 ·exact ⟨rfl, (by simpa using OwnR.nil), om9⟩
 rintro ⟨k, v_5, M_5⟩ gG2 G2 _ hG2 ⟨rfl, ho_5, hk⟩
 try dsimp only at ho_5 hk
 refine WC.fr (f := ZX gG2 [(10, nt9 k), (2, pt9 b1), (8, lV sa_ls ls.length sc_ls), (9, nt9 ((ls).length)), (5, v_5)]) rfl (g9 6 ?_)
 refine WC.cd (fun h11 p11 => ?_) (fun h11 p11 => ?_)
 ·refine g9 6 ?_
  have q6 := (h_ls.mono hG2).at (i := k) om9
  refine match q6 with | ⟨_, he3, ⟨_, e_5, hs4⟩⟩ => ?_
  subst e_5
  obtain ⟨sa_hs4, sc_hs4, rfl⟩ := hs4.form
  refine g9 9 ?_
  refine W.cS (Zer hs4 slo shi so (hks k om9)) rfl (fun sa_hv8 sc_hv8 G7 hG7 hv8 => (W.lit (e := (eSl Zu)) (l := [Zc ⟨slo, shi, so⟩ (ls[k])]) (css := [[lV _ _ _]]) Zb7 Zb6 Zeh rfl rfl rfl rfl rfl rfl ⟨⟨_, rfl, hv8⟩, trivial⟩ (fun bl14 G14 hG14 hv14 => (W.app (e := (eSl Zu)) Zb7 Zb6 Zeh rfl ZkZ rfl rfl ((ho_5.mono lec)) (hv14) (pmC pr9) (by show (List.length _ + 1) * 24 ≤ _; rw [List.length_map, List.length_take]; omega) (fun v15 Ms16 ho17 => (W.perm (pmC pr9).symm (g9 9 ?_)))))))
  exact ⟨lec, (k + 1, v15, Ms16), hs9, ⟨rfl, (by have h := ho17; rw [List.take_succ_eq_append_getElem om9, List.map_append]; exact h), om9⟩, om9⟩
 refine g9 8 ?_
 refine W.giveO ho_5 (pmC pr9) (fun G18 hG18 hv18 => ?_)
 have hc19 := SlR.cast hv18 (l' := ls.map (Zc ⟨slo, shi, so⟩)) (by rw [List.take_of_length_le om9])
 have q21 := hc19.form
 refine match q21 with | ⟨_, _, e_20⟩ => ?_
 subst e_20
 refine W.cS (ZtG hc19 om9 (by rw [List.length_map]; omega)) rfl (fun sa_hv23 sc_hv23 G22 hG22 hv23 => (g9 5 ?_))
 refine ⟨rfl, _, rfl, ?_⟩
 · exact hv23

theorem ZgI {G : GH} {b_s : Nat} {c c2 : Cfg} {l : List Nd} {ss : List Seat} {Ms_s : MH} (h_s : StR 60 4 3 189 139 b_s c G l Ms_s) (t : Tree c2 l ss) (k : Str) :
    Fc Tryz.prog 96 [pt9 b_s, sV k.b] G Ms_s (fun v G' M' => M' = Ms_s ∧ ∃ u0, v = .tuple #[.agg (List.toArray u0), .agg (List.toArray ((Zn l k).s.cells)), .bool (true)] ∧ NodeC G' u0 ((Zn l k).n)) := by
 have hwp := t.way_pos k
 have hwl := t.way_len k
 have hwn : ((ZB l k).map fun y : Seat => y.n).length = (ZB l k).length := List.length_map ..
 have hws : ((ZB l k).map fun y : Seat => y.s).length = (ZB l k).length := List.length_map ..
 refine Fc.go [.cell 4 60, .cell 5 62, .tmp 6] Tryz.func96 Tryz.ntmps96 rfl (fun w0 => (WC.perm (M' := (Ms_s ++ [])) (by simp) (g9 2 ?_)))
 refine W.alloc Zm (fun b24 => (W.alloc ZU (fun b25 => (g9 7 ?_))))
 refine W.call (Mp := Ms_s) (Zlq h_s t _) rfl (pmC (pmC pr9)) ?_
 intro v31 G28 Ms30 hG28 q29
 refine match q29 with | ⟨eeq29, _, _, e_33, hv26, hv27⟩ => ?_
 subst e_33
 have eeq29 := eeq29.symm
 subst eeq29
 refine W.perm (pmC (pmC pr9)).symm ?_
 have q35 := hv26.form
 refine match q35 with | ⟨sa_hv26, sc_hv26, e_34⟩ => ?_
 subst e_34
 have q37 := hv27.form
 refine match q37 with | ⟨sa_hv27, sc_hv27, e_36⟩ => ?_
 subst e_36
 refine g9 15 ?_
 refine WC.cd (fun h17 p17 => ?_) (fun h17 p17 => ?_)
 ·exfalso; omega
 refine g9 3 ?_
 refine WC.dw ((sr9.cons _).cons _) (d9 [0, 1, 2, 3] ?_)
 refine hv26.aN (i := ((ZB l k).length - 1)) om9 (fun _ _ _ _ _ _ _ _ he38 hp_n39 hk_n39 hm_n39 hr_n39 hok_n39 => (WD.tk 4 rfl (Yu (i := ((ZB l k).length - 1)) Xm Yd hv26 rfl rfl ⟨om9, om9⟩) (d9 [5, 6, 7, 8, 9] ?_)))
 refine hv27.a1 (i := ((ZB l k).length - 1)) om9 (fun he42 => (WD.tk 10 rfl (Yu (i := ((ZB l k).length - 1)) Je Yt hv27 rfl rfl ⟨om9, om9⟩) (d9 [11, 12, 13, 14] ?_)))
 refine g9 3 ?_
 refine ⟨.inr rfl, [_, _, _], ⟨⟨_, _, _, _, _, rfl, YI (i := 1) rfl, Yd, (by simp), rfl, rfl⟩, ⟨_, _, _, _, _, rfl, YI (i := 0) rfl, Yt, (by simp), rfl, rfl⟩, rfl, trivial⟩, Ms_s, ((List.sublist_append_left _ _).cons _).cons _, ?_⟩
 exact ⟨rfl, _, congrArg (fun s : Span => Value.tuple #[.agg (List.toArray _), .agg (List.toArray s.cells), .bool true]) (t.last_s k om9 om9), NodeC.of (nk9 hp_n39 hk_n39 hm_n39 hr_n39 hok_n39) (t.last_n k om9 om9)⟩

theorem Zlh {G : GH} {b_s : Nat} {c c2 : Cfg} {l : List Nd} {ss : List Seat} {Ms_s : MH} (h_s : StR 60 4 3 189 139 b_s c G l Ms_s) (t : Tree c2 l ss) (k : Str) :
    Fc Tryz.prog 98 [pt9 b_s, sV k.b] G Ms_s (fun v G' M' => M' = Ms_s ∧ ∃ u0, v = u0 ∧ SlR Zu G' u0 ((Zn l k).ms)) := by
 have hwp := t.way_pos k
 have hwl := t.way_len k
 have hwn : ((ZB l k).map fun y : Seat => y.n).length = (ZB l k).length := List.length_map ..
 have hws : ((ZB l k).map fun y : Seat => y.s).length = (ZB l k).length := List.length_map ..
 have hmt := t.path_tot k
 refine Fc.go [.tmp 4] Tryz.func98 Tryz.ntmps98 rfl (fun w0 => (WC.perm (M' := (Ms_s ++ [])) (by simp) (g9 9 ?_)))
 refine W.call (Mp := Ms_s) (Zlq h_s t _) rfl pr9 ?_
 intro v51 G48 Ms50 hG48 q49
 refine match q49 with | ⟨eeq49, _, _, e_53, hv46, hv47⟩ => ?_
 subst e_53
 have eeq49 := eeq49.symm
 subst eeq49
 have q55 := hv46.form
 refine match q55 with | ⟨sa_hv46, sc_hv46, e_54⟩ => ?_
 subst e_54
 have q57 := hv47.form
 refine match q57 with | ⟨sa_hv47, sc_hv47, e_56⟩ => ?_
 subst e_56
 refine g9 21 ?_
 refine WC.loop (X := (Nat) × Value × MH) (fun i => [(18, nt9 i.1), (5, lV sa_hv46 (((ZB (l) (k)).map fun y : Seat => y.n)).length sc_hv46), (6, lV sa_hv47 (((ZB (l) (k)).map fun y : Seat => y.s)).length sc_hv47), (16, lV sa_hv46 (((ZB (l) (k)).map fun y : Seat => y.n)).length sc_hv46), (17, nt9 ((((ZB (l) (k)).map fun y : Seat => y.n)).length)), (7, i.2.1)]) (fun i G Ml => Ml = (i.2.2 ++ (Ms_s ++ [])) ∧ OwnR (eSl Zu) 58 G i.2.1 ((((ZB l k).map fun y : Seat => y.n).map fun n : Nd => n.msgs).take i.1) i.2.2 ∧ i.1 ≤ (ZB l k).length) (fun i => (ZB l k).length - i.1) (0, lV none 0 0, ([] : MH)) hs9 ?_ ?_
 ·exact ⟨rfl, (by simpa using OwnR.nil), om9⟩
 rintro ⟨i, v_7, M_7⟩ gG58 G58 _ hG58 ⟨rfl, ho_7, hi⟩
 try dsimp only at ho_7 hi
 refine WC.fr (f := ZX gG58 [(18, nt9 i), (5, lV sa_hv46 (((ZB (l) (k)).map fun y : Seat => y.n)).length sc_hv46), (6, lV sa_hv47 (((ZB (l) (k)).map fun y : Seat => y.s)).length sc_hv47), (16, lV sa_hv46 (((ZB (l) (k)).map fun y : Seat => y.n)).length sc_hv46), (17, nt9 ((((ZB (l) (k)).map fun y : Seat => y.n)).length)), (7, v_7)]) rfl (g9 6 ?_)
 refine WC.cd (fun h19 p19 => ?_) (fun h19 p19 => ?_)
 ·refine g9 6 ?_
  refine (hv46.mono hG58).aN (i := i) om9 (fun _ _ _ _ _ _ _ _ he59 hp_n60 hk_n60 hm_n60 hr_n60 hok_n60 => (g9 2 ?_))
  refine W.alloc Zm (fun b63 => (g9 7 ?_))
  refine W.lit (e := (eSl Zu)) (l := [((((ZB (l) (k)).map fun y : Seat => y.n))[i]).msgs]) (css := [[lV _ _ _]]) Zb7 Zb6 Zeh rfl rfl rfl rfl rfl rfl ⟨⟨_, rfl, hm_n60⟩, trivial⟩ (fun bl64 G64 hG64 hv64 => (W.app (e := (eSl Zu)) Zb7 Zb6 Zeh rfl ZkZ rfl rfl ((ho_7.mono hG64)) (hv64) (pmC pr9) (by show (List.length _ + 1) * 24 ≤ _; rw [List.length_take, List.length_map, List.length_map]; omega) (fun v65 Ms66 ho67 => (W.perm (pmC pr9).symm (g9 7 ?_)))))
  refine W.sub (sr9.cons _) (g9 2 ?_)
  exact ⟨hG64, (i + 1, v65, Ms66), hs9, ⟨rfl, (by have h := ho67; rw [List.take_succ_eq_append_getElem (by simp; omega), List.getElem_map]; exact h), om9⟩, om9⟩
 refine g9 13 ?_
 refine WC.cd (fun h30 p30 => ?_) (fun h30 p30 => ?_)
 ·exfalso; omega
 refine g9 8 ?_
 refine (hv47.mono hG58).a1 (i := ((ZB l k).length - 1)) om9 (fun he68 => (W.ok (Yu (i := ((ZB l k).length - 1)) Je Yt (hv47.mono hG58) rfl rfl ⟨om9, om9⟩) (g9 2 ?_)))
 refine W.giveO ho_7 pr9 (fun G72 hG72 hv72 => ?_)
 have hc73 := SlR.cast hv72 (l' := (((ZB l k).map fun y : Seat => y.n).map fun n : Nd => n.msgs)) (by rw [List.take_of_length_le (by simp; omega)])
 have q75 := hc73.form
 refine match q75 with | ⟨_, _, e_74⟩ => ?_
 subst e_74
 refine W.cS (ZsX _ _ _ hc73 om9 (by rw [List.length_map, List.length_map]; omega) (t.path_key k)) rfl (fun sa_hv77 sc_hv77 G76 hG76 hv77 => (g9 4 ?_))
 refine ⟨.inr rfl, [_], ⟨rfl, trivial⟩, Ms_s, List.sublist_append_left _ _, ?_⟩
 refine ⟨rfl, _, rfl, ?_⟩
 · exact SlR.cast hv77 (t.path_msgs k (t.last_s k om9 om9))

theorem Zli {G : GH} {b_s : Nat} {c c2 : Cfg} {l : List Nd} {ss : List Seat} {Ms_s : MH} (h_s : StR 60 4 3 189 139 b_s c G l Ms_s) (t : Tree c2 l ss) (k : Str) :
    Fc Tryz.prog 50 [pt9 b_s, sV k.b] G Ms_s (fun v G' M' => M' = Ms_s ∧ v = sV (Str.b ((if (Zn l k).s.opn = true then Str.nil else (Zn l k).s.hi)))) := by
 refine Fc.go [.tmp 4] Tryz.func50 Tryz.ntmps50 rfl (fun w0 => (WC.perm (M' := (Ms_s ++ [])) (by simp) (g9 9 ?_)))
 refine W.call (Mp := Ms_s) (ZgI h_s t _) rfl pr9 ?_
 intro v13 G10 Ms12 hG10 q11
 refine match q11 with | ⟨eeq11, _, e_15, hv9⟩ => ?_
 subst e_15
 have eeq11 := eeq11.symm
 subst eeq11
 refine match hv9 with | ⟨_, _, _, _, _, _, _, _, e_16, hp_hv9, hk_hv9, hm_hv9, hr_hv9, hok_hv9⟩ => ?_
 subst e_16
 refine g9 4 ?_
 refine W.alloc Zm (fun b17 => (W.alloc ZU (fun b18 => (g9 12 ?_))))
 refine WC.cond rfl (fun h11_1_2 => ?_) (fun h11_1_2 => ?_)
 ·refine g9 7 ?_
  refine ⟨.inr rfl, [_], ⟨rfl, trivial⟩, Ms_s, ((List.sublist_append_left _ _).cons _).cons _, ?_⟩
  exact ⟨rfl, congrArg (fun s : Str => Value.string s.b) (if_pos h11_1_2 : (if (Zn l k).s.opn = true then Str.nil else (Zn l k).s.hi) = Str.nil).symm⟩
 refine g9 10 ?_
 refine ⟨.inr rfl, [_], ⟨rfl, trivial⟩, Ms_s, ((List.sublist_append_left _ _).cons _).cons _, ?_⟩
 exact ⟨rfl, congrArg (fun s : Str => Value.string s.b) (if_neg (by rw [h11_1_2]; simp) : (if (Zn l k).s.opn = true then Str.nil else (Zn l k).s.hi) = (Zn l k).s.hi).symm⟩

theorem ZsY {G : GH} {b_t : Nat} {b_s : Nat} {c : Cfg} {l : List Nd} {ss : List Seat} {Ms_s : MH} (h_s : StR 60 4 3 189 139 b_s c G l Ms_s) (t : Tree c l ss) {cur : Str} :
    Fc Tryz.prog 19 [pt9 b_t] G ((b_t, ce9 79 [pt9 b_s, sV cur.b]) :: (Ms_s)) (fun v G' M' => SlR Zv G' v l ∧ M' = (b_t, ce9 79 [pt9 b_s, sV cur.b]) :: Ms_s) := by
 refine Fc.go [.tmp 2] Tryz.func19 Tryz.ntmps19 rfl (fun w0 => (WC.perm (M' := ((b_t, ce9 79 [pt9 b_s, sV cur.b]) :: (Ms_s ++ []))) (by simp) (g9 9 ?_)))
 refine W.ok (Xi Zbt rfl rfl) (g9 11 ?_)
 refine W.call (Mp := Ms_s) (ZuF h_s) rfl (pmC pr9) ?_
 intro v4 G1 Ms3 hG1 q2
 refine match q2 with | ⟨hR5, eeq2⟩ => ?_
 have eeq2 := eeq2.symm
 subst eeq2
 refine W.perm (pmC pr9).symm (g9 4 ?_)
 refine ⟨.inr rfl, [_], ⟨rfl, trivial⟩, ((b_t, ce9 79 [pt9 b_s, sV cur.b]) :: (Ms_s ++ [])), sr9.k9, ?_⟩
 exact ⟨hR5, congrArg _ (List.append_nil _)⟩

theorem ZsZ {G : GH} {b_t : Nat} {b_s : Nat} {c : Cfg} {l : List Nd} {ss : List Seat} {Ms_s : MH} (h_s : StR 60 4 3 189 139 b_s c G l Ms_s) (t : Tree c l ss) {cur : Str} :
    Fc Tryz.prog 22 [pt9 b_t] G ((b_t, ce9 79 [pt9 b_s, sV cur.b]) :: (Ms_s)) (fun v G' M' => v = iV (l.length : Int) ∧ M' = (b_t, ce9 79 [pt9 b_s, sV cur.b]) :: Ms_s) := by
 refine Fc.go [.tmp 2] Tryz.func22 Tryz.ntmps22 rfl (fun w0 => (WC.perm (M' := ((b_t, ce9 79 [pt9 b_s, sV cur.b]) :: (Ms_s ++ []))) (by simp) (g9 9 ?_)))
 refine W.ok (Xi Zbt rfl rfl) (g9 11 ?_)
 refine W.call (Mp := Ms_s) (ZuG h_s) rfl (pmC pr9) ?_
 intro v9 G6 Ms8 hG6 q7
 refine match q7 with | ⟨e_11, eeq7⟩ => ?_
 subst e_11
 have eeq7 := eeq7.symm
 subst eeq7
 refine W.perm (pmC pr9).symm (g9 4 ?_)
 refine ⟨.inr rfl, [_], ⟨rfl, trivial⟩, ((b_t, ce9 79 [pt9 b_s, sV cur.b]) :: (Ms_s ++ [])), sr9.k9, ?_⟩
 exact ⟨rfl, congrArg _ (List.append_nil _)⟩

theorem Zs0 {G : GH} {b_t b_s : Nat} {c : Cfg} {l : List Nd} {ss : List Seat} {cur : Str} {Ms_t : MH} (h_t : BtR 60 4 3 189 139 79 b_t b_s c G (l, cur) Ms_t) (t : Tree c l ss) (k : Str) :
    Fc Tryz.prog 105 [pt9 b_t, sV k.b] G Ms_t (fun v G' M' => ∃ e l', RoomP c l k e l' ∧ v = iV e ∧ BtR 60 4 3 189 139 79 b_t b_s c G' (l', cur) M') := by
 have hp9 := t.pos
 obtain ⟨N9, r9, hN9, hr9⟩ := Zgh t k
 refine Fc.go [.tmp 4] Tryz.func105 Tryz.ntmps105 rfl (fun w0 => (WC.perm (M' := (Ms_t ++ [])) (by simp) (g9 7 ?_)))
 obtain ⟨Msbt1, eMbt1, hBbt1⟩ := h_t
 subst eMbt1
 have hSbt1 : StR 60 4 3 189 139 b_s c G l Msbt1 := hBbt1
 refine WC.perm (M' := ((b_t, ce9 79 [pt9 b_s, sV cur.b]) :: (Msbt1 ++ []))) pr9.symm (g9 5 ?_)
 refine W.call (Mp := Msbt1) (Zaq hSbt1 0) rfl (pmC pr9) ?_
 intro v5 G2 Ms4 hG2 q3
 refine match q3 with | ⟨⟨_, e_7, ⟨pa_hR6, pc_hR6, ka_hR6, kc_hR6, ma_hR6, mc_hR6, ra_hR6, rc_hR6, e_8, hp_hR6, hk_hR6, hm_hR6, hr_hR6, hok_hR6⟩⟩, eeq3⟩ => ?_
 subst e_7
 subst e_8
 have eeq3 := eeq3.symm
 subst eeq3
 refine W.perm (pmC pr9).symm (g9 3 ?_)
 refine W.alloc Zm (fun b9 => (g9 11 ?_))
 refine WC.cd (fun h19 p19 => ?_) (fun h19 p19 => ?_)
 ·try dsimp only at p19
  refine g9 6 ?_
  refine W.call (Mp := Msbt1) (Zls (StR.mono hG2 hSbt1) t) rfl (pmC (pmC pr9)) ?_
  intro v13 G10 Ms12 hG10 q11
  refine match q11 with | ⟨e_15, hR14⟩ => ?_
  subst e_15
  refine W.perm (pmC (pmC pr9)).symm (g9 3 ?_)
  have hB16 : BtR 60 4 3 189 139 79 b_t b_s c G10 ((ZI c l).2, cur) ((b_t, ce9 79 [pt9 b_s, sV cur.b]) :: Ms12) := ⟨_, rfl, hR14⟩
  refine WC.perm (M' := ((b9, ce9 60 (ndl (Za l 0) pa_hR6 pc_hR6 ka_hR6 kc_hR6 ma_hR6 mc_hR6 ra_hR6 rc_hR6)) :: (((b_t, ce9 79 [pt9 b_s, sV cur.b]) :: Ms12) ++ []))) ((pmC pr9).symm.trans (((pmC pr9).cons _).trans ((List.Perm.swap _ _ _).trans (pr9.cons _)))) (g9 2 ?_)
  refine ⟨.inr rfl, [_], ⟨rfl, trivial⟩, ((b_t, ce9 79 [pt9 b_s, sV cur.b]) :: Ms12), (List.sublist_append_left _ _).cons _, ?_⟩
  exact ⟨_, _, .inl ⟨p19, rfl, rfl⟩, rfl, hB16⟩
 try dsimp only at p19
 refine g9 10 ?_
 refine W.call (Mp := Msbt1) (Zlt (StR.mono hG2 hSbt1) t k rfl N9 r9 hr9 om9) rfl (pmC (pmC pr9)) ?_
 intro v20 G17 Ms19 hG17 q18
 refine match q18 with | ⟨e_22, hR21⟩ => ?_
 subst e_22
 refine W.perm (pmC (pmC pr9)).symm (g9 15 ?_)
 refine WC.cd (fun h36 p36 => ?_) (fun h36 p36 => ?_)
 ·try dsimp only at p36
  refine g9 5 ?_
  have hB23 : BtR 60 4 3 189 139 79 b_t b_s c G17 (r9.2.2, cur) ((b_t, ce9 79 [pt9 b_s, sV cur.b]) :: Ms19) := ⟨_, rfl, hR21⟩
  refine WC.perm (M' := ((b9, ce9 60 (ndl (Za l 0) pa_hR6 pc_hR6 ka_hR6 kc_hR6 ma_hR6 mc_hR6 ra_hR6 rc_hR6)) :: (((b_t, ce9 79 [pt9 b_s, sV cur.b]) :: Ms19) ++ []))) ((pmC pr9).symm.trans (((pmC pr9).cons _).trans ((List.Perm.swap _ _ _).trans (pr9.cons _)))) (g9 3 ?_)
  refine ⟨.inr rfl, [_], ⟨rfl, trivial⟩, ((b_t, ce9 79 [pt9 b_s, sV cur.b]) :: Ms19), (List.sublist_append_left _ _).cons _, ?_⟩
  exact ⟨_, _, .inr ⟨p19, N9, r9, hr9, rfl, (if_pos p36).symm⟩, rfl, hB23⟩
 try dsimp only at p36
 refine g9 7 ?_
 refine WC.cn (fun h39 p39 => ?_) (fun h39 p39 => ?_)
 ·try dsimp only at p39
  refine g9 6 ?_
  have hB24 : BtR 60 4 3 189 139 79 b_t b_s c G17 (r9.2.2, cur) ((b_t, ce9 79 [pt9 b_s, sV cur.b]) :: Ms19) := ⟨_, rfl, hR21⟩
  refine WC.perm (M' := ((b9, ce9 60 (ndl (Za l 0) pa_hR6 pc_hR6 ka_hR6 kc_hR6 ma_hR6 mc_hR6 ra_hR6 rc_hR6)) :: (((b_t, ce9 79 [pt9 b_s, sV cur.b]) :: Ms19) ++ []))) ((pmC pr9).symm.trans (((pmC pr9).cons _).trans ((List.Perm.swap _ _ _).trans (pr9.cons _)))) (g9 3 ?_)
  refine ⟨.inr rfl, [_], ⟨rfl, trivial⟩, ((b_t, ce9 79 [pt9 b_s, sV cur.b]) :: Ms19), (List.sublist_append_left _ _).cons _, ?_⟩
  exact ⟨_, _, .inr ⟨p19, N9, r9, hr9, rfl, by rw [if_neg p36, if_neg p39]⟩, rfl, hB24⟩
 try dsimp only at p39
 refine g9 8 ?_
 have hB25 : BtR 60 4 3 189 139 79 b_t b_s c G17 (r9.2.2, cur) ((b_t, ce9 79 [pt9 b_s, sV cur.b]) :: Ms19) := ⟨_, rfl, hR21⟩
 refine WC.perm (M' := ((b9, ce9 60 (ndl (Za l 0) pa_hR6 pc_hR6 ka_hR6 kc_hR6 ma_hR6 mc_hR6 ra_hR6 rc_hR6)) :: (((b_t, ce9 79 [pt9 b_s, sV cur.b]) :: Ms19) ++ []))) ((pmC pr9).symm.trans (((pmC pr9).cons _).trans ((List.Perm.swap _ _ _).trans (pr9.cons _)))) (WC.ret ?_)
 refine ⟨.inr rfl, [_], ⟨rfl, trivial⟩, ((b_t, ce9 79 [pt9 b_s, sV cur.b]) :: Ms19), (List.sublist_append_left _ _).cons _, ?_⟩
 exact ⟨_, _, .inr ⟨p19, N9, r9, hr9, rfl, by rw [if_neg p36, if_pos om9]⟩, rfl, hB25⟩

theorem Zs1 {G : GH} {b_t b_s : Nat} {c : Cfg} {l : List Nd} {ss : List Seat} {cur : Str} {Ms_t : MH} (h_t : BtR 60 4 3 189 139 79 b_t b_s c G (l, cur) Ms_t) (t : Tree c l ss) (pk : Int) (pkey : Str) (phi : Str) (po : Bool) (pv : Str) (pl : Int) (k : Int) (hR : Opr.R (⟨pk, pkey, phi, po, pv, pl⟩ : Opr)) (hk4 : pk ≤ 4) (hgr : Grown c k l) (hk9 : k ≤ 1000000000) :
    Fc Tryz.prog 48 [pt9 b_t, .agg #[iV pk, sV pkey.b, sV phi.b, .bool po, sV pv.b, iV pl]] G Ms_t (fun v G' M' => ∃ e l', WrP c k (⟨pk, pkey, phi, po, pv, pl⟩ : Opr) l e l' ∧ v = iV e ∧ BtR 60 4 3 189 139 79 b_t b_s c G' (l', cur) M') := by
 refine Fc.go [.tmp 4] Tryz.func48 Tryz.ntmps48 rfl (fun w0 => (WC.perm (M' := (Ms_t ++ [])) (by simp) (g9 2 ?_)))
 refine W.box (L := [iV _, sV _, sV _, .bool _, sV _, iV _]) rfl rfl (fun b26 => (g9 4 ?_))
 refine WC.loop (X := (List Nd) × MH) (fun x => [(3, pt9 b26), (0, pt9 b_t)]) (fun x G Ml => Ml = ((b26, ce9 34 [iV pk, sV pkey.b, sV phi.b, .bool po, sV pv.b, iV pl]) :: (x.2 ++ [])) ∧ BtR 60 4 3 189 139 79 b_t b_s c G ((x.1, cur)) x.2 ∧ (∃ T, Tree c x.1 T) ∧ Zl x.1 = Zl l ∧ Grown c k x.1 ∧ (x.1 = l ∨ ¬ (Zy c l (⟨pk, pkey, phi, po, pv, pl⟩ : Opr)).2.1 = 0)) (fun x => muL c x.1) (l, Ms_t) hs9 ?_ ?_
 ·exact ⟨rfl, (by exact h_t), ⟨ss, t⟩, rfl, hgr, .inl rfl⟩
 rintro ⟨L, M_0⟩ gG27 G27 _ hG27 ⟨rfl, ho_0, hTr, hmp, hg, hx9⟩
 try dsimp only at ho_0 hTr hmp hg hx9
 obtain ⟨T8, t9⟩ := hTr
 have hsn9 : 0 ≤ (Za L 0).seen ∧ (Za L 0).seen ≤ 1000000000000 := ⟨hg.pos, by have := hg.le; omega⟩
 refine WC.fr (f := ZX gG27 [(3, pt9 b26), (0, pt9 b_t)]) rfl (g9 2 ?_)
 obtain ⟨Msbt28, eMbt28, hBbt28⟩ := ho_0
 subst eMbt28
 have hSbt28 : StR 60 4 3 189 139 b_s c G27 L Msbt28 := hBbt28
 refine WC.perm (M' := ((b_t, ce9 79 [pt9 b_s, sV cur.b]) :: ((b26, ce9 34 [iV pk, sV pkey.b, sV phi.b, .bool po, sV pv.b, iV pl]) :: (Msbt28 ++ [])))) (pmD pr9).symm (WC.dw (sn9.k9.k9) (d9 [0, 1, 2, 3, 4] ?_))
 refine WD.a1 5 rfl (W.call (Mp := Msbt28) (ZsW hSbt28 t9 pk pkey phi po pv pl rfl hR hk4 hsn9) rfl (pmC (pmC pr9)) ?_)
 intro v32 G29 Ms31 hG29 q30
 refine match q30 with | ⟨e_34, hR33⟩ => ?_
 subst e_34
 refine W.perm (pmC (pmC pr9)).symm (W.nn (d9 [6, 7, 8, 9, 10] ?_))
 refine g9 9 ?_
 refine WC.cn (fun h17 p17 => ?_) (fun h17 p17 => ?_)
 ·try dsimp only at p17
  refine g9 6 ?_
  have hB35 : BtR 60 4 3 189 139 79 b_t b_s c G29 ((Zy c L (⟨pk, pkey, phi, po, pv, pl⟩ : Opr)).2.2, cur) ((b_t, ce9 79 [pt9 b_s, sV cur.b]) :: Ms31) := ⟨_, rfl, hR33⟩
  refine WC.perm (M' := ((b26, ce9 34 [iV pk, sV pkey.b, sV phi.b, .bool po, sV pv.b, iV pl]) :: (((b_t, ce9 79 [pt9 b_s, sV cur.b]) :: Ms31) ++ []))) ((pmC pr9).symm.trans (((pmC pr9).cons _).trans pr9)) (g9 5 ?_)
  refine ⟨.inr rfl, [_], ⟨rfl, trivial⟩, ((b_t, ce9 79 [pt9 b_s, sV cur.b]) :: Ms31), (List.sublist_append_left _ _).cons _, ?_⟩
  have hE : (Zy c L (⟨pk, pkey, phi, po, pv, pl⟩ : Opr)).2.1 = 0 := by
    by_cases h : (Zy c L (⟨pk, pkey, phi, po, pv, pl⟩ : Opr)).2.1 = 0
    · exact h
    exact absurd (by rw [Zgg h]) p17
  exact ⟨(Zy c L (⟨pk, pkey, phi, po, pv, pl⟩ : Opr)).2.1, (Zy c L (⟨pk, pkey, phi, po, pv, pl⟩ : Opr)).2.2, by rw [hE]; exact WrP.ok t9 hR hk4 hg om9 hmp hx9 hE, rfl, hB35⟩
 try dsimp only at p17
 refine g9 3 ?_
 have hf9 : ¬ (Zy c L (⟨pk, pkey, phi, po, pv, pl⟩ : Opr)).2.1 = 0 := by rw [p17]; decide
 have hS36 := StR.to hR33 (show (Zy c L (⟨pk, pkey, phi, po, pv, pl⟩ : Opr)).2.2 = L by rw [Zgg hf9])
 have hB37 : BtR 60 4 3 189 139 79 b_t b_s c G29 (L, cur) ((b_t, ce9 79 [pt9 b_s, sV cur.b]) :: Ms31) := ⟨_, rfl, hS36⟩
 refine WC.perm (M' := ((b26, ce9 34 [iV pk, sV pkey.b, sV phi.b, .bool po, sV pv.b, iV pl]) :: (((b_t, ce9 79 [pt9 b_s, sV cur.b]) :: Ms31) ++ []))) ((pmC pr9).symm.trans (((pmC pr9).cons _).trans pr9)) (g9 4 ?_)
 refine W.call (Mp := ((b_t, ce9 79 [pt9 b_s, sV cur.b]) :: Ms31)) (Zs0 hB37 t9 pkey) rfl (pmC pr9) ?_
 intro v44 G41 Ms43 hG41 q42
 refine match q42 with | ⟨e38, l39, hRm40, e_46, hR45⟩ => ?_
 subst e_46
 refine W.perm (pmC pr9).symm ?_
 have hra9 := Zku t9 hR hk4 hg hf9 hRm40
 refine g9 9 ?_
 refine WC.cn (fun h24 p24 => ?_) (fun h24 p24 => ?_)
 ·try dsimp only at p24
  refine g9 10 ?_
  refine ⟨.inr rfl, [_], ⟨rfl, trivial⟩, Ms43, (List.sublist_append_left _ _).cons _, ?_⟩
  exact ⟨e38, l39, WrP.no t9 hR hk4 hg hmp hx9 hf9 hRm40 p24, rfl, hR45⟩
 try dsimp only at p24
 refine g9 3 ?_
 exact ⟨lec, (l39, Ms43), hs9, ⟨rfl, (by exact hR45), hra9.1, hra9.2.1.trans hmp, hra9.2.2.1, .inr (hx9.elim (fun e => e ▸ hf9) id)⟩, hra9.2.2.2.1 p24⟩

theorem Zs2 {G : GH} {b_s : Nat} {c c2 : Cfg} {l : List Nd} {ss : List Seat} {Ms_s : MH} (h_s : StR 60 4 3 189 139 b_s c G l Ms_s) (t : Tree c2 l ss) (k : Str) :
    Fc Tryz.prog 45 [pt9 b_s, sV k.b] G Ms_s (fun v G' M' => M' = Ms_s ∧ v = .tuple #[sV (Str.b (((Zi (Zl l) k)).getD Str.nil)), .bool (((Zi (Zl l) k)).isSome)]) := by
 have hlo := t.leafOk k
 have hft := t.fits _ hlo.mem
 have hfm : ∀ m ∈ (Zn l k).ms, m.key.b.size < 140737488355328 ∧ m.val.b.size ≤ 16 := fun m hm => ⟨by have := (Y1 (hft.2 m hm)).1; omega, (Y1 (hft.2 m hm)).2⟩
 refine Fc.go [.tmp 4, .tmp 5] Tryz.func45 Tryz.ntmps45 rfl (fun w0 => (WC.perm (M' := (Ms_s ++ [])) (by simp) (g9 10 ?_)))
 refine W.call (Mp := Ms_s) (ZgI h_s t _) rfl pr9 ?_
 intro v13 G10 Ms12 hG10 q11
 refine match q11 with | ⟨eeq11, _, e_15, hv9⟩ => ?_
 subst e_15
 have eeq11 := eeq11.symm
 subst eeq11
 refine match hv9 with | ⟨_, _, _, _, _, _, _, _, e_16, hp_hv9, hk_hv9, hm_hv9, hr_hv9, hok_hv9⟩ => ?_
 subst e_16
 refine g9 4 ?_
 refine W.alloc Zm (fun b17 => (W.alloc ZU (fun b18 => (g9 16 ?_))))
 refine WC.dw (sn9.k9.k9) (d9 [0, 1, 2, 3, 4] ?_)
 refine WD.a1 5 rfl (W.call (Mp := Ms_s) (Zlh (StR.mono hG10 h_s) t _) rfl (pmC (pmC pr9)) ?_)
 intro v23 G20 Ms22 hG20 q21
 refine match q21 with | ⟨eeq21, _, e_25, hv19⟩ => ?_
 subst e_25
 have eeq21 := eeq21.symm
 subst eeq21
 refine W.perm (pmC (pmC pr9)).symm ?_
 have q27 := hv19.form
 refine match q27 with | ⟨sa_hv19, sc_hv19, e_26⟩ => ?_
 subst e_26
 refine W.nn (WD.a1 6 rfl (W.qcall (ZtB (hr_hv9.mono hG20) k hv19 (t.rows hlo.mem) hfm) rfl (W.nn (d9 [7, 8, 9, 10] ?_))))
 refine g9 3 ?_
 refine ⟨.inr rfl, [_, _], ⟨rfl, rfl, trivial⟩, Ms_s, ((List.sublist_append_left _ _).cons _).cons _, ?_⟩
 exact ⟨rfl, congrArg (fun o : Option Str => Value.tuple #[sV (o.getD Str.nil).b, .bool o.isSome]) (t.lookup k)⟩

theorem Zs3 {G : GH} {v_l : Value} {l : List Pair} (h_l : SlR Zp G v_l l) (slo : Str) (shi : Str) (so : Bool) {v_ms : Value} {ms : List Msg} (h_ms : SlR Zu G v_ms ms) (c : Str) (n : Int) (hP : PairsR l) (hn : l.length + ms.length ≤ 1000000) (hm : ∀ m ∈ ms, m.key.b.size ≤ 16 ∧ m.val.b.size ≤ 16) (hs : slo.b.size ≤ 300) :
    Fc Tryz.prog 100 [v_l, .agg #[sV slo.b, sV shi.b, .bool so], v_ms, sV c.b, iV n] G [] (fun v G' M' => M' = [] ∧ ∃ r : List Pair × Str × Bool, r = Zbj l ⟨slo, shi, so⟩ ms c n ∧ ∃ u0, v = .tuple #[u0, sV (Str.b (r.2.1)), .bool (r.2.2)] ∧ SlR Zp G' u0 (r.1)) := by
 obtain ⟨sa_l, sc_l, rfl⟩ := h_l.form
 obtain ⟨sa_ms, sc_ms, rfl⟩ := h_ms.form
 have hcl := ZoB (Zt (l.filter fun p => Span.has ⟨slo, shi, so⟩ p.key) (Zc ⟨slo, shi, so⟩ ms)) n
 refine Fc.go [.tmp 10, .tmp 11, .tmp 12] Tryz.func100 Tryz.ntmps100 rfl (fun w0 => (g9 2 ?_))
 refine W.box (L := [sV _, sV _, .bool _]) rfl rfl (fun b1 => (g9 9 ?_))
 refine W.qcall (ZcR _ _ _) rfl (g9 2 ?_)
 refine WC.cond rfl (fun h16 => ?_) (fun h16 => ?_)
 ·refine g9 11 ?_
  refine ⟨rfl, _, (ZoC h16).symm, _, rfl, ?_⟩
  · exact SlR.nil
 refine g9 7 ?_
 refine W.cS (ZtY h_l slo shi so h_ms hP hn hm hs) rfl (fun sa_hv3 sc_hv3 G2 hG2 hv3 => (g9 8 ?_))
 refine W.sp 24 rfl (fun ha_so => ?_) (fun ha_so => ?_)
 ·refine g9 22 ?_
  refine WC.dw sr9.k9 (d9 [0, 1, 2, 3] ?_)
  refine WD.tk 4 rfl (Zev rfl rfl) (WD.tk 5 rfl (Ok.int (n := ((Xs (Zt (l.filter fun p => Span.has ⟨slo, shi, so⟩ p.key) (Zc ⟨slo, shi, so⟩ ms)) n : Nat) : Int)) (Zcf rfl rfl) om9) ?_)
  have hs9 := SlR.slice hv3 (lo := 0) (hi := (Xs (Zt (l.filter fun p => Span.has ⟨slo, shi, so⟩ p.key) (Zc ⟨slo, shi, so⟩ ms)) n)) om9 om9
  refine WD.tk 6 rfl (JE (0) ((Xs (Zt (l.filter fun p => Span.has ⟨slo, shi, so⟩ p.key) (Zc ⟨slo, shi, so⟩ ms)) n)) ZL ZM hv3 rfl rfl ⟨_, _, rfl, om9⟩ ⟨om9, om9⟩) (d9 [8, 9, 10] ?_)
  refine WD.a1 7 rfl (W.cS (Jf hs9) rfl (fun sa_hv11 sc_hv11 G10 hG10 hv11 => (W.nn (d9 [11, 12, 13] ?_))))
  refine g9 4 ?_
  refine ⟨rfl, _, (Zfp h16 (x := Str.nil) (b := true) (by simp [ha_so]) (by simp [ha_so])).symm, _, rfl, ?_⟩
  · exact hv11
 refine g9 23 ?_
 refine WC.dw sr9.k9 (d9 [0, 1, 2, 3] ?_)
 refine WD.tk 4 rfl (Zev rfl rfl) (WD.tk 5 rfl (Ok.int (n := ((Xs (Zt (l.filter fun p => Span.has ⟨slo, shi, so⟩ p.key) (Zc ⟨slo, shi, so⟩ ms)) n : Nat) : Int)) (Zcf rfl rfl) om9) ?_)
 have hs17 := SlR.slice hv3 (lo := 0) (hi := (Xs (Zt (l.filter fun p => Span.has ⟨slo, shi, so⟩ p.key) (Zc ⟨slo, shi, so⟩ ms)) n)) om9 om9
 refine WD.tk 6 rfl (JE (0) ((Xs (Zt (l.filter fun p => Span.has ⟨slo, shi, so⟩ p.key) (Zc ⟨slo, shi, so⟩ ms)) n)) ZL ZM hv3 rfl rfl ⟨_, _, rfl, om9⟩ ⟨om9, om9⟩) (d9 [8, 9, 10] ?_)
 refine WD.a1 7 rfl (W.cS (Jf hs17) rfl (fun sa_hv19 sc_hv19 G18 hG18 hv19 => (W.nn (d9 [11, 12, 13] ?_))))
 refine g9 4 ?_
 refine ⟨rfl, _, (Zfp h16 (x := shi) (b := decide (n ≤ ((Zt (l.filter fun p => Span.has ⟨slo, shi, so⟩ p.key) (Zc ⟨slo, shi, so⟩ ms)).length : Int))) (by simp [ha_so]) (by simp [ha_so])).symm, _, rfl, ?_⟩
 · exact hv19

theorem Zs4 {G : GH} (slo : Str) (shi : Str) (so : Bool) (k : Str) :
    Fc Tryz.prog 102 [.agg #[sV slo.b, sV shi.b, .bool so], sV k.b] G [] (fun v _ _ => v = .agg (List.toArray ((Span.meet ⟨slo, shi, so⟩ ⟨k, Str.nil, true⟩).cells))) := by
 refine Fc.go [.cell 4 62] Tryz.func102 Tryz.ntmps102 rfl (fun w0 => (g9 2 ?_))
 refine W.box (L := [sV _, sV _, .bool _]) rfl rfl (fun b1 => (W.alloc ZU (fun b2 => (g9 6 ?_))))
 refine W.ok (Ya (L := [sV _, sV _, .bool _]) JD ZU rfl rfl rfl) (W.qcall (Zap _ _ _ _ Str.nil _) rfl (g9 5 ?_))
 rfl

theorem Zlj {G : GH} {b_s : Nat} {c c2 : Cfg} {l : List Nd} {ss : List Seat} {Ms_s : MH} (h_s : StR 60 4 3 189 139 b_s c G l Ms_s) (t : Tree c2 l ss) (xlo : Str) (xhi : Str) (xo : Bool) (n : Int) (hxs : xlo.b.size ≤ 300 ∧ xhi.b.size ≤ 300) (hin : i64 n) :
    Fc Tryz.prog 46 [pt9 b_s, .agg #[sV xlo.b, sV xhi.b, .bool xo], iV n] G Ms_s (fun v G' M' => M' = Ms_s ∧ ∃ u0, v = u0 ∧ SlR Zp G' u0 (Ji (Zl l) ⟨xlo, xhi, xo⟩ n)) := by
 obtain ⟨hin1, hin2⟩ := hin
 refine Fc.go [.tmp 6] Tryz.func46 Tryz.ntmps46 rfl (fun w0 => (WC.perm (M' := (Ms_s ++ [])) (by simp) (g9 2 ?_)))
 refine W.box (L := [sV _, sV _, .bool _]) rfl rfl (fun b21 => (g9 11 ?_))
 refine W.qcall (Za2 _ _ _) rfl (W.alloc ZU (fun b22 => (g9 4 ?_)))
 refine WC.loop (X := (Span × List Pair) × Value × MH × Nat) (fun y => [(0, pt9 b_s), (2, iV n), (7, y.2.1), (8, .pointer (some ⟨y.2.2.2, 0, none⟩))]) (fun y G Ml => Ml = ((y.2.2.2, ce9 62 [sV (y.1.1).lo.b, sV (y.1.1).hi.b, .bool (y.1.1).opn]) :: ((b21, ce9 62 [sV xlo.b, sV xhi.b, .bool xo]) :: (y.2.2.1 ++ (Ms_s ++ [])))) ∧ OwnR Zp 74 G y.2.1 (y.1.2) y.2.2.1 ∧ SwOk l ⟨xlo, xhi, xo⟩ n y.1.1 y.1.2 ∧ (y.1.1.lo.b.size ≤ 300 ∧ y.1.1.hi.b.size ≤ 300)) (fun y => ZdG ss y.1.1) (((Span.norm ⟨xlo, xhi, xo⟩, []) : Span × List Pair), lV none 0 0, ([] : MH), b22) hs9 ?_ ?_
 ·exact ⟨rfl, (by exact OwnR.nil), SwOk.init l _ n, Zdg hxs.1 hxs.2⟩
 rintro ⟨⟨r, out⟩, v_7, M_7, B_8⟩ gG23 G23 _ hG23 ⟨rfl, ho_7, hw, hrs⟩
 try dsimp only at ho_7 hw hrs
 have hol := hw.olen t
 have hml := t.map_len
 refine WC.fr (f := ZX gG23 [(0, pt9 b_s), (2, iV n), (7, v_7), (8, pt9 B_8)]) rfl (WC.perm (M' := ((B_8, ce9 62 [sV (r).lo.b, sV (r).hi.b, .bool (r).opn]) :: ((b21, ce9 62 [sV xlo.b, sV xhi.b, .bool xo]) :: (M_7 ++ (Ms_s ++ []))))) pr9 (g9 7 ?_))
 refine W.call (Mp := Ms_s) (ZgI (StR.mono hG23 h_s) t _) rfl (pmC (pmC (pmA pr9))) ?_
 intro v28 G25 Ms27 hG25 q26
 refine match q26 with | ⟨eeq26, _, e_30, hv24⟩ => ?_
 subst e_30
 have eeq26 := eeq26.symm
 subst eeq26
 refine W.perm (pmC (pmC pr9)).symm ?_
 refine match hv24 with | ⟨_, _, _, _, _, _, _, _, e_31, hp_hv24, hk_hv24, hm_hv24, hr_hv24, hok_hv24⟩ => ?_
 subst e_31
 refine g9 4 ?_
 refine W.alloc Zm (fun b32 => (W.alloc ZU (fun b33 => (g9 14 ?_))))
 refine W.qcall (ZcR _ _ _) rfl (g9 2 ?_)
 refine W.sp 31 rfl (fun h29 => ?_) (fun h29 => ?_)
 ·refine g9 14 ?_
  refine WC.giveO (ho_7.mono hG25) (pmC (pmC (pmC (pmC (pmA pr9))))) (fun G34 hG34 hv34 => (g9 6 ?_))
  refine ⟨.inr rfl, [_], ⟨rfl, trivial⟩, Ms_s, ((((List.sublist_append_left _ _).cons _).cons _).cons _).cons _, ?_⟩
  exact ⟨rfl, _, rfl, SlR.cast hv34 (hw.empty h29)⟩
 have g := t.leg (rest := r) h29
 have hlo := ZoI t r.lo
 have hft := t.fits _ hlo.1
 have hz9 := Zdx (n := 300) hrs (b := (Zn l r.lo).s) ⟨by have := hft.1.1; omega, by have := hft.1.2; omega⟩
 have hz300 := hz9.1
 have hz301 := hz9.2
 have hrl := t.rows_len hlo.1
 have hml2 := (t.ms_len _ hlo.1).1
 refine g9 11 ?_
 refine WC.cd (fun h35 p35 => ?_) (fun h35 p35 => ?_)
 ·refine g9 6 ?_
  refine WC.giveO (ho_7.mono hG25) (pmC (pmC (pmC (pmC (pmA pr9))))) (fun G35 hG35 hv35 => (g9 6 ?_))
  refine ⟨.inr rfl, [_], ⟨rfl, trivial⟩, Ms_s, ((((List.sublist_append_left _ _).cons _).cons _).cons _).cons _, ?_⟩
  exact ⟨rfl, _, rfl, SlR.cast hv35 (hw.full om9)⟩
 have hpart := Leg.part t hlo.1 hlo.2 g r.lo (n - (out.length : Int))
 have hvl := List.length_filter_le (fun p : Pair => Span.has (r.meet (Zn l r.lo).s) p.key) (Zl l)
 have hcl : (((Zl l).filter fun p => Span.has (r.meet (Zn l r.lo).s) p.key).take (Xs ((Zl l).filter fun p => Span.has (r.meet (Zn l r.lo).s) p.key) (n - (out.length : Int)))).length ≤ ((Zl l).filter fun p => Span.has (r.meet (Zn l r.lo).s) p.key).length := by rw [List.length_take]; omega
 refine g9 3 ?_
 refine WC.dw (((sn9.k9.k9).k9).k9) (d9 [0, 1, 2, 3, 5, 6, 7, 9, 10, 11, 12, 13, 14] ?_)
 refine WD.a1 4 rfl (W.qcall (Zap _ _ _ _ _ _) rfl (W.nn (WD.a1 8 rfl (W.call (Mp := Ms_s) (Zlh (StR.mono lec h_s) t _) rfl (pmC (pmC (pmC (pmC pr9)))) ?_))))
 intro v40 G37 Ms39 hG37 q38
 refine match q38 with | ⟨eeq38, _, e_42, hv36⟩ => ?_
 subst e_42
 have eeq38 := eeq38.symm
 subst eeq38
 refine W.perm (pmC (pmC (pmC (pmC pr9)))).symm ?_
 have q44 := hv36.form
 refine match q44 with | ⟨sa_hv36, sc_hv36, e_43⟩ => ?_
 subst e_43
 refine W.nn (WD.a1 15 rfl (W.call (Mp := []) (Zs3 (hr_hv24.mono hG37) (r.meet (Zn l r.lo).s).lo (r.meet (Zn l r.lo).s).hi (r.meet (Zn l r.lo).s).opn hv36 r.lo (n - (out.length : Int)) (t.rows hlo.1) om9 (fun m hm => Y1 (hft.2 m hm)) hz300) rfl pr9 ?_))
 intro _ G45 _ hG45 q47
 refine match q47 with | ⟨e_48, _, e_49, _, e_50, hv46⟩ => ?_
 subst e_48
 subst e_49
 subst e_50
 have hc51 := SlR.cast hv46 (l' := (((Zl l).filter fun p => Span.has (r.meet (Zn l r.lo).s) p.key).take (Xs ((Zl l).filter fun p => Span.has (r.meet (Zn l r.lo).s) p.key) (n - (out.length : Int))))) (by rw [hpart])
 have q53 := hc51.form
 refine match q53 with | ⟨sa_hc51, sc_hc51, e_52⟩ => ?_
 subst e_52
 refine W.nn (d9 [16, 17, 18, 19, 20, 21, 22] ?_)
 refine g9 6 ?_
 refine W.app (e := Zp) ZL ZM XN rfl Zbs rfl rfl ((ho_7.mono lec)) (hc51) (pmC (pmC (pmC (pmC (pmA pr9))))) (by show (List.length _ + List.length _) * 32 ≤ _; omega) (fun v54 Ms55 ho56 => (W.perm (pmC (pmC (pmC (pmC pr9)))).symm (g9 8 ?_)))
 refine W.sp 62 rfl (fun h54_2 => ?_) (fun h54_2 => ?_)
 ·refine g9 14 ?_
  refine WC.giveO ho56 (pmC (pmC (pmC (pmC pr9)))) (fun G57 hG57 hv57 => (g9 6 ?_))
  refine ⟨.inr rfl, [_], ⟨rfl, trivial⟩, Ms_s, ((((List.sublist_append_left _ _).cons _).cons _).cons _).cons _, ?_⟩
  exact ⟨rfl, _, rfl, SlR.cast hv57 (hw.over t om9 g (by rw [hpart] at h54_2; exact h54_2))⟩
 have hgo := hw.go t om9 g (by rw [hpart] at h54_2; exact h54_2)
 have hcur : (Zbj (Zn l r.lo).n.rows (r.meet (Zn l r.lo).s) (Zn l r.lo).ms r.lo (n - (out.length : Int))).2.1 = (r.meet (Zn l r.lo).s).hi := by rw [hpart]; show (if _ then _ else _) = _; rw [if_neg (by rw [hgo.1]; simp)]
 refine g9 7 ?_
 refine W.ok (Zvr rfl rfl) (g9 3 ?_)
 refine WC.cond rfl (fun h66 => ?_) (fun h66 => ?_)
 ·exfalso
  rw [hcur] at h66
  have h0 := g.fin hgo.1
  unfold Str.lt at h0
  rw [h0] at h66
  simp at h66
 refine g9 5 ?_
 refine W.qcall (Zs4 _ _ _ _) rfl (g9 9 ?_)
 refine WC.sub (((sr9.cons _).k9).k9) (WC.sub ((sr9.cons _).k9) (WC.sub (sr9.cons _) (g9 1 ?_)))
 refine W.alloc ZU (fun b58 => (g9 3 ?_))
 exact ⟨lec, (((r.meet ⟨(Zbj (Zn l r.lo).n.rows (r.meet (Zn l r.lo).s) (Zn l r.lo).ms r.lo (n - (out.length : Int))).2.1, Str.nil, true⟩, out ++ ((Zl l).filter fun p => Span.has (r.meet (Zn l r.lo).s) p.key)) : Span × List Pair), v54, Ms55, b58), hs9, ⟨rfl, (by have h := ho56; rw [hgo.2.2] at h; exact h), by rw [hcur]; exact hgo.2.1, Zdx hrs ⟨by rw [hcur]; exact hz301, by show Str.nil.b.size ≤ 300; decide⟩⟩, by rw [hcur]; exact Leg.ahead hlo.1 hlo.2 h29 g hgo.1⟩

theorem Zs5 {G : GH} {b_s : Nat} {c c2 : Cfg} {l : List Nd} {ss : List Seat} {Ms_s : MH} (h_s : StR 60 4 3 189 139 b_s c G l Ms_s) (t : Tree c2 l ss) :
    Fc Tryz.prog 51 [pt9 b_s] G Ms_s (fun v G' M' => M' = Ms_s ∧ ∃ u0, v = u0 ∧ SlR Zp G' u0 (Zl l)) := by
 have hml := t.map_len
 refine Fc.go [.tmp 2] Tryz.func51 Tryz.ntmps51 rfl (fun w0 => (WC.perm (M' := (Ms_s ++ [])) (by simp) (g9 8 ?_)))
 refine W.qcall (ZgD ) rfl (W.call (Mp := Ms_s) (Zlj h_s t Span.all.lo Span.all.hi Span.all.opn _ ⟨by decide, by decide⟩ ⟨by decide, by decide⟩) rfl pr9 ?_)
 intro v63 G60 Ms62 hG60 q61
 refine match q61 with | ⟨eeq61, _, e_65, hv59⟩ => ?_
 subst e_65
 have eeq61 := eeq61.symm
 subst eeq61
 have q67 := hv59.form
 refine match q67 with | ⟨sa_hv59, sc_hv59, e_66⟩ => ?_
 subst e_66
 refine g9 4 ?_
 refine ⟨.inr rfl, [_], ⟨rfl, trivial⟩, Ms_s, List.sublist_append_left _ _, ?_⟩
 refine ⟨rfl, _, rfl, ?_⟩
 · exact SlR.cast hv59 (ZoJ om9)

theorem Zs6 {G : GH} {b_t : Nat} {b_s : Nat} {c : Cfg} {l : List Nd} {ss : List Seat} {Ms_s : MH} (h_s : StR 60 4 3 189 139 b_s c G l Ms_s) (t : Tree c l ss) {cur : Str} :
    Fc Tryz.prog 18 [pt9 b_t] G ((b_t, ce9 79 [pt9 b_s, sV cur.b]) :: (Ms_s)) (fun v G' M' => SlR Zp G' v (Zl l) ∧ M' = (b_t, ce9 79 [pt9 b_s, sV cur.b]) :: Ms_s) := by
 refine Fc.go [.tmp 2] Tryz.func18 Tryz.ntmps18 rfl (fun w0 => (WC.perm (M' := ((b_t, ce9 79 [pt9 b_s, sV cur.b]) :: (Ms_s ++ []))) (by simp) (g9 9 ?_)))
 refine W.ok (Xi Zbt rfl rfl) (g9 11 ?_)
 refine W.call (Mp := Ms_s) (Zs5 h_s t) rfl (pmC pr9) ?_
 intro v5 G2 Ms4 hG2 q3
 refine match q3 with | ⟨eeq3, _, e_7, hv1⟩ => ?_
 subst e_7
 have eeq3 := eeq3.symm
 subst eeq3
 refine W.perm (pmC pr9).symm ?_
 have q9 := hv1.form
 refine match q9 with | ⟨sa_hv1, sc_hv1, e_8⟩ => ?_
 subst e_8
 refine g9 4 ?_
 refine ⟨.inr rfl, [_], ⟨rfl, trivial⟩, ((b_t, ce9 79 [pt9 b_s, sV cur.b]) :: (Ms_s ++ [])), sr9.k9, ?_⟩
 exact ⟨hv1, congrArg _ (List.append_nil _)⟩

theorem Zs7 {G : GH} {b_t : Nat} {b_s : Nat} {c : Cfg} {l : List Nd} {ss : List Seat} {Ms_s : MH} (h_s : StR 60 4 3 189 139 b_s c G l Ms_s) (t : Tree c l ss) {cur : Str} :
    Fc Tryz.prog 25 [pt9 b_t] G ((b_t, ce9 79 [pt9 b_s, sV cur.b]) :: (Ms_s)) (fun v G' M' => v = iV ((Za l 0).level + 1) ∧ M' = (b_t, ce9 79 [pt9 b_s, sV cur.b]) :: Ms_s) := by
 have hh9 := t.height
 rw [t.rootn] at hh9
 have hl9 := (t.seat t.root).1.1.2.1
 rw [t.rootn] at hl9
 refine Fc.go [.tmp 2] Tryz.func25 Tryz.ntmps25 rfl (fun w0 => (WC.perm (M' := ((b_t, ce9 79 [pt9 b_s, sV cur.b]) :: (Ms_s ++ []))) (by simp) (g9 9 ?_)))
 refine W.ok (Xi Zbt rfl rfl) (g9 11 ?_)
 refine W.call (Mp := Ms_s) (Zaq h_s 0) rfl (pmC pr9) ?_
 intro v13 G10 Ms12 hG10 q11
 refine match q11 with | ⟨⟨_, e_15, ⟨_, _, _, _, _, _, _, _, e_16, hp_hR14, hk_hR14, hm_hR14, hr_hR14, hok_hR14⟩⟩, eeq11⟩ => ?_
 subst e_15
 subst e_16
 have eeq11 := eeq11.symm
 subst eeq11
 refine W.perm (pmC pr9).symm (g9 3 ?_)
 refine W.alloc Zm (fun b17 => (g9 13 ?_))
 refine ⟨.inr rfl, [_], ⟨rfl, trivial⟩, ((b_t, ce9 79 [pt9 b_s, sV cur.b]) :: (Ms_s ++ [])), sr9.k9.cons _, ?_⟩
 exact ⟨rfl, congrArg _ (List.append_nil _)⟩

theorem Zs8 {G : GH} {cs_n : List Value} {n : Nd} (h_n : NodeC G cs_n n) :
    Fc Tryz.prog 58 [.agg (List.toArray cs_n)] G [] (fun v _ _ => v = .bool (isM n)) := by
 obtain ⟨_, _, _, _, _, _, _, _, rfl, hp_n, hk_n, hm_n, hr_n, hok_n⟩ := h_n
 refine Fc.go [.tmp 2] Tryz.func58 Tryz.ntmps58 rfl (fun w0 => (g9 2 ?_))
 refine W.box (L := [iV _, iV _, lV _ _ _, lV _ _ _, sV _, .bool _, iV _, iV _, lV _ _ _, lV _ _ _]) rfl rfl (fun b18 => (g9 14 ?_))
 rfl

theorem Zs9 {G : GH} {v_l : Value} {l : List Nd} (h_l : SlR Zv G v_l l) :
    Fc Tryz.prog 111 [v_l, .func (.func 58) #[] #[]] G [] (fun v _ _ => v = iV (Yf isM l)) := by
 obtain ⟨sa_l, sc_l, rfl⟩ := h_l.form
 have hl := h_l.len47
 refine Fc.go [.tmp 4] Tryz.func111 Tryz.ntmps111 rfl (fun w0 => (g9 14 ?_))
 refine WC.loop (X := Nat) (fun k => [(8, nt9 k), (0, lV sa_l l.length sc_l), (1, .func (.func 58) #[] #[]), (7, nt9 ((l).length))]) (fun k _ Ml => Ml = [] ∧ k ≤ l.length ∧ ∀ j (h : j < l.length), j < k → isM l[j] = false) (fun k => l.length - k) 0 hs9 ?_ ?_
 ·exact ⟨rfl, om9, fun j _ h => by omega⟩
 rintro k gG19 G19 _ hG19 ⟨rfl, hk, hj⟩
 refine g9 6 ?_
 refine WC.cd (fun h9 p9 => ?_) (fun h9 p9 => ?_)
 ·refine g9 15 ?_
  refine (h_l.mono hG19).aN (i := k) om9 (fun _ _ _ _ _ _ _ _ he20 hp_n21 hk_n21 hm_n21 hr_n21 hok_n21 => (g9 2 ?_))
  refine W.qcallV (fst := []) (caps := []) rfl (Zs8 (nk9 hp_n21 hk_n21 hm_n21 hr_n21 hok_n21)) rfl (g9 2 ?_)
  refine WC.cond rfl (fun h16 => ?_) (fun h16 => ?_)
  ·refine g9 13 ?_
   refine congrArg (Value.int .i64) ?_
   exact (Zdy (q := isM) om9 h16 hj).symm
  refine g9 8 ?_
  exact ⟨Le.rfl, k + 1, hs9, ⟨rfl, om9, fun j h hji => by
      by_cases e2 : j = k
      · subst e2; exact h16
      · exact hj j h om9⟩, om9⟩
 refine g9 12 ?_
 refine congrArg (Value.int .i64) ?_
 exact (Zdz (q := isM) (fun j h => hj j om9 om9)).symm

theorem Zta {G : GH} {v_l : Value} {l : List Nd} (h_l : SlR Zv G v_l l) :
    Fc Tryz.prog 57 [v_l, .func (.func 58) #[] #[]] G [] (fun v _ _ => v = .bool (decide ((0 : Int) ≤ Yf isM l))) := by
 obtain ⟨sa_l, sc_l, rfl⟩ := h_l.form
 refine Fc.go [.tmp 4] Tryz.func57 Tryz.ntmps57 rfl (fun w0 => (g9 9 ?_))
 refine W.qcall (Zs9 h_l) rfl (g9 6 ?_)
 rfl

theorem Ztb {G : GH} {b_t b_s : Nat} {c : Cfg} {l : List Nd} {ss : List Seat} {cur : Str} {Ms_t : MH} (h_t : BtR 60 4 3 189 139 79 b_t b_s c G (l, cur) Ms_t) (t : Tree c l ss) (pk : Int) (pkey : Str) (phi : Str) (po : Bool) (pv : Str) (pl : Int) (k : Int) (hgr : Grown c k l) (hk9 : k ≤ 1000000000) :
    Fc Tryz.prog 14 [pt9 b_t, .agg #[iV pk, sV pkey.b, sV phi.b, .bool po, sV pv.b, iV pl]] G Ms_t (fun v G' M' => ∃ a l', DoP c k (⟨pk, pkey, phi, po, pv, pl⟩ : Opr) l a l' ∧ (∃ cs, v = .agg (List.toArray cs) ∧ AnsC G' cs a) ∧ BtR 60 4 3 189 139 79 b_t b_s c G' (l', cur) M') := by
 have h1 := pkey.le
 have h2 := phi.le
 have h3 := pv.le
 refine Fc.go [.cell 4 38] Tryz.func14 Tryz.ntmps14 rfl (fun w0 => (WC.perm (M' := (Ms_t ++ [])) (by simp) (g9 2 ?_)))
 refine W.box (L := [iV _, sV _, sV _, .bool _, sV _, iV _]) rfl rfl (fun b1 => (W.alloc ZkW (fun b2 => (g9 6 ?_))))
 refine W.ok (Xi Zbt rfl rfl) (g9 9 ?_)
 refine W.qcall (Zlw _ _ _ _ _ _) rfl (g9 9 ?_)
 refine WC.cn (fun h12 p12 => ?_) (fun h12 p12 => ?_)
 ·try dsimp only at p12
  have hR : ¬ Opr.R (⟨pk, pkey, phi, po, pv, pl⟩ : Opr) := fun hq => by rw [if_pos hq] at p12; exact p12 rfl
  have h39 : (if Opr.R (⟨pk, pkey, phi, po, pv, pl⟩ : Opr) then (0 : Int) else 3) = 3 := if_neg hR
  refine g9 3 ?_
  refine W.ok (Ya (L := [iV _, .bool _, sV _, lV _ _ _]) ZrH ZkW rfl rfl rfl) (g9 5 ?_)
  refine ⟨.inr rfl, [_], ⟨⟨_, _, _, _, _, rfl, YI (i := 0) rfl, ZcN, (by simp), rfl, rfl⟩, trivial⟩, Ms_t, ((List.sublist_append_left _ _).cons _).cons _, ?_⟩
  exact ⟨⟨(if Opr.R (⟨pk, pkey, phi, po, pv, pl⟩ : Opr) then (0 : Int) else 3), false, Str.nil, []⟩, l, by rw [h39]; exact DoP.bad t hgr hR, ⟨_, rfl, _, _, rfl, SlR.nil, by rw [h39]; exact ⟨by decide, by decide⟩⟩, h_t⟩
 try dsimp only at p12
 have hR : Opr.R (⟨pk, pkey, phi, po, pv, pl⟩ : Opr) := by
   by_cases hq : Opr.R (⟨pk, pkey, phi, po, pv, pl⟩ : Opr)
   · exact hq
   rw [if_neg hq] at p12; omega
 have hks := hR.1.2.2.1
 have hk6 := hR.1.2.1
 have hk7 := hR.1.1
 dsimp only at hks hk6 hk7
 refine g9 16 ?_
 refine WC.cd (fun h22 p22 => ?_) (fun h22 p22 => ?_)
 ·try dsimp only at p22
  obtain ⟨Msbt3, eMbt3, hBbt3⟩ := h_t
  subst eMbt3
  have hSbt3 : StR 60 4 3 189 139 b_s c G l Msbt3 := hBbt3
  refine WC.perm (M' := ((b_t, ce9 79 [pt9 b_s, sV cur.b]) :: ((b2, ce9 38 [iV 0, .bool false, sV ⟨#[]⟩, lV none 0 0]) :: ((b1, ce9 34 [iV pk, sV pkey.b, sV phi.b, .bool po, sV pv.b, iV pl]) :: (Msbt3 ++ []))))) (pmD (pmD pr9)).symm (WC.dw ((sn9.k9.cons _).k9) (d9 [0, 1, 2, 3, 4, 5] ?_))
  refine WD.a1 6 rfl (W.call (Mp := Msbt3) (Zs2 hSbt3 t pkey) rfl (pmC (pmC (pmC pr9))) ?_)
  intro v7 G4 Ms6 hG4 q5
  refine match q5 with | ⟨eeq5, e_9⟩ => ?_
  subst e_9
  have eeq5 := eeq5.symm
  subst eeq5
  refine W.perm (pmC (pmC (pmC pr9))).symm (W.nn (d9 [7, 8, 9, 10, 11, 12, 13] ?_))
  refine WD.done (by kernel_rfl) (JV (Xg (g9 6 ?_)))
  have hB10 : BtR 60 4 3 189 139 79 b_t b_s c G4 (l, cur) ((b_t, ce9 79 [pt9 b_s, sV cur.b]) :: Msbt3) := ⟨_, rfl, (StR.mono hG4 hSbt3)⟩
  refine WC.perm (M' := ((b2, ce9 38 [iV 0, .bool ((Zi (Zl l) pkey).isSome), sV ((Zi (Zl l) pkey).getD Str.nil).b, lV none 0 0]) :: ((b1, ce9 34 [iV pk, sV pkey.b, sV phi.b, .bool po, sV pv.b, iV pl]) :: (((b_t, ce9 79 [pt9 b_s, sV cur.b]) :: Msbt3) ++ [])))) ((pmC (pmC pr9)).symm.trans (((pmC (pmC pr9)).cons _).trans pr9)) (WC.ret ?_)
  refine ⟨.inr rfl, [_], ⟨⟨_, _, _, _, _, rfl, YI (i := 0) rfl, ZcN, (by simp), rfl, rfl⟩, trivial⟩, ((b_t, ce9 79 [pt9 b_s, sV cur.b]) :: Msbt3), ((List.sublist_append_left _ _).cons _).cons _, ?_⟩
  exact ⟨_, l, DoP.get t hgr hR p22, ⟨_, rfl, _, _, rfl, SlR.nil, (show i64 0 from ⟨by decide, by decide⟩)⟩, hB10⟩
 try dsimp only at p22
 refine g9 6 ?_
 refine WC.cd (fun h36 p36 => ?_) (fun h36 p36 => ?_)
 ·try dsimp only at p36
  have hxs9 : (Opr.span (⟨pk, pkey, phi, po, pv, pl⟩ : Opr)).lo.b.size ≤ 300 ∧ (Opr.span (⟨pk, pkey, phi, po, pv, pl⟩ : Opr)).hi.b.size ≤ 300 := by
    rw [Opr.span, if_pos (.inr p36)]
    have h8 := hR.1
    dsimp only at h8 ⊢
    omega
  have hin9 : i64 pl := by
    have h8 := hR.2.2.2.1 p36
    dsimp only at h8
    exact ⟨om9, om9⟩
  obtain ⟨Msbt11, eMbt11, hBbt11⟩ := h_t
  subst eMbt11
  have hSbt11 : StR 60 4 3 189 139 b_s c G l Msbt11 := hBbt11
  refine WC.perm (M' := ((b_t, ce9 79 [pt9 b_s, sV cur.b]) :: ((b2, ce9 38 [iV 0, .bool false, sV ⟨#[]⟩, lV none 0 0]) :: ((b1, ce9 34 [iV pk, sV pkey.b, sV phi.b, .bool po, sV pv.b, iV pl]) :: (Msbt11 ++ []))))) (pmD (pmD pr9)).symm (WC.dw ((sn9.k9.cons _).k9) (d9 [0, 1, 2, 3, 4, 6, 7] ?_))
  refine WD.a1 5 rfl (W.qcall (Zlv _ _ _ _ _ _ (by first | assumption | omega | (dsimp only; omega))) rfl (W.nn (WD.a1 8 rfl (W.call (Mp := Msbt11) (Zlj hSbt11 t (Opr.span (⟨pk, pkey, phi, po, pv, pl⟩ : Opr)).lo (Opr.span (⟨pk, pkey, phi, po, pv, pl⟩ : Opr)).hi (Opr.span (⟨pk, pkey, phi, po, pv, pl⟩ : Opr)).opn pl hxs9 hin9) rfl (pmC (pmC (pmC pr9))) ?_))))
  intro v16 G13 Ms15 hG13 q14
  refine match q14 with | ⟨eeq14, _, e_18, hv12⟩ => ?_
  subst e_18
  have eeq14 := eeq14.symm
  subst eeq14
  refine W.perm (pmC (pmC (pmC pr9))).symm ?_
  have q20 := hv12.form
  refine match q20 with | ⟨sa_hv12, sc_hv12, e_19⟩ => ?_
  subst e_19
  refine W.nn (d9 [9, 10] ?_)
  refine WD.done (by kernel_rfl) (JV (Xg (g9 6 ?_)))
  have hB21 : BtR 60 4 3 189 139 79 b_t b_s c G13 (l, cur) ((b_t, ce9 79 [pt9 b_s, sV cur.b]) :: Msbt11) := ⟨_, rfl, (StR.mono hG13 hSbt11)⟩
  refine WC.perm (M' := ((b2, ce9 38 [iV 0, .bool false, sV ⟨#[]⟩, lV sa_hv12 (Ji (Zl l) (Opr.span (⟨pk, pkey, phi, po, pv, pl⟩ : Opr)) pl).length sc_hv12]) :: ((b1, ce9 34 [iV pk, sV pkey.b, sV phi.b, .bool po, sV pv.b, iV pl]) :: (((b_t, ce9 79 [pt9 b_s, sV cur.b]) :: Msbt11) ++ [])))) ((pmC (pmC pr9)).symm.trans (((pmC (pmC pr9)).cons _).trans pr9)) (WC.ret ?_)
  refine ⟨.inr rfl, [_], ⟨⟨_, _, _, _, _, rfl, YI (i := 0) rfl, ZcN, (by simp), rfl, rfl⟩, trivial⟩, ((b_t, ce9 79 [pt9 b_s, sV cur.b]) :: Msbt11), ((List.sublist_append_left _ _).cons _).cons _, ?_⟩
  exact ⟨_, l, DoP.scan t hgr hR p36, ⟨_, rfl, _, _, rfl, hv12, (show i64 0 from ⟨by decide, by decide⟩)⟩, hB21⟩
 try dsimp only at p36
 refine g9 3 ?_
 refine W.call (Mp := Ms_t) (Zs1 h_t t pk pkey phi po pv pl k hR om9 hgr hk9) rfl (pmC (pmC pr9)) ?_
 intro v28 G25 Ms27 hG25 q26
 refine match q26 with | ⟨e22, l23, hW24, e_30, hR29⟩ => ?_
 subst e_30
 refine W.perm (pmC (pmC pr9)).symm (g9 12 ?_)
 refine ⟨.inr rfl, [_], ⟨⟨_, _, _, _, _, rfl, YI (i := 0) rfl, ZcN, (by simp), rfl, rfl⟩, trivial⟩, Ms27, ((List.sublist_append_left _ _).cons _).cons _, ?_⟩
 exact ⟨⟨e22, false, Str.nil, []⟩, l23, DoP.wr hR p22 p36 hW24, ⟨_, rfl, _, _, rfl, SlR.nil, by rcases hW24.r with ⟨h, _⟩ | ⟨h, _⟩ <;> rw [h] <;> exact ⟨by decide, by decide⟩⟩, hR29⟩

theorem ZgJ {G : GH} {b_t b_s : Nat} {c : Cfg} {l : List Nd} {ss : List Seat} {cur : Str} {Ms_t : MH} (h_t : BtR 60 4 3 189 139 79 b_t b_s c G (l, cur) Ms_t) (t : Tree c l ss) :
    Fc Tryz.prog 15 [pt9 b_t] G Ms_t (fun v G' M' => ∃ N r, Ym c cur N l 0 0 = some r ∧ v = .tuple #[iV r.1, iV r.2.1] ∧ BtR 60 4 3 189 139 79 b_t b_s c G' (r.2.2, (if (Zn r.2.2 cur).s.opn = true then Str.nil else (Zn r.2.2 cur).s.hi)) M') := by
 have hp9 := t.pos
 obtain ⟨N9, r9, hN9, hr9⟩ := Zgh t cur
 obtain ⟨sT, tT, hmT⟩ := ZbV N9 t ⟨Int.le_refl _, om9⟩ hr9
 refine Fc.go [.tmp 2, .tmp 3] Tryz.func15 Tryz.ntmps15 rfl (fun w0 => (WC.perm (M' := (Ms_t ++ [])) (by simp) (g9 10 ?_)))
 refine W.ok (Xi Zbt rfl rfl) (g9 6 ?_)
 obtain ⟨Msbt31, eMbt31, hBbt31⟩ := h_t
 subst eMbt31
 have hSbt31 : StR 60 4 3 189 139 b_s c G l Msbt31 := hBbt31
 refine WC.perm (M' := ((b_t, ce9 79 [pt9 b_s, sV cur.b]) :: (Msbt31 ++ []))) pr9.symm (WC.dw sn9.k9 (d9 [0, 1, 2, 3, 4, 5, 6, 7] ?_))
 refine WD.a1 8 rfl (W.call (Mp := Msbt31) (Zlt hSbt31 t cur rfl N9 r9 hr9 om9) rfl (pmC pr9) ?_)
 intro v35 G32 Ms34 hG32 q33
 refine match q33 with | ⟨e_37, hR36⟩ => ?_
 subst e_37
 refine W.perm (pmC pr9).symm (W.nn (d9 [9, 10, 11, 12, 13] ?_))
 refine g9 3 ?_
 refine WC.dw (sn9.cons _) (d9 [0, 1, 2, 3, 5, 6, 7] ?_)
 refine WD.any [4, 8] (by kernel_rfl) rfl ⟨WD.ap ?_, WD.ap ?_, trivial⟩
 ·refine g9 1 ?_
  refine W.nn (WD.a1 8 rfl (g9 1 ?_))
  refine W.nn (WD.a1 9 rfl (W.call (Mp := Ms34) (Zli hR36 tT cur) rfl (pmC pr9) ?_))
  intro v41 G38 Ms40 hG38 q39
  refine match q39 with | ⟨eeq39, e_43⟩ => ?_
  subst e_43
  have eeq39 := eeq39.symm
  subst eeq39
  refine W.perm (pmC pr9).symm (W.nn (d9 [10, 11, 12] ?_))
  refine g9 10 ?_
  have hB44 : BtR 60 4 3 189 139 79 b_t b_s c G38 (r9.2.2, (if (Zn r9.2.2 cur).s.opn = true then Str.nil else (Zn r9.2.2 cur).s.hi)) ((b_t, ce9 79 [pt9 b_s, sV (if (Zn r9.2.2 cur).s.opn = true then Str.nil else (Zn r9.2.2 cur).s.hi).b]) :: Ms34) := ⟨_, rfl, (StR.mono hG38 hR36)⟩
  refine WC.perm (M' := (((b_t, ce9 79 [pt9 b_s, sV (if (Zn r9.2.2 cur).s.opn = true then Str.nil else (Zn r9.2.2 cur).s.hi).b]) :: Ms34) ++ [])) (pr9.symm.trans ((pr9.cons _).trans pr9)) (WC.ret ?_)
  refine ⟨.inr rfl, [_, _], ⟨rfl, rfl, trivial⟩, ((b_t, ce9 79 [pt9 b_s, sV (if (Zn r9.2.2 cur).s.opn = true then Str.nil else (Zn r9.2.2 cur).s.hi).b]) :: Ms34), List.sublist_append_left _ _, ?_⟩
  exact ⟨N9, r9, hr9, rfl, hB44⟩
 refine g9 1 ?_
 refine W.nn (WD.a1 4 rfl (g9 1 ?_))
 refine W.nn (WD.a1 9 rfl (W.call (Mp := Ms34) (Zli hR36 tT cur) rfl (pmC pr9) ?_))
 intro v48 G45 Ms47 hG45 q46
 refine match q46 with | ⟨eeq46, e_50⟩ => ?_
 subst e_50
 have eeq46 := eeq46.symm
 subst eeq46
 refine W.perm (pmC pr9).symm (W.nn (d9 [10, 11, 12] ?_))
 refine g9 10 ?_
 have hB51 : BtR 60 4 3 189 139 79 b_t b_s c G45 (r9.2.2, (if (Zn r9.2.2 cur).s.opn = true then Str.nil else (Zn r9.2.2 cur).s.hi)) ((b_t, ce9 79 [pt9 b_s, sV (if (Zn r9.2.2 cur).s.opn = true then Str.nil else (Zn r9.2.2 cur).s.hi).b]) :: Ms34) := ⟨_, rfl, (StR.mono hG45 hR36)⟩
 refine WC.perm (M' := (((b_t, ce9 79 [pt9 b_s, sV (if (Zn r9.2.2 cur).s.opn = true then Str.nil else (Zn r9.2.2 cur).s.hi).b]) :: Ms34) ++ [])) (pr9.symm.trans ((pr9.cons _).trans pr9)) (WC.ret ?_)
 refine ⟨.inr rfl, [_, _], ⟨rfl, rfl, trivial⟩, ((b_t, ce9 79 [pt9 b_s, sV (if (Zn r9.2.2 cur).s.opn = true then Str.nil else (Zn r9.2.2 cur).s.hi).b]) :: Ms34), List.sublist_append_left _ _, ?_⟩
 exact ⟨N9, r9, hr9, rfl, hB51⟩

theorem Ztc {G : GH} (cfan : Int) (cleaf : Int) (cbud : Int) (cslots : Int) (crest : Int) :
    Fc Tryz.prog 10 [.agg #[iV cfan, iV cleaf, iV cbud, iV cslots, iV crest]] G [] (fun v G' M' => (¬ CfgR (⟨cfan, cleaf, cbud, cslots, crest⟩ : Cfg) ∧ v = .tuple #[.pointer none, iV 2] ∧ M' = []) ∨ (CfgR (⟨cfan, cleaf, cbud, cslots, crest⟩ : Cfg) ∧ ∃ bt bs, v = .tuple #[pt9 bt, iV 0] ∧ BtR 60 4 3 189 139 79 bt bs (⟨cfan, cleaf, cbud, cslots, crest⟩ : Cfg) G' ([XR 0], Str.nil) M')) := by
 refine Fc.go [.tmp 2, .tmp 3] Tryz.func10 Tryz.ntmps10 rfl (fun w0 => (g9 2 ?_))
 refine W.box (L := [iV _, iV _, iV _, iV _, iV _]) rfl rfl (fun b1 => (g9 7 ?_))
 refine W.call (Mp := []) (ZuK (cfan) (cleaf) (cbud) (cslots) (crest)) rfl pr9 ?_
 intro v5 G2 Ms4 hG2 q3
 refine Or.elim q3 (fun q6 => ?_) (fun q7 => ?_)
 ·refine match q6 with | ⟨hnc, e_8, e_9⟩ => ?_
  subst e_8
  subst e_9
  refine g9 25 ?_
  exact .inl ⟨hnc, rfl, rfl⟩
 refine match q7 with | ⟨hC, bSt, e_10, hS9⟩ => ?_
 subst e_10
 refine W.perm (pmC pr9).symm (g9 20 ?_)
 refine W.ok (Ya (L := [.pointer _, sV _]) ZrO ZrN rfl rfl rfl) (W.box (L := [.pointer _, sV _]) rfl rfl (fun b11 => (g9 5 ?_)))
 refine ⟨.inr rfl, [_, _], ⟨rfl, rfl, trivial⟩, ((b11, ce9 79 [pt9 bSt, sV ⟨#[]⟩]) :: Ms4), ((List.sublist_append_left _ _).cons _).k9, ?_⟩
 exact .inr ⟨hC, _, _, rfl, _, rfl, hS9⟩

theorem Zem {G : GH} {b_t b_s : Nat} {c : Cfg} {l : List Nd} {ss : List Seat} {cur : Str} {M : MH} (h : BtR 60 4 3 189 139 79 b_t b_s c G (l, cur) M) (t : Tree c l ss) : Fc Tryz.prog 19 [pt9 b_t] G M (fun v G' M' => SlR Zv G' v l ∧ M' = M) := by
  obtain ⟨Ms, rfl, hS⟩ := h
  exact ZsY hS t
theorem Ztd {G : GH} {b_t b_s : Nat} {c : Cfg} {l : List Nd} {ss : List Seat} {cur : Str} {M : MH} (h : BtR 60 4 3 189 139 79 b_t b_s c G (l, cur) M) (t : Tree c l ss) : Fc Tryz.prog 22 [pt9 b_t] G M (fun v G' M' => v = iV (l.length : Int) ∧ M' = M) := by
  obtain ⟨Ms, rfl, hS⟩ := h
  exact ZsZ hS t
theorem Zte {G : GH} {b_t b_s : Nat} {c : Cfg} {l : List Nd} {ss : List Seat} {cur : Str} {M : MH} (h : BtR 60 4 3 189 139 79 b_t b_s c G (l, cur) M) (t : Tree c l ss) : Fc Tryz.prog 18 [pt9 b_t] G M (fun v G' M' => SlR Zp G' v (Zl l) ∧ M' = M) := by
  obtain ⟨Ms, rfl, hS⟩ := h
  exact Zs6 hS t
theorem Ztf {G : GH} {b_t b_s : Nat} {c : Cfg} {l : List Nd} {ss : List Seat} {cur : Str} {M : MH} (h : BtR 60 4 3 189 139 79 b_t b_s c G (l, cur) M) (t : Tree c l ss) : Fc Tryz.prog 25 [pt9 b_t] G M (fun v G' M' => v = iV ((Za l 0).level + 1) ∧ M' = M) := by
  obtain ⟨Ms, rfl, hS⟩ := h
  exact Zs7 hS t
theorem Ztg {G : GH} {b_t b_s : Nat} {c : Cfg} {l : List Nd} {ss : List Seat} {cur : Str} {Ms_t : MH} (h_t : BtR 60 4 3 189 139 79 b_t b_s c G (l, cur) Ms_t) (t : Tree c l ss) :
    Fc Tryz.prog 21 [pt9 b_t] G Ms_t (fun v G' M' => v = .bool (Xd l) ∧ M' = Ms_t) := by
 refine Fc.go [.tmp 2] Tryz.func21 Tryz.ntmps21 rfl (fun w0 => (WC.perm (M' := (Ms_t ++ [])) (by simp) (g9 8 ?_)))
 refine W.call (Mp := Ms_t) (Zem h_t t) rfl pr9 ?_
 intro v4 G1 Ms3 hG1 q2
 refine match q2 with | ⟨hR5, eeq2⟩ => ?_
 have eeq2 := eeq2.symm
 subst eeq2
 have q7 := hR5.form
 refine match q7 with | ⟨sa_hR5, sc_hR5, e_6⟩ => ?_
 subst e_6
 refine W.qcall (Zta hR5) rfl (g9 5 ?_)
 refine ⟨.inr rfl, [_], ⟨rfl, trivial⟩, Ms_t, List.sublist_append_left _ _, ?_⟩
 exact ⟨congrArg Value.bool (ZqK l), rfl⟩

theorem Zth {G : GH} {b_t b_s : Nat} {c : Cfg} {l : List Nd} {ss : List Seat} {cur : Str} {Ms_t : MH} (h_t : BtR 60 4 3 189 139 79 b_t b_s c G (l, cur) Ms_t) (t : Tree c l ss) :
    Fc Tryz.prog 16 [pt9 b_t] G Ms_t (fun v G' M' => ∃ e l' cur', v = iV e ∧ DrP c l e l' ∧ BtR 60 4 3 189 139 79 b_t b_s c G' (l', cur') M') := by
 refine Fc.go [.tmp 2] Tryz.func16 Tryz.ntmps16 rfl (fun w0 => (WC.perm (M' := (Ms_t ++ [])) (by simp) (g9 9 ?_)))
 refine W.ok (Xi Zbt rfl rfl) (g9 12 ?_)
 refine WC.loop (X := ((List Nd × Str) × Int) × MH) (fun x => [(3, iV x.1.2), (0, pt9 b_t)]) (fun x G Ml => Ml = (x.2 ++ []) ∧ BtR 60 4 3 189 139 79 b_t b_s c G (x.1.1) x.2 ∧ DrI c l x.1.1.1 x.1.1.2 x.1.2) (fun x => muD c x.1.1.1 x.1.1.2 x.1.2) ((((l, cur), 1) : (List Nd × Str) × Int), Ms_t) hs9 ?_ ?_
 ·exact ⟨rfl, (by exact h_t), Zq2 t cur⟩
 rintro ⟨⟨⟨L, cu⟩, d⟩, M_0⟩ gG1 G1 _ hG1 ⟨rfl, ho_0, hI⟩
 try dsimp only at ho_0 hI
 obtain ⟨T8, t9⟩ := hI.t
 refine WC.fr (f := ZX gG1 [(3, iV d), (0, pt9 b_t)]) rfl (g9 4 ?_)
 refine W.call (Mp := M_0) (Ztg ho_0 t9) rfl pr9 ?_
 intro v5 G2 Ms4 hG2 q3
 refine match q3 with | ⟨e_7, eeq3⟩ => ?_
 subst e_7
 have eeq3 := eeq3.symm
 subst eeq3
 refine g9 3 ?_
 refine WC.cond rfl (fun h10 => ?_) (fun h10 => ?_)
 ·have hq9 : Xd L = false := by simpa using h10
  refine g9 5 ?_
  obtain ⟨Msbt8, eMbt8, hBbt8⟩ := (BtR.mono hG2 ho_0)
  subst eMbt8
  have hSbt8 : StR 60 4 3 189 139 b_s c G2 L Msbt8 := hBbt8
  refine WC.perm (M' := ((b_t, ce9 79 [pt9 b_s, sV cu.b]) :: (Msbt8 ++ []))) pr9.symm (g9 8 ?_)
  refine WC.cd (fun h15 p15 => ?_) (fun h15 p15 => ?_)
  ·try dsimp only at p15
   refine g9 7 ?_
   refine WC.cd (fun h17 p17 => ?_) (fun h17 p17 => ?_)
   ·try dsimp only at p17
    refine g9 5 ?_
    have hB9 : BtR 60 4 3 189 139 79 b_t b_s c G2 (L, cu) ((b_t, ce9 79 [pt9 b_s, sV cu.b]) :: Msbt8) := ⟨_, rfl, hSbt8⟩
    refine WC.perm (M' := (((b_t, ce9 79 [pt9 b_s, sV cu.b]) :: Msbt8) ++ [])) (pr9.symm.trans ((pr9.cons _).trans pr9)) (g9 7 ?_)
    refine ⟨.inr rfl, [_], ⟨rfl, trivial⟩, ((b_t, ce9 79 [pt9 b_s, sV cu.b]) :: Msbt8), List.sublist_append_left _ _, ?_⟩
    exact ⟨4, L, _, rfl, Zq5 hI (Str.ext' p15) p17 hq9, hB9⟩
   try dsimp only at p17
   refine g9 7 ?_
   have hB10 : BtR 60 4 3 189 139 79 b_t b_s c G2 (L, cu) ((b_t, ce9 79 [pt9 b_s, sV cu.b]) :: Msbt8) := ⟨_, rfl, hSbt8⟩
   refine WC.perm (M' := (((b_t, ce9 79 [pt9 b_s, sV cu.b]) :: Msbt8) ++ [])) (pr9.symm.trans ((pr9.cons _).trans pr9)) (g9 2 ?_)
   refine W.call (Mp := ((b_t, ce9 79 [pt9 b_s, sV cu.b]) :: Msbt8)) (ZgJ hB10 t9) rfl pr9 ?_
   intro v14 G11 Ms13 hG11 q12
   refine match q12 with | ⟨N9, r9, hr9, e_16, hR15⟩ => ?_
   subst e_16
   have hst9 := ZkH hI (fun _ => p17) hr9
   rw [if_pos (Str.ext' p15)] at hst9
   have hbd9 := ZkG hst9.1
   have hbe9 := hst9.1.d0
   refine g9 15 ?_
   exact ⟨lec, ((((r9.2.2, Jd r9.2.2 cu), 0 + r9.1) : (List Nd × Str) × Int), Ms13), hs9, ⟨rfl, (by exact hR15), hst9.1⟩, hst9.2⟩
  try dsimp only at p15
  refine g9 3 ?_
  have hB17 : BtR 60 4 3 189 139 79 b_t b_s c G2 (L, cu) ((b_t, ce9 79 [pt9 b_s, sV cu.b]) :: Msbt8) := ⟨_, rfl, hSbt8⟩
  refine WC.perm (M' := (((b_t, ce9 79 [pt9 b_s, sV cu.b]) :: Msbt8) ++ [])) (pr9.symm.trans ((pr9.cons _).trans pr9)) (g9 2 ?_)
  refine W.call (Mp := ((b_t, ce9 79 [pt9 b_s, sV cu.b]) :: Msbt8)) (ZgJ hB17 t9) rfl pr9 ?_
  intro v21 G18 Ms20 hG18 q19
  refine match q19 with | ⟨N9, r9, hr9, e_23, hR22⟩ => ?_
  subst e_23
  have hcu : ¬ cu = Str.nil := fun e => p15 (by rw [e]; rfl)
  have hst9 := ZkH hI (fun e => absurd e hcu) hr9
  rw [if_neg hcu] at hst9
  have hbd9 := ZkG hst9.1
  have hbe9 := hst9.1.d0
  refine g9 15 ?_
  exact ⟨lec, ((((r9.2.2, Jd r9.2.2 cu), d + r9.1) : (List Nd × Str) × Int), Ms20), hs9, ⟨rfl, (by exact hR22), hst9.1⟩, hst9.2⟩
 have hq9 : Xd L = true := by simpa using h10
 refine g9 11 ?_
 refine ⟨.inr rfl, [_], ⟨rfl, trivial⟩, M_0, List.sublist_append_left _ _, ?_⟩
 exact ⟨0, L, _, rfl, Zq4 hI hq9, (BtR.mono hG2 ho_0)⟩

end Go.Proofs.YtbbemibbmbmamaaGreat
namespace Go.Fw
open Go Go.RowKit
def X0 (b : Int) : Nat → Int → Int
  | 0, _ => 0
  | n + 1, x => if b ≤ x then 1 + X0 b n (x / b) else 0
def JT (b x : Int) : Int := X0 b x.toNat x
def ZcT (f l : Int) : Int := if l < 2 then 1 else 2 + JT (max f 4 / 2) (l / 2)

theorem ZcU {b x : Int} (hb : 2 ≤ b) (hx : b ≤ x) : 0 ≤ x / b ∧ x / b < x := by
  refine ⟨Int.ediv_nonneg (by omega) (by omega), Int.ediv_lt_self_of_pos_of_ne_one (by omega) (by omega)⟩
theorem Zti {b : Int} (hb : 2 ≤ b) : ∀ (n m : Nat) (x : Int), x.toNat ≤ n → x.toNat ≤ m → X0 b n x = X0 b m x := by
  intro n
  induction n with
  | zero =>
    intro m x hn hm
    cases m with
    | zero => rfl
    | succ m => rw [X0, X0, if_neg (by omega)]
  | succ n ih =>
    intro m x hn hm
    cases m with
    | zero => rw [X0, X0, if_neg (by omega)]
    | succ m =>
      rw [X0, X0]
      split
      · rename_i h
        have := ZcU hb h
        rw [ih m (x / b) (by omega) (by omega)]
      · rfl
theorem Zlk {b x : Int} (hb : 2 ≤ b) (hx : b ≤ x) : JT b x = 1 + JT b (x / b) := by
  unfold JT
  obtain ⟨n, hn⟩ : ∃ n, x.toNat = n + 1 := ⟨x.toNat - 1, by omega⟩
  have := ZcU hb hx
  rw [hn, X0, if_pos hx, Zti hb n (x / b).toNat _ (by omega) (Nat.le_refl _)]
theorem Ztj {b x : Int} (hb : 2 ≤ b) (hx : x < b) : JT b x = 0 := by
  unfold JT
  cases hn : x.toNat with
  | zero => rfl
  | succ n => rw [X0, if_neg (by omega)]
theorem Zll {b : Int} : ∀ (n : Nat) (x : Int), 0 ≤ X0 b n x ∧ X0 b n x ≤ n
  | 0, _ => by simp [X0]
  | n + 1, x => by
    rw [X0]
    split
    · have := Zll (b := b) n (x / b); omega
    · omega
theorem Zen {b x : Int} (hx : 0 ≤ x) : 0 ≤ JT b x ∧ JT b x ≤ x := by
  have := Zll (b := b) x.toNat x
  unfold JT; omega

theorem Zlm {b : Int} (hb : 2 ≤ b) : ∀ (m : Nat) (x : Int), b ^ m ≤ x → (m : Int) ≤ JT b x
  | 0, x, h => by
    have : (1 : Int) ≤ x := by simpa using h
    have := (Zen (b := b) (x := x) (by omega)).1
    omega
  | m + 1, x, h => by
    have hp : (1 : Int) ≤ b ^ m := Int.pow_pos (by omega)
    have h1 : b ^ m * b ≤ x := by rw [← Int.pow_succ]; exact h
    have hx : b ≤ x := by
      have : 1 * b ≤ b ^ m * b := Int.mul_le_mul_of_nonneg_right hp (by omega)
      omega
    rw [Zlk hb hx]
    have := Zlm hb m (x / b) ((Int.le_ediv_iff_mul_le (by omega)).2 h1)
    omega
section
variable {c : Cfg} {l : List Nd} {ss : List Seat}
theorem Zln {f : Seat → List Seat} {m : Nat} : ∀ {L : List Seat}, (∀ x ∈ L, m ≤ (f x).length) → L.length * m ≤ (L.flatMap f).length
  | [], _ => by simp
  | x :: L, h => by
    have ih := Zln (f := f) (m := m) (L := L) fun y hy => h y (List.mem_cons_of_mem _ hy)
    have h1 := h x (by simp)
    rw [List.flatMap_cons, List.length_append, List.length_cons, Nat.succ_mul]; omega
theorem Zlo (t : Tree c l ss) {x : Seat} (hx : x ∈ ss) (h0 : ¬ x.n.level = 0) : (Zj l x).length = x.n.kids.length := (t.kidsD_at hx h0).1
theorem Ztk (t : Tree c l ss) (k : Nat) : ∀ y ∈ lvK l k, y ∈ ss := fun y hy => by
  obtain ⟨A, R, h1, h2, _⟩ := ZcL t k
  rw [h1]; exact List.mem_append_right _ (by rw [h2]; exact List.mem_append_left _ hy)
theorem Zlp (t : Tree c l ss) (hF : FillL c l) : ∀ k : Nat, (k : Int) + 1 ≤ (Zg l 0).n.level → 2 * (c.fan / 2).toNat ^ k ≤ (lvK l (k + 1)).length
  | 0, h => by
    have hr : ¬ (Zg l 0).n.level = 0 := by omega
    have e : lvK l 1 = Zj l (Zg l 0) := by show [Zg l 0].flatMap (Zj l) = _; simp
    rw [e, Zlo t t.root hr]
    have := (t.inner t.root hr).1.2.1
    simpa using this
  | k + 1, h => by
    have ih := Zlp t hF k (by omega)
    have h1 : (lvK l (k + 1)).length * (c.fan / 2).toNat ≤ (lvK l (k + 1 + 1)).length := Zln fun x hx => by
      have hxs := Ztk t (k + 1) x hx
      obtain ⟨A, R, _, _, _, _, h5⟩ := ZcL t (k + 1)
      have hxl := h5 x hx
      have h0 : ¬ x.n.level = 0 := by omega
      rw [Zlo t hxs h0]
      have hs : ¬ x.n.slot = 0 := fun e => by
        have := t.uniq hxs t.root (by rw [e, t.root0])
        rw [this] at hxl
        omega
      obtain ⟨⟨c1, _⟩, _⟩ := t.cfg
      rcases hF _ (t.nd hxs).2.2 with h | h | h
      · exact absurd h hs
      · exact absurd h h0
      · rw [Zke c1] at h; omega
    have h2 : 2 * (c.fan / 2).toNat ^ k * (c.fan / 2).toNat ≤ (lvK l (k + 1)).length * (c.fan / 2).toNat := Nat.mul_le_mul_right _ ih
    rw [Nat.pow_succ, ← Nat.mul_assoc]
    omega
theorem Ztl (t : Tree c l ss) (hF : FillL c l) : (Zg l 0).n.level + 1 ≤ ZcT c.fan ((Zx ss 0).length : Nat) := by
  have hl := t.lvl t.root
  obtain ⟨⟨c1, _⟩, _⟩ := t.cfg
  have hb : 2 ≤ max c.fan 4 / 2 := by omega
  unfold ZcT
  by_cases h0 : (Zg l 0).n.level = 0
  · rw [h0]
    split
    · omega
    · have := (Zen (b := max c.fan 4 / 2) (x := ((Zx ss 0).length : Int) / 2) (by omega)).1
      omega
  · obtain ⟨k, hk⟩ : ∃ k : Nat, (Zg l 0).n.level = (k : Int) + 1 := ⟨((Zg l 0).n.level - 1).toNat, by omega⟩
    have h1 := Zlp t hF k (by omega)
    have h2 := ZcM t (k + 1)
    rw [show (Zg l 0).n.level - ((k + 1 : Nat) : Int) = 0 by omega] at h2
    rw [← h2] at h1
    have hp : 1 ≤ (c.fan / 2).toNat ^ k := Nat.pow_pos (by omega)
    rw [if_neg (by omega)]
    have h3 : ((c.fan / 2).toNat : Int) ^ k ≤ ((Zx ss 0).length : Int) / 2 := by
      have : ((((c.fan / 2).toNat ^ k : Nat)) : Int) ≤ ((Zx ss 0).length : Int) / 2 := by omega
      rw [← Int.natCast_pow]; exact this
    have e : max c.fan 4 / 2 = ((c.fan / 2).toNat : Int) := by omega
    rw [e]
    have := Zlm (b := ((c.fan / 2).toNat : Int)) (by omega) k _ h3
    omega
theorem Ztm (t : Tree c l ss) : lfN l = (Zx ss 0).length := by
  have h1 : (ss.map fun x : Seat => x.n.slot).Perm (l.map fun n : Nd => n.slot) := t.perm_s
  have key : (ss.map fun x : Seat => x.n).Perm l := by
    have hss : ∀ x ∈ ss, x.n = Za l x.n.slot := fun x hx => (t.nd hx).2.1
    have hll : ∀ n ∈ l, n = Za l n.slot := fun n hn => by
      obtain ⟨i, hi, rfl⟩ := List.getElem_of_mem hn
      rw [(t.slot i hi).1, Ju hi]
    have h2 := h1.map (Za l)
    rw [List.map_map, List.map_map] at h2
    have e1 : ss.map (Za l ∘ fun x : Seat => x.n.slot) = ss.map fun x : Seat => x.n := List.map_congr_left fun x hx => (hss x hx).symm
    have e2 : l.map (Za l ∘ fun n : Nd => n.slot) = l := by
      have : l.map (Za l ∘ fun n : Nd => n.slot) = l.map id := List.map_congr_left fun n hn => (hll n hn).symm
      rw [this, List.map_id]
    rw [e1, e2] at h2
    exact h2
  unfold lfN Zx
  rw [← (key.filter fun n => decide (n.level = 0)).length_eq, List.filter_map, List.length_map]
  rfl
end
end Go.Fw
namespace Go.Proofs.YtbbemibbmbmamaaGreat
open Go Go.Fw Go.RowKit
attribute [local irreducible] Ok W WC
theorem ZcV {G : GH} (f : Int) (l : Int) (hf : i64 f) (hl : i64 l) :
    Fc Tryz.prog 31 [iV f, iV l] G [] (fun v _ _ => v = iV (ZcT f l)) := by
 obtain ⟨hf1, hf2⟩ := hf
 obtain ⟨hl1, hl2⟩ := hl
 have hb : 2 ≤ max f 4 / 2 := by omega
 refine Fc.go [.tmp 4] Tryz.func31 Tryz.ntmps31 rfl (fun w0 => (g9 12 ?_))
 refine WC.cd (fun h9 p9 => ?_) (fun h9 p9 => ?_)
 ·refine g9 8 ?_
  refine congrArg (Value.int .i64) ?_
  simp [ZcT, p9]
 refine g9 11 ?_
 refine W.ok (Zcf rfl rfl) (W.ok (Zce rfl rfl om9 om9 om9) (W.mv (W.ok (Zce rfl rfl om9 om9 om9) (g9 5 ?_))))
 refine WC.loop (X := Int × Int) (fun x => [(5, iV x.1), (6, iV (max f 4 / 2)), (7, iV x.2)]) (fun x _ Ml => Ml = [] ∧ 2 ≤ x.1 ∧ 0 ≤ x.2 ∧ x.2 ≤ l / 2 ∧ x.1 + JT (max f 4 / 2) x.2 = 2 + JT (max f 4 / 2) (l / 2)) (fun x => x.2.toNat) (2, l / 2) hs9 ?_ ?_
 ·exact ⟨rfl, by dsimp only; omega, by dsimp only; omega, by dsimp only; omega, rfl⟩
 rintro ⟨h, y⟩ gG1 G1 _ hG1 ⟨rfl, h0, hy, hy2, hc⟩
 dsimp only at h0 hy hy2 hc
 have hB := (Zen (b := max f 4 / 2) (by omega : 0 ≤ l / 2)).2
 have hB2 := (Zen (b := max f 4 / 2) hy).1
 refine g9 8 ?_
 refine WC.cd (fun h17 p17 => ?_) (fun h17 p17 => ?_)
 ·dsimp only at p17
  refine g9 14 ?_
  refine W.ok (Zce rfl rfl (by dsimp only; omega) om9 (by dsimp only; omega)) (g9 3 ?_)
  exact ⟨Le.rfl, (h + 1, y / (max f 4 / 2)), hs9, ⟨rfl, by dsimp only; omega, (ZcU hb p17).1, by have := (ZcU hb p17).2; dsimp only; omega, by have := Zlk hb p17; dsimp only; omega⟩, by have := ZcU hb p17; dsimp only; omega⟩
 dsimp only at p17
 refine g9 13 ?_
 refine congrArg (Value.int .i64) ?_
 rw [Ztj hb om9] at hc
 rw [ZcT, if_neg p9]; omega

theorem Ztn {G : GH} {v_l : Value} {l : List Nd} (h_l : SlR Zv G v_l l) (h0 : l = []) :
    Fc Tryz.prog 70 [v_l] G [] (fun v _ _ => v = iV (0)) := by
 obtain ⟨sa_l, sc_l, rfl⟩ := h_l.form
 subst h0
 refine Fc.go [.tmp 2] Tryz.func70 Tryz.ntmps70 rfl (fun w0 => (g9 19 ?_))
 refine WC.loop (X := Unit) (fun x => [(3, iV 0), (7, iV (0 : Int)), (8, iV (0 : Int))]) (fun x _ Ml => Ml = []) (fun x => 0) () hs9 ?_ ?_
 ·exact rfl
 rintro x gG2 G2 _ hG2 rfl
 refine g9 6 ?_
 refine WC.cd (fun h9 p9 => ?_) (fun h9 p9 => ?_)
 ·exact absurd p9 om9
 refine g9 13 ?_
 rfl

theorem Zto {G : GH} {v_l : Value} {l : List Nd} (h_l : SlR Zv G v_l l) (h0 : l = []) :
    Fc Tryz.prog 33 [v_l] G [] (fun v _ _ => v = .bool (true)) := by
 obtain ⟨sa_l, sc_l, rfl⟩ := h_l.form
 subst h0
 refine Fc.go [.tmp 2] Tryz.func33 Tryz.ntmps33 rfl (fun w0 => (g9 8 ?_))
 refine W.qcall (Ztn h_l rfl) rfl (g9 6 ?_)
 rfl

theorem ZcW {G : GH}  :
    Fc Tryz.prog 27 [] G [] (fun v _ _ => v = .bool (true)) := by
 refine Fc.go [.tmp 0] Tryz.func27 Tryz.ntmps27 rfl (fun w0 => (g9 7 ?_))
 refine W.qcall (ZcV _ _ (by first | assumption | exact ⟨om9, om9⟩) (by first | assumption | exact ⟨om9, om9⟩)) rfl (g9 2 ?_)
 refine W.sd 3 (fun h2 p2 => ?_) (fun h2 p2 => ?_)
 ·refine g9 1 ?_
  refine W.qcall (ZcV _ _ (by first | assumption | exact ⟨om9, om9⟩) (by first | assumption | exact ⟨om9, om9⟩)) rfl (g9 4 ?_)
  refine W.sd 7 (fun h5 p5 => ?_) (fun h5 p5 => ?_)
  ·refine g9 1 ?_
   refine W.qcall (ZcV _ _ (by first | assumption | exact ⟨om9, om9⟩) (by first | assumption | exact ⟨om9, om9⟩)) rfl (g9 4 ?_)
   refine W.sd 11 (fun h9 p9 => ?_) (fun h9 p9 => ?_)
   ·refine g9 1 ?_
    refine W.qcall (ZcV _ _ (by first | assumption | exact ⟨om9, om9⟩) (by first | assumption | exact ⟨om9, om9⟩)) rfl (g9 4 ?_)
    refine W.sd 15 (fun h13 p13 => ?_) (fun h13 p13 => ?_)
    ·refine g9 1 ?_
     refine W.qcall (Zto SlR.nil rfl) rfl (g9 6 ?_)
     rfl
    exact absurd h13 (by decide +kernel)
   exact absurd h9 (by decide +kernel)
  exact absurd h5 (by decide +kernel)
 exact absurd h2 (by decide +kernel)

theorem Ztp {G : GH} {v_l : Value} {l : List Nd} (h_l : SlR Zv G v_l l) :
    Fc Tryz.prog 32 [v_l] G [] (fun v _ _ => v = nt9 (lfN l)) := by
 obtain ⟨sa_l, sc_l, rfl⟩ := h_l.form
 have hl := h_l.len47
 refine Fc.go [.tmp 2] Tryz.func32 Tryz.ntmps32 rfl (fun w0 => (g9 19 ?_))
 refine WC.loop (X := Nat) (fun i => [(3, nt9 ((lfN (l.take i)))), (8, nt9 i), (6, lV sa_l l.length sc_l), (7, nt9 ((l).length))]) (fun i _ Ml => Ml = [] ∧ i ≤ l.length) (fun i => l.length - i) 0 hs9 ?_ ?_
 ·exact ⟨rfl, om9⟩
 rintro i gG3 G3 _ hG3 ⟨rfl, hi⟩
 have hw9 := Zrh (l := l) (i := i)
 refine g9 6 ?_
 refine WC.cd (fun h9 p9 => ?_) (fun h9 p9 => ?_)
 ·refine g9 6 ?_
  refine (h_l.mono hG3).aN (i := i) om9 (fun _ _ _ _ _ _ _ _ he4 hp_n5 hk_n5 hm_n5 hr_n5 hok_n5 => (g9 2 ?_))
  refine W.alloc Zm (fun b8 => (g9 10 ?_))
  refine WC.cd (fun h14 p14 => ?_) (fun h14 p14 => ?_)
  ·refine g9 10 ?_
   refine W.sub (sr9.cons _) (g9 2 ?_)
   exact ⟨Le.rfl, i + 1, ⟨(iv (by rw [Zrf om9 p14]; omega)), eqv, eqv, eqv, trivial⟩, ⟨rfl, om9⟩, om9⟩
  refine g9 6 ?_
  refine W.sub (sr9.cons _) (g9 2 ?_)
  exact ⟨Le.rfl, i + 1, ⟨(iv (by rw [Zrg om9 p14])), eqv, eqv, eqv, trivial⟩, ⟨rfl, om9⟩, om9⟩
 refine g9 13 ?_
 exact iv (by rw [List.take_of_length_le om9])

theorem Ztq {G : GH} (cfan : Int) (cleaf : Int) (cbud : Int) (cslots : Int) (crest : Int) {v_l : Value} {l : List Act32} (h_l : SlR Zkv G v_l l) :
    Fc Tryz.prog 6 [.agg #[iV cfan, iV cleaf, iV cbud, iV cslots, iV crest], v_l] G [] (fun v _ _ => v = .bool (true)) := by
 obtain ⟨sa_l, sc_l, rfl⟩ := h_l.form
 have hl := h_l.len47
 refine Fc.go [.tmp 4] Tryz.func6 Tryz.ntmps6 rfl (fun w0 => (g9 2 ?_))
 refine W.box (L := [iV _, iV _, iV _, iV _, iV _]) rfl rfl (fun b9 => (g9 11 ?_))
 refine WC.cd (fun h12 p12 => ?_) (fun h12 p12 => ?_)
 ·try dsimp only at p12
  refine g9 2 ?_
  refine W.qcall (ZcW) rfl (g9 6 ?_)
  rfl
 try dsimp only at p12
 refine g9 5 ?_
 refine W.call (Mp := []) (Ztc cfan cleaf cbud cslots crest) rfl pr9 ?_
 intro v13 G10 Ms12 hG10 q11
 refine Or.elim q11 (fun q14 => ?_) (fun q15 => ?_)
 ·refine match q14 with | ⟨hnc, e_16, e_17⟩ => ?_
  subst e_16
  subst e_17
  refine g9 17 ?_
  refine W.qcall (ZcW) rfl (g9 6 ?_)
  rfl
 refine match q15 with | ⟨hC, b_t, b_s, e_18, hB9⟩ => ?_
 subst e_18
 refine W.perm (pmC pr9).symm (g9 26 ?_)
 refine WC.loop (X := (Nat × (List Nd × Str)) × MH) (fun x => [(24, nt9 x.1.1), (2, pt9 b9), (22, lV sa_l l.length sc_l), (23, nt9 ((l).length)), (5, pt9 b_t)]) (fun x G Ml => Ml = ((b9, ce9 23 [iV cfan, iV cleaf, iV cbud, iV cslots, iV crest]) :: (x.2 ++ [])) ∧ BtR 60 4 3 189 139 79 b_t b_s (⟨cfan, cleaf, cbud, cslots, crest⟩ : Cfg) G (x.1.2) x.2 ∧ x.1.1 ≤ l.length ∧ (∃ T, Tree (⟨cfan, cleaf, cbud, cslots, crest⟩ : Cfg) x.1.2.1 T) ∧ Grown (⟨cfan, cleaf, cbud, cslots, crest⟩ : Cfg) (x.1.1 : Int) x.1.2.1) (fun x => l.length - x.1.1) (((0, ([XR 0], Str.nil)) : Nat × (List Nd × Str)), Ms12) hs9 ?_ ?_
 ·exact ⟨rfl, (by exact hB9), Nat.zero_le _, ⟨_, ZqN hC⟩, ZqO⟩
 rintro ⟨⟨k, ⟨L, cu⟩⟩, M_5⟩ gG19 G19 _ hG19 ⟨rfl, ho_5, hk, hTr, hg⟩
 try dsimp only at ho_5 hk hTr hg
 obtain ⟨T8, t9⟩ := hTr
 have hcs : 1 ≤ cslots ∧ cslots ≤ 4096 := hC.2.2.2.1
 have hcf9 := hC
 unfold CfgR at hcf9
 dsimp only at hcf9
 have hif : i64 cfan := ⟨om9, om9⟩
 refine WC.fr (f := ZX gG19 [(24, nt9 k), (2, pt9 b9), (22, lV sa_l l.length sc_l), (23, nt9 ((l).length)), (5, pt9 b_t)]) rfl (g9 6 ?_)
 refine WC.cd (fun h25 p25 => ?_) (fun h25 p25 => ?_)
 ·try dsimp only at p25
  refine g9 6 ?_
  have q24 := (h_l.mono (hG10.trans hG19)).at (i := (k)) om9
  refine match q24 with | ⟨_, he20, ⟨e_23, ho_hm21, hf_hm21⟩⟩ => ?_
  subst e_23
  refine W.ok (Yu (i := (k)) Zeg ZkV (h_l.mono lec) rfl rfl ⟨om9, om9⟩) (g9 1 ?_)
  refine W.alloc Zrx (fun b25 => (g9 8 ?_))
  refine W.qcall (ZtE _ _ _ _ _ _ _) rfl (g9 3 ?_)
  refine WC.cond rfl (fun h31 => ?_) (fun h31 => ?_)
  ·refine g9 2 ?_
   refine W.qcall (ZcW) rfl (g9 11 ?_)
   rfl
  refine g9 7 ?_
  refine W.call (Mp := M_5) (Ztb ho_5 t9 l[k].o.kind l[k].o.key l[k].o.hi l[k].o.opn l[k].o.val l[k].o.lim (k : Int) hg om9) rfl (pmC (pmC pr9)) ?_
  intro v29 G26 Ms28 hG26 q27
  refine match q27 with | ⟨a9, l9, hD9, ⟨cs_a9, e_31, _, _, e_32, hw_a9, hok_a9⟩, hR30⟩ => ?_
  subst e_31
  subst e_32
  refine W.perm (pmC (pmC pr9)).symm ?_
  obtain ⟨T9, t10⟩ := hD9.t
  have hsl10 := t10.sml.1
  refine g9 7 ?_
  refine W.ok (Zev rfl rfl) (W.ok (Ok.int (n := (((max 0 (min (l[k]).fl 2)).toNat : Nat) : Int)) (Zcf rfl rfl) om9) (g9 4 ?_))
  refine WC.loop (X := (Nat × (List Nd × Str)) × MH) (fun y => [(41, nt9 y.1.1), (2, pt9 b9), (22, lV sa_l l.length sc_l), (23, nt9 ((l).length)), (24, nt9 k), (40, nt9 ((max 0 (min (l[k]).fl 2)).toNat)), (5, pt9 b_t)]) (fun y G Ml => Ml = ((b25, ce9 36 [iV ((l)[((k))]).o.kind, sV ((l)[((k))]).o.key.b, sV ((l)[((k))]).o.hi.b, .bool ((l)[((k))]).o.opn, sV ((l)[((k))]).o.val.b, iV ((l)[((k))]).o.lim, iV ((l)[((k))]).fl]) :: ((b9, ce9 23 [iV cfan, iV cleaf, iV cbud, iV cslots, iV crest]) :: (y.2 ++ []))) ∧ BtR 60 4 3 189 139 79 b_t b_s (⟨cfan, cleaf, cbud, cslots, crest⟩ : Cfg) G (y.1.2) y.2 ∧ (∃ T, Tree (⟨cfan, cleaf, cbud, cslots, crest⟩ : Cfg) y.1.2.1 T) ∧ Grown (⟨cfan, cleaf, cbud, cslots, crest⟩ : Cfg) ((k : Int) + 1) y.1.2.1) (fun y => 2 - y.1.1) (((0, (l9, cu)) : Nat × (List Nd × Str)), Ms28) hs9 ?_ ?_
  ·exact ⟨rfl, (by exact hR30), hD9.t, hD9.g⟩
  rintro ⟨⟨j, ⟨L2, cu2⟩⟩, M_5⟩ gG33 G33 _ hG33 ⟨rfl, ho_5, hTr2, hg2⟩
  try dsimp only at ho_5 hTr2 hg2
  obtain ⟨T10, t11⟩ := hTr2
  have hsl11 := t11.sml.1
  have hp11 := t11.pos
  have hrl9 := ZqR t11
  have hlv9 := ZkP t11 0
  have hlf9 := Ztm t11
  have hho9 := Ztl t11 hg2.fill
  refine WC.fr (f := ZX gG33 [(41, nt9 j), (2, pt9 b9), (22, lV sa_l l.length sc_l), (23, nt9 ((l).length)), (24, nt9 k), (40, nt9 ((max 0 (min (l[k]).fl 2)).toNat)), (5, pt9 b_t)]) rfl (g9 6 ?_)
  refine WC.cd (fun h42 p42 => ?_) (fun h42 p42 => ?_)
  ·try dsimp only at p42
   refine g9 6 ?_
   refine W.call (Mp := M_5) (ZgJ ho_5 t11) rfl (pmC (pmC pr9)) ?_
   intro v37 G34 Ms36 hG34 q35
   refine match q35 with | ⟨N9, r9, hr9, e_39, hR38⟩ => ?_
   subst e_39
   refine W.perm (pmC (pmC pr9)).symm ?_
   have hf9 := ZqP t11 hg2 hr9
   obtain ⟨T12, t12⟩ := hf9.1
   have hsl12 := t12.sml.1
   refine g9 8 ?_
   exact ⟨hG34, (((j + 1, (r9.2.2, Jd r9.2.2 cu2)) : Nat × (List Nd × Str)), Ms36), hs9, ⟨rfl, (by exact hR38), hf9.1, hf9.2.2.1⟩, by dsimp only; omega⟩
  try dsimp only at p42
  refine g9 8 ?_
  refine W.call (Mp := M_5) (Zem ho_5 t11) rfl (pmC (pmC pr9)) ?_
  intro v43 G40 Ms42 hG40 q41
  refine match q41 with | ⟨hR44, eeq41⟩ => ?_
  have eeq41 := eeq41.symm
  subst eeq41
  refine W.perm (pmC (pmC pr9)).symm ?_
  have q46 := hR44.form
  refine match q46 with | ⟨sa_hR44, sc_hR44, e_45⟩ => ?_
  subst e_45
  refine g9 4 ?_
  refine WC.dw (sn9.k9.k9) (d9 [0, 1] ?_)
  refine WD.a1 2 rfl (W.qcall ((ZtK cfan cleaf cbud cslots crest hR44 hif).mono (fun v _ _ _ hv => hv.trans (congrArg Value.bool ((Zru t11).trans (decide_eq_true ((ZkR t11).2 hg2.fill)))))) rfl (W.nn (d9 [3, 4, 5, 7, 8, 9] ?_)))
  refine WD.anyG [6] (by kernel_rfl) rfl ⟨⟨_, rfl, .inr ⟨_, 52, _, _, rfl, rfl, rfl, rfl, rfl⟩, (W.qcall (Zlx hR44 _ _ t11) rfl (W.nn (WD.anyG [10] (by kernel_rfl) rfl ⟨⟨_, rfl, .inr ⟨_, 52, _, _, rfl, rfl, rfl, rfl, rfl⟩, (W.qcall (Ztp hR44) rfl (W.nn (WD.anyG [11] (by kernel_rfl) rfl ⟨⟨_, rfl, .inr ⟨_, 52, _, _, rfl, rfl, rfl, rfl, rfl⟩, (W.qcall (ZcV cfan ((lfN L2 : Nat) : Int) hif ⟨om9, om9⟩) rfl (W.nn (d9 [12, 13, 14] ?_)))⟩, trivial⟩)))⟩, trivial⟩)))⟩, trivial⟩
  refine WD.sp 62 rfl (fun h60 => ?_) (fun h60 => ?_)
  ·have p60 := odt h60
   try dsimp only at p60
   exfalso; rw [← hlf9] at hho9; dsimp only at hho9; omega
  have p60 := odf h60
  try dsimp only at p60
  refine d9 [15, 17] ?_
  refine WD.anyG [16] (by kernel_rfl) rfl ⟨⟨_, rfl, .inr ⟨_, 62, _, _, rfl, rfl, rfl, h60, rfl⟩, (W.qcall (Zlx hR44 _ _ t11) rfl (W.nn (WD.anyG [18] (by kernel_rfl) rfl ⟨⟨_, rfl, .inr ⟨_, 62, _, _, rfl, rfl, rfl, h60, rfl⟩, (W.call (Mp := M_5) (Ztf (BtR.mono hG40 ho_5) t11) rfl (pmC (pmC pr9)) ?_)⟩, trivial⟩)))⟩, trivial⟩
  intro v50 G47 Ms49 hG47 q48
  refine match q48 with | ⟨e_52, eeq48⟩ => ?_
  subst e_52
  have eeq48 := eeq48.symm
  subst eeq48
  refine W.perm (pmC (pmC pr9)).symm (W.nn (d9 [19, 20] ?_))
  refine g9 2 ?_
  refine WC.cn (fun h67 p67 => ?_) (fun h67 p67 => ?_)
  ·try dsimp only at p67
   exfalso; exact p67 (by rw [t11.rootn])
  try dsimp only at p67
  refine g9 6 ?_
  refine W.sub (sr9.cons _) (g9 2 ?_)
  exact ⟨lec, (((k + 1, (L2, cu2)) : Nat × (List Nd × Str)), M_5), hs9, ⟨rfl, (by exact (BtR.mono lec ho_5)), by dsimp only; omega, ⟨T10, t11⟩, by have h9 := hg2; exact h9⟩, by dsimp only; omega⟩
 try dsimp only at p25
 refine g9 9 ?_
 refine W.call (Mp := M_5) (Zth ho_5 t9) rfl (pmC pr9) ?_
 intro v56 G53 Ms55 hG53 q54
 refine match q54 with | ⟨e9, ld9, cu9, e_58, hDr, hR57⟩ => ?_
 subst e_58
 refine W.perm (pmC pr9).symm ?_
 obtain ⟨ss, t⟩ := hDr.t
 have hST := t.sml
 have hsld := hST.1
 refine g9 3 ?_
 refine WC.cn (fun h72 p72 => ?_) (fun h72 p72 => ?_)
 ·try dsimp only at p72
  refine WC.seq (WC.dw sn9.k9 (d9 [0, 1, 2] ?_))
  refine WD.a1 3 rfl (W.call (Mp := Ms55) (Ztd hR57 t) rfl (pmC pr9) ?_)
  intro v62 G59 Ms61 hG59 q60
  refine match q60 with | ⟨e_64, eeq60⟩ => ?_
  subst e_64
  have eeq60 := eeq60.symm
  subst eeq60
  refine W.perm (pmC pr9).symm (W.nn (d9 [4, 5, 6] ?_))
  refine WD.sp 79 rfl (fun h78 => ?_) (fun h78 => ?_)
  ·have p78 := odt h78
   try dsimp only at p78
   refine WD.anyG [7] (by kernel_rfl) rfl ⟨⟨_, rfl, .inr ⟨_, 79, _, _, rfl, rfl, rfl, h78, rfl⟩, (W.qcall (ZcW) rfl (W.nn (d9 [8, 9] ?_)))⟩, trivial⟩
   refine g9 5 ?_
   rfl
  have p78 := odf h78
  try dsimp only at p78
  exfalso; rcases hDr.r with ⟨h8, _⟩ | ⟨_, _, h8⟩; exact p72 h8; dsimp only at h8; omega
 try dsimp only at p72
 have hq9 : Xd ld9 = true := by rcases hDr.r with ⟨_, h9⟩ | ⟨h8, _, _⟩; exact h9; omega
 refine g9 5 ?_
 refine W.call (Mp := Ms55) (Zem hR57 t) rfl (pmC pr9) ?_
 intro v68 G65 Ms67 hG65 q66
 refine match q66 with | ⟨hR69, eeq66⟩ => ?_
 have eeq66 := eeq66.symm
 subst eeq66
 refine W.perm (pmC pr9).symm ?_
 have q71 := hR69.form
 refine match q71 with | ⟨sa_hR69, sc_hR69, e_70⟩ => ?_
 subst e_70
 refine W.qcall ((ZtM hR69 hST).mono (fun v _ _ _ hv => hv.trans (congrArg Value.bool hq9))) rfl (g9 4 ?_)
 refine W.call (Mp := Ms55) (Zem (BtR.mono hG65 hR57) t) rfl (pmC pr9) ?_
 intro v75 G72 Ms74 hG72 q73
 refine match q73 with | ⟨hR76, eeq73⟩ => ?_
 have eeq73 := eeq73.symm
 subst eeq73
 refine W.perm (pmC pr9).symm ?_
 have q78 := hR76.form
 refine match q78 with | ⟨sa_hR76, sc_hR76, e_77⟩ => ?_
 subst e_77
 refine g9 1 ?_
 refine W.call (Mp := []) (Zt2 hR76 t) rfl pr9 ?_
 intro v82 G79 Ms81 hG79 q80
 refine match q80 with | ⟨e_84, hv83⟩ => ?_
 subst e_84
 have q87 := hv83.form
 refine match q87 with | ⟨sa_f85, sc_f85, e_86⟩ => ?_
 subst e_86
 refine g9 3 ?_
 refine W.call (Mp := Ms55) (Zte (BtR.mono lec hR57) t) rfl (pmC pr9) ?_
 intro v91 G88 Ms90 hG88 q89
 refine match q89 with | ⟨hR92, eeq89⟩ => ?_
 have eeq89 := eeq89.symm
 subst eeq89
 refine W.perm (pmC pr9).symm ?_
 have q94 := hR92.form
 refine match q94 with | ⟨sa_hR92, sc_hR92, e_93⟩ => ?_
 subst e_93
 refine g9 1 ?_
 refine W.qcall ((ZsI (hv83.mono hG88) hR92).mono (fun v _ _ _ hv => hv.trans (congrArg Value.bool (decide_eq_true (by rw [Zrt t, Zq8 t hq9]))))) rfl (g9 3 ?_)
 refine W.qcall (ZcW) rfl (g9 6 ?_)
 rfl

end Go.Proofs.YtbbemibbmbmamaaGreat
