/- Walks of parting a kid, by definition. -/
import Derived.Test.YtfmigmijckdldaaGreatQgVq
set_option maxRecDepth 100000
set_option maxHeartbeats 1600000
set_option linter.unusedVariables false
set_option linter.unusedSimpArgs false
set_option linter.unnecessarySimpa false
namespace Go.Proofs.YtfmigmijckdldaaGreat
open Go Go.Fw Go.RowKit
attribute [local irreducible] Ok W WC
theorem rhas25_fc {G : GH} {b_s : Nat} {c : Cfg} {v_l : Value} {l : List Nd} {Ms_l : MH} (h_l : OwnR eNode 53 G v_l l Ms_l) (i : Int) :
    Fc Tryz.prog 77 [pt9 b_s, iV i] G ((b_s, ce9 39 [iV c.fan, iV c.leaf, iV c.bud, iV c.slots, iV c.rest, v_l]) :: (Ms_l)) (fun v G' M' => v = .bool (decide (0 ≤ i ∧ i < (l.length : Int))) ∧ M' = (b_s, ce9 39 [iV c.fan, iV c.leaf, iV c.bud, iV c.slots, iV c.rest, v_l]) :: Ms_l) := by
 obtain ⟨sa_l, sc_l, rfl⟩ := h_l.form
 have hl := h_l.len47
 refine Fc.go [.tmp 4] Tryz.func77 Tryz.ntmps77 rfl (fun w0 => (WC.perm (M' := ((b_s, ce9 39 [iV c.fan, iV c.leaf, iV c.bud, iV c.slots, iV c.rest, lV sa_l l.length sc_l]) :: (Ms_l ++ []))) (by simp) (g9 10 ?_)))
 refine W.sd 7 (fun h6 p6 => ?_) (fun h6 p6 => ?_)
 ·refine g9 19 ?_
  refine ⟨.inr rfl, [_], ⟨rfl, trivial⟩, ((b_s, ce9 39 [iV c.fan, iV c.leaf, iV c.bud, iV c.slots, iV c.rest, lV sa_l l.length sc_l]) :: (Ms_l ++ [])), sr9.k9, ?_⟩
  refine ⟨congrArg Value.bool ?_, congrArg _ (List.append_nil _)⟩
  first | (simp_all; done) | (simp_all; omega)
 refine g9 12 ?_
 refine ⟨.inr rfl, [_], ⟨rfl, trivial⟩, ((b_s, ce9 39 [iV c.fan, iV c.leaf, iV c.bud, iV c.slots, iV c.rest, lV sa_l l.length sc_l]) :: (Ms_l ++ [])), sr9.k9, ?_⟩
 refine ⟨congrArg Value.bool ?_, congrArg _ (List.append_nil _)⟩
 first | (simp_all; done) | (simp_all; omega)

theorem rpart26_fc {G : GH} {b_s : Nat} {c : Cfg} {v_l : Value} {l : List Nd} {Ms_l : MH} (h_l : OwnR eNode 53 G v_l l Ms_l) (p : Int) (i : Nat) (hi9 : i64 ((i : Nat) : Int)) (hS : Sml l) (hSl : SlotsP l) :
    Fc Tryz.prog 36 [pt9 b_s, iV p, nt9 i] G ((b_s, ce9 39 [iV c.fan, iV c.leaf, iV c.bud, iV c.slots, iV c.rest, v_l]) :: (Ms_l)) (fun v G' M' => v = iV (partS c l p i).1 ∧ RfR 53 39 b_s c G' (partS c l p i).2 M') := by
 obtain ⟨sa_l, sc_l, rfl⟩ := h_l.form
 have hl := h_l.len47
 have hlb : l.length * 152 ≤ 140737488355328 := h_l.bytes
 have hl100 := hS.1
 have hi1 := hi9.1
 have hi2 := hi9.2
 have hyi : i64 (l.length : Int) := ⟨om9, om9⟩
 refine Fc.go [.tmp 6] Tryz.func36 Tryz.ntmps36 rfl (fun w0 => (WC.perm (M' := ((b_s, ce9 39 [iV c.fan, iV c.leaf, iV c.bud, iV c.slots, iV c.rest, lV sa_l l.length sc_l]) :: (Ms_l ++ []))) (by simp) (g9 10 ?_)))
 refine W.call (Mp := ((b_s, ce9 39 [iV c.fan, iV c.leaf, iV c.bud, iV c.slots, iV c.rest, lV sa_l l.length sc_l]) :: Ms_l)) (Mr := []) (rhas25_fc (c := c) h_l _) rfl ((pr9.cons _).trans pr9) ?_
 intro v4 G1 Ms3 hG1 q2
 refine match q2 with | ⟨e_5, e_6⟩ => ?_
 subst e_5
 subst e_6
 refine W.perm (M' := ((b_s, ce9 39 [iV c.fan, iV c.leaf, iV c.bud, iV c.slots, iV c.rest, lV sa_l l.length sc_l]) :: (Ms_l ++ []))) ((pr9.cons _).trans pr9).symm (g9 2 ?_)
 refine W.sm 18 (fun h17 p17 => ?_) (fun h17 p17 => ?_)
 ·try dsimp only at p17
  refine g9 42 ?_
  refine ⟨.inr rfl, [_], ⟨rfl, trivial⟩, ((b_s, ce9 39 [iV c.fan, iV c.leaf, iV c.bud, iV c.slots, iV c.rest, lV sa_l l.length sc_l]) :: (Ms_l ++ [])), sr9.k9, ?_⟩
  have hE := partS_8 (c := c) (l := l) (p := p) (i := i) (.inl (by simp at h17; omega))
  exact ⟨congrArg (fun q : Int × List Nd => Value.int .i64 q.1) hE.symm, RfR.to ⟨_, _, congrArg _ (List.append_nil _), (h_l.mono hG1)⟩ (congrArg Prod.snd hE).symm⟩
 try dsimp only at p17
 have h1 : 0 ≤ p ∧ p < (l.length : Int) := by simpa using h17
 have hgp : getL l p = (l[p.toNat]'om9) := getL_nat h1
 refine g9 6 ?_
 refine W.sd 22 (fun h20 p20 => ?_) (fun h20 p20 => ?_)
 ·try dsimp only at p20
  exfalso; omega
 try dsimp only at p20
 refine g9 13 ?_
 refine (h_l.mono hG1).aN (i := p.toNat) om9 (fun _ _ _ _ _ _ _ _ he7 hp_n8 hk_n8 hm_n8 hr_n8 hok_n8 => (W.ok (ok_indexAddrO (i := p.toNat) sl24 ty53 (h_l.mono hG1) rfl rfl ⟨om9, om9⟩) (g9 3 ?_)))
 refine W.ok (ok_loadO (vs := lc9) ty50 he7 (pmC pr9) rfl rfl rfl (by simp)) (g9 6 ?_)
 refine W.sd 35 (fun h33 p33 => ?_) (fun h33 p33 => ?_)
 ·try dsimp only at p33
  refine g9 25 ?_
  refine ⟨.inr rfl, [_], ⟨rfl, trivial⟩, ((b_s, ce9 39 [iV c.fan, iV c.leaf, iV c.bud, iV c.slots, iV c.rest, lV sa_l l.length sc_l]) :: (Ms_l ++ [])), sr9.k9, ?_⟩
  have hE := partS_8 (c := c) (l := l) (p := p) (i := i) (.inr (.inl (by rw [hgp]; omega)))
  exact ⟨congrArg (fun q : Int × List Nd => Value.int .i64 q.1) hE.symm, RfR.to ⟨_, _, congrArg _ (List.append_nil _), (h_l.mono hG1)⟩ (congrArg Prod.snd hE).symm⟩
 try dsimp only at p33
 have h2 : ¬ (getL l p).kids.length ≤ i := by rw [hgp]; omega
 have hkd : ((l[p.toNat]'om9).kids[i]'om9) = kdN l p i := by unfold kdN; rw [hgp, List.getD_eq_getElem?_getD, List.getElem?_eq_getElem om9]; rfl
 refine g9 13 ?_
 refine (h_l.mono hG1).aN (i := p.toNat) om9 (fun _ _ _ _ _ _ _ _ he11 hp_n12 hk_n12 hm_n12 hr_n12 hok_n12 => (W.ok (ok_indexAddrO (i := p.toNat) sl24 ty53 (h_l.mono hG1) rfl rfl ⟨om9, om9⟩) (g9 3 ?_)))
 refine W.ok (ok_loadO (vs := lc9) ty50 he11 (pmC pr9) rfl rfl rfl (by simp)) (g9 3 ?_)
 refine hk_n12.a2 (i := i) om9 (fun he15 hi16 => (g9 4 ?_))
 refine W.call (Mp := ((b_s, ce9 39 [iV c.fan, iV c.leaf, iV c.bud, iV c.slots, iV c.rest, lV sa_l l.length sc_l]) :: Ms_l)) (Mr := []) (rhas25_fc (c := c) (h_l.mono hG1) _) rfl ((pr9.cons _).trans pr9) ?_
 intro v22 G19 Ms21 hG19 q20
 refine match q20 with | ⟨e_23, e_24⟩ => ?_
 subst e_23
 subst e_24
 refine W.perm (M' := ((b_s, ce9 39 [iV c.fan, iV c.leaf, iV c.bud, iV c.slots, iV c.rest, lV sa_l l.length sc_l]) :: (Ms_l ++ []))) ((pr9.cons _).trans pr9).symm (g9 5 ?_)
 refine WC.cn (fun h49 p49 => ?_) (fun h49 p49 => ?_)
 ·try dsimp only at p49
  refine g9 7 ?_
  refine ⟨.inr rfl, [_], ⟨rfl, trivial⟩, ((b_s, ce9 39 [iV c.fan, iV c.leaf, iV c.bud, iV c.slots, iV c.rest, lV sa_l l.length sc_l]) :: (Ms_l ++ [])), sr9.k9, ?_⟩
  have hE := partS_8 (c := c) (l := l) (p := p) (i := i) (.inr (.inr (by rw [← hkd]; simp at h49; omega)))
  exact ⟨congrArg (fun q : Int × List Nd => Value.int .i64 q.1) hE.symm, RfR.to ⟨_, _, congrArg _ (List.append_nil _), (h_l.mono lec)⟩ (congrArg Prod.snd hE).symm⟩
 try dsimp only at p49
 have h3 : 0 ≤ kdN l p i ∧ kdN l p i < (l.length : Int) := by rw [← hkd]; simpa using h49
 have hgk : getL l (kdN l p i) = (l[(kdN l p i).toNat]'om9) := getL_nat h3
 have hks : ∀ m ∈ (l[(kdN l p i).toNat]'om9).msgs, m.key.b.size < 140737488355328 := fun m hm => by have := ((hS.2 _ (List.getElem_mem _)).2.2.2.2.2.1 m hm).1; omega
 have hz9 : (l[p.toNat]'om9).pivots.length ≤ 1000000 ∧ (l[p.toNat]'om9).kids.length ≤ 1000000 := by have := hS.2 (l[p.toNat]'om9) (List.getElem_mem _); exact ⟨by have := this.2.1; omega, by have := this.1; omega⟩
 refine g9 14 ?_
 refine (h_l.mono (hG1.trans hG19)).aN (i := p.toNat) om9 (fun _ _ _ _ _ _ _ _ he25 hp_n26 hk_n26 hm_n26 hr_n26 hok_n26 => (W.ok (ok_indexAddrO (i := p.toNat) sl24 ty53 (h_l.mono lec) rfl rfl ⟨om9, om9⟩) (W.ok (ok_loadO (vs := nd9) ty53 he25 (pmC pr9) rfl rfl rfl (by simp)) (W.qcall (rfull_fc _ _ _ _ _ (nk9 hp_n26 hk_n26 hm_n26 hr_n26 hok_n26)) rfl (g9 2 ?_)))))
 refine WC.cond rfl (fun h62 => ?_) (fun h62 => ?_)
 ·refine g9 7 ?_
  refine ⟨.inr rfl, [_], ⟨rfl, trivial⟩, ((b_s, ce9 39 [iV c.fan, iV c.leaf, iV c.bud, iV c.slots, iV c.rest, lV sa_l l.length sc_l]) :: (Ms_l ++ [])), sr9.k9, ?_⟩
  have hE := partS_9 (c := c) (l := l) (p := p) (i := i) h1 h2 h3 (by rw [hgp]; simpa using h62)
  exact ⟨congrArg (fun q : Int × List Nd => Value.int .i64 q.1) hE.symm, RfR.to ⟨_, _, congrArg _ (List.append_nil _), (h_l.mono lec)⟩ (congrArg Prod.snd hE).symm⟩
 have h4 : fullN c (getL l p) = false := by rw [hgp]; simpa using h62
 refine g9 12 ?_
 refine WC.join (X := (Unit) × Nat × List Value × Nat × List Value) (fun u7 => [(10, sV (cleaveN (l[(kdN l p i).toNat]'om9) (l.length : Int)).2.2.1.b), (11, .bool (cleaveN (l[(kdN l p i).toNat]'om9) (l.length : Int)).2.2.2), (0, pt9 b_s), (1, iV p), (2, nt9 i), (7, nt9 ((l).length)), (8, .pointer (some ⟨u7.2.1, 0, none⟩)), (9, .pointer (some ⟨u7.2.2.2.1, 0, none⟩))]) (fun u7 G Ml => Ml = ((u7.2.1, .cells (List.toArray u7.2.2.1) 53 (0, 0)) :: ((u7.2.2.2.1, .cells (List.toArray u7.2.2.2.2) 53 (0, 0)) :: ((b_s, ce9 39 [iV c.fan, iV c.leaf, iV c.bud, iV c.slots, iV c.rest, lV sa_l l.length sc_l]) :: (Ms_l ++ [])))) ∧ NodeC G u7.2.2.1 ((cleaveN (l[(kdN l p i).toNat]'om9) (l.length : Int)).1) ∧ NodeC G u7.2.2.2.2 ((cleaveN (l[(kdN l p i).toNat]'om9) (l.length : Int)).2.1)) ?_ ?_
 ·refine WC.dw sr9.k9 (d9 [0, 1, 2, 3, 4, 5, 6, 7, 8] ?_)
  refine (h_l.mono (hG1.trans hG19)).aN (i := p.toNat) om9 (fun _ _ _ _ _ _ _ _ he29 hp_n30 hk_n30 hm_n30 hr_n30 hok_n30 => (WD.tk 9 rfl (ok_indexAddrO (i := p.toNat) sl24 ty53 (h_l.mono lec) rfl rfl ⟨om9, om9⟩) (d9 [10] ?_)))
  refine WD.tk 11 rfl (ok_loadO (vs := lc9) ty50 he29 (pmC pr9) rfl rfl rfl (by simp)) (d9 [12] ?_)
  refine hk_n30.a2 (i := i) om9 (fun he33 hi34 => (d9 [13, 14] ?_))
  refine (h_l.mono (hG1.trans hG19)).aN (i := (kdN l p i).toNat) om9 (fun _ _ _ _ _ _ _ _ he37 hp_n38 hk_n38 hm_n38 hr_n38 hok_n38 => (WD.tk 15 rfl (ok_indexAddrO (i := (kdN l p i).toNat) sl24 ty53 (h_l.mono lec) rfl rfl ⟨om9, om9⟩) (WD.tk 16 rfl (ok_loadO (vs := nd9) ty53 he37 (pmC pr9) rfl rfl rfl (by simp)) (d9 [17] ?_))))
  refine WD.any [18, 24, 25] (by kernel_rfl) rfl ⟨WD.ap ?_, WD.ap ?_, WD.ap ?_, trivial⟩
  ·refine W.cM (rcleave_fc (nk9 hp_n38 hk_n38 hm_n38 hr_n38 hok_n38) (l.length : Int) hyi hks) rfl (fun pa_hv42 pc_hv42 ka_hv42 kc_hv42 ma_hv42 mc_hv42 ra_hv42 rc_hv42 pa_hv43 pc_hv43 ka_hv43 kc_hv43 ma_hv43 mc_hv43 ra_hv43 rc_hv43 G41 hG41 hp_hv42 hk_hv42 hm_hv42 hr_hv42 hok_hv42 hp_hv43 hk_hv43 hm_hv43 hr_hv43 hok_hv43 => (W.nn (d9 [19, 20, 21, 22, 23] ?_)))
   refine WD.any [24, 25] (by kernel_rfl) rfl ⟨WD.ap ?_, WD.ap ?_, trivial⟩
   ·refine W.alloc zr53 (fun b50 => (W.nn (WD.a1 25 rfl (W.alloc zr53 (fun b51 => (W.nn (d9 [26, 27, 28, 29] ?_)))))))
    refine WD.doneP (M' := ((b50, ce9 53 (ndl ((cleaveN (l[(kdN l p i).toNat]'om9) (l.length : Int)).1) pa_hv42 pc_hv42 ka_hv42 kc_hv42 ma_hv42 mc_hv42 ra_hv42 rc_hv42)) :: ((b51, ce9 53 (ndl ((cleaveN (l[(kdN l p i).toNat]'om9) (l.length : Int)).2.1) pa_hv43 pc_hv43 ka_hv43 kc_hv43 ma_hv43 mc_hv43 ra_hv43 rc_hv43)) :: ((b_s, ce9 39 [iV c.fan, iV c.leaf, iV c.bud, iV c.slots, iV c.rest, lV sa_l l.length sc_l]) :: (Ms_l ++ []))))) (by kernel_rfl) sr9 (List.Perm.swap _ _ _) (thn_n ?_)
    exact ⟨hG41, ((), b50, (ndl ((cleaveN (l[(kdN l p i).toNat]'om9) (l.length : Int)).1) pa_hv42 pc_hv42 ka_hv42 kc_hv42 ma_hv42 mc_hv42 ra_hv42 rc_hv42), b51, (ndl ((cleaveN (l[(kdN l p i).toNat]'om9) (l.length : Int)).2.1) pa_hv43 pc_hv43 ka_hv43 kc_hv43 ma_hv43 mc_hv43 ra_hv43 rc_hv43)), hs9, ⟨rfl, (by exact (nk9 hp_hv42 hk_hv42 hm_hv42 hr_hv42 hok_hv42)), (by exact (nk9 hp_hv43 hk_hv43 hm_hv43 hr_hv43 hok_hv43))⟩⟩
   refine W.alloc zr53 (fun b52 => (W.nn (WD.a1 24 rfl (W.alloc zr53 (fun b53 => (W.nn (d9 [26, 27, 28, 29] ?_)))))))
   refine g9 2 ?_
   exact ⟨hG41, ((), b53, (ndl ((cleaveN (l[(kdN l p i).toNat]'om9) (l.length : Int)).1) pa_hv42 pc_hv42 ka_hv42 kc_hv42 ma_hv42 mc_hv42 ra_hv42 rc_hv42), b52, (ndl ((cleaveN (l[(kdN l p i).toNat]'om9) (l.length : Int)).2.1) pa_hv43 pc_hv43 ka_hv43 kc_hv43 ma_hv43 mc_hv43 ra_hv43 rc_hv43)), hs9, ⟨rfl, (by exact (nk9 hp_hv42 hk_hv42 hm_hv42 hr_hv42 hok_hv42)), (by exact (nk9 hp_hv43 hk_hv43 hm_hv43 hr_hv43 hok_hv43))⟩⟩
  ·refine W.alloc zr53 (fun b54 => (W.nn ?_))
   refine WD.any [18, 25] (by kernel_rfl) rfl ⟨WD.ap ?_, WD.ap ?_, trivial⟩
   ·refine W.cM (rcleave_fc (nk9 hp_n38 hk_n38 hm_n38 hr_n38 hok_n38) (l.length : Int) hyi hks) rfl (fun pa_hv56 pc_hv56 ka_hv56 kc_hv56 ma_hv56 mc_hv56 ra_hv56 rc_hv56 pa_hv57 pc_hv57 ka_hv57 kc_hv57 ma_hv57 mc_hv57 ra_hv57 rc_hv57 G55 hG55 hp_hv56 hk_hv56 hm_hv56 hr_hv56 hok_hv56 hp_hv57 hk_hv57 hm_hv57 hr_hv57 hok_hv57 => (W.nn (d9 [19, 20, 21, 22, 23] ?_)))
    refine WD.a1 25 rfl (W.alloc zr53 (fun b64 => (W.nn (d9 [26, 27, 28, 29] ?_))))
    refine WD.doneP (M' := ((b54, ce9 53 (ndl ((cleaveN (l[(kdN l p i).toNat]'om9) (l.length : Int)).1) pa_hv56 pc_hv56 ka_hv56 kc_hv56 ma_hv56 mc_hv56 ra_hv56 rc_hv56)) :: ((b64, ce9 53 (ndl ((cleaveN (l[(kdN l p i).toNat]'om9) (l.length : Int)).2.1) pa_hv57 pc_hv57 ka_hv57 kc_hv57 ma_hv57 mc_hv57 ra_hv57 rc_hv57)) :: ((b_s, ce9 39 [iV c.fan, iV c.leaf, iV c.bud, iV c.slots, iV c.rest, lV sa_l l.length sc_l]) :: (Ms_l ++ []))))) (by kernel_rfl) sr9 (List.Perm.swap _ _ _) (thn_n ?_)
    exact ⟨hG55, ((), b54, (ndl ((cleaveN (l[(kdN l p i).toNat]'om9) (l.length : Int)).1) pa_hv56 pc_hv56 ka_hv56 kc_hv56 ma_hv56 mc_hv56 ra_hv56 rc_hv56), b64, (ndl ((cleaveN (l[(kdN l p i).toNat]'om9) (l.length : Int)).2.1) pa_hv57 pc_hv57 ka_hv57 kc_hv57 ma_hv57 mc_hv57 ra_hv57 rc_hv57)), hs9, ⟨rfl, (by exact (nk9 hp_hv56 hk_hv56 hm_hv56 hr_hv56 hok_hv56)), (by exact (nk9 hp_hv57 hk_hv57 hm_hv57 hr_hv57 hok_hv57))⟩⟩
   refine W.alloc zr53 (fun b65 => (W.nn (WD.a1 18 rfl (W.cM (rcleave_fc (nk9 hp_n38 hk_n38 hm_n38 hr_n38 hok_n38) (l.length : Int) hyi hks) rfl (fun pa_hv67 pc_hv67 ka_hv67 kc_hv67 ma_hv67 mc_hv67 ra_hv67 rc_hv67 pa_hv68 pc_hv68 ka_hv68 kc_hv68 ma_hv68 mc_hv68 ra_hv68 rc_hv68 G66 hG66 hp_hv67 hk_hv67 hm_hv67 hr_hv67 hok_hv67 hp_hv68 hk_hv68 hm_hv68 hr_hv68 hok_hv68 => (W.nn (d9 [19, 20, 21, 22, 23, 26, 27, 28, 29] ?_)))))))
   refine WD.doneP (M' := ((b54, ce9 53 (ndl ((cleaveN (l[(kdN l p i).toNat]'om9) (l.length : Int)).1) pa_hv67 pc_hv67 ka_hv67 kc_hv67 ma_hv67 mc_hv67 ra_hv67 rc_hv67)) :: ((b65, ce9 53 (ndl ((cleaveN (l[(kdN l p i).toNat]'om9) (l.length : Int)).2.1) pa_hv68 pc_hv68 ka_hv68 kc_hv68 ma_hv68 mc_hv68 ra_hv68 rc_hv68)) :: ((b_s, ce9 39 [iV c.fan, iV c.leaf, iV c.bud, iV c.slots, iV c.rest, lV sa_l l.length sc_l]) :: (Ms_l ++ []))))) (by kernel_rfl) sr9 (List.Perm.swap _ _ _) (thn_n ?_)
   exact ⟨hG66, ((), b54, (ndl ((cleaveN (l[(kdN l p i).toNat]'om9) (l.length : Int)).1) pa_hv67 pc_hv67 ka_hv67 kc_hv67 ma_hv67 mc_hv67 ra_hv67 rc_hv67), b65, (ndl ((cleaveN (l[(kdN l p i).toNat]'om9) (l.length : Int)).2.1) pa_hv68 pc_hv68 ka_hv68 kc_hv68 ma_hv68 mc_hv68 ra_hv68 rc_hv68)), hs9, ⟨rfl, (by exact (nk9 hp_hv67 hk_hv67 hm_hv67 hr_hv67 hok_hv67)), (by exact (nk9 hp_hv68 hk_hv68 hm_hv68 hr_hv68 hok_hv68))⟩⟩
  refine W.alloc zr53 (fun b75 => (W.nn ?_))
  refine WD.any [18, 24] (by kernel_rfl) rfl ⟨WD.ap ?_, WD.ap ?_, trivial⟩
  ·refine W.cM (rcleave_fc (nk9 hp_n38 hk_n38 hm_n38 hr_n38 hok_n38) (l.length : Int) hyi hks) rfl (fun pa_hv77 pc_hv77 ka_hv77 kc_hv77 ma_hv77 mc_hv77 ra_hv77 rc_hv77 pa_hv78 pc_hv78 ka_hv78 kc_hv78 ma_hv78 mc_hv78 ra_hv78 rc_hv78 G76 hG76 hp_hv77 hk_hv77 hm_hv77 hr_hv77 hok_hv77 hp_hv78 hk_hv78 hm_hv78 hr_hv78 hok_hv78 => (W.nn (d9 [19, 20, 21, 22, 23] ?_)))
   refine WD.a1 24 rfl (W.alloc zr53 (fun b85 => (W.nn (d9 [26, 27, 28, 29] ?_))))
   refine g9 2 ?_
   exact ⟨hG76, ((), b85, (ndl ((cleaveN (l[(kdN l p i).toNat]'om9) (l.length : Int)).1) pa_hv77 pc_hv77 ka_hv77 kc_hv77 ma_hv77 mc_hv77 ra_hv77 rc_hv77), b75, (ndl ((cleaveN (l[(kdN l p i).toNat]'om9) (l.length : Int)).2.1) pa_hv78 pc_hv78 ka_hv78 kc_hv78 ma_hv78 mc_hv78 ra_hv78 rc_hv78)), hs9, ⟨rfl, (by exact (nk9 hp_hv77 hk_hv77 hm_hv77 hr_hv77 hok_hv77)), (by exact (nk9 hp_hv78 hk_hv78 hm_hv78 hr_hv78 hok_hv78))⟩⟩
  refine W.alloc zr53 (fun b86 => (W.nn (WD.a1 18 rfl (W.cM (rcleave_fc (nk9 hp_n38 hk_n38 hm_n38 hr_n38 hok_n38) (l.length : Int) hyi hks) rfl (fun pa_hv88 pc_hv88 ka_hv88 kc_hv88 ma_hv88 mc_hv88 ra_hv88 rc_hv88 pa_hv89 pc_hv89 ka_hv89 kc_hv89 ma_hv89 mc_hv89 ra_hv89 rc_hv89 G87 hG87 hp_hv88 hk_hv88 hm_hv88 hr_hv88 hok_hv88 hp_hv89 hk_hv89 hm_hv89 hr_hv89 hok_hv89 => (W.nn (d9 [19, 20, 21, 22, 23, 26, 27, 28, 29] ?_)))))))
  refine g9 2 ?_
  exact ⟨hG87, ((), b86, (ndl ((cleaveN (l[(kdN l p i).toNat]'om9) (l.length : Int)).1) pa_hv88 pc_hv88 ka_hv88 kc_hv88 ma_hv88 mc_hv88 ra_hv88 rc_hv88), b75, (ndl ((cleaveN (l[(kdN l p i).toNat]'om9) (l.length : Int)).2.1) pa_hv89 pc_hv89 ka_hv89 kc_hv89 ma_hv89 mc_hv89 ra_hv89 rc_hv89)), hs9, ⟨rfl, (by exact (nk9 hp_hv88 hk_hv88 hm_hv88 hr_hv88 hok_hv88)), (by exact (nk9 hp_hv89 hk_hv89 hm_hv89 hr_hv89 hok_hv89))⟩⟩
 rintro ⟨u7, B_8, C_8, B_9, C_9⟩ gG96 G96 _ hG96 ⟨rfl, ho_8, ho_9⟩
 try dsimp only at ho_8 ho_9
 refine match ho_9 with | ⟨_, _, _, _, _, _, _, _, e_98, hp_nb97, hk_nb97, hm_nb97, hr_nb97, hok_nb97⟩ => ?_
 subst e_98
 refine match ho_8 with | ⟨_, _, _, _, _, _, _, _, e_100, hp_nb99, hk_nb99, hm_nb99, hr_nb99, hok_nb99⟩ => ?_
 subst e_100
 refine WC.fr (f := setL gG96 [(10, sV (cleaveN (l[(kdN l p i).toNat]'om9) (l.length : Int)).2.2.1.b), (11, .bool (cleaveN (l[(kdN l p i).toNat]'om9) (l.length : Int)).2.2.2), (0, pt9 b_s), (1, iV p), (2, nt9 i), (7, nt9 ((l).length)), (8, pt9 B_8), (9, pt9 B_9)]) rfl (g9 7 ?_)
 refine WC.cond rfl (fun h93 => ?_) (fun h93 => ?_)
 ·refine g9 7 ?_
  refine ⟨.inr rfl, [_], ⟨rfl, trivial⟩, ((b_s, ce9 39 [iV c.fan, iV c.leaf, iV c.bud, iV c.slots, iV c.rest, lV sa_l l.length sc_l]) :: (Ms_l ++ [])), (sr9.k9.cons _).cons _, ?_⟩
  have hE := partS_6 (c := c) (l := l) (p := p) (i := i) h1 h2 h3 h4 (.inl (by unfold cutP; rw [hgk]; simpa using h93))
  exact ⟨congrArg (fun q : Int × List Nd => Value.int .i64 q.1) hE.symm, RfR.to ⟨_, _, congrArg _ (List.append_nil _), (h_l.mono lec)⟩ (congrArg Prod.snd hE).symm⟩
 have h5 : (cutP l p i).2.2.2 = true := by unfold cutP; rw [hgk]; simpa using h93
 refine g9 9 ?_
 refine (h_l.mono ((hG1.trans hG19).trans hG96)).aN (i := p.toNat) om9 (fun _ _ _ _ _ _ _ _ he101 hp_n102 hk_n102 hm_n102 hr_n102 hok_n102 => (W.ok (ok_indexAddrO (i := p.toNat) sl24 ty53 (h_l.mono lec) rfl rfl ⟨om9, om9⟩) (W.ok (ok_loadO (vs := nd9) ty53 he101 (pmC (pmC (pmC pr9))) rfl rfl rfl (by simp)) (g9 3 ?_))))
 refine W.call (Mp := []) (ranat_fc (nk9 hp_n102 hk_n102 hm_n102 hr_n102 hok_n102) i (cleaveN (l[(kdN l p i).toNat]'om9) (l.length : Int)).2.2.1 (l.length : Int) hz9 hi9 hyi) rfl pr9 ?_
 intro _ G105 _ hG105 q107
 refine match q107 with | ⟨e_108, _, e_109, _, e_110, hv106⟩ => ?_
 subst e_108
 subst e_109
 subst e_110
 refine match hv106 with | ⟨_, _, _, _, _, _, _, _, e_111, hp_hv106, hk_hv106, hm_hv106, hr_hv106, hok_hv106⟩ => ?_
 subst e_111
 refine g9 3 ?_
 refine W.alloc zr53 (fun b112 => (g9 11 ?_))
 refine WC.cond rfl (fun h109 => ?_) (fun h109 => ?_)
 ·refine g9 7 ?_
  refine ⟨.inr rfl, [_], ⟨rfl, trivial⟩, ((b_s, ce9 39 [iV c.fan, iV c.leaf, iV c.bud, iV c.slots, iV c.rest, lV sa_l l.length sc_l]) :: (Ms_l ++ [])), ((sr9.k9.cons _).cons _).cons _, ?_⟩
  have hE := partS_6 (c := c) (l := l) (p := p) (i := i) h1 h2 h3 h4 (.inr (by unfold adP cutP; rw [hgk, hgp]; simpa using h109))
  exact ⟨congrArg (fun q : Int × List Nd => Value.int .i64 q.1) hE.symm, RfR.to ⟨_, _, congrArg _ (List.append_nil _), (h_l.mono lec)⟩ (congrArg Prod.snd hE).symm⟩
 have h6 : (adP l p i).2 = true := by unfold adP cutP; rw [hgk, hgp]; simpa using h109
 have e9 : adP l p i = (adoptN (l[p.toNat]'om9) i (cleaveN (l[(kdN l p i).toNat]'om9) (l.length : Int)).2.2.1 (l.length : Int)) := by unfold adP cutP; rw [hgk, hgp]
 have e5 : cutP l p i = (cleaveN (l[(kdN l p i).toNat]'om9) (l.length : Int)) := by unfold cutP; rw [hgk]
 have hs1 : (cleaveN (l[(kdN l p i).toNat]'om9) (l.length : Int)).1.slot = kdN l p i := by rw [← e5]; exact (cut_slots h5).1.trans (getL_slot hSl h3).1
 have hlst : ((l.set (kdN l p i).toNat (cleaveN (l[(kdN l p i).toNat]'om9) (l.length : Int)).1).set p.toNat (adoptN (l[p.toNat]'om9) i (cleaveN (l[(kdN l p i).toNat]'om9) (l.length : Int)).2.2.1 (l.length : Int)).1) ++ [(cleaveN (l[(kdN l p i).toNat]'om9) (l.length : Int)).2.1] = lstP l p i := by unfold lstP; rw [e9, e5, hs1]
 have hls : (l.set (kdN l p i).toNat (cleaveN (l[(kdN l p i).toNat]'om9) (l.length : Int)).1).length = l.length := List.length_set
 refine g9 14 ?_
 refine WC.cd (fun h116 p116 => ?_) (fun h116 p116 => ?_)
 ·try dsimp only at p116
  refine g9 7 ?_
  refine ⟨.inr rfl, [_], ⟨rfl, trivial⟩, ((b_s, ce9 39 [iV c.fan, iV c.leaf, iV c.bud, iV c.slots, iV c.rest, lV sa_l l.length sc_l]) :: (Ms_l ++ [])), ((sr9.k9.cons _).cons _).cons _, ?_⟩
  have hE := partS_4 (c := c) (l := l) (p := p) (i := i) h1 h2 h3 h4 h5 h6 om9
  exact ⟨congrArg (fun q : Int × List Nd => Value.int .i64 q.1) hE.symm, RfR.to ⟨_, _, congrArg _ (List.append_nil _), (h_l.mono lec)⟩ (congrArg Prod.snd hE).symm⟩
 try dsimp only at p116
 refine g9 3 ?_
 refine WC.dw (((sn9.k9.k9).k9).k9) (d9 [0, 1, 2, 3, 4, 5, 6] ?_)
 refine (h_l.mono (((hG1.trans hG19).trans hG96).trans hG105)).aN (i := (kdN l p i).toNat) om9 (fun _ _ _ _ _ _ _ _ he113 hp_n114 hk_n114 hm_n114 hr_n114 hok_n114 => (WD.tk 7 rfl (ok_indexAddrO (i := (kdN l p i).toNat) sl24 ty53 (h_l.mono lec) rfl rfl ⟨om9, om9⟩) (WD.a1 8 rfl (W.storeO (i := (kdN l p i).toNat) (o := 0) (vs := nd9) (a' := ((cleaveN (l[(kdN l p i).toNat]'om9) (l.length : Int))).1) ty53 rfl rfl rfl rfl rfl ((h_l.mono lec)) (pmC (pmC (pmC (pmC pr9)))) om9 (by decide) (fun cs h => by obtain ⟨_, _, _, _, _, _, _, _, rfl, _⟩ := h; exact (nm9 hG105 hp_nb99 hk_nb99 hm_nb99 hr_nb99 hok_nb99)) (fun Ms117 ho118 => (W.perm (pmC (pmC (pmC (pmC pr9)))).symm (W.nn (g9 3 ?_))))))))
 refine WC.dw (((sn9.k9.k9).k9).k9) (d9 [0, 1, 2, 3, 4, 5] ?_)
 refine ho118.aN (i := p.toNat) om9 (fun _ _ _ _ _ _ _ _ he119 hp_n120 hk_n120 hm_n120 hr_n120 hok_n120 => (WD.tk 6 rfl (ok_indexAddrO (i := p.toNat) sl24 ty53 ho118 rfl rfl ⟨om9, om9⟩) (WD.a1 7 rfl (W.storeO (i := p.toNat) (o := 0) (vs := nd9) (a' := ((adoptN (l[p.toNat]'om9) i (cleaveN (l[(kdN l p i).toNat]'om9) (l.length : Int)).2.2.1 (l.length : Int))).1) ty53 rfl rfl rfl rfl rfl (ho118) (pmC (pmC (pmC (pmC pr9)))) om9 (by decide) (fun cs h => by obtain ⟨_, _, _, _, _, _, _, _, rfl, _⟩ := h; exact (nk9 hp_hv106 hk_hv106 hm_hv106 hr_hv106 hok_hv106)) (fun Ms123 ho124 => (W.perm (pmC (pmC (pmC (pmC pr9)))).symm (W.nn (g9 3 ?_))))))))
 refine WC.dw ((((sn9.cons _).k9).k9).k9) (d9 [0, 1, 2, 3, 5] ?_)
 refine WD.any [4, 6] (by kernel_rfl) rfl ⟨WD.ap ?_, WD.ap ?_, trivial⟩
 ·refine g9 1 ?_
  refine W.nn (WD.a1 6 rfl (W.lit (e := eNode) (l := [(cleaveN (l[(kdN l p i).toNat]'om9) (l.length : Int)).2.1]) (css := [[iV _, iV _, lV _ _ _, lV _ _ _, sV _, .bool _, iV _, iV _, lV _ _ _, lV _ _ _]]) sl24 ty53 zr53 rfl rfl rfl rfl rfl rfl ⟨(nm9 hG105 hp_nb97 hk_nb97 hm_nb97 hr_nb97 hok_nb97), trivial⟩ (fun bl125 G125 hG125 hv125 => (W.nn (WD.a1 7 rfl (W.app (e := eNode) sl24 ty53 zr53 rfl by53 rfl rfl ((ho124.mono hG125)) (hv125) (pmC (pmC (pmC (pmC pr9)))) (by show (List.length _ + List.length _) * 152 ≤ _; simp only [List.length_set]; simp; omega) (fun v126 Ms127 ho128 => (W.perm (pmC (pmC (pmC (pmC pr9)))).symm ?_))))))))
  have q132 := ho128.form
  refine match q132 with | ⟨sa129, sc130, e_131⟩ => ?_
  subst e_131
  refine W.nn (d9 [8, 9, 10] ?_)
  refine g9 8 ?_
  refine ⟨.inr rfl, [_], ⟨rfl, trivial⟩, ((b_s, ce9 39 [iV c.fan, iV c.leaf, iV c.bud, iV c.slots, iV c.rest, lV sa129 ((((((l).set ((kdN l p i).toNat) ((cleaveN (l[(kdN l p i).toNat]'om9) (l.length : Int))).1)).set (p.toNat) ((adoptN (l[p.toNat]'om9) i (cleaveN (l[(kdN l p i).toNat]'om9) (l.length : Int)).2.2.1 (l.length : Int))).1) ++ [(cleaveN (l[(kdN l p i).toNat]'om9) (l.length : Int)).2.1])).length sc130]) :: (Ms127 ++ [])), ((sr9.k9.cons _).cons _).cons _, ?_⟩
  have hE := partS_0 (c := c) (l := l) (p := p) (i := i) h1 h2 h3 h4 h5 h6 om9
  exact ⟨congrArg (fun q : Int × List Nd => Value.int .i64 q.1) hE.symm, RfR.to (⟨_, _, congrArg _ (List.append_nil _), ho128⟩ : RfR 53 39 b_s c _ _ _) (hlst.trans (congrArg Prod.snd hE).symm)⟩
 refine W.lit (e := eNode) (l := [(cleaveN (l[(kdN l p i).toNat]'om9) (l.length : Int)).2.1]) (css := [[iV _, iV _, lV _ _ _, lV _ _ _, sV _, .bool _, iV _, iV _, lV _ _ _, lV _ _ _]]) sl24 ty53 zr53 rfl rfl rfl rfl rfl rfl ⟨(nm9 hG105 hp_nb97 hk_nb97 hm_nb97 hr_nb97 hok_nb97), trivial⟩ (fun bl133 G133 hG133 hv133 => (W.nn (WD.a1 4 rfl (g9 1 ?_))))
 refine W.nn (WD.a1 7 rfl (W.app (e := eNode) sl24 ty53 zr53 rfl by53 rfl rfl ((ho124.mono hG133)) (hv133) (pmC (pmC (pmC (pmC pr9)))) (by show (List.length _ + List.length _) * 152 ≤ _; simp only [List.length_set]; simp; omega) (fun v134 Ms135 ho136 => (W.perm (pmC (pmC (pmC (pmC pr9)))).symm ?_))))
 have q140 := ho136.form
 refine match q140 with | ⟨sa137, sc138, e_139⟩ => ?_
 subst e_139
 refine W.nn (d9 [8, 9, 10] ?_)
 refine g9 8 ?_
 refine ⟨.inr rfl, [_], ⟨rfl, trivial⟩, ((b_s, ce9 39 [iV c.fan, iV c.leaf, iV c.bud, iV c.slots, iV c.rest, lV sa137 ((((((l).set ((kdN l p i).toNat) ((cleaveN (l[(kdN l p i).toNat]'om9) (l.length : Int))).1)).set (p.toNat) ((adoptN (l[p.toNat]'om9) i (cleaveN (l[(kdN l p i).toNat]'om9) (l.length : Int)).2.2.1 (l.length : Int))).1) ++ [(cleaveN (l[(kdN l p i).toNat]'om9) (l.length : Int)).2.1])).length sc138]) :: (Ms135 ++ [])), ((sr9.k9.cons _).cons _).cons _, ?_⟩
 have hE := partS_0 (c := c) (l := l) (p := p) (i := i) h1 h2 h3 h4 h5 h6 om9
 exact ⟨congrArg (fun q : Int × List Nd => Value.int .i64 q.1) hE.symm, RfR.to (⟨_, _, congrArg _ (List.append_nil _), ho136⟩ : RfR 53 39 b_s c _ _ _) (hlst.trans (congrArg Prod.snd hE).symm)⟩

theorem rpartn26_fc {G : GH} {b_s : Nat} {c : Cfg} {v_l : Value} {l : List Nd} {Ms_l : MH} (h_l : OwnR eNode 53 G v_l l Ms_l) (p : Int) (i : Int) (hn9 : i < 0) :
    Fc Tryz.prog 36 [pt9 b_s, iV p, iV i] G ((b_s, ce9 39 [iV c.fan, iV c.leaf, iV c.bud, iV c.slots, iV c.rest, v_l]) :: (Ms_l)) (fun v G' M' => v = iV 8 ∧ M' = (b_s, ce9 39 [iV c.fan, iV c.leaf, iV c.bud, iV c.slots, iV c.rest, v_l]) :: Ms_l) := by
 obtain ⟨sa_l, sc_l, rfl⟩ := h_l.form
 have hl := h_l.len47
 refine Fc.go [.tmp 6] Tryz.func36 Tryz.ntmps36 rfl (fun w0 => (WC.perm (M' := ((b_s, ce9 39 [iV c.fan, iV c.leaf, iV c.bud, iV c.slots, iV c.rest, lV sa_l l.length sc_l]) :: (Ms_l ++ []))) (by simp) (g9 10 ?_)))
 refine W.call (Mp := ((b_s, ce9 39 [iV c.fan, iV c.leaf, iV c.bud, iV c.slots, iV c.rest, lV sa_l l.length sc_l]) :: Ms_l)) (Mr := []) (rhas25_fc (c := c) h_l _) rfl ((pr9.cons _).trans pr9) ?_
 intro v4 G1 Ms3 hG1 q2
 refine match q2 with | ⟨e_5, e_6⟩ => ?_
 subst e_5
 subst e_6
 refine W.perm (M' := ((b_s, ce9 39 [iV c.fan, iV c.leaf, iV c.bud, iV c.slots, iV c.rest, lV sa_l l.length sc_l]) :: (Ms_l ++ []))) ((pr9.cons _).trans pr9).symm (g9 2 ?_)
 refine W.sm 18 (fun h17 p17 => ?_) (fun h17 p17 => ?_)
 ·refine g9 42 ?_
  refine ⟨.inr rfl, [_], ⟨rfl, trivial⟩, ((b_s, ce9 39 [iV c.fan, iV c.leaf, iV c.bud, iV c.slots, iV c.rest, lV sa_l l.length sc_l]) :: (Ms_l ++ [])), sr9.k9, ?_⟩
  exact ⟨rfl, congrArg _ (List.append_nil _)⟩
 refine g9 6 ?_
 refine W.sd 22 (fun h20 p20 => ?_) (fun h20 p20 => ?_)
 ·refine g9 38 ?_
  refine ⟨.inr rfl, [_], ⟨rfl, trivial⟩, ((b_s, ce9 39 [iV c.fan, iV c.leaf, iV c.bud, iV c.slots, iV c.rest, lV sa_l l.length sc_l]) :: (Ms_l ++ [])), sr9.k9, ?_⟩
  exact ⟨rfl, congrArg _ (List.append_nil _)⟩
 exfalso; omega

theorem rparti_fc {G : GH} {b_s : Nat} {c : Cfg} {v_l : Value} {l : List Nd} {Ms_l : MH} (h_l : OwnR eNode 53 G v_l l Ms_l) (p i : Int) (hi : i64 i) (hS : Sml l) (hSl : SlotsP l) : Fc Tryz.prog 36 [pt9 b_s, iV p, iV i] G ((b_s, ce9 39 [iV c.fan, iV c.leaf, iV c.bud, iV c.slots, iV c.rest, v_l]) :: Ms_l) (fun v G' M' => v = iV (partI c l p i).1 ∧ RfR 53 39 b_s c G' (partI c l p i).2 M') := by
  by_cases hn : i < 0
  · refine (rpartn26_fc h_l p i hn).mono fun v G' M' hle ⟨e1, e2⟩ => ?_
    unfold partI
    rw [if_pos hn]
    exact ⟨e1, _, _, e2, h_l.mono hle⟩
  obtain ⟨n, rfl⟩ : ∃ n : Nat, i = (n : Int) := ⟨i.toNat, om9⟩
  have h0 := rpart26_fc (b_s := b_s) (c := c) h_l p n hi hS hSl
  unfold partI
  rw [if_neg hn]
  exact h0
theorem rchoose_c {G : GH} {c : Cfg} {cs : List Value} {n : Nd} (h : NodeC G cs n) (k : Str) (hq : ChoosePre n) : Fc Tryz.prog 33 [.agg #[iV c.fan, iV c.leaf, iV c.bud, iV c.slots, iV c.rest], .agg (List.toArray cs), sV k.b] G [] (fun v _ _ => v = .tuple #[iV (chooseN c n k).1, iV (chooseN c n k).2]) := rchoose_fc c.fan c.leaf c.bud c.slots c.rest h k hq
theorem rdecide_c {G : GH} {c : Cfg} {cs cs2 : List Value} {p k : Nd} (h : NodeC G cs p) (h2 : NodeC G cs2 k) (i : Int) (hq : PourPre c.bud p k) (hi : i64 i) (hko : KidOf p k i) (hms : MsgsR p.msgs) (hkl : p.kids.length = p.pivots.length + 1) : Fc Tryz.prog 35 [.agg #[iV c.fan, iV c.leaf, iV c.bud, iV c.slots, iV c.rest], .agg (List.toArray cs), .agg (List.toArray cs2), iV i] G [] (fun v _ _ => v = iV (decideN c p k i)) := rdecide_fc c.fan c.leaf c.bud c.slots c.rest h h2 i hq hi hko hms hkl
theorem rstep_fc {G : GH} {b_s : Nat} {c : Cfg} {v_l : Value} {l : List Nd} {Ms_l : MH} (h_l : OwnR eNode 53 G v_l l Ms_l) (a : Int) (k : Str) (ss : List Seat) (t : Tree c l ss) (ha : 0 ≤ a ∧ a < (l.length : Int)) :
    Fc Tryz.prog 12 [pt9 b_s, iV a, sV k.b] G ((b_s, ce9 39 [iV c.fan, iV c.leaf, iV c.bud, iV c.slots, iV c.rest, v_l]) :: (Ms_l)) (fun v G' M' => v = .tuple #[iV (stepN c l a k).1.1, iV (stepN c l a k).1.2.1, iV (stepN c l a k).1.2.2] ∧ RfR 53 39 b_s c G' (stepN c l a k).2 M') := by
 obtain ⟨sa_l, sc_l, rfl⟩ := h_l.form
 have hl := h_l.len47
 have hS := t.sml
 have hgp : l[a.toNat]'om9 = getL l a := (getL_in ha).symm
 obtain ⟨P9, hP9, eP9⟩ := t.seat_of ha
 have hPR9 := (t.seat hP9).1
 rw [eP9] at hPR9
 have hPD := nds_R t.cfg hPR9
 have hcp : ChoosePre (getL l a) := choose_pre hPR9 hPD
 have hrn := t.rootn
 have hlvl := t.height
 have hlv0 := t.lvl t.root
 rw [hrn] at hlvl hlv0
 have hlv : i64 ((getL l 0).level + 1) := ⟨om9, om9⟩
 have hks0 : ∀ m ∈ (getL l 0).msgs, m.key.b.size < 140737488355328 := fun m hm => by rw [← hrn] at hm; have := (msgR_key ((t.msgs t.root).2.1 m hm)).1; omega
 have hlp := t.pos
 have hl4 := hS.1
 refine Fc.go [.tmp 6, .tmp 7, .tmp 8] Tryz.func12 Tryz.ntmps12 rfl (fun w0 => (WC.perm (M' := ((b_s, ce9 39 [iV c.fan, iV c.leaf, iV c.bud, iV c.slots, iV c.rest, lV sa_l l.length sc_l]) :: (Ms_l ++ []))) (by simp) (g9 14 ?_)))
 have q5 := ownAt h_l om9 (hgp)
 refine match q5 with | ⟨_, he1, ⟨pa_n3, pc_n3, ka_n3, kc_n3, ma_n3, mc_n3, ra_n3, rc_n3, e_4, hp_n3, hk_n3, hm_n3, hr_n3, hok_n3⟩⟩ => ?_
 subst e_4
 refine W.ok (ok_indexAddrO (i := a.toNat) sl24 ty53 h_l rfl rfl ⟨om9, om9⟩) (W.ok (ok_loadO (vs := nd9) ty53 he1 (pmC pr9) rfl rfl rfl (by simp)) (W.alloc zr53 (fun b6 => (g9 11 ?_))))
 refine W.qcall (rchoose_c (c := c) (n := (getL l a)) (nk9 hp_n3 hk_n3 hm_n3 hr_n3 hok_n3) k hcp) rfl (g9 14 ?_)
 refine WC.cd (fun h36 p36 => ?_) (fun h36 p36 => ?_)
 ·try dsimp only at p36
  refine g9 4 ?_
  refine W.call (Mp := ((b_s, ce9 39 [iV c.fan, iV c.leaf, iV c.bud, iV c.slots, iV c.rest, lV sa_l l.length sc_l]) :: Ms_l)) (Mr := ((b6, ce9 53 (ndl (getL l a) pa_n3 pc_n3 ka_n3 kc_n3 ma_n3 mc_n3 ra_n3 rc_n3)) :: [])) (rlift26_fc (c := c) h_l ⟨hlp, hl4⟩ hlv hks0) rfl (((pmC pr9).cons _).trans ((List.Perm.swap _ _ _).trans (pr9.cons _))) ?_
  intro v8 G9 Ms10 hG9 q7
  refine match q7 with | ⟨e_12, vr11, Mor11, eRr11, hor11⟩ => ?_
  subst e_12
  subst eRr11
  have q14 := hor11.form
  refine match q14 with | ⟨sar11, scr11, e_13⟩ => ?_
  subst e_13
  refine W.perm (M' := ((b_s, ce9 39 [iV c.fan, iV c.leaf, iV c.bud, iV c.slots, iV c.rest, lV sar11 ((liftS c l).2).length scr11]) :: ((b6, ce9 53 (ndl (getL l a) pa_n3 pc_n3 ka_n3 kc_n3 ma_n3 mc_n3 ra_n3 rc_n3)) :: (Mor11 ++ [])))) (((pmC pr9).cons _).trans pr9).symm (g9 9 ?_)
  refine WC.cn (fun h40 p40 => ?_) (fun h40 p40 => ?_)
  ·try dsimp only at p40
   refine g9 12 ?_
   refine ⟨.inr rfl, [_, _, _], ⟨rfl, rfl, rfl, trivial⟩, ((b_s, ce9 39 [iV c.fan, iV c.leaf, iV c.bud, iV c.slots, iV c.rest, lV sar11 ((liftS c l).2).length scr11]) :: (Mor11 ++ [])), (sr9.cons _).k9, ?_⟩
   have hE := step_e p36 p40
   exact ⟨tup3 hE rfl rfl rfl, RfR.to (⟨_, _, congrArg _ (List.append_nil _), hor11⟩ : RfR 53 39 b_s c _ _ _) (congrArg Prod.snd hE).symm⟩
  try dsimp only at p40
  refine g9 12 ?_
  refine ⟨.inr rfl, [_, _, _], ⟨rfl, rfl, rfl, trivial⟩, ((b_s, ce9 39 [iV c.fan, iV c.leaf, iV c.bud, iV c.slots, iV c.rest, lV sar11 ((liftS c l).2).length scr11]) :: (Mor11 ++ [])), (sr9.cons _).k9, ?_⟩
  have hE := step_1 p36 om9
  exact ⟨tup3 hE rfl rfl rfl, RfR.to (⟨_, _, congrArg _ (List.append_nil _), hor11⟩ : RfR 53 39 b_s c _ _ _) (congrArg Prod.snd hE).symm⟩
 try dsimp only at p36
 refine g9 9 ?_
 refine WC.cd (fun h45 p45 => ?_) (fun h45 p45 => ?_)
 ·try dsimp only at p45
  refine g9 10 ?_
  refine ⟨.inr rfl, [_, _, _], ⟨rfl, rfl, rfl, trivial⟩, ((b_s, ce9 39 [iV c.fan, iV c.leaf, iV c.bud, iV c.slots, iV c.rest, lV sa_l l.length sc_l]) :: (Ms_l ++ [])), sr9.k9.cons _, ?_⟩
  have hE := step_0 p45
  exact ⟨tup3 hE rfl rfl rfl, RfR.to (⟨_, _, congrArg _ (List.append_nil _), h_l⟩ : RfR 53 39 b_s c _ _ _) (congrArg Prod.snd hE).symm⟩
 try dsimp only at p45
 have q43 : (chooseN c (getL l a) k).1 = 2 := by rcases choose_cases c (getL l a) k with h9 | h9 | ⟨h9, _⟩; exact absurd h9 p45; exact absurd h9 p36; exact h9
 obtain ⟨h0, hi⟩ := choose_in (k := k) t ha q43
 have hi9 : i64 (chooseN c (getL l a) k).2 := ⟨om9, by have := hPD.1; omega⟩
 obtain ⟨P, s⟩ := step_at t ha h0 hi
 have hPR := (t.seat s.mem).1
 have hKm := (t.at s.mem s.h0 (j := ((chooseN c (getL l a) k).2).toNat) (by have := s.hi; omega)).1
 have hKR := (t.seat hKm).1
 rw [s.n] at hPR
 rw [s.kid] at hKR
 have hsl : (getL l a).slot = a := (getL_slot t.slot ha).1
 have hPS := t.sml.2 _ (getL_slot t.slot ha).2
 have hKS := t.sml.2 _ (getL_slot t.slot s.kin).2
 have hPD : NdS (getL l a) := nds_R t.cfg hPR
 have hKD : NdS (kidAt l a (chooseN c (getL l a) k).2) := nds_R t.cfg hKR
 have hcb9 : c.bud ≤ 9223372036854775807 := by have := t.cfg.2.2.1.2; omega
 have hq : PourPre c.bud (getL l a) (kidAt l a (chooseN c (getL l a) k).2) := pre_of hPR hKR h0 hPD hKD hcb9
 have hin9 : (getL l a).innerR c.fan c.bud := by have h4 := hPR.2.2.2; rwa [if_neg h0] at h4
 have hms := hin9.2.2.1
 have hkl := (rightN_spec hin9.2.1).2
 have hi91 := hi9.1
 have hi92 := hi9.2
 have hlk9 : ((getL l a).kids.length : Int) ≤ 4000 := by have := hPD.1; omega
 have hkd : (getL l a).kids[((chooseN c (getL l a) k).2).toNat]'om9 = ((getL l a).kids.getD ((chooseN c (getL l a) k).2).toNat 0) := by rw [List.getD_eq_getElem?_getD, List.getElem?_eq_getElem om9]; rfl
 have hkin := s.kin
 have hgk : l[(((getL l a).kids.getD ((chooseN c (getL l a) k).2).toNat 0)).toNat]'om9 = (kidAt l a (chooseN c (getL l a) k).2) := (getL_in s.kin).symm
 refine g9 3 ?_
 refine WC.dw (sr9.k9.k9) (d9 [0, 1, 2, 3, 4, 5, 6] ?_)
 refine hk_n3.a2 (i := ((chooseN c (getL l a) k).2).toNat) om9 (fun he15 hi16 => (WD.tk 7 rfl (ok_indexAddr (i := ((chooseN c (getL l a) k).2).toNat) sl50 ty3 hk_n3 rfl rfl ⟨om9, om9⟩) (d9 [8] ?_)))
 have q23 := ownAt h_l om9 (hgk)
 refine match q23 with | ⟨_, he19, ⟨pa_n21, pc_n21, ka_n21, kc_n21, ma_n21, mc_n21, ra_n21, rc_n21, e_22, hp_n21, hk_n21, hm_n21, hr_n21, hok_n21⟩⟩ => ?_
 subst e_22
 refine WD.tk 9 rfl (ok_indexAddrO (i := (((getL l a).kids.getD ((chooseN c (getL l a) k).2).toNat 0)).toNat) sl24 ty53 h_l rfl rfl ⟨om9, om9⟩) (WD.tk 10 rfl (ok_loadO (vs := nd9) ty53 he19 (pmC (pmC pr9)) rfl rfl rfl (by simp)) (WD.a1 11 rfl (W.alloc zr53 (fun b24 => (W.nn (d9 [12] ?_))))))
 refine g9 11 ?_
 refine W.qcall (rdecide_c (c := c) (p := (getL l a)) (k := (kidAt l a (chooseN c (getL l a) k).2)) (nk9 hp_n3 hk_n3 hm_n3 hr_n3 hok_n3) (nk9 hp_n21 hk_n21 hm_n21 hr_n21 hok_n21) (chooseN c (getL l a) k).2 hq hi9 s.kof hms hkl) rfl (g9 10 ?_)
 refine WC.cd (fun h67 p67 => ?_) (fun h67 p67 => ?_)
 ·try dsimp only at p67
  refine g9 5 ?_
  refine W.call (Mp := ((b_s, ce9 39 [iV c.fan, iV c.leaf, iV c.bud, iV c.slots, iV c.rest, lV sa_l l.length sc_l]) :: Ms_l)) (Mr := ((b24, ce9 53 (ndl (kidAt l a (chooseN c (getL l a) k).2) pa_n21 pc_n21 ka_n21 kc_n21 ma_n21 mc_n21 ra_n21 rc_n21)) :: ((b6, ce9 53 (ndl (getL l a) pa_n3 pc_n3 ka_n3 kc_n3 ma_n3 mc_n3 ra_n3 rc_n3)) :: []))) (rparti_fc (c := c) h_l a (chooseN c (getL l a) k).2 hi9 hS t.slot) rfl (((pmC (pmC pr9)).cons _).trans ((List.Perm.swap _ _ _).trans (((List.Perm.swap _ _ _).trans (pr9.cons _)).cons _))) ?_
  intro v26 G27 Ms28 hG27 q25
  refine match q25 with | ⟨e_30, vr29, Mor29, eRr29, hor29⟩ => ?_
  subst e_30
  subst eRr29
  have q32 := hor29.form
  refine match q32 with | ⟨sar29, scr29, e_31⟩ => ?_
  subst e_31
  refine W.perm (M' := ((b_s, ce9 39 [iV c.fan, iV c.leaf, iV c.bud, iV c.slots, iV c.rest, lV sar29 ((partI c l a (chooseN c (getL l a) k).2).2).length scr29]) :: ((b24, ce9 53 (ndl (kidAt l a (chooseN c (getL l a) k).2) pa_n21 pc_n21 ka_n21 kc_n21 ma_n21 mc_n21 ra_n21 rc_n21)) :: ((b6, ce9 53 (ndl (getL l a) pa_n3 pc_n3 ka_n3 kc_n3 ma_n3 mc_n3 ra_n3 rc_n3)) :: (Mor29 ++ []))))) (((pmC (pmC pr9)).cons _).trans pr9).symm (g9 9 ?_)
  refine WC.cn (fun h73 p73 => ?_) (fun h73 p73 => ?_)
  ·try dsimp only at p73
   refine g9 11 ?_
   refine ⟨.inr rfl, [_, _, _], ⟨rfl, rfl, rfl, trivial⟩, ((b_s, ce9 39 [iV c.fan, iV c.leaf, iV c.bud, iV c.slots, iV c.rest, lV sar29 ((partI c l a (chooseN c (getL l a) k).2).2).length scr29]) :: (Mor29 ++ [])), ((sr9.cons _).cons _).k9, ?_⟩
   have hE := (step_2 q43).trans (kid_e p67 p73)
   exact ⟨tup3 hE rfl rfl rfl, RfR.to (⟨_, _, congrArg _ (List.append_nil _), hor29⟩ : RfR 53 39 b_s c _ _ _) (congrArg Prod.snd hE).symm⟩
  try dsimp only at p73
  refine g9 9 ?_
  refine WC.cd (fun h77 p77 => ?_) (fun h77 p77 => ?_)
  ·try dsimp only at p77
   have p77c : decideN c (getL l a) (kidAt l a (chooseN c (getL l a) k).2) (chooseN c (getL l a) k).2 = 4 := p77
   have hcp9 : 0 < countN c.leaf c.bud (getL l a) (kidAt l a (chooseN c (getL l a) k).2) (chooseN c (getL l a) k).2 := by rcases decide_cases c (getL l a) (kidAt l a (chooseN c (getL l a) k).2) (chooseN c (getL l a) k).2 with h9 | h9 | ⟨_, h9⟩ | h9; omega; omega; exact h9; omega
   have hpq9 := s.pour t hcp9
   obtain ⟨T9, hpo⟩ := hpq9
   have hsA : (pourN c.leaf c.bud (getL l a) (kidAt l a (chooseN c (getL l a) k).2) (chooseN c (getL l a) k).2).1.slot = a := by rw [hpo.al.1]; exact s.slot
   have hsB : (pourN c.leaf c.bud (getL l a) (kidAt l a (chooseN c (getL l a) k).2) (chooseN c (getL l a) k).2).2.1.slot = ((kidAt l a (chooseN c (getL l a) k).2)).slot := by rw [hpo.bl.1, s.kid]
   have hsC : 0 ≤ ((kidAt l a (chooseN c (getL l a) k).2)).slot ∧ ((kidAt l a (chooseN c (getL l a) k).2)).slot < (l.length : Int) := by rw [s.ksl]; exact s.kin
   exfalso; omega
  try dsimp only at p77
  refine g9 9 ?_
  refine WC.cd (fun h106 p106 => ?_) (fun h106 p106 => ?_)
  ·try dsimp only at p106
   exfalso; omega
  try dsimp only at p106
  refine g9 12 ?_
  refine ⟨.inr rfl, [_, _, _], ⟨rfl, rfl, rfl, trivial⟩, ((b_s, ce9 39 [iV c.fan, iV c.leaf, iV c.bud, iV c.slots, iV c.rest, lV sar29 ((partI c l a (chooseN c (getL l a) k).2).2).length scr29]) :: (Mor29 ++ [])), ((sr9.cons _).cons _).k9, ?_⟩
  have hE := (step_2 q43).trans (kid_3 p67 om9)
  exact ⟨tup3 hE p67 rfl rfl, RfR.to (⟨_, _, congrArg _ (List.append_nil _), hor29⟩ : RfR 53 39 b_s c _ _ _) (congrArg Prod.snd hE).symm⟩
 try dsimp only at p67
 refine g9 9 ?_
 refine WC.cd (fun h77 p77 => ?_) (fun h77 p77 => ?_)
 ·try dsimp only at p77
  have p77c : decideN c (getL l a) (kidAt l a (chooseN c (getL l a) k).2) (chooseN c (getL l a) k).2 = 4 := p77
  have hcp9 : 0 < countN c.leaf c.bud (getL l a) (kidAt l a (chooseN c (getL l a) k).2) (chooseN c (getL l a) k).2 := by rcases decide_cases c (getL l a) (kidAt l a (chooseN c (getL l a) k).2) (chooseN c (getL l a) k).2 with h9 | h9 | ⟨_, h9⟩ | h9; omega; omega; exact h9; omega
  have hpq9 := s.pour t hcp9
  obtain ⟨T9, hpo⟩ := hpq9
  have hsA : (pourN c.leaf c.bud (getL l a) (kidAt l a (chooseN c (getL l a) k).2) (chooseN c (getL l a) k).2).1.slot = a := by rw [hpo.al.1]; exact s.slot
  have hsB : (pourN c.leaf c.bud (getL l a) (kidAt l a (chooseN c (getL l a) k).2) (chooseN c (getL l a) k).2).2.1.slot = ((kidAt l a (chooseN c (getL l a) k).2)).slot := by rw [hpo.bl.1, s.kid]
  have hsC : 0 ≤ ((kidAt l a (chooseN c (getL l a) k).2)).slot ∧ ((kidAt l a (chooseN c (getL l a) k).2)).slot < (l.length : Int) := by rw [s.ksl]; exact s.kin
  refine WC.seq (WC.dw ((sn9.k9.k9).k9) (d9 [0, 1, 2, 3, 4, 5, 6] ?_))
  refine WD.any [7, 12, 13] (by kernel_rfl) rfl ⟨WD.ap ?_, WD.ap ?_, WD.ap ?_, trivial⟩
  ·refine W.cM (rpour_fc c.fan c.leaf c.bud c.slots c.rest (p := (getL l a)) (k := (kidAt l a (chooseN c (getL l a) k).2)) (nk9 hp_n3 hk_n3 hm_n3 hr_n3 hok_n3) (nk9 hp_n21 hk_n21 hm_n21 hr_n21 hok_n21) (chooseN c (getL l a) k).2 hq.hb hq.hr hq.hpv hq.hpm hq.hkm hq.hkr hi9 hq.hsz hms hkl) rfl (fun _ _ _ _ _ _ _ _ _ _ _ _ _ _ _ _ G33 hG33 hp_hv34 hk_hv34 hm_hv34 hr_hv34 hok_hv34 hp_hv35 hk_hv35 hm_hv35 hr_hv35 hok_hv35 => (W.nn (d9 [8, 9, 10, 11] ?_)))
   refine WD.any [12, 13] (by kernel_rfl) rfl ⟨WD.ap ?_, WD.ap ?_, trivial⟩
   ·refine W.alloc zr53 (fun b42 => (W.nn (WD.a1 13 rfl (W.alloc zr53 (fun b43 => (W.nn (d9 [14, 15, 16] ?_)))))))
    refine g9 3 ?_
    refine WC.dw ((((sn9.k9.k9).k9).k9).k9) (d9 [0, 1, 2, 3, 4, 5] ?_)
    refine (h_l.mono hG33).aN (i := a.toNat) om9 (fun _ _ _ _ _ _ _ _ he44 hp_n45 hk_n45 hm_n45 hr_n45 hok_n45 => (WD.tk 6 rfl (ok_indexAddrO (i := a.toNat) sl24 ty53 (h_l.mono hG33) rfl rfl ⟨om9, om9⟩) (WD.a1 7 rfl (W.storeO (i := a.toNat) (o := 0) (vs := nd9) (a' := (pourN c.leaf c.bud (getL l a) (kidAt l a (chooseN c (getL l a) k).2) (chooseN c (getL l a) k).2).1) ty53 rfl rfl rfl rfl rfl ((h_l.mono hG33)) (pmC (pmC (pmC (pmC (pmC pr9))))) (by first | omega | (rw [List.length_set]; omega)) (by decide) (fun cs h => by obtain ⟨_, _, _, _, _, _, _, _, rfl, _⟩ := h; exact (nk9 hp_hv34 hk_hv34 hm_hv34 hr_hv34 hok_hv34)) (fun Ms48 ho49 => (W.perm (pmC (pmC (pmC (pmC (pmC pr9))))).symm (W.nn (g9 2 ?_))))))))
    refine WC.dw ((((sn9.k9.k9).k9).k9).k9) (d9 [0, 1, 2, 3, 4, 5, 6] ?_)
    refine ho49.aN (i := ((kidAt l a (chooseN c (getL l a) k).2)).slot.toNat) (by rw [List.length_set]; omega) (fun _ _ _ _ _ _ _ _ he50 hp_n51 hk_n51 hm_n51 hr_n51 hok_n51 => (WD.tk 7 rfl (ok_indexAddrO (i := ((kidAt l a (chooseN c (getL l a) k).2)).slot.toNat) sl24 ty53 ho49 rfl rfl ⟨om9, by rw [List.length_set]; omega⟩) (WD.a1 8 rfl (W.storeO (i := ((kidAt l a (chooseN c (getL l a) k).2)).slot.toNat) (o := 0) (vs := nd9) (a' := (pourN c.leaf c.bud (getL l a) (kidAt l a (chooseN c (getL l a) k).2) (chooseN c (getL l a) k).2).2.1) ty53 rfl rfl rfl rfl rfl (ho49) (pmC (pmC (pmC (pmC (pmC pr9))))) (by first | omega | (rw [List.length_set]; omega)) (by decide) (fun cs h => by obtain ⟨_, _, _, _, _, _, _, _, rfl, _⟩ := h; exact (nk9 hp_hv35 hk_hv35 hm_hv35 hr_hv35 hok_hv35)) (fun Ms54 ho55 => (W.perm (pmC (pmC (pmC (pmC (pmC pr9))))).symm (W.nn (g9 9 ?_))))))))
    refine WC.cd (fun h106 p106 => ?_) (fun h106 p106 => ?_)
    ·try dsimp only at p106
     exfalso; omega
    try dsimp only at p106
    refine g9 12 ?_
    refine ⟨.inr rfl, [_, _, _], ⟨rfl, rfl, rfl, trivial⟩, ((b_s, ce9 39 [iV c.fan, iV c.leaf, iV c.bud, iV c.slots, iV c.rest, lV sa_l l.length sc_l]) :: (Ms54 ++ [])), (((sr9.k9.cons _).cons _).cons _).cons _, ?_⟩
    have hE := (step_2 q43).trans (kid_4 p77)
    have hL9 : ((l.set a.toNat (pourN c.leaf c.bud (getL l a) (kidAt l a (chooseN c (getL l a) k).2) (chooseN c (getL l a) k).2).1).set ((kidAt l a (chooseN c (getL l a) k).2)).slot.toNat (pourN c.leaf c.bud (getL l a) (kidAt l a (chooseN c (getL l a) k).2) (chooseN c (getL l a) k).2).2.1) = pourL l (pourN c.leaf c.bud (getL l a) (kidAt l a (chooseN c (getL l a) k).2) (chooseN c (getL l a) k).2).1 (pourN c.leaf c.bud (getL l a) (kidAt l a (chooseN c (getL l a) k).2) (chooseN c (getL l a) k).2).2.1 := by unfold pourL; rw [hsA, hsB]
    exact ⟨tup3 hE p77 rfl rfl, RfR.to (⟨_, _, congrArg _ (List.append_nil _), ho55⟩ : RfR 53 39 b_s c _ _ _) (hL9.trans (congrArg Prod.snd hE).symm)⟩
   refine W.alloc zr53 (fun b56 => (W.nn (WD.a1 12 rfl (W.alloc zr53 (fun b57 => (W.nn (d9 [14, 15, 16] ?_)))))))
   refine g9 3 ?_
   refine WC.dw ((((sn9.k9.k9).k9).k9).k9) (d9 [0, 1, 2, 3, 4, 5] ?_)
   refine (h_l.mono hG33).aN (i := a.toNat) om9 (fun _ _ _ _ _ _ _ _ he58 hp_n59 hk_n59 hm_n59 hr_n59 hok_n59 => (WD.tk 6 rfl (ok_indexAddrO (i := a.toNat) sl24 ty53 (h_l.mono hG33) rfl rfl ⟨om9, om9⟩) (WD.a1 7 rfl (W.storeO (i := a.toNat) (o := 0) (vs := nd9) (a' := (pourN c.leaf c.bud (getL l a) (kidAt l a (chooseN c (getL l a) k).2) (chooseN c (getL l a) k).2).1) ty53 rfl rfl rfl rfl rfl ((h_l.mono hG33)) (pmC (pmC (pmC (pmC (pmC pr9))))) (by first | omega | (rw [List.length_set]; omega)) (by decide) (fun cs h => by obtain ⟨_, _, _, _, _, _, _, _, rfl, _⟩ := h; exact (nk9 hp_hv34 hk_hv34 hm_hv34 hr_hv34 hok_hv34)) (fun Ms62 ho63 => (W.perm (pmC (pmC (pmC (pmC (pmC pr9))))).symm (W.nn (g9 2 ?_))))))))
   refine WC.dw ((((sn9.k9.k9).k9).k9).k9) (d9 [0, 1, 2, 3, 4, 5, 6] ?_)
   refine ho63.aN (i := ((kidAt l a (chooseN c (getL l a) k).2)).slot.toNat) (by rw [List.length_set]; omega) (fun _ _ _ _ _ _ _ _ he64 hp_n65 hk_n65 hm_n65 hr_n65 hok_n65 => (WD.tk 7 rfl (ok_indexAddrO (i := ((kidAt l a (chooseN c (getL l a) k).2)).slot.toNat) sl24 ty53 ho63 rfl rfl ⟨om9, by rw [List.length_set]; omega⟩) (WD.a1 8 rfl (W.storeO (i := ((kidAt l a (chooseN c (getL l a) k).2)).slot.toNat) (o := 0) (vs := nd9) (a' := (pourN c.leaf c.bud (getL l a) (kidAt l a (chooseN c (getL l a) k).2) (chooseN c (getL l a) k).2).2.1) ty53 rfl rfl rfl rfl rfl (ho63) (pmC (pmC (pmC (pmC (pmC pr9))))) (by first | omega | (rw [List.length_set]; omega)) (by decide) (fun cs h => by obtain ⟨_, _, _, _, _, _, _, _, rfl, _⟩ := h; exact (nk9 hp_hv35 hk_hv35 hm_hv35 hr_hv35 hok_hv35)) (fun Ms68 ho69 => (W.perm (pmC (pmC (pmC (pmC (pmC pr9))))).symm (W.nn (g9 9 ?_))))))))
   refine WC.cd (fun h106 p106 => ?_) (fun h106 p106 => ?_)
   ·try dsimp only at p106
    exfalso; omega
   try dsimp only at p106
   refine g9 12 ?_
   refine ⟨.inr rfl, [_, _, _], ⟨rfl, rfl, rfl, trivial⟩, ((b_s, ce9 39 [iV c.fan, iV c.leaf, iV c.bud, iV c.slots, iV c.rest, lV sa_l l.length sc_l]) :: (Ms68 ++ [])), (((sr9.k9.cons _).cons _).cons _).cons _, ?_⟩
   have hE := (step_2 q43).trans (kid_4 p77)
   have hL9 : ((l.set a.toNat (pourN c.leaf c.bud (getL l a) (kidAt l a (chooseN c (getL l a) k).2) (chooseN c (getL l a) k).2).1).set ((kidAt l a (chooseN c (getL l a) k).2)).slot.toNat (pourN c.leaf c.bud (getL l a) (kidAt l a (chooseN c (getL l a) k).2) (chooseN c (getL l a) k).2).2.1) = pourL l (pourN c.leaf c.bud (getL l a) (kidAt l a (chooseN c (getL l a) k).2) (chooseN c (getL l a) k).2).1 (pourN c.leaf c.bud (getL l a) (kidAt l a (chooseN c (getL l a) k).2) (chooseN c (getL l a) k).2).2.1 := by unfold pourL; rw [hsA, hsB]
   exact ⟨tup3 hE p77 rfl rfl, RfR.to (⟨_, _, congrArg _ (List.append_nil _), ho69⟩ : RfR 53 39 b_s c _ _ _) (hL9.trans (congrArg Prod.snd hE).symm)⟩
  ·refine W.alloc zr53 (fun b70 => (W.nn ?_))
   refine WD.any [7, 13] (by kernel_rfl) rfl ⟨WD.ap ?_, WD.ap ?_, trivial⟩
   ·refine W.cM (rpour_fc c.fan c.leaf c.bud c.slots c.rest (p := (getL l a)) (k := (kidAt l a (chooseN c (getL l a) k).2)) (nk9 hp_n3 hk_n3 hm_n3 hr_n3 hok_n3) (nk9 hp_n21 hk_n21 hm_n21 hr_n21 hok_n21) (chooseN c (getL l a) k).2 hq.hb hq.hr hq.hpv hq.hpm hq.hkm hq.hkr hi9 hq.hsz hms hkl) rfl (fun _ _ _ _ _ _ _ _ _ _ _ _ _ _ _ _ G71 hG71 hp_hv72 hk_hv72 hm_hv72 hr_hv72 hok_hv72 hp_hv73 hk_hv73 hm_hv73 hr_hv73 hok_hv73 => (W.nn (d9 [8, 9, 10, 11] ?_)))
    refine WD.a1 13 rfl (W.alloc zr53 (fun b80 => (W.nn (d9 [14, 15, 16] ?_))))
    refine g9 3 ?_
    refine WC.dw ((((sn9.k9.k9).k9).k9).k9) (d9 [0, 1, 2, 3, 4, 5] ?_)
    refine (h_l.mono hG71).aN (i := a.toNat) om9 (fun _ _ _ _ _ _ _ _ he81 hp_n82 hk_n82 hm_n82 hr_n82 hok_n82 => (WD.tk 6 rfl (ok_indexAddrO (i := a.toNat) sl24 ty53 (h_l.mono hG71) rfl rfl ⟨om9, om9⟩) (WD.a1 7 rfl (W.storeO (i := a.toNat) (o := 0) (vs := nd9) (a' := (pourN c.leaf c.bud (getL l a) (kidAt l a (chooseN c (getL l a) k).2) (chooseN c (getL l a) k).2).1) ty53 rfl rfl rfl rfl rfl ((h_l.mono hG71)) (pmC (pmC (pmC (pmC (pmC pr9))))) (by first | omega | (rw [List.length_set]; omega)) (by decide) (fun cs h => by obtain ⟨_, _, _, _, _, _, _, _, rfl, _⟩ := h; exact (nk9 hp_hv72 hk_hv72 hm_hv72 hr_hv72 hok_hv72)) (fun Ms85 ho86 => (W.perm (pmC (pmC (pmC (pmC (pmC pr9))))).symm (W.nn (g9 2 ?_))))))))
    refine WC.dw ((((sn9.k9.k9).k9).k9).k9) (d9 [0, 1, 2, 3, 4, 5, 6] ?_)
    refine ho86.aN (i := ((kidAt l a (chooseN c (getL l a) k).2)).slot.toNat) (by rw [List.length_set]; omega) (fun _ _ _ _ _ _ _ _ he87 hp_n88 hk_n88 hm_n88 hr_n88 hok_n88 => (WD.tk 7 rfl (ok_indexAddrO (i := ((kidAt l a (chooseN c (getL l a) k).2)).slot.toNat) sl24 ty53 ho86 rfl rfl ⟨om9, by rw [List.length_set]; omega⟩) (WD.a1 8 rfl (W.storeO (i := ((kidAt l a (chooseN c (getL l a) k).2)).slot.toNat) (o := 0) (vs := nd9) (a' := (pourN c.leaf c.bud (getL l a) (kidAt l a (chooseN c (getL l a) k).2) (chooseN c (getL l a) k).2).2.1) ty53 rfl rfl rfl rfl rfl (ho86) (pmC (pmC (pmC (pmC (pmC pr9))))) (by first | omega | (rw [List.length_set]; omega)) (by decide) (fun cs h => by obtain ⟨_, _, _, _, _, _, _, _, rfl, _⟩ := h; exact (nk9 hp_hv73 hk_hv73 hm_hv73 hr_hv73 hok_hv73)) (fun Ms91 ho92 => (W.perm (pmC (pmC (pmC (pmC (pmC pr9))))).symm (W.nn (g9 9 ?_))))))))
    refine WC.cd (fun h106 p106 => ?_) (fun h106 p106 => ?_)
    ·try dsimp only at p106
     exfalso; omega
    try dsimp only at p106
    refine g9 12 ?_
    refine ⟨.inr rfl, [_, _, _], ⟨rfl, rfl, rfl, trivial⟩, ((b_s, ce9 39 [iV c.fan, iV c.leaf, iV c.bud, iV c.slots, iV c.rest, lV sa_l l.length sc_l]) :: (Ms91 ++ [])), (((sr9.k9.cons _).cons _).cons _).cons _, ?_⟩
    have hE := (step_2 q43).trans (kid_4 p77)
    have hL9 : ((l.set a.toNat (pourN c.leaf c.bud (getL l a) (kidAt l a (chooseN c (getL l a) k).2) (chooseN c (getL l a) k).2).1).set ((kidAt l a (chooseN c (getL l a) k).2)).slot.toNat (pourN c.leaf c.bud (getL l a) (kidAt l a (chooseN c (getL l a) k).2) (chooseN c (getL l a) k).2).2.1) = pourL l (pourN c.leaf c.bud (getL l a) (kidAt l a (chooseN c (getL l a) k).2) (chooseN c (getL l a) k).2).1 (pourN c.leaf c.bud (getL l a) (kidAt l a (chooseN c (getL l a) k).2) (chooseN c (getL l a) k).2).2.1 := by unfold pourL; rw [hsA, hsB]
    exact ⟨tup3 hE p77 rfl rfl, RfR.to (⟨_, _, congrArg _ (List.append_nil _), ho92⟩ : RfR 53 39 b_s c _ _ _) (hL9.trans (congrArg Prod.snd hE).symm)⟩
   refine W.alloc zr53 (fun b93 => (W.nn (WD.a1 7 rfl (W.cM (rpour_fc c.fan c.leaf c.bud c.slots c.rest (p := (getL l a)) (k := (kidAt l a (chooseN c (getL l a) k).2)) (nk9 hp_n3 hk_n3 hm_n3 hr_n3 hok_n3) (nk9 hp_n21 hk_n21 hm_n21 hr_n21 hok_n21) (chooseN c (getL l a) k).2 hq.hb hq.hr hq.hpv hq.hpm hq.hkm hq.hkr hi9 hq.hsz hms hkl) rfl (fun _ _ _ _ _ _ _ _ _ _ _ _ _ _ _ _ G94 hG94 hp_hv95 hk_hv95 hm_hv95 hr_hv95 hok_hv95 hp_hv96 hk_hv96 hm_hv96 hr_hv96 hok_hv96 => (W.nn (d9 [8, 9, 10, 11, 14, 15, 16] ?_)))))))
   refine g9 3 ?_
   refine WC.dw ((((sn9.k9.k9).k9).k9).k9) (d9 [0, 1, 2, 3, 4, 5] ?_)
   refine (h_l.mono hG94).aN (i := a.toNat) om9 (fun _ _ _ _ _ _ _ _ he103 hp_n104 hk_n104 hm_n104 hr_n104 hok_n104 => (WD.tk 6 rfl (ok_indexAddrO (i := a.toNat) sl24 ty53 (h_l.mono hG94) rfl rfl ⟨om9, om9⟩) (WD.a1 7 rfl (W.storeO (i := a.toNat) (o := 0) (vs := nd9) (a' := (pourN c.leaf c.bud (getL l a) (kidAt l a (chooseN c (getL l a) k).2) (chooseN c (getL l a) k).2).1) ty53 rfl rfl rfl rfl rfl ((h_l.mono hG94)) (pmC (pmC (pmC (pmC (pmC pr9))))) (by first | omega | (rw [List.length_set]; omega)) (by decide) (fun cs h => by obtain ⟨_, _, _, _, _, _, _, _, rfl, _⟩ := h; exact (nk9 hp_hv95 hk_hv95 hm_hv95 hr_hv95 hok_hv95)) (fun Ms107 ho108 => (W.perm (pmC (pmC (pmC (pmC (pmC pr9))))).symm (W.nn (g9 2 ?_))))))))
   refine WC.dw ((((sn9.k9.k9).k9).k9).k9) (d9 [0, 1, 2, 3, 4, 5, 6] ?_)
   refine ho108.aN (i := ((kidAt l a (chooseN c (getL l a) k).2)).slot.toNat) (by rw [List.length_set]; omega) (fun _ _ _ _ _ _ _ _ he109 hp_n110 hk_n110 hm_n110 hr_n110 hok_n110 => (WD.tk 7 rfl (ok_indexAddrO (i := ((kidAt l a (chooseN c (getL l a) k).2)).slot.toNat) sl24 ty53 ho108 rfl rfl ⟨om9, by rw [List.length_set]; omega⟩) (WD.a1 8 rfl (W.storeO (i := ((kidAt l a (chooseN c (getL l a) k).2)).slot.toNat) (o := 0) (vs := nd9) (a' := (pourN c.leaf c.bud (getL l a) (kidAt l a (chooseN c (getL l a) k).2) (chooseN c (getL l a) k).2).2.1) ty53 rfl rfl rfl rfl rfl (ho108) (pmC (pmC (pmC (pmC (pmC pr9))))) (by first | omega | (rw [List.length_set]; omega)) (by decide) (fun cs h => by obtain ⟨_, _, _, _, _, _, _, _, rfl, _⟩ := h; exact (nk9 hp_hv96 hk_hv96 hm_hv96 hr_hv96 hok_hv96)) (fun Ms113 ho114 => (W.perm (pmC (pmC (pmC (pmC (pmC pr9))))).symm (W.nn (g9 9 ?_))))))))
   refine WC.cd (fun h106 p106 => ?_) (fun h106 p106 => ?_)
   ·try dsimp only at p106
    exfalso; omega
   try dsimp only at p106
   refine g9 12 ?_
   refine ⟨.inr rfl, [_, _, _], ⟨rfl, rfl, rfl, trivial⟩, ((b_s, ce9 39 [iV c.fan, iV c.leaf, iV c.bud, iV c.slots, iV c.rest, lV sa_l l.length sc_l]) :: (Ms113 ++ [])), (((sr9.k9.cons _).cons _).cons _).cons _, ?_⟩
   have hE := (step_2 q43).trans (kid_4 p77)
   have hL9 : ((l.set a.toNat (pourN c.leaf c.bud (getL l a) (kidAt l a (chooseN c (getL l a) k).2) (chooseN c (getL l a) k).2).1).set ((kidAt l a (chooseN c (getL l a) k).2)).slot.toNat (pourN c.leaf c.bud (getL l a) (kidAt l a (chooseN c (getL l a) k).2) (chooseN c (getL l a) k).2).2.1) = pourL l (pourN c.leaf c.bud (getL l a) (kidAt l a (chooseN c (getL l a) k).2) (chooseN c (getL l a) k).2).1 (pourN c.leaf c.bud (getL l a) (kidAt l a (chooseN c (getL l a) k).2) (chooseN c (getL l a) k).2).2.1 := by unfold pourL; rw [hsA, hsB]
   exact ⟨tup3 hE p77 rfl rfl, RfR.to (⟨_, _, congrArg _ (List.append_nil _), ho114⟩ : RfR 53 39 b_s c _ _ _) (hL9.trans (congrArg Prod.snd hE).symm)⟩
  refine W.alloc zr53 (fun b115 => (W.nn ?_))
  refine WD.any [7, 12] (by kernel_rfl) rfl ⟨WD.ap ?_, WD.ap ?_, trivial⟩
  ·refine W.cM (rpour_fc c.fan c.leaf c.bud c.slots c.rest (p := (getL l a)) (k := (kidAt l a (chooseN c (getL l a) k).2)) (nk9 hp_n3 hk_n3 hm_n3 hr_n3 hok_n3) (nk9 hp_n21 hk_n21 hm_n21 hr_n21 hok_n21) (chooseN c (getL l a) k).2 hq.hb hq.hr hq.hpv hq.hpm hq.hkm hq.hkr hi9 hq.hsz hms hkl) rfl (fun _ _ _ _ _ _ _ _ _ _ _ _ _ _ _ _ G116 hG116 hp_hv117 hk_hv117 hm_hv117 hr_hv117 hok_hv117 hp_hv118 hk_hv118 hm_hv118 hr_hv118 hok_hv118 => (W.nn (d9 [8, 9, 10, 11] ?_)))
   refine WD.a1 12 rfl (W.alloc zr53 (fun b125 => (W.nn (d9 [14, 15, 16] ?_))))
   refine g9 3 ?_
   refine WC.dw ((((sn9.k9.k9).k9).k9).k9) (d9 [0, 1, 2, 3, 4, 5] ?_)
   refine (h_l.mono hG116).aN (i := a.toNat) om9 (fun _ _ _ _ _ _ _ _ he126 hp_n127 hk_n127 hm_n127 hr_n127 hok_n127 => (WD.tk 6 rfl (ok_indexAddrO (i := a.toNat) sl24 ty53 (h_l.mono hG116) rfl rfl ⟨om9, om9⟩) (WD.a1 7 rfl (W.storeO (i := a.toNat) (o := 0) (vs := nd9) (a' := (pourN c.leaf c.bud (getL l a) (kidAt l a (chooseN c (getL l a) k).2) (chooseN c (getL l a) k).2).1) ty53 rfl rfl rfl rfl rfl ((h_l.mono hG116)) (pmC (pmC (pmC (pmC (pmC pr9))))) (by first | omega | (rw [List.length_set]; omega)) (by decide) (fun cs h => by obtain ⟨_, _, _, _, _, _, _, _, rfl, _⟩ := h; exact (nk9 hp_hv117 hk_hv117 hm_hv117 hr_hv117 hok_hv117)) (fun Ms130 ho131 => (W.perm (pmC (pmC (pmC (pmC (pmC pr9))))).symm (W.nn (g9 2 ?_))))))))
   refine WC.dw ((((sn9.k9.k9).k9).k9).k9) (d9 [0, 1, 2, 3, 4, 5, 6] ?_)
   refine ho131.aN (i := ((kidAt l a (chooseN c (getL l a) k).2)).slot.toNat) (by rw [List.length_set]; omega) (fun _ _ _ _ _ _ _ _ he132 hp_n133 hk_n133 hm_n133 hr_n133 hok_n133 => (WD.tk 7 rfl (ok_indexAddrO (i := ((kidAt l a (chooseN c (getL l a) k).2)).slot.toNat) sl24 ty53 ho131 rfl rfl ⟨om9, by rw [List.length_set]; omega⟩) (WD.a1 8 rfl (W.storeO (i := ((kidAt l a (chooseN c (getL l a) k).2)).slot.toNat) (o := 0) (vs := nd9) (a' := (pourN c.leaf c.bud (getL l a) (kidAt l a (chooseN c (getL l a) k).2) (chooseN c (getL l a) k).2).2.1) ty53 rfl rfl rfl rfl rfl (ho131) (pmC (pmC (pmC (pmC (pmC pr9))))) (by first | omega | (rw [List.length_set]; omega)) (by decide) (fun cs h => by obtain ⟨_, _, _, _, _, _, _, _, rfl, _⟩ := h; exact (nk9 hp_hv118 hk_hv118 hm_hv118 hr_hv118 hok_hv118)) (fun Ms136 ho137 => (W.perm (pmC (pmC (pmC (pmC (pmC pr9))))).symm (W.nn (g9 9 ?_))))))))
   refine WC.cd (fun h106 p106 => ?_) (fun h106 p106 => ?_)
   ·try dsimp only at p106
    exfalso; omega
   try dsimp only at p106
   refine g9 12 ?_
   refine ⟨.inr rfl, [_, _, _], ⟨rfl, rfl, rfl, trivial⟩, ((b_s, ce9 39 [iV c.fan, iV c.leaf, iV c.bud, iV c.slots, iV c.rest, lV sa_l l.length sc_l]) :: (Ms136 ++ [])), (((sr9.k9.cons _).cons _).cons _).cons _, ?_⟩
   have hE := (step_2 q43).trans (kid_4 p77)
   have hL9 : ((l.set a.toNat (pourN c.leaf c.bud (getL l a) (kidAt l a (chooseN c (getL l a) k).2) (chooseN c (getL l a) k).2).1).set ((kidAt l a (chooseN c (getL l a) k).2)).slot.toNat (pourN c.leaf c.bud (getL l a) (kidAt l a (chooseN c (getL l a) k).2) (chooseN c (getL l a) k).2).2.1) = pourL l (pourN c.leaf c.bud (getL l a) (kidAt l a (chooseN c (getL l a) k).2) (chooseN c (getL l a) k).2).1 (pourN c.leaf c.bud (getL l a) (kidAt l a (chooseN c (getL l a) k).2) (chooseN c (getL l a) k).2).2.1 := by unfold pourL; rw [hsA, hsB]
   exact ⟨tup3 hE p77 rfl rfl, RfR.to (⟨_, _, congrArg _ (List.append_nil _), ho137⟩ : RfR 53 39 b_s c _ _ _) (hL9.trans (congrArg Prod.snd hE).symm)⟩
  refine W.alloc zr53 (fun b138 => (W.nn (WD.a1 7 rfl (W.cM (rpour_fc c.fan c.leaf c.bud c.slots c.rest (p := (getL l a)) (k := (kidAt l a (chooseN c (getL l a) k).2)) (nk9 hp_n3 hk_n3 hm_n3 hr_n3 hok_n3) (nk9 hp_n21 hk_n21 hm_n21 hr_n21 hok_n21) (chooseN c (getL l a) k).2 hq.hb hq.hr hq.hpv hq.hpm hq.hkm hq.hkr hi9 hq.hsz hms hkl) rfl (fun _ _ _ _ _ _ _ _ _ _ _ _ _ _ _ _ G139 hG139 hp_hv140 hk_hv140 hm_hv140 hr_hv140 hok_hv140 hp_hv141 hk_hv141 hm_hv141 hr_hv141 hok_hv141 => (W.nn (d9 [8, 9, 10, 11, 14, 15, 16] ?_)))))))
  refine g9 3 ?_
  refine WC.dw ((((sn9.k9.k9).k9).k9).k9) (d9 [0, 1, 2, 3, 4, 5] ?_)
  refine (h_l.mono hG139).aN (i := a.toNat) om9 (fun _ _ _ _ _ _ _ _ he148 hp_n149 hk_n149 hm_n149 hr_n149 hok_n149 => (WD.tk 6 rfl (ok_indexAddrO (i := a.toNat) sl24 ty53 (h_l.mono hG139) rfl rfl ⟨om9, om9⟩) (WD.a1 7 rfl (W.storeO (i := a.toNat) (o := 0) (vs := nd9) (a' := (pourN c.leaf c.bud (getL l a) (kidAt l a (chooseN c (getL l a) k).2) (chooseN c (getL l a) k).2).1) ty53 rfl rfl rfl rfl rfl ((h_l.mono hG139)) (pmC (pmC (pmC (pmC (pmC pr9))))) (by first | omega | (rw [List.length_set]; omega)) (by decide) (fun cs h => by obtain ⟨_, _, _, _, _, _, _, _, rfl, _⟩ := h; exact (nk9 hp_hv140 hk_hv140 hm_hv140 hr_hv140 hok_hv140)) (fun Ms152 ho153 => (W.perm (pmC (pmC (pmC (pmC (pmC pr9))))).symm (W.nn (g9 2 ?_))))))))
  refine WC.dw ((((sn9.k9.k9).k9).k9).k9) (d9 [0, 1, 2, 3, 4, 5, 6] ?_)
  refine ho153.aN (i := ((kidAt l a (chooseN c (getL l a) k).2)).slot.toNat) (by rw [List.length_set]; omega) (fun _ _ _ _ _ _ _ _ he154 hp_n155 hk_n155 hm_n155 hr_n155 hok_n155 => (WD.tk 7 rfl (ok_indexAddrO (i := ((kidAt l a (chooseN c (getL l a) k).2)).slot.toNat) sl24 ty53 ho153 rfl rfl ⟨om9, by rw [List.length_set]; omega⟩) (WD.a1 8 rfl (W.storeO (i := ((kidAt l a (chooseN c (getL l a) k).2)).slot.toNat) (o := 0) (vs := nd9) (a' := (pourN c.leaf c.bud (getL l a) (kidAt l a (chooseN c (getL l a) k).2) (chooseN c (getL l a) k).2).2.1) ty53 rfl rfl rfl rfl rfl (ho153) (pmC (pmC (pmC (pmC (pmC pr9))))) (by first | omega | (rw [List.length_set]; omega)) (by decide) (fun cs h => by obtain ⟨_, _, _, _, _, _, _, _, rfl, _⟩ := h; exact (nk9 hp_hv141 hk_hv141 hm_hv141 hr_hv141 hok_hv141)) (fun Ms158 ho159 => (W.perm (pmC (pmC (pmC (pmC (pmC pr9))))).symm (W.nn (g9 9 ?_))))))))
  refine WC.cd (fun h106 p106 => ?_) (fun h106 p106 => ?_)
  ·try dsimp only at p106
   exfalso; omega
  try dsimp only at p106
  refine g9 12 ?_
  refine ⟨.inr rfl, [_, _, _], ⟨rfl, rfl, rfl, trivial⟩, ((b_s, ce9 39 [iV c.fan, iV c.leaf, iV c.bud, iV c.slots, iV c.rest, lV sa_l l.length sc_l]) :: (Ms158 ++ [])), (((sr9.k9.cons _).cons _).cons _).cons _, ?_⟩
  have hE := (step_2 q43).trans (kid_4 p77)
  have hL9 : ((l.set a.toNat (pourN c.leaf c.bud (getL l a) (kidAt l a (chooseN c (getL l a) k).2) (chooseN c (getL l a) k).2).1).set ((kidAt l a (chooseN c (getL l a) k).2)).slot.toNat (pourN c.leaf c.bud (getL l a) (kidAt l a (chooseN c (getL l a) k).2) (chooseN c (getL l a) k).2).2.1) = pourL l (pourN c.leaf c.bud (getL l a) (kidAt l a (chooseN c (getL l a) k).2) (chooseN c (getL l a) k).2).1 (pourN c.leaf c.bud (getL l a) (kidAt l a (chooseN c (getL l a) k).2) (chooseN c (getL l a) k).2).2.1 := by unfold pourL; rw [hsA, hsB]
  exact ⟨tup3 hE p77 rfl rfl, RfR.to (⟨_, _, congrArg _ (List.append_nil _), ho159⟩ : RfR 53 39 b_s c _ _ _) (hL9.trans (congrArg Prod.snd hE).symm)⟩
 try dsimp only at p77
 refine g9 9 ?_
 refine WC.cd (fun h106 p106 => ?_) (fun h106 p106 => ?_)
 ·try dsimp only at p106
  refine g9 11 ?_
  refine ⟨.inr rfl, [_, _, _], ⟨rfl, rfl, rfl, trivial⟩, ((b_s, ce9 39 [iV c.fan, iV c.leaf, iV c.bud, iV c.slots, iV c.rest, lV sa_l l.length sc_l]) :: (Ms_l ++ [])), (sr9.k9.cons _).cons _, ?_⟩
  have hE := (step_2 q43).trans (kid_5 p106)
  exact ⟨tup3 hE rfl rfl rfl, RfR.to (⟨_, _, congrArg _ (List.append_nil _), h_l⟩ : RfR 53 39 b_s c _ _ _) (congrArg Prod.snd hE).symm⟩
 try dsimp only at p106
 refine g9 12 ?_
 refine ⟨.inr rfl, [_, _, _], ⟨rfl, rfl, rfl, trivial⟩, ((b_s, ce9 39 [iV c.fan, iV c.leaf, iV c.bud, iV c.slots, iV c.rest, lV sa_l l.length sc_l]) :: (Ms_l ++ [])), (sr9.k9.cons _).cons _, ?_⟩
 have hE := (step_2 q43).trans (kid_0 (dec_0 p67 p77 p106))
 exact ⟨tup3 hE (dec_0 p67 p77 p106) rfl rfl, RfR.to (⟨_, _, congrArg _ (List.append_nil _), h_l⟩ : RfR 53 39 b_s c _ _ _) (congrArg Prod.snd hE).symm⟩

end Go.Proofs.YtfmigmijckdldaaGreat
