/- Walks of parting a kid, by definition. -/
import Derived.Test.YtfmigmijckdldaaGreatQgVq
set_option maxRecDepth 100000
set_option maxHeartbeats 1600000
set_option linter.unusedVariables false
set_option linter.unusedSimpArgs false
set_option linter.unnecessarySimpa false
namespace Go.Proofs.YtfmigmijckdldaaGreat
open Go Go.Fw Go.RowKit
attribute [local irreducible] Ok W WC
theorem rhas25_fc {G : GH} {b_s : Nat} {c : Cfg} {v_l : Value} {l : List Nd} {Ms_l : MH} (h_l : OwnR eNode 53 G v_l l Ms_l) (i : Int) :
    Fc Tryz.prog 77 [pt9 b_s, iV i] G ((b_s, ce9 39 [iV c.fan, iV c.leaf, iV c.bud, iV c.slots, iV c.rest, v_l]) :: (Ms_l)) (fun v G' M' => v = .bool (decide (0 ≤ i ∧ i < (l.length : Int))) ∧ M' = (b_s, ce9 39 [iV c.fan, iV c.leaf, iV c.bud, iV c.slots, iV c.rest, v_l]) :: Ms_l) := by
 obtain ⟨sa_l, sc_l, rfl⟩ := h_l.form
 have hl := h_l.len47
 refine Fc.go [.tmp 4] Tryz.func77 Tryz.ntmps77 rfl (fun w0 => (WC.perm (M' := ((b_s, ce9 39 [iV c.fan, iV c.leaf, iV c.bud, iV c.slots, iV c.rest, lV sa_l l.length sc_l]) :: (Ms_l ++ []))) (by simp) (g9 10 ?_)))
 refine W.sd 7 (fun h6 p6 => ?_) (fun h6 p6 => ?_)
 ·refine g9 19 ?_
  refine ⟨.inr rfl, [_], ⟨rfl, trivial⟩, ((b_s, ce9 39 [iV c.fan, iV c.leaf, iV c.bud, iV c.slots, iV c.rest, lV sa_l l.length sc_l]) :: (Ms_l ++ [])), sr9.k9, ?_⟩
  refine ⟨congrArg Value.bool ?_, congrArg _ (List.append_nil _)⟩
  first | (simp_all; done) | (simp_all; omega)
 refine g9 12 ?_
 refine ⟨.inr rfl, [_], ⟨rfl, trivial⟩, ((b_s, ce9 39 [iV c.fan, iV c.leaf, iV c.bud, iV c.slots, iV c.rest, lV sa_l l.length sc_l]) :: (Ms_l ++ [])), sr9.k9, ?_⟩
 refine ⟨congrArg Value.bool ?_, congrArg _ (List.append_nil _)⟩
 first | (simp_all; done) | (simp_all; omega)

theorem rpart26_fc {G : GH} {b_s : Nat} {c : Cfg} {v_l : Value} {l : List Nd} {Ms_l : MH} (h_l : OwnR eNode 53 G v_l l Ms_l) (p : Int) (i : Nat) (hi9 : i64 ((i : Nat) : Int)) (hS : Sml l) (hSl : SlotsP l) :
    Fc Tryz.prog 36 [pt9 b_s, iV p, nt9 i] G ((b_s, ce9 39 [iV c.fan, iV c.leaf, iV c.bud, iV c.slots, iV c.rest, v_l]) :: (Ms_l)) (fun v G' M' => v = iV (partS c l p i).1 ∧ RfR 53 39 b_s c G' (partS c l p i).2 M') := by
 obtain ⟨sa_l, sc_l, rfl⟩ := h_l.form
 have hl := h_l.len47
 have hlb : l.length * 152 ≤ 140737488355328 := h_l.bytes
 have hl100 := hS.1
 have hi1 := hi9.1
 have hi2 := hi9.2
 have hyi : i64 (l.length : Int) := ⟨om9, om9⟩
 refine Fc.go [.tmp 6] Tryz.func36 Tryz.ntmps36 rfl (fun w0 => (WC.perm (M' := ((b_s, ce9 39 [iV c.fan, iV c.leaf, iV c.bud, iV c.slots, iV c.rest, lV sa_l l.length sc_l]) :: (Ms_l ++ []))) (by simp) (g9 10 ?_)))
 refine W.call (Mp := ((b_s, ce9 39 [iV c.fan, iV c.leaf, iV c.bud, iV c.slots, iV c.rest, lV sa_l l.length sc_l]) :: Ms_l)) (Mr := []) (rhas25_fc (c := c) h_l _) rfl ((pr9.cons _).trans pr9) ?_
 intro v4 G1 Ms3 hG1 q2
 refine match q2 with | ⟨e_5, e_6⟩ => ?_
 subst e_5
 subst e_6
 refine W.perm (M' := ((b_s, ce9 39 [iV c.fan, iV c.leaf, iV c.bud, iV c.slots, iV c.rest, lV sa_l l.length sc_l]) :: (Ms_l ++ []))) ((pr9.cons _).trans pr9).symm (g9 2 ?_)
 refine W.sm 18 (fun h17 p17 => ?_) (fun h17 p17 => ?_)
 ·try dsimp only at p17
  refine g9 42 ?_
  refine ⟨.inr rfl, [_], ⟨rfl, trivial⟩, ((b_s, ce9 39 [iV c.fan, iV c.leaf, iV c.bud, iV c.slots, iV c.rest, lV sa_l l.length sc_l]) :: (Ms_l ++ [])), sr9.k9, ?_⟩
  have hE := partS_8 (c := c) (l := l) (p := p) (i := i) (.inl (by simp at h17; omega))
  exact ⟨congrArg (fun q : Int × List Nd => Value.int .i64 q.1) hE.symm, RfR.to ⟨_, _, congrArg _ (List.append_nil _), (h_l.mono hG1)⟩ (congrArg Prod.snd hE).symm⟩
 try dsimp only at p17
 have h1 : 0 ≤ p ∧ p < (l.length : Int) := by simpa using h17
 have hgp : getL l p = (l[p.toNat]'om9) := getL_nat h1
 refine g9 6 ?_
 refine W.sd 22 (fun h20 p20 => ?_) (fun h20 p20 => ?_)
 ·try dsimp only at p20
  exfalso; omega
 try dsimp only at p20
 refine g9 13 ?_
 refine (h_l.mono hG1).aN (i := p.toNat) om9 (fun _ _ _ _ _ _ _ _ he7 hp_n8 hk_n8 hm_n8 hr_n8 hok_n8 => (W.ok (ok_indexAddrO (i := p.toNat) sl24 ty53 (h_l.mono hG1) rfl rfl ⟨om9, om9⟩) (g9 3 ?_)))
 refine W.ok (ok_loadO (vs := lc9) ty50 he7 (pmC pr9) rfl rfl rfl (by simp)) (g9 6 ?_)
 refine W.sd 35 (fun h33 p33 => ?_) (fun h33 p33 => ?_)
 ·try dsimp only at p33
  refine g9 25 ?_
  refine ⟨.inr rfl, [_], ⟨rfl, trivial⟩, ((b_s, ce9 39 [iV c.fan, iV c.leaf, iV c.bud, iV c.slots, iV c.rest, lV sa_l l.length sc_l]) :: (Ms_l ++ [])), sr9.k9, ?_⟩
  have hE := partS_8 (c := c) (l := l) (p := p) (i := i) (.inr (.inl (by rw [hgp]; omega)))
  exact ⟨congrArg (fun q : Int × List Nd => Value.int .i64 q.1) hE.symm, RfR.to ⟨_, _, congrArg _ (List.append_nil _), (h_l.mono hG1)⟩ (congrArg Prod.snd hE).symm⟩
 try dsimp only at p33
 have h2 : ¬ (getL l p).kids.length ≤ i := by rw [hgp]; omega
 have hkd : ((l[p.toNat]'om9).kids[i]'om9) = kdN l p i := by unfold kdN; rw [hgp, List.getD_eq_getElem?_getD, List.getElem?_eq_getElem om9]; rfl
 refine g9 13 ?_
 refine (h_l.mono hG1).aN (i := p.toNat) om9 (fun _ _ _ _ _ _ _ _ he11 hp_n12 hk_n12 hm_n12 hr_n12 hok_n12 => (W.ok (ok_indexAddrO (i := p.toNat) sl24 ty53 (h_l.mono hG1) rfl rfl ⟨om9, om9⟩) (g9 3 ?_)))
 refine W.ok (ok_loadO (vs := lc9) ty50 he11 (pmC pr9) rfl rfl rfl (by simp)) (g9 3 ?_)
 refine hk_n12.a2 (i := i) om9 (fun he15 hi16 => (g9 4 ?_))
 refine W.call (Mp := ((b_s, ce9 39 [iV c.fan, iV c.leaf, iV c.bud, iV c.slots, iV c.rest, lV sa_l l.length sc_l]) :: Ms_l)) (Mr := []) (rhas25_fc (c := c) (h_l.mono hG1) _) rfl ((pr9.cons _).trans pr9) ?_
 intro v22 G19 Ms21 hG19 q20
 refine match q20 with | ⟨e_23, e_24⟩ => ?_
 subst e_23
 subst e_24
 refine W.perm (M' := ((b_s, ce9 39 [iV c.fan, iV c.leaf, iV c.bud, iV c.slots, iV c.rest, lV sa_l l.length sc_l]) :: (Ms_l ++ []))) ((pr9.cons _).trans pr9).symm (g9 5 ?_)
 refine WC.cn (fun h49 p49 => ?_) (fun h49 p49 => ?_)
 ·try dsimp only at p49
  refine g9 7 ?_
  refine ⟨.inr rfl, [_], ⟨rfl, trivial⟩, ((b_s, ce9 39 [iV c.fan, iV c.leaf, iV c.bud, iV c.slots, iV c.rest, lV sa_l l.length sc_l]) :: (Ms_l ++ [])), sr9.k9, ?_⟩
  have hE := partS_8 (c := c) (l := l) (p := p) (i := i) (.inr (.inr (by rw [← hkd]; simp at h49; omega)))
  exact ⟨congrArg (fun q : Int × List Nd => Value.int .i64 q.1) hE.symm, RfR.to ⟨_, _, congrArg _ (List.append_nil _), (h_l.mono lec)⟩ (congrArg Prod.snd hE).symm⟩
 try dsimp only at p49
 have h3 : 0 ≤ kdN l p i ∧ kdN l p i < (l.length : Int) := by rw [← hkd]; simpa using h49
 have hgk : getL l (kdN l p i) = (l[(kdN l p i).toNat]'om9) := getL_nat h3
 have hks : ∀ m ∈ (l[(kdN l p i).toNat]'om9).msgs, m.key.b.size < 140737488355328 := fun m hm => by have := ((hS.2 _ (List.getElem_mem _)).2.2.2.2.2.1 m hm).1; omega
 have hz9 : (l[p.toNat]'om9).pivots.length ≤ 1000000 ∧ (l[p.toNat]'om9).kids.length ≤ 1000000 := by have := hS.2 (l[p.toNat]'om9) (List.getElem_mem _); exact ⟨by have := this.2.1; omega, by have := this.1; omega⟩
 refine g9 14 ?_
 refine (h_l.mono (hG1.trans hG19)).aN (i := p.toNat) om9 (fun _ _ _ _ _ _ _ _ he25 hp_n26 hk_n26 hm_n26 hr_n26 hok_n26 => (W.ok (ok_indexAddrO (i := p.toNat) sl24 ty53 (h_l.mono lec) rfl rfl ⟨om9, om9⟩) (W.ok (ok_loadO (vs := nd9) ty53 he25 (pmC pr9) rfl rfl rfl (by simp)) (W.qcall (rfull_fc _ _ _ _ _ (nk9 hp_n26 hk_n26 hm_n26 hr_n26 hok_n26)) rfl (g9 2 ?_)))))
 refine WC.cond rfl (fun h62 => ?_) (fun h62 => ?_)
 ·refine g9 7 ?_
  refine ⟨.inr rfl, [_], ⟨rfl, trivial⟩, ((b_s, ce9 39 [iV c.fan, iV c.leaf, iV c.bud, iV c.slots, iV c.rest, lV sa_l l.length sc_l]) :: (Ms_l ++ [])), sr9.k9, ?_⟩
  have hE := partS_9 (c := c) (l := l) (p := p) (i := i) h1 h2 h3 (by rw [hgp]; simpa using h62)
  exact ⟨congrArg (fun q : Int × List Nd => Value.int .i64 q.1) hE.symm, RfR.to ⟨_, _, congrArg _ (List.append_nil _), (h_l.mono lec)⟩ (congrArg Prod.snd hE).symm⟩
 have h4 : fullN c (getL l p) = false := by rw [hgp]; simpa using h62
 refine g9 12 ?_
 refine WC.join (X := (Unit) × Nat × List Value × Nat × List Value) (fun u7 => [(10, sV (cleaveN (l[(kdN l p i).toNat]'om9) (l.length : Int)).2.2.1.b), (11, .bool (cleaveN (l[(kdN l p i).toNat]'om9) (l.length : Int)).2.2.2), (0, pt9 b_s), (1, iV p), (2, nt9 i), (7, nt9 ((l).length)), (8, .pointer (some ⟨u7.2.1, 0, none⟩)), (9, .pointer (some ⟨u7.2.2.2.1, 0, none⟩))]) (fun u7 G Ml => Ml = ((u7.2.1, .cells (List.toArray u7.2.2.1) 53 (0, 0)) :: ((u7.2.2.2.1, .cells (List.toArray u7.2.2.2.2) 53 (0, 0)) :: ((b_s, ce9 39 [iV c.fan, iV c.leaf, iV c.bud, iV c.slots, iV c.rest, lV sa_l l.length sc_l]) :: (Ms_l ++ [])))) ∧ NodeC G u7.2.2.1 ((cleaveN (l[(kdN l p i).toNat]'om9) (l.length : Int)).1) ∧ NodeC G u7.2.2.2.2 ((cleaveN (l[(kdN l p i).toNat]'om9) (l.length : Int)).2.1)) ?_ ?_
 ·refine WC.dw sr9.k9 (d9 [0, 1, 2, 3, 4, 5, 6, 7, 8] ?_)
  refine (h_l.mono (hG1.trans hG19)).aN (i := p.toNat) om9 (fun _ _ _ _ _ _ _ _ he29 hp_n30 hk_n30 hm_n30 hr_n30 hok_n30 => (WD.tk 9 rfl (ok_indexAddrO (i := p.toNat) sl24 ty53 (h_l.mono lec) rfl rfl ⟨om9, om9⟩) (d9 [10] ?_)))
  refine WD.tk 11 rfl (ok_loadO (vs := lc9) ty50 he29 (pmC pr9) rfl rfl rfl (by simp)) (d9 [12] ?_)
  refine hk_n30.a2 (i := i) om9 (fun he33 hi34 => (d9 [13, 14] ?_))
  refine (h_l.mono (hG1.trans hG19)).aN (i := (kdN l p i).toNat) om9 (fun _ _ _ _ _ _ _ _ he37 hp_n38 hk_n38 hm_n38 hr_n38 hok_n38 => (WD.tk 15 rfl (ok_indexAddrO (i := (kdN l p i).toNat) sl24 ty53 (h_l.mono lec) rfl rfl ⟨om9, om9⟩) (WD.tk 16 rfl (ok_loadO (vs := nd9) ty53 he37 (pmC pr9) rfl rfl rfl (by simp)) (d9 [17] ?_))))
  refine WD.any [18, 24, 25] (by kernel_rfl) rfl ⟨WD.ap ?_, WD.ap ?_, WD.ap ?_, trivial⟩
  ·refine W.cM (rcleave_fc (nk9 hp_n38 hk_n38 hm_n38 hr_n38 hok_n38) (l.length : Int) hyi hks) rfl (fun pa_hv42 pc_hv42 ka_hv42 kc_hv42 ma_hv42 mc_hv42 ra_hv42 rc_hv42 pa_hv43 pc_hv43 ka_hv43 kc_hv43 ma_hv43 mc_hv43 ra_hv43 rc_hv43 G41 hG41 hp_hv42 hk_hv42 hm_hv42 hr_hv42 hok_hv42 hp_hv43 hk_hv43 hm_hv43 hr_hv43 hok_hv43 => (W.nn (d9 [19, 20, 21, 22, 23] ?_)))
   refine WD.any [24, 25] (by kernel_rfl) rfl ⟨WD.ap ?_, WD.ap ?_, trivial⟩
   ·refine W.alloc zr53 (fun b50 => (W.nn (WD.a1 25 rfl (W.alloc zr53 (fun b51 => (W.nn (d9 [26, 27, 28, 29] ?_)))))))
    refine WD.doneP (M' := ((b50, ce9 53 (ndl ((cleaveN (l[(kdN l p i).toNat]'om9) (l.length : Int)).1) pa_hv42 pc_hv42 ka_hv42 kc_hv42 ma_hv42 mc_hv42 ra_hv42 rc_hv42)) :: ((b51, ce9 53 (ndl ((cleaveN (l[(kdN l p i).toNat]'om9) (l.length : Int)).2.1) pa_hv43 pc_hv43 ka_hv43 kc_hv43 ma_hv43 mc_hv43 ra_hv43 rc_hv43)) :: ((b_s, ce9 39 [iV c.fan, iV c.leaf, iV c.bud, iV c.slots, iV c.rest, lV sa_l l.length sc_l]) :: (Ms_l ++ []))))) (by kernel_rfl) sr9 (List.Perm.swap _ _ _) (thn_n ?_)
    exact ⟨hG41, ((), b50, (ndl ((cleaveN (l[(kdN l p i).toNat]'om9) (l.length : Int)).1) pa_hv42 pc_hv42 ka_hv42 kc_hv42 ma_hv42 mc_hv42 ra_hv42 rc_hv42), b51, (ndl ((cleaveN (l[(kdN l p i).toNat]'om9) (l.length : Int)).2.1) pa_hv43 pc_hv43 ka_hv43 kc_hv43 ma_hv43 mc_hv43 ra_hv43 rc_hv43)), hs9, ⟨rfl, (by exact (nk9 hp_hv42 hk_hv42 hm_hv42 hr_hv42 hok_hv42)), (by exact (nk9 hp_hv43 hk_hv43 hm_hv43 hr_hv43 hok_hv43))⟩⟩
   refine W.alloc zr53 (fun b52 => (W.nn (WD.a1 24 rfl (W.alloc zr53 (fun b53 => (W.nn (d9 [26, 27, 28, 29] ?_)))))))
   refine g9 2 ?_
   exact ⟨hG41, ((), b53, (ndl ((cleaveN (l[(kdN l p i).toNat]'om9) (l.length : Int)).1) pa_hv42 pc_hv42 ka_hv42 kc_hv42 ma_hv42 mc_hv42 ra_hv42 rc_hv42), b52, (ndl ((cleaveN (l[(kdN l p i).toNat]'om9) (l.length : Int)).2.1) pa_hv43 pc_hv43 ka_hv43 kc_hv43 ma_hv43 mc_hv43 ra_hv43 rc_hv43)), hs9, ⟨rfl, (by exact (nk9 hp_hv42 hk_hv42 hm_hv42 hr_hv42 hok_hv42)), (by exact (nk9 hp_hv43 hk_hv43 hm_hv43 hr_hv43 hok_hv43))⟩⟩
  ·refine W.alloc zr53 (fun b54 => (W.nn ?_))
   refine WD.any [18, 25] (by kernel_rfl) rfl ⟨WD.ap ?_, WD.ap ?_, trivial⟩
   ·refine W.cM (rcleave_fc (nk9 hp_n38 hk_n38 hm_n38 hr_n38 hok_n38) (l.length : Int) hyi hks) rfl (fun pa_hv56 pc_hv56 ka_hv56 kc_hv56 ma_hv56 mc_hv56 ra_hv56 rc_hv56 pa_hv57 pc_hv57 ka_hv57 kc_hv57 ma_hv57 mc_hv57 ra_hv57 rc_hv57 G55 hG55 hp_hv56 hk_hv56 hm_hv56 hr_hv56 hok_hv56 hp_hv57 hk_hv57 hm_hv57 hr_hv57 hok_hv57 => (W.nn (d9 [19, 20, 21, 22, 23] ?_)))
    refine WD.a1 25 rfl (W.alloc zr53 (fun b64 => (W.nn (d9 [26, 27, 28, 29] ?_))))
    refine WD.doneP (M' := ((b54, ce9 53 (ndl ((cleaveN (l[(kdN l p i).toNat]'om9) (l.length : Int)).1) pa_hv56 pc_hv56 ka_hv56 kc_hv56 ma_hv56 mc_hv56 ra_hv56 rc_hv56)) :: ((b64, ce9 53 (ndl ((cleaveN (l[(kdN l p i).toNat]'om9) (l.length : Int)).2.1) pa_hv57 pc_hv57 ka_hv57 kc_hv57 ma_hv57 mc_hv57 ra_hv57 rc_hv57)) :: ((b_s, ce9 39 [iV c.fan, iV c.leaf, iV c.bud, iV c.slots, iV c.rest, lV sa_l l.length sc_l]) :: (Ms_l ++ []))))) (by kernel_rfl) sr9 (List.Perm.swap _ _ _) (thn_n ?_)
    exact ⟨hG55, ((), b54, (ndl ((cleaveN (l[(kdN l p i).toNat]'om9) (l.length : Int)).1) pa_hv56 pc_hv56 ka_hv56 kc_hv56 ma_hv56 mc_hv56 ra_hv56 rc_hv56), b64, (ndl ((cleaveN (l[(kdN l p i).toNat]'om9) (l.length : Int)).2.1) pa_hv57 pc_hv57 ka_hv57 kc_hv57 ma_hv57 mc_hv57 ra_hv57 rc_hv57)), hs9, ⟨rfl, (by exact (nk9 hp_hv56 hk_hv56 hm_hv56 hr_hv56 hok_hv56)), (by exact (nk9 hp_hv57 hk_hv57 hm_hv57 hr_hv57 hok_hv57))⟩⟩
   refine W.alloc zr53 (fun b65 => (W.nn (WD.a1 18 rfl (W.cM (rcleave_fc (nk9 hp_n38 hk_n38 hm_n38 hr_n38 hok_n38) (l.length : Int) hyi hks) rfl (fun pa_hv67 pc_hv67 ka_hv67 kc_hv67 ma_hv67 mc_hv67 ra_hv67 rc_hv67 pa_hv68 pc_hv68 ka_hv68 kc_hv68 ma_hv68 mc_hv68 ra_hv68 rc_hv68 G66 hG66 hp_hv67 hk_hv67 hm_hv67 hr_hv67 hok_hv67 hp_hv68 hk_hv68 hm_hv68 hr_hv68 hok_hv68 => (W.nn (d9 [19, 20, 21, 22, 23, 26, 27, 28, 29] ?_)))))))
   refine WD.doneP (M' := ((b54, ce9 53 (ndl ((cleaveN (l[(kdN l p i).toNat]'om9) (l.length : Int)).1) pa_hv67 pc_hv67 ka_hv67 kc_hv67 ma_hv67 mc_hv67 ra_hv67 rc_hv67)) :: ((b65, ce9 53 (ndl ((cleaveN (l[(kdN l p i).toNat]'om9) (l.length : Int)).2.1) pa_hv68 pc_hv68 ka_hv68 kc_hv68 ma_hv68 mc_hv68 ra_hv68 rc_hv68)) :: ((b_s, ce9 39 [iV c.fan, iV c.leaf, iV c.bud, iV c.slots, iV c.rest, lV sa_l l.length sc_l]) :: (Ms_l ++ []))))) (by kernel_rfl) sr9 (List.Perm.swap _ _ _) (thn_n ?_)
   exact ⟨hG66, ((), b54, (ndl ((cleaveN (l[(kdN l p i).toNat]'om9) (l.length : Int)).1) pa_hv67 pc_hv67 ka_hv67 kc_hv67 ma_hv67 mc_hv67 ra_hv67 rc_hv67), b65, (ndl ((cleaveN (l[(kdN l p i).toNat]'om9) (l.length : Int)).2.1) pa_hv68 pc_hv68 ka_hv68 kc_hv68 ma_hv68 mc_hv68 ra_hv68 rc_hv68)), hs9, ⟨rfl, (by exact (nk9 hp_hv67 hk_hv67 hm_hv67 hr_hv67 hok_hv67)), (by exact (nk9 hp_hv68 hk_hv68 hm_hv68 hr_hv68 hok_hv68))⟩⟩
  refine W.alloc zr53 (fun b75 => (W.nn ?_))
  refine WD.any [18, 24] (by kernel_rfl) rfl ⟨WD.ap ?_, WD.ap ?_, trivial⟩
  ·refine W.cM (rcleave_fc (nk9 hp_n38 hk_n38 hm_n38 hr_n38 hok_n38) (l.length : Int) hyi hks) rfl (fun pa_hv77 pc_hv77 ka_hv77 kc_hv77 ma_hv77 mc_hv77 ra_hv77 rc_hv77 pa_hv78 pc_hv78 ka_hv78 kc_hv78 ma_hv78 mc_hv78 ra_hv78 rc_hv78 G76 hG76 hp_hv77 hk_hv77 hm_hv77 hr_hv77 hok_hv77 hp_hv78 hk_hv78 hm_hv78 hr_hv78 hok_hv78 => (W.nn (d9 [19, 20, 21, 22, 23] ?_)))
   refine WD.a1 24 rfl (W.alloc zr53 (fun b85 => (W.nn (d9 [26, 27, 28, 29] ?_))))
   refine g9 2 ?_
   exact ⟨hG76, ((), b85, (ndl ((cleaveN (l[(kdN l p i).toNat]'om9) (l.length : Int)).1) pa_hv77 pc_hv77 ka_hv77 kc_hv77 ma_hv77 mc_hv77 ra_hv77 rc_hv77), b75, (ndl ((cleaveN (l[(kdN l p i).toNat]'om9) (l.length : Int)).2.1) pa_hv78 pc_hv78 ka_hv78 kc_hv78 ma_hv78 mc_hv78 ra_hv78 rc_hv78)), hs9, ⟨rfl, (by exact (nk9 hp_hv77 hk_hv77 hm_hv77 hr_hv77 hok_hv77)), (by exact (nk9 hp_hv78 hk_hv78 hm_hv78 hr_hv78 hok_hv78))⟩⟩
  refine W.alloc zr53 (fun b86 => (W.nn (WD.a1 18 rfl (W.cM (rcleave_fc (nk9 hp_n38 hk_n38 hm_n38 hr_n38 hok_n38) (l.length : Int) hyi hks) rfl (fun pa_hv88 pc_hv88 ka_hv88 kc_hv88 ma_hv88 mc_hv88 ra_hv88 rc_hv88 pa_hv89 pc_hv89 ka_hv89 kc_hv89 ma_hv89 mc_hv89 ra_hv89 rc_hv89 G87 hG87 hp_hv88 hk_hv88 hm_hv88 hr_hv88 hok_hv88 hp_hv89 hk_hv89 hm_hv89 hr_hv89 hok_hv89 => (W.nn (d9 [19, 20, 21, 22, 23, 26, 27, 28, 29] ?_)))))))
  refine g9 2 ?_
  exact ⟨hG87, ((), b86, (ndl ((cleaveN (l[(kdN l p i).toNat]'om9) (l.length : Int)).1) pa_hv88 pc_hv88 ka_hv88 kc_hv88 ma_hv88 mc_hv88 ra_hv88 rc_hv88), b75, (ndl ((cleaveN (l[(kdN l p i).toNat]'om9) (l.length : Int)).2.1) pa_hv89 pc_hv89 ka_hv89 kc_hv89 ma_hv89 mc_hv89 ra_hv89 rc_hv89)), hs9, ⟨rfl, (by exact (nk9 hp_hv88 hk_hv88 hm_hv88 hr_hv88 hok_hv88)), (by exact (nk9 hp_hv89 hk_hv89 hm_hv89 hr_hv89 hok_hv89))⟩⟩
 rintro ⟨u7, B_8, C_8, B_9, C_9⟩ gG96 G96 _ hG96 ⟨rfl, ho_8, ho_9⟩
 try dsimp only at ho_8 ho_9
 refine match ho_9 with | ⟨_, _, _, _, _, _, _, _, e_98, hp_nb97, hk_nb97, hm_nb97, hr_nb97, hok_nb97⟩ => ?_
 subst e_98
 refine match ho_8 with | ⟨_, _, _, _, _, _, _, _, e_100, hp_nb99, hk_nb99, hm_nb99, hr_nb99, hok_nb99⟩ => ?_
 subst e_100
 refine WC.fr (f := setL gG96 [(10, sV (cleaveN (l[(kdN l p i).toNat]'om9) (l.length : Int)).2.2.1.b), (11, .bool (cleaveN (l[(kdN l p i).toNat]'om9) (l.length : Int)).2.2.2), (0, pt9 b_s), (1, iV p), (2, nt9 i), (7, nt9 ((l).length)), (8, pt9 B_8), (9, pt9 B_9)]) rfl (g9 7 ?_)
 refine WC.cond rfl (fun h93 => ?_) (fun h93 => ?_)
 ·refine g9 7 ?_
  refine ⟨.inr rfl, [_], ⟨rfl, trivial⟩, ((b_s, ce9 39 [iV c.fan, iV c.leaf, iV c.bud, iV c.slots, iV c.rest, lV sa_l l.length sc_l]) :: (Ms_l ++ [])), (sr9.k9.cons _).cons _, ?_⟩
  have hE := partS_6 (c := c) (l := l) (p := p) (i := i) h1 h2 h3 h4 (.inl (by unfold cutP; rw [hgk]; simpa using h93))
  exact ⟨congrArg (fun q : Int × List Nd => Value.int .i64 q.1) hE.symm, RfR.to ⟨_, _, congrArg _ (List.append_nil _), (h_l.mono lec)⟩ (congrArg Prod.snd hE).symm⟩
 have h5 : (cutP l p i).2.2.2 = true := by unfold cutP; rw [hgk]; simpa using h93
 refine g9 9 ?_
 refine (h_l.mono ((hG1.trans hG19).trans hG96)).aN (i := p.toNat) om9 (fun _ _ _ _ _ _ _ _ he101 hp_n102 hk_n102 hm_n102 hr_n102 hok_n102 => (W.ok (ok_indexAddrO (i := p.toNat) sl24 ty53 (h_l.mono lec) rfl rfl ⟨om9, om9⟩) (W.ok (ok_loadO (vs := nd9) ty53 he101 (pmC (pmC (pmC pr9))) rfl rfl rfl (by simp)) (g9 3 ?_))))
 refine W.call (Mp := []) (ranat_fc (nk9 hp_n102 hk_n102 hm_n102 hr_n102 hok_n102) i (cleaveN (l[(kdN l p i).toNat]'om9) (l.length : Int)).2.2.1 (l.length : Int) hz9 hi9 hyi) rfl pr9 ?_
 intro _ G105 _ hG105 q107
 refine match q107 with | ⟨e_108, _, e_109, _, e_110, hv106⟩ => ?_
 subst e_108
 subst e_109
 subst e_110
 refine match hv106 with | ⟨_, _, _, _, _, _, _, _, e_111, hp_hv106, hk_hv106, hm_hv106, hr_hv106, hok_hv106⟩ => ?_
 subst e_111
 refine g9 3 ?_
 refine W.alloc zr53 (fun b112 => (g9 11 ?_))
 refine WC.cond rfl (fun h109 => ?_) (fun h109 => ?_)
 ·refine g9 7 ?_
  refine ⟨.inr rfl, [_], ⟨rfl, trivial⟩, ((b_s, ce9 39 [iV c.fan, iV c.leaf, iV c.bud, iV c.slots, iV c.rest, lV sa_l l.length sc_l]) :: (Ms_l ++ [])), ((sr9.k9.cons _).cons _).cons _, ?_⟩
  have hE := partS_6 (c := c) (l := l) (p := p) (i := i) h1 h2 h3 h4 (.inr (by unfold adP cutP; rw [hgk, hgp]; simpa using h109))
  exact ⟨congrArg (fun q : Int × List Nd => Value.int .i64 q.1) hE.symm, RfR.to ⟨_, _, congrArg _ (List.append_nil _), (h_l.mono lec)⟩ (congrArg Prod.snd hE).symm⟩
 have h6 : (adP l p i).2 = true := by unfold adP cutP; rw [hgk, hgp]; simpa using h109
 have e9 : adP l p i = (adoptN (l[p.toNat]'om9) i (cleaveN (l[(kdN l p i).toNat]'om9) (l.length : Int)).2.2.1 (l.length : Int)) := by unfold adP cutP; rw [hgk, hgp]
 have e5 : cutP l p i = (cleaveN (l[(kdN l p i).toNat]'om9) (l.length : Int)) := by unfold cutP; rw [hgk]
 have hs1 : (cleaveN (l[(kdN l p i).toNat]'om9) (l.length : Int)).1.slot = kdN l p i := by rw [← e5]; exact (cut_slots h5).1.trans (getL_slot hSl h3).1
 have hlst : ((l.set (kdN l p i).toNat (cleaveN (l[(kdN l p i).toNat]'om9) (l.length : Int)).1).set p.toNat (adoptN (l[p.toNat]'om9) i (cleaveN (l[(kdN l p i).toNat]'om9) (l.length : Int)).2.2.1 (l.length : Int)).1) ++ [(cleaveN (l[(kdN l p i).toNat]'om9) (l.length : Int)).2.1] = lstP l p i := by unfold lstP; rw [e9, e5, hs1]
 have hls : (l.set (kdN l p i).toNat (cleaveN (l[(kdN l p i).toNat]'om9) (l.length : Int)).1).length = l.length := List.length_set
 refine g9 14 ?_
 refine WC.cd (fun h116 p116 => ?_) (fun h116 p116 => ?_)
 ·try dsimp only at p116
  refine g9 7 ?_
  refine ⟨.inr rfl, [_], ⟨rfl, trivial⟩, ((b_s, ce9 39 [iV c.fan, iV c.leaf, iV c.bud, iV c.slots, iV c.rest, lV sa_l l.length sc_l]) :: (Ms_l ++ [])), ((sr9.k9.cons _).cons _).cons _, ?_⟩
  have hE := partS_4 (c := c) (l := l) (p := p) (i := i) h1 h2 h3 h4 h5 h6 om9
  exact ⟨congrArg (fun q : Int × List Nd => Value.int .i64 q.1) hE.symm, RfR.to ⟨_, _, congrArg _ (List.append_nil _), (h_l.mono lec)⟩ (congrArg Prod.snd hE).symm⟩
 try dsimp only at p116
 refine g9 3 ?_
 refine WC.dw (((sn9.k9.k9).k9).k9) (d9 [0, 1, 2, 3, 4, 5, 6] ?_)
 refine (h_l.mono (((hG1.trans hG19).trans hG96).trans hG105)).aN (i := (kdN l p i).toNat) om9 (fun _ _ _ _ _ _ _ _ he113 hp_n114 hk_n114 hm_n114 hr_n114 hok_n114 => (WD.tk 7 rfl (ok_indexAddrO (i := (kdN l p i).toNat) sl24 ty53 (h_l.mono lec) rfl rfl ⟨om9, om9⟩) (WD.a1 8 rfl (W.storeO (i := (kdN l p i).toNat) (o := 0) (vs := nd9) (a' := ((cleaveN (l[(kdN l p i).toNat]'om9) (l.length : Int))).1) ty53 rfl rfl rfl rfl rfl ((h_l.mono lec)) (pmC (pmC (pmC (pmC pr9)))) om9 (by decide) (fun cs h => by obtain ⟨_, _, _, _, _, _, _, _, rfl, _⟩ := h; exact (nm9 hG105 hp_nb99 hk_nb99 hm_nb99 hr_nb99 hok_nb99)) (fun Ms117 ho118 => (W.perm (pmC (pmC (pmC (pmC pr9)))).symm (W.nn (g9 3 ?_))))))))
 refine WC.dw (((sn9.k9.k9).k9).k9) (d9 [0, 1, 2, 3, 4, 5] ?_)
 refine ho118.aN (i := p.toNat) om9 (fun _ _ _ _ _ _ _ _ he119 hp_n120 hk_n120 hm_n120 hr_n120 hok_n120 => (WD.tk 6 rfl (ok_indexAddrO (i := p.toNat) sl24 ty53 ho118 rfl rfl ⟨om9, om9⟩) (WD.a1 7 rfl (W.storeO (i := p.toNat) (o := 0) (vs := nd9) (a' := ((adoptN (l[p.toNat]'om9) i (cleaveN (l[(kdN l p i).toNat]'om9) (l.length : Int)).2.2.1 (l.length : Int))).1) ty53 rfl rfl rfl rfl rfl (ho118) (pmC (pmC (pmC (pmC pr9)))) om9 (by decide) (fun cs h => by obtain ⟨_, _, _, _, _, _, _, _, rfl, _⟩ := h; exact (nk9 hp_hv106 hk_hv106 hm_hv106 hr_hv106 hok_hv106)) (fun Ms123 ho124 => (W.perm (pmC (pmC (pmC (pmC pr9)))).symm (W.nn (g9 3 ?_))))))))
 refine WC.dw ((((sn9.cons _).k9).k9).k9) (d9 [0, 1, 2, 3, 5] ?_)
 refine WD.any [4, 6] (by kernel_rfl) rfl ⟨WD.ap ?_, WD.ap ?_, trivial⟩
 ·refine g9 1 ?_
  refine W.nn (WD.a1 6 rfl (W.lit (e := eNode) (l := [(cleaveN (l[(kdN l p i).toNat]'om9) (l.length : Int)).2.1]) (css := [[iV _, iV _, lV _ _ _, lV _ _ _, sV _, .bool _, iV _, iV _, lV _ _ _, lV _ _ _]]) sl24 ty53 zr53 rfl rfl rfl rfl rfl rfl ⟨(nm9 hG105 hp_nb97 hk_nb97 hm_nb97 hr_nb97 hok_nb97), trivial⟩ (fun bl125 G125 hG125 hv125 => (W.nn (WD.a1 7 rfl (W.app (e := eNode) sl24 ty53 zr53 rfl by53 rfl rfl ((ho124.mono hG125)) (hv125) (pmC (pmC (pmC (pmC pr9)))) (by show (List.length _ + List.length _) * 152 ≤ _; simp only [List.length_set]; simp; omega) (fun v126 Ms127 ho128 => (W.perm (pmC (pmC (pmC (pmC pr9)))).symm ?_))))))))
  have q132 := ho128.form
  refine match q132 with | ⟨sa129, sc130, e_131⟩ => ?_
  subst e_131
  refine W.nn (d9 [8, 9, 10] ?_)
  refine g9 8 ?_
  refine ⟨.inr rfl, [_], ⟨rfl, trivial⟩, ((b_s, ce9 39 [iV c.fan, iV c.leaf, iV c.bud, iV c.slots, iV c.rest, lV sa129 ((((((l).set ((kdN l p i).toNat) ((cleaveN (l[(kdN l p i).toNat]'om9) (l.length : Int))).1)).set (p.toNat) ((adoptN (l[p.toNat]'om9) i (cleaveN (l[(kdN l p i).toNat]'om9) (l.length : Int)).2.2.1 (l.length : Int))).1) ++ [(cleaveN (l[(kdN l p i).toNat]'om9) (l.length : Int)).2.1])).length sc130]) :: (Ms127 ++ [])), ((sr9.k9.cons _).cons _).cons _, ?_⟩
  have hE := partS_0 (c := c) (l := l) (p := p) (i := i) h1 h2 h3 h4 h5 h6 om9
  exact ⟨congrArg (fun q : Int × List Nd => Value.int .i64 q.1) hE.symm, RfR.to (⟨_, _, congrArg _ (List.append_nil _), ho128⟩ : RfR 53 39 b_s c _ _ _) (hlst.trans (congrArg Prod.snd hE).symm)⟩
 refine W.lit (e := eNode) (l := [(cleaveN (l[(kdN l p i).toNat]'om9) (l.length : Int)).2.1]) (css := [[iV _, iV _, lV _ _ _, lV _ _ _, sV _, .bool _, iV _, iV _, lV _ _ _, lV _ _ _]]) sl24 ty53 zr53 rfl rfl rfl rfl rfl rfl ⟨(nm9 hG105 hp_nb97 hk_nb97 hm_nb97 hr_nb97 hok_nb97), trivial⟩ (fun bl133 G133 hG133 hv133 => (W.nn (WD.a1 4 rfl (g9 1 ?_))))
 refine W.nn (WD.a1 7 rfl (W.app (e := eNode) sl24 ty53 zr53 rfl by53 rfl rfl ((ho124.mono hG133)) (hv133) (pmC (pmC (pmC (pmC pr9)))) (by show (List.length _ + List.length _) * 152 ≤ _; simp only [List.length_set]; simp; omega) (fun v134 Ms135 ho136 => (W.perm (pmC (pmC (pmC (pmC pr9)))).symm ?_))))
 have q140 := ho136.form
 refine match q140 with | ⟨sa137, sc138, e_139⟩ => ?_
 subst e_139
 refine W.nn (d9 [8, 9, 10] ?_)
 refine g9 8 ?_
 refine ⟨.inr rfl, [_], ⟨rfl, trivial⟩, ((b_s, ce9 39 [iV c.fan, iV c.leaf, iV c.bud, iV c.slots, iV c.rest, lV sa137 ((((((l).set ((kdN l p i).toNat) ((cleaveN (l[(kdN l p i).toNat]'om9) (l.length : Int))).1)).set (p.toNat) ((adoptN (l[p.toNat]'om9) i (cleaveN (l[(kdN l p i).toNat]'om9) (l.length : Int)).2.2.1 (l.length : Int))).1) ++ [(cleaveN (l[(kdN l p i).toNat]'om9) (l.length : Int)).2.1])).length sc138]) :: (Ms135 ++ [])), ((sr9.k9.cons _).cons _).cons _, ?_⟩
 have hE := partS_0 (c := c) (l := l) (p := p) (i := i) h1 h2 h3 h4 h5 h6 om9
 exact ⟨congrArg (fun q : Int × List Nd => Value.int .i64 q.1) hE.symm, RfR.to (⟨_, _, congrArg _ (List.append_nil _), ho136⟩ : RfR 53 39 b_s c _ _ _) (hlst.trans (congrArg Prod.snd hE).symm)⟩

end Go.Proofs.YtfmigmijckdldaaGreat
namespace Go.Proofs.YtfmigmijckdldaaGreat
open Go Go.Fw Go.RowKit
attribute [local irreducible] Ok W WC
theorem rpartn26_fc {G : GH} {b_s : Nat} {c : Cfg} {v_l : Value} {l : List Nd} {Ms_l : MH} (h_l : OwnR eNode 53 G v_l l Ms_l) (p : Int) (i : Int) (hn9 : i < 0) :
    Fc Tryz.prog 36 [pt9 b_s, iV p, iV i] G ((b_s, ce9 39 [iV c.fan, iV c.leaf, iV c.bud, iV c.slots, iV c.rest, v_l]) :: (Ms_l)) (fun v G' M' => v = iV 8 ∧ M' = (b_s, ce9 39 [iV c.fan, iV c.leaf, iV c.bud, iV c.slots, iV c.rest, v_l]) :: Ms_l) := by
 obtain ⟨sa_l, sc_l, rfl⟩ := h_l.form
 have hl := h_l.len47
 refine Fc.go [.tmp 6] Tryz.func36 Tryz.ntmps36 rfl (fun w0 => (WC.perm (M' := ((b_s, ce9 39 [iV c.fan, iV c.leaf, iV c.bud, iV c.slots, iV c.rest, lV sa_l l.length sc_l]) :: (Ms_l ++ []))) (by simp) (g9 10 ?_)))
 refine W.call (Mp := ((b_s, ce9 39 [iV c.fan, iV c.leaf, iV c.bud, iV c.slots, iV c.rest, lV sa_l l.length sc_l]) :: Ms_l)) (Mr := []) (rhas25_fc (c := c) h_l _) rfl ((pr9.cons _).trans pr9) ?_
 intro v4 G1 Ms3 hG1 q2
 refine match q2 with | ⟨e_5, e_6⟩ => ?_
 subst e_5
 subst e_6
 refine W.perm (M' := ((b_s, ce9 39 [iV c.fan, iV c.leaf, iV c.bud, iV c.slots, iV c.rest, lV sa_l l.length sc_l]) :: (Ms_l ++ []))) ((pr9.cons _).trans pr9).symm (g9 2 ?_)
 refine W.sm 18 (fun h17 p17 => ?_) (fun h17 p17 => ?_)
 ·refine g9 42 ?_
  refine ⟨.inr rfl, [_], ⟨rfl, trivial⟩, ((b_s, ce9 39 [iV c.fan, iV c.leaf, iV c.bud, iV c.slots, iV c.rest, lV sa_l l.length sc_l]) :: (Ms_l ++ [])), sr9.k9, ?_⟩
  exact ⟨rfl, congrArg _ (List.append_nil _)⟩
 refine g9 6 ?_
 refine W.sd 22 (fun h20 p20 => ?_) (fun h20 p20 => ?_)
 ·refine g9 38 ?_
  refine ⟨.inr rfl, [_], ⟨rfl, trivial⟩, ((b_s, ce9 39 [iV c.fan, iV c.leaf, iV c.bud, iV c.slots, iV c.rest, lV sa_l l.length sc_l]) :: (Ms_l ++ [])), sr9.k9, ?_⟩
  exact ⟨rfl, congrArg _ (List.append_nil _)⟩
 exfalso; omega

theorem rparti_fc {G : GH} {b_s : Nat} {c : Cfg} {v_l : Value} {l : List Nd} {Ms_l : MH} (h_l : OwnR eNode 53 G v_l l Ms_l) (p i : Int) (hi : i64 i) (hS : Sml l) (hSl : SlotsP l) : Fc Tryz.prog 36 [pt9 b_s, iV p, iV i] G ((b_s, ce9 39 [iV c.fan, iV c.leaf, iV c.bud, iV c.slots, iV c.rest, v_l]) :: Ms_l) (fun v G' M' => v = iV (partI c l p i).1 ∧ RfR 53 39 b_s c G' (partI c l p i).2 M') := by
  by_cases hn : i < 0
  · refine (rpartn26_fc h_l p i hn).mono fun v G' M' hle ⟨e1, e2⟩ => ?_
    unfold partI
    rw [if_pos hn]
    exact ⟨e1, _, _, e2, h_l.mono hle⟩
  obtain ⟨n, rfl⟩ : ∃ n : Nat, i = (n : Int) := ⟨i.toNat, om9⟩
  have h0 := rpart26_fc (b_s := b_s) (c := c) h_l p n hi hS hSl
  unfold partI
  rw [if_neg hn]
  exact h0
end Go.Proofs.YtfmigmijckdldaaGreat
