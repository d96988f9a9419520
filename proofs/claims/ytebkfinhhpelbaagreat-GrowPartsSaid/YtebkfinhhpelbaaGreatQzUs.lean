/- The walk of grow.Part. -/
import Derived.Test.YtebkfinhhpelbaaGreatQzUp
set_option maxRecDepth 100000
set_option maxHeartbeats 1600000
set_option linter.unusedVariables false
set_option linter.unusedSimpArgs false
set_option linter.unnecessarySimpa false
namespace Go.Proofs.YtebkfinhhpelbaaGreat
open Go Go.Fw Go.RowKit
theorem tconfig_fc {G : GH} {b_s : Nat} {c : Cfg} {b_a : Nat} {a : List Nd × List Bool} {Ms_a : MH} (h_a : ArR eNode 47 4 3 182 b_a G a Ms_a) :
    Fc Tryz.prog 92 [.pointer (some ⟨b_s, 0, none⟩)] G ((b_s, .cells (List.toArray [.int .i64 c.fan, .int .i64 c.leaf, .int .i64 c.bud, .int .i64 c.slots, .int .i64 c.rest, .pointer (some ⟨b_a, 0, none⟩)]) 103 (0, 0)) :: (Ms_a)) (fun v G' M' => v = .agg (List.toArray [.int .i64 c.fan, .int .i64 c.leaf, .int .i64 c.bud, .int .i64 c.slots, .int .i64 c.rest]) ∧ M' = (b_s, .cells (List.toArray [.int .i64 c.fan, .int .i64 c.leaf, .int .i64 c.bud, .int .i64 c.slots, .int .i64 c.rest, .pointer (some ⟨b_a, 0, none⟩)]) 103 (0, 0)) :: Ms_a) := by
 refine Fc.intro (rs := [.cell 2 23]) cl92 Tryz.func92 rfl Tryz.ntmps92 rfl rfl (fun w0 => ?_)
 refine WC.perm (M' := ((b_s, .cells (List.toArray [.int .i64 c.fan, .int .i64 c.leaf, .int .i64 c.bud, .int .i64 c.slots, .int .i64 c.rest, .pointer (some ⟨b_a, 0, none⟩)]) 103 (0, 0)) :: (Ms_a ++ []))) (by simp) (WC.seq (WC.region (W.alloc zr23 (fun b1 => (W.nil (thn_n (WC.seq (WC.seq (WC.region (W.mv (W.ok (ok_eqlPN pp27 rfl rfl) (W.nil (thn_n (WC.cond_f rfl rfl (WC.skip (thn_n (WC.seq ?_)))))))))))))))))
 refine WC.region (W.mv (W.ok (ok_nilP rfl) (W.ok (ok_fieldB fd103_0 rfl) (W.ok (ok_loadB (i := 1) (vs := [.int .i64 _, .int .i64 _, .int .i64 _, .int .i64 _, .int .i64 _]) ty23 rfl rfl rfl rfl (by simp)) (W.store (i := 0) (vs := [.int .i64 _, .int .i64 _, .int .i64 _, .int .i64 _, .int .i64 _]) (L' := [.int .i64 _, .int .i64 _, .int .i64 _, .int .i64 _, .int .i64 _]) ty23 rfl rfl rfl rfl rfl rfl rfl rfl (W.nil (thn_n (WC.ret ?_))))))))
 refine ⟨.inr rfl, [_], ⟨⟨_, _, _, _, _, rfl, nthM_mem (i := 0) rfl, ty23, (by simp), rfl, rfl⟩, trivial⟩, ((b_s, .cells (List.toArray [.int .i64 c.fan, .int .i64 c.leaf, .int .i64 c.bud, .int .i64 c.slots, .int .i64 c.rest, .pointer (some ⟨b_a, 0, none⟩)]) 103 (0, 0)) :: (Ms_a ++ [])), sr9.k9.cons _, ?_⟩
 exact ⟨rfl, congrArg _ (List.append_nil _)⟩

theorem pconfig_fc {G : GH} {b : Nat} {c : Cfg} {l : List Nd} {M : MH} (h : StR 47 4 3 182 103 b c G l M) : Fc Tryz.prog 92 [.pointer (some ⟨b, 0, none⟩)] G M (fun v G' M' => v = .agg (List.toArray [.int .i64 c.fan, .int .i64 c.leaf, .int .i64 c.bud, .int .i64 c.slots, .int .i64 c.rest]) ∧ M' = M) := by
  obtain ⟨hc, hl, b2, Ma, rfl, hA⟩ := h
  exact tconfig_fc (c := c) hA
theorem ptake_or {G : GH} {b : Nat} {c : Cfg} {l : List Nd} {M : MH} (h : StR 47 4 3 182 103 b c G l M) {cs : List Value} {x : Nd} (hx : NodeC G cs x) : Fc Tryz.prog 57 [.pointer (some ⟨b, 0, none⟩), .agg (List.toArray cs)] G M (fun v G' M' => (l.length < c.slots.toNat ∧ v = .tuple #[.int .i64 (l.length : Int), .int .i64 0] ∧ StR 47 4 3 182 103 b c G' (tk l x) M') ∨ (¬ l.length < c.slots.toNat ∧ v = .tuple #[.int .i64 0, .int .i64 4] ∧ StR 47 4 3 182 103 b c G' l M')) := by
  refine (ptake_fc h hx).mono fun v G' M' _ ⟨e1, e2⟩ => ?_
  by_cases hr : l.length < c.slots.toNat
  · rw [take_tk hr] at e1 e2; exact .inl ⟨hr, e1, e2⟩
  rw [takeL_f hr] at e1 e2; exact .inr ⟨hr, e1, e2⟩
theorem gpart_fc {G : GH} {b_s : Nat} {c c2 : Cfg} {l : List Nd} {ss : List Seat} {Ms_s : MH} (h_s : StR 47 4 3 182 103 b_s c G l Ms_s) (t : Tree c2 l ss) (p : Int) (i : Nat) (hi9 : i64 ((i : Nat) : Int)) :
    Fc Tryz.prog 40 [.pointer (some ⟨b_s, 0, none⟩), .int .i64 p, .int .i64 ((i : Nat) : Int)] G Ms_s (fun v G' M' => v = .int .i64 (partS c l p i).1 ∧ StR 47 4 3 182 103 b_s c G' (partS c l p i).2 M') := by
 have hl100 := t.sml.1
 have hz0 : i64 0 := ⟨by decide, by decide⟩
 have hyi : i64 (l.length : Int) := ⟨by omega, by omega⟩
 have hi1 := hi9.1
 have hi2 := hi9.2
 refine Fc.intro (rs := [.tmp 6]) cl40 Tryz.func40 rfl Tryz.ntmps40 rfl rfl (fun w0 => ?_)
 refine WC.perm (M' := (Ms_s ++ [])) (by simp) (WC.seq (WC.region (W.as (W.nil (thn_n (WC.seq (WC.seq (WC.region (W.mv (W.ok (ok_eqlPN pp27 rfl rfl) (W.nil (thn_n (WC.cond_f rfl rfl (WC.skip (thn_n (WC.seq ?_))))))))))))))))
 refine WC.region (W.mv (W.mv (W.call (Mp := Ms_s) (pnode_fc h_s _) rfl pr9 ?_)))
 intro v5 G2 Ms4 hG2 q3
 refine match q3 with | ⟨⟨_, e_7, ⟨_, _, _, _, _, _, _, _, e_8, hp_hR6, hk_hR6, hm_hR6, hr_hR6, hok_hR6⟩⟩, eeq3⟩ => ?_
 subst e_7
 subst e_8
 have eeq3 := eeq3.symm
 subst eeq3
 refine W.mv (W.ok (ok_extract rfl rfl) (W.ok (ok_extract rfl rfl) (W.alloc zr47 (fun b9 => (W.store (i := 0) (vs := (nd9 _ _ _ _ _ _ _ _ _ _ _ _ _ _ _ _ _ _)) (L' := (nd9 _ _ _ _ _ _ _ _ _ _ _ _ _ _ _ _ _ _)) ty47 rfl rfl rfl rfl rfl rfl rfl rfl (W.as (W.nil (thn_n (WC.seq (WC.seq (WC.region (W.mv (W.ok (ok_not rfl) (W.mv ?_))))))))))))))
 refine W.sp 34 rfl (fun h33 => ?_) (fun h33 => ?_)
 ·have p33 := nd_t h33
  try dsimp only at p33
  refine W.no (dj := 34) rfl rfl h33 (W.no (dj := 34) rfl rfl h33 (W.ok (ok_pick_t rfl h33) (W.mv (W.no (dj := 38) rfl rfl rfl (W.no (dj := 38) rfl rfl rfl (W.no (dj := 38) rfl rfl rfl (W.no (dj := 38) rfl rfl rfl (W.no (dj := 38) rfl rfl rfl (W.ok (ok_pick_t rfl rfl) (W.nil (thn_n (WC.cond_t rfl rfl (WC.seq (WC.region ?_))))))))))))))
  refine W.as (W.nil (thn_n (WC.ret (thn_r ?_))))
  refine ⟨.inr rfl, [_], ⟨rfl, trivial⟩, Ms_s, (List.sublist_append_left _ _).cons _, ?_⟩
  have hE := partS_8 (c := c) (l := l) (p := p) (i := i) (.inl (by simp at h33; omega))
  exact ⟨congrArg (fun q : Int × List Nd => Value.int .i64 q.1) hE.symm, StR.to (StR.mono hG2 h_s) (congrArg Prod.snd hE).symm⟩
 have p33 := nd_f h33
 try dsimp only at p33
 have h1 : 0 ≤ p ∧ p < (l.length : Int) := by simpa using h33
 refine W.yes (dj := 34) rfl rfl h33 (W.mv (W.yes (dj := 34) rfl rfl h33 (W.ok (ok_lss rfl rfl) (W.ok (ok_pick_f rfl h33) (W.mv ?_)))))
 refine W.sp 38 rfl (fun h36 => ?_) (fun h36 => ?_)
 ·have p36 := of_decide_eq_true h36
  try dsimp only at p36
  exfalso; omega
 have p36 := of_decide_eq_false h36
 try dsimp only at p36
 refine W.yes (dj := 38) rfl rfl h36 (W.mv (W.yes (dj := 38) rfl rfl h36 (W.ok (ok_fieldB fd47_3 rfl) (W.yes (dj := 38) rfl rfl h36 (W.ok (ok_loadB (i := 0) (vs := [.slice _ _ _]) ty44 rfl rfl rfl rfl (by simp)) (W.yes (dj := 38) rfl rfl h36 (W.ok (ok_len sl44 hk_hR6 rfl) (W.yes (dj := 38) rfl rfl h36 (W.ok (ok_geq rfl rfl) (W.ok (ok_pick_f rfl h36) (W.nil (thn_n ?_))))))))))))
 refine WC.cond (b := _) rfl (fun h43 => ?_) (fun h43 => ?_)
 ·have p43 := of_decide_eq_true h43
  try dsimp only at p43
  refine WC.seq (WC.region (W.as (W.nil (thn_n (WC.ret (thn_r ?_))))))
  refine ⟨.inr rfl, [_], ⟨rfl, trivial⟩, Ms_s, (List.sublist_append_left _ _).cons _, ?_⟩
  have hE := partS_8 (c := c) (l := l) (p := p) (i := i) (.inr (.inl (by omega)))
  exact ⟨congrArg (fun q : Int × List Nd => Value.int .i64 q.1) hE.symm, StR.to (StR.mono hG2 h_s) (congrArg Prod.snd hE).symm⟩
 have p43 := of_decide_eq_false h43
 try dsimp only at p43
 have h2 : ¬ (getL l p).kids.length ≤ i := by omega
 have hkd : (getL l p).kids[i]'(by omega) = kdN l p i := by unfold kdN; rw [List.getD_eq_getElem?_getD, List.getElem?_eq_getElem (by omega)]; rfl
 refine WC.skip (thn_n (WC.seq (WC.region (W.mv (W.ok (ok_fieldB fd47_3 rfl) (W.ok (ok_loadB (i := 0) (vs := [.slice _ _ _]) ty44 rfl rfl rfl rfl (by simp)) (W.mv ?_)))))))
 have q13 := hk_hR6.at (i := i) (by omega)
 refine match q13 with | ⟨_, he10, ⟨e_12, hi11⟩⟩ => ?_
 subst e_12
 refine W.ok (ok_indexAddr (i := i) sl44 ty3 hk_hR6 rfl rfl ⟨by omega, by omega⟩) (W.ok (ok_loadE (vs := [.int .i64 _]) ty3 he10 rfl rfl rfl (by simp)) (W.call (Mp := Ms_s) (pnode_fc (StR.mono hG2 h_s) (kdN l p i)) (congrArg (fun k : Int => [_, Value.int .i64 k]) hkd) (pmC pr9) ?_))
 intro v17 G14 Ms16 hG14 q15
 refine match q15 with | ⟨⟨_, e_19, ⟨pa_hR18, pc_hR18, ka_hR18, kc_hR18, ma_hR18, mc_hR18, ra_hR18, rc_hR18, e_20, hp_hR18, hk_hR18, hm_hR18, hr_hR18, hok_hR18⟩⟩, eeq15⟩ => ?_
 subst e_19
 subst e_20
 have eeq15 := eeq15.symm
 subst eeq15
 refine W.perm (pmC pr9).symm (W.mv (W.ok (ok_extract rfl rfl) (W.ok (ok_extract rfl rfl) (W.alloc zr47 (fun b21 => (W.store (i := 0) (vs := (nd9 _ _ _ _ _ _ _ _ _ _ _ _ _ _ _ _ _ _)) (L' := (nd9 _ _ _ _ _ _ _ _ _ _ _ _ _ _ _ _ _ _)) ty47 rfl rfl rfl rfl rfl rfl rfl rfl (W.as (W.nil (thn_n (WC.seq (WC.block (WC.seq (WC.region (W.mv (W.ok (ok_not rfl) ?_)))))))))))))))
 refine W.as (W.nil (thn_n ?_))
 refine WC.cond (b := _) rfl (fun h57 => ?_) (fun h57 => ?_)
 ·have p57 := nd_t h57
  try dsimp only at p57
  refine WC.seq (WC.region (W.as (W.nil (thn_n (WC.ret (blk_r (thn_r ?_)))))))
  refine ⟨.inr rfl, [_], ⟨rfl, trivial⟩, Ms_s, ((List.sublist_append_left _ _).cons _).cons _, ?_⟩
  have hE := partS_8 (c := c) (l := l) (p := p) (i := i) (.inr (.inr (by simp at h57; omega)))
  exact ⟨congrArg (fun q : Int × List Nd => Value.int .i64 q.1) hE.symm, StR.to (StR.mono (hG2.trans hG14) h_s) (congrArg Prod.snd hE).symm⟩
 have p57 := nd_f h57
 try dsimp only at p57
 have h3 : 0 ≤ kdN l p i ∧ kdN l p i < (l.length : Int) := by simpa using h57
 have hkm := getL_slot t.slot h3
 have hpm := getL_slot t.slot h1
 have hks : ∀ m ∈ (getL l (kdN l p i)).msgs, m.key.b.size < 140737488355328 := fun m hm => by have := ((t.sml.2 _ hkm.2).2.2.2.2.2.1 m hm).1; omega
 have hz9 : (getL l p).pivots.length ≤ 1000000 ∧ (getL l p).kids.length ≤ 1000000 := by have := t.sml.2 _ hpm.2; exact ⟨by have := this.2.1; omega, by have := this.1; omega⟩
 refine WC.seq (WC.drawW _ (sn9.k9.k9) mix (by rintro _ _ _ _ ⟨h | h, _⟩ <;> cases h) (WD.tk 0 rfl (ok_mv) (WD.tk 2 rfl (ok_loadB (i := 1) (vs := (nd9 _ _ _ _ _ _ _ _ _ _ _ _ _ _ _ _ _ _)) ty47 rfl rfl rfl rfl (by simp)) (WD.a1 1 rfl (W.call (Mp := Ms_s) (pconfig_fc (StR.mono (hG2.trans hG14) h_s)) rfl (pmC (pmC pr9)) ?_)))))
 intro v25 G22 Ms24 hG22 q23
 refine match q23 with | ⟨e_27, eeq23⟩ => ?_
 subst e_27
 have eeq23 := eeq23.symm
 subst eeq23
 refine W.perm (pmC (pmC pr9)).symm (W.nil (WD.n9 hG22 (sn9.k9.k9) (WD.a1 3 rfl (W.qcall (nfull_fc _ _ _ _ _ ⟨_, _, _, _, _, _, _, _, rfl, (hp_hR6.mono (hG14.trans hG22)), (hk_hR6.mono (hG14.trans hG22)), (hm_hR6.mono (hG14.trans hG22)), (hr_hR6.mono (hG14.trans hG22)), hok_hR6⟩) rfl (W.nil (WD.n9 Le.rfl (sn9.k9.k9) (WD.tk 4 rfl (ok_as) (WD.done (by kernel_rfl) (thn_n ?_)))))))))
 refine WC.cond (b := _) rfl (fun h62 => ?_) (fun h62 => ?_)
 ·refine WC.seq (WC.region (W.as (W.nil (thn_n (WC.ret (blk_r (thn_r ?_)))))))
  refine ⟨.inr rfl, [_], ⟨rfl, trivial⟩, Ms_s, ((List.sublist_append_left _ _).cons _).cons _, ?_⟩
  have hE := partS_9 (c := c) h1 h2 h3 (by simpa using h62)
  exact ⟨congrArg (fun q : Int × List Nd => Value.int .i64 q.1) hE.symm, StR.to (StR.mono ((hG2.trans hG14).trans hG22) h_s) (congrArg Prod.snd hE).symm⟩
 have h4 : fullN c (getL l p) = false := by simpa using h62
 refine WC.skip (blk_n (thn_n (WC.seq (WC.region (W.ok (ok_loadB (i := 0) (vs := (nd9 _ _ _ _ _ _ _ _ _ _ _ _ _ _ _ _ _ _)) ty47 rfl rfl rfl rfl (by simp)) (W.call (Mp := []) (ncleave_fc ⟨_, _, _, _, _, _, _, _, rfl, (hp_hR18.mono hG22), (hk_hR18.mono hG22), (hm_hR18.mono hG22), (hr_hR18.mono hG22), hok_hR18⟩ 0 hz0 hks) rfl pr9 ?_))))))
 intro _ G28 _ hG28 q31
 refine match q31 with | ⟨e_32, _, e_33, _, _, e_34, hv29, hv30⟩ => ?_
 subst e_32
 subst e_33
 subst e_34
 refine match hv29 with | ⟨pa_hv29, pc_hv29, ka_hv29, kc_hv29, ma_hv29, mc_hv29, ra_hv29, rc_hv29, e_35, hp_hv29, hk_hv29, hm_hv29, hr_hv29, hok_hv29⟩ => ?_
 subst e_35
 refine match hv30 with | ⟨pa_hv30, pc_hv30, ka_hv30, kc_hv30, ma_hv30, mc_hv30, ra_hv30, rc_hv30, e_36, hp_hv30, hk_hv30, hm_hv30, hr_hv30, hok_hv30⟩ => ?_
 subst e_36
 refine W.mv (W.ok (ok_extract rfl rfl) (W.ok (ok_extract rfl rfl) (W.ok (ok_extract rfl rfl) (W.ok (ok_extract rfl rfl) (W.alloc zr47 (fun b37 => (W.alloc zr47 (fun b38 => (W.store (i := 1) (vs := (nd9 _ _ _ _ _ _ _ _ _ _ _ _ _ _ _ _ _ _)) (L' := (nd9 _ _ _ _ _ _ _ _ _ _ _ _ _ _ _ _ _ _)) ty47 rfl rfl rfl rfl rfl rfl rfl rfl (W.store (i := 0) (vs := (nd9 _ _ _ _ _ _ _ _ _ _ _ _ _ _ _ _ _ _)) (L' := (nd9 _ _ _ _ _ _ _ _ _ _ _ _ _ _ _ _ _ _)) ty47 rfl rfl rfl rfl rfl rfl rfl rfl (W.as (W.as (W.nil (thn_n (WC.seq (WC.seq ?_))))))))))))))))
 refine WC.region (W.ok (ok_loadB (i := 3) (vs := (nd9 _ _ _ _ _ _ _ _ _ _ _ _ _ _ _ _ _ _)) ty47 rfl rfl rfl rfl (by simp)) (W.mv (W.mv (W.call (Mp := []) (canat_fc ⟨_, _, _, _, _, _, _, _, rfl, (hp_hR6.mono ((hG14.trans hG22).trans hG28)), (hk_hR6.mono ((hG14.trans hG22).trans hG28)), (hm_hR6.mono ((hG14.trans hG22).trans hG28)), (hr_hR6.mono ((hG14.trans hG22).trans hG28)), hok_hR6⟩ i (cleaveN (getL l (kdN l p i)) 0).2.2.1 0 hz9 hi9 hz0) rfl pr9 ?_))))
 intro _ G39 _ hG39 q41
 refine match q41 with | ⟨e_42, _, e_43, _, e_44, hv40⟩ => ?_
 subst e_42
 subst e_43
 subst e_44
 refine match hv40 with | ⟨pa_hv40, pc_hv40, ka_hv40, kc_hv40, ma_hv40, mc_hv40, ra_hv40, rc_hv40, e_45, hp_hv40, hk_hv40, hm_hv40, hr_hv40, hok_hv40⟩ => ?_
 subst e_45
 refine W.mv (W.ok (ok_extract rfl rfl) (W.ok (ok_extract rfl rfl) (W.alloc zr47 (fun b46 => (W.store (i := 0) (vs := (nd9 _ _ _ _ _ _ _ _ _ _ _ _ _ _ _ _ _ _)) (L' := (nd9 _ _ _ _ _ _ _ _ _ _ _ _ _ _ _ _ _ _)) ty47 rfl rfl rfl rfl rfl rfl rfl rfl (W.as (W.nil (thn_n (WC.seq (WC.region (W.mv (W.ok (ok_not rfl) (W.mv ?_)))))))))))))
 refine W.sp 79 rfl (fun h78 => ?_) (fun h78 => ?_)
 ·refine W.no (dj := 79) rfl rfl h78 (W.no (dj := 79) rfl rfl h78 (W.ok (ok_pick_t rfl h78) (W.nil (thn_n (WC.cond_t rfl rfl (WC.seq (WC.region (W.as (W.nil (thn_n (WC.ret (thn_r ?_))))))))))))
  refine ⟨.inr rfl, [_], ⟨rfl, trivial⟩, Ms_s, (((((List.sublist_append_left _ _).cons _).cons _).cons _).cons _).cons _, ?_⟩
  have hE := partS_6 (c := c) h1 h2 h3 h4 (.inl (by unfold cutP; rw [cleave_okS _ _ 0]; simpa using h78))
  exact ⟨congrArg (fun q : Int × List Nd => Value.int .i64 q.1) hE.symm, StR.to (StR.mono ((((hG2.trans hG14).trans hG22).trans hG28).trans hG39) h_s) (congrArg Prod.snd hE).symm⟩
 have h5 : (cutP l p i).2.2.2 = true := by unfold cutP; rw [cleave_okS _ _ 0]; simpa using h78
 refine W.yes (dj := 79) rfl rfl h78 (W.mv (W.yes (dj := 79) rfl rfl h78 (W.ok (ok_not rfl) (W.ok (ok_pick_f rfl h78) (W.nil (thn_n ?_))))))
 refine WC.cond (b := _) rfl (fun h81 => ?_) (fun h81 => ?_)
 ·refine WC.seq (WC.region (W.as (W.nil (thn_n (WC.ret (thn_r ?_))))))
  refine ⟨.inr rfl, [_], ⟨rfl, trivial⟩, Ms_s, (((((List.sublist_append_left _ _).cons _).cons _).cons _).cons _).cons _, ?_⟩
  have hE := partS_6 (c := c) h1 h2 h3 h4 (.inr (by unfold adP cutP; rw [cleave_key _ _ 0, adopt_okS _ _ _ _ 0]; simpa using h81))
  exact ⟨congrArg (fun q : Int × List Nd => Value.int .i64 q.1) hE.symm, StR.to (StR.mono ((((hG2.trans hG14).trans hG22).trans hG28).trans hG39) h_s) (congrArg Prod.snd hE).symm⟩
 have h6 : (adP l p i).2 = true := by unfold adP cutP; rw [cleave_key _ _ 0, adopt_okS _ _ _ _ 0]; simpa using h81
 have hcs := cut_slots h5
 have hs1 : (cleaveN (getL l (kdN l p i)) (l.length : Int)).1.slot = kdN l p i := hcs.1.trans hkm.1
 have hs3 : (cleaveN (getL l (kdN l p i)) (l.length : Int)).2.1.slot = (l.length : Int) := hcs.2
 have hs2 : 0 ≤ (cleaveN (getL l (kdN l p i)) (l.length : Int)).1.slot ∧ (cleaveN (getL l (kdN l p i)) (l.length : Int)).1.slot < (l.length : Int) := by rw [hs1]; exact h3
 have e9 : adP l p i = (adoptN (getL l p) i (cleaveN (getL l (kdN l p i)) 0).2.2.1 (l.length : Int)) := by unfold adP cutP; rw [cleave_key _ _ 0]
 have hs4 : (adoptN (getL l p) i (cleaveN (getL l (kdN l p i)) 0).2.2.1 (l.length : Int)).1.slot = p := by rw [← e9]; exact (ad_slot h6).trans hpm.1
 have hlst : ((l.set (cleaveN (getL l (kdN l p i)) (l.length : Int)).1.slot.toNat (cleaveN (getL l (kdN l p i)) (l.length : Int)).1).set p.toNat (adoptN (getL l p) i (cleaveN (getL l (kdN l p i)) 0).2.2.1 (l.length : Int)).1) ++ [(cleaveN (getL l (kdN l p i)) (l.length : Int)).2.1] = lstP l p i := by unfold lstP; rw [e9]; rfl
 refine WC.skip (thn_n (WC.seq (WC.region (W.mv (W.ok (ok_loadB (i := 3) (vs := (nd9 _ _ _ _ _ _ _ _ _ _ _ _ _ _ _ _ _ _)) ty47 rfl rfl rfl rfl (by simp)) (W.call (Mp := Ms_s) (ptake_or (StR.mono ((((hG2.trans hG14).trans hG22).trans hG28).trans hG39) h_s) ⟨_, _, _, _, _, _, _, _, rfl, (hp_hR18.mono ((hG22.trans hG28).trans hG39)), (hk_hR18.mono ((hG22.trans hG28).trans hG39)), (hm_hR18.mono ((hG22.trans hG28).trans hG39)), (hr_hR18.mono ((hG22.trans hG28).trans hG39)), hok_hR18⟩) rfl (pmC (pmC (pmC (pmC (pmC pr9))))) ?_))))))
 intro v50 G47 Ms49 hG47 q48
 refine Or.elim q48 (fun q51 => ?_) (fun q52 => ?_)
 ·refine match q51 with | ⟨hrm, e_53, hR9⟩ => ?_
  subst e_53
  refine W.perm (pmC (pmC (pmC (pmC (pmC pr9))))).symm (W.mv (W.ok (ok_extract rfl rfl) (W.ok (ok_extract rfl rfl) (W.as (W.as (W.nil (thn_n (WC.seq (WC.seq (WC.region (W.mv (W.ok (ok_neq rfl rfl) (W.nil (thn_n (WC.cond_f rfl rfl ?_)))))))))))))))
  refine WC.skip (thn_n (WC.seq (WC.region (W.ok (ok_loadB (i := 3) (vs := (nd9 _ _ _ _ _ _ _ _ _ _ _ _ _ _ _ _ _ _)) ty47 rfl rfl rfl rfl (by simp)) (W.mv (W.call (Mp := []) (ncleave_fc ⟨_, _, _, _, _, _, _, _, rfl, (hp_hR18.mono (((hG22.trans hG28).trans hG39).trans hG47)), (hk_hR18.mono (((hG22.trans hG28).trans hG39).trans hG47)), (hm_hR18.mono (((hG22.trans hG28).trans hG39).trans hG47)), (hr_hR18.mono (((hG22.trans hG28).trans hG39).trans hG47)), hok_hR18⟩ (l.length : Int) hyi hks) rfl pr9 ?_))))))
  intro _ G54 _ hG54 q57
  refine match q57 with | ⟨e_58, _, e_59, _, _, e_60, hv55, hv56⟩ => ?_
  subst e_58
  subst e_59
  subst e_60
  refine match hv55 with | ⟨pa_hv55, pc_hv55, ka_hv55, kc_hv55, ma_hv55, mc_hv55, ra_hv55, rc_hv55, e_61, hp_hv55, hk_hv55, hm_hv55, hr_hv55, hok_hv55⟩ => ?_
  subst e_61
  refine match hv56 with | ⟨pa_hv56, pc_hv56, ka_hv56, kc_hv56, ma_hv56, mc_hv56, ra_hv56, rc_hv56, e_62, hp_hv56, hk_hv56, hm_hv56, hr_hv56, hok_hv56⟩ => ?_
  subst e_62
  refine W.mv (W.ok (ok_extract rfl rfl) (W.ok (ok_extract rfl rfl) (W.ok (ok_extract rfl rfl) (W.ok (ok_extract rfl rfl) (W.alloc zr47 (fun b63 => (W.alloc zr47 (fun b64 => (W.store (i := 1) (vs := (nd9 _ _ _ _ _ _ _ _ _ _ _ _ _ _ _ _ _ _)) (L' := (nd9 _ _ _ _ _ _ _ _ _ _ _ _ _ _ _ _ _ _)) ty47 rfl rfl rfl rfl rfl rfl rfl rfl (W.store (i := 0) (vs := (nd9 _ _ _ _ _ _ _ _ _ _ _ _ _ _ _ _ _ _)) (L' := (nd9 _ _ _ _ _ _ _ _ _ _ _ _ _ _ _ _ _ _)) ty47 rfl rfl rfl rfl rfl rfl rfl rfl (W.as (W.as (W.nil (thn_n (WC.seq (WC.region ?_))))))))))))))))
  refine W.ok (ok_loadB (i := 6) (vs := (nd9 _ _ _ _ _ _ _ _ _ _ _ _ _ _ _ _ _ _)) ty47 rfl rfl rfl rfl (by simp)) (W.mv (W.mv (W.mv (W.call (Mp := []) (canat_fc ⟨_, _, _, _, _, _, _, _, rfl, (hp_hR6.mono (((((hG14.trans hG22).trans hG28).trans hG39).trans hG47).trans hG54)), (hk_hR6.mono (((((hG14.trans hG22).trans hG28).trans hG39).trans hG47).trans hG54)), (hm_hR6.mono (((((hG14.trans hG22).trans hG28).trans hG39).trans hG47).trans hG54)), (hr_hR6.mono (((((hG14.trans hG22).trans hG28).trans hG39).trans hG47).trans hG54)), hok_hR6⟩ i (cleaveN (getL l (kdN l p i)) 0).2.2.1 (l.length : Int) hz9 hi9 hyi) rfl pr9 ?_))))
  intro _ G65 _ hG65 q67
  refine match q67 with | ⟨e_68, _, e_69, _, e_70, hv66⟩ => ?_
  subst e_68
  subst e_69
  subst e_70
  refine match hv66 with | ⟨pa_hv66, pc_hv66, ka_hv66, kc_hv66, ma_hv66, mc_hv66, ra_hv66, rc_hv66, e_71, hp_hv66, hk_hv66, hm_hv66, hr_hv66, hok_hv66⟩ => ?_
  subst e_71
  refine W.mv (W.ok (ok_extract rfl rfl) (W.ok (ok_extract rfl rfl) (W.alloc zr47 (fun b72 => (W.store (i := 0) (vs := (nd9 _ _ _ _ _ _ _ _ _ _ _ _ _ _ _ _ _ _)) (L' := (nd9 _ _ _ _ _ _ _ _ _ _ _ _ _ _ _ _ _ _)) ty47 rfl rfl rfl rfl rfl rfl rfl rfl (W.as (W.nil (thn_n (WC.seq (WC.region (W.mv (W.ok (ok_loadB (i := 2) (vs := (nd9 _ _ _ _ _ _ _ _ _ _ _ _ _ _ _ _ _ _)) ty47 rfl rfl rfl rfl (by simp)) (W.call (Mp := Ms49) (pset_at (StR.mono (hG54.trans hG65) hR9) (by simp only [List.length_set, tk_len]; omega) ⟨_, _, _, _, _, _, _, _, rfl, (hp_hv55.mono hG65), (hk_hv55.mono hG65), (hm_hv55.mono hG65), (hr_hv55.mono hG65), hok_hv55⟩) rfl (pmC (pmC (pmC (pmC (pmC (pmC (pmC (pmC pr9)))))))) ?_)))))))))))))
  intro v76 G73 Ms75 hG73 q74
  refine match q74 with | ⟨e_78, hR77⟩ => ?_
  subst e_78
  refine W.perm (pmC (pmC (pmC (pmC (pmC (pmC (pmC (pmC pr9)))))))).symm (W.nil (thn_n (WC.seq (WC.region (W.mv (W.ok (ok_loadB (i := 1) (vs := (nd9 _ _ _ _ _ _ _ _ _ _ _ _ _ _ _ _ _ _)) ty47 rfl rfl rfl rfl (by simp)) (W.call (Mp := Ms75) (pset_at hR77 (by simp only [List.length_set, tk_len]; omega) ⟨_, _, _, _, _, _, _, _, rfl, (hp_hv56.mono (hG65.trans hG73)), (hk_hv56.mono (hG65.trans hG73)), (hm_hv56.mono (hG65.trans hG73)), (hr_hv56.mono (hG65.trans hG73)), hok_hv56⟩) rfl (pmC (pmC (pmC (pmC (pmC (pmC (pmC (pmC pr9)))))))) ?_)))))))
  intro v82 G79 Ms81 hG79 q80
  refine match q80 with | ⟨e_84, hR83⟩ => ?_
  subst e_84
  refine W.perm (pmC (pmC (pmC (pmC (pmC (pmC (pmC (pmC pr9)))))))).symm (W.nil (thn_n (WC.seq (WC.region (W.mv (W.ok (ok_loadB (i := 0) (vs := (nd9 _ _ _ _ _ _ _ _ _ _ _ _ _ _ _ _ _ _)) ty47 rfl rfl rfl rfl (by simp)) (W.call (Mp := Ms81) (pset_at hR83 (by simp only [List.length_set, tk_len]; omega) ⟨_, _, _, _, _, _, _, _, rfl, (hp_hv66.mono (hG73.trans hG79)), (hk_hv66.mono (hG73.trans hG79)), (hm_hv66.mono (hG73.trans hG79)), (hr_hv66.mono (hG73.trans hG79)), hok_hv66⟩) rfl (pmC (pmC (pmC (pmC (pmC (pmC (pmC (pmC pr9)))))))) ?_)))))))
  intro v88 G85 Ms87 hG85 q86
  refine match q86 with | ⟨e_90, hR89⟩ => ?_
  subst e_90
  refine W.perm (pmC (pmC (pmC (pmC (pmC (pmC (pmC (pmC pr9)))))))).symm (W.as (W.nil (thn_n (WC.ret ?_))))
  refine ⟨.inr rfl, [_], ⟨rfl, trivial⟩, Ms87, ((((((((List.sublist_append_left _ _).cons _).cons _).cons _).cons _).cons _).cons _).cons _).cons _, ?_⟩
  have hE := (partS_0 (c := c) h1 h2 h3 h4 h5 h6 (by omega))
  exact ⟨congrArg (fun q : Int × List Nd => Value.int .i64 q.1) hE.symm, StR.to hR89 ((part_list hs2 hs3 hs4 h1).trans ((hlst).trans (congrArg Prod.snd hE).symm))⟩
 refine match q52 with | ⟨hrm, e_91, hR9⟩ => ?_
 subst e_91
 refine W.perm (pmC (pmC (pmC (pmC (pmC pr9))))).symm (W.mv (W.ok (ok_extract rfl rfl) (W.ok (ok_extract rfl rfl) (W.as (W.as (W.nil (thn_n (WC.seq (WC.seq (WC.region (W.mv (W.ok (ok_neq rfl rfl) (W.nil (thn_n (WC.cond_t rfl rfl ?_)))))))))))))))
 refine WC.seq (WC.region (W.mv (W.as (W.nil (thn_n (WC.ret (thn_r ?_)))))))
 refine ⟨.inr rfl, [_], ⟨rfl, trivial⟩, Ms49, (((((List.sublist_append_left _ _).cons _).cons _).cons _).cons _).cons _, ?_⟩
 have hE := partS_4 (c := c) h1 h2 h3 h4 h5 h6 (by omega)
 exact ⟨congrArg (fun q : Int × List Nd => Value.int .i64 q.1) hE.symm, StR.to hR9 (congrArg Prod.snd hE).symm⟩

end Go.Proofs.YtebkfinhhpelbaaGreat
namespace Go.Proofs.YtebkfinhhpelbaaGreat
open Go Go.Fw Go.RowKit
theorem gpartn_fc {G : GH} {b_s : Nat} {c c2 : Cfg} {l : List Nd} {ss : List Seat} {Ms_s : MH} (h_s : StR 47 4 3 182 103 b_s c G l Ms_s) (t : Tree c2 l ss) (p : Int) (i : Int) (hn9 : i < 0) :
    Fc Tryz.prog 40 [.pointer (some ⟨b_s, 0, none⟩), .int .i64 p, .int .i64 i] G Ms_s (fun v G' M' => M' = Ms_s ∧ v = .int .i64 8) := by
 refine Fc.intro (rs := [.tmp 6]) cl40 Tryz.func40 rfl Tryz.ntmps40 rfl rfl (fun w0 => ?_)
 refine WC.perm (M' := (Ms_s ++ [])) (by simp) (WC.seq (WC.region (W.as (W.nil (thn_n (WC.seq (WC.seq (WC.region (W.mv (W.ok (ok_eqlPN pp27 rfl rfl) (W.nil (thn_n (WC.cond_f rfl rfl (WC.skip (thn_n (WC.seq ?_))))))))))))))))
 refine WC.region (W.mv (W.mv (W.call (Mp := Ms_s) (pnode_fc h_s _) rfl pr9 ?_)))
 intro v4 G1 Ms3 hG1 q2
 refine match q2 with | ⟨⟨_, e_6, ⟨_, _, _, _, _, _, _, _, e_7, hp_hR5, hk_hR5, hm_hR5, hr_hR5, hok_hR5⟩⟩, eeq2⟩ => ?_
 subst e_6
 subst e_7
 have eeq2 := eeq2.symm
 subst eeq2
 refine W.mv (W.ok (ok_extract rfl rfl) (W.ok (ok_extract rfl rfl) (W.alloc zr47 (fun b8 => (W.store (i := 0) (vs := (nd9 _ _ _ _ _ _ _ _ _ _ _ _ _ _ _ _ _ _)) (L' := (nd9 _ _ _ _ _ _ _ _ _ _ _ _ _ _ _ _ _ _)) ty47 rfl rfl rfl rfl rfl rfl rfl rfl (W.as (W.nil (thn_n (WC.seq (WC.seq (WC.region (W.mv (W.ok (ok_not rfl) (W.mv ?_))))))))))))))
 refine W.sp 34 rfl (fun h33 => ?_) (fun h33 => ?_)
 ·have p33 := nd_t h33
  refine W.no (dj := 34) rfl rfl h33 (W.no (dj := 34) rfl rfl h33 (W.ok (ok_pick_t rfl h33) (W.mv (W.no (dj := 38) rfl rfl rfl (W.no (dj := 38) rfl rfl rfl (W.no (dj := 38) rfl rfl rfl (W.no (dj := 38) rfl rfl rfl (W.no (dj := 38) rfl rfl rfl (W.ok (ok_pick_t rfl rfl) (W.nil (thn_n (WC.cond_t rfl rfl (WC.seq (WC.region ?_))))))))))))))
  refine W.as (W.nil (thn_n (WC.ret (thn_r ?_))))
  refine ⟨.inr rfl, [_], ⟨rfl, trivial⟩, Ms_s, (List.sublist_append_left _ _).cons _, ?_⟩
  exact ⟨rfl, rfl⟩
 have p33 := nd_f h33
 refine W.yes (dj := 34) rfl rfl h33 (W.mv (W.yes (dj := 34) rfl rfl h33 (W.ok (ok_lss rfl rfl) (W.ok (ok_pick_f rfl h33) (W.mv ?_)))))
 refine W.sp 38 rfl (fun h36 => ?_) (fun h36 => ?_)
 ·have p36 := of_decide_eq_true h36
  refine W.no (dj := 38) rfl rfl h36 (W.no (dj := 38) rfl rfl h36 (W.no (dj := 38) rfl rfl h36 (W.no (dj := 38) rfl rfl h36 (W.no (dj := 38) rfl rfl h36 (W.ok (ok_pick_t rfl h36) (W.nil (thn_n (WC.cond_t rfl rfl (WC.seq (WC.region (W.as (W.nil (thn_n (WC.ret (thn_r ?_)))))))))))))))
  refine ⟨.inr rfl, [_], ⟨rfl, trivial⟩, Ms_s, (List.sublist_append_left _ _).cons _, ?_⟩
  exact ⟨rfl, rfl⟩
 have p36 := of_decide_eq_false h36
 exfalso; omega

theorem gpart_nil {G : GH}  (p : Int) (i : Int) :
    Fc Tryz.prog 40 [.pointer none, .int .i64 p, .int .i64 i] G [] (fun v _ _ => v = .int .i64 (1)) := by
 refine Fc.intro (rs := [.tmp 6]) cl40 Tryz.func40 rfl Tryz.ntmps40 rfl rfl (fun w0 => ?_)
 refine WC.seq (WC.region (W.as (W.nil (thn_n (WC.seq (WC.seq (WC.region (W.mv (W.ok (ok_eqlPN pp27 rfl rfl) (W.nil (thn_n (WC.cond_t rfl rfl (WC.seq (WC.region (W.as ?_)))))))))))))))
 refine W.nil (thn_n (WC.ret (thn_r ?_)))
 refine ⟨.inr rfl, [_], ⟨rfl, trivial⟩, [], sn9, ?_⟩
 rfl

theorem gparti_fc {G : GH} {b : Nat} {c c2 : Cfg} {l : List Nd} {ss : List Seat} {M : MH} (h : StR 47 4 3 182 103 b c G l M) (t : Tree c2 l ss) (p i : Int) (hi : i64 i) : Fc Tryz.prog 40 [.pointer (some ⟨b, 0, none⟩), .int .i64 p, .int .i64 i] G M (fun v G' M' => v = .int .i64 (partI c l p i).1 ∧ StR 47 4 3 182 103 b c G' (partI c l p i).2 M') := by
  by_cases hn : i < 0
  · refine (gpartn_fc h t p i hn).mono fun v G' M' hle ⟨e1, e2⟩ => ?_
    subst e1
    unfold partI
    rw [if_pos hn]
    exact ⟨e2, h.mono hle⟩
  obtain ⟨n, rfl⟩ : ∃ n : Nat, i = (n : Int) := ⟨i.toNat, by omega⟩
  have h0 := gpart_fc h t p n hi
  unfold partI
  rw [if_neg hn]
  exact h0
end Go.Proofs.YtebkfinhhpelbaaGreat
