/- Walks of stores by definition. -/
import Derived.Test.YtebkfinhhpelbaaGreatQyUp
namespace Go.Proofs.YtebkfinhhpelbaaGreat
open Go Go.Fw Go.RowKit
set_option maxRecDepth 100000
set_option maxHeartbeats 1600000
set_option linter.unusedVariables false
set_option linter.unusedSimpArgs false
set_option linter.unnecessarySimpa false
theorem rof_fc {G : GH} (cfan : Int) (cleaf : Int) (cbud : Int) (cslots : Int) (crest : Int) {v_l : Value} {l : List Nd} (h_l : SlR eNode G v_l l) :
    Fc Tryz.prog 14 [.agg #[.int .i64 cfan, .int .i64 cleaf, .int .i64 cbud, .int .i64 cslots, .int .i64 crest], v_l] G [] (fun v G' M' => ∃ b, v = .pointer (some ⟨b, 0, none⟩) ∧ RfR 47 38 b (⟨cfan, cleaf, cbud, cslots, crest⟩ : Cfg) G' l M') := by
 obtain ⟨sa_l, sc_l, rfl⟩ := h_l.form
 have hl := h_l.len47
 have hlb : l.length * 152 ≤ 140737488355328 := h_l.bytes
 refine Fc.intro (rs := [.tmp 4]) cl14 Tryz.func14 rfl Tryz.ntmps14 rfl rfl (fun w0 => ?_)
 refine WC.seq (WC.region (W.box (L := [.int .i64 _, .int .i64 _, .int .i64 _, .int .i64 _, .int .i64 _]) rfl rfl (fun b1 => (W.as (W.nil (thn_n (WC.seq (WC.drawW _ ((List.Sublist.refl _).cons_cons _) mix (by rintro _ _ _ _ ⟨h | h, _⟩ <;> cases h) (WD.take 0 rfl rfl rfl (by kernel_rfl) (by kernel_rfl) (by kernel_rfl) (ok_loadB (i := 0) (vs := [.int .i64 _, .int .i64 _, .int .i64 _, .int .i64 _, .int .i64 _]) ty23 rfl rfl rfl rfl (by simp)) ?_)))))))))
 refine WD.take 2 rfl rfl rfl (by kernel_rfl) (by kernel_rfl) (by kernel_rfl) (ok_mv) (WD.any [1] (by kernel_rfl) rfl ⟨⟨_, rfl, rfl, (W.lit0 (e := eNode) sl24 ty47 zr47 rfl (fun v2 Ms3 ho4 => (W.perm (pmC (List.Perm.refl _)).symm ?_)))⟩, trivial⟩)
 have q8 := ho4.form
 refine match q8 with | ⟨sa5, sc6, e_7⟩ => ?_
 subst e_7
 refine W.nil ⟨Le.rfl, (List.nil_sublist _).cons_cons _, _, (List.nil_sublist _).cons_cons _, List.Sublist.refl _, (WD.any [3] (by kernel_rfl) rfl ⟨⟨_, rfl, rfl, (W.app (e := eNode) sl24 ty47 zr47 rfl by47 rfl rfl (ho4) (h_l) (pmC (List.Perm.refl _)) (by show (List.length _ + List.length _) * 152 ≤ _; simp; omega) (fun v9 Ms10 ho11 => (W.perm (pmC (List.Perm.refl _)).symm ?_)))⟩, trivial⟩)⟩
 have q15 := ho11.form
 refine match q15 with | ⟨sa12, sc13, e_14⟩ => ?_
 subst e_14
 refine W.nil ⟨Le.rfl, (List.nil_sublist _).cons_cons _, _, (List.nil_sublist _).cons_cons _, List.Sublist.refl _, (WD.take 4 rfl rfl rfl (by kernel_rfl) (by kernel_rfl) (by kernel_rfl) (ok_build (L := [.int .i64 _, .int .i64 _, .int .i64 _, .int .i64 _, .int .i64 _, .slice _ _ _]) pl38 zr38 rfl rfl rfl) (WD.any [5] (by kernel_rfl) rfl ⟨⟨_, rfl, rfl, (W.box (L := [.int .i64 _, .int .i64 _, .int .i64 _, .int .i64 _, .int .i64 _, .slice _ _ _]) rfl rfl (fun b16 => (W.nil ⟨Le.rfl, ((List.nil_sublist _).cons_cons _).cons _, _, ((List.nil_sublist _).cons_cons _).cons _, List.Sublist.refl _, (WD.take 6 rfl rfl rfl (by kernel_rfl) (by kernel_rfl) (by kernel_rfl) (ok_as) (WD.done (by kernel_rfl) (thn_n (WC.ret ?_))))⟩)))⟩, trivial⟩))⟩
 refine ⟨.inr rfl, [_], ⟨rfl, trivial⟩, ((b16, .cells (List.toArray [.int .i64 cfan, .int .i64 cleaf, .int .i64 cbud, .int .i64 cslots, .int .i64 crest, .slice sa12 (([] ++ l)).length sc13]) 38 (0, 0)) :: (Ms10 ++ [])), ((List.Sublist.refl _).cons _).cons_cons _, ?_⟩
 exact ⟨_, rfl, ⟨_, _, congrArg _ (List.append_nil _), ho11⟩⟩

theorem rlift26_fc {G : GH} {b_s : Nat} {c : Cfg} {v_l : Value} {l : List Nd} {Ms_l : MH} (h_l : OwnR eNode 47 G v_l l Ms_l) (hp0 : 0 < l.length ∧ l.length ≤ 100) (hlv : i64 ((getL l 0).level + 1)) (hks : ∀ m ∈ (getL l 0).msgs, m.key.b.size < 140737488355328) :
    Fc Tryz.prog 16 [.pointer (some ⟨b_s, 0, none⟩)] G ((b_s, .cells (List.toArray [.int .i64 c.fan, .int .i64 c.leaf, .int .i64 c.bud, .int .i64 c.slots, .int .i64 c.rest, v_l]) 38 (0, 0)) :: (Ms_l)) (fun v G' M' => v = .int .i64 (liftS c l).1 ∧ RfR 47 38 b_s c G' (liftS c l).2 M') := by
 obtain ⟨sa_l, sc_l, rfl⟩ := h_l.form
 have hl := h_l.len47
 have hlb : l.length * 152 ≤ 140737488355328 := h_l.bytes
 obtain ⟨hp1, hp2⟩ := hp0
 have hg0 : getL l 0 = l[0]'(by omega) := getL_at (k := 0) (by omega)
 rw [hg0] at hlv hks
 have hxi : i64 (l.length : Int) := ⟨by omega, by omega⟩
 have hyi : i64 ((l.length : Int) + 1) := ⟨by omega, by omega⟩
 refine Fc.intro (rs := [.tmp 2]) cl16 Tryz.func16 rfl Tryz.ntmps16 rfl rfl (fun w0 => ?_)
 refine WC.perm (M' := ((b_s, .cells (List.toArray [.int .i64 c.fan, .int .i64 c.leaf, .int .i64 c.bud, .int .i64 c.slots, .int .i64 c.rest, .slice sa_l l.length sc_l]) 38 (0, 0)) :: (Ms_l ++ []))) (by simp) (WC.seq (WC.region (W.as (W.nil (thn_n (WC.seq (WC.draw mix (by kernel_rfl) (W.mv ?_))))))))
 refine W.ok (ok_nilP rfl) (W.ok (ok_fieldB fd38_1 rfl) (W.ok (ok_loadB (i := 0) (vs := [.slice _ _ _]) ty24 rfl rfl rfl rfl (by simp)) (W.ok (ok_lenO sl24 h_l rfl) (W.mv (W.ok (ok_nilP rfl) (W.ok (ok_fieldB fd38_1 rfl) (W.ok (ok_loadB (i := 0) (vs := [.slice _ _ _]) ty24 rfl rfl rfl rfl (by simp)) ?_)))))))
 refine W.ok (ok_lenO sl24 h_l rfl) (W.ok (ok_add rfl rfl (by omega)) (W.as (W.as (W.nil (thn_n (WC.seq (WC.region (W.mv ?_))))))))
 refine W.ok (ok_nilP rfl) (W.ok (ok_fieldB fd38_1 rfl) (W.ok (ok_loadB (i := 0) (vs := [.slice _ _ _]) ty24 rfl rfl rfl rfl (by simp)) ?_))
 have q20 := h_l.at (i := 0) (by omega)
 refine match q20 with | ⟨_, he17, ⟨pa_n18, pc_n18, ka_n18, kc_n18, ma_n18, mc_n18, ra_n18, rc_n18, e_19, hp_n18, hk_n18, hm_n18, hr_n18, hok_n18⟩⟩ => ?_
 subst e_19
 refine W.ok (ok_indexAddrO (i := 0) sl24 ty47 h_l rfl rfl ⟨by omega, by omega⟩) (W.ok (ok_loadO (vs := [.int .i64 _, .int .i64 _, .slice _ _ _, .slice _ _ _, .string _, .bool _, .int .i64 _, .int .i64 _, .slice _ _ _, .slice _ _ _]) ty47 he17 (pmC (List.Perm.refl _)) rfl rfl rfl (by simp)) (W.mv (W.mv (W.call (Mp := []) (rlift_fc ⟨_, _, _, _, _, _, _, _, rfl, hp_n18, hk_n18, hm_n18, hr_n18, hok_n18⟩ (l.length : Int) ((l.length : Int) + 1) (by assumption) (by assumption) hlv hks) rfl (List.Perm.refl _) ?_))))
 intro _ G21 _ hG21 q25
 refine match q25 with | ⟨e_26, _, e_27, _, _, _, e_28, hv22, hv23, hv24⟩ => ?_
 subst e_26
 subst e_27
 subst e_28
 refine match hv22 with | ⟨pa_hv22, pc_hv22, ka_hv22, kc_hv22, ma_hv22, mc_hv22, ra_hv22, rc_hv22, e_29, hp_hv22, hk_hv22, hm_hv22, hr_hv22, hok_hv22⟩ => ?_
 subst e_29
 refine match hv23 with | ⟨pa_hv23, pc_hv23, ka_hv23, kc_hv23, ma_hv23, mc_hv23, ra_hv23, rc_hv23, e_30, hp_hv23, hk_hv23, hm_hv23, hr_hv23, hok_hv23⟩ => ?_
 subst e_30
 refine match hv24 with | ⟨pa_hv24, pc_hv24, ka_hv24, kc_hv24, ma_hv24, mc_hv24, ra_hv24, rc_hv24, e_31, hp_hv24, hk_hv24, hm_hv24, hr_hv24, hok_hv24⟩ => ?_
 subst e_31
 refine W.mv (W.ok (ok_extract rfl rfl) (W.ok (ok_extract rfl rfl) (W.ok (ok_extract rfl rfl) (W.ok (ok_extract rfl rfl) (W.alloc zr47 (fun b32 => (W.alloc zr47 (fun b33 => (W.alloc zr47 (fun b34 => ?_))))))))))
 refine W.store (i := 2) (vs := [.int .i64 _, .int .i64 _, .slice _ _ _, .slice _ _ _, .string _, .bool _, .int .i64 _, .int .i64 _, .slice _ _ _, .slice _ _ _]) (L' := [.int .i64 _, .int .i64 _, .slice _ _ _, .slice _ _ _, .string _, .bool _, .int .i64 _, .int .i64 _, .slice _ _ _, .slice _ _ _]) ty47 rfl rfl rfl rfl rfl rfl rfl rfl (W.store (i := 1) (vs := [.int .i64 _, .int .i64 _, .slice _ _ _, .slice _ _ _, .string _, .bool _, .int .i64 _, .int .i64 _, .slice _ _ _, .slice _ _ _]) (L' := [.int .i64 _, .int .i64 _, .slice _ _ _, .slice _ _ _, .string _, .bool _, .int .i64 _, .int .i64 _, .slice _ _ _, .slice _ _ _]) ty47 rfl rfl rfl rfl rfl rfl rfl rfl (W.store (i := 0) (vs := [.int .i64 _, .int .i64 _, .slice _ _ _, .slice _ _ _, .string _, .bool _, .int .i64 _, .int .i64 _, .slice _ _ _, .slice _ _ _]) (L' := [.int .i64 _, .int .i64 _, .slice _ _ _, .slice _ _ _, .string _, .bool _, .int .i64 _, .int .i64 _, .slice _ _ _, .slice _ _ _]) ty47 rfl rfl rfl rfl rfl rfl rfl rfl (W.as (W.nil (thn_n (WC.seq (WC.seq (WC.region ?_))))))))
 refine W.mv (W.ok (ok_not rfl) (W.nil (thn_n ?_)))
 refine WC.cond (b := _) rfl (fun h35 => ?_) (fun h35 => ?_)
 ·refine WC.seq (WC.region (W.as (W.nil (thn_n (WC.ret (thn_r ?_))))))
  refine ⟨.inr rfl, [_], ⟨rfl, trivial⟩, ((b_s, .cells (List.toArray [.int .i64 c.fan, .int .i64 c.leaf, .int .i64 c.bud, .int .i64 c.slots, .int .i64 c.rest, .slice sa_l l.length sc_l]) 38 (0, 0)) :: (Ms_l ++ [])), ((((List.Sublist.refl _).cons_cons _).cons _).cons _).cons _, ?_⟩
  exact ⟨congrArg (fun p : Int × List Nd => Value.int .i64 p.1) (liftS_6 (x := (l.length : Int)) (y := (l.length : Int) + 1) (by rw [hg0]; simpa using h35)).symm, RfR.to ⟨_, _, congrArg _ (List.append_nil _), (h_l.mono hG21)⟩ (congrArg Prod.snd (liftS_6 (x := (l.length : Int)) (y := (l.length : Int) + 1) (by rw [hg0]; simpa using h35))).symm⟩
 ·have hok9 : (liftN (getL l 0) (l.length : Int) ((l.length : Int) + 1)).2.2.2 = true := by rw [hg0]; simpa using h35
  refine WC.skip (thn_n (WC.seq (WC.seq (WC.region (W.mv (W.mv (W.ok (ok_nilP rfl) (W.ok (ok_fieldB fd38_0 rfl) ?_))))))))
  refine W.ok (ok_fieldB fd23_3 rfl) (W.ok (ok_loadB (i := 3) (vs := [.int .i64 _]) ty3 rfl rfl rfl rfl (by simp)) (W.ok (ok_geq rfl rfl) (W.nil (thn_n ?_))))
  refine WC.cond (b := _) rfl (fun h42 => ?_) (fun h42 => ?_)
  ·have p42 := of_decide_eq_true h42
   try dsimp only at p42
   refine WC.seq (WC.region (W.as (W.nil (thn_n (WC.ret (thn_r ?_))))))
   refine ⟨.inr rfl, [_], ⟨rfl, trivial⟩, ((b_s, .cells (List.toArray [.int .i64 c.fan, .int .i64 c.leaf, .int .i64 c.bud, .int .i64 c.slots, .int .i64 c.rest, .slice sa_l l.length sc_l]) 38 (0, 0)) :: (Ms_l ++ [])), ((((List.Sublist.refl _).cons_cons _).cons _).cons _).cons _, ?_⟩
   exact ⟨congrArg (fun p : Int × List Nd => Value.int .i64 p.1) (liftS_4 hok9 (by omega)).symm, RfR.to ⟨_, _, congrArg _ (List.append_nil _), (h_l.mono hG21)⟩ (congrArg Prod.snd (liftS_4 hok9 (by omega))).symm⟩
  ·have p42 := of_decide_eq_false h42
   try dsimp only at p42
   refine WC.skip (thn_n (WC.seq (WC.drawW _ (((((List.nil_sublist _).cons_cons _).cons_cons _).cons_cons _).cons_cons _) mix (by rintro _ _ _ _ ⟨h | h, _⟩ <;> cases h) (WD.take 0 rfl rfl rfl (by kernel_rfl) (by kernel_rfl) (by kernel_rfl) (ok_mv) (WD.take 1 rfl rfl rfl (by kernel_rfl) (by kernel_rfl) (by kernel_rfl) (ok_nilP rfl) (WD.take 2 rfl rfl rfl (by kernel_rfl) (by kernel_rfl) (by kernel_rfl) (ok_fieldB fd38_1 rfl) (WD.take 3 rfl rfl rfl (by kernel_rfl) (by kernel_rfl) (by kernel_rfl) (ok_loadB (i := 3) (vs := [.slice _ _ _]) ty24 rfl rfl rfl rfl (by simp)) (WD.take 4 rfl rfl rfl (by kernel_rfl) (by kernel_rfl) (by kernel_rfl) (ok_loadB (i := 2) (vs := [.int .i64 _, .int .i64 _, .slice _ _ _, .slice _ _ _, .string _, .bool _, .int .i64 _, .int .i64 _, .slice _ _ _, .slice _ _ _]) ty47 rfl rfl rfl rfl (by simp)) ?_))))))))
   have q38 := (h_l.mono hG21).at (i := 0) (by omega)
   refine match q38 with | ⟨_, he35, ⟨pa_n36, pc_n36, ka_n36, kc_n36, ma_n36, mc_n36, ra_n36, rc_n36, e_37, hp_n36, hk_n36, hm_n36, hr_n36, hok_n36⟩⟩ => ?_
   subst e_37
   refine WD.take 5 rfl rfl rfl (by kernel_rfl) (by kernel_rfl) (by kernel_rfl) (ok_indexAddrO (i := 0) sl24 ty47 (h_l.mono hG21) rfl rfl ⟨by omega, by omega⟩) (WD.any [6] (by kernel_rfl) rfl ⟨⟨_, rfl, rfl, (W.storeO (i := 0) (o := 0) (vs := [.int .i64 _, .int .i64 _, .slice _ _ _, .slice _ _ _, .string _, .bool _, .int .i64 _, .int .i64 _, .slice _ _ _, .slice _ _ _]) (a' := ((liftN (l[0]'(by omega)) (l.length : Int) ((l.length : Int) + 1))).1) ty47 rfl rfl rfl rfl rfl ((h_l.mono hG21)) (pmC (pmC (pmC (pmC (List.Perm.refl _))))) (by omega) (by decide) (fun cs h => by obtain ⟨_, _, _, _, _, _, _, _, rfl, _⟩ := h; exact ⟨_, _, _, _, _, _, _, _, rfl, hp_hv22, hk_hv22, hm_hv22, hr_hv22, hok_hv22⟩) (fun Ms39 ho40 => (W.perm (pmC (pmC (pmC (pmC (List.Perm.refl _))))).symm (W.nil ⟨Le.rfl, ((((List.nil_sublist _).cons_cons _).cons_cons _).cons_cons _).cons_cons _, _, ((((List.nil_sublist _).cons_cons _).cons_cons _).cons_cons _).cons_cons _, List.Sublist.refl _, (WD.done (by kernel_rfl) (thn_n (WC.seq (WC.drawW _ (((((List.nil_sublist _).cons _).cons_cons _).cons_cons _).cons_cons _) mix (by rintro _ _ _ _ ⟨h | h, _⟩ <;> cases h) ?_))))⟩))))⟩, trivial⟩)
   refine WD.take 0 rfl rfl rfl (by kernel_rfl) (by kernel_rfl) (by kernel_rfl) (ok_mv) (WD.take 1 rfl rfl rfl (by kernel_rfl) (by kernel_rfl) (by kernel_rfl) (ok_mv) (WD.take 2 rfl rfl rfl (by kernel_rfl) (by kernel_rfl) (by kernel_rfl) (ok_nilP rfl) (WD.take 3 rfl rfl rfl (by kernel_rfl) (by kernel_rfl) (by kernel_rfl) (ok_fieldB fd38_1 rfl) (WD.take 5 rfl rfl rfl (by kernel_rfl) (by kernel_rfl) (by kernel_rfl) (ok_loadB (i := 1) (vs := [.int .i64 _, .int .i64 _, .slice _ _ _, .slice _ _ _, .string _, .bool _, .int .i64 _, .int .i64 _, .slice _ _ _, .slice _ _ _]) ty47 rfl rfl rfl rfl (by simp)) (WD.take 6 rfl rfl rfl (by kernel_rfl) (by kernel_rfl) (by kernel_rfl) (ok_loadB (i := 0) (vs := [.int .i64 _, .int .i64 _, .slice _ _ _, .slice _ _ _, .string _, .bool _, .int .i64 _, .int .i64 _, .slice _ _ _, .slice _ _ _]) ty47 rfl rfl rfl rfl (by simp)) ?_)))))
   refine WD.any [4, 7] (by kernel_rfl) rfl ⟨⟨_, rfl, rfl, ?_⟩, ⟨_, rfl, rfl, ?_⟩, trivial⟩
   ·refine W.ok (ok_loadB (i := 3) (vs := [.slice _ _ _]) ty24 rfl rfl rfl rfl (by simp)) (W.nil ⟨Le.rfl, ((((List.nil_sublist _).cons _).cons_cons _).cons_cons _).cons_cons _, _, ((((List.nil_sublist _).cons _).cons_cons _).cons_cons _).cons_cons _, List.Sublist.refl _, (WD.any [7] (by kernel_rfl) rfl ⟨⟨_, rfl, rfl, (W.lit (e := eNode) (l := [((liftN (l[0]'(by omega)) (l.length : Int) ((l.length : Int) + 1))).2.1, ((liftN (l[0]'(by omega)) (l.length : Int) ((l.length : Int) + 1))).2.2.1]) (css := [[.int .i64 _, .int .i64 _, .slice _ _ _, .slice _ _ _, .string _, .bool _, .int .i64 _, .int .i64 _, .slice _ _ _, .slice _ _ _], [.int .i64 _, .int .i64 _, .slice _ _ _, .slice _ _ _, .string _, .bool _, .int .i64 _, .int .i64 _, .slice _ _ _, .slice _ _ _]]) sl24 ty47 zr47 rfl rfl rfl rfl rfl rfl ⟨⟨_, _, _, _, _, _, _, _, rfl, hp_hv23, hk_hv23, hm_hv23, hr_hv23, hok_hv23⟩, ⟨_, _, _, _, _, _, _, _, rfl, hp_hv24, hk_hv24, hm_hv24, hr_hv24, hok_hv24⟩, trivial⟩ (fun bl41 G41 hG41 hv41 => (W.nil ⟨hG41, ((((List.nil_sublist _).cons _).cons_cons _).cons_cons _).cons_cons _, _, ((((List.nil_sublist _).cons _).cons_cons _).cons_cons _).cons_cons _, List.Sublist.refl _, (WD.any [8] (by kernel_rfl) rfl ⟨⟨_, rfl, rfl, (W.app (e := eNode) sl24 ty47 zr47 rfl by47 rfl rfl ((ho40.mono hG41)) (hv41) (pmC (pmC (pmC (pmC (List.Perm.refl _))))) (by show (List.length _ + List.length _) * 152 ≤ _; rw [List.length_set]; simp; omega) (fun v42 Ms43 ho44 => (W.perm (pmC (pmC (pmC (pmC (List.Perm.refl _))))).symm ?_)))⟩, trivial⟩)⟩)))⟩, trivial⟩)⟩)
    have q48 := ho44.form
    refine match q48 with | ⟨sa45, sc46, e_47⟩ => ?_
    subst e_47
    refine W.nil ⟨Le.rfl, ((((List.nil_sublist _).cons _).cons_cons _).cons_cons _).cons_cons _, _, ((((List.nil_sublist _).cons _).cons_cons _).cons_cons _).cons_cons _, List.Sublist.refl _, (WD.take 9 rfl rfl rfl (by kernel_rfl) (by kernel_rfl) (by kernel_rfl) (ok_nilP rfl) (WD.take 10 rfl rfl rfl (by kernel_rfl) (by kernel_rfl) (by kernel_rfl) (ok_fieldB fd38_1 rfl) (WD.any [11] (by kernel_rfl) rfl ⟨⟨_, rfl, rfl, (W.store (i := 3) (vs := [.slice _ _ _]) (L' := [.int .i64 _, .int .i64 _, .int .i64 _, .int .i64 _, .int .i64 _, .slice _ _ _]) ty24 rfl rfl rfl rfl rfl rfl rfl rfl (W.nil ⟨Le.rfl, ((((List.nil_sublist _).cons _).cons_cons _).cons_cons _).cons_cons _, _, ((((List.nil_sublist _).cons _).cons_cons _).cons_cons _).cons_cons _, List.Sublist.refl _, (WD.done (by kernel_rfl) (thn_n (WC.seq ?_)))⟩))⟩, trivial⟩)))⟩
    refine WC.region (W.as (W.nil (thn_n (WC.ret ?_))))
    refine ⟨.inr rfl, [_], ⟨rfl, trivial⟩, ((b_s, .cells (List.toArray [.int .i64 c.fan, .int .i64 c.leaf, .int .i64 c.bud, .int .i64 c.slots, .int .i64 c.rest, .slice sa45 ((((l).set (0) ((liftN (l[0]'(by omega)) (l.length : Int) ((l.length : Int) + 1))).1) ++ [((liftN (l[0]'(by omega)) (l.length : Int) ((l.length : Int) + 1))).2.1, ((liftN (l[0]'(by omega)) (l.length : Int) ((l.length : Int) + 1))).2.2.1])).length sc46]) 38 (0, 0)) :: (Ms43 ++ [])), ((((List.Sublist.refl _).cons_cons _).cons _).cons _).cons _, ?_⟩
    have hE := liftS_0 (c := c) hok9 (by omega)
    rw [hg0] at hE
    exact ⟨congrArg (fun p : Int × List Nd => Value.int .i64 p.1) hE.symm, RfR.to ⟨_, _, congrArg _ (List.append_nil _), ho44⟩ (congrArg Prod.snd hE).symm⟩
   ·refine W.lit (e := eNode) (l := [((liftN (l[0]'(by omega)) (l.length : Int) ((l.length : Int) + 1))).2.1, ((liftN (l[0]'(by omega)) (l.length : Int) ((l.length : Int) + 1))).2.2.1]) (css := [[.int .i64 _, .int .i64 _, .slice _ _ _, .slice _ _ _, .string _, .bool _, .int .i64 _, .int .i64 _, .slice _ _ _, .slice _ _ _], [.int .i64 _, .int .i64 _, .slice _ _ _, .slice _ _ _, .string _, .bool _, .int .i64 _, .int .i64 _, .slice _ _ _, .slice _ _ _]]) sl24 ty47 zr47 rfl rfl rfl rfl rfl rfl ⟨⟨_, _, _, _, _, _, _, _, rfl, hp_hv23, hk_hv23, hm_hv23, hr_hv23, hok_hv23⟩, ⟨_, _, _, _, _, _, _, _, rfl, hp_hv24, hk_hv24, hm_hv24, hr_hv24, hok_hv24⟩, trivial⟩ (fun bl49 G49 hG49 hv49 => (W.nil ⟨hG49, ((((List.nil_sublist _).cons _).cons_cons _).cons_cons _).cons_cons _, _, ((((List.nil_sublist _).cons _).cons_cons _).cons_cons _).cons_cons _, List.Sublist.refl _, (WD.any [4] (by kernel_rfl) rfl ⟨⟨_, rfl, rfl, (W.ok (ok_loadB (i := 3) (vs := [.slice _ _ _]) ty24 rfl rfl rfl rfl (by simp)) (W.nil ⟨Le.rfl, ((((List.nil_sublist _).cons _).cons_cons _).cons_cons _).cons_cons _, _, ((((List.nil_sublist _).cons _).cons_cons _).cons_cons _).cons_cons _, List.Sublist.refl _, (WD.any [8] (by kernel_rfl) rfl ⟨⟨_, rfl, rfl, (W.app (e := eNode) sl24 ty47 zr47 rfl by47 rfl rfl ((ho40.mono hG49)) (hv49) (pmC (pmC (pmC (pmC (List.Perm.refl _))))) (by show (List.length _ + List.length _) * 152 ≤ _; rw [List.length_set]; simp; omega) (fun v50 Ms51 ho52 => (W.perm (pmC (pmC (pmC (pmC (List.Perm.refl _))))).symm ?_)))⟩, trivial⟩)⟩))⟩, trivial⟩)⟩))
    have q56 := ho52.form
    refine match q56 with | ⟨sa53, sc54, e_55⟩ => ?_
    subst e_55
    refine W.nil ⟨Le.rfl, ((((List.nil_sublist _).cons _).cons_cons _).cons_cons _).cons_cons _, _, ((((List.nil_sublist _).cons _).cons_cons _).cons_cons _).cons_cons _, List.Sublist.refl _, (WD.take 9 rfl rfl rfl (by kernel_rfl) (by kernel_rfl) (by kernel_rfl) (ok_nilP rfl) (WD.take 10 rfl rfl rfl (by kernel_rfl) (by kernel_rfl) (by kernel_rfl) (ok_fieldB fd38_1 rfl) (WD.any [11] (by kernel_rfl) rfl ⟨⟨_, rfl, rfl, (W.store (i := 3) (vs := [.slice _ _ _]) (L' := [.int .i64 _, .int .i64 _, .int .i64 _, .int .i64 _, .int .i64 _, .slice _ _ _]) ty24 rfl rfl rfl rfl rfl rfl rfl rfl (W.nil ⟨Le.rfl, ((((List.nil_sublist _).cons _).cons_cons _).cons_cons _).cons_cons _, _, ((((List.nil_sublist _).cons _).cons_cons _).cons_cons _).cons_cons _, List.Sublist.refl _, (WD.done (by kernel_rfl) (thn_n (WC.seq ?_)))⟩))⟩, trivial⟩)))⟩
    refine WC.region (W.as (W.nil (thn_n (WC.ret ?_))))
    refine ⟨.inr rfl, [_], ⟨rfl, trivial⟩, ((b_s, .cells (List.toArray [.int .i64 c.fan, .int .i64 c.leaf, .int .i64 c.bud, .int .i64 c.slots, .int .i64 c.rest, .slice sa53 ((((l).set (0) ((liftN (l[0]'(by omega)) (l.length : Int) ((l.length : Int) + 1))).1) ++ [((liftN (l[0]'(by omega)) (l.length : Int) ((l.length : Int) + 1))).2.1, ((liftN (l[0]'(by omega)) (l.length : Int) ((l.length : Int) + 1))).2.2.1])).length sc54]) 38 (0, 0)) :: (Ms51 ++ [])), ((((List.Sublist.refl _).cons_cons _).cons _).cons _).cons _, ?_⟩
    have hE := liftS_0 (c := c) hok9 (by omega)
    rw [hg0] at hE
    exact ⟨congrArg (fun p : Int × List Nd => Value.int .i64 p.1) hE.symm, RfR.to ⟨_, _, congrArg _ (List.append_nil _), ho52⟩ (congrArg Prod.snd hE).symm⟩

end Go.Proofs.YtebkfinhhpelbaaGreat
