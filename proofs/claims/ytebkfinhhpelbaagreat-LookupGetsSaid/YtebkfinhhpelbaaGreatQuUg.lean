/- Walks of what a key has in a sound tree. -/
import Derived.Test.YtebkfinhhpelbaaGreatQuUf
import Derived.Test.YtebkfinhhpelbaaGreatQuUe
import Derived.Test.YtebkfinhhpelbaaGreatQuW8
namespace Go.Proofs.YtebkfinhhpelbaaGreat
open Go Go.Fw Go.RowKit
set_option maxRecDepth 100000
set_option maxHeartbeats 1600000
set_option linter.unusedVariables false
set_option linter.unusedSimpArgs false
set_option linter.unnecessarySimpa false
theorem lookget_nil {G : GH}  (k : Str) :
    Fc Tryz.prog 25 [.pointer none, .string k.b] G [] (fun v _ _ => v = .tuple #[.string (Str.b (Str.nil)), .bool (false)]) := by
 refine Fc.intro (rs := [.tmp 4, .tmp 5]) cl25 Tryz.func25 rfl Tryz.ntmps25 rfl rfl (fun w0 => ?_)
 refine WC.seq (WC.region (W.as (W.as (W.nil (thn_n (WC.seq (WC.region (W.mv ?_))))))))
 refine W.mv (W.call (Mp := []) (leaf_nil _) rfl (List.Perm.refl _) ?_)
 intro _ G1 _ hG1 q3
 refine match q3 with | ⟨e_4, _, e_5, hv2⟩ => ?_
 subst e_4
 subst e_5
 refine match hv2 with | ⟨pa_hv2, pc_hv2, ka_hv2, kc_hv2, ma_hv2, mc_hv2, ra_hv2, rc_hv2, e_6, hp_hv2, hk_hv2, hm_hv2, hr_hv2, hok_hv2⟩ => ?_
 subst e_6
 refine W.mv (W.ok (ok_extract rfl rfl) (W.ok (ok_extract rfl rfl) (W.ok (ok_extract rfl rfl) (W.alloc zr47 (fun b7 => (W.alloc zr52 (fun b8 => (W.store (i := 1) (vs := [.int .i64 _, .int .i64 _, .slice _ _ _, .slice _ _ _, .string _, .bool _, .int .i64 _, .int .i64 _, .slice _ _ _, .slice _ _ _]) (L' := [.int .i64 _, .int .i64 _, .slice _ _ _, .slice _ _ _, .string _, .bool _, .int .i64 _, .int .i64 _, .slice _ _ _, .slice _ _ _]) ty47 rfl rfl rfl rfl rfl rfl rfl rfl (W.store (i := 0) (vs := [.string _, .string _, .bool _]) (L' := [.string _, .string _, .bool _]) ty52 rfl rfl rfl rfl rfl rfl rfl rfl ?_)))))))))
 refine W.as (W.nil (thn_n (WC.seq (WC.seq (WC.region (W.mv (W.ok (ok_not rfl) (W.nil (thn_n ?_)))))))))
 refine WC.cond_t rfl rfl (WC.seq (WC.region (W.as (W.as (W.nil (thn_n (WC.ret (thn_r ?_))))))))
 refine ⟨.inr rfl, [_, _], ⟨rfl, rfl, trivial⟩, [], List.nil_sublist _, ?_⟩
 rfl

theorem lookdep_nil {G : GH}  (k : Str) (hk : k.b.size ≤ 300) :
    Fc Tryz.prog 27 [.pointer none, .string k.b] G [] (fun v _ _ => v = .int .i64 (0)) := by
 have hkle := k.le
 refine Fc.intro (rs := [.tmp 4]) cl27 Tryz.func27 rfl Tryz.ntmps27 rfl rfl (fun w0 => ?_)
 refine WC.seq (WC.region (W.as (W.nil (thn_n (WC.seq (WC.region (W.mv (W.mv ?_))))))))
 refine W.call (Mp := []) (msgs_nil _) rfl (List.Perm.refl _) ?_
 intro _ G9 _ hG9 q11
 refine match q11 with | ⟨e_12, _, e_13, hv10⟩ => ?_
 subst e_12
 subst e_13
 have q15 := hv10.form
 refine match q15 with | ⟨sa_hv10, sc_hv10, e_14⟩ => ?_
 subst e_14
 refine W.mv (W.qcall (point_fc k (by omega)) rfl (W.call (Mp := []) (bclips_fc (l := []) hv10 _ _ _ (fun m hm => by cases hm)) rfl (List.Perm.refl _) ?_))
 intro _ G16 _ hG16 q18
 refine match q18 with | ⟨e_19, _, e_20, hv17⟩ => ?_
 subst e_19
 subst e_20
 have q22 := hv17.form
 refine match q22 with | ⟨sa_hv17, sc_hv17, e_21⟩ => ?_
 subst e_21
 refine W.ok (ok_len sl45 hv17 rfl) (W.as (W.nil (thn_n (WC.ret ?_))))
 refine ⟨.inr rfl, [_], ⟨rfl, trivial⟩, [], List.nil_sublist _, ?_⟩
 rfl

theorem lookget_fc {G : GH} {b_s : Nat} {c c2 : Cfg} {l : List Nd} {ss : List Seat} {Ms_s : MH} (h_s : StR 47 4 3 182 103 b_s c G l Ms_s) (t : Tree c2 l ss) (k : Str) :
    Fc Tryz.prog 25 [.pointer (some ⟨b_s, 0, none⟩), .string k.b] G Ms_s (fun v G' M' => M' = Ms_s ∧ v = .tuple #[.string (Str.b (((getN (mapN l) k)).getD Str.nil)), .bool (((getN (mapN l) k)).isSome)]) := by
 have hlo := t.leafOk k
 have hft := t.fits _ hlo.mem
 have hfm : ∀ m ∈ (leafS l k).ms, m.key.b.size < 140737488355328 ∧ m.val.b.size ≤ 16 := fun m hm => ⟨by have := (msgR_key (hft.2 m hm)).1; omega, (msgR_key (hft.2 m hm)).2⟩
 refine Fc.intro (rs := [.tmp 4, .tmp 5]) cl25 Tryz.func25 rfl Tryz.ntmps25 rfl rfl (fun w0 => ?_)
 refine WC.perm (M' := (Ms_s ++ [])) (by simp) (WC.seq (WC.region (W.as (W.as (W.nil (thn_n (WC.seq (WC.region ?_))))))))
 refine W.mv (W.mv (W.call (Mp := Ms_s) (leaf_fc h_s t _) rfl (List.Perm.refl _) ?_))
 intro v27 G24 Ms26 hG24 q25
 refine match q25 with | ⟨eeq25, _, e_29, hv23⟩ => ?_
 subst e_29
 have eeq25 := eeq25.symm
 subst eeq25
 refine match hv23 with | ⟨pa_hv23, pc_hv23, ka_hv23, kc_hv23, ma_hv23, mc_hv23, ra_hv23, rc_hv23, e_30, hp_hv23, hk_hv23, hm_hv23, hr_hv23, hok_hv23⟩ => ?_
 subst e_30
 refine W.mv (W.ok (ok_extract rfl rfl) (W.ok (ok_extract rfl rfl) (W.ok (ok_extract rfl rfl) (W.alloc zr47 (fun b31 => (W.alloc zr52 (fun b32 => (W.store (i := 1) (vs := [.int .i64 _, .int .i64 _, .slice _ _ _, .slice _ _ _, .string _, .bool _, .int .i64 _, .int .i64 _, .slice _ _ _, .slice _ _ _]) (L' := [.int .i64 _, .int .i64 _, .slice _ _ _, .slice _ _ _, .string _, .bool _, .int .i64 _, .int .i64 _, .slice _ _ _, .slice _ _ _]) ty47 rfl rfl rfl rfl rfl rfl rfl rfl (W.store (i := 0) (vs := [.string _, .string _, .bool _]) (L' := [.string _, .string _, .bool _]) ty52 rfl rfl rfl rfl rfl rfl rfl rfl ?_)))))))))
 refine W.as (W.nil (thn_n (WC.seq (WC.seq (WC.region (W.mv (W.ok (ok_not rfl) (W.nil (thn_n ?_)))))))))
 refine WC.cond_f rfl rfl (WC.skip (thn_n (WC.seq (WC.drawW _ (((List.nil_sublist _).cons_cons _).cons_cons _) mix (by rintro _ _ _ _ ⟨h | h, _⟩ <;> cases h) (WD.take 0 rfl rfl rfl (by kernel_rfl) (by kernel_rfl) (by kernel_rfl) (ok_fieldB fd47_9 rfl) (WD.take 1 rfl rfl rfl (by kernel_rfl) (by kernel_rfl) (by kernel_rfl) (ok_loadB (i := 1) (vs := [.slice _ _ _]) ty41 rfl rfl rfl rfl (by simp)) (WD.take 2 rfl rfl rfl (by kernel_rfl) (by kernel_rfl) (by kernel_rfl) (ok_mv) (WD.take 3 rfl rfl rfl (by kernel_rfl) (by kernel_rfl) (by kernel_rfl) (ok_mv) ?_))))))))
 refine WD.take 4 rfl rfl rfl (by kernel_rfl) (by kernel_rfl) (by kernel_rfl) (ok_mv) (WD.any [5] (by kernel_rfl) rfl ⟨⟨_, rfl, rfl, (W.call (Mp := Ms_s) (msgs_fc (StR.mono hG24 h_s) t _) rfl (pmC (pmC (List.Perm.refl _))) ?_)⟩, trivial⟩)
 intro v37 G34 Ms36 hG34 q35
 refine match q35 with | ⟨eeq35, _, e_39, hv33⟩ => ?_
 subst e_39
 have eeq35 := eeq35.symm
 subst eeq35
 refine W.perm (pmC (pmC (List.Perm.refl _))).symm ?_
 have q41 := hv33.form
 refine match q41 with | ⟨sa_hv33, sc_hv33, e_40⟩ => ?_
 subst e_40
 refine W.nil ⟨hG34, ((List.nil_sublist _).cons_cons _).cons_cons _, _, ((List.nil_sublist _).cons_cons _).cons_cons _, List.Sublist.refl _, (WD.any [6] (by kernel_rfl) rfl ⟨⟨_, rfl, rfl, (W.qcall (lookof_fc (hr_hv23.mono hG34) k hv33 (t.rows hlo.mem) hfm) rfl (W.nil ⟨Le.rfl, ((List.nil_sublist _).cons_cons _).cons_cons _, _, ((List.nil_sublist _).cons_cons _).cons_cons _, List.Sublist.refl _, (WD.take 7 rfl rfl rfl (by kernel_rfl) (by kernel_rfl) (by kernel_rfl) (ok_extract rfl rfl) (WD.take 8 rfl rfl rfl (by kernel_rfl) (by kernel_rfl) (by kernel_rfl) (ok_extract rfl rfl) (WD.take 9 rfl rfl rfl (by kernel_rfl) (by kernel_rfl) (by kernel_rfl) (ok_as) (WD.take 10 rfl rfl rfl (by kernel_rfl) (by kernel_rfl) (by kernel_rfl) (ok_as) ?_))))⟩))⟩, trivial⟩)⟩
 refine WD.done (by kernel_rfl) (thn_n (WC.ret ?_))
 refine ⟨.inr rfl, [_, _], ⟨rfl, rfl, trivial⟩, Ms_s, ((List.sublist_append_left _ _).cons _).cons _, ?_⟩
 exact ⟨rfl, congrArg (fun o : Option Str => Value.tuple #[.string (o.getD Str.nil).b, .bool o.isSome]) (t.lookup k)⟩

theorem lookdep_fc {G : GH} {b_s : Nat} {c c2 : Cfg} {l : List Nd} {ss : List Seat} {Ms_s : MH} (h_s : StR 47 4 3 182 103 b_s c G l Ms_s) (t : Tree c2 l ss) (k : Str) (hk : k.b.size ≤ 300) :
    Fc Tryz.prog 27 [.pointer (some ⟨b_s, 0, none⟩), .string k.b] G Ms_s (fun v G' M' => M' = Ms_s ∧ v = .int .i64 (((allN k l : Nat) : Int))) := by
 have hlo := t.leafOk k
 have hft := t.fits _ hlo.mem
 have hfm : ∀ m ∈ (leafS l k).ms, m.key.b.size < 140737488355328 ∧ m.val.b.size ≤ 16 := fun m hm => ⟨by have := (msgR_key (hft.2 m hm)).1; omega, (msgR_key (hft.2 m hm)).2⟩
 have hkle := k.le
 refine Fc.intro (rs := [.tmp 4]) cl27 Tryz.func27 rfl Tryz.ntmps27 rfl rfl (fun w0 => ?_)
 refine WC.perm (M' := (Ms_s ++ [])) (by simp) (WC.seq (WC.region (W.as (W.nil (thn_n (WC.seq (WC.region (W.mv ?_))))))))
 refine W.mv (W.call (Mp := Ms_s) (msgs_fc h_s t _) rfl (List.Perm.refl _) ?_)
 intro v46 G43 Ms45 hG43 q44
 refine match q44 with | ⟨eeq44, _, e_48, hv42⟩ => ?_
 subst e_48
 have eeq44 := eeq44.symm
 subst eeq44
 have q50 := hv42.form
 refine match q50 with | ⟨sa_hv42, sc_hv42, e_49⟩ => ?_
 subst e_49
 refine W.mv (W.qcall (point_fc k (by omega)) rfl (W.call (Mp := []) (bclips_fc hv42 _ _ _ (fun m hm => (hfm m hm).1)) rfl (List.Perm.refl _) ?_))
 intro _ G51 _ hG51 q53
 refine match q53 with | ⟨e_54, _, e_55, hv52⟩ => ?_
 subst e_54
 subst e_55
 have q57 := hv52.form
 refine match q57 with | ⟨sa_hv52, sc_hv52, e_56⟩ => ?_
 subst e_56
 refine W.ok (ok_len sl45 hv52 rfl) (W.as (W.nil (thn_n (WC.ret ?_))))
 refine ⟨.inr rfl, [_], ⟨rfl, trivial⟩, Ms_s, List.sublist_append_left _ _, ?_⟩
 exact ⟨rfl, congrArg (fun n : Nat => Value.int .i64 (n : Int)) (t.depth (k := k) (by omega))⟩

end Go.Proofs.YtebkfinhhpelbaaGreat
