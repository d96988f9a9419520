/- Walks of what a store gives back. -/
import Derived.Test.YtmbafmifalppaaaQaVd
import Derived.Test.YtmbafmifalppaaaQaOa
set_option maxRecDepth 100000
set_option maxHeartbeats 1600000
set_option linter.unusedVariables false
set_option linter.unusedSimpArgs false
set_option linter.unnecessarySimpa false
namespace Go.Proofs.Ytmbafmifalppaaa
open Go Go.Fw Go.RowKit
theorem tnodeO_fc {G : GH} {b_s : Nat} {c : Cfg} {b_a : Nat} {a : List Nd × List Bool} {Ms_a : MH} (h_a : ArR eNode 35 4 3 179 b_a G a Ms_a) (i : Int) :
    Fc Try.prog 37 [.pointer (some ⟨b_s, 0, none⟩), .int .i64 i] G ((b_s, .cells (List.toArray [.int .i64 c.fan, .int .i64 c.leaf, .int .i64 c.bud, .int .i64 c.slots, .int .i64 c.rest, .pointer (some ⟨b_a, 0, none⟩)]) 132 (0, 0)) :: (Ms_a)) (fun v G' M' => ∃ cs Mn, v = .tuple #[.agg (List.toArray cs), .bool (hasN a.2 i)] ∧ NodeO 3 71 G' cs (getA a i Nd.zero) Mn ∧ M' = (b_s, .cells (List.toArray [.int .i64 c.fan, .int .i64 c.leaf, .int .i64 c.bud, .int .i64 c.slots, .int .i64 c.rest, .pointer (some ⟨b_a, 0, none⟩)]) 132 (0, 0)) :: (Mn ++ Ms_a)) := by
 refine Fc.intro (rs := [.cell 4 35, .tmp 5]) cl37 Try.func37 rfl Try.ntmps37 rfl rfl (fun w0 => ?_)
 refine WC.perm (M' := ((b_s, .cells (List.toArray [.int .i64 c.fan, .int .i64 c.leaf, .int .i64 c.bud, .int .i64 c.slots, .int .i64 c.rest, .pointer (some ⟨b_a, 0, none⟩)]) 132 (0, 0)) :: (Ms_a ++ []))) (by simp) (WC.seq (WC.region (W.alloc zr35 (fun b1 => (W.as (W.nil (thn_n (WC.seq (WC.seq (WC.region (W.mv (W.ok (ok_eqlPN pp54 rfl rfl) (W.nil (thn_n (WC.cond_f rfl rfl (WC.skip (thn_n ?_)))))))))))))))))
 refine WC.seq (WC.region (W.mv (W.ok (ok_nilP rfl) (W.ok (ok_fieldB fd132_1 rfl) (W.ok (ok_loadB (i := 1) (vs := [.pointer _]) ty128 rfl rfl rfl rfl (by simp)) (W.mv (W.call (Mp := Ms_a) (ogetn h_a _) rfl (pmC (pmC pr9)) ?_)))))))
 intro v5 G2 Ms4 hG2 q3
 refine match q3 with | ⟨⟨_, e_7, ⟨_, _, _, _, _, _, _, _, e_8, hp_hR6, hk_hR6, hm_hR6, hr_hR6, hok_hR6⟩⟩, eeq3⟩ => ?_
 subst e_7
 subst e_8
 have eeq3 := eeq3.symm
 subst eeq3
 refine W.perm (pmC (pmC pr9)).symm (W.mv (W.ok (ok_extract rfl rfl) (W.ok (ok_extract rfl rfl) (W.alloc zr35 (fun b9 => (W.store (i := 0) (vs := (nd9 _ _ _ _ _ _ _ _ _ _ _ _ _ _ _ _ _ _)) (L' := (nd9 _ _ _ _ _ _ _ _ _ _ _ _ _ _ _ _ _ _)) ty35 rfl rfl rfl rfl rfl rfl rfl rfl (W.as (W.nil (thn_n (WC.seq (WC.region (W.ok (ok_loadB (i := 0) (vs := (nd9 _ _ _ _ _ _ _ _ _ _ _ _ _ _ _ _ _ _)) ty35 rfl rfl rfl rfl (by simp)) (W.call (Mp := []) (ncopyO_fc ⟨_, _, _, _, _, _, _, _, rfl, hp_hR6, hk_hR6, hm_hR6, hr_hR6, hok_hR6⟩) rfl pr9 ?_)))))))))))))
 intro v13 G10 Ms12 hG10 q11
 refine match q11 with | ⟨cs9, e_14, pa9, pc9, vk9, ma9, mc9, vr9, Mk9, Mr9, e_15, eM9, h19, h29, h39, h49⟩ => ?_
 subst e_14
 subst e_15
 have q17 := h29.form
 refine match q17 with | ⟨ka9, kc9, e_16⟩ => ?_
 subst e_16
 have q19 := h49.form
 refine match q19 with | ⟨ra9, rc9, e_18⟩ => ?_
 subst e_18
 refine W.perm (pmC (pmC (pmC pr9))).symm (W.mv (W.store (i := 1) (vs := (nd9 _ _ _ _ _ _ _ _ _ _ _ _ _ _ _ _ _ _)) (L' := (nd9 _ _ _ _ _ _ _ _ _ _ _ _ _ _ _ _ _ _)) ty35 rfl rfl rfl rfl rfl rfl rfl rfl (W.as (W.nil (thn_n (WC.ret ?_))))))
 refine ⟨.inr rfl, [_, _], ⟨⟨_, _, _, _, _, rfl, nthM_mem (i := 1) rfl, ty35, (by simp), rfl, rfl⟩, rfl, trivial⟩, ((b_s, .cells (List.toArray [.int .i64 c.fan, .int .i64 c.leaf, .int .i64 c.bud, .int .i64 c.slots, .int .i64 c.rest, .pointer (some ⟨b_a, 0, none⟩)]) 132 (0, 0)) :: (Ms12 ++ (Ms_a ++ []))), (sr9.k9.cons _).cons _, ?_⟩
 exact ⟨_, Ms12, rfl, ⟨_, _, _, _, _, _, _, _, rfl, eM9, h19, h29, h39, h49⟩, congrArg _ (congrArg _ (List.append_nil _))⟩

theorem pnodeO_fc {G : GH} {b : Nat} {c : Cfg} {l : List Nd} {M : MH} (h : StR 35 4 3 179 132 b c G l M) (i : Int) : Fc Try.prog 37 [.pointer (some ⟨b, 0, none⟩), .int .i64 i] G M (fun v G' M' => ∃ cs Mn Ms, v = .tuple #[.agg (List.toArray cs), .bool (decide (0 ≤ i ∧ i < l.length))] ∧ NodeO 3 71 G' cs (getL l i) Mn ∧ M'.Perm (Mn ++ Ms) ∧ StR 35 4 3 179 132 b c G' l Ms) := by
  obtain ⟨hc, hl, b2, Ma, rfl, hA⟩ := h
  exact (tnodeO_fc (c := c) hA i).mono fun v G' M' hle ⟨cs, Mn, e1, e2, e3⟩ => ⟨cs, Mn, _, by rw [e1, ar_has hl], e2.of (ar_get hl i), by rw [e3]; exact List.perm_middle.symm, hc, hl, b2, Ma, rfl, hA.mono hle⟩
theorem tconfig_fc {G : GH} {b_s : Nat} {c : Cfg} {b_a : Nat} {a : List Nd × List Bool} {Ms_a : MH} (h_a : ArR eNode 35 4 3 179 b_a G a Ms_a) :
    Fc Try.prog 44 [.pointer (some ⟨b_s, 0, none⟩)] G ((b_s, .cells (List.toArray [.int .i64 c.fan, .int .i64 c.leaf, .int .i64 c.bud, .int .i64 c.slots, .int .i64 c.rest, .pointer (some ⟨b_a, 0, none⟩)]) 132 (0, 0)) :: (Ms_a)) (fun v G' M' => v = .agg (List.toArray [.int .i64 c.fan, .int .i64 c.leaf, .int .i64 c.bud, .int .i64 c.slots, .int .i64 c.rest]) ∧ M' = (b_s, .cells (List.toArray [.int .i64 c.fan, .int .i64 c.leaf, .int .i64 c.bud, .int .i64 c.slots, .int .i64 c.rest, .pointer (some ⟨b_a, 0, none⟩)]) 132 (0, 0)) :: Ms_a) := by
 refine Fc.intro (rs := [.cell 2 23]) cl44 Try.func44 rfl Try.ntmps44 rfl rfl (fun w0 => ?_)
 refine WC.perm (M' := ((b_s, .cells (List.toArray [.int .i64 c.fan, .int .i64 c.leaf, .int .i64 c.bud, .int .i64 c.slots, .int .i64 c.rest, .pointer (some ⟨b_a, 0, none⟩)]) 132 (0, 0)) :: (Ms_a ++ []))) (by simp) (WC.seq (WC.region (W.alloc zr23 (fun b20 => (W.nil (thn_n (WC.seq (WC.seq (WC.region (W.mv (W.ok (ok_eqlPN pp54 rfl rfl) (W.nil (thn_n (WC.cond_f rfl rfl (WC.skip (thn_n (WC.seq ?_)))))))))))))))))
 refine WC.region (W.mv (W.ok (ok_nilP rfl) (W.ok (ok_fieldB fd132_0 rfl) (W.ok (ok_loadB (i := 1) (vs := [.int .i64 _, .int .i64 _, .int .i64 _, .int .i64 _, .int .i64 _]) ty23 rfl rfl rfl rfl (by simp)) (W.store (i := 0) (vs := [.int .i64 _, .int .i64 _, .int .i64 _, .int .i64 _, .int .i64 _]) (L' := [.int .i64 _, .int .i64 _, .int .i64 _, .int .i64 _, .int .i64 _]) ty23 rfl rfl rfl rfl rfl rfl rfl rfl (W.nil (thn_n (WC.ret ?_))))))))
 refine ⟨.inr rfl, [_], ⟨⟨_, _, _, _, _, rfl, nthM_mem (i := 0) rfl, ty23, (by simp), rfl, rfl⟩, trivial⟩, ((b_s, .cells (List.toArray [.int .i64 c.fan, .int .i64 c.leaf, .int .i64 c.bud, .int .i64 c.slots, .int .i64 c.rest, .pointer (some ⟨b_a, 0, none⟩)]) 132 (0, 0)) :: (Ms_a ++ [])), sr9.k9.cons _, ?_⟩
 exact ⟨rfl, congrArg _ (List.append_nil _)⟩

theorem pconfig_fc {G : GH} {b : Nat} {c : Cfg} {l : List Nd} {M : MH} (h : StR 35 4 3 179 132 b c G l M) : Fc Try.prog 44 [.pointer (some ⟨b, 0, none⟩)] G M (fun v G' M' => v = .agg (List.toArray [.int .i64 c.fan, .int .i64 c.leaf, .int .i64 c.bud, .int .i64 c.slots, .int .i64 c.rest]) ∧ M' = M) := by
  obtain ⟨hc, hl, b2, Ma, rfl, hA⟩ := h
  exact tconfig_fc (c := c) hA
theorem rnew25_fc {G : GH} (cfan : Int) (cleaf : Int) (cbud : Int) (cslots : Int) (crest : Int) :
    Fc Try.prog 32 [.agg #[.int .i64 cfan, .int .i64 cleaf, .int .i64 cbud, .int .i64 cslots, .int .i64 crest]] G [] (fun v G' M' => ∃ b, v = .pointer (some ⟨b, 0, none⟩) ∧ RfR 35 75 b (⟨cfan, cleaf, cbud, cslots, crest⟩ : Cfg) G' [leafN 0] M') := by
 refine Fc.intro (rs := [.tmp 2]) cl32 Try.func32 rfl Try.ntmps32 rfl rfl (fun w0 => ?_)
 refine WC.seq (WC.region (W.box (L := [.int .i64 _, .int .i64 _, .int .i64 _, .int .i64 _, .int .i64 _]) rfl rfl (fun b21 => (W.as (W.nil (thn_n (WC.seq (WC.region (W.ok (ok_loadB (i := 0) (vs := [.int .i64 _, .int .i64 _, .int .i64 _, .int .i64 _, .int .i64 _]) ty23 rfl rfl rfl rfl (by simp)) (W.ok (ok_build (L := (nd9 _ _ _ _ _ _ _ _ _ _ _ _ _ _ _ _ _ _)) pl35 zr35 rfl rfl rfl) (W.litO (e := eNode) (l := [leafN 0]) (css := [(nd9 _ _ _ _ _ _ _ _ _ _ _ _ _ _ _ _ _ _)]) sl24 ty35 zr35 rfl rfl rfl rfl rfl rfl ⟨⟨_, _, _, _, _, _, _, _, rfl, SlR.nil, SlR.nil, SlR.nil, SlR.nil, leafN_ok ⟨by decide, by decide⟩⟩, trivial⟩ (fun v22 Ms23 ho24 => (W.perm (pmC pr9).symm ?_)))))))))))))
 have q28 := ho24.form
 refine match q28 with | ⟨sa25, sc26, e_27⟩ => ?_
 subst e_27
 refine W.ok (ok_build (L := [.int .i64 _, .int .i64 _, .int .i64 _, .int .i64 _, .int .i64 _, .slice _ _ _]) pl75 zr75 rfl rfl rfl) (W.box (L := [.int .i64 _, .int .i64 _, .int .i64 _, .int .i64 _, .int .i64 _, .slice _ _ _]) rfl rfl (fun b29 => (W.as (W.nil (thn_n (WC.ret ?_))))))
 refine ⟨.inr rfl, [_], ⟨rfl, trivial⟩, ((b29, .cells (List.toArray [.int .i64 cfan, .int .i64 cleaf, .int .i64 cbud, .int .i64 cslots, .int .i64 crest, .slice sa25 ([leafN 0]).length sc26]) 75 (0, 0)) :: (Ms23 ++ [])), (sr9.cons _).k9, ?_⟩
 exact ⟨_, rfl, ⟨_, _, congrArg _ (List.append_nil _), ho24⟩⟩

theorem rhas25_fc {G : GH} {b_s : Nat} {c : Cfg} {v_l : Value} {l : List Nd} {Ms_l : MH} (h_l : OwnR eNode 35 G v_l l Ms_l) (i : Int) :
    Fc Try.prog 38 [.pointer (some ⟨b_s, 0, none⟩), .int .i64 i] G ((b_s, .cells (List.toArray [.int .i64 c.fan, .int .i64 c.leaf, .int .i64 c.bud, .int .i64 c.slots, .int .i64 c.rest, v_l]) 75 (0, 0)) :: (Ms_l)) (fun v G' M' => v = .bool (decide (0 ≤ i ∧ i < l.length)) ∧ M' = (b_s, .cells (List.toArray [.int .i64 c.fan, .int .i64 c.leaf, .int .i64 c.bud, .int .i64 c.slots, .int .i64 c.rest, v_l]) 75 (0, 0)) :: Ms_l) := by
 obtain ⟨sa_l, sc_l, rfl⟩ := h_l.form
 have hl := h_l.len47
 refine Fc.intro (rs := [.tmp 4]) cl38 Try.func38 rfl Try.ntmps38 rfl rfl (fun w0 => ?_)
 refine WC.perm (M' := ((b_s, .cells (List.toArray [.int .i64 c.fan, .int .i64 c.leaf, .int .i64 c.bud, .int .i64 c.slots, .int .i64 c.rest, .slice sa_l l.length sc_l]) 75 (0, 0)) :: (Ms_l ++ []))) (by simp) (WC.seq (WC.region (W.as (W.nil (thn_n (WC.seq (WC.region (W.mv (W.ok (ok_geq rfl rfl) (W.mv ?_))))))))))
 refine W.sp 7 rfl (fun h6 => ?_) (fun h6 => ?_)
 ·have p6 := of_decide_eq_true h6
  refine W.yes (dj := 7) rfl rfl h6 (W.mv (W.yes (dj := 7) rfl rfl h6 (W.mv (W.yes (dj := 7) rfl rfl h6 (W.ok (ok_nilP rfl) (W.yes (dj := 7) rfl rfl h6 (W.ok (ok_fieldB fd75_1 rfl) (W.yes (dj := 7) rfl rfl h6 (W.ok (ok_loadB (i := 0) (vs := [.slice _ _ _]) ty24 rfl rfl rfl rfl (by simp)) (W.yes (dj := 7) rfl rfl h6 (W.ok (ok_lenO sl24 h_l rfl) (W.yes (dj := 7) rfl rfl h6 (W.ok (ok_lss rfl rfl) ?_)))))))))))))
  refine W.ok (ok_pick_t rfl h6) (W.as (W.nil (thn_n (WC.ret ?_))))
  refine ⟨.inr rfl, [_], ⟨rfl, trivial⟩, ((b_s, .cells (List.toArray [.int .i64 c.fan, .int .i64 c.leaf, .int .i64 c.bud, .int .i64 c.slots, .int .i64 c.rest, .slice sa_l l.length sc_l]) 75 (0, 0)) :: (Ms_l ++ [])), sr9.k9, ?_⟩
  refine ⟨congrArg Value.bool ?_, congrArg _ (List.append_nil _)⟩
  rw [Bool.eq_iff_iff, decide_eq_true_iff]
  first | (simp_all; done) | (simp_all; omega) | (simp; omega)
 have p6 := of_decide_eq_false h6
 refine W.no (dj := 7) rfl rfl h6 (W.no (dj := 7) rfl rfl h6 (W.no (dj := 7) rfl rfl h6 (W.no (dj := 7) rfl rfl h6 (W.no (dj := 7) rfl rfl h6 (W.no (dj := 7) rfl rfl h6 (W.no (dj := 7) rfl rfl h6 (W.ok (ok_pick_f rfl h6) (W.as (W.nil (thn_n (WC.ret ?_)))))))))))
 refine ⟨.inr rfl, [_], ⟨rfl, trivial⟩, ((b_s, .cells (List.toArray [.int .i64 c.fan, .int .i64 c.leaf, .int .i64 c.bud, .int .i64 c.slots, .int .i64 c.rest, .slice sa_l l.length sc_l]) 75 (0, 0)) :: (Ms_l ++ [])), sr9.k9, ?_⟩
 refine ⟨congrArg Value.bool ?_, congrArg _ (List.append_nil _)⟩
 rw [Bool.eq_iff_iff, decide_eq_true_iff]
 first | (simp_all; done) | (simp_all; omega) | (simp; omega)

theorem rset25_fc {G : GH} {b_s : Nat} {c : Cfg} {v_l : Value} {l : List Nd} {Ms_l : MH} (h_l : OwnR eNode 35 G v_l l Ms_l) {cs_x : List Value} {x : Nd} (h_x : NodeC G cs_x x) :
    Fc Try.prog 34 [.pointer (some ⟨b_s, 0, none⟩), .agg (List.toArray cs_x)] G ((b_s, .cells (List.toArray [.int .i64 c.fan, .int .i64 c.leaf, .int .i64 c.bud, .int .i64 c.slots, .int .i64 c.rest, v_l]) 75 (0, 0)) :: (Ms_l)) (fun v G' M' => v = .bool (decide (0 ≤ x.slot ∧ x.slot < l.length)) ∧ RfR 35 75 b_s c G' (putL l x).2 M') := by
 obtain ⟨pa_x, pc_x, ka_x, kc_x, ma_x, mc_x, ra_x, rc_x, rfl, hp_x, hk_x, hm_x, hr_x, hok_x⟩ := h_x
 obtain ⟨sa_l, sc_l, rfl⟩ := h_l.form
 have hl := h_l.len47
 refine Fc.intro (rs := [.tmp 4]) cl34 Try.func34 rfl Try.ntmps34 rfl rfl (fun w0 => ?_)
 refine WC.perm (M' := ((b_s, .cells (List.toArray [.int .i64 c.fan, .int .i64 c.leaf, .int .i64 c.bud, .int .i64 c.slots, .int .i64 c.rest, .slice sa_l l.length sc_l]) 75 (0, 0)) :: (Ms_l ++ []))) (by simp) (WC.seq (WC.region (W.box (L := (nd9 _ _ _ _ _ _ _ _ _ _ _ _ _ _ _ _ _ _)) rfl rfl (fun b30 => (W.as (W.nil (thn_n (WC.seq (WC.seq (WC.region (W.mv (W.ok (ok_fieldB fd35_0 rfl) (W.ok (ok_loadB (i := 0) (vs := [.int .i64 _]) ty3 rfl rfl rfl rfl (by simp)) (W.call (Mp := ((b_s, .cells (List.toArray [.int .i64 c.fan, .int .i64 c.leaf, .int .i64 c.bud, .int .i64 c.slots, .int .i64 c.rest, .slice sa_l l.length sc_l]) 75 (0, 0)) :: Ms_l)) (Mr := ((b30, .cells (List.toArray [.int .i64 x.slot, .int .i64 x.level, .slice pa_x x.pivots.length pc_x, .slice ka_x x.kids.length kc_x, .string x.high.b, .bool x.top, .int .i64 x.right, .int .i64 x.seen, .slice ma_x x.msgs.length mc_x, .slice ra_x x.rows.length rc_x]) 35 (0, 0)) :: [])) (rhas25_fc h_l _) rfl (((pmC pr9).cons _).trans ((List.Perm.swap _ _ _).trans (pr9.cons _))) ?_))))))))))))))
 intro v34 G31 Ms33 hG31 q32
 refine match q32 with | ⟨e_35, e_36⟩ => ?_
 subst e_35
 subst e_36
 refine W.perm (M' := ((b_s, .cells (List.toArray [.int .i64 c.fan, .int .i64 c.leaf, .int .i64 c.bud, .int .i64 c.slots, .int .i64 c.rest, .slice sa_l l.length sc_l]) 75 (0, 0)) :: ((b30, .cells (List.toArray [.int .i64 x.slot, .int .i64 x.level, .slice pa_x x.pivots.length pc_x, .slice ka_x x.kids.length kc_x, .string x.high.b, .bool x.top, .int .i64 x.right, .int .i64 x.seen, .slice ma_x x.msgs.length mc_x, .slice ra_x x.rows.length rc_x]) 35 (0, 0)) :: (Ms_l ++ [])))) (((pmC pr9).cons _).trans pr9).symm (W.ok (ok_not rfl) (W.nil (thn_n ?_)))
 refine WC.cond (b := _) rfl (fun h9 => ?_) (fun h9 => ?_)
 ·have hin : ¬ (0 ≤ x.slot ∧ x.slot < (l.length : Int)) := by simp at h9; omega
  refine WC.seq (WC.region (W.as (W.nil (thn_n (WC.ret (thn_r ?_))))))
  refine ⟨.inr rfl, [_], ⟨rfl, trivial⟩, ((b_s, .cells (List.toArray [.int .i64 c.fan, .int .i64 c.leaf, .int .i64 c.bud, .int .i64 c.slots, .int .i64 c.rest, .slice sa_l l.length sc_l]) 75 (0, 0)) :: (Ms_l ++ [])), (sr9.cons _).k9, ?_⟩
  exact ⟨congrArg Value.bool (decide_eq_false hin).symm, RfR.to ⟨_, _, congrArg _ (List.append_nil _), (h_l.mono hG31)⟩ (by rw [putL_f hin])⟩
 have hin : 0 ≤ x.slot ∧ x.slot < (l.length : Int) := by simpa using h9
 refine WC.skip (thn_n (WC.seq (WC.drawW _ (sn9.k9.k9) mix (by rintro _ _ _ _ ⟨h | h, _⟩ <;> cases h) (WD.tk 0 rfl (ok_mv) (WD.tk 1 rfl (ok_nilP rfl) (WD.tk 2 rfl (ok_fieldB fd75_1 rfl) (WD.tk 3 rfl (ok_loadB (i := 0) (vs := [.slice _ _ _]) ty24 rfl rfl rfl rfl (by simp)) (WD.tk 4 rfl (ok_fieldB fd35_0 rfl) (WD.tk 5 rfl (ok_loadB (i := 1) (vs := [.int .i64 _]) ty3 rfl rfl rfl rfl (by simp)) (WD.tk 6 rfl (ok_loadB (i := 1) (vs := (nd9 _ _ _ _ _ _ _ _ _ _ _ _ _ _ _ _ _ _)) ty35 rfl rfl rfl rfl (by simp)) ?_))))))))))
 have q40 := (h_l.mono hG31).at (i := x.slot.toNat) (by omega)
 refine match q40 with | ⟨_, he37, ⟨pa_n38, pc_n38, ka_n38, kc_n38, ma_n38, mc_n38, ra_n38, rc_n38, e_39, hp_n38, hk_n38, hm_n38, hr_n38, hok_n38⟩⟩ => ?_
 subst e_39
 refine WD.tk 7 rfl (ok_indexAddrO (i := x.slot.toNat) sl24 ty35 (h_l.mono hG31) rfl rfl ⟨by omega, by omega⟩) (WD.a1 8 rfl (W.storeO (i := x.slot.toNat) (o := 0) (vs := (nd9 _ _ _ _ _ _ _ _ _ _ _ _ _ _ _ _ _ _)) (a' := x) ty35 rfl rfl rfl rfl rfl ((h_l.mono hG31)) (pmC (pmC pr9)) (by omega) (by decide) (fun cs h => by obtain ⟨_, _, _, _, _, _, _, _, rfl, _⟩ := h; exact ⟨_, _, _, _, _, _, _, _, rfl, (hp_x.mono hG31), (hk_x.mono hG31), (hm_x.mono hG31), (hr_x.mono hG31), hok_x⟩) (fun Ms41 ho42 => (W.perm (pmC (pmC pr9)).symm (W.nil (WD.n9 Le.rfl (sn9.k9.k9) (WD.done (by kernel_rfl) (thn_n (WC.seq (WC.region (W.as (W.nil (thn_n (WC.ret ?_))))))))))))))
 refine ⟨.inr rfl, [_], ⟨rfl, trivial⟩, ((b_s, .cells (List.toArray [.int .i64 c.fan, .int .i64 c.leaf, .int .i64 c.bud, .int .i64 c.slots, .int .i64 c.rest, .slice sa_l l.length sc_l]) 75 (0, 0)) :: (Ms41 ++ [])), (sr9.cons _).k9, ?_⟩
 exact ⟨congrArg Value.bool (decide_eq_true hin).symm, RfR.to ⟨_, _, congrArg _ (List.append_nil _), ho42⟩ (by rw [putL_t hin])⟩

theorem rtake25_fc {G : GH} {b_s : Nat} {c : Cfg} {v_l : Value} {l : List Nd} {Ms_l : MH} (h_l : OwnR eNode 35 G v_l l Ms_l) {cs_x : List Value} {x : Nd} (h_x : NodeC G cs_x x) (hl9 : l.length ≤ 100) :
    Fc Try.prog 36 [.pointer (some ⟨b_s, 0, none⟩), .agg (List.toArray cs_x)] G ((b_s, .cells (List.toArray [.int .i64 c.fan, .int .i64 c.leaf, .int .i64 c.bud, .int .i64 c.slots, .int .i64 c.rest, v_l]) 75 (0, 0)) :: (Ms_l)) (fun v G' M' => v = .int .i64 (if (l.length : Int) < c.slots then (l.length : Int) else -1) ∧ RfR 35 75 b_s c G' (if (l.length : Int) < c.slots then l ++ [{ x with slot := (l.length : Int) }] else l) M') := by
 obtain ⟨pa_x, pc_x, ka_x, kc_x, ma_x, mc_x, ra_x, rc_x, rfl, hp_x, hk_x, hm_x, hr_x, hok_x⟩ := h_x
 obtain ⟨sa_l, sc_l, rfl⟩ := h_l.form
 have hl := h_l.len47
 have hlb : l.length * 152 ≤ 140737488355328 := h_l.bytes
 have hsl9 : i64 (l.length : Int) := ⟨by omega, by omega⟩
 refine Fc.intro (rs := [.tmp 4]) cl36 Try.func36 rfl Try.ntmps36 rfl rfl (fun w0 => ?_)
 refine WC.perm (M' := ((b_s, .cells (List.toArray [.int .i64 c.fan, .int .i64 c.leaf, .int .i64 c.bud, .int .i64 c.slots, .int .i64 c.rest, .slice sa_l l.length sc_l]) 75 (0, 0)) :: (Ms_l ++ []))) (by simp) (WC.seq (WC.region (W.box (L := (nd9 _ _ _ _ _ _ _ _ _ _ _ _ _ _ _ _ _ _)) rfl rfl (fun b43 => (W.as (W.nil (thn_n (WC.seq (WC.seq (WC.draw mix (by kernel_rfl) (W.mv (W.ok (ok_nilP rfl) (W.ok (ok_fieldB fd75_1 rfl) (W.ok (ok_loadB (i := 1) (vs := [.slice _ _ _]) ty24 rfl rfl rfl rfl (by simp)) (W.ok (ok_lenO sl24 h_l rfl) ?_)))))))))))))))
 refine W.mv (W.ok (ok_nilP rfl) (W.ok (ok_fieldB fd75_0 rfl) (W.ok (ok_fieldB fd23_3 rfl) (W.ok (ok_loadB (i := 1) (vs := [.int .i64 _]) ty3 rfl rfl rfl rfl (by simp)) (W.ok (ok_geq rfl rfl) (W.nil (thn_n ?_)))))))
 refine WC.cond (b := _) rfl (fun h15 => ?_) (fun h15 => ?_)
 ·have p15 := of_decide_eq_true h15
  refine WC.seq (WC.region (W.as (W.nil (thn_n (WC.ret (thn_r ?_))))))
  refine ⟨.inr rfl, [_], ⟨rfl, trivial⟩, ((b_s, .cells (List.toArray [.int .i64 c.fan, .int .i64 c.leaf, .int .i64 c.bud, .int .i64 c.slots, .int .i64 c.rest, .slice sa_l l.length sc_l]) 75 (0, 0)) :: (Ms_l ++ [])), sr9.k9.cons _, ?_⟩
  rw [if_neg (by omega), if_neg (by omega)]
  exact ⟨rfl, ⟨_, _, congrArg _ (List.append_nil _), h_l⟩⟩
 have p15 := of_decide_eq_false h15
 refine WC.skip (thn_n (WC.seq (WC.region (W.mv (W.ok (ok_nilP rfl) (W.ok (ok_fieldB fd75_1 rfl) (W.ok (ok_loadB (i := 1) (vs := [.slice _ _ _]) ty24 rfl rfl rfl rfl (by simp)) (W.ok (ok_lenO sl24 h_l rfl) (W.ok (ok_fieldB fd35_0 rfl) (W.store (i := 0) (vs := [.int .i64 _]) (L' := (nd9 _ _ _ _ _ _ _ _ _ _ _ _ _ _ _ _ _ _)) ty3 rfl rfl rfl rfl rfl rfl rfl rfl (W.nil (thn_n (WC.seq (WC.drawW _ ((sn9.cons _).k9) mix (by rintro _ _ _ _ ⟨h | h, _⟩ <;> cases h) (WD.tk 0 rfl (ok_mv) ?_)))))))))))))))
 refine WD.tk 1 rfl (ok_mv) (WD.tk 2 rfl (ok_nilP rfl) (WD.tk 3 rfl (ok_fieldB fd75_1 rfl) (WD.tk 5 rfl (ok_loadB (i := 0) (vs := (nd9 _ _ _ _ _ _ _ _ _ _ _ _ _ _ _ _ _ _)) ty35 rfl rfl rfl rfl (by simp)) ?_)))
 refine WD.any [4, 6] (by kernel_rfl) rfl ⟨⟨_, rfl, rfl, ?_⟩, ⟨_, rfl, rfl, ?_⟩, trivial⟩
 ·refine W.ok (ok_loadB (i := 1) (vs := [.slice _ _ _]) ty24 rfl rfl rfl rfl (by simp)) (W.nil (WD.n9 Le.rfl ((sn9.cons _).k9) (WD.a1 6 rfl (W.lit (e := eNode) (l := [{ x with slot := (l.length : Int) }]) (css := [(nd9 _ _ _ _ _ _ _ _ _ _ _ _ _ _ _ _ _ _)]) sl24 ty35 zr35 rfl rfl rfl rfl rfl rfl ⟨⟨_, _, _, _, _, _, _, _, rfl, hp_x, hk_x, hm_x, hr_x, ⟨hsl9, hok_x.2⟩⟩, trivial⟩ (fun bl44 G44 hG44 hv44 => (W.nil (WD.n9 hG44 ((sn9.cons _).k9) (WD.a1 7 rfl (W.app (e := eNode) sl24 ty35 zr35 rfl by35 rfl rfl ((h_l.mono hG44)) (hv44) (pmC (pmC pr9)) (by show (List.length _ + List.length _) * 152 ≤ _; simp; omega) (fun v45 Ms46 ho47 => (W.perm (pmC (pmC pr9)).symm ?_)))))))))))
  have q51 := ho47.form
  refine match q51 with | ⟨sa48, sc49, e_50⟩ => ?_
  subst e_50
  refine W.nil (WD.n9 Le.rfl ((sn9.cons _).k9) (WD.tk 8 rfl (ok_nilP rfl) (WD.tk 9 rfl (ok_fieldB fd75_1 rfl) (WD.a1 10 rfl (W.store (i := 1) (vs := [.slice _ _ _]) (L' := [.int .i64 _, .int .i64 _, .int .i64 _, .int .i64 _, .int .i64 _, .slice _ _ _]) ty24 rfl rfl rfl rfl rfl rfl rfl rfl (W.nil (WD.n9 Le.rfl ((sn9.cons _).k9) (WD.done (by kernel_rfl) (thn_n (WC.seq (WC.region (W.ok (ok_fieldB fd35_0 rfl) (W.ok (ok_loadB (i := 0) (vs := [.int .i64 _]) ty3 rfl rfl rfl rfl (by simp)) (W.as (W.nil (thn_n (WC.ret ?_)))))))))))))))))
  refine ⟨.inr rfl, [_], ⟨rfl, trivial⟩, ((b_s, .cells (List.toArray [.int .i64 c.fan, .int .i64 c.leaf, .int .i64 c.bud, .int .i64 c.slots, .int .i64 c.rest, .slice sa48 ((l ++ [{ x with slot := (l.length : Int) }])).length sc49]) 75 (0, 0)) :: (Ms46 ++ [])), sr9.k9.cons _, ?_⟩
  rw [if_pos (by omega), if_pos (by omega)]
  exact ⟨rfl, ⟨_, _, congrArg _ (List.append_nil _), ho47⟩⟩
 refine W.lit (e := eNode) (l := [{ x with slot := (l.length : Int) }]) (css := [(nd9 _ _ _ _ _ _ _ _ _ _ _ _ _ _ _ _ _ _)]) sl24 ty35 zr35 rfl rfl rfl rfl rfl rfl ⟨⟨_, _, _, _, _, _, _, _, rfl, hp_x, hk_x, hm_x, hr_x, ⟨hsl9, hok_x.2⟩⟩, trivial⟩ (fun bl52 G52 hG52 hv52 => (W.nil (WD.n9 hG52 ((sn9.cons _).k9) (WD.a1 4 rfl (W.ok (ok_loadB (i := 1) (vs := [.slice _ _ _]) ty24 rfl rfl rfl rfl (by simp)) (W.nil (WD.n9 Le.rfl ((sn9.cons _).k9) (WD.a1 7 rfl (W.app (e := eNode) sl24 ty35 zr35 rfl by35 rfl rfl ((h_l.mono hG52)) (hv52) (pmC (pmC pr9)) (by show (List.length _ + List.length _) * 152 ≤ _; simp; omega) (fun v53 Ms54 ho55 => (W.perm (pmC (pmC pr9)).symm ?_)))))))))))
 have q59 := ho55.form
 refine match q59 with | ⟨sa56, sc57, e_58⟩ => ?_
 subst e_58
 refine W.nil (WD.n9 Le.rfl ((sn9.cons _).k9) (WD.tk 8 rfl (ok_nilP rfl) (WD.tk 9 rfl (ok_fieldB fd75_1 rfl) (WD.a1 10 rfl (W.store (i := 1) (vs := [.slice _ _ _]) (L' := [.int .i64 _, .int .i64 _, .int .i64 _, .int .i64 _, .int .i64 _, .slice _ _ _]) ty24 rfl rfl rfl rfl rfl rfl rfl rfl (W.nil (WD.n9 Le.rfl ((sn9.cons _).k9) (WD.done (by kernel_rfl) (thn_n (WC.seq (WC.region (W.ok (ok_fieldB fd35_0 rfl) (W.ok (ok_loadB (i := 0) (vs := [.int .i64 _]) ty3 rfl rfl rfl rfl (by simp)) (W.as (W.nil (thn_n (WC.ret ?_)))))))))))))))))
 refine ⟨.inr rfl, [_], ⟨rfl, trivial⟩, ((b_s, .cells (List.toArray [.int .i64 c.fan, .int .i64 c.leaf, .int .i64 c.bud, .int .i64 c.slots, .int .i64 c.rest, .slice sa56 ((l ++ [{ x with slot := (l.length : Int) }])).length sc57]) 75 (0, 0)) :: (Ms54 ++ [])), sr9.k9.cons _, ?_⟩
 rw [if_pos (by omega), if_pos (by omega)]
 exact ⟨rfl, ⟨_, _, congrArg _ (List.append_nil _), ho55⟩⟩

theorem qhas25_fc {G : GH} {b : Nat} {c : Cfg} {l : List Nd} {M : MH} (h : RfR 35 75 b c G l M) (i : Int) : Fc Try.prog 38 [.pointer (some ⟨b, 0, none⟩), .int .i64 i] G M (fun v G' M' => v = .bool (decide (0 ≤ i ∧ i < l.length)) ∧ M' = M) := by
  obtain ⟨v, Mo, rfl, ho⟩ := h
  exact rhas25_fc ho i
theorem qset25_fc {G : GH} {b : Nat} {c : Cfg} {l : List Nd} {M : MH} (h : RfR 35 75 b c G l M) {cs : List Value} {x : Nd} (hx : NodeC G cs x) : Fc Try.prog 34 [.pointer (some ⟨b, 0, none⟩), .agg (List.toArray cs)] G M (fun v G' M' => v = .bool (decide (0 ≤ x.slot ∧ x.slot < l.length)) ∧ RfR 35 75 b c G' (putL l x).2 M') := by
  obtain ⟨v, Mo, rfl, ho⟩ := h
  exact rset25_fc ho hx
theorem qtake25_fc {G : GH} {b : Nat} {c : Cfg} {l : List Nd} {M : MH} (h : RfR 35 75 b c G l M) {cs : List Value} {x : Nd} (hx : NodeC G cs x) (hl9 : l.length ≤ 100) : Fc Try.prog 36 [.pointer (some ⟨b, 0, none⟩), .agg (List.toArray cs)] G M (fun v G' M' => v = .int .i64 (if (l.length : Int) < c.slots then (l.length : Int) else -1) ∧ RfR 35 75 b c G' (if (l.length : Int) < c.slots then l ++ [{ x with slot := (l.length : Int) }] else l) M') := by
  obtain ⟨v, Mo, rfl, ho⟩ := h
  exact rtake25_fc ho hx hl9
end Go.Proofs.Ytmbafmifalppaaa
