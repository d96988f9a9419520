/- Walks of a cursor. -/
import Derived.Test.YtebkfinhhpelbaaGreatQbNr
set_option maxRecDepth 100000
set_option maxHeartbeats 1600000
set_option linter.unusedVariables false
set_option linter.unusedSimpArgs false
set_option linter.unnecessarySimpa false
namespace Go.Proofs.YtebkfinhhpelbaaGreat
open Go Go.Fw Go.RowKit
theorem crows_fc {G : GH} {b_c : Nat} {a9 i9 : Int} {v_xs : Value} {xs : List Seat} {Ms_xs : MH} (h_xs : LvR 130 v_xs G xs Ms_xs) (i : Nat) (hi : i < xs.length) (hF : LeafF (xs[i]'hi)) :
    Fc Tryz.prog 81 [.pointer (some ⟨b_c, 0, none⟩), .int .i64 ((i : Nat) : Int)] G ((b_c, .cells (List.toArray [v_xs, .int .i64 a9, .int .i64 i9]) 124 (0, 0)) :: (Ms_xs)) (fun v' G' M' => SlR ePair G' v' (viewS (xs[i]'hi)) ∧ ∃ Ml, M' = (b_c, .cells (List.toArray [v_xs, .int .i64 a9, .int .i64 i9]) 124 (0, 0)) :: Ml ∧ LvR 130 v_xs G' xs Ml) := by
 refine Fc.intro (rs := [.tmp 4]) cl81 Tryz.func81 rfl Tryz.ntmps81 rfl rfl (fun w0 => ?_)
 refine WC.perm (M' := ((b_c, .cells (List.toArray [v_xs, .int .i64 a9, .int .i64 i9]) 124 (0, 0)) :: (Ms_xs ++ []))) (by simp) (WC.seq (WC.region (W.as (W.nil (thn_n (WC.seq ?_))))))
 obtain ⟨ids, css, hsl, hil, hLE, hpm⟩ := h_xs
 have q2 := hsl.form
 refine match q2 with | ⟨sa_v, sc_v, e_1⟩ => ?_
 subst e_1
 obtain ⟨cs0, R0, hlf, hp0, hbk⟩ := lv_at (TL := 130) (ids := ids) (css := css) (xs := xs) i (by omega) (by have := hLE.len; omega) hLE hi
 obtain ⟨cn, vm, vr, kn, rfl, hN, hM, hV⟩ := hlf
 obtain ⟨pa_n, pc_n, ka_n, kc_n, ma_n, mc_n, ra_n, rc_n, rfl, hp_n, hk_n, hm_n, hr_n, hok_n⟩ := hN
 have q4 := hM.form
 refine match q4 with | ⟨sa_m, sc_m, e_3⟩ => ?_
 subst e_3
 have q6 := hV.form
 refine match q6 with | ⟨sa_r, sc_r, e_5⟩ => ?_
 subst e_5
 refine WC.perm (M' := ((b_c, .cells (List.toArray [.slice sa_v ids.length sc_v, .int .i64 a9, .int .i64 i9]) 124 (0, 0)) :: (((ids[i]'(by omega)), .cells (List.toArray [.int .i64 (xs[i]'hi).n.slot, .int .i64 (xs[i]'hi).n.level, .slice pa_n ((xs[i]'hi).n.pivots).length pc_n, .slice ka_n ((xs[i]'hi).n.kids).length kc_n, .string (xs[i]'hi).n.high.b, .bool (xs[i]'hi).n.top, .int .i64 (xs[i]'hi).n.right, .int .i64 (xs[i]'hi).n.seen, .slice ma_n ((xs[i]'hi).n.msgs).length mc_n, .slice ra_n ((xs[i]'hi).n.rows).length rc_n, .string ((xs[i]'hi).s).lo.b, .string ((xs[i]'hi).s).hi.b, .bool ((xs[i]'hi).s).opn, .slice sa_m (xs[i]'hi).ms.length sc_m, .slice sa_r (if kn = true then viewS (xs[i]'hi) else []).length sc_r, .bool kn]) 130 (0, 0)) :: (R0 ++ [])))) (((hp0.trans hpm.symm).append_right []).cons _) (WC.region (W.mv (W.ok (ok_nilP rfl) (W.ok (ok_fieldB fd124_0 rfl) (W.ok (ok_loadB (i := 0) (vs := [.slice _ _ _]) ty122 rfl rfl rfl rfl (by simp)) (W.mv ?_))))))
 have q9 := hsl.at (i := i) (by omega)
 refine match q9 with | ⟨_, he7, e_8⟩ => ?_
 subst e_8
 refine W.ok (ok_indexAddr (i := i) sl122 ty127 hsl rfl rfl ⟨by omega, by omega⟩) (W.ok (ok_loadE (vs := [.pointer _]) ty127 he7 rfl rfl rfl (by simp)) (W.as (W.nil (thn_n (WC.seq (WC.seq (WC.region (W.mv (W.ok (ok_nilP rfl) (W.ok (ok_fieldB fd130_4 rfl) (W.ok (ok_loadB (i := 1) (vs := [.bool _]) ty4 rfl rfl rfl rfl (by simp)) (W.ok (ok_not rfl) (W.nil (thn_n ?_))))))))))))))
 refine WC.cond (b := _) rfl (fun h17 => ?_) (fun h17 => ?_)
 ·refine WC.drawW _ ((sn9.cons _).k9) mix (by rintro _ _ _ _ ⟨h | h, _⟩ <;> cases h) (WD.tk 0 rfl (ok_mv) (WD.tk 1 rfl (ok_mv) (WD.tk 2 rfl (ok_mv) (WD.tk 3 rfl (ok_nilP rfl) (WD.tk 4 rfl (ok_fieldB fd130_0 rfl) (WD.tk 5 rfl (ok_fieldB fd47_9 rfl) (WD.tk 7 rfl (ok_mv) (WD.tk 8 rfl (ok_nilP rfl) (WD.tk 9 rfl (ok_fieldB fd130_1 rfl) (WD.tk 11 rfl (ok_mv) (WD.tk 12 rfl (ok_nilP rfl) (WD.tk 13 rfl (ok_fieldB fd130_2 rfl) ?_))))))))))))
  refine WD.any [6, 10, 14] (by kernel_rfl) rfl ⟨⟨_, rfl, rfl, ?_⟩, ⟨_, rfl, rfl, ?_⟩, ⟨_, rfl, rfl, ?_⟩, trivial⟩
  ·refine W.ok (ok_loadB (i := 1) (vs := [.slice _ _ _]) ty41 rfl rfl rfl rfl (by simp)) (W.nil (WD.n9 Le.rfl ((sn9.cons _).k9) ?_))
   refine WD.any [10, 14] (by kernel_rfl) rfl ⟨⟨_, rfl, rfl, ?_⟩, ⟨_, rfl, rfl, ?_⟩, trivial⟩
   ·refine W.ok (ok_loadB (i := 1) (vs := [.string _, .string _, .bool _]) ty52 rfl rfl rfl rfl (by simp)) (W.nil (WD.n9 Le.rfl ((sn9.cons _).k9) (WD.a1 14 rfl (W.ok (ok_loadB (i := 1) (vs := [.slice _ _ _]) ty45 rfl rfl rfl rfl (by simp)) (W.nil (WD.n9 Le.rfl ((sn9.cons _).k9) (WD.a1 15 rfl (W.call (Mp := []) (mview_fc hr_n (xs[i]'hi).s.lo (xs[i]'hi).s.hi (xs[i]'hi).s.opn hM hF.rows (by have := hF.rlen; have := hF.mlen; omega) (fun m hm => msgR_key (hF.mR m hm)) (by have := hF.ss.1; omega)) rfl pr9 ?_))))))))
    intro _ G10 _ hG10 q12
    refine match q12 with | ⟨e_13, _, e_14, hv11⟩ => ?_
    subst e_13
    subst e_14
    have q16 := hv11.form
    refine match q16 with | ⟨sa_hv11, sc_hv11, e_15⟩ => ?_
    subst e_15
    refine W.nil (WD.n9 hG10 ((sn9.cons _).k9) (WD.tk 16 rfl (ok_nilP rfl) (WD.tk 17 rfl (ok_fieldB fd130_3 rfl) (WD.a1 18 rfl (W.store (i := 1) (vs := [.slice _ _ _]) (L' := [.int .i64 _, .int .i64 _, .slice _ _ _, .slice _ _ _, .string _, .bool _, .int .i64 _, .int .i64 _, .slice _ _ _, .slice _ _ _, .string _, .string _, .bool _, .slice _ _ _, .slice _ _ _, .bool _]) ty41 rfl rfl rfl rfl rfl rfl rfl rfl (W.nil (WD.n9 Le.rfl ((sn9.cons _).k9) (WD.tk 19 rfl (ok_nilP rfl) (WD.tk 20 rfl (ok_fieldB fd130_4 rfl) (WD.a1 21 rfl (W.store (i := 1) (vs := [.bool _]) (L' := [.int .i64 _, .int .i64 _, .slice _ _ _, .slice _ _ _, .string _, .bool _, .int .i64 _, .int .i64 _, .slice _ _ _, .slice _ _ _, .string _, .string _, .bool _, .slice _ _ _, .slice _ _ _, .bool _]) ty4 rfl rfl rfl rfl rfl rfl rfl rfl (W.nil (WD.n9 Le.rfl ((sn9.cons _).k9) (WD.done (by kernel_rfl) (thn_n (WC.seq (WC.region ?_)))))))))))))))))
    refine W.mv (W.ok (ok_nilP rfl) (W.ok (ok_fieldB fd130_3 rfl) (W.ok (ok_loadB (i := 1) (vs := [.slice _ _ _]) ty41 rfl rfl rfl rfl (by simp)) (W.as (W.nil (thn_n (WC.ret ?_)))))))
    refine ⟨.inr rfl, [_], ⟨rfl, trivial⟩, ((b_c, .cells (List.toArray [.slice sa_v ids.length sc_v, .int .i64 a9, .int .i64 i9]) 124 (0, 0)) :: (((ids[i]'(by omega)), .cells (List.toArray [.int .i64 (xs[i]'hi).n.slot, .int .i64 (xs[i]'hi).n.level, .slice pa_n ((xs[i]'hi).n.pivots).length pc_n, .slice ka_n ((xs[i]'hi).n.kids).length kc_n, .string (xs[i]'hi).n.high.b, .bool (xs[i]'hi).n.top, .int .i64 (xs[i]'hi).n.right, .int .i64 (xs[i]'hi).n.seen, .slice ma_n ((xs[i]'hi).n.msgs).length mc_n, .slice ra_n ((xs[i]'hi).n.rows).length rc_n, .string ((xs[i]'hi).s).lo.b, .string ((xs[i]'hi).s).hi.b, .bool ((xs[i]'hi).s).opn, .slice sa_m (xs[i]'hi).ms.length sc_m, .slice sa_hv11 (viewS (xs[i]'hi)).length sc_hv11, .bool true]) 130 (0, 0)) :: (R0 ++ []))), sr9.k9.k9, ?_⟩
    obtain ⟨css9, e91, e92, e93⟩ := hbk _ _ hG10 (⟨_, _, _, true, rfl, ⟨_, _, _, _, _, _, _, _, rfl, (hp_n.mono hG10), (hk_n.mono hG10), (hm_n.mono hG10), (hr_n.mono hG10), hok_n⟩, (hM.mono hG10), SlR.cast (hv11) (if_pos rfl).symm⟩)
    exact ⟨hv11, _, rfl, ids, css9, (hsl.mono hG10), hil, e92, by rw [List.append_nil]; exact e93⟩
   refine W.ok (ok_loadB (i := 1) (vs := [.slice _ _ _]) ty45 rfl rfl rfl rfl (by simp)) (W.nil (WD.n9 Le.rfl ((sn9.cons _).k9) (WD.a1 10 rfl (W.ok (ok_loadB (i := 1) (vs := [.string _, .string _, .bool _]) ty52 rfl rfl rfl rfl (by simp)) (W.nil (WD.n9 Le.rfl ((sn9.cons _).k9) (WD.a1 15 rfl (W.call (Mp := []) (mview_fc hr_n (xs[i]'hi).s.lo (xs[i]'hi).s.hi (xs[i]'hi).s.opn hM hF.rows (by have := hF.rlen; have := hF.mlen; omega) (fun m hm => msgR_key (hF.mR m hm)) (by have := hF.ss.1; omega)) rfl pr9 ?_))))))))
   intro _ G17 _ hG17 q19
   refine match q19 with | ⟨e_20, _, e_21, hv18⟩ => ?_
   subst e_20
   subst e_21
   have q23 := hv18.form
   refine match q23 with | ⟨sa_hv18, sc_hv18, e_22⟩ => ?_
   subst e_22
   refine W.nil (WD.n9 hG17 ((sn9.cons _).k9) (WD.tk 16 rfl (ok_nilP rfl) (WD.tk 17 rfl (ok_fieldB fd130_3 rfl) (WD.a1 18 rfl (W.store (i := 1) (vs := [.slice _ _ _]) (L' := [.int .i64 _, .int .i64 _, .slice _ _ _, .slice _ _ _, .string _, .bool _, .int .i64 _, .int .i64 _, .slice _ _ _, .slice _ _ _, .string _, .string _, .bool _, .slice _ _ _, .slice _ _ _, .bool _]) ty41 rfl rfl rfl rfl rfl rfl rfl rfl (W.nil (WD.n9 Le.rfl ((sn9.cons _).k9) (WD.tk 19 rfl (ok_nilP rfl) (WD.tk 20 rfl (ok_fieldB fd130_4 rfl) (WD.a1 21 rfl (W.store (i := 1) (vs := [.bool _]) (L' := [.int .i64 _, .int .i64 _, .slice _ _ _, .slice _ _ _, .string _, .bool _, .int .i64 _, .int .i64 _, .slice _ _ _, .slice _ _ _, .string _, .string _, .bool _, .slice _ _ _, .slice _ _ _, .bool _]) ty4 rfl rfl rfl rfl rfl rfl rfl rfl (W.nil (WD.n9 Le.rfl ((sn9.cons _).k9) (WD.done (by kernel_rfl) (thn_n (WC.seq (WC.region ?_)))))))))))))))))
   refine W.mv (W.ok (ok_nilP rfl) (W.ok (ok_fieldB fd130_3 rfl) (W.ok (ok_loadB (i := 1) (vs := [.slice _ _ _]) ty41 rfl rfl rfl rfl (by simp)) (W.as (W.nil (thn_n (WC.ret ?_)))))))
   refine ⟨.inr rfl, [_], ⟨rfl, trivial⟩, ((b_c, .cells (List.toArray [.slice sa_v ids.length sc_v, .int .i64 a9, .int .i64 i9]) 124 (0, 0)) :: (((ids[i]'(by omega)), .cells (List.toArray [.int .i64 (xs[i]'hi).n.slot, .int .i64 (xs[i]'hi).n.level, .slice pa_n ((xs[i]'hi).n.pivots).length pc_n, .slice ka_n ((xs[i]'hi).n.kids).length kc_n, .string (xs[i]'hi).n.high.b, .bool (xs[i]'hi).n.top, .int .i64 (xs[i]'hi).n.right, .int .i64 (xs[i]'hi).n.seen, .slice ma_n ((xs[i]'hi).n.msgs).length mc_n, .slice ra_n ((xs[i]'hi).n.rows).length rc_n, .string ((xs[i]'hi).s).lo.b, .string ((xs[i]'hi).s).hi.b, .bool ((xs[i]'hi).s).opn, .slice sa_m (xs[i]'hi).ms.length sc_m, .slice sa_hv18 (viewS (xs[i]'hi)).length sc_hv18, .bool true]) 130 (0, 0)) :: (R0 ++ []))), sr9.k9.k9, ?_⟩
   obtain ⟨css9, e91, e92, e93⟩ := hbk _ _ hG17 (⟨_, _, _, true, rfl, ⟨_, _, _, _, _, _, _, _, rfl, (hp_n.mono hG17), (hk_n.mono hG17), (hm_n.mono hG17), (hr_n.mono hG17), hok_n⟩, (hM.mono hG17), SlR.cast (hv18) (if_pos rfl).symm⟩)
   exact ⟨hv18, _, rfl, ids, css9, (hsl.mono hG17), hil, e92, by rw [List.append_nil]; exact e93⟩
  ·refine W.ok (ok_loadB (i := 1) (vs := [.string _, .string _, .bool _]) ty52 rfl rfl rfl rfl (by simp)) (W.nil (WD.n9 Le.rfl ((sn9.cons _).k9) ?_))
   refine WD.any [6, 14] (by kernel_rfl) rfl ⟨⟨_, rfl, rfl, ?_⟩, ⟨_, rfl, rfl, ?_⟩, trivial⟩
   ·refine W.ok (ok_loadB (i := 1) (vs := [.slice _ _ _]) ty41 rfl rfl rfl rfl (by simp)) (W.nil (WD.n9 Le.rfl ((sn9.cons _).k9) (WD.a1 14 rfl (W.ok (ok_loadB (i := 1) (vs := [.slice _ _ _]) ty45 rfl rfl rfl rfl (by simp)) (W.nil (WD.n9 Le.rfl ((sn9.cons _).k9) (WD.a1 15 rfl (W.call (Mp := []) (mview_fc hr_n (xs[i]'hi).s.lo (xs[i]'hi).s.hi (xs[i]'hi).s.opn hM hF.rows (by have := hF.rlen; have := hF.mlen; omega) (fun m hm => msgR_key (hF.mR m hm)) (by have := hF.ss.1; omega)) rfl pr9 ?_))))))))
    intro _ G24 _ hG24 q26
    refine match q26 with | ⟨e_27, _, e_28, hv25⟩ => ?_
    subst e_27
    subst e_28
    have q30 := hv25.form
    refine match q30 with | ⟨sa_hv25, sc_hv25, e_29⟩ => ?_
    subst e_29
    refine W.nil (WD.n9 hG24 ((sn9.cons _).k9) (WD.tk 16 rfl (ok_nilP rfl) (WD.tk 17 rfl (ok_fieldB fd130_3 rfl) (WD.a1 18 rfl (W.store (i := 1) (vs := [.slice _ _ _]) (L' := [.int .i64 _, .int .i64 _, .slice _ _ _, .slice _ _ _, .string _, .bool _, .int .i64 _, .int .i64 _, .slice _ _ _, .slice _ _ _, .string _, .string _, .bool _, .slice _ _ _, .slice _ _ _, .bool _]) ty41 rfl rfl rfl rfl rfl rfl rfl rfl (W.nil (WD.n9 Le.rfl ((sn9.cons _).k9) (WD.tk 19 rfl (ok_nilP rfl) (WD.tk 20 rfl (ok_fieldB fd130_4 rfl) (WD.a1 21 rfl (W.store (i := 1) (vs := [.bool _]) (L' := [.int .i64 _, .int .i64 _, .slice _ _ _, .slice _ _ _, .string _, .bool _, .int .i64 _, .int .i64 _, .slice _ _ _, .slice _ _ _, .string _, .string _, .bool _, .slice _ _ _, .slice _ _ _, .bool _]) ty4 rfl rfl rfl rfl rfl rfl rfl rfl (W.nil (WD.n9 Le.rfl ((sn9.cons _).k9) (WD.done (by kernel_rfl) (thn_n (WC.seq (WC.region ?_)))))))))))))))))
    refine W.mv (W.ok (ok_nilP rfl) (W.ok (ok_fieldB fd130_3 rfl) (W.ok (ok_loadB (i := 1) (vs := [.slice _ _ _]) ty41 rfl rfl rfl rfl (by simp)) (W.as (W.nil (thn_n (WC.ret ?_)))))))
    refine ⟨.inr rfl, [_], ⟨rfl, trivial⟩, ((b_c, .cells (List.toArray [.slice sa_v ids.length sc_v, .int .i64 a9, .int .i64 i9]) 124 (0, 0)) :: (((ids[i]'(by omega)), .cells (List.toArray [.int .i64 (xs[i]'hi).n.slot, .int .i64 (xs[i]'hi).n.level, .slice pa_n ((xs[i]'hi).n.pivots).length pc_n, .slice ka_n ((xs[i]'hi).n.kids).length kc_n, .string (xs[i]'hi).n.high.b, .bool (xs[i]'hi).n.top, .int .i64 (xs[i]'hi).n.right, .int .i64 (xs[i]'hi).n.seen, .slice ma_n ((xs[i]'hi).n.msgs).length mc_n, .slice ra_n ((xs[i]'hi).n.rows).length rc_n, .string ((xs[i]'hi).s).lo.b, .string ((xs[i]'hi).s).hi.b, .bool ((xs[i]'hi).s).opn, .slice sa_m (xs[i]'hi).ms.length sc_m, .slice sa_hv25 (viewS (xs[i]'hi)).length sc_hv25, .bool true]) 130 (0, 0)) :: (R0 ++ []))), sr9.k9.k9, ?_⟩
    obtain ⟨css9, e91, e92, e93⟩ := hbk _ _ hG24 (⟨_, _, _, true, rfl, ⟨_, _, _, _, _, _, _, _, rfl, (hp_n.mono hG24), (hk_n.mono hG24), (hm_n.mono hG24), (hr_n.mono hG24), hok_n⟩, (hM.mono hG24), SlR.cast (hv25) (if_pos rfl).symm⟩)
    exact ⟨hv25, _, rfl, ids, css9, (hsl.mono hG24), hil, e92, by rw [List.append_nil]; exact e93⟩
   refine W.ok (ok_loadB (i := 1) (vs := [.slice _ _ _]) ty45 rfl rfl rfl rfl (by simp)) (W.nil (WD.n9 Le.rfl ((sn9.cons _).k9) (WD.a1 6 rfl (W.ok (ok_loadB (i := 1) (vs := [.slice _ _ _]) ty41 rfl rfl rfl rfl (by simp)) (W.nil (WD.n9 Le.rfl ((sn9.cons _).k9) (WD.a1 15 rfl (W.call (Mp := []) (mview_fc hr_n (xs[i]'hi).s.lo (xs[i]'hi).s.hi (xs[i]'hi).s.opn hM hF.rows (by have := hF.rlen; have := hF.mlen; omega) (fun m hm => msgR_key (hF.mR m hm)) (by have := hF.ss.1; omega)) rfl pr9 ?_))))))))
   intro _ G31 _ hG31 q33
   refine match q33 with | ⟨e_34, _, e_35, hv32⟩ => ?_
   subst e_34
   subst e_35
   have q37 := hv32.form
   refine match q37 with | ⟨sa_hv32, sc_hv32, e_36⟩ => ?_
   subst e_36
   refine W.nil (WD.n9 hG31 ((sn9.cons _).k9) (WD.tk 16 rfl (ok_nilP rfl) (WD.tk 17 rfl (ok_fieldB fd130_3 rfl) (WD.a1 18 rfl (W.store (i := 1) (vs := [.slice _ _ _]) (L' := [.int .i64 _, .int .i64 _, .slice _ _ _, .slice _ _ _, .string _, .bool _, .int .i64 _, .int .i64 _, .slice _ _ _, .slice _ _ _, .string _, .string _, .bool _, .slice _ _ _, .slice _ _ _, .bool _]) ty41 rfl rfl rfl rfl rfl rfl rfl rfl (W.nil (WD.n9 Le.rfl ((sn9.cons _).k9) (WD.tk 19 rfl (ok_nilP rfl) (WD.tk 20 rfl (ok_fieldB fd130_4 rfl) (WD.a1 21 rfl (W.store (i := 1) (vs := [.bool _]) (L' := [.int .i64 _, .int .i64 _, .slice _ _ _, .slice _ _ _, .string _, .bool _, .int .i64 _, .int .i64 _, .slice _ _ _, .slice _ _ _, .string _, .string _, .bool _, .slice _ _ _, .slice _ _ _, .bool _]) ty4 rfl rfl rfl rfl rfl rfl rfl rfl (W.nil (WD.n9 Le.rfl ((sn9.cons _).k9) (WD.done (by kernel_rfl) (thn_n (WC.seq (WC.region ?_)))))))))))))))))
   refine W.mv (W.ok (ok_nilP rfl) (W.ok (ok_fieldB fd130_3 rfl) (W.ok (ok_loadB (i := 1) (vs := [.slice _ _ _]) ty41 rfl rfl rfl rfl (by simp)) (W.as (W.nil (thn_n (WC.ret ?_)))))))
   refine ⟨.inr rfl, [_], ⟨rfl, trivial⟩, ((b_c, .cells (List.toArray [.slice sa_v ids.length sc_v, .int .i64 a9, .int .i64 i9]) 124 (0, 0)) :: (((ids[i]'(by omega)), .cells (List.toArray [.int .i64 (xs[i]'hi).n.slot, .int .i64 (xs[i]'hi).n.level, .slice pa_n ((xs[i]'hi).n.pivots).length pc_n, .slice ka_n ((xs[i]'hi).n.kids).length kc_n, .string (xs[i]'hi).n.high.b, .bool (xs[i]'hi).n.top, .int .i64 (xs[i]'hi).n.right, .int .i64 (xs[i]'hi).n.seen, .slice ma_n ((xs[i]'hi).n.msgs).length mc_n, .slice ra_n ((xs[i]'hi).n.rows).length rc_n, .string ((xs[i]'hi).s).lo.b, .string ((xs[i]'hi).s).hi.b, .bool ((xs[i]'hi).s).opn, .slice sa_m (xs[i]'hi).ms.length sc_m, .slice sa_hv32 (viewS (xs[i]'hi)).length sc_hv32, .bool true]) 130 (0, 0)) :: (R0 ++ []))), sr9.k9.k9, ?_⟩
   obtain ⟨css9, e91, e92, e93⟩ := hbk _ _ hG31 (⟨_, _, _, true, rfl, ⟨_, _, _, _, _, _, _, _, rfl, (hp_n.mono hG31), (hk_n.mono hG31), (hm_n.mono hG31), (hr_n.mono hG31), hok_n⟩, (hM.mono hG31), SlR.cast (hv32) (if_pos rfl).symm⟩)
   exact ⟨hv32, _, rfl, ids, css9, (hsl.mono hG31), hil, e92, by rw [List.append_nil]; exact e93⟩
  refine W.ok (ok_loadB (i := 1) (vs := [.slice _ _ _]) ty45 rfl rfl rfl rfl (by simp)) (W.nil (WD.n9 Le.rfl ((sn9.cons _).k9) ?_))
  refine WD.any [6, 10] (by kernel_rfl) rfl ⟨⟨_, rfl, rfl, ?_⟩, ⟨_, rfl, rfl, ?_⟩, trivial⟩
  ·refine W.ok (ok_loadB (i := 1) (vs := [.slice _ _ _]) ty41 rfl rfl rfl rfl (by simp)) (W.nil (WD.n9 Le.rfl ((sn9.cons _).k9) (WD.a1 10 rfl (W.ok (ok_loadB (i := 1) (vs := [.string _, .string _, .bool _]) ty52 rfl rfl rfl rfl (by simp)) (W.nil (WD.n9 Le.rfl ((sn9.cons _).k9) (WD.a1 15 rfl (W.call (Mp := []) (mview_fc hr_n (xs[i]'hi).s.lo (xs[i]'hi).s.hi (xs[i]'hi).s.opn hM hF.rows (by have := hF.rlen; have := hF.mlen; omega) (fun m hm => msgR_key (hF.mR m hm)) (by have := hF.ss.1; omega)) rfl pr9 ?_))))))))
   intro _ G38 _ hG38 q40
   refine match q40 with | ⟨e_41, _, e_42, hv39⟩ => ?_
   subst e_41
   subst e_42
   have q44 := hv39.form
   refine match q44 with | ⟨sa_hv39, sc_hv39, e_43⟩ => ?_
   subst e_43
   refine W.nil (WD.n9 hG38 ((sn9.cons _).k9) (WD.tk 16 rfl (ok_nilP rfl) (WD.tk 17 rfl (ok_fieldB fd130_3 rfl) (WD.a1 18 rfl (W.store (i := 1) (vs := [.slice _ _ _]) (L' := [.int .i64 _, .int .i64 _, .slice _ _ _, .slice _ _ _, .string _, .bool _, .int .i64 _, .int .i64 _, .slice _ _ _, .slice _ _ _, .string _, .string _, .bool _, .slice _ _ _, .slice _ _ _, .bool _]) ty41 rfl rfl rfl rfl rfl rfl rfl rfl (W.nil (WD.n9 Le.rfl ((sn9.cons _).k9) (WD.tk 19 rfl (ok_nilP rfl) (WD.tk 20 rfl (ok_fieldB fd130_4 rfl) (WD.a1 21 rfl (W.store (i := 1) (vs := [.bool _]) (L' := [.int .i64 _, .int .i64 _, .slice _ _ _, .slice _ _ _, .string _, .bool _, .int .i64 _, .int .i64 _, .slice _ _ _, .slice _ _ _, .string _, .string _, .bool _, .slice _ _ _, .slice _ _ _, .bool _]) ty4 rfl rfl rfl rfl rfl rfl rfl rfl (W.nil (WD.n9 Le.rfl ((sn9.cons _).k9) (WD.done (by kernel_rfl) (thn_n (WC.seq (WC.region ?_)))))))))))))))))
   refine W.mv (W.ok (ok_nilP rfl) (W.ok (ok_fieldB fd130_3 rfl) (W.ok (ok_loadB (i := 1) (vs := [.slice _ _ _]) ty41 rfl rfl rfl rfl (by simp)) (W.as (W.nil (thn_n (WC.ret ?_)))))))
   refine ⟨.inr rfl, [_], ⟨rfl, trivial⟩, ((b_c, .cells (List.toArray [.slice sa_v ids.length sc_v, .int .i64 a9, .int .i64 i9]) 124 (0, 0)) :: (((ids[i]'(by omega)), .cells (List.toArray [.int .i64 (xs[i]'hi).n.slot, .int .i64 (xs[i]'hi).n.level, .slice pa_n ((xs[i]'hi).n.pivots).length pc_n, .slice ka_n ((xs[i]'hi).n.kids).length kc_n, .string (xs[i]'hi).n.high.b, .bool (xs[i]'hi).n.top, .int .i64 (xs[i]'hi).n.right, .int .i64 (xs[i]'hi).n.seen, .slice ma_n ((xs[i]'hi).n.msgs).length mc_n, .slice ra_n ((xs[i]'hi).n.rows).length rc_n, .string ((xs[i]'hi).s).lo.b, .string ((xs[i]'hi).s).hi.b, .bool ((xs[i]'hi).s).opn, .slice sa_m (xs[i]'hi).ms.length sc_m, .slice sa_hv39 (viewS (xs[i]'hi)).length sc_hv39, .bool true]) 130 (0, 0)) :: (R0 ++ []))), sr9.k9.k9, ?_⟩
   obtain ⟨css9, e91, e92, e93⟩ := hbk _ _ hG38 (⟨_, _, _, true, rfl, ⟨_, _, _, _, _, _, _, _, rfl, (hp_n.mono hG38), (hk_n.mono hG38), (hm_n.mono hG38), (hr_n.mono hG38), hok_n⟩, (hM.mono hG38), SlR.cast (hv39) (if_pos rfl).symm⟩)
   exact ⟨hv39, _, rfl, ids, css9, (hsl.mono hG38), hil, e92, by rw [List.append_nil]; exact e93⟩
  refine W.ok (ok_loadB (i := 1) (vs := [.string _, .string _, .bool _]) ty52 rfl rfl rfl rfl (by simp)) (W.nil (WD.n9 Le.rfl ((sn9.cons _).k9) (WD.a1 6 rfl (W.ok (ok_loadB (i := 1) (vs := [.slice _ _ _]) ty41 rfl rfl rfl rfl (by simp)) (W.nil (WD.n9 Le.rfl ((sn9.cons _).k9) (WD.a1 15 rfl (W.call (Mp := []) (mview_fc hr_n (xs[i]'hi).s.lo (xs[i]'hi).s.hi (xs[i]'hi).s.opn hM hF.rows (by have := hF.rlen; have := hF.mlen; omega) (fun m hm => msgR_key (hF.mR m hm)) (by have := hF.ss.1; omega)) rfl pr9 ?_))))))))
  intro _ G45 _ hG45 q47
  refine match q47 with | ⟨e_48, _, e_49, hv46⟩ => ?_
  subst e_48
  subst e_49
  have q51 := hv46.form
  refine match q51 with | ⟨sa_hv46, sc_hv46, e_50⟩ => ?_
  subst e_50
  refine W.nil (WD.n9 hG45 ((sn9.cons _).k9) (WD.tk 16 rfl (ok_nilP rfl) (WD.tk 17 rfl (ok_fieldB fd130_3 rfl) (WD.a1 18 rfl (W.store (i := 1) (vs := [.slice _ _ _]) (L' := [.int .i64 _, .int .i64 _, .slice _ _ _, .slice _ _ _, .string _, .bool _, .int .i64 _, .int .i64 _, .slice _ _ _, .slice _ _ _, .string _, .string _, .bool _, .slice _ _ _, .slice _ _ _, .bool _]) ty41 rfl rfl rfl rfl rfl rfl rfl rfl (W.nil (WD.n9 Le.rfl ((sn9.cons _).k9) (WD.tk 19 rfl (ok_nilP rfl) (WD.tk 20 rfl (ok_fieldB fd130_4 rfl) (WD.a1 21 rfl (W.store (i := 1) (vs := [.bool _]) (L' := [.int .i64 _, .int .i64 _, .slice _ _ _, .slice _ _ _, .string _, .bool _, .int .i64 _, .int .i64 _, .slice _ _ _, .slice _ _ _, .string _, .string _, .bool _, .slice _ _ _, .slice _ _ _, .bool _]) ty4 rfl rfl rfl rfl rfl rfl rfl rfl (W.nil (WD.n9 Le.rfl ((sn9.cons _).k9) (WD.done (by kernel_rfl) (thn_n (WC.seq (WC.region ?_)))))))))))))))))
  refine W.mv (W.ok (ok_nilP rfl) (W.ok (ok_fieldB fd130_3 rfl) (W.ok (ok_loadB (i := 1) (vs := [.slice _ _ _]) ty41 rfl rfl rfl rfl (by simp)) (W.as (W.nil (thn_n (WC.ret ?_)))))))
  refine ⟨.inr rfl, [_], ⟨rfl, trivial⟩, ((b_c, .cells (List.toArray [.slice sa_v ids.length sc_v, .int .i64 a9, .int .i64 i9]) 124 (0, 0)) :: (((ids[i]'(by omega)), .cells (List.toArray [.int .i64 (xs[i]'hi).n.slot, .int .i64 (xs[i]'hi).n.level, .slice pa_n ((xs[i]'hi).n.pivots).length pc_n, .slice ka_n ((xs[i]'hi).n.kids).length kc_n, .string (xs[i]'hi).n.high.b, .bool (xs[i]'hi).n.top, .int .i64 (xs[i]'hi).n.right, .int .i64 (xs[i]'hi).n.seen, .slice ma_n ((xs[i]'hi).n.msgs).length mc_n, .slice ra_n ((xs[i]'hi).n.rows).length rc_n, .string ((xs[i]'hi).s).lo.b, .string ((xs[i]'hi).s).hi.b, .bool ((xs[i]'hi).s).opn, .slice sa_m (xs[i]'hi).ms.length sc_m, .slice sa_hv46 (viewS (xs[i]'hi)).length sc_hv46, .bool true]) 130 (0, 0)) :: (R0 ++ []))), sr9.k9.k9, ?_⟩
  obtain ⟨css9, e91, e92, e93⟩ := hbk _ _ hG45 (⟨_, _, _, true, rfl, ⟨_, _, _, _, _, _, _, _, rfl, (hp_n.mono hG45), (hk_n.mono hG45), (hm_n.mono hG45), (hr_n.mono hG45), hok_n⟩, (hM.mono hG45), SlR.cast (hv46) (if_pos rfl).symm⟩)
  exact ⟨hv46, _, rfl, ids, css9, (hsl.mono hG45), hil, e92, by rw [List.append_nil]; exact e93⟩
 have hkn : kn = true := by simpa using h17
 refine WC.skip (thn_n (WC.seq (WC.region (W.mv (W.ok (ok_nilP rfl) (W.ok (ok_fieldB fd130_3 rfl) (W.ok (ok_loadB (i := 1) (vs := [.slice _ _ _]) ty41 rfl rfl rfl rfl (by simp)) (W.as (W.nil (thn_n (WC.ret ?_)))))))))))
 refine ⟨.inr rfl, [_], ⟨rfl, trivial⟩, ((b_c, .cells (List.toArray [.slice sa_v ids.length sc_v, .int .i64 a9, .int .i64 i9]) 124 (0, 0)) :: (((ids[i]'(by omega)), .cells (List.toArray [.int .i64 (xs[i]'hi).n.slot, .int .i64 (xs[i]'hi).n.level, .slice pa_n ((xs[i]'hi).n.pivots).length pc_n, .slice ka_n ((xs[i]'hi).n.kids).length kc_n, .string (xs[i]'hi).n.high.b, .bool (xs[i]'hi).n.top, .int .i64 (xs[i]'hi).n.right, .int .i64 (xs[i]'hi).n.seen, .slice ma_n ((xs[i]'hi).n.msgs).length mc_n, .slice ra_n ((xs[i]'hi).n.rows).length rc_n, .string ((xs[i]'hi).s).lo.b, .string ((xs[i]'hi).s).hi.b, .bool ((xs[i]'hi).s).opn, .slice sa_m (xs[i]'hi).ms.length sc_m, .slice sa_r (if kn = true then viewS (xs[i]'hi) else []).length sc_r, .bool kn]) 130 (0, 0)) :: (R0 ++ []))), sr9.k9.k9, ?_⟩
 obtain ⟨css9, e91, e92, e93⟩ := hbk _ _ Le.rfl (⟨_, _, _, kn, rfl, ⟨_, _, _, _, _, _, _, _, rfl, hp_n, hk_n, hm_n, hr_n, hok_n⟩, hM, hV⟩)
 exact ⟨SlR.cast hV (if_pos hkn), _, rfl, ids, css9, hsl, hil, e92, by rw [List.append_nil]; exact e93⟩

end Go.Proofs.YtebkfinhhpelbaaGreat
