/- Walks of what a cycle does with a kid. -/
import Derived.Test.YtmbafmifalppaaaGreatQcVp
set_option maxRecDepth 100000
set_option maxHeartbeats 1600000
set_option linter.unusedVariables false
set_option linter.unusedSimpArgs false
set_option linter.unnecessarySimpa false
namespace Go.Proofs.YtmbafmifalppaaaGreat
open Go Go.Fw Go.RowKit
theorem fdecide_fc {G : GH} (cf : Int) (cl : Int) (cb : Int) (cs : Int) (cr : Int) {cs_p : List Value} {p : Nd} (h_p : NodeC G cs_p p) {cs_k : List Value} {k : Nd} (h_k : NodeC G cs_k k) (i : Int) (hq : PourPre cb p k) (hi : i64 i) (hko : KidOf p k i) (hms : MsgsR p.msgs) (hkl : p.kids.length = p.pivots.length + 1) :
    Fc Tryz.prog 34 [.agg #[.int .i64 cf, .int .i64 cl, .int .i64 cb, .int .i64 cs, .int .i64 cr], .agg (List.toArray cs_p), .agg (List.toArray cs_k), .int .i64 i] G [] (fun v _ _ => v = .int .i64 (decideN (⟨cf, cl, cb, cs, cr⟩ : Cfg) p k i)) := by
 obtain ⟨pa_p, pc_p, ka_p, kc_p, ma_p, mc_p, ra_p, rc_p, rfl, hp_p, hk_p, hm_p, hr_p, hok_p⟩ := h_p
 obtain ⟨pa_k, pc_k, ka_k, kc_k, ma_k, mc_k, ra_k, rc_k, rfl, hp_k, hk_k, hm_k, hr_k, hok_k⟩ := h_k
 refine Fc.intro (rs := [.tmp 8]) cl34 Tryz.func34 rfl Tryz.ntmps34 rfl rfl (fun w0 => ?_)
 refine WC.seq (WC.region (W.box (L := [.int .i64 _, .int .i64 _, .int .i64 _, .int .i64 _, .int .i64 _]) rfl rfl (fun b1 => (W.box (L := (nd9 _ _ _ _ _ _ _ _ _ _ _ _ _ _ _ _ _ _)) rfl rfl (fun b2 => (W.box (L := (nd9 _ _ _ _ _ _ _ _ _ _ _ _ _ _ _ _ _ _)) rfl rfl (fun b3 => (W.as (W.nil (thn_n (WC.seq (WC.region (W.as (W.nil (thn_n (WC.seq (WC.seq (WC.region ?_))))))))))))))))))
 refine W.ok (ok_loadB (i := 2) (vs := [.int .i64 _, .int .i64 _, .int .i64 _, .int .i64 _, .int .i64 _]) ty23 rfl rfl rfl rfl (by simp)) (W.ok (ok_loadB (i := 1) (vs := (nd9 _ _ _ _ _ _ _ _ _ _ _ _ _ _ _ _ _ _)) ty43 rfl rfl rfl rfl (by simp)) (W.qcall (nfull_fc cf cl cb cs cr (n := p) ⟨_, _, _, _, _, _, _, _, rfl, hp_p, hk_p, hm_p, hr_p, hok_p⟩) rfl (W.nil (thn_n ?_))))
 refine WC.cond (b := _) rfl (fun h12 => ?_) (fun h12 => ?_)
 ·refine WC.region (W.as (W.nil (thn_n (WC.seq (WC.block (WC.seq (WC.region (W.ok (ok_fieldB fd43_1 rfl) (W.ok (ok_loadB (i := 0) (vs := [.int .i64 _]) ty3 rfl rfl rfl rfl (by simp)) (W.ok (ok_gtr rfl rfl) (W.mv ?_)))))))))))
  refine W.sp 17 rfl (fun h16 => ?_) (fun h16 => ?_)
  ·have p16 := of_decide_eq_true h16
   refine W.yes (dj := 17) rfl rfl h16 (W.ok (ok_loadB (i := 2) (vs := [.int .i64 _, .int .i64 _, .int .i64 _, .int .i64 _, .int .i64 _]) ty23 rfl rfl rfl rfl (by simp)) (W.yes (dj := 17) rfl rfl h16 (W.ok (ok_loadB (i := 0) (vs := (nd9 _ _ _ _ _ _ _ _ _ _ _ _ _ _ _ _ _ _)) ty43 rfl rfl rfl rfl (by simp)) (W.yes (dj := 17) rfl rfl h16 (W.qcall (nfull_fc cf cl cb cs cr (n := k) ⟨_, _, _, _, _, _, _, _, rfl, hp_k, hk_k, hm_k, hr_k, hok_k⟩) rfl (W.ok (ok_pick_t rfl h16) (W.as (W.nil (thn_n ?_)))))))))
   refine WC.cond (b := _) rfl (fun h20 => ?_) (fun h20 => ?_)
   ·refine WC.seq (WC.region (W.mv (W.as (W.nil (thn_n (WC.ret (blk_r (thn_r ?_))))))))
    refine ⟨.inr rfl, [_], ⟨rfl, trivial⟩, [], sn9, ?_⟩
    refine congrArg (Value.int .i64) ?_
    rw [dec_full (c := (⟨cf, cl, cb, cs, cr⟩ : Cfg)) (by omega) h20]
    rw [if_pos h12]
   refine WC.seq (WC.region (W.ok (ok_loadB (i := 2) (vs := [.int .i64 _, .int .i64 _, .int .i64 _, .int .i64 _, .int .i64 _]) ty23 rfl rfl rfl rfl (by simp)) (W.ok (ok_loadB (i := 1) (vs := (nd9 _ _ _ _ _ _ _ _ _ _ _ _ _ _ _ _ _ _)) ty43 rfl rfl rfl rfl (by simp)) (W.ok (ok_loadB (i := 0) (vs := (nd9 _ _ _ _ _ _ _ _ _ _ _ _ _ _ _ _ _ _)) ty43 rfl rfl rfl rfl (by simp)) (W.mv (W.qcall (pcount_fc cf cl cb cs cr (p := p) (k := k) ⟨_, _, _, _, _, _, _, _, rfl, hp_p, hk_p, hm_p, hr_p, hok_p⟩ ⟨_, _, _, _, _, _, _, _, rfl, hp_k, hk_k, hm_k, hr_k, hok_k⟩ i hq.hb hq.hr hq.hpv hq.hpm hq.hkm hq.hkr hi hq.hsz) rfl (W.ok (ok_gtr rfl rfl) (W.as (W.nil (thn_n ?_))))))))))
   refine WC.cond (b := _) rfl (fun h29 => ?_) (fun h29 => ?_)
   ·have p29 := of_decide_eq_true h29
    refine WC.seq (WC.region (W.as (W.nil (thn_n (WC.ret (blk_r (thn_r ?_)))))))
    refine ⟨.inr rfl, [_], ⟨rfl, trivial⟩, [], sn9, ?_⟩
    refine congrArg (Value.int .i64) ?_
    exact (dec_pour (c := (⟨cf, cl, cb, cs, cr⟩ : Cfg)) (fun h => by rw [h20] at h; exact absurd h.2 (by simp)) (show 0 < countN cl cb p k i by omega)).symm
   have p29 := of_decide_eq_false h29
   refine WC.seq (WC.region (W.ok (ok_fieldB fd43_1 rfl) (W.ok (ok_loadB (i := 0) (vs := [.int .i64 _]) ty3 rfl rfl rfl rfl (by simp)) (W.ok (ok_gtr rfl rfl) (W.as (W.nil (thn_n ?_)))))))
   refine WC.cond (b := _) rfl (fun h33 => ?_) (fun h33 => ?_)
   ·have p33 := of_decide_eq_true h33
    refine WC.seq (WC.region (W.as (W.nil (thn_n (WC.ret (blk_r (thn_r ?_)))))))
    refine ⟨.inr rfl, [_], ⟨rfl, trivial⟩, [], sn9, ?_⟩
    refine congrArg (Value.int .i64) ?_
    exact (dec_down (c := (⟨cf, cl, cb, cs, cr⟩ : Cfg)) (fun h => by rw [h20] at h; exact absurd h.2 (by simp)) (show ¬ 0 < countN cl cb p k i by omega) (by omega)).symm
   have p33 := of_decide_eq_false h33
   refine WC.seq (WC.region (W.ok (ok_loadB (i := 2) (vs := [.int .i64 _, .int .i64 _, .int .i64 _, .int .i64 _, .int .i64 _]) ty23 rfl rfl rfl rfl (by simp)) (W.ok (ok_loadB (i := 1) (vs := (nd9 _ _ _ _ _ _ _ _ _ _ _ _ _ _ _ _ _ _)) ty43 rfl rfl rfl rfl (by simp)) (W.ok (ok_loadB (i := 0) (vs := (nd9 _ _ _ _ _ _ _ _ _ _ _ _ _ _ _ _ _ _)) ty43 rfl rfl rfl rfl (by simp)) (W.mv (W.qcall (needs_fc cf cl cb cs cr (p := p) (k := k) ⟨_, _, _, _, _, _, _, _, rfl, hp_p, hk_p, hm_p, hr_p, hok_p⟩ ⟨_, _, _, _, _, _, _, _, rfl, hp_k, hk_k, hm_k, hr_k, hok_k⟩ i hq.hb hq.hr hq.hpv hq.hpm hq.hkm hq.hkr hi hq.hsz) rfl (W.as (W.nil (thn_n ?_)))))))))
   refine WC.cond (b := _) rfl (fun h39 => ?_) (fun h39 => ?_)
   ·have hwt : 0 < (forN p.pivots p.msgs i).length := (of_decide_eq_true h39).2.1
    refine WC.seq (WC.region (W.mv (W.as (W.nil (thn_n (WC.ret (blk_r (thn_r ?_))))))))
    refine ⟨.inr rfl, [_], ⟨rfl, trivial⟩, [], sn9, ?_⟩
    refine congrArg (Value.int .i64) ?_
    rw [dec_need (c := (⟨cf, cl, cb, cs, cr⟩ : Cfg)) (show ¬ 0 < countN cl cb p k i by omega) (by omega) hwt]
    rw [if_pos h12]
   have hwt : ¬ 0 < (forN p.pivots p.msgs i).length := fun hh => of_decide_eq_false h39 ⟨hko, hh, by omega⟩
   refine WC.skip (blk_n (thn_n (WC.seq (WC.region (W.as (W.nil (thn_n (WC.ret ?_))))))))
   refine ⟨.inr rfl, [_], ⟨rfl, trivial⟩, [], sn9, ?_⟩
   refine congrArg (Value.int .i64) ?_
   exact (dec_end (c := (⟨cf, cl, cb, cs, cr⟩ : Cfg)) (show ¬ 0 < countN cl cb p k i by omega) (by omega) hwt).symm
  have p16 := of_decide_eq_false h16
  refine W.no (dj := 17) rfl rfl h16 (W.no (dj := 17) rfl rfl h16 (W.no (dj := 17) rfl rfl h16 (W.ok (ok_pick_f rfl h16) (W.as (W.nil (thn_n (WC.cond_f rfl rfl (WC.seq (WC.region (W.ok (ok_loadB (i := 2) (vs := [.int .i64 _, .int .i64 _, .int .i64 _, .int .i64 _, .int .i64 _]) ty23 rfl rfl rfl rfl (by simp)) (W.ok (ok_loadB (i := 1) (vs := (nd9 _ _ _ _ _ _ _ _ _ _ _ _ _ _ _ _ _ _)) ty43 rfl rfl rfl rfl (by simp)) (W.ok (ok_loadB (i := 0) (vs := (nd9 _ _ _ _ _ _ _ _ _ _ _ _ _ _ _ _ _ _)) ty43 rfl rfl rfl rfl (by simp)) (W.mv (W.qcall (pcount_fc cf cl cb cs cr (p := p) (k := k) ⟨_, _, _, _, _, _, _, _, rfl, hp_p, hk_p, hm_p, hr_p, hok_p⟩ ⟨_, _, _, _, _, _, _, _, rfl, hp_k, hk_k, hm_k, hr_k, hok_k⟩ i hq.hb hq.hr hq.hpv hq.hpm hq.hkm hq.hkr hi hq.hsz) rfl ?_))))))))))))))
  refine W.ok (ok_gtr rfl rfl) (W.as (W.nil (thn_n ?_)))
  refine WC.cond (b := _) rfl (fun h29 => ?_) (fun h29 => ?_)
  ·have p29 := of_decide_eq_true h29
   refine WC.seq (WC.region (W.as (W.nil (thn_n (WC.ret (blk_r (thn_r ?_)))))))
   refine ⟨.inr rfl, [_], ⟨rfl, trivial⟩, [], sn9, ?_⟩
   refine congrArg (Value.int .i64) ?_
   exact (dec_pour (c := (⟨cf, cl, cb, cs, cr⟩ : Cfg)) (fun h => by omega) (show 0 < countN cl cb p k i by omega)).symm
  have p29 := of_decide_eq_false h29
  refine WC.seq (WC.region (W.ok (ok_fieldB fd43_1 rfl) (W.ok (ok_loadB (i := 0) (vs := [.int .i64 _]) ty3 rfl rfl rfl rfl (by simp)) (W.ok (ok_gtr rfl rfl) (W.as (W.nil (thn_n ?_)))))))
  refine WC.cond (b := _) rfl (fun h33 => ?_) (fun h33 => ?_)
  ·have p33 := of_decide_eq_true h33
   refine WC.seq (WC.region (W.as (W.nil (thn_n (WC.ret (blk_r (thn_r ?_)))))))
   refine ⟨.inr rfl, [_], ⟨rfl, trivial⟩, [], sn9, ?_⟩
   refine congrArg (Value.int .i64) ?_
   exact (dec_down (c := (⟨cf, cl, cb, cs, cr⟩ : Cfg)) (fun h => by omega) (show ¬ 0 < countN cl cb p k i by omega) (by omega)).symm
  have p33 := of_decide_eq_false h33
  refine WC.seq (WC.region (W.ok (ok_loadB (i := 2) (vs := [.int .i64 _, .int .i64 _, .int .i64 _, .int .i64 _, .int .i64 _]) ty23 rfl rfl rfl rfl (by simp)) (W.ok (ok_loadB (i := 1) (vs := (nd9 _ _ _ _ _ _ _ _ _ _ _ _ _ _ _ _ _ _)) ty43 rfl rfl rfl rfl (by simp)) (W.ok (ok_loadB (i := 0) (vs := (nd9 _ _ _ _ _ _ _ _ _ _ _ _ _ _ _ _ _ _)) ty43 rfl rfl rfl rfl (by simp)) (W.mv (W.qcall (needs_fc cf cl cb cs cr (p := p) (k := k) ⟨_, _, _, _, _, _, _, _, rfl, hp_p, hk_p, hm_p, hr_p, hok_p⟩ ⟨_, _, _, _, _, _, _, _, rfl, hp_k, hk_k, hm_k, hr_k, hok_k⟩ i hq.hb hq.hr hq.hpv hq.hpm hq.hkm hq.hkr hi hq.hsz) rfl (W.as (W.nil (thn_n ?_)))))))))
  refine WC.cond (b := _) rfl (fun h39 => ?_) (fun h39 => ?_)
  ·have hwt : 0 < (forN p.pivots p.msgs i).length := (of_decide_eq_true h39).2.1
   refine WC.seq (WC.region (W.mv (W.as (W.nil (thn_n (WC.ret (blk_r (thn_r ?_))))))))
   refine ⟨.inr rfl, [_], ⟨rfl, trivial⟩, [], sn9, ?_⟩
   refine congrArg (Value.int .i64) ?_
   rw [dec_need (c := (⟨cf, cl, cb, cs, cr⟩ : Cfg)) (show ¬ 0 < countN cl cb p k i by omega) (by omega) hwt]
   rw [if_pos h12]
  have hwt : ¬ 0 < (forN p.pivots p.msgs i).length := fun hh => of_decide_eq_false h39 ⟨hko, hh, by omega⟩
  refine WC.skip (blk_n (thn_n (WC.seq (WC.region (W.as (W.nil (thn_n (WC.ret ?_))))))))
  refine ⟨.inr rfl, [_], ⟨rfl, trivial⟩, [], sn9, ?_⟩
  refine congrArg (Value.int .i64) ?_
  exact (dec_end (c := (⟨cf, cl, cb, cs, cr⟩ : Cfg)) (show ¬ 0 < countN cl cb p k i by omega) (by omega) hwt).symm
 refine WC.skip (thn_n (WC.seq (WC.block (WC.seq (WC.region (W.ok (ok_fieldB fd43_1 rfl) (W.ok (ok_loadB (i := 0) (vs := [.int .i64 _]) ty3 rfl rfl rfl rfl (by simp)) (W.ok (ok_gtr rfl rfl) (W.mv ?_)))))))))
 refine W.sp 17 rfl (fun h16 => ?_) (fun h16 => ?_)
 ·have p16 := of_decide_eq_true h16
  refine W.yes (dj := 17) rfl rfl h16 (W.ok (ok_loadB (i := 2) (vs := [.int .i64 _, .int .i64 _, .int .i64 _, .int .i64 _, .int .i64 _]) ty23 rfl rfl rfl rfl (by simp)) (W.yes (dj := 17) rfl rfl h16 (W.ok (ok_loadB (i := 0) (vs := (nd9 _ _ _ _ _ _ _ _ _ _ _ _ _ _ _ _ _ _)) ty43 rfl rfl rfl rfl (by simp)) (W.yes (dj := 17) rfl rfl h16 (W.qcall (nfull_fc cf cl cb cs cr (n := k) ⟨_, _, _, _, _, _, _, _, rfl, hp_k, hk_k, hm_k, hr_k, hok_k⟩) rfl (W.ok (ok_pick_t rfl h16) (W.as (W.nil (thn_n ?_)))))))))
  refine WC.cond (b := _) rfl (fun h20 => ?_) (fun h20 => ?_)
  ·refine WC.seq (WC.region (W.mv (W.as (W.nil (thn_n (WC.ret (blk_r (thn_r ?_))))))))
   refine ⟨.inr rfl, [_], ⟨rfl, trivial⟩, [], sn9, ?_⟩
   refine congrArg (Value.int .i64) ?_
   rw [dec_full (c := (⟨cf, cl, cb, cs, cr⟩ : Cfg)) (by omega) h20]
   rw [if_neg (by rw [h12]; simp)]
  refine WC.seq (WC.region (W.ok (ok_loadB (i := 2) (vs := [.int .i64 _, .int .i64 _, .int .i64 _, .int .i64 _, .int .i64 _]) ty23 rfl rfl rfl rfl (by simp)) (W.ok (ok_loadB (i := 1) (vs := (nd9 _ _ _ _ _ _ _ _ _ _ _ _ _ _ _ _ _ _)) ty43 rfl rfl rfl rfl (by simp)) (W.ok (ok_loadB (i := 0) (vs := (nd9 _ _ _ _ _ _ _ _ _ _ _ _ _ _ _ _ _ _)) ty43 rfl rfl rfl rfl (by simp)) (W.mv (W.qcall (pcount_fc cf cl cb cs cr (p := p) (k := k) ⟨_, _, _, _, _, _, _, _, rfl, hp_p, hk_p, hm_p, hr_p, hok_p⟩ ⟨_, _, _, _, _, _, _, _, rfl, hp_k, hk_k, hm_k, hr_k, hok_k⟩ i hq.hb hq.hr hq.hpv hq.hpm hq.hkm hq.hkr hi hq.hsz) rfl (W.ok (ok_gtr rfl rfl) (W.as (W.nil (thn_n ?_))))))))))
  refine WC.cond (b := _) rfl (fun h29 => ?_) (fun h29 => ?_)
  ·have p29 := of_decide_eq_true h29
   refine WC.seq (WC.region (W.as (W.nil (thn_n (WC.ret (blk_r (thn_r ?_)))))))
   refine ⟨.inr rfl, [_], ⟨rfl, trivial⟩, [], sn9, ?_⟩
   refine congrArg (Value.int .i64) ?_
   exact (dec_pour (c := (⟨cf, cl, cb, cs, cr⟩ : Cfg)) (fun h => by rw [h20] at h; exact absurd h.2 (by simp)) (show 0 < countN cl cb p k i by omega)).symm
  have p29 := of_decide_eq_false h29
  refine WC.seq (WC.region (W.ok (ok_fieldB fd43_1 rfl) (W.ok (ok_loadB (i := 0) (vs := [.int .i64 _]) ty3 rfl rfl rfl rfl (by simp)) (W.ok (ok_gtr rfl rfl) (W.as (W.nil (thn_n ?_)))))))
  refine WC.cond (b := _) rfl (fun h33 => ?_) (fun h33 => ?_)
  ·have p33 := of_decide_eq_true h33
   refine WC.seq (WC.region (W.as (W.nil (thn_n (WC.ret (blk_r (thn_r ?_)))))))
   refine ⟨.inr rfl, [_], ⟨rfl, trivial⟩, [], sn9, ?_⟩
   refine congrArg (Value.int .i64) ?_
   exact (dec_down (c := (⟨cf, cl, cb, cs, cr⟩ : Cfg)) (fun h => by rw [h20] at h; exact absurd h.2 (by simp)) (show ¬ 0 < countN cl cb p k i by omega) (by omega)).symm
  have p33 := of_decide_eq_false h33
  refine WC.seq (WC.region (W.ok (ok_loadB (i := 2) (vs := [.int .i64 _, .int .i64 _, .int .i64 _, .int .i64 _, .int .i64 _]) ty23 rfl rfl rfl rfl (by simp)) (W.ok (ok_loadB (i := 1) (vs := (nd9 _ _ _ _ _ _ _ _ _ _ _ _ _ _ _ _ _ _)) ty43 rfl rfl rfl rfl (by simp)) (W.ok (ok_loadB (i := 0) (vs := (nd9 _ _ _ _ _ _ _ _ _ _ _ _ _ _ _ _ _ _)) ty43 rfl rfl rfl rfl (by simp)) (W.mv (W.qcall (needs_fc cf cl cb cs cr (p := p) (k := k) ⟨_, _, _, _, _, _, _, _, rfl, hp_p, hk_p, hm_p, hr_p, hok_p⟩ ⟨_, _, _, _, _, _, _, _, rfl, hp_k, hk_k, hm_k, hr_k, hok_k⟩ i hq.hb hq.hr hq.hpv hq.hpm hq.hkm hq.hkr hi hq.hsz) rfl (W.as (W.nil (thn_n ?_)))))))))
  refine WC.cond (b := _) rfl (fun h39 => ?_) (fun h39 => ?_)
  ·have hwt : 0 < (forN p.pivots p.msgs i).length := (of_decide_eq_true h39).2.1
   refine WC.seq (WC.region (W.mv (W.as (W.nil (thn_n (WC.ret (blk_r (thn_r ?_))))))))
   refine ⟨.inr rfl, [_], ⟨rfl, trivial⟩, [], sn9, ?_⟩
   refine congrArg (Value.int .i64) ?_
   rw [dec_need (c := (⟨cf, cl, cb, cs, cr⟩ : Cfg)) (show ¬ 0 < countN cl cb p k i by omega) (by omega) hwt]
   rw [if_neg (by rw [h12]; simp)]
  have hwt : ¬ 0 < (forN p.pivots p.msgs i).length := fun hh => of_decide_eq_false h39 ⟨hko, hh, by omega⟩
  refine WC.skip (blk_n (thn_n (WC.seq (WC.region (W.as (W.nil (thn_n (WC.ret ?_))))))))
  refine ⟨.inr rfl, [_], ⟨rfl, trivial⟩, [], sn9, ?_⟩
  refine congrArg (Value.int .i64) ?_
  exact (dec_end (c := (⟨cf, cl, cb, cs, cr⟩ : Cfg)) (show ¬ 0 < countN cl cb p k i by omega) (by omega) hwt).symm
 have p16 := of_decide_eq_false h16
 refine W.no (dj := 17) rfl rfl h16 (W.no (dj := 17) rfl rfl h16 (W.no (dj := 17) rfl rfl h16 (W.ok (ok_pick_f rfl h16) (W.as (W.nil (thn_n (WC.cond_f rfl rfl (WC.seq (WC.region (W.ok (ok_loadB (i := 2) (vs := [.int .i64 _, .int .i64 _, .int .i64 _, .int .i64 _, .int .i64 _]) ty23 rfl rfl rfl rfl (by simp)) (W.ok (ok_loadB (i := 1) (vs := (nd9 _ _ _ _ _ _ _ _ _ _ _ _ _ _ _ _ _ _)) ty43 rfl rfl rfl rfl (by simp)) (W.ok (ok_loadB (i := 0) (vs := (nd9 _ _ _ _ _ _ _ _ _ _ _ _ _ _ _ _ _ _)) ty43 rfl rfl rfl rfl (by simp)) (W.mv (W.qcall (pcount_fc cf cl cb cs cr (p := p) (k := k) ⟨_, _, _, _, _, _, _, _, rfl, hp_p, hk_p, hm_p, hr_p, hok_p⟩ ⟨_, _, _, _, _, _, _, _, rfl, hp_k, hk_k, hm_k, hr_k, hok_k⟩ i hq.hb hq.hr hq.hpv hq.hpm hq.hkm hq.hkr hi hq.hsz) rfl ?_))))))))))))))
 refine W.ok (ok_gtr rfl rfl) (W.as (W.nil (thn_n ?_)))
 refine WC.cond (b := _) rfl (fun h29 => ?_) (fun h29 => ?_)
 ·have p29 := of_decide_eq_true h29
  refine WC.seq (WC.region (W.as (W.nil (thn_n (WC.ret (blk_r (thn_r ?_)))))))
  refine ⟨.inr rfl, [_], ⟨rfl, trivial⟩, [], sn9, ?_⟩
  refine congrArg (Value.int .i64) ?_
  exact (dec_pour (c := (⟨cf, cl, cb, cs, cr⟩ : Cfg)) (fun h => by omega) (show 0 < countN cl cb p k i by omega)).symm
 have p29 := of_decide_eq_false h29
 refine WC.seq (WC.region (W.ok (ok_fieldB fd43_1 rfl) (W.ok (ok_loadB (i := 0) (vs := [.int .i64 _]) ty3 rfl rfl rfl rfl (by simp)) (W.ok (ok_gtr rfl rfl) (W.as (W.nil (thn_n ?_)))))))
 refine WC.cond (b := _) rfl (fun h33 => ?_) (fun h33 => ?_)
 ·have p33 := of_decide_eq_true h33
  refine WC.seq (WC.region (W.as (W.nil (thn_n (WC.ret (blk_r (thn_r ?_)))))))
  refine ⟨.inr rfl, [_], ⟨rfl, trivial⟩, [], sn9, ?_⟩
  refine congrArg (Value.int .i64) ?_
  exact (dec_down (c := (⟨cf, cl, cb, cs, cr⟩ : Cfg)) (fun h => by omega) (show ¬ 0 < countN cl cb p k i by omega) (by omega)).symm
 have p33 := of_decide_eq_false h33
 refine WC.seq (WC.region (W.ok (ok_loadB (i := 2) (vs := [.int .i64 _, .int .i64 _, .int .i64 _, .int .i64 _, .int .i64 _]) ty23 rfl rfl rfl rfl (by simp)) (W.ok (ok_loadB (i := 1) (vs := (nd9 _ _ _ _ _ _ _ _ _ _ _ _ _ _ _ _ _ _)) ty43 rfl rfl rfl rfl (by simp)) (W.ok (ok_loadB (i := 0) (vs := (nd9 _ _ _ _ _ _ _ _ _ _ _ _ _ _ _ _ _ _)) ty43 rfl rfl rfl rfl (by simp)) (W.mv (W.qcall (needs_fc cf cl cb cs cr (p := p) (k := k) ⟨_, _, _, _, _, _, _, _, rfl, hp_p, hk_p, hm_p, hr_p, hok_p⟩ ⟨_, _, _, _, _, _, _, _, rfl, hp_k, hk_k, hm_k, hr_k, hok_k⟩ i hq.hb hq.hr hq.hpv hq.hpm hq.hkm hq.hkr hi hq.hsz) rfl (W.as (W.nil (thn_n ?_)))))))))
 refine WC.cond (b := _) rfl (fun h39 => ?_) (fun h39 => ?_)
 ·have hwt : 0 < (forN p.pivots p.msgs i).length := (of_decide_eq_true h39).2.1
  refine WC.seq (WC.region (W.mv (W.as (W.nil (thn_n (WC.ret (blk_r (thn_r ?_))))))))
  refine ⟨.inr rfl, [_], ⟨rfl, trivial⟩, [], sn9, ?_⟩
  refine congrArg (Value.int .i64) ?_
  rw [dec_need (c := (⟨cf, cl, cb, cs, cr⟩ : Cfg)) (show ¬ 0 < countN cl cb p k i by omega) (by omega) hwt]
  rw [if_neg (by rw [h12]; simp)]
 have hwt : ¬ 0 < (forN p.pivots p.msgs i).length := fun hh => of_decide_eq_false h39 ⟨hko, hh, by omega⟩
 refine WC.skip (blk_n (thn_n (WC.seq (WC.region (W.as (W.nil (thn_n (WC.ret ?_))))))))
 refine ⟨.inr rfl, [_], ⟨rfl, trivial⟩, [], sn9, ?_⟩
 refine congrArg (Value.int .i64) ?_
 exact (dec_end (c := (⟨cf, cl, cb, cs, cr⟩ : Cfg)) (show ¬ 0 < countN cl cb p k i by omega) (by omega) hwt).symm

theorem rdecide_fc {G : GH} (cf : Int) (cl : Int) (cb : Int) (cs : Int) (cr : Int) {cs_p : List Value} {p : Nd} (h_p : NodeC G cs_p p) {cs_k : List Value} {k : Nd} (h_k : NodeC G cs_k k) (i : Int) (hq : PourPre cb p k) (hi : i64 i) (hko : KidOf p k i) (hms : MsgsR p.msgs) (hkl : p.kids.length = p.pivots.length + 1) :
    Fc Tryz.prog 35 [.agg #[.int .i64 cf, .int .i64 cl, .int .i64 cb, .int .i64 cs, .int .i64 cr], .agg (List.toArray cs_p), .agg (List.toArray cs_k), .int .i64 i] G [] (fun v _ _ => v = .int .i64 (decideN (⟨cf, cl, cb, cs, cr⟩ : Cfg) p k i)) := by
 obtain ⟨pa_p, pc_p, ka_p, kc_p, ma_p, mc_p, ra_p, rc_p, rfl, hp_p, hk_p, hm_p, hr_p, hok_p⟩ := h_p
 obtain ⟨pa_k, pc_k, ka_k, kc_k, ma_k, mc_k, ra_k, rc_k, rfl, hp_k, hk_k, hm_k, hr_k, hok_k⟩ := h_k
 have hpk : ∀ m ∈ p.msgs, m.key.b.size < 140737488355328 := fun m h => by have := (msgR_key (hq.hpm m h)).1; omega
 have hpn := pour_n cl cb p k i
 refine Fc.intro (rs := [.tmp 8]) cl35 Tryz.func35 rfl Tryz.ntmps35 rfl rfl (fun w0 => ?_)
 refine WC.seq (WC.region (W.box (L := [.int .i64 _, .int .i64 _, .int .i64 _, .int .i64 _, .int .i64 _]) rfl rfl (fun b4 => (W.box (L := (nd9 _ _ _ _ _ _ _ _ _ _ _ _ _ _ _ _ _ _)) rfl rfl (fun b5 => (W.box (L := (nd9 _ _ _ _ _ _ _ _ _ _ _ _ _ _ _ _ _ _)) rfl rfl (fun b6 => (W.as (W.nil (thn_n (WC.seq (WC.region (W.ok (ok_loadB (i := 2) (vs := [.int .i64 _, .int .i64 _, .int .i64 _, .int .i64 _, .int .i64 _]) ty23 rfl rfl rfl rfl (by simp)) (W.ok (ok_loadB (i := 1) (vs := (nd9 _ _ _ _ _ _ _ _ _ _ _ _ _ _ _ _ _ _)) ty43 rfl rfl rfl rfl (by simp)) (W.ok (ok_loadB (i := 0) (vs := (nd9 _ _ _ _ _ _ _ _ _ _ _ _ _ _ _ _ _ _)) ty43 rfl rfl rfl rfl (by simp)) (W.mv (W.call (Mp := []) (rpour_fc cf cl cb cs cr (p := p) (k := k) ⟨_, _, _, _, _, _, _, _, rfl, hp_p, hk_p, hm_p, hr_p, hok_p⟩ ⟨_, _, _, _, _, _, _, _, rfl, hp_k, hk_k, hm_k, hr_k, hok_k⟩ i hq.hb hq.hr hq.hpv hq.hpm hq.hkm hq.hkr hi hq.hsz hms hkl) rfl pr9 ?_)))))))))))))))))
 intro _ G7 _ hG7 q10
 refine match q10 with | ⟨e_11, _, e_12, _, _, e_13, hv8, hv9⟩ => ?_
 subst e_11
 subst e_12
 subst e_13
 refine match hv8 with | ⟨pa_hv8, pc_hv8, ka_hv8, kc_hv8, ma_hv8, mc_hv8, ra_hv8, rc_hv8, e_14, hp_hv8, hk_hv8, hm_hv8, hr_hv8, hok_hv8⟩ => ?_
 subst e_14
 refine match hv9 with | ⟨pa_hv9, pc_hv9, ka_hv9, kc_hv9, ma_hv9, mc_hv9, ra_hv9, rc_hv9, e_15, hp_hv9, hk_hv9, hm_hv9, hr_hv9, hok_hv9⟩ => ?_
 subst e_15
 refine W.mv (W.ok (ok_extract rfl rfl) (W.ok (ok_extract rfl rfl) (W.ok (ok_extract rfl rfl) (W.alloc zr43 (fun b16 => (W.alloc zr43 (fun b17 => (W.store (i := 1) (vs := (nd9 _ _ _ _ _ _ _ _ _ _ _ _ _ _ _ _ _ _)) (L' := (nd9 _ _ _ _ _ _ _ _ _ _ _ _ _ _ _ _ _ _)) ty43 rfl rfl rfl rfl rfl rfl rfl rfl (W.store (i := 0) (vs := (nd9 _ _ _ _ _ _ _ _ _ _ _ _ _ _ _ _ _ _)) (L' := (nd9 _ _ _ _ _ _ _ _ _ _ _ _ _ _ _ _ _ _)) ty43 rfl rfl rfl rfl rfl rfl rfl rfl (W.as (W.nil (thn_n (WC.seq (WC.region (W.ok (ok_fieldB fd43_2 rfl) (W.ok (ok_loadB (i := 3) (vs := [.slice _ _ _]) ty38 rfl rfl rfl rfl (by simp)) ?_))))))))))))))))
 refine W.ok (ok_fieldB fd43_8 rfl) (W.ok (ok_loadB (i := 3) (vs := [.slice _ _ _]) ty40 rfl rfl rfl rfl (by simp)) (W.mv (W.call (Mp := []) (rfor_fc (hp_p.mono hG7) (hm_p.mono hG7) i hpk hi) rfl pr9 ?_)))
 intro _ G18 _ hG18 q20
 refine match q20 with | ⟨e_21, _, e_22, hv19⟩ => ?_
 subst e_21
 subst e_22
 have q24 := hv19.form
 refine match q24 with | ⟨sa_hv19, sc_hv19, e_23⟩ => ?_
 subst e_23
 refine W.ok (ok_len sl40 hv19 rfl) (W.ok (ok_gtr rfl rfl) (W.as (W.nil (thn_n (WC.seq (WC.region (W.as (W.nil (thn_n (WC.seq (WC.seq (WC.region (W.ok (ok_loadB (i := 4) (vs := [.int .i64 _, .int .i64 _, .int .i64 _, .int .i64 _, .int .i64 _]) ty23 rfl rfl rfl rfl (by simp)) (W.ok (ok_loadB (i := 3) (vs := (nd9 _ _ _ _ _ _ _ _ _ _ _ _ _ _ _ _ _ _)) ty43 rfl rfl rfl rfl (by simp)) (W.qcall (rfull_fc cf cl cb cs cr (n := p) ⟨_, _, _, _, _, _, _, _, rfl, (hp_p.mono (hG7.trans hG18)), (hk_p.mono (hG7.trans hG18)), (hm_p.mono (hG7.trans hG18)), (hr_p.mono (hG7.trans hG18)), hok_p⟩) rfl ?_)))))))))))))))
 refine W.nil (thn_n ?_)
 refine WC.cond (b := _) rfl (fun h33 => ?_) (fun h33 => ?_)
 ·refine WC.region (W.as (W.nil (thn_n (WC.seq (WC.seq (WC.region (W.ok (ok_fieldB fd43_1 rfl) (W.ok (ok_loadB (i := 2) (vs := [.int .i64 _]) ty3 rfl rfl rfl rfl (by simp)) (W.ok (ok_gtr rfl rfl) (W.mv ?_))))))))))
  refine W.sp 37 rfl (fun h36 => ?_) (fun h36 => ?_)
  ·have p36 := of_decide_eq_true h36
   refine W.yes (dj := 37) rfl rfl h36 (W.ok (ok_loadB (i := 4) (vs := [.int .i64 _, .int .i64 _, .int .i64 _, .int .i64 _, .int .i64 _]) ty23 rfl rfl rfl rfl (by simp)) (W.yes (dj := 37) rfl rfl h36 (W.ok (ok_loadB (i := 2) (vs := (nd9 _ _ _ _ _ _ _ _ _ _ _ _ _ _ _ _ _ _)) ty43 rfl rfl rfl rfl (by simp)) (W.yes (dj := 37) rfl rfl h36 (W.qcall (rfull_fc cf cl cb cs cr (n := k) ⟨_, _, _, _, _, _, _, _, rfl, (hp_k.mono (hG7.trans hG18)), (hk_k.mono (hG7.trans hG18)), (hm_k.mono (hG7.trans hG18)), (hr_k.mono (hG7.trans hG18)), hok_k⟩) rfl (W.ok (ok_pick_t rfl h36) (W.nil (thn_n ?_))))))))
   refine WC.cond (b := _) rfl (fun h40 => ?_) (fun h40 => ?_)
   ·refine WC.seq (WC.region (W.mv (W.as (W.nil (thn_n (WC.ret (thn_r ?_)))))))
    refine ⟨.inr rfl, [_], ⟨rfl, trivial⟩, [], sn9, ?_⟩
    refine congrArg (Value.int .i64) ?_
    rw [dec_full (c := (⟨cf, cl, cb, cs, cr⟩ : Cfg)) (by omega) h40]
    rw [if_pos h33]
   refine WC.skip (thn_n (WC.seq (WC.seq (WC.region (W.mv (W.ok (ok_gtr rfl rfl) (W.nil (thn_n ?_))))))))
   refine WC.cond (b := _) rfl (fun h44 => ?_) (fun h44 => ?_)
   ·have p44 := of_decide_eq_true h44
    refine WC.seq (WC.region (W.as (W.nil (thn_n (WC.ret (thn_r ?_))))))
    refine ⟨.inr rfl, [_], ⟨rfl, trivial⟩, [], sn9, ?_⟩
    refine congrArg (Value.int .i64) ?_
    exact (dec_pour (c := (⟨cf, cl, cb, cs, cr⟩ : Cfg)) (fun h => by rw [h40] at h; exact absurd h.2 (by simp)) (show 0 < countN cl cb p k i by omega)).symm
   have p44 := of_decide_eq_false h44
   refine WC.skip (thn_n (WC.seq (WC.seq (WC.region (W.ok (ok_fieldB fd43_1 rfl) (W.ok (ok_loadB (i := 2) (vs := [.int .i64 _]) ty3 rfl rfl rfl rfl (by simp)) (W.ok (ok_gtr rfl rfl) (W.nil (thn_n ?_)))))))))
   refine WC.cond (b := _) rfl (fun h47 => ?_) (fun h47 => ?_)
   ·have p47 := of_decide_eq_true h47
    refine WC.seq (WC.region (W.as (W.nil (thn_n (WC.ret (thn_r ?_))))))
    refine ⟨.inr rfl, [_], ⟨rfl, trivial⟩, [], sn9, ?_⟩
    refine congrArg (Value.int .i64) ?_
    exact (dec_down (c := (⟨cf, cl, cb, cs, cr⟩ : Cfg)) (fun h => by rw [h40] at h; exact absurd h.2 (by simp)) (show ¬ 0 < countN cl cb p k i by omega) (by omega)).symm
   have p47 := of_decide_eq_false h47
   refine WC.skip (thn_n (WC.seq (WC.seq (WC.region (W.mv (W.nil (thn_n ?_)))))))
   refine WC.cond (b := _) rfl (fun h30 => ?_) (fun h30 => ?_)
   ·have p30 := of_decide_eq_true h30
    have hwt : 0 < (forN p.pivots p.msgs i).length := by omega
    refine WC.seq (WC.region (W.mv (W.as (W.nil (thn_n (WC.ret (thn_r ?_)))))))
    refine ⟨.inr rfl, [_], ⟨rfl, trivial⟩, [], sn9, ?_⟩
    refine congrArg (Value.int .i64) ?_
    rw [dec_need (c := (⟨cf, cl, cb, cs, cr⟩ : Cfg)) (show ¬ 0 < countN cl cb p k i by omega) (by omega) hwt]
    rw [if_pos h33]
   have p30 := of_decide_eq_false h30
   have hwt : ¬ 0 < (forN p.pivots p.msgs i).length := by omega
   refine WC.skip (thn_n (WC.seq (WC.region (W.as (W.nil (thn_n (WC.ret ?_)))))))
   refine ⟨.inr rfl, [_], ⟨rfl, trivial⟩, [], sn9, ?_⟩
   refine congrArg (Value.int .i64) ?_
   exact (dec_end (c := (⟨cf, cl, cb, cs, cr⟩ : Cfg)) (show ¬ 0 < countN cl cb p k i by omega) (by omega) hwt).symm
  have p36 := of_decide_eq_false h36
  refine W.no (dj := 37) rfl rfl h36 (W.no (dj := 37) rfl rfl h36 (W.no (dj := 37) rfl rfl h36 (W.ok (ok_pick_f rfl h36) (W.nil (thn_n (WC.cond_f rfl rfl (WC.skip (thn_n (WC.seq (WC.seq (WC.region (W.mv (W.ok (ok_gtr rfl rfl) (W.nil (thn_n ?_)))))))))))))))
  refine WC.cond (b := _) rfl (fun h44 => ?_) (fun h44 => ?_)
  ·have p44 := of_decide_eq_true h44
   refine WC.seq (WC.region (W.as (W.nil (thn_n (WC.ret (thn_r ?_))))))
   refine ⟨.inr rfl, [_], ⟨rfl, trivial⟩, [], sn9, ?_⟩
   refine congrArg (Value.int .i64) ?_
   exact (dec_pour (c := (⟨cf, cl, cb, cs, cr⟩ : Cfg)) (fun h => by omega) (show 0 < countN cl cb p k i by omega)).symm
  have p44 := of_decide_eq_false h44
  refine WC.skip (thn_n (WC.seq (WC.seq (WC.region (W.ok (ok_fieldB fd43_1 rfl) (W.ok (ok_loadB (i := 2) (vs := [.int .i64 _]) ty3 rfl rfl rfl rfl (by simp)) (W.ok (ok_gtr rfl rfl) (W.nil (thn_n ?_)))))))))
  refine WC.cond (b := _) rfl (fun h47 => ?_) (fun h47 => ?_)
  ·have p47 := of_decide_eq_true h47
   refine WC.seq (WC.region (W.as (W.nil (thn_n (WC.ret (thn_r ?_))))))
   refine ⟨.inr rfl, [_], ⟨rfl, trivial⟩, [], sn9, ?_⟩
   refine congrArg (Value.int .i64) ?_
   exact (dec_down (c := (⟨cf, cl, cb, cs, cr⟩ : Cfg)) (fun h => by omega) (show ¬ 0 < countN cl cb p k i by omega) (by omega)).symm
  have p47 := of_decide_eq_false h47
  refine WC.skip (thn_n (WC.seq (WC.seq (WC.region (W.mv (W.nil (thn_n ?_)))))))
  refine WC.cond (b := _) rfl (fun h30 => ?_) (fun h30 => ?_)
  ·have p30 := of_decide_eq_true h30
   have hwt : 0 < (forN p.pivots p.msgs i).length := by omega
   refine WC.seq (WC.region (W.mv (W.as (W.nil (thn_n (WC.ret (thn_r ?_)))))))
   refine ⟨.inr rfl, [_], ⟨rfl, trivial⟩, [], sn9, ?_⟩
   refine congrArg (Value.int .i64) ?_
   rw [dec_need (c := (⟨cf, cl, cb, cs, cr⟩ : Cfg)) (show ¬ 0 < countN cl cb p k i by omega) (by omega) hwt]
   rw [if_pos h33]
  have p30 := of_decide_eq_false h30
  have hwt : ¬ 0 < (forN p.pivots p.msgs i).length := by omega
  refine WC.skip (thn_n (WC.seq (WC.region (W.as (W.nil (thn_n (WC.ret ?_)))))))
  refine ⟨.inr rfl, [_], ⟨rfl, trivial⟩, [], sn9, ?_⟩
  refine congrArg (Value.int .i64) ?_
  exact (dec_end (c := (⟨cf, cl, cb, cs, cr⟩ : Cfg)) (show ¬ 0 < countN cl cb p k i by omega) (by omega) hwt).symm
 refine WC.skip (thn_n (WC.seq (WC.seq (WC.region (W.ok (ok_fieldB fd43_1 rfl) (W.ok (ok_loadB (i := 2) (vs := [.int .i64 _]) ty3 rfl rfl rfl rfl (by simp)) (W.ok (ok_gtr rfl rfl) (W.mv ?_))))))))
 refine W.sp 37 rfl (fun h36 => ?_) (fun h36 => ?_)
 ·have p36 := of_decide_eq_true h36
  refine W.yes (dj := 37) rfl rfl h36 (W.ok (ok_loadB (i := 4) (vs := [.int .i64 _, .int .i64 _, .int .i64 _, .int .i64 _, .int .i64 _]) ty23 rfl rfl rfl rfl (by simp)) (W.yes (dj := 37) rfl rfl h36 (W.ok (ok_loadB (i := 2) (vs := (nd9 _ _ _ _ _ _ _ _ _ _ _ _ _ _ _ _ _ _)) ty43 rfl rfl rfl rfl (by simp)) (W.yes (dj := 37) rfl rfl h36 (W.qcall (rfull_fc cf cl cb cs cr (n := k) ⟨_, _, _, _, _, _, _, _, rfl, (hp_k.mono (hG7.trans hG18)), (hk_k.mono (hG7.trans hG18)), (hm_k.mono (hG7.trans hG18)), (hr_k.mono (hG7.trans hG18)), hok_k⟩) rfl (W.ok (ok_pick_t rfl h36) (W.nil (thn_n ?_))))))))
  refine WC.cond (b := _) rfl (fun h40 => ?_) (fun h40 => ?_)
  ·refine WC.seq (WC.region (W.mv (W.as (W.nil (thn_n (WC.ret (thn_r ?_)))))))
   refine ⟨.inr rfl, [_], ⟨rfl, trivial⟩, [], sn9, ?_⟩
   refine congrArg (Value.int .i64) ?_
   rw [dec_full (c := (⟨cf, cl, cb, cs, cr⟩ : Cfg)) (by omega) h40]
   rw [if_neg (by rw [h33]; simp)]
  refine WC.skip (thn_n (WC.seq (WC.seq (WC.region (W.mv (W.ok (ok_gtr rfl rfl) (W.nil (thn_n ?_))))))))
  refine WC.cond (b := _) rfl (fun h44 => ?_) (fun h44 => ?_)
  ·have p44 := of_decide_eq_true h44
   refine WC.seq (WC.region (W.as (W.nil (thn_n (WC.ret (thn_r ?_))))))
   refine ⟨.inr rfl, [_], ⟨rfl, trivial⟩, [], sn9, ?_⟩
   refine congrArg (Value.int .i64) ?_
   exact (dec_pour (c := (⟨cf, cl, cb, cs, cr⟩ : Cfg)) (fun h => by rw [h40] at h; exact absurd h.2 (by simp)) (show 0 < countN cl cb p k i by omega)).symm
  have p44 := of_decide_eq_false h44
  refine WC.skip (thn_n (WC.seq (WC.seq (WC.region (W.ok (ok_fieldB fd43_1 rfl) (W.ok (ok_loadB (i := 2) (vs := [.int .i64 _]) ty3 rfl rfl rfl rfl (by simp)) (W.ok (ok_gtr rfl rfl) (W.nil (thn_n ?_)))))))))
  refine WC.cond (b := _) rfl (fun h47 => ?_) (fun h47 => ?_)
  ·have p47 := of_decide_eq_true h47
   refine WC.seq (WC.region (W.as (W.nil (thn_n (WC.ret (thn_r ?_))))))
   refine ⟨.inr rfl, [_], ⟨rfl, trivial⟩, [], sn9, ?_⟩
   refine congrArg (Value.int .i64) ?_
   exact (dec_down (c := (⟨cf, cl, cb, cs, cr⟩ : Cfg)) (fun h => by rw [h40] at h; exact absurd h.2 (by simp)) (show ¬ 0 < countN cl cb p k i by omega) (by omega)).symm
  have p47 := of_decide_eq_false h47
  refine WC.skip (thn_n (WC.seq (WC.seq (WC.region (W.mv (W.nil (thn_n ?_)))))))
  refine WC.cond (b := _) rfl (fun h30 => ?_) (fun h30 => ?_)
  ·have p30 := of_decide_eq_true h30
   have hwt : 0 < (forN p.pivots p.msgs i).length := by omega
   refine WC.seq (WC.region (W.mv (W.as (W.nil (thn_n (WC.ret (thn_r ?_)))))))
   refine ⟨.inr rfl, [_], ⟨rfl, trivial⟩, [], sn9, ?_⟩
   refine congrArg (Value.int .i64) ?_
   rw [dec_need (c := (⟨cf, cl, cb, cs, cr⟩ : Cfg)) (show ¬ 0 < countN cl cb p k i by omega) (by omega) hwt]
   rw [if_neg (by rw [h33]; simp)]
  have p30 := of_decide_eq_false h30
  have hwt : ¬ 0 < (forN p.pivots p.msgs i).length := by omega
  refine WC.skip (thn_n (WC.seq (WC.region (W.as (W.nil (thn_n (WC.ret ?_)))))))
  refine ⟨.inr rfl, [_], ⟨rfl, trivial⟩, [], sn9, ?_⟩
  refine congrArg (Value.int .i64) ?_
  exact (dec_end (c := (⟨cf, cl, cb, cs, cr⟩ : Cfg)) (show ¬ 0 < countN cl cb p k i by omega) (by omega) hwt).symm
 have p36 := of_decide_eq_false h36
 refine W.no (dj := 37) rfl rfl h36 (W.no (dj := 37) rfl rfl h36 (W.no (dj := 37) rfl rfl h36 (W.ok (ok_pick_f rfl h36) (W.nil (thn_n (WC.cond_f rfl rfl (WC.skip (thn_n (WC.seq (WC.seq (WC.region (W.mv (W.ok (ok_gtr rfl rfl) (W.nil (thn_n ?_)))))))))))))))
 refine WC.cond (b := _) rfl (fun h44 => ?_) (fun h44 => ?_)
 ·have p44 := of_decide_eq_true h44
  refine WC.seq (WC.region (W.as (W.nil (thn_n (WC.ret (thn_r ?_))))))
  refine ⟨.inr rfl, [_], ⟨rfl, trivial⟩, [], sn9, ?_⟩
  refine congrArg (Value.int .i64) ?_
  exact (dec_pour (c := (⟨cf, cl, cb, cs, cr⟩ : Cfg)) (fun h => by omega) (show 0 < countN cl cb p k i by omega)).symm
 have p44 := of_decide_eq_false h44
 refine WC.skip (thn_n (WC.seq (WC.seq (WC.region (W.ok (ok_fieldB fd43_1 rfl) (W.ok (ok_loadB (i := 2) (vs := [.int .i64 _]) ty3 rfl rfl rfl rfl (by simp)) (W.ok (ok_gtr rfl rfl) (W.nil (thn_n ?_)))))))))
 refine WC.cond (b := _) rfl (fun h47 => ?_) (fun h47 => ?_)
 ·have p47 := of_decide_eq_true h47
  refine WC.seq (WC.region (W.as (W.nil (thn_n (WC.ret (thn_r ?_))))))
  refine ⟨.inr rfl, [_], ⟨rfl, trivial⟩, [], sn9, ?_⟩
  refine congrArg (Value.int .i64) ?_
  exact (dec_down (c := (⟨cf, cl, cb, cs, cr⟩ : Cfg)) (fun h => by omega) (show ¬ 0 < countN cl cb p k i by omega) (by omega)).symm
 have p47 := of_decide_eq_false h47
 refine WC.skip (thn_n (WC.seq (WC.seq (WC.region (W.mv (W.nil (thn_n ?_)))))))
 refine WC.cond (b := _) rfl (fun h30 => ?_) (fun h30 => ?_)
 ·have p30 := of_decide_eq_true h30
  have hwt : 0 < (forN p.pivots p.msgs i).length := by omega
  refine WC.seq (WC.region (W.mv (W.as (W.nil (thn_n (WC.ret (thn_r ?_)))))))
  refine ⟨.inr rfl, [_], ⟨rfl, trivial⟩, [], sn9, ?_⟩
  refine congrArg (Value.int .i64) ?_
  rw [dec_need (c := (⟨cf, cl, cb, cs, cr⟩ : Cfg)) (show ¬ 0 < countN cl cb p k i by omega) (by omega) hwt]
  rw [if_neg (by rw [h33]; simp)]
 have p30 := of_decide_eq_false h30
 have hwt : ¬ 0 < (forN p.pivots p.msgs i).length := by omega
 refine WC.skip (thn_n (WC.seq (WC.region (W.as (W.nil (thn_n (WC.ret ?_)))))))
 refine ⟨.inr rfl, [_], ⟨rfl, trivial⟩, [], sn9, ?_⟩
 refine congrArg (Value.int .i64) ?_
 exact (dec_end (c := (⟨cf, cl, cb, cs, cr⟩ : Cfg)) (show ¬ 0 < countN cl cb p k i by omega) (by omega) hwt).symm

end Go.Proofs.YtmbafmifalppaaaGreat
