/- Walks of functions that tell whether a node may be. -/
import Derived.Test.YtmbafmifalppaaaGreatQcWf
import Derived.Test.YtmbafmifalppaaaGreatQcNm
set_option maxRecDepth 100000
set_option maxHeartbeats 1600000
set_option linter.unusedVariables false
set_option linter.unusedSimpArgs false
set_option linter.unnecessarySimpa false
namespace Go.Proofs.YtmbafmifalppaaaGreat
open Go Go.Fw Go.RowKit
theorem nhas_fc {G : GH} {cs_a : List Value} {a : Nd} (h_a : NodeC G cs_a a) (k : Str) :
    Fc Tryz.prog 114 [.agg (List.toArray cs_a), .string k.b] G [] (fun v _ _ => v = .bool (a.top || k.lt a.high)) := by
 obtain ⟨pa_a, pc_a, ka_a, kc_a, ma_a, mc_a, ra_a, rc_a, rfl, hp_a, hk_a, hm_a, hr_a, hok_a⟩ := h_a
 refine Fc.intro (rs := [.tmp 4]) cl114 Tryz.func114 rfl Tryz.ntmps114 rfl rfl (fun w0 => ?_)
 refine WC.seq (WC.region (W.box (L := (nd9 _ _ _ _ _ _ _ _ _ _ _ _ _ _ _ _ _ _)) rfl rfl (fun b1 => (W.as (W.nil (thn_n (WC.seq (WC.region (W.ok (ok_fieldB fd43_5 rfl) (W.ok (ok_loadB (i := 0) (vs := [.bool _]) ty4 rfl rfl rfl rfl (by simp)) (W.mv ?_)))))))))))
 refine W.sp 7 rfl (fun hb_top_a => ?_) (fun hb_top_a => ?_)
 ·refine W.no (dj := 7) rfl rfl hb_top_a (W.no (dj := 7) rfl rfl hb_top_a (W.no (dj := 7) rfl rfl hb_top_a (W.no (dj := 7) rfl rfl hb_top_a (W.ok (ok_pick_t rfl hb_top_a) (W.as (W.nil (thn_n (WC.ret ?_))))))))
  refine ⟨.inr rfl, [_], ⟨rfl, trivial⟩, [], sn9, ?_⟩
  refine congrArg Value.bool ?_
  simp_all
 refine W.yes (dj := 7) rfl rfl hb_top_a (W.mv (W.yes (dj := 7) rfl rfl hb_top_a (W.ok (ok_fieldB fd43_4 rfl) (W.yes (dj := 7) rfl rfl hb_top_a (W.ok (ok_loadB (i := 0) (vs := [.string _]) ty9 rfl rfl rfl rfl (by simp)) (W.yes (dj := 7) rfl rfl hb_top_a (W.qcall (less_fc _ _) rfl (W.ok (ok_pick_f rfl hb_top_a) (W.as (W.nil (thn_n (WC.ret ?_))))))))))))
 refine ⟨.inr rfl, [_], ⟨rfl, trivial⟩, [], sn9, ?_⟩
 refine congrArg Value.bool ?_
 simp_all

theorem nleaf_fc {G : GH} (cf : Int) (cl : Int) (cb : Int) (cs : Int) (cr : Int) {cs_n : List Value} {n : Nd} (h_n : NodeC G cs_n n) :
    Fc Tryz.prog 70 [.agg #[.int .i64 cf, .int .i64 cl, .int .i64 cb, .int .i64 cs, .int .i64 cr], .agg (List.toArray cs_n)] G [] (fun v _ _ => v = .bool (decide (n.leafR cl))) := by
 obtain ⟨pa_n, pc_n, ka_n, kc_n, ma_n, mc_n, ra_n, rc_n, rfl, hp_n, hk_n, hm_n, hr_n, hok_n⟩ := h_n
 have h1 := hp_n.len47
 have h2 := hk_n.len47
 have h3 := hm_n.len47
 have h4 := hr_n.len47
 refine Fc.intro (rs := [.tmp 4]) cl70 Tryz.func70 rfl Tryz.ntmps70 rfl rfl (fun w0 => ?_)
 refine WC.seq (WC.region (W.box (L := [.int .i64 _, .int .i64 _, .int .i64 _, .int .i64 _, .int .i64 _]) rfl rfl (fun b2 => (W.box (L := (nd9 _ _ _ _ _ _ _ _ _ _ _ _ _ _ _ _ _ _)) rfl rfl (fun b3 => (W.as (W.nil (thn_n (WC.seq (WC.seq (WC.region (W.ok (ok_fieldB fd43_2 rfl) (W.ok (ok_loadB (i := 0) (vs := [.slice _ _ _]) ty38 rfl rfl rfl rfl (by simp)) (W.ok (ok_len sl38 hp_n rfl) (W.ok (ok_fieldB fd43_3 rfl) (W.ok (ok_loadB (i := 0) (vs := [.slice _ _ _]) ty39 rfl rfl rfl rfl (by simp)) ?_))))))))))))))))
 refine W.ok (ok_len sl39 hk_n rfl) (W.ok (ok_add rfl rfl (by omega)) (W.ok (ok_fieldB fd43_8 rfl) (W.ok (ok_loadB (i := 0) (vs := [.slice _ _ _]) ty40 rfl rfl rfl rfl (by simp)) (W.ok (ok_len sl40 hm_n rfl) (W.ok (ok_add rfl rfl (by omega)) (W.ok (ok_gtr rfl rfl) (W.mv ?_)))))))
 refine W.sp 18 rfl (fun h17 => ?_) (fun h17 => ?_)
 ·have p17 := of_decide_eq_true h17
  refine W.no (dj := 18) rfl rfl h17 (W.no (dj := 18) rfl rfl h17 (W.no (dj := 18) rfl rfl h17 (W.no (dj := 18) rfl rfl h17 (W.no (dj := 18) rfl rfl h17 (W.no (dj := 18) rfl rfl h17 (W.ok (ok_pick_t rfl h17) (W.mv (W.no (dj := 26) rfl rfl rfl (W.no (dj := 26) rfl rfl rfl (W.no (dj := 26) rfl rfl rfl (W.no (dj := 26) rfl rfl rfl (W.ok (ok_pick_t rfl rfl) (W.nil (thn_n ?_))))))))))))))
  refine WC.cond_t rfl rfl (WC.seq (WC.region (W.as (W.nil (thn_n (WC.ret (thn_r ?_)))))))
  refine ⟨.inr rfl, [_], ⟨rfl, trivial⟩, [], sn9, ?_⟩
  refine congrArg Value.bool ?_
  exact (decide_eq_false fun h => by obtain ⟨q1, q2, q3, q4⟩ := h; omega).symm
 have p17 := of_decide_eq_false h17
 refine W.yes (dj := 18) rfl rfl h17 (W.ok (ok_fieldB fd43_9 rfl) (W.yes (dj := 18) rfl rfl h17 (W.ok (ok_loadB (i := 0) (vs := [.slice _ _ _]) ty41 rfl rfl rfl rfl (by simp)) (W.yes (dj := 18) rfl rfl h17 (W.ok (ok_len sl41 hr_n rfl) (W.yes (dj := 18) rfl rfl h17 (W.ok (ok_fieldB fd23_1 rfl) (W.yes (dj := 18) rfl rfl h17 (W.ok (ok_loadB (i := 1) (vs := [.int .i64 _]) ty3 rfl rfl rfl rfl (by simp)) (W.yes (dj := 18) rfl rfl h17 (W.ok (ok_gtr rfl rfl) (W.ok (ok_pick_f rfl h17) (W.mv ?_)))))))))))))
 refine W.sp 26 rfl (fun h24 => ?_) (fun h24 => ?_)
 ·have p24 := of_decide_eq_true h24
  refine W.no (dj := 26) rfl rfl h24 (W.no (dj := 26) rfl rfl h24 (W.no (dj := 26) rfl rfl h24 (W.no (dj := 26) rfl rfl h24 (W.ok (ok_pick_t rfl h24) (W.nil (thn_n (WC.cond_t rfl rfl (WC.seq (WC.region (W.as (W.nil (thn_n (WC.ret (thn_r ?_))))))))))))))
  refine ⟨.inr rfl, [_], ⟨rfl, trivial⟩, [], sn9, ?_⟩
  refine congrArg Value.bool ?_
  exact (decide_eq_false fun h => by obtain ⟨q1, q2, q3, q4⟩ := h; omega).symm
 have p24 := of_decide_eq_false h24
 refine W.yes (dj := 26) rfl rfl h24 (W.ok (ok_fieldB fd43_9 rfl) (W.yes (dj := 26) rfl rfl h24 (W.ok (ok_loadB (i := 0) (vs := [.slice _ _ _]) ty41 rfl rfl rfl rfl (by simp)) (W.yes (dj := 26) rfl rfl h24 (W.qcall (rightp_fc hr_n) rfl (W.yes (dj := 26) rfl rfl h24 (W.ok (ok_not rfl) (W.ok (ok_pick_f rfl h24) (W.nil (thn_n ?_))))))))))
 refine WC.cond (b := _) rfl (fun h30 => ?_) (fun h30 => ?_)
 ·refine WC.seq (WC.region (W.as (W.nil (thn_n (WC.ret (thn_r ?_))))))
  refine ⟨.inr rfl, [_], ⟨rfl, trivial⟩, [], sn9, ?_⟩
  refine congrArg Value.bool ?_
  exact (decide_eq_false fun h => by obtain ⟨q1, q2, q3, q4⟩ := h; simp [q3] at h30).symm
 refine WC.skip (thn_n (WC.seq (WC.seq (WC.region (W.as (W.nil (thn_n (WC.block ?_))))))))
 refine WC.loop (X := Nat) (fun k => [(5, .int .i64 ((k : Nat) : Int)), (2, .pointer (some ⟨b2, 0, none⟩)), (3, .pointer (some ⟨b3, 0, none⟩))]) (fun k _ Ml => Ml = [(b3, .cells (List.toArray [.int .i64 n.slot, .int .i64 n.level, .slice pa_n n.pivots.length pc_n, .slice ka_n n.kids.length kc_n, .string n.high.b, .bool n.top, .int .i64 n.right, .int .i64 n.seen, .slice ma_n n.msgs.length mc_n, .slice ra_n n.rows.length rc_n]) 43 (0, 0)), (b2, .cells (List.toArray [.int .i64 cf, .int .i64 cl, .int .i64 cb, .int .i64 cs, .int .i64 cr]) 23 (0, 0))] ∧ ∀ i (h : i < n.rows.length), i < k → n.has n.rows[i].key = true) (fun k => n.rows.length - k) 0 ⟨eqv, eqv, eqv, trivial⟩ ?_ ?_
 ·exact ⟨rfl, fun i _ h => by omega⟩
 rintro k gG4 G4 _ hG4 ⟨rfl, hk⟩
 refine WC.seq (WC.seq (WC.region (W.mv (W.ok (ok_fieldB fd43_9 rfl) (W.ok (ok_loadB (i := 0) (vs := [.slice _ _ _]) ty41 rfl rfl rfl rfl (by simp)) (W.ok (ok_len sl41 (hr_n.mono hG4) rfl) (W.ok (ok_lss rfl rfl) (W.nil (thn_n ?_)))))))))
 refine WC.cond (b := _) rfl (fun h36 => ?_) (fun h36 => ?_)
 ·have p36 := of_decide_eq_true h36
  refine WC.skip (thn_n (WC.seq (WC.block (WC.seq (WC.draw mix (by kernel_rfl) (W.ok (ok_loadB (i := 0) (vs := (nd9 _ _ _ _ _ _ _ _ _ _ _ _ _ _ _ _ _ _)) ty43 rfl rfl rfl rfl (by simp)) (W.ok (ok_fieldB fd43_9 rfl) (W.ok (ok_loadB (i := 0) (vs := [.slice _ _ _]) ty41 rfl rfl rfl rfl (by simp)) (W.mv ?_)))))))))
  have q7 := (hr_n.mono hG4).at (i := k) (by omega)
  refine match q7 with | ⟨_, he5, e_6⟩ => ?_
  subst e_6
  refine W.ok (ok_indexAddr (i := k) sl41 ty120 (hr_n.mono hG4) rfl rfl ⟨by omega, by omega⟩) (W.ok (ok_fieldE fd120_0 rfl he5.form) (W.ok (ok_loadE (vs := [.string _]) ty9 he5 rfl rfl rfl (by simp)) (W.qcall (nhas_fc ⟨_, _, _, _, _, _, _, _, rfl, (hp_n.mono hG4), (hk_n.mono hG4), (hm_n.mono hG4), (hr_n.mono hG4), hok_n⟩ _) rfl (W.ok (ok_not rfl) (W.nil (thn_n ?_))))))
  refine WC.cond (b := _) rfl (fun h47 => ?_) (fun h47 => ?_)
  ·refine WC.seq (WC.region (W.as (W.nil (thn_n (WC.ret (blk_r (thn_r (thn_r (blk_r (thn_r ?_))))))))))
   refine ⟨.inr rfl, [_], ⟨rfl, trivial⟩, [], sn9, ?_⟩
   refine congrArg Value.bool ?_
   exact (decide_eq_false fun h => by obtain ⟨q1, q2, q3, q4⟩ := h; have := q4 k (by omega); simp_all [Nd.has]).symm
  refine WC.skip (blk_n (thn_n (WC.region (W.mv (W.ok (ok_add rfl rfl (by omega)) (W.as (W.nil (thn_n ?_))))))))
  exact ⟨Le.rfl, k + 1, ⟨eqv, eqv, eqv, trivial⟩, ⟨rfl, fun i h hi => by
      by_cases e : i = k
      · subst e; have h1 := h47; show (n.top || _) = true; cases ht : n.top <;> simp_all
      · exact hk i h (by omega)⟩, by omega⟩
 have p36 := of_decide_eq_false h36
 refine WC.exit (thn_x (thn_x (blk_h (thn_n (WC.seq (WC.region (W.as (W.nil (thn_n (WC.ret ?_))))))))))
 refine ⟨.inr rfl, [_], ⟨rfl, trivial⟩, [], sn9, ?_⟩
 refine congrArg Value.bool ?_
 exact (decide_eq_true ⟨by omega, by omega, by simpa using h30, fun i h => hk i h (by omega)⟩).symm

theorem ninner_fc {G : GH} (cf : Int) (cl : Int) (cb : Int) (cs : Int) (cr : Int) {cs_n : List Value} {n : Nd} (h_n : NodeC G cs_n n) :
    Fc Tryz.prog 71 [.agg #[.int .i64 cf, .int .i64 cl, .int .i64 cb, .int .i64 cs, .int .i64 cr], .agg (List.toArray cs_n)] G [] (fun v _ _ => v = .bool (decide (n.innerR cf cb))) := by
 obtain ⟨pa_n, pc_n, ka_n, kc_n, ma_n, mc_n, ra_n, rc_n, rfl, hp_n, hk_n, hm_n, hr_n, hok_n⟩ := h_n
 have h1 := hp_n.len47
 have h2 := hk_n.len47
 have h3 := hm_n.len47
 have h4 := hr_n.len47
 refine Fc.intro (rs := [.tmp 4]) cl71 Tryz.func71 rfl Tryz.ntmps71 rfl rfl (fun w0 => ?_)
 refine WC.seq (WC.region (W.box (L := [.int .i64 _, .int .i64 _, .int .i64 _, .int .i64 _, .int .i64 _]) rfl rfl (fun b8 => (W.box (L := (nd9 _ _ _ _ _ _ _ _ _ _ _ _ _ _ _ _ _ _)) rfl rfl (fun b9 => (W.as (W.nil (thn_n (WC.seq (WC.seq (WC.draw mix (by kernel_rfl) (W.ok (ok_fieldB fd43_9 rfl) (W.ok (ok_loadB (i := 0) (vs := [.slice _ _ _]) ty41 rfl rfl rfl rfl (by simp)) (W.ok (ok_len sl41 hr_n rfl) (W.ok (ok_gtr rfl rfl) (W.mv ?_))))))))))))))))
 refine W.sp 13 rfl (fun h12 => ?_) (fun h12 => ?_)
 ·have p12 := of_decide_eq_true h12
  refine W.no (dj := 13) rfl rfl h12 (W.no (dj := 13) rfl rfl h12 (W.no (dj := 13) rfl rfl h12 (W.no (dj := 13) rfl rfl h12 (W.ok (ok_pick_t rfl h12) (W.mv (W.no (dj := 19) rfl rfl rfl (W.no (dj := 19) rfl rfl rfl (W.no (dj := 19) rfl rfl rfl (W.no (dj := 19) rfl rfl rfl (W.no (dj := 19) rfl rfl rfl (W.no (dj := 19) rfl rfl rfl (W.ok (ok_pick_t rfl rfl) (W.mv ?_)))))))))))))
  refine W.no (dj := 27) rfl rfl rfl (W.no (dj := 27) rfl rfl rfl (W.no (dj := 27) rfl rfl rfl (W.no (dj := 27) rfl rfl rfl (W.no (dj := 27) rfl rfl rfl (W.no (dj := 27) rfl rfl rfl (W.ok (ok_pick_t rfl rfl) (W.mv (W.no (dj := 35) rfl rfl rfl (W.no (dj := 35) rfl rfl rfl (W.no (dj := 35) rfl rfl rfl (W.no (dj := 35) rfl rfl rfl (W.ok (ok_pick_t rfl rfl) (W.mv ?_)))))))))))))
  refine W.no (dj := 41) rfl rfl rfl (W.no (dj := 41) rfl rfl rfl (W.no (dj := 41) rfl rfl rfl (W.no (dj := 41) rfl rfl rfl (W.no (dj := 41) rfl rfl rfl (W.no (dj := 41) rfl rfl rfl (W.ok (ok_pick_t rfl rfl) (W.nil (thn_n (WC.cond_t rfl rfl (WC.seq (WC.region (W.as (W.nil (thn_n (WC.ret (thn_r ?_))))))))))))))))
  refine ⟨.inr rfl, [_], ⟨rfl, trivial⟩, [], sn9, ?_⟩
  refine congrArg Value.bool ?_
  exact (decide_eq_false fun h => by obtain ⟨⟨q1, q2, q3⟩, q4, q5, q6, q7, q8, q9⟩ := h; omega).symm
 have p12 := of_decide_eq_false h12
 refine W.yes (dj := 13) rfl rfl h12 (W.ok (ok_fieldB fd43_3 rfl) (W.yes (dj := 13) rfl rfl h12 (W.ok (ok_loadB (i := 0) (vs := [.slice _ _ _]) ty39 rfl rfl rfl rfl (by simp)) (W.yes (dj := 13) rfl rfl h12 (W.ok (ok_len sl39 hk_n rfl) (W.yes (dj := 13) rfl rfl h12 (W.ok (ok_lss rfl rfl) (W.ok (ok_pick_f rfl h12) (W.mv ?_)))))))))
 refine W.sp 19 rfl (fun h17 => ?_) (fun h17 => ?_)
 ·have p17 := of_decide_eq_true h17
  refine W.no (dj := 19) rfl rfl h17 (W.no (dj := 19) rfl rfl h17 (W.no (dj := 19) rfl rfl h17 (W.no (dj := 19) rfl rfl h17 (W.no (dj := 19) rfl rfl h17 (W.no (dj := 19) rfl rfl h17 (W.ok (ok_pick_t rfl h17) (W.mv (W.no (dj := 27) rfl rfl rfl (W.no (dj := 27) rfl rfl rfl (W.no (dj := 27) rfl rfl rfl (W.no (dj := 27) rfl rfl rfl (W.no (dj := 27) rfl rfl rfl (W.no (dj := 27) rfl rfl rfl ?_)))))))))))))
  refine W.ok (ok_pick_t rfl rfl) (W.mv (W.no (dj := 35) rfl rfl rfl (W.no (dj := 35) rfl rfl rfl (W.no (dj := 35) rfl rfl rfl (W.no (dj := 35) rfl rfl rfl (W.ok (ok_pick_t rfl rfl) (W.mv (W.no (dj := 41) rfl rfl rfl (W.no (dj := 41) rfl rfl rfl (W.no (dj := 41) rfl rfl rfl (W.no (dj := 41) rfl rfl rfl (W.no (dj := 41) rfl rfl rfl (W.no (dj := 41) rfl rfl rfl ?_)))))))))))))
  refine W.ok (ok_pick_t rfl rfl) (W.nil (thn_n (WC.cond_t rfl rfl (WC.seq (WC.region (W.as (W.nil (thn_n (WC.ret (thn_r ?_))))))))))
  refine ⟨.inr rfl, [_], ⟨rfl, trivial⟩, [], sn9, ?_⟩
  refine congrArg Value.bool ?_
  exact (decide_eq_false fun h => by obtain ⟨⟨q1, q2, q3⟩, q4, q5, q6, q7, q8, q9⟩ := h; omega).symm
 have p17 := of_decide_eq_false h17
 refine W.yes (dj := 19) rfl rfl h17 (W.ok (ok_fieldB fd43_3 rfl) (W.yes (dj := 19) rfl rfl h17 (W.ok (ok_loadB (i := 0) (vs := [.slice _ _ _]) ty39 rfl rfl rfl rfl (by simp)) (W.yes (dj := 19) rfl rfl h17 (W.ok (ok_len sl39 hk_n rfl) (W.yes (dj := 19) rfl rfl h17 (W.ok (ok_fieldB fd23_0 rfl) (W.yes (dj := 19) rfl rfl h17 (W.ok (ok_loadB (i := 1) (vs := [.int .i64 _]) ty3 rfl rfl rfl rfl (by simp)) (W.yes (dj := 19) rfl rfl h17 (W.ok (ok_gtr rfl rfl) (W.ok (ok_pick_f rfl h17) (W.mv ?_)))))))))))))
 refine W.sp 27 rfl (fun h25 => ?_) (fun h25 => ?_)
 ·have p25 := of_decide_eq_true h25
  refine W.no (dj := 27) rfl rfl h25 (W.no (dj := 27) rfl rfl h25 (W.no (dj := 27) rfl rfl h25 (W.no (dj := 27) rfl rfl h25 (W.no (dj := 27) rfl rfl h25 (W.no (dj := 27) rfl rfl h25 (W.ok (ok_pick_t rfl h25) (W.mv (W.no (dj := 35) rfl rfl rfl (W.no (dj := 35) rfl rfl rfl (W.no (dj := 35) rfl rfl rfl (W.no (dj := 35) rfl rfl rfl (W.ok (ok_pick_t rfl rfl) (W.mv ?_)))))))))))))
  refine W.no (dj := 41) rfl rfl rfl (W.no (dj := 41) rfl rfl rfl (W.no (dj := 41) rfl rfl rfl (W.no (dj := 41) rfl rfl rfl (W.no (dj := 41) rfl rfl rfl (W.no (dj := 41) rfl rfl rfl (W.ok (ok_pick_t rfl rfl) (W.nil (thn_n (WC.cond_t rfl rfl (WC.seq (WC.region (W.as (W.nil (thn_n (WC.ret (thn_r ?_))))))))))))))))
  refine ⟨.inr rfl, [_], ⟨rfl, trivial⟩, [], sn9, ?_⟩
  refine congrArg Value.bool ?_
  exact (decide_eq_false fun h => by obtain ⟨⟨q1, q2, q3⟩, q4, q5, q6, q7, q8, q9⟩ := h; omega).symm
 have p25 := of_decide_eq_false h25
 refine W.yes (dj := 27) rfl rfl h25 (W.ok (ok_fieldB fd43_2 rfl) (W.yes (dj := 27) rfl rfl h25 (W.ok (ok_loadB (i := 0) (vs := [.slice _ _ _]) ty38 rfl rfl rfl rfl (by simp)) (W.yes (dj := 27) rfl rfl h25 (W.ok (ok_fieldB fd43_3 rfl) (W.yes (dj := 27) rfl rfl h25 (W.ok (ok_loadB (i := 0) (vs := [.slice _ _ _]) ty39 rfl rfl rfl rfl (by simp)) (W.yes (dj := 27) rfl rfl h25 (W.qcall (rright_fc hp_n hk_n) rfl (W.yes (dj := 27) rfl rfl h25 (W.ok (ok_not rfl) (W.ok (ok_pick_f rfl h25) (W.mv ?_)))))))))))))
 refine W.sp 35 rfl (fun h33 => ?_) (fun h33 => ?_)
 ·refine W.no (dj := 35) rfl rfl h33 (W.no (dj := 35) rfl rfl h33 (W.no (dj := 35) rfl rfl h33 (W.no (dj := 35) rfl rfl h33 (W.ok (ok_pick_t rfl h33) (W.mv (W.no (dj := 41) rfl rfl rfl (W.no (dj := 41) rfl rfl rfl (W.no (dj := 41) rfl rfl rfl (W.no (dj := 41) rfl rfl rfl (W.no (dj := 41) rfl rfl rfl (W.no (dj := 41) rfl rfl rfl (W.ok (ok_pick_t rfl rfl) (W.nil (thn_n ?_))))))))))))))
  refine WC.cond_t rfl rfl (WC.seq (WC.region (W.as (W.nil (thn_n (WC.ret (thn_r ?_)))))))
  refine ⟨.inr rfl, [_], ⟨rfl, trivial⟩, [], sn9, ?_⟩
  refine congrArg Value.bool ?_
  exact (decide_eq_false fun h => by obtain ⟨⟨q1, q2, q3⟩, q4, q5, q6, q7, q8, q9⟩ := h; simp [q4] at h33).symm
 refine W.yes (dj := 35) rfl rfl h33 (W.ok (ok_fieldB fd43_8 rfl) (W.yes (dj := 35) rfl rfl h33 (W.ok (ok_loadB (i := 0) (vs := [.slice _ _ _]) ty40 rfl rfl rfl rfl (by simp)) (W.yes (dj := 35) rfl rfl h33 (W.qcall (mall_fc hm_n) rfl (W.yes (dj := 35) rfl rfl h33 (W.ok (ok_not rfl) (W.ok (ok_pick_f rfl h33) (W.mv ?_)))))))))
 refine W.sp 41 rfl (fun h39 => ?_) (fun h39 => ?_)
 ·refine W.no (dj := 41) rfl rfl h39 (W.no (dj := 41) rfl rfl h39 (W.no (dj := 41) rfl rfl h39 (W.no (dj := 41) rfl rfl h39 (W.no (dj := 41) rfl rfl h39 (W.no (dj := 41) rfl rfl h39 (W.ok (ok_pick_t rfl h39) (W.nil (thn_n (WC.cond_t rfl rfl (WC.seq (WC.region (W.as (W.nil (thn_n (WC.ret (thn_r ?_))))))))))))))))
  refine ⟨.inr rfl, [_], ⟨rfl, trivial⟩, [], sn9, ?_⟩
  refine congrArg Value.bool ?_
  exact (decide_eq_false fun h => by obtain ⟨⟨q1, q2, q3⟩, q4, q5, q6, q7, q8, q9⟩ := h; simp [q5] at h39).symm
 have hms : MsgsR n.msgs := by simpa using h39
 have hs := hms.sizes
 refine W.yes (dj := 41) rfl rfl h39 (W.ok (ok_fieldB fd43_8 rfl) (W.yes (dj := 41) rfl rfl h39 (W.ok (ok_loadB (i := 0) (vs := [.slice _ _ _]) ty40 rfl rfl rfl rfl (by simp)) (W.yes (dj := 41) rfl rfl h39 (W.qcall (msizes_fc hm_n (by assumption)) rfl (W.yes (dj := 41) rfl rfl h39 (W.ok (ok_fieldB fd23_2 rfl) (W.yes (dj := 41) rfl rfl h39 (W.ok (ok_loadB (i := 1) (vs := [.int .i64 _]) ty3 rfl rfl rfl rfl (by simp)) (W.yes (dj := 41) rfl rfl h39 (W.ok (ok_gtr rfl rfl) (W.ok (ok_pick_f rfl h39) (W.nil (thn_n ?_))))))))))))))
 refine WC.cond (b := _) rfl (fun h47 => ?_) (fun h47 => ?_)
 ·have p47 := of_decide_eq_true h47
  refine WC.seq (WC.region (W.as (W.nil (thn_n (WC.ret (thn_r ?_))))))
  refine ⟨.inr rfl, [_], ⟨rfl, trivial⟩, [], sn9, ?_⟩
  refine congrArg Value.bool ?_
  exact (decide_eq_false fun h => by obtain ⟨⟨q1, q2, q3⟩, q4, q5, q6, q7, q8, q9⟩ := h; omega).symm
 have p47 := of_decide_eq_false h47
 refine WC.skip (thn_n (WC.seq (WC.seq (WC.region (W.as (W.nil (thn_n (WC.block ?_))))))))
 refine WC.loop (X := Nat) (fun k => [(5, .int .i64 ((k : Nat) : Int)), (2, .pointer (some ⟨b8, 0, none⟩)), (3, .pointer (some ⟨b9, 0, none⟩))]) (fun k _ Ml => Ml = [(b9, .cells (List.toArray [.int .i64 n.slot, .int .i64 n.level, .slice pa_n n.pivots.length pc_n, .slice ka_n n.kids.length kc_n, .string n.high.b, .bool n.top, .int .i64 n.right, .int .i64 n.seen, .slice ma_n n.msgs.length mc_n, .slice ra_n n.rows.length rc_n]) 43 (0, 0)), (b8, .cells (List.toArray [.int .i64 cf, .int .i64 cl, .int .i64 cb, .int .i64 cs, .int .i64 cr]) 23 (0, 0))] ∧ ∀ i (h : i < n.kids.length), i < k → 0 ≤ n.kids[i]) (fun k => n.kids.length - k) 0 ⟨eqv, eqv, eqv, trivial⟩ ?_ ?_
 ·exact ⟨rfl, fun i _ h => by omega⟩
 rintro k gG10 G10 _ hG10 ⟨rfl, hk1⟩
 refine WC.seq (WC.seq (WC.region (W.mv (W.ok (ok_fieldB fd43_3 rfl) (W.ok (ok_loadB (i := 0) (vs := [.slice _ _ _]) ty39 rfl rfl rfl rfl (by simp)) (W.ok (ok_len sl39 (hk_n.mono hG10) rfl) (W.ok (ok_lss rfl rfl) (W.nil (thn_n ?_)))))))))
 refine WC.cond (b := _) rfl (fun h53 => ?_) (fun h53 => ?_)
 ·have p53 := of_decide_eq_true h53
  refine WC.skip (thn_n (WC.seq (WC.block (WC.seq (WC.region (W.ok (ok_fieldB fd43_3 rfl) (W.ok (ok_loadB (i := 0) (vs := [.slice _ _ _]) ty39 rfl rfl rfl rfl (by simp)) (W.mv ?_))))))))
  have q14 := (hk_n.mono hG10).at (i := k) (by omega)
  refine match q14 with | ⟨_, he11, ⟨e_13, hi12⟩⟩ => ?_
  subst e_13
  refine W.ok (ok_indexAddr (i := k) sl39 ty3 (hk_n.mono hG10) rfl rfl ⟨by omega, by omega⟩) (W.ok (ok_loadE (vs := [.int .i64 _]) ty3 he11 rfl rfl rfl (by simp)) (W.ok (ok_lss rfl rfl) (W.nil (thn_n ?_))))
  refine WC.cond (b := _) rfl (fun h61 => ?_) (fun h61 => ?_)
  ·have p61 := of_decide_eq_true h61
   refine WC.seq (WC.region (W.as (W.nil (thn_n (WC.ret (blk_r (thn_r (thn_r (blk_r (thn_r ?_))))))))))
   refine ⟨.inr rfl, [_], ⟨rfl, trivial⟩, [], sn9, ?_⟩
   refine congrArg Value.bool ?_
   exact (decide_eq_false fun h => by obtain ⟨⟨q1, q2, q3⟩, q4, q5, q6, q7, q8, q9⟩ := h; have := q7 k (by omega); omega).symm
  have p61 := of_decide_eq_false h61
  refine WC.skip (blk_n (thn_n (WC.region (W.mv (W.ok (ok_add rfl rfl (by omega)) (W.as (W.nil (thn_n ?_))))))))
  exact ⟨Le.rfl, k + 1, ⟨eqv, eqv, eqv, trivial⟩, ⟨rfl, fun i h hi => by
      by_cases e : i = k
      · subst e; omega
      · exact hk1 i h (by omega)⟩, by omega⟩
 have p53 := of_decide_eq_false h53
 refine WC.exit (thn_x (thn_x (blk_h (thn_n (WC.seq (WC.seq (WC.region (W.as (W.nil (thn_n (WC.block ?_)))))))))))
 refine WC.loop (X := Nat) (fun k => [(6, .int .i64 ((k : Nat) : Int)), (2, .pointer (some ⟨b8, 0, none⟩)), (3, .pointer (some ⟨b9, 0, none⟩))]) (fun k _ Ml => Ml = [(b9, .cells (List.toArray [.int .i64 n.slot, .int .i64 n.level, .slice pa_n n.pivots.length pc_n, .slice ka_n n.kids.length kc_n, .string n.high.b, .bool n.top, .int .i64 n.right, .int .i64 n.seen, .slice ma_n n.msgs.length mc_n, .slice ra_n n.rows.length rc_n]) 43 (0, 0)), (b8, .cells (List.toArray [.int .i64 cf, .int .i64 cl, .int .i64 cb, .int .i64 cs, .int .i64 cr]) 23 (0, 0))] ∧ ∀ i (h : i < n.pivots.length), i < k → n.parts n.pivots[i]) (fun k => n.pivots.length - k) 0 ⟨eqv, eqv, eqv, trivial⟩ ?_ ?_
 ·exact ⟨rfl, fun i _ h => by omega⟩
 rintro k gG15 G15 _ hG15 ⟨rfl, hk2⟩
 refine WC.seq (WC.seq (WC.region (W.mv (W.ok (ok_fieldB fd43_2 rfl) (W.ok (ok_loadB (i := 0) (vs := [.slice _ _ _]) ty38 rfl rfl rfl rfl (by simp)) (W.ok (ok_len sl38 (hp_n.mono (hG10.trans hG15)) rfl) (W.ok (ok_lss rfl rfl) (W.nil (thn_n ?_)))))))))
 refine WC.cond (b := _) rfl (fun h66 => ?_) (fun h66 => ?_)
 ·have p66 := of_decide_eq_true h66
  refine WC.skip (thn_n (WC.seq (WC.block (WC.seq (WC.draw mix (by kernel_rfl) (W.ok (ok_fieldB fd43_2 rfl) (W.ok (ok_loadB (i := 0) (vs := [.slice _ _ _]) ty38 rfl rfl rfl rfl (by simp)) (W.mv ?_))))))))
  have q18 := (hp_n.mono (hG10.trans hG15)).at (i := k) (by omega)
  refine match q18 with | ⟨_, he16, e_17⟩ => ?_
  subst e_17
  refine W.ok (ok_indexAddr (i := k) sl38 ty9 (hp_n.mono (hG10.trans hG15)) rfl rfl ⟨by omega, by omega⟩) (W.ok (ok_loadE (vs := [.string _]) ty9 he16 rfl rfl rfl (by simp)) (W.ok (ok_eqlS rfl rfl) (W.mv ?_)))
  refine W.sp 75 rfl (fun h74 => ?_) (fun h74 => ?_)
  ·have p74 := of_decide_eq_true h74
   refine W.no (dj := 75) rfl rfl h74 (W.no (dj := 75) rfl rfl h74 (W.no (dj := 75) rfl rfl h74 (W.no (dj := 75) rfl rfl h74 (W.no (dj := 75) rfl rfl h74 (W.no (dj := 75) rfl rfl h74 (W.no (dj := 75) rfl rfl h74 (W.ok (ok_pick_t rfl h74) (W.mv (W.no (dj := 84) rfl rfl rfl (W.no (dj := 84) rfl rfl rfl (W.no (dj := 84) rfl rfl rfl (W.no (dj := 84) rfl rfl rfl (W.no (dj := 84) rfl rfl rfl ?_)))))))))))))
   refine W.no (dj := 84) rfl rfl rfl (W.no (dj := 84) rfl rfl rfl (W.no (dj := 84) rfl rfl rfl (W.ok (ok_pick_t rfl rfl) (W.nil (thn_n (WC.cond_t rfl rfl (WC.seq (WC.region (W.as (W.nil (thn_n (WC.ret (blk_r (thn_r (thn_r (blk_r (thn_r ?_)))))))))))))))))
   refine ⟨.inr rfl, [_], ⟨rfl, trivial⟩, [], sn9, ?_⟩
   refine congrArg Value.bool ?_
   exact (decide_eq_false fun h => by obtain ⟨⟨q1, q2, q3⟩, q4, q5, q6, q7, q8, q9⟩ := h; exact (q8 k (by omega)).1 (Str.ext' p74)).symm
  have p74 := of_decide_eq_false h74
  refine W.yes (dj := 75) rfl rfl h74 (W.ok (ok_fieldB fd43_2 rfl) (W.yes (dj := 75) rfl rfl h74 (W.ok (ok_loadB (i := 0) (vs := [.slice _ _ _]) ty38 rfl rfl rfl rfl (by simp)) (W.yes (dj := 75) rfl rfl h74 (W.mv (W.yes (dj := 75) rfl rfl h74 ?_))))))
  have q21 := (hp_n.mono (hG10.trans hG15)).at (i := k) (by omega)
  refine match q21 with | ⟨_, he19, e_20⟩ => ?_
  subst e_20
  refine W.ok (ok_indexAddr (i := k) sl38 ty9 (hp_n.mono (hG10.trans hG15)) rfl rfl ⟨by omega, by omega⟩) (W.yes (dj := 75) rfl rfl h74 (W.ok (ok_loadE (vs := [.string _]) ty9 he19 rfl rfl rfl (by simp)) (W.yes (dj := 75) rfl rfl h74 (W.ok (ok_lenS st9 rfl) (W.yes (dj := 75) rfl rfl h74 (W.ok (ok_gtr rfl rfl) (W.ok (ok_pick_f rfl h74) (W.mv ?_))))))))
  refine W.sp 84 rfl (fun h82 => ?_) (fun h82 => ?_)
  ·have p82 := of_decide_eq_true h82
   refine W.no (dj := 84) rfl rfl h82 (W.no (dj := 84) rfl rfl h82 (W.no (dj := 84) rfl rfl h82 (W.no (dj := 84) rfl rfl h82 (W.no (dj := 84) rfl rfl h82 (W.no (dj := 84) rfl rfl h82 (W.no (dj := 84) rfl rfl h82 (W.no (dj := 84) rfl rfl h82 (W.ok (ok_pick_t rfl h82) (W.nil (thn_n (WC.cond_t rfl rfl (WC.seq (WC.region (W.as ?_))))))))))))))
   refine W.nil (thn_n (WC.ret (blk_r (thn_r (thn_r (blk_r (thn_r ?_)))))))
   refine ⟨.inr rfl, [_], ⟨rfl, trivial⟩, [], sn9, ?_⟩
   refine congrArg Value.bool ?_
   exact (decide_eq_false fun h => by obtain ⟨⟨q1, q2, q3⟩, q4, q5, q6, q7, q8, q9⟩ := h; have := (q8 k (by omega)).2.1; omega).symm
  have p82 := of_decide_eq_false h82
  refine W.yes (dj := 84) rfl rfl h82 (W.ok (ok_loadB (i := 0) (vs := (nd9 _ _ _ _ _ _ _ _ _ _ _ _ _ _ _ _ _ _)) ty43 rfl rfl rfl rfl (by simp)) (W.yes (dj := 84) rfl rfl h82 (W.ok (ok_fieldB fd43_2 rfl) (W.yes (dj := 84) rfl rfl h82 (W.ok (ok_loadB (i := 0) (vs := [.slice _ _ _]) ty38 rfl rfl rfl rfl (by simp)) (W.yes (dj := 84) rfl rfl h82 (W.mv (W.yes (dj := 84) rfl rfl h82 ?_))))))))
  have q24 := (hp_n.mono (hG10.trans hG15)).at (i := k) (by omega)
  refine match q24 with | ⟨_, he22, e_23⟩ => ?_
  subst e_23
  refine W.ok (ok_indexAddr (i := k) sl38 ty9 (hp_n.mono (hG10.trans hG15)) rfl rfl ⟨by omega, by omega⟩) (W.yes (dj := 84) rfl rfl h82 (W.ok (ok_loadE (vs := [.string _]) ty9 he22 rfl rfl rfl (by simp)) (W.yes (dj := 84) rfl rfl h82 (W.qcall (nhas_fc ⟨_, _, _, _, _, _, _, _, rfl, (hp_n.mono (hG10.trans hG15)), (hk_n.mono (hG10.trans hG15)), (hm_n.mono (hG10.trans hG15)), (hr_n.mono (hG10.trans hG15)), hok_n⟩ _) rfl (W.yes (dj := 84) rfl rfl h82 (W.ok (ok_not rfl) (W.ok (ok_pick_f rfl h82) (W.nil (thn_n ?_)))))))))
  refine WC.cond (b := _) rfl (fun h92 => ?_) (fun h92 => ?_)
  ·refine WC.seq (WC.region (W.as (W.nil (thn_n (WC.ret (blk_r (thn_r (thn_r (blk_r (thn_r ?_))))))))))
   refine ⟨.inr rfl, [_], ⟨rfl, trivial⟩, [], sn9, ?_⟩
   refine congrArg Value.bool ?_
   exact (decide_eq_false fun h => by obtain ⟨⟨q1, q2, q3⟩, q4, q5, q6, q7, q8, q9⟩ := h; have := (q8 k (by omega)).2.2; simp_all [Nd.has]).symm
  refine WC.skip (blk_n (thn_n (WC.region (W.mv (W.ok (ok_add rfl rfl (by omega)) (W.as (W.nil (thn_n ?_))))))))
  exact ⟨Le.rfl, k + 1, ⟨eqv, eqv, eqv, trivial⟩, ⟨rfl, fun i h hi => by
      by_cases e : i = k
      · subst e; exact ⟨fun e => p74 (congrArg Str.b e), by omega, by show (n.top || _) = true; cases ht : n.top <;> simp_all⟩
      · exact hk2 i h (by omega)⟩, by omega⟩
 have p66 := of_decide_eq_false h66
 refine WC.exit (thn_x (thn_x (blk_h (thn_n (WC.seq (WC.seq (WC.region (W.as (W.nil (thn_n (WC.block ?_)))))))))))
 refine WC.loop (X := Nat) (fun k => [(7, .int .i64 ((k : Nat) : Int)), (2, .pointer (some ⟨b8, 0, none⟩)), (3, .pointer (some ⟨b9, 0, none⟩))]) (fun k _ Ml => Ml = [(b9, .cells (List.toArray [.int .i64 n.slot, .int .i64 n.level, .slice pa_n n.pivots.length pc_n, .slice ka_n n.kids.length kc_n, .string n.high.b, .bool n.top, .int .i64 n.right, .int .i64 n.seen, .slice ma_n n.msgs.length mc_n, .slice ra_n n.rows.length rc_n]) 43 (0, 0)), (b8, .cells (List.toArray [.int .i64 cf, .int .i64 cl, .int .i64 cb, .int .i64 cs, .int .i64 cr]) 23 (0, 0))] ∧ ∀ i (h : i < n.msgs.length), i < k → n.fits n.msgs[i]) (fun k => n.msgs.length - k) 0 ⟨eqv, eqv, eqv, trivial⟩ ?_ ?_
 ·exact ⟨rfl, fun i _ h => by omega⟩
 rintro k gG25 G25 _ hG25 ⟨rfl, hk3⟩
 refine WC.seq (WC.seq (WC.region (W.mv (W.ok (ok_fieldB fd43_8 rfl) (W.ok (ok_loadB (i := 0) (vs := [.slice _ _ _]) ty40 rfl rfl rfl rfl (by simp)) (W.ok (ok_len sl40 (hm_n.mono ((hG10.trans hG15).trans hG25)) rfl) (W.ok (ok_lss rfl rfl) (W.nil (thn_n ?_)))))))))
 refine WC.cond (b := _) rfl (fun h98 => ?_) (fun h98 => ?_)
 ·have p98 := of_decide_eq_true h98
  have hkk : n.msgs[k].key.b.size < 140737488355328 := by have := (hs _ (List.getElem_mem (by omega : k < n.msgs.length))).1; omega
  refine WC.skip (thn_n (WC.seq (WC.block (WC.seq (WC.region (W.ok (ok_fieldB fd43_8 rfl) (W.ok (ok_loadB (i := 0) (vs := [.slice _ _ _]) ty40 rfl rfl rfl rfl (by simp)) (W.mv ?_))))))))
  have q30 := (hm_n.mono ((hG10.trans hG15).trans hG25)).at (i := k) (by omega)
  refine match q30 with | ⟨_, he26, ⟨e_29, hm27⟩⟩ => ?_
  subst e_29
  refine W.ok (ok_indexAddr (i := k) sl40 ty150 (hm_n.mono ((hG10.trans hG15).trans hG25)) rfl rfl ⟨by omega, by omega⟩) (W.ok (ok_loadE (vs := [.int .i64 _, .int .i64 _, .string _, .string _, .bool _, .string _]) ty150 he26 rfl rfl rfl (by simp)) (W.qcall (rspan_fc _ _ _ _ _ _ (by first | assumption | omega | (dsimp only; omega))) rfl (W.alloc zr45 (fun b31 => (W.store (i := 0) (vs := [.string _, .string _, .bool _]) (L' := [.string _, .string _, .bool _]) ty45 rfl rfl rfl rfl rfl rfl rfl rfl (W.nil (thn_n (WC.seq (WC.draw mix (by kernel_rfl) (W.ok (ok_fieldB fd43_8 rfl) (W.ok (ok_loadB (i := 1) (vs := [.slice _ _ _]) ty40 rfl rfl rfl rfl (by simp)) (W.mv ?_))))))))))))
  have q36 := (hm_n.mono ((hG10.trans hG15).trans hG25)).at (i := k) (by omega)
  refine match q36 with | ⟨_, he32, ⟨e_35, hm33⟩⟩ => ?_
  subst e_35
  refine W.ok (ok_indexAddr (i := k) sl40 ty150 (hm_n.mono ((hG10.trans hG15).trans hG25)) rfl rfl ⟨by omega, by omega⟩) (W.ok (ok_fieldE fd150_0 rfl he32.form) (W.ok (ok_loadE (vs := [.int .i64 _]) ty3 he32 rfl rfl rfl (by simp)) (W.ok (ok_fieldB fd43_7 rfl) (W.ok (ok_loadB (i := 1) (vs := [.int .i64 _]) ty3 rfl rfl rfl rfl (by simp)) (W.ok (ok_gtr rfl rfl) (W.mv ?_))))))
  refine W.sp 116 rfl (fun h115 => ?_) (fun h115 => ?_)
  ·have p115 := of_decide_eq_true h115
   refine W.no (dj := 116) rfl rfl h115 (W.no (dj := 116) rfl rfl h115 (W.no (dj := 116) rfl rfl h115 (W.no (dj := 116) rfl rfl h115 (W.nou (dj := 120) rfl rfl (W.nou (dj := 120) rfl rfl (W.nou (dj := 120) rfl rfl (W.nou (dj := 123) rfl rfl (W.nou (dj := 123) rfl rfl (W.nou (dj := 123) rfl rfl (W.nou (dj := 123) rfl rfl (W.nou (dj := 123) rfl rfl (W.nou (dj := 120) rfl rfl (W.no (dj := 116) rfl rfl h115 ?_)))))))))))))
   refine W.ok (ok_pick_t rfl h115) (W.nil (thn_n (WC.cond_t rfl rfl (WC.seq (WC.region (W.as (W.nil (thn_n (WC.ret (blk_r (thn_r (thn_r (blk_r (thn_r ?_))))))))))))))
   refine ⟨.inr rfl, [_], ⟨rfl, trivial⟩, [], sn9, ?_⟩
   refine congrArg Value.bool ?_
   exact (decide_eq_false fun h => by obtain ⟨⟨q1, q2, q3⟩, q4, q5, q6, q7, q8, q9⟩ := h; have := (q9 k (by omega)).1; omega).symm
  have p115 := of_decide_eq_false h115
  refine W.yes (dj := 116) rfl rfl h115 (W.ok (ok_fieldB fd43_5 rfl) (W.yes (dj := 116) rfl rfl h115 (W.ok (ok_loadB (i := 1) (vs := [.bool _]) ty4 rfl rfl rfl rfl (by simp)) (W.yes (dj := 116) rfl rfl h115 (W.ok (ok_not rfl) (W.yes (dj := 116) rfl rfl h115 (W.mv ?_)))))))
  refine W.sp 120 rfl (fun h119 => ?_) (fun h119 => ?_)
  ·refine W.yes (dj := 120) rfl rfl h119 (W.ok (ok_fieldB fd45_2 rfl) (W.yes (dj := 120) rfl rfl h119 (W.ok (ok_loadB (i := 0) (vs := [.bool _]) ty4 rfl rfl rfl rfl (by simp)) (W.yes (dj := 120) rfl rfl h119 (W.mv ?_)))))
   refine W.sp 123 rfl (fun h106_2 => ?_) (fun h106_2 => ?_)
   ·refine W.no (dj := 123) rfl rfl h106_2 (W.no (dj := 123) rfl rfl h106_2 (W.no (dj := 123) rfl rfl h106_2 (W.no (dj := 123) rfl rfl h106_2 (W.no (dj := 123) rfl rfl h106_2 (W.yes (dj := 120) rfl rfl h119 (W.ok (ok_pick_t rfl h106_2) (W.yes (dj := 116) rfl rfl h115 (W.ok (ok_pick_t rfl h119) (W.ok (ok_pick_f rfl h115) (W.nil (thn_n (WC.cond_t rfl rfl (WC.seq (WC.region ?_))))))))))))))
    refine W.as (W.nil (thn_n (WC.ret (blk_r (thn_r (thn_r (blk_r (thn_r ?_))))))))
    refine ⟨.inr rfl, [_], ⟨rfl, trivial⟩, [], sn9, ?_⟩
    refine congrArg Value.bool ?_
    exact (decide_eq_false fun h => by obtain ⟨⟨q1, q2, q3⟩, q4, q5, q6, q7, q8, q9⟩ := h; have := (q9 k (by omega)).2; simp_all).symm
   refine W.yes (dj := 123) rfl rfl h106_2 (W.ok (ok_fieldB fd43_4 rfl) (W.yes (dj := 123) rfl rfl h106_2 (W.ok (ok_loadB (i := 1) (vs := [.string _]) ty9 rfl rfl rfl rfl (by simp)) (W.yes (dj := 123) rfl rfl h106_2 (W.ok (ok_fieldB fd45_1 rfl) (W.yes (dj := 123) rfl rfl h106_2 (W.ok (ok_loadB (i := 0) (vs := [.string _]) ty9 rfl rfl rfl rfl (by simp)) (W.yes (dj := 123) rfl rfl h106_2 (W.qcall (less_fc _ _) rfl (W.yes (dj := 120) rfl rfl h119 (W.ok (ok_pick_f rfl h106_2) (W.yes (dj := 116) rfl rfl h115 (W.ok (ok_pick_t rfl h119) ?_)))))))))))))
   refine W.ok (ok_pick_f rfl h115) (W.nil (thn_n ?_))
   refine WC.cond (b := _) rfl (fun h128 => ?_) (fun h128 => ?_)
   ·refine WC.seq (WC.region (W.as (W.nil (thn_n (WC.ret (blk_r (thn_r (thn_r (blk_r (thn_r ?_))))))))))
    refine ⟨.inr rfl, [_], ⟨rfl, trivial⟩, [], sn9, ?_⟩
    refine congrArg Value.bool ?_
    exact (decide_eq_false fun h => by obtain ⟨⟨q1, q2, q3⟩, q4, q5, q6, q7, q8, q9⟩ := h; have := (q9 k (by omega)).2; simp_all).symm
   refine WC.skip (blk_n (thn_n (WC.region (W.mv (W.ok (ok_add rfl rfl (by omega)) (W.as (W.sub (sr9.cons _) (W.nil (thn_n ?_)))))))))
   exact ⟨Le.rfl, k + 1, ⟨eqv, eqv, eqv, trivial⟩, ⟨rfl, fun i h hi => by
      by_cases e : i = k
      · subst e; exact ⟨by omega, by cases ht : n.top <;> simp_all⟩
      · exact hk3 i h (by omega)⟩, by omega⟩
  refine W.no (dj := 120) rfl rfl h119 (W.no (dj := 120) rfl rfl h119 (W.no (dj := 120) rfl rfl h119 (W.nou (dj := 123) rfl rfl (W.nou (dj := 123) rfl rfl (W.nou (dj := 123) rfl rfl (W.nou (dj := 123) rfl rfl (W.nou (dj := 123) rfl rfl (W.no (dj := 120) rfl rfl h119 (W.yes (dj := 116) rfl rfl h115 (W.ok (ok_pick_f rfl h119) (W.ok (ok_pick_f rfl h115) (W.nil (thn_n (WC.cond_f rfl rfl ?_))))))))))))))
  refine WC.skip (blk_n (thn_n (WC.region (W.mv (W.ok (ok_add rfl rfl (by omega)) (W.as (W.sub (sr9.cons _) (W.nil (thn_n ?_)))))))))
  exact ⟨Le.rfl, k + 1, ⟨eqv, eqv, eqv, trivial⟩, ⟨rfl, fun i h hi => by
      by_cases e : i = k
      · subst e; exact ⟨by omega, by cases ht : n.top <;> simp_all⟩
      · exact hk3 i h (by omega)⟩, by omega⟩
 have p98 := of_decide_eq_false h98
 refine WC.exit (thn_x (thn_x (blk_h (thn_n (WC.seq (WC.region (W.as (W.nil (thn_n (WC.ret ?_))))))))))
 refine ⟨.inr rfl, [_], ⟨rfl, trivial⟩, [], sn9, ?_⟩
 refine congrArg Value.bool ?_
 exact (decide_eq_true ⟨⟨by omega, by omega, by omega⟩, by simpa using h33, hms, by omega, fun i h => hk1 i h (by omega), fun i h => hk2 i h (by omega), fun i h => hk3 i h (by omega)⟩).symm

theorem nright_fc {G : GH} (cf : Int) (cl : Int) (cb : Int) (cs : Int) (cr : Int) {cs_n : List Value} {n : Nd} (h_n : NodeC G cs_n n) :
    Fc Tryz.prog 30 [.agg #[.int .i64 cf, .int .i64 cl, .int .i64 cb, .int .i64 cs, .int .i64 cr], .agg (List.toArray cs_n)] G [] (fun v _ _ => v = .bool (decide (n.R cf cl cb))) := by
 obtain ⟨pa_n, pc_n, ka_n, kc_n, ma_n, mc_n, ra_n, rc_n, rfl, hp_n, hk_n, hm_n, hr_n, hok_n⟩ := h_n
 have h1 := hp_n.len47
 have h2 := hk_n.len47
 have h3 := hm_n.len47
 have h4 := hr_n.len47
 refine Fc.intro (rs := [.tmp 4]) cl30 Tryz.func30 rfl Tryz.ntmps30 rfl rfl (fun w0 => ?_)
 refine WC.seq (WC.region (W.box (L := [.int .i64 _, .int .i64 _, .int .i64 _, .int .i64 _, .int .i64 _]) rfl rfl (fun b37 => (W.box (L := (nd9 _ _ _ _ _ _ _ _ _ _ _ _ _ _ _ _ _ _)) rfl rfl (fun b38 => (W.as (W.nil (thn_n (WC.seq (WC.seq (WC.region (W.ok (ok_fieldB fd43_0 rfl) (W.ok (ok_loadB (i := 0) (vs := [.int .i64 _]) ty3 rfl rfl rfl rfl (by simp)) (W.ok (ok_lss rfl rfl) (W.mv ?_)))))))))))))))
 refine W.sp 8 rfl (fun h7 => ?_) (fun h7 => ?_)
 ·have p7 := of_decide_eq_true h7
  refine W.no (dj := 8) rfl rfl h7 (W.no (dj := 8) rfl rfl h7 (W.no (dj := 8) rfl rfl h7 (W.ok (ok_pick_t rfl h7) (W.mv (W.no (dj := 13) rfl rfl rfl (W.no (dj := 13) rfl rfl rfl (W.no (dj := 13) rfl rfl rfl (W.ok (ok_pick_t rfl rfl) (W.mv (W.no (dj := 18) rfl rfl rfl (W.no (dj := 18) rfl rfl rfl (W.no (dj := 18) rfl rfl rfl (W.nou (dj := 21) rfl rfl ?_)))))))))))))
  refine W.nou (dj := 21) rfl rfl (W.nou (dj := 21) rfl rfl (W.nou (dj := 21) rfl rfl (W.nou (dj := 25) rfl rfl (W.nou (dj := 25) rfl rfl (W.nou (dj := 25) rfl rfl (W.nou (dj := 21) rfl rfl (W.no (dj := 18) rfl rfl rfl (W.ok (ok_pick_t rfl rfl) (W.nil (thn_n (WC.cond_t rfl rfl (WC.seq (WC.region (W.as ?_))))))))))))))
  refine W.nil (thn_n (WC.ret (thn_r ?_)))
  refine ⟨.inr rfl, [_], ⟨rfl, trivial⟩, [], sn9, ?_⟩
  refine congrArg Value.bool ?_
  exact (decide_eq_false fun h => by obtain ⟨⟨q1, q2, q3⟩, q4, q5, q6⟩ := h; omega).symm
 have p7 := of_decide_eq_false h7
 refine W.yes (dj := 8) rfl rfl h7 (W.ok (ok_fieldB fd43_1 rfl) (W.yes (dj := 8) rfl rfl h7 (W.ok (ok_loadB (i := 0) (vs := [.int .i64 _]) ty3 rfl rfl rfl rfl (by simp)) (W.yes (dj := 8) rfl rfl h7 (W.ok (ok_lss rfl rfl) (W.ok (ok_pick_f rfl h7) (W.mv ?_)))))))
 refine W.sp 13 rfl (fun h11 => ?_) (fun h11 => ?_)
 ·have p11 := of_decide_eq_true h11
  refine W.no (dj := 13) rfl rfl h11 (W.no (dj := 13) rfl rfl h11 (W.no (dj := 13) rfl rfl h11 (W.ok (ok_pick_t rfl h11) (W.mv (W.no (dj := 18) rfl rfl rfl (W.no (dj := 18) rfl rfl rfl (W.no (dj := 18) rfl rfl rfl (W.nou (dj := 21) rfl rfl (W.nou (dj := 21) rfl rfl (W.nou (dj := 21) rfl rfl (W.nou (dj := 21) rfl rfl (W.nou (dj := 25) rfl rfl (W.nou (dj := 25) rfl rfl ?_)))))))))))))
  refine W.nou (dj := 25) rfl rfl (W.nou (dj := 21) rfl rfl (W.no (dj := 18) rfl rfl rfl (W.ok (ok_pick_t rfl rfl) (W.nil (thn_n (WC.cond_t rfl rfl (WC.seq (WC.region (W.as (W.nil (thn_n (WC.ret (thn_r ?_)))))))))))))
  refine ⟨.inr rfl, [_], ⟨rfl, trivial⟩, [], sn9, ?_⟩
  refine congrArg Value.bool ?_
  exact (decide_eq_false fun h => by obtain ⟨⟨q1, q2, q3⟩, q4, q5, q6⟩ := h; omega).symm
 have p11 := of_decide_eq_false h11
 refine W.yes (dj := 13) rfl rfl h11 (W.ok (ok_fieldB fd43_7 rfl) (W.yes (dj := 13) rfl rfl h11 (W.ok (ok_loadB (i := 0) (vs := [.int .i64 _]) ty3 rfl rfl rfl rfl (by simp)) (W.yes (dj := 13) rfl rfl h11 (W.ok (ok_lss rfl rfl) (W.ok (ok_pick_f rfl h11) (W.mv ?_)))))))
 refine W.sp 18 rfl (fun h16 => ?_) (fun h16 => ?_)
 ·have p16 := of_decide_eq_true h16
  refine W.no (dj := 18) rfl rfl h16 (W.no (dj := 18) rfl rfl h16 (W.no (dj := 18) rfl rfl h16 (W.nou (dj := 21) rfl rfl (W.nou (dj := 21) rfl rfl (W.nou (dj := 21) rfl rfl (W.nou (dj := 21) rfl rfl (W.nou (dj := 25) rfl rfl (W.nou (dj := 25) rfl rfl (W.nou (dj := 25) rfl rfl (W.nou (dj := 21) rfl rfl (W.no (dj := 18) rfl rfl h16 (W.ok (ok_pick_t rfl h16) (W.nil (thn_n ?_))))))))))))))
  refine WC.cond_t rfl rfl (WC.seq (WC.region (W.as (W.nil (thn_n (WC.ret (thn_r ?_)))))))
  refine ⟨.inr rfl, [_], ⟨rfl, trivial⟩, [], sn9, ?_⟩
  refine congrArg Value.bool ?_
  exact (decide_eq_false fun h => by obtain ⟨⟨q1, q2, q3⟩, q4, q5, q6⟩ := h; omega).symm
 have p16 := of_decide_eq_false h16
 refine W.yes (dj := 18) rfl rfl h16 (W.ok (ok_fieldB fd43_5 rfl) (W.yes (dj := 18) rfl rfl h16 (W.ok (ok_loadB (i := 0) (vs := [.bool _]) ty4 rfl rfl rfl rfl (by simp)) (W.yes (dj := 18) rfl rfl h16 (W.mv ?_)))))
 refine W.sp 21 rfl (fun hb_top_n => ?_) (fun hb_top_n => ?_)
 ·refine W.yes (dj := 21) rfl rfl hb_top_n (W.ok (ok_fieldB fd43_4 rfl) (W.yes (dj := 21) rfl rfl hb_top_n (W.ok (ok_loadB (i := 0) (vs := [.string _]) ty9 rfl rfl rfl rfl (by simp)) (W.yes (dj := 21) rfl rfl hb_top_n (W.ok (ok_neqS rfl rfl) (W.yes (dj := 21) rfl rfl hb_top_n (W.mv ?_)))))))
  refine W.sp 25 rfl (fun h24 => ?_) (fun h24 => ?_)
  ·have p24 := nd_t h24
   refine W.no (dj := 25) rfl rfl h24 (W.no (dj := 25) rfl rfl h24 (W.no (dj := 25) rfl rfl h24 (W.yes (dj := 21) rfl rfl hb_top_n (W.ok (ok_pick_t rfl h24) (W.yes (dj := 18) rfl rfl h16 (W.ok (ok_pick_t rfl hb_top_n) (W.ok (ok_pick_f rfl h16) (W.nil (thn_n (WC.cond_t rfl rfl (WC.seq (WC.region (W.as (W.nil (thn_n ?_)))))))))))))))
   refine WC.ret (thn_r ?_)
   refine ⟨.inr rfl, [_], ⟨rfl, trivial⟩, [], sn9, ?_⟩
   refine congrArg Value.bool ?_
   exact (decide_eq_false fun h => by obtain ⟨⟨q1, q2, q3⟩, q4, q5, q6⟩ := h; exact p24 (congrArg Str.b (q4 (by assumption)).1)).symm
  have p24 := nd_f h24
  refine W.yes (dj := 25) rfl rfl h24 (W.ok (ok_fieldB fd43_6 rfl) (W.yes (dj := 25) rfl rfl h24 (W.ok (ok_loadB (i := 0) (vs := [.int .i64 _]) ty3 rfl rfl rfl rfl (by simp)) (W.yes (dj := 25) rfl rfl h24 (W.ok (ok_neq rfl rfl) (W.yes (dj := 21) rfl rfl hb_top_n (W.ok (ok_pick_f rfl h24) (W.yes (dj := 18) rfl rfl h16 (W.ok (ok_pick_t rfl hb_top_n) (W.ok (ok_pick_f rfl h16) (W.nil (thn_n ?_))))))))))))
  refine WC.cond (b := _) rfl (fun h28 => ?_) (fun h28 => ?_)
  ·have p28 := nd_t h28
   refine WC.seq (WC.region (W.as (W.nil (thn_n (WC.ret (thn_r ?_))))))
   refine ⟨.inr rfl, [_], ⟨rfl, trivial⟩, [], sn9, ?_⟩
   refine congrArg Value.bool ?_
   exact (decide_eq_false fun h => by obtain ⟨⟨q1, q2, q3⟩, q4, q5, q6⟩ := h; have := (q4 (by assumption)).2; omega).symm
  have p28 := nd_f h28
  refine WC.skip (thn_n (WC.seq (WC.seq (WC.region (W.ok (ok_fieldB fd43_5 rfl) (W.ok (ok_loadB (i := 0) (vs := [.bool _]) ty4 rfl rfl rfl rfl (by simp)) (W.ok (ok_not rfl) (W.mv (W.no (dj := 35) rfl rfl (congrArg not hb_top_n) (W.no (dj := 35) rfl rfl (congrArg not hb_top_n) (W.no (dj := 35) rfl rfl (congrArg not hb_top_n) (W.no (dj := 35) rfl rfl (congrArg not hb_top_n) (W.nou (dj := 39) rfl rfl (W.nou (dj := 39) rfl rfl ?_))))))))))))))
  refine W.nou (dj := 39) rfl rfl (W.nou (dj := 39) rfl rfl (W.no (dj := 35) rfl rfl (congrArg not hb_top_n) (W.no (dj := 35) rfl rfl (congrArg not hb_top_n) (W.nou (dj := 45) rfl rfl (W.nou (dj := 45) rfl rfl (W.nou (dj := 45) rfl rfl (W.no (dj := 35) rfl rfl (congrArg not hb_top_n) (W.ok (ok_pick_f rfl (congrArg not hb_top_n)) (W.nil (thn_n (WC.cond_f rfl rfl (WC.skip (thn_n (WC.seq (WC.seq ?_)))))))))))))))
  refine WC.region (W.ok (ok_fieldB fd43_1 rfl) (W.ok (ok_loadB (i := 0) (vs := [.int .i64 _]) ty3 rfl rfl rfl rfl (by simp)) (W.ok (ok_eql rfl rfl) (W.nil (thn_n ?_)))))
  refine WC.cond (b := _) rfl (fun h53 => ?_) (fun h53 => ?_)
  ·have p53 := of_decide_eq_true h53
   refine WC.seq (WC.region (W.ok (ok_loadB (i := 1) (vs := [.int .i64 _, .int .i64 _, .int .i64 _, .int .i64 _, .int .i64 _]) ty23 rfl rfl rfl rfl (by simp)) (W.ok (ok_loadB (i := 0) (vs := (nd9 _ _ _ _ _ _ _ _ _ _ _ _ _ _ _ _ _ _)) ty43 rfl rfl rfl rfl (by simp)) (W.qcall (nleaf_fc _ _ _ _ _ ⟨_, _, _, _, _, _, _, _, rfl, hp_n, hk_n, hm_n, hr_n, hok_n⟩) rfl (W.as (W.nil (thn_n (WC.ret (thn_r ?_)))))))))
   refine ⟨.inr rfl, [_], ⟨rfl, trivial⟩, [], sn9, ?_⟩
   refine congrArg Value.bool ?_
   exact decide_eq_decide.2 ⟨fun q => ⟨⟨by omega, by omega, by omega⟩, fun _ => ⟨Str.ext' p24, p28⟩, fun h => absurd (hb_top_n.symm.trans h) (by decide), by rw [if_pos p53]; exact q⟩, fun h => by have h := h.2.2.2; rw [if_pos p53] at h; exact h⟩
  have p53 := of_decide_eq_false h53
  refine WC.skip (thn_n (WC.seq (WC.region (W.ok (ok_loadB (i := 1) (vs := [.int .i64 _, .int .i64 _, .int .i64 _, .int .i64 _, .int .i64 _]) ty23 rfl rfl rfl rfl (by simp)) (W.ok (ok_loadB (i := 0) (vs := (nd9 _ _ _ _ _ _ _ _ _ _ _ _ _ _ _ _ _ _)) ty43 rfl rfl rfl rfl (by simp)) (W.qcall (ninner_fc _ _ _ _ _ ⟨_, _, _, _, _, _, _, _, rfl, hp_n, hk_n, hm_n, hr_n, hok_n⟩) rfl (W.as (W.nil (thn_n (WC.ret ?_))))))))))
  refine ⟨.inr rfl, [_], ⟨rfl, trivial⟩, [], sn9, ?_⟩
  refine congrArg Value.bool ?_
  exact decide_eq_decide.2 ⟨fun q => ⟨⟨by omega, by omega, by omega⟩, fun _ => ⟨Str.ext' p24, p28⟩, fun h => absurd (hb_top_n.symm.trans h) (by decide), by rw [if_neg p53]; exact q⟩, fun h => by have h := h.2.2.2; rw [if_neg p53] at h; exact h⟩
 refine W.no (dj := 21) rfl rfl hb_top_n (W.no (dj := 21) rfl rfl hb_top_n (W.no (dj := 21) rfl rfl hb_top_n (W.no (dj := 21) rfl rfl hb_top_n (W.nou (dj := 25) rfl rfl (W.nou (dj := 25) rfl rfl (W.nou (dj := 25) rfl rfl (W.no (dj := 21) rfl rfl hb_top_n (W.yes (dj := 18) rfl rfl h16 (W.ok (ok_pick_f rfl hb_top_n) (W.ok (ok_pick_f rfl h16) (W.nil (thn_n (WC.cond_f rfl rfl (WC.skip (thn_n ?_)))))))))))))))
 refine WC.seq (WC.seq (WC.region (W.ok (ok_fieldB fd43_5 rfl) (W.ok (ok_loadB (i := 0) (vs := [.bool _]) ty4 rfl rfl rfl rfl (by simp)) (W.ok (ok_not rfl) (W.mv (W.yes (dj := 35) rfl rfl (congrArg not hb_top_n) (W.ok (ok_fieldB fd43_4 rfl) (W.yes (dj := 35) rfl rfl (congrArg not hb_top_n) (W.ok (ok_loadB (i := 0) (vs := [.string _]) ty9 rfl rfl rfl rfl (by simp)) (W.yes (dj := 35) rfl rfl (congrArg not hb_top_n) (W.ok (ok_eqlS rfl rfl) (W.yes (dj := 35) rfl rfl (congrArg not hb_top_n) ?_)))))))))))))
 refine W.mv ?_
 refine W.sp 39 rfl (fun h38 => ?_) (fun h38 => ?_)
 ·have p38 := of_decide_eq_true h38
  refine W.no (dj := 39) rfl rfl h38 (W.no (dj := 39) rfl rfl h38 (W.no (dj := 39) rfl rfl h38 (W.no (dj := 39) rfl rfl h38 (W.yes (dj := 35) rfl rfl (congrArg not hb_top_n) (W.ok (ok_pick_t rfl h38) (W.yes (dj := 35) rfl rfl (congrArg not hb_top_n) (W.mv (W.no (dj := 45) rfl rfl rfl (W.no (dj := 45) rfl rfl rfl (W.no (dj := 45) rfl rfl rfl (W.yes (dj := 35) rfl rfl (congrArg not hb_top_n) (W.ok (ok_pick_t rfl rfl) (W.ok (ok_pick_t rfl (congrArg not hb_top_n)) ?_)))))))))))))
  refine W.nil (thn_n (WC.cond_t rfl rfl (WC.seq (WC.region (W.as (W.nil (thn_n (WC.ret (thn_r ?_)))))))))
  refine ⟨.inr rfl, [_], ⟨rfl, trivial⟩, [], sn9, ?_⟩
  refine congrArg Value.bool ?_
  exact (decide_eq_false fun h => by obtain ⟨⟨q1, q2, q3⟩, q4, q5, q6⟩ := h; exact (q5 (by assumption)).1 (Str.ext' p38)).symm
 have p38 := of_decide_eq_false h38
 refine W.yes (dj := 39) rfl rfl h38 (W.ok (ok_fieldB fd43_4 rfl) (W.yes (dj := 39) rfl rfl h38 (W.ok (ok_loadB (i := 0) (vs := [.string _]) ty9 rfl rfl rfl rfl (by simp)) (W.yes (dj := 39) rfl rfl h38 (W.ok (ok_lenS st9 rfl) (W.yes (dj := 39) rfl rfl h38 (W.ok (ok_gtr rfl rfl) (W.yes (dj := 35) rfl rfl (congrArg not hb_top_n) (W.ok (ok_pick_f rfl h38) (W.yes (dj := 35) rfl rfl (congrArg not hb_top_n) (W.mv ?_)))))))))))
 refine W.sp 45 rfl (fun h43 => ?_) (fun h43 => ?_)
 ·have p43 := of_decide_eq_true h43
  refine W.no (dj := 45) rfl rfl h43 (W.no (dj := 45) rfl rfl h43 (W.no (dj := 45) rfl rfl h43 (W.yes (dj := 35) rfl rfl (congrArg not hb_top_n) (W.ok (ok_pick_t rfl h43) (W.ok (ok_pick_t rfl (congrArg not hb_top_n)) (W.nil (thn_n (WC.cond_t rfl rfl (WC.seq (WC.region (W.as (W.nil (thn_n (WC.ret (thn_r ?_)))))))))))))))
  refine ⟨.inr rfl, [_], ⟨rfl, trivial⟩, [], sn9, ?_⟩
  refine congrArg Value.bool ?_
  exact (decide_eq_false fun h => by obtain ⟨⟨q1, q2, q3⟩, q4, q5, q6⟩ := h; have := (q5 (by assumption)).2.1; omega).symm
 have p43 := of_decide_eq_false h43
 refine W.yes (dj := 45) rfl rfl h43 (W.ok (ok_fieldB fd43_6 rfl) (W.yes (dj := 45) rfl rfl h43 (W.ok (ok_loadB (i := 0) (vs := [.int .i64 _]) ty3 rfl rfl rfl rfl (by simp)) (W.yes (dj := 45) rfl rfl h43 (W.ok (ok_lss rfl rfl) (W.yes (dj := 35) rfl rfl (congrArg not hb_top_n) (W.ok (ok_pick_f rfl h43) (W.ok (ok_pick_t rfl (congrArg not hb_top_n)) (W.nil (thn_n ?_))))))))))
 refine WC.cond (b := _) rfl (fun h48 => ?_) (fun h48 => ?_)
 ·have p48 := of_decide_eq_true h48
  refine WC.seq (WC.region (W.as (W.nil (thn_n (WC.ret (thn_r ?_))))))
  refine ⟨.inr rfl, [_], ⟨rfl, trivial⟩, [], sn9, ?_⟩
  refine congrArg Value.bool ?_
  exact (decide_eq_false fun h => by obtain ⟨⟨q1, q2, q3⟩, q4, q5, q6⟩ := h; have := (q5 (by assumption)).2.2; omega).symm
 have p48 := of_decide_eq_false h48
 refine WC.skip (thn_n (WC.seq (WC.seq (WC.region (W.ok (ok_fieldB fd43_1 rfl) (W.ok (ok_loadB (i := 0) (vs := [.int .i64 _]) ty3 rfl rfl rfl rfl (by simp)) (W.ok (ok_eql rfl rfl) (W.nil (thn_n ?_)))))))))
 refine WC.cond (b := _) rfl (fun h53 => ?_) (fun h53 => ?_)
 ·have p53 := of_decide_eq_true h53
  refine WC.seq (WC.region (W.ok (ok_loadB (i := 1) (vs := [.int .i64 _, .int .i64 _, .int .i64 _, .int .i64 _, .int .i64 _]) ty23 rfl rfl rfl rfl (by simp)) (W.ok (ok_loadB (i := 0) (vs := (nd9 _ _ _ _ _ _ _ _ _ _ _ _ _ _ _ _ _ _)) ty43 rfl rfl rfl rfl (by simp)) (W.qcall (nleaf_fc _ _ _ _ _ ⟨_, _, _, _, _, _, _, _, rfl, hp_n, hk_n, hm_n, hr_n, hok_n⟩) rfl (W.as (W.nil (thn_n (WC.ret (thn_r ?_)))))))))
  refine ⟨.inr rfl, [_], ⟨rfl, trivial⟩, [], sn9, ?_⟩
  refine congrArg Value.bool ?_
  exact decide_eq_decide.2 ⟨fun q => ⟨⟨by omega, by omega, by omega⟩, fun h => absurd (hb_top_n.symm.trans h) (by decide), fun _ => ⟨fun e => p38 (congrArg Str.b e), by omega, by omega⟩, by rw [if_pos p53]; exact q⟩, fun h => by have h := h.2.2.2; rw [if_pos p53] at h; exact h⟩
 have p53 := of_decide_eq_false h53
 refine WC.skip (thn_n (WC.seq (WC.region (W.ok (ok_loadB (i := 1) (vs := [.int .i64 _, .int .i64 _, .int .i64 _, .int .i64 _, .int .i64 _]) ty23 rfl rfl rfl rfl (by simp)) (W.ok (ok_loadB (i := 0) (vs := (nd9 _ _ _ _ _ _ _ _ _ _ _ _ _ _ _ _ _ _)) ty43 rfl rfl rfl rfl (by simp)) (W.qcall (ninner_fc _ _ _ _ _ ⟨_, _, _, _, _, _, _, _, rfl, hp_n, hk_n, hm_n, hr_n, hok_n⟩) rfl (W.as (W.nil (thn_n (WC.ret ?_))))))))))
 refine ⟨.inr rfl, [_], ⟨rfl, trivial⟩, [], sn9, ?_⟩
 refine congrArg Value.bool ?_
 exact decide_eq_decide.2 ⟨fun q => ⟨⟨by omega, by omega, by omega⟩, fun h => absurd (hb_top_n.symm.trans h) (by decide), fun _ => ⟨fun e => p38 (congrArg Str.b e), by omega, by omega⟩, by rw [if_neg p53]; exact q⟩, fun h => by have h := h.2.2.2; rw [if_neg p53] at h; exact h⟩

end Go.Proofs.YtmbafmifalppaaaGreat
