/- Walks of nodes that are one, and of nodes that are loaded. -/
import Derived.Test.YtmbafmifalppaaaQaU4
import Derived.Test.YtmbafmifalppaaaQaOj
set_option maxRecDepth 100000
set_option maxHeartbeats 1600000
set_option linter.unusedVariables false
set_option linter.unusedSimpArgs false
set_option linter.unnecessarySimpa false
namespace Go.Proofs.Ytmbafmifalppaaa
open Go Go.Fw Go.RowKit
theorem nsame3_fc {G : GH} {cs_a : List Value} {a : Nd} (h_a : NodeC G cs_a a) {cs_b : List Value} {b : Nd} (h_b : NodeC G cs_b b) :
    Fc Try.prog 39 [.agg (List.toArray cs_a), .agg (List.toArray cs_b)] G [] (fun v _ _ => v = .bool (decide (a = b))) := by
 obtain ⟨pa_a, pc_a, ka_a, kc_a, ma_a, mc_a, ra_a, rc_a, rfl, hp_a, hk_a, hm_a, hr_a, hok_a⟩ := h_a
 obtain ⟨pa_b, pc_b, ka_b, kc_b, ma_b, mc_b, ra_b, rc_b, rfl, hp_b, hk_b, hm_b, hr_b, hok_b⟩ := h_b
 refine Fc.intro (rs := [.tmp 4]) cl39 Try.func39 rfl Try.ntmps39 rfl rfl (fun w0 => ?_)
 refine WC.seq (WC.region (W.box (L := (nd9 _ _ _ _ _ _ _ _ _ _ _ _ _ _ _ _ _ _)) rfl rfl (fun b1 => (W.box (L := (nd9 _ _ _ _ _ _ _ _ _ _ _ _ _ _ _ _ _ _)) rfl rfl (fun b2 => (W.as (W.nil (thn_n (WC.seq (WC.seq (WC.region (W.ok (ok_fieldB fd35_0 rfl) (W.ok (ok_loadB (i := 1) (vs := [.int .i64 _]) ty3 rfl rfl rfl rfl (by simp)) (W.ok (ok_fieldB fd35_0 rfl) (W.ok (ok_loadB (i := 0) (vs := [.int .i64 _]) ty3 rfl rfl rfl rfl (by simp)) (W.ok (ok_neq rfl rfl) ?_))))))))))))))))
 refine W.mv ?_
 refine W.sp 10 rfl (fun h9 => ?_) (fun h9 => ?_)
 ·have p9 := nd_t h9
  refine W.no (dj := 10) rfl rfl h9 (W.no (dj := 10) rfl rfl h9 (W.no (dj := 10) rfl rfl h9 (W.no (dj := 10) rfl rfl h9 (W.no (dj := 10) rfl rfl h9 (W.ok (ok_pick_t rfl h9) (W.mv (W.no (dj := 17) rfl rfl rfl (W.no (dj := 17) rfl rfl rfl (W.no (dj := 17) rfl rfl rfl (W.no (dj := 17) rfl rfl rfl (W.no (dj := 17) rfl rfl rfl (W.ok (ok_pick_t rfl rfl) (W.mv ?_)))))))))))))
  refine W.no (dj := 24) rfl rfl rfl (W.no (dj := 24) rfl rfl rfl (W.no (dj := 24) rfl rfl rfl (W.no (dj := 24) rfl rfl rfl (W.no (dj := 24) rfl rfl rfl (W.ok (ok_pick_t rfl rfl) (W.mv (W.no (dj := 31) rfl rfl rfl (W.no (dj := 31) rfl rfl rfl (W.no (dj := 31) rfl rfl rfl (W.no (dj := 31) rfl rfl rfl (W.no (dj := 31) rfl rfl rfl (W.ok (ok_pick_t rfl rfl) (W.mv ?_)))))))))))))
  refine W.no (dj := 38) rfl rfl rfl (W.no (dj := 38) rfl rfl rfl (W.no (dj := 38) rfl rfl rfl (W.no (dj := 38) rfl rfl rfl (W.no (dj := 38) rfl rfl rfl (W.ok (ok_pick_t rfl rfl) (W.nil (thn_n (WC.cond_t rfl rfl (WC.seq (WC.region (W.as (W.nil (thn_n (WC.ret (thn_r ?_)))))))))))))))
  refine ⟨.inr rfl, [_], ⟨rfl, trivial⟩, [], sn9, ?_⟩
  refine congrArg Value.bool ?_
  rw [Bool.eq_iff_iff, decide_eq_true_iff]
  clear hp_a hk_a hm_a hr_a hok_a hp_b hk_b hm_b hr_b hok_b
  cases a; cases b
  simp_all [Str.b_inj]
 have p9 := nd_f h9
 refine W.yes (dj := 10) rfl rfl h9 (W.ok (ok_fieldB fd35_1 rfl) (W.yes (dj := 10) rfl rfl h9 (W.ok (ok_loadB (i := 1) (vs := [.int .i64 _]) ty3 rfl rfl rfl rfl (by simp)) (W.yes (dj := 10) rfl rfl h9 (W.ok (ok_fieldB fd35_1 rfl) (W.yes (dj := 10) rfl rfl h9 (W.ok (ok_loadB (i := 0) (vs := [.int .i64 _]) ty3 rfl rfl rfl rfl (by simp)) (W.yes (dj := 10) rfl rfl h9 (W.ok (ok_neq rfl rfl) (W.ok (ok_pick_f rfl h9) (W.mv ?_)))))))))))
 refine W.sp 17 rfl (fun h15 => ?_) (fun h15 => ?_)
 ·have p15 := nd_t h15
  refine W.no (dj := 17) rfl rfl h15 (W.no (dj := 17) rfl rfl h15 (W.no (dj := 17) rfl rfl h15 (W.no (dj := 17) rfl rfl h15 (W.no (dj := 17) rfl rfl h15 (W.ok (ok_pick_t rfl h15) (W.mv (W.no (dj := 24) rfl rfl rfl (W.no (dj := 24) rfl rfl rfl (W.no (dj := 24) rfl rfl rfl (W.no (dj := 24) rfl rfl rfl (W.no (dj := 24) rfl rfl rfl (W.ok (ok_pick_t rfl rfl) (W.mv ?_)))))))))))))
  refine W.no (dj := 31) rfl rfl rfl (W.no (dj := 31) rfl rfl rfl (W.no (dj := 31) rfl rfl rfl (W.no (dj := 31) rfl rfl rfl (W.no (dj := 31) rfl rfl rfl (W.ok (ok_pick_t rfl rfl) (W.mv (W.no (dj := 38) rfl rfl rfl (W.no (dj := 38) rfl rfl rfl (W.no (dj := 38) rfl rfl rfl (W.no (dj := 38) rfl rfl rfl (W.no (dj := 38) rfl rfl rfl (W.ok (ok_pick_t rfl rfl) (W.nil (thn_n ?_))))))))))))))
  refine WC.cond_t rfl rfl (WC.seq (WC.region (W.as (W.nil (thn_n (WC.ret (thn_r ?_)))))))
  refine ⟨.inr rfl, [_], ⟨rfl, trivial⟩, [], sn9, ?_⟩
  refine congrArg Value.bool ?_
  rw [Bool.eq_iff_iff, decide_eq_true_iff]
  clear hp_a hk_a hm_a hr_a hok_a hp_b hk_b hm_b hr_b hok_b
  cases a; cases b
  simp_all [Str.b_inj]
 have p15 := nd_f h15
 refine W.yes (dj := 17) rfl rfl h15 (W.ok (ok_fieldB fd35_4 rfl) (W.yes (dj := 17) rfl rfl h15 (W.ok (ok_loadB (i := 1) (vs := [.string _]) ty9 rfl rfl rfl rfl (by simp)) (W.yes (dj := 17) rfl rfl h15 (W.ok (ok_fieldB fd35_4 rfl) (W.yes (dj := 17) rfl rfl h15 (W.ok (ok_loadB (i := 0) (vs := [.string _]) ty9 rfl rfl rfl rfl (by simp)) (W.yes (dj := 17) rfl rfl h15 (W.ok (ok_neqS rfl rfl) (W.ok (ok_pick_f rfl h15) (W.mv ?_)))))))))))
 refine W.sp 24 rfl (fun h22 => ?_) (fun h22 => ?_)
 ·have p22 := nd_t h22
  refine W.no (dj := 24) rfl rfl h22 (W.no (dj := 24) rfl rfl h22 (W.no (dj := 24) rfl rfl h22 (W.no (dj := 24) rfl rfl h22 (W.no (dj := 24) rfl rfl h22 (W.ok (ok_pick_t rfl h22) (W.mv (W.no (dj := 31) rfl rfl rfl (W.no (dj := 31) rfl rfl rfl (W.no (dj := 31) rfl rfl rfl (W.no (dj := 31) rfl rfl rfl (W.no (dj := 31) rfl rfl rfl (W.ok (ok_pick_t rfl rfl) (W.mv ?_)))))))))))))
  refine W.no (dj := 38) rfl rfl rfl (W.no (dj := 38) rfl rfl rfl (W.no (dj := 38) rfl rfl rfl (W.no (dj := 38) rfl rfl rfl (W.no (dj := 38) rfl rfl rfl (W.ok (ok_pick_t rfl rfl) (W.nil (thn_n (WC.cond_t rfl rfl (WC.seq (WC.region (W.as (W.nil (thn_n (WC.ret (thn_r ?_)))))))))))))))
  refine ⟨.inr rfl, [_], ⟨rfl, trivial⟩, [], sn9, ?_⟩
  refine congrArg Value.bool ?_
  rw [Bool.eq_iff_iff, decide_eq_true_iff]
  clear hp_a hk_a hm_a hr_a hok_a hp_b hk_b hm_b hr_b hok_b
  cases a; cases b
  simp_all [Str.b_inj]
 have p22 := nd_f h22
 refine W.yes (dj := 24) rfl rfl h22 (W.ok (ok_fieldB fd35_5 rfl) (W.yes (dj := 24) rfl rfl h22 (W.ok (ok_loadB (i := 1) (vs := [.bool _]) ty4 rfl rfl rfl rfl (by simp)) (W.yes (dj := 24) rfl rfl h22 (W.ok (ok_fieldB fd35_5 rfl) (W.yes (dj := 24) rfl rfl h22 (W.ok (ok_loadB (i := 0) (vs := [.bool _]) ty4 rfl rfl rfl rfl (by simp)) (W.yes (dj := 24) rfl rfl h22 (W.ok (ok_neqB bo4 rfl rfl) (W.ok (ok_pick_f rfl h22) (W.mv ?_)))))))))))
 refine W.sp 31 rfl (fun h29 => ?_) (fun h29 => ?_)
 ·refine W.no (dj := 31) rfl rfl h29 (W.no (dj := 31) rfl rfl h29 (W.no (dj := 31) rfl rfl h29 (W.no (dj := 31) rfl rfl h29 (W.no (dj := 31) rfl rfl h29 (W.ok (ok_pick_t rfl h29) (W.mv (W.no (dj := 38) rfl rfl rfl (W.no (dj := 38) rfl rfl rfl (W.no (dj := 38) rfl rfl rfl (W.no (dj := 38) rfl rfl rfl (W.no (dj := 38) rfl rfl rfl (W.ok (ok_pick_t rfl rfl) (W.nil (thn_n ?_))))))))))))))
  refine WC.cond_t rfl rfl (WC.seq (WC.region (W.as (W.nil (thn_n (WC.ret (thn_r ?_)))))))
  refine ⟨.inr rfl, [_], ⟨rfl, trivial⟩, [], sn9, ?_⟩
  refine congrArg Value.bool ?_
  rw [Bool.eq_iff_iff, decide_eq_true_iff]
  clear hp_a hk_a hm_a hr_a hok_a hp_b hk_b hm_b hr_b hok_b
  cases a; cases b
  simp_all [Str.b_inj]
 refine W.yes (dj := 31) rfl rfl h29 (W.ok (ok_fieldB fd35_6 rfl) (W.yes (dj := 31) rfl rfl h29 (W.ok (ok_loadB (i := 1) (vs := [.int .i64 _]) ty3 rfl rfl rfl rfl (by simp)) (W.yes (dj := 31) rfl rfl h29 (W.ok (ok_fieldB fd35_6 rfl) (W.yes (dj := 31) rfl rfl h29 (W.ok (ok_loadB (i := 0) (vs := [.int .i64 _]) ty3 rfl rfl rfl rfl (by simp)) (W.yes (dj := 31) rfl rfl h29 (W.ok (ok_neq rfl rfl) (W.ok (ok_pick_f rfl h29) (W.mv ?_)))))))))))
 refine W.sp 38 rfl (fun h36 => ?_) (fun h36 => ?_)
 ·have p36 := nd_t h36
  refine W.no (dj := 38) rfl rfl h36 (W.no (dj := 38) rfl rfl h36 (W.no (dj := 38) rfl rfl h36 (W.no (dj := 38) rfl rfl h36 (W.no (dj := 38) rfl rfl h36 (W.ok (ok_pick_t rfl h36) (W.nil (thn_n (WC.cond_t rfl rfl (WC.seq (WC.region (W.as (W.nil (thn_n (WC.ret (thn_r ?_)))))))))))))))
  refine ⟨.inr rfl, [_], ⟨rfl, trivial⟩, [], sn9, ?_⟩
  refine congrArg Value.bool ?_
  rw [Bool.eq_iff_iff, decide_eq_true_iff]
  clear hp_a hk_a hm_a hr_a hok_a hp_b hk_b hm_b hr_b hok_b
  cases a; cases b
  simp_all [Str.b_inj]
 have p36 := nd_f h36
 refine W.yes (dj := 38) rfl rfl h36 (W.ok (ok_fieldB fd35_7 rfl) (W.yes (dj := 38) rfl rfl h36 (W.ok (ok_loadB (i := 1) (vs := [.int .i64 _]) ty3 rfl rfl rfl rfl (by simp)) (W.yes (dj := 38) rfl rfl h36 (W.ok (ok_fieldB fd35_7 rfl) (W.yes (dj := 38) rfl rfl h36 (W.ok (ok_loadB (i := 0) (vs := [.int .i64 _]) ty3 rfl rfl rfl rfl (by simp)) (W.yes (dj := 38) rfl rfl h36 (W.ok (ok_neq rfl rfl) (W.ok (ok_pick_f rfl h36) (W.nil (thn_n ?_))))))))))))
 refine WC.cond (b := _) rfl (fun h43 => ?_) (fun h43 => ?_)
 ·have p43 := nd_t h43
  refine WC.seq (WC.region (W.as (W.nil (thn_n (WC.ret (thn_r ?_))))))
  refine ⟨.inr rfl, [_], ⟨rfl, trivial⟩, [], sn9, ?_⟩
  refine congrArg Value.bool ?_
  rw [Bool.eq_iff_iff, decide_eq_true_iff]
  clear hp_a hk_a hm_a hr_a hok_a hp_b hk_b hm_b hr_b hok_b
  cases a; cases b
  simp_all [Str.b_inj]
 have p43 := nd_f h43
 refine WC.skip (thn_n (WC.seq (WC.region (W.ok (ok_fieldB fd35_2 rfl) (W.ok (ok_loadB (i := 1) (vs := [.slice _ _ _]) ty32 rfl rfl rfl rfl (by simp)) (W.ok (ok_fieldB fd35_2 rfl) (W.ok (ok_loadB (i := 0) (vs := [.slice _ _ _]) ty32 rfl rfl rfl rfl (by simp)) (W.qcall (same_fc hp_a hp_b) rfl (W.mv ?_)))))))))
 refine W.sp 50 rfl (fun h49 => ?_) (fun h49 => ?_)
 ·refine W.yes (dj := 50) rfl rfl h49 (W.ok (ok_fieldB fd35_3 rfl) (W.yes (dj := 50) rfl rfl h49 (W.ok (ok_loadB (i := 1) (vs := [.slice _ _ _]) ty30 rfl rfl rfl rfl (by simp)) (W.yes (dj := 50) rfl rfl h49 (W.ok (ok_fieldB fd35_3 rfl) (W.yes (dj := 50) rfl rfl h49 (W.ok (ok_loadB (i := 0) (vs := [.slice _ _ _]) ty30 rfl rfl rfl rfl (by simp)) (W.yes (dj := 50) rfl rfl h49 (W.qcall (ints_fc hk_a hk_b) rfl (W.ok (ok_pick_t rfl h49) (W.mv ?_)))))))))))
  refine W.sp 57 rfl (fun h55 => ?_) (fun h55 => ?_)
  ·refine W.yes (dj := 57) rfl rfl h55 (W.ok (ok_fieldB fd35_8 rfl) (W.yes (dj := 57) rfl rfl h55 (W.ok (ok_loadB (i := 1) (vs := [.slice _ _ _]) ty33 rfl rfl rfl rfl (by simp)) (W.yes (dj := 57) rfl rfl h55 (W.ok (ok_fieldB fd35_8 rfl) (W.yes (dj := 57) rfl rfl h55 (W.ok (ok_loadB (i := 0) (vs := [.slice _ _ _]) ty33 rfl rfl rfl rfl (by simp)) (W.yes (dj := 57) rfl rfl h55 (W.qcall (samem_fc hm_a hm_b) rfl (W.ok (ok_pick_t rfl h55) (W.mv ?_)))))))))))
   refine W.sp 64 rfl (fun h62 => ?_) (fun h62 => ?_)
   ·refine W.yes (dj := 64) rfl rfl h62 (W.ok (ok_fieldB fd35_9 rfl) (W.yes (dj := 64) rfl rfl h62 (W.ok (ok_loadB (i := 1) (vs := [.slice _ _ _]) ty31 rfl rfl rfl rfl (by simp)) (W.yes (dj := 64) rfl rfl h62 (W.ok (ok_fieldB fd35_9 rfl) (W.yes (dj := 64) rfl rfl h62 (W.ok (ok_loadB (i := 0) (vs := [.slice _ _ _]) ty31 rfl rfl rfl rfl (by simp)) (W.yes (dj := 64) rfl rfl h62 (W.qcall (samep_fc hr_a hr_b) rfl (W.ok (ok_pick_t rfl h62) (W.as (W.nil (thn_n (WC.ret ?_))))))))))))))
    refine ⟨.inr rfl, [_], ⟨rfl, trivial⟩, [], sn9, ?_⟩
    refine congrArg Value.bool ?_
    rw [Bool.eq_iff_iff, decide_eq_true_iff]
    clear hp_a hk_a hm_a hr_a hok_a hp_b hk_b hm_b hr_b hok_b
    cases a; cases b
    simp_all [Str.b_inj]
   refine W.no (dj := 64) rfl rfl h62 (W.no (dj := 64) rfl rfl h62 (W.no (dj := 64) rfl rfl h62 (W.no (dj := 64) rfl rfl h62 (W.no (dj := 64) rfl rfl h62 (W.ok (ok_pick_f rfl h62) (W.as (W.nil (thn_n (WC.ret ?_)))))))))
   refine ⟨.inr rfl, [_], ⟨rfl, trivial⟩, [], sn9, ?_⟩
   refine congrArg Value.bool ?_
   rw [Bool.eq_iff_iff, decide_eq_true_iff]
   clear hp_a hk_a hm_a hr_a hok_a hp_b hk_b hm_b hr_b hok_b
   cases a; cases b
   simp_all [Str.b_inj]
  refine W.no (dj := 57) rfl rfl h55 (W.no (dj := 57) rfl rfl h55 (W.no (dj := 57) rfl rfl h55 (W.no (dj := 57) rfl rfl h55 (W.no (dj := 57) rfl rfl h55 (W.ok (ok_pick_f rfl h55) (W.mv (W.no (dj := 64) rfl rfl rfl (W.no (dj := 64) rfl rfl rfl (W.no (dj := 64) rfl rfl rfl (W.no (dj := 64) rfl rfl rfl (W.no (dj := 64) rfl rfl rfl (W.ok (ok_pick_f rfl rfl) (W.as ?_)))))))))))))
  refine W.nil (thn_n (WC.ret ?_))
  refine ⟨.inr rfl, [_], ⟨rfl, trivial⟩, [], sn9, ?_⟩
  refine congrArg Value.bool ?_
  rw [Bool.eq_iff_iff, decide_eq_true_iff]
  clear hp_a hk_a hm_a hr_a hok_a hp_b hk_b hm_b hr_b hok_b
  cases a; cases b
  simp_all [Str.b_inj]
 refine W.no (dj := 50) rfl rfl h49 (W.no (dj := 50) rfl rfl h49 (W.no (dj := 50) rfl rfl h49 (W.no (dj := 50) rfl rfl h49 (W.no (dj := 50) rfl rfl h49 (W.ok (ok_pick_f rfl h49) (W.mv (W.no (dj := 57) rfl rfl rfl (W.no (dj := 57) rfl rfl rfl (W.no (dj := 57) rfl rfl rfl (W.no (dj := 57) rfl rfl rfl (W.no (dj := 57) rfl rfl rfl (W.ok (ok_pick_f rfl rfl) (W.mv ?_)))))))))))))
 refine W.no (dj := 64) rfl rfl rfl (W.no (dj := 64) rfl rfl rfl (W.no (dj := 64) rfl rfl rfl (W.no (dj := 64) rfl rfl rfl (W.no (dj := 64) rfl rfl rfl (W.ok (ok_pick_f rfl rfl) (W.as (W.nil (thn_n (WC.ret ?_)))))))))
 refine ⟨.inr rfl, [_], ⟨rfl, trivial⟩, [], sn9, ?_⟩
 refine congrArg Value.bool ?_
 rw [Bool.eq_iff_iff, decide_eq_true_iff]
 clear hp_a hk_a hm_a hr_a hok_a hp_b hk_b hm_b hr_b hok_b
 cases a; cases b
 simp_all [Str.b_inj]

theorem all21_fc {G : GH} {v_a : Value} {a : List Nd} (h_a : SlR eNode G v_a a) {v_b : Value} {b : List Nd} (h_b : SlR eNode G v_b b) :
    Fc Try.prog 40 [v_a, v_b] G [] (fun v _ _ => v = .bool (decide (a = b))) := by
 obtain ⟨sa_a, sc_a, rfl⟩ := h_a.form
 obtain ⟨sa_b, sc_b, rfl⟩ := h_b.form
 have ha := h_a.len47
 have hb := h_b.len47
 refine Fc.intro (rs := [.tmp 4]) cl40 Try.func40 rfl Try.ntmps40 rfl rfl (fun w0 => ?_)
 refine WC.seq (WC.region (W.as (W.nil (thn_n (WC.seq (WC.seq (WC.region (W.mv (W.ok (ok_len sl24 h_a rfl) (W.mv (W.ok (ok_len sl24 h_b rfl) (W.ok (ok_neq rfl rfl) (W.nil (thn_n ?_))))))))))))))
 refine WC.cond (b := _) rfl (fun h10 => ?_) (fun h10 => ?_)
 ·have p10 := nd_t h10
  refine WC.seq (WC.region (W.as (W.nil (thn_n (WC.ret (thn_r ?_))))))
  refine ⟨.inr rfl, [_], ⟨rfl, trivial⟩, [], sn9, ?_⟩
  refine congrArg Value.bool ?_
  exact (decide_eq_false fun e => by subst e; omega).symm
 have p10 := nd_f h10
 have hab : a.length = b.length := by omega
 refine WC.skip (thn_n (WC.seq (WC.seq (WC.region (W.as (W.nil (thn_n (WC.block ?_))))))))
 refine WC.loop (X := Nat) (fun k => [(5, .int .i64 ((k : Nat) : Int)), (0, .slice sa_a a.length sc_a), (1, .slice sa_b b.length sc_b)]) (fun k _ Ml => Ml = [] ∧ k ≤ a.length ∧ ∀ i (h : i < a.length) (h2 : i < b.length), i < k → a[i] = b[i]) (fun k => a.length - k) 0 ⟨eqv, eqv, eqv, trivial⟩ ?_ ?_
 ·exact ⟨rfl, by omega, fun i _ _ h => by omega⟩
 rintro k gG3 G3 _ hG3 ⟨rfl, hk0, hk⟩
 refine WC.seq (WC.seq (WC.region (W.mv (W.mv (W.ok (ok_len sl24 (h_a.mono hG3) rfl) (W.ok (ok_lss rfl rfl) (W.nil (thn_n ?_))))))))
 refine WC.cond (b := _) rfl (fun h14 => ?_) (fun h14 => ?_)
 ·have p14 := of_decide_eq_true h14
  refine WC.skip (thn_n (WC.seq (WC.block (WC.seq (WC.draw mix (by kernel_rfl) (W.mv (W.mv ?_)))))))
  have q7 := (h_a.mono hG3).at (i := k) (by omega)
  refine match q7 with | ⟨_, he4, ⟨pa_n5, pc_n5, ka_n5, kc_n5, ma_n5, mc_n5, ra_n5, rc_n5, e_6, hp_n5, hk_n5, hm_n5, hr_n5, hok_n5⟩⟩ => ?_
  subst e_6
  refine W.ok (ok_indexAddr (i := k) sl24 ty35 (h_a.mono hG3) rfl rfl ⟨by omega, by omega⟩) (W.ok (ok_loadE (vs := (nd9 _ _ _ _ _ _ _ _ _ _ _ _ _ _ _ _ _ _)) ty35 he4 rfl rfl rfl (by simp)) (W.mv (W.mv ?_)))
  have q11 := (h_b.mono hG3).at (i := k) (by omega)
  refine match q11 with | ⟨_, he8, ⟨pa_n9, pc_n9, ka_n9, kc_n9, ma_n9, mc_n9, ra_n9, rc_n9, e_10, hp_n9, hk_n9, hm_n9, hr_n9, hok_n9⟩⟩ => ?_
  subst e_10
  refine W.ok (ok_indexAddr (i := k) sl24 ty35 (h_b.mono hG3) rfl rfl ⟨by omega, by omega⟩) (W.ok (ok_loadE (vs := (nd9 _ _ _ _ _ _ _ _ _ _ _ _ _ _ _ _ _ _)) ty35 he8 rfl rfl rfl (by simp)) (W.qcall (nsame3_fc (a := a[k]'(by omega)) (b := b[k]'(by omega)) ⟨_, _, _, _, _, _, _, _, rfl, hp_n5, hk_n5, hm_n5, hr_n5, hok_n5⟩ ⟨_, _, _, _, _, _, _, _, rfl, hp_n9, hk_n9, hm_n9, hr_n9, hok_n9⟩) rfl (W.ok (ok_not rfl) (W.nil (thn_n ?_)))))
  refine WC.cond (b := _) rfl (fun h26 => ?_) (fun h26 => ?_)
  ·refine WC.seq (WC.region (W.as (W.nil (thn_n (WC.ret (blk_r (thn_r (thn_r (blk_r (thn_r ?_))))))))))
   refine ⟨.inr rfl, [_], ⟨rfl, trivial⟩, [], sn9, ?_⟩
   refine congrArg Value.bool ?_
   exact (decide_eq_false fun e => by subst e; simp at h26).symm
  refine WC.skip (blk_n (thn_n (WC.region (W.mv (W.ok (ok_add rfl rfl (by omega)) (W.as (W.nil (thn_n ?_))))))))
  exact ⟨Le.rfl, k + 1, ⟨eqv, eqv, eqv, trivial⟩, ⟨rfl, by omega, fun i h h2 hi => by
      by_cases e : i = k
      · subst e; simpa using h26
      · exact hk i h h2 (by omega)⟩, by omega⟩
 have p14 := of_decide_eq_false h14
 refine WC.exit (thn_x (thn_x (blk_h (thn_n (WC.seq (WC.region (W.as (W.nil (thn_n (WC.ret ?_))))))))))
 refine ⟨.inr rfl, [_], ⟨rfl, trivial⟩, [], sn9, ?_⟩
 refine congrArg Value.bool ?_
 exact (decide_eq_true (List.ext_getElem (by omega) fun i h h2 => hk i h h2 (by omega))).symm

theorem light_fc {G : GH} {v_l : Value} {l : List Nd} (h_l : SlR eNode G v_l l) (n : Int) (m : Int) (hm : 0 ≤ m ∧ m ≤ 1073741824) :
    Fc Try.prog 20 [v_l, .int .i64 n, .int .i64 m] G [] (fun v _ _ => v = .bool (decide (Light l n m))) := by
 obtain ⟨sa_l, sc_l, rfl⟩ := h_l.form
 have hl := h_l.len47
 refine Fc.intro (rs := [.tmp 6]) cl20 Try.func20 rfl Try.ntmps20 rfl rfl (fun w0 => ?_)
 refine WC.seq (WC.region (W.as (W.nil (thn_n (WC.seq (WC.seq (WC.region (W.mv (W.ok (ok_len sl24 h_l rfl) (W.mv (W.ok (ok_gtr rfl rfl) (W.nil (thn_n ?_)))))))))))))
 refine WC.cond (b := _) rfl (fun h11 => ?_) (fun h11 => ?_)
 ·have p11 := of_decide_eq_true h11
  refine WC.seq (WC.region (W.as (W.nil (thn_n (WC.ret (thn_r ?_))))))
  refine ⟨.inr rfl, [_], ⟨rfl, trivial⟩, [], sn9, ?_⟩
  refine congrArg Value.bool ?_
  exact (decide_eq_false fun h => by have := h.1; omega).symm
 have p11 := of_decide_eq_false h11
 refine WC.skip (thn_n (WC.seq (WC.seq (WC.region (W.as (W.nil (thn_n (WC.block ?_))))))))
 refine WC.loop (X := Nat) (fun k => [(7, .int .i64 ((k : Nat) : Int)), (0, .slice sa_l l.length sc_l), (1, .int .i64 n), (2, .int .i64 m)]) (fun k _ Ml => Ml = [] ∧ ∀ i (h : i < l.length), i < k → l[i].light m) (fun k => l.length - k) 0 ⟨eqv, eqv, eqv, eqv, trivial⟩ ?_ ?_
 ·exact ⟨rfl, fun i _ h => by omega⟩
 rintro k gG12 G12 _ hG12 ⟨rfl, hk⟩
 refine WC.seq (WC.seq (WC.region (W.mv (W.mv (W.ok (ok_len sl24 (h_l.mono hG12) rfl) (W.ok (ok_lss rfl rfl) (W.nil (thn_n ?_))))))))
 refine WC.cond (b := _) rfl (fun h15 => ?_) (fun h15 => ?_)
 ·have p15 := of_decide_eq_true h15
  refine WC.skip (thn_n (WC.seq (WC.block (WC.seq (WC.region (W.mv (W.mv ?_)))))))
  have q16 := (h_l.mono hG12).at (i := k) (by omega)
  refine match q16 with | ⟨_, he13, ⟨pa_n14, pc_n14, ka_n14, kc_n14, ma_n14, mc_n14, ra_n14, rc_n14, e_15, hp_n14, hk_n14, hm_n14, hr_n14, hok_n14⟩⟩ => ?_
  subst e_15
  refine W.ok (ok_indexAddr (i := k) sl24 ty35 (h_l.mono hG12) rfl rfl ⟨by omega, by omega⟩) (W.ok (ok_fieldE fd35_9 rfl he13.form) (W.ok (ok_loadE (vs := [.slice _ _ _]) ty31 he13 rfl rfl rfl (by simp)) (W.mv (W.qcall (longp_fc hr_n14 _ (by omega)) rfl (W.ok (ok_not rfl) (W.mv ?_))))))
  refine W.sp 26 rfl (fun h25 => ?_) (fun h25 => ?_)
  ·refine W.no (dj := 26) rfl rfl h25 (W.no (dj := 26) rfl rfl h25 (W.no (dj := 26) rfl rfl h25 (W.no (dj := 26) rfl rfl h25 (W.no (dj := 26) rfl rfl h25 (W.no (dj := 26) rfl rfl h25 (W.no (dj := 26) rfl rfl h25 (W.no (dj := 26) rfl rfl h25 (W.no (dj := 26) rfl rfl h25 (W.ok (ok_pick_t rfl h25) (W.mv (W.no (dj := 37) rfl rfl rfl (W.no (dj := 37) rfl rfl rfl (W.no (dj := 37) rfl rfl rfl ?_)))))))))))))
   refine W.no (dj := 37) rfl rfl rfl (W.no (dj := 37) rfl rfl rfl (W.no (dj := 37) rfl rfl rfl (W.no (dj := 37) rfl rfl rfl (W.no (dj := 37) rfl rfl rfl (W.ok (ok_pick_t rfl rfl) (W.mv (W.no (dj := 47) rfl rfl rfl (W.no (dj := 47) rfl rfl rfl (W.no (dj := 47) rfl rfl rfl (W.no (dj := 47) rfl rfl rfl (W.no (dj := 47) rfl rfl rfl (W.no (dj := 47) rfl rfl rfl (W.no (dj := 47) rfl rfl rfl ?_)))))))))))))
   refine W.no (dj := 47) rfl rfl rfl (W.ok (ok_pick_t rfl rfl) (W.mv (W.no (dj := 57) rfl rfl rfl (W.no (dj := 57) rfl rfl rfl (W.no (dj := 57) rfl rfl rfl (W.no (dj := 57) rfl rfl rfl (W.no (dj := 57) rfl rfl rfl (W.no (dj := 57) rfl rfl rfl (W.no (dj := 57) rfl rfl rfl (W.no (dj := 57) rfl rfl rfl (W.ok (ok_pick_t rfl rfl) (W.nil (thn_n (WC.cond_t rfl rfl ?_))))))))))))))
   refine WC.seq (WC.region (W.as (W.nil (thn_n (WC.ret (blk_r (thn_r (thn_r (blk_r (thn_r ?_))))))))))
   refine ⟨.inr rfl, [_], ⟨rfl, trivial⟩, [], sn9, ?_⟩
   refine congrArg Value.bool ?_
   exact (decide_eq_false fun h => by obtain ⟨q1, q2, q3, q4, q5⟩ := h.2 k (by omega); first | omega | (simp at h25; omega) | (simp at h55; omega)).symm
  refine W.yes (dj := 26) rfl rfl h25 (W.mv (W.yes (dj := 26) rfl rfl h25 (W.mv (W.yes (dj := 26) rfl rfl h25 ?_))))
  have q20 := (h_l.mono hG12).at (i := k) (by omega)
  refine match q20 with | ⟨_, he17, ⟨pa_n18, pc_n18, ka_n18, kc_n18, ma_n18, mc_n18, ra_n18, rc_n18, e_19, hp_n18, hk_n18, hm_n18, hr_n18, hok_n18⟩⟩ => ?_
  subst e_19
  refine W.ok (ok_indexAddr (i := k) sl24 ty35 (h_l.mono hG12) rfl rfl ⟨by omega, by omega⟩) (W.yes (dj := 26) rfl rfl h25 (W.ok (ok_fieldE fd35_2 rfl he17.form) (W.yes (dj := 26) rfl rfl h25 (W.ok (ok_loadE (vs := [.slice _ _ _]) ty32 he17 rfl rfl rfl (by simp)) (W.yes (dj := 26) rfl rfl h25 (W.mv (W.yes (dj := 26) rfl rfl h25 (W.qcall (rlong_fc hp_n18 _ (by omega)) rfl (W.yes (dj := 26) rfl rfl h25 (W.mv (W.yes (dj := 26) rfl rfl h25 (W.ok (ok_gtr rfl rfl) (W.ok (ok_pick_f rfl h25) ?_)))))))))))))
  refine W.mv ?_
  refine W.sp 37 rfl (fun h35 => ?_) (fun h35 => ?_)
  ·have p35 := of_decide_eq_true h35
   refine W.no (dj := 37) rfl rfl h35 (W.no (dj := 37) rfl rfl h35 (W.no (dj := 37) rfl rfl h35 (W.no (dj := 37) rfl rfl h35 (W.no (dj := 37) rfl rfl h35 (W.no (dj := 37) rfl rfl h35 (W.no (dj := 37) rfl rfl h35 (W.no (dj := 37) rfl rfl h35 (W.ok (ok_pick_t rfl h35) (W.mv (W.no (dj := 47) rfl rfl rfl (W.no (dj := 47) rfl rfl rfl (W.no (dj := 47) rfl rfl rfl (W.no (dj := 47) rfl rfl rfl ?_)))))))))))))
   refine W.no (dj := 47) rfl rfl rfl (W.no (dj := 47) rfl rfl rfl (W.no (dj := 47) rfl rfl rfl (W.no (dj := 47) rfl rfl rfl (W.ok (ok_pick_t rfl rfl) (W.mv (W.no (dj := 57) rfl rfl rfl (W.no (dj := 57) rfl rfl rfl (W.no (dj := 57) rfl rfl rfl (W.no (dj := 57) rfl rfl rfl (W.no (dj := 57) rfl rfl rfl (W.no (dj := 57) rfl rfl rfl (W.no (dj := 57) rfl rfl rfl (W.no (dj := 57) rfl rfl rfl ?_)))))))))))))
   refine W.ok (ok_pick_t rfl rfl) (W.nil (thn_n (WC.cond_t rfl rfl (WC.seq (WC.region (W.as (W.nil (thn_n (WC.ret (blk_r (thn_r (thn_r (blk_r (thn_r ?_))))))))))))))
   refine ⟨.inr rfl, [_], ⟨rfl, trivial⟩, [], sn9, ?_⟩
   refine congrArg Value.bool ?_
   exact (decide_eq_false fun h => by obtain ⟨q1, q2, q3, q4, q5⟩ := h.2 k (by omega); first | omega | (simp at h25; omega) | (simp at h55; omega)).symm
  have p35 := of_decide_eq_false h35
  refine W.yes (dj := 37) rfl rfl h35 (W.mv (W.yes (dj := 37) rfl rfl h35 (W.mv (W.yes (dj := 37) rfl rfl h35 ?_))))
  have q24 := (h_l.mono hG12).at (i := k) (by omega)
  refine match q24 with | ⟨_, he21, ⟨pa_n22, pc_n22, ka_n22, kc_n22, ma_n22, mc_n22, ra_n22, rc_n22, e_23, hp_n22, hk_n22, hm_n22, hr_n22, hok_n22⟩⟩ => ?_
  subst e_23
  refine W.ok (ok_indexAddr (i := k) sl24 ty35 (h_l.mono hG12) rfl rfl ⟨by omega, by omega⟩) (W.yes (dj := 37) rfl rfl h35 (W.ok (ok_fieldE fd35_3 rfl he21.form) (W.yes (dj := 37) rfl rfl h35 (W.ok (ok_loadE (vs := [.slice _ _ _]) ty30 he21 rfl rfl rfl (by simp)) (W.yes (dj := 37) rfl rfl h35 (W.ok (ok_len sl30 hk_n22 rfl) (W.yes (dj := 37) rfl rfl h35 (W.mv (W.yes (dj := 37) rfl rfl h35 (W.ok (ok_gtr rfl rfl) (W.ok (ok_pick_f rfl h35) (W.mv ?_))))))))))))
  refine W.sp 47 rfl (fun h45 => ?_) (fun h45 => ?_)
  ·have p45 := of_decide_eq_true h45
   refine W.no (dj := 47) rfl rfl h45 (W.no (dj := 47) rfl rfl h45 (W.no (dj := 47) rfl rfl h45 (W.no (dj := 47) rfl rfl h45 (W.no (dj := 47) rfl rfl h45 (W.no (dj := 47) rfl rfl h45 (W.no (dj := 47) rfl rfl h45 (W.no (dj := 47) rfl rfl h45 (W.ok (ok_pick_t rfl h45) (W.mv (W.no (dj := 57) rfl rfl rfl (W.no (dj := 57) rfl rfl rfl (W.no (dj := 57) rfl rfl rfl (W.no (dj := 57) rfl rfl rfl ?_)))))))))))))
   refine W.no (dj := 57) rfl rfl rfl (W.no (dj := 57) rfl rfl rfl (W.no (dj := 57) rfl rfl rfl (W.no (dj := 57) rfl rfl rfl (W.ok (ok_pick_t rfl rfl) (W.nil (thn_n (WC.cond_t rfl rfl (WC.seq (WC.region (W.as (W.nil (thn_n (WC.ret (blk_r (thn_r (thn_r (blk_r (thn_r ?_))))))))))))))))))
   refine ⟨.inr rfl, [_], ⟨rfl, trivial⟩, [], sn9, ?_⟩
   refine congrArg Value.bool ?_
   exact (decide_eq_false fun h => by obtain ⟨q1, q2, q3, q4, q5⟩ := h.2 k (by omega); first | omega | (simp at h25; omega) | (simp at h55; omega)).symm
  have p45 := of_decide_eq_false h45
  refine W.yes (dj := 47) rfl rfl h45 (W.mv (W.yes (dj := 47) rfl rfl h45 (W.mv (W.yes (dj := 47) rfl rfl h45 ?_))))
  have q28 := (h_l.mono hG12).at (i := k) (by omega)
  refine match q28 with | ⟨_, he25, ⟨pa_n26, pc_n26, ka_n26, kc_n26, ma_n26, mc_n26, ra_n26, rc_n26, e_27, hp_n26, hk_n26, hm_n26, hr_n26, hok_n26⟩⟩ => ?_
  subst e_27
  refine W.ok (ok_indexAddr (i := k) sl24 ty35 (h_l.mono hG12) rfl rfl ⟨by omega, by omega⟩) (W.yes (dj := 47) rfl rfl h45 (W.ok (ok_fieldE fd35_8 rfl he25.form) (W.yes (dj := 47) rfl rfl h45 (W.ok (ok_loadE (vs := [.slice _ _ _]) ty33 he25 rfl rfl rfl (by simp)) (W.yes (dj := 47) rfl rfl h45 (W.mv (W.yes (dj := 47) rfl rfl h45 (W.qcall (few_fc hm_n26 _ (by omega)) rfl (W.yes (dj := 47) rfl rfl h45 (W.ok (ok_not rfl) (W.ok (ok_pick_f rfl h45) (W.mv ?_))))))))))))
  refine W.sp 57 rfl (fun h55 => ?_) (fun h55 => ?_)
  ·refine W.no (dj := 57) rfl rfl h55 (W.no (dj := 57) rfl rfl h55 (W.no (dj := 57) rfl rfl h55 (W.no (dj := 57) rfl rfl h55 (W.no (dj := 57) rfl rfl h55 (W.no (dj := 57) rfl rfl h55 (W.no (dj := 57) rfl rfl h55 (W.no (dj := 57) rfl rfl h55 (W.ok (ok_pick_t rfl h55) (W.nil (thn_n (WC.cond_t rfl rfl (WC.seq (WC.region (W.as ?_))))))))))))))
   refine W.nil (thn_n (WC.ret (blk_r (thn_r (thn_r (blk_r (thn_r ?_)))))))
   refine ⟨.inr rfl, [_], ⟨rfl, trivial⟩, [], sn9, ?_⟩
   refine congrArg Value.bool ?_
   exact (decide_eq_false fun h => by obtain ⟨q1, q2, q3, q4, q5⟩ := h.2 k (by omega); first | omega | (simp at h25; omega) | (simp at h55; omega)).symm
  refine W.yes (dj := 57) rfl rfl h55 (W.mv (W.yes (dj := 57) rfl rfl h55 (W.mv (W.yes (dj := 57) rfl rfl h55 ?_))))
  have q32 := (h_l.mono hG12).at (i := k) (by omega)
  refine match q32 with | ⟨_, he29, ⟨pa_n30, pc_n30, ka_n30, kc_n30, ma_n30, mc_n30, ra_n30, rc_n30, e_31, hp_n30, hk_n30, hm_n30, hr_n30, hok_n30⟩⟩ => ?_
  subst e_31
  refine W.ok (ok_indexAddr (i := k) sl24 ty35 (h_l.mono hG12) rfl rfl ⟨by omega, by omega⟩) (W.yes (dj := 57) rfl rfl h55 (W.ok (ok_fieldE fd35_4 rfl he29.form) (W.yes (dj := 57) rfl rfl h55 (W.ok (ok_loadE (vs := [.string _]) ty9 he29 rfl rfl rfl (by simp)) (W.yes (dj := 57) rfl rfl h55 (W.ok (ok_lenS st9 rfl) (W.yes (dj := 57) rfl rfl h55 (W.mv (W.yes (dj := 57) rfl rfl h55 (W.ok (ok_gtr rfl rfl) (W.ok (ok_pick_f rfl h55) (W.nil (thn_n ?_)))))))))))))
  refine WC.cond (b := _) rfl (fun h65 => ?_) (fun h65 => ?_)
  ·have p65 := of_decide_eq_true h65
   refine WC.seq (WC.region (W.as (W.nil (thn_n (WC.ret (blk_r (thn_r (thn_r (blk_r (thn_r ?_))))))))))
   refine ⟨.inr rfl, [_], ⟨rfl, trivial⟩, [], sn9, ?_⟩
   refine congrArg Value.bool ?_
   exact (decide_eq_false fun h => by obtain ⟨q1, q2, q3, q4, q5⟩ := h.2 k (by omega); first | omega | (simp at h25; omega) | (simp at h55; omega)).symm
  have p65 := of_decide_eq_false h65
  refine WC.skip (blk_n (thn_n (WC.region (W.mv (W.ok (ok_add rfl rfl (by omega)) (W.as (W.nil (thn_n ?_))))))))
  exact ⟨Le.rfl, k + 1, ⟨eqv, eqv, eqv, eqv, trivial⟩, ⟨rfl, fun i h hi => by
      by_cases e : i = k
      · subst e; exact ⟨by simpa using h25, by omega, by omega, by simpa using h55, by omega⟩
      · exact hk i h (by omega)⟩, by omega⟩
 have p15 := of_decide_eq_false h15
 refine WC.exit (thn_x (thn_x (blk_h (thn_n (WC.seq (WC.region (W.as (W.nil (thn_n (WC.ret ?_))))))))))
 refine ⟨.inr rfl, [_], ⟨rfl, trivial⟩, [], sn9, ?_⟩
 refine congrArg Value.bool ?_
 exact (decide_eq_true ⟨by omega, fun i h => hk i h (by omega)⟩).symm

end Go.Proofs.Ytmbafmifalppaaa
