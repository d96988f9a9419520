/- Walks of functions that tell whether answers are one. -/
import Derived.Test.YthmkpaoolhcibaaDoorWn
namespace Go.Proofs.YthmkpaoolhcibaaDoor
open Go Go.Fw Go.RowKit
set_option maxRecDepth 100000
set_option maxHeartbeats 1600000
set_option linter.unusedVariables false
set_option linter.unusedSimpArgs false
set_option linter.unnecessarySimpa false
theorem ranssame_fc {G : GH} {cs_a : List Value} {a : Ans} (h_a : AnsC G cs_a a) {cs_b : List Value} {b : Ans} (h_b : AnsC G cs_b b) :
    Fc Tryd.prog 10 [.agg (List.toArray cs_a), .agg (List.toArray cs_b)] G [] (fun v _ _ => v = .bool (decide (a = b))) := by
 obtain ⟨pa_a, pc_a, rfl, hw_a, hok_a⟩ := h_a
 obtain ⟨pa_b, pc_b, rfl, hw_b, hok_b⟩ := h_b
 refine Fc.intro (rs := [.tmp 4]) cl10 Tryd.func10 rfl Tryd.ntmps10 rfl rfl (fun w0 => ?_)
 refine WC.seq ?_
 refine WC.region ?_
 refine W.box (L := [.int .i64 _, .bool _, .string _, .slice _ _ _]) rfl rfl (fun b1 => ?_)
 refine W.box (L := [.int .i64 _, .bool _, .string _, .slice _ _ _]) rfl rfl (fun b2 => ?_)
 refine W.as ?_
 refine W.nil (thn_n ?_)
 refine WC.seq ?_
 refine WC.region ?_
 refine W.ok (ok_fieldB fd27_0 rfl) ?_
 refine W.ok (ok_loadB (i := 1) (vs := [.int .i64 _]) ty24 rfl rfl rfl rfl (by simp)) ?_
 refine W.ok (ok_fieldB fd27_0 rfl) ?_
 refine W.ok (ok_loadB (i := 0) (vs := [.int .i64 _]) ty24 rfl rfl rfl rfl (by simp)) ?_
 refine W.ok (ok_eql rfl rfl) ?_
 refine W.mv ?_
 refine W.sp 10 rfl (fun h9 => ?_) (fun h9 => ?_)
 ·have p9 := of_decide_eq_true h9
  refine W.yes (dj := 10) rfl rfl h9 ?_
  refine W.ok (ok_fieldB fd27_1 rfl) ?_
  refine W.yes (dj := 10) rfl rfl h9 ?_
  refine W.ok (ok_loadB (i := 1) (vs := [.bool _]) ty4 rfl rfl rfl rfl (by simp)) ?_
  refine W.yes (dj := 10) rfl rfl h9 ?_
  refine W.ok (ok_fieldB fd27_1 rfl) ?_
  refine W.yes (dj := 10) rfl rfl h9 ?_
  refine W.ok (ok_loadB (i := 0) (vs := [.bool _]) ty4 rfl rfl rfl rfl (by simp)) ?_
  refine W.yes (dj := 10) rfl rfl h9 ?_
  refine W.ok (ok_eqlB bo4 rfl rfl) ?_
  refine W.ok (ok_pick_t rfl h9) ?_
  refine W.mv ?_
  refine W.sp 17 rfl (fun h15 => ?_) (fun h15 => ?_)
  ·refine W.yes (dj := 17) rfl rfl h15 ?_
   refine W.ok (ok_fieldB fd27_2 rfl) ?_
   refine W.yes (dj := 17) rfl rfl h15 ?_
   refine W.ok (ok_loadB (i := 1) (vs := [.string _]) ty9 rfl rfl rfl rfl (by simp)) ?_
   refine W.yes (dj := 17) rfl rfl h15 ?_
   refine W.ok (ok_fieldB fd27_2 rfl) ?_
   refine W.yes (dj := 17) rfl rfl h15 ?_
   refine W.ok (ok_loadB (i := 0) (vs := [.string _]) ty9 rfl rfl rfl rfl (by simp)) ?_
   refine W.yes (dj := 17) rfl rfl h15 ?_
   refine W.ok (ok_eqlS rfl rfl) ?_
   refine W.ok (ok_pick_t rfl h15) ?_
   refine W.mv ?_
   refine W.sp 24 rfl (fun h22 => ?_) (fun h22 => ?_)
   ·have p22 := of_decide_eq_true h22
    refine W.yes (dj := 24) rfl rfl h22 ?_
    refine W.ok (ok_fieldB fd27_3 rfl) ?_
    refine W.yes (dj := 24) rfl rfl h22 ?_
    refine W.ok (ok_loadB (i := 1) (vs := [.slice _ _ _]) ty25 rfl rfl rfl rfl (by simp)) ?_
    refine W.yes (dj := 24) rfl rfl h22 ?_
    refine W.ok (ok_fieldB fd27_3 rfl) ?_
    refine W.yes (dj := 24) rfl rfl h22 ?_
    refine W.ok (ok_loadB (i := 0) (vs := [.slice _ _ _]) ty25 rfl rfl rfl rfl (by simp)) ?_
    refine W.yes (dj := 24) rfl rfl h22 ?_
    refine W.qcall (samep_fc hw_a hw_b) rfl ?_
    refine W.ok (ok_pick_t rfl h22) ?_
    refine W.as ?_
    refine W.nil (thn_n ?_)
    refine WC.ret ?_
    refine ⟨.inr rfl, [_], ⟨rfl, trivial⟩, [], List.nil_sublist _, ?_⟩
    refine congrArg Value.bool ?_
    rw [Bool.eq_iff_iff, decide_eq_true_iff]
    clear hw_a hok_a hw_b hok_b
    cases a; cases b
    simp_all [Str.b_inj]
   ·have p22 := of_decide_eq_false h22
    refine W.no (dj := 24) rfl rfl h22 ?_
    refine W.no (dj := 24) rfl rfl h22 ?_
    refine W.no (dj := 24) rfl rfl h22 ?_
    refine W.no (dj := 24) rfl rfl h22 ?_
    refine W.no (dj := 24) rfl rfl h22 ?_
    refine W.ok (ok_pick_f rfl h22) ?_
    refine W.as ?_
    refine W.nil (thn_n ?_)
    refine WC.ret ?_
    refine ⟨.inr rfl, [_], ⟨rfl, trivial⟩, [], List.nil_sublist _, ?_⟩
    refine congrArg Value.bool ?_
    rw [Bool.eq_iff_iff, decide_eq_true_iff]
    clear hw_a hok_a hw_b hok_b
    cases a; cases b
    simp_all [Str.b_inj]
  ·refine W.no (dj := 17) rfl rfl h15 ?_
   refine W.no (dj := 17) rfl rfl h15 ?_
   refine W.no (dj := 17) rfl rfl h15 ?_
   refine W.no (dj := 17) rfl rfl h15 ?_
   refine W.no (dj := 17) rfl rfl h15 ?_
   refine W.ok (ok_pick_f rfl h15) ?_
   refine W.mv ?_
   refine W.no (dj := 24) rfl rfl rfl ?_
   refine W.no (dj := 24) rfl rfl rfl ?_
   refine W.no (dj := 24) rfl rfl rfl ?_
   refine W.no (dj := 24) rfl rfl rfl ?_
   refine W.no (dj := 24) rfl rfl rfl ?_
   refine W.ok (ok_pick_f rfl rfl) ?_
   refine W.as ?_
   refine W.nil (thn_n ?_)
   refine WC.ret ?_
   refine ⟨.inr rfl, [_], ⟨rfl, trivial⟩, [], List.nil_sublist _, ?_⟩
   refine congrArg Value.bool ?_
   rw [Bool.eq_iff_iff, decide_eq_true_iff]
   clear hw_a hok_a hw_b hok_b
   cases a; cases b
   simp_all [Str.b_inj]
 ·have p9 := of_decide_eq_false h9
  refine W.no (dj := 10) rfl rfl h9 ?_
  refine W.no (dj := 10) rfl rfl h9 ?_
  refine W.no (dj := 10) rfl rfl h9 ?_
  refine W.no (dj := 10) rfl rfl h9 ?_
  refine W.no (dj := 10) rfl rfl h9 ?_
  refine W.ok (ok_pick_f rfl h9) ?_
  refine W.mv ?_
  refine W.no (dj := 17) rfl rfl rfl ?_
  refine W.no (dj := 17) rfl rfl rfl ?_
  refine W.no (dj := 17) rfl rfl rfl ?_
  refine W.no (dj := 17) rfl rfl rfl ?_
  refine W.no (dj := 17) rfl rfl rfl ?_
  refine W.ok (ok_pick_f rfl rfl) ?_
  refine W.mv ?_
  refine W.no (dj := 24) rfl rfl rfl ?_
  refine W.no (dj := 24) rfl rfl rfl ?_
  refine W.no (dj := 24) rfl rfl rfl ?_
  refine W.no (dj := 24) rfl rfl rfl ?_
  refine W.no (dj := 24) rfl rfl rfl ?_
  refine W.ok (ok_pick_f rfl rfl) ?_
  refine W.as ?_
  refine W.nil (thn_n ?_)
  refine WC.ret ?_
  refine ⟨.inr rfl, [_], ⟨rfl, trivial⟩, [], List.nil_sublist _, ?_⟩
  refine congrArg Value.bool ?_
  rw [Bool.eq_iff_iff, decide_eq_true_iff]
  clear hw_a hok_a hw_b hok_b
  cases a; cases b
  simp_all [Str.b_inj]

theorem ransall_fc {G : GH} {v_a : Value} {a : List Ans} (h_a : SlR eAns G v_a a) {v_b : Value} {b : List Ans} (h_b : SlR eAns G v_b b) :
    Fc Tryd.prog 17 [v_a, v_b] G [] (fun v _ _ => v = .bool (decide (a = b))) := by
 obtain ⟨sa_a, sc_a, rfl⟩ := h_a.form
 obtain ⟨sa_b, sc_b, rfl⟩ := h_b.form
 have ha := h_a.len47
 have hb := h_b.len47
 refine Fc.intro (rs := [.tmp 4]) cl17 Tryd.func17 rfl Tryd.ntmps17 rfl rfl (fun w0 => ?_)
 refine WC.seq ?_
 refine WC.region ?_
 refine W.as ?_
 refine W.nil (thn_n ?_)
 refine WC.seq ?_
 refine WC.seq ?_
 refine WC.region ?_
 refine W.mv ?_
 refine W.ok (ok_len sl36 h_a rfl) ?_
 refine W.mv ?_
 refine W.ok (ok_len sl36 h_b rfl) ?_
 refine W.ok (ok_neq rfl rfl) ?_
 refine W.nil (thn_n ?_)
 refine WC.cond (b := _) rfl (fun h10 => ?_) (fun h10 => ?_)
 ·have p10 := nd_t h10
  refine WC.seq ?_
  refine WC.region ?_
  refine W.as ?_
  refine W.nil (thn_n ?_)
  refine WC.ret (thn_r ?_)
  refine ⟨.inr rfl, [_], ⟨rfl, trivial⟩, [], List.nil_sublist _, ?_⟩
  refine congrArg Value.bool ?_
  exact (decide_eq_false fun e => by subst e; omega).symm
 ·have p10 := nd_f h10
  have hab : a.length = b.length := by omega
  refine WC.skip (thn_n ?_)
  refine WC.seq ?_
  refine WC.seq ?_
  refine WC.region ?_
  refine W.as ?_
  refine W.nil (thn_n ?_)
  refine WC.block ?_
  refine WC.loop (X := Nat) (fun k => [(5, .int .i64 ((k : Nat) : Int)), (0, .slice sa_a a.length sc_a), (1, .slice sa_b b.length sc_b)]) (fun k _ Ml => Ml = [] ∧ k ≤ a.length ∧ ∀ i (h : i < a.length) (h2 : i < b.length), i < k → a[i] = b[i]) (fun k => a.length - k) 0 ⟨(by first | rfl | exact iv (by dsimp only; omega) | exact iv (by omega)), (by first | rfl | exact iv (by dsimp only; omega) | exact iv (by omega)), (by first | rfl | exact iv (by dsimp only; omega) | exact iv (by omega)), trivial⟩ ?_ ?_
  ·exact ⟨rfl, by omega, fun i _ _ h => by omega⟩
  ·rintro k gG3 G3 _ hG3 ⟨rfl, hk0, hk⟩
   refine WC.seq ?_
   refine WC.seq ?_
   refine WC.region ?_
   refine W.mv ?_
   refine W.mv ?_
   refine W.ok (ok_len sl36 (h_a.mono hG3) rfl) ?_
   refine W.ok (ok_lss rfl rfl) ?_
   refine W.nil (thn_n ?_)
   refine WC.cond (b := _) rfl (fun h14 => ?_) (fun h14 => ?_)
   ·have p14 := of_decide_eq_true h14
    refine WC.skip (thn_n ?_)
    refine WC.seq ?_
    refine WC.block ?_
    refine WC.seq ?_
    refine WC.draw mix (by kernel_rfl) ?_
    refine W.mv ?_
    refine W.mv ?_
    have q7 := (h_a.mono hG3).at (i := k) (by omega)
    refine match q7 with | ⟨_, he4, ⟨pa_n5, pc_n5, e_6, hw_n5, hok_n5⟩⟩ => ?_
    subst e_6
    refine W.ok (ok_indexAddr (i := k) sl36 ty27 (h_a.mono hG3) rfl rfl ⟨by omega, by omega⟩) ?_
    refine W.ok (ok_loadE (vs := [.int .i64 _, .bool _, .string _, .slice _ _ _]) ty27 he4 rfl rfl rfl (by simp)) ?_
    refine W.mv ?_
    refine W.mv ?_
    have q11 := (h_b.mono hG3).at (i := k) (by omega)
    refine match q11 with | ⟨_, he8, ⟨pa_n9, pc_n9, e_10, hw_n9, hok_n9⟩⟩ => ?_
    subst e_10
    refine W.ok (ok_indexAddr (i := k) sl36 ty27 (h_b.mono hG3) rfl rfl ⟨by omega, by omega⟩) ?_
    refine W.ok (ok_loadE (vs := [.int .i64 _, .bool _, .string _, .slice _ _ _]) ty27 he8 rfl rfl rfl (by simp)) ?_
    refine W.qcall (ranssame_fc (show AnsC _ _ (a[k]'(by omega)) from ⟨_, _, rfl, hw_n5, hok_n5⟩) (show AnsC _ _ (b[k]'(by omega)) from ⟨_, _, rfl, hw_n9, hok_n9⟩)) rfl ?_
    refine W.ok (ok_not rfl) ?_
    refine W.nil (thn_n ?_)
    refine WC.cond (b := _) rfl (fun h26 => ?_) (fun h26 => ?_)
    ·refine WC.seq ?_
     refine WC.region ?_
     refine W.as ?_
     refine W.nil (thn_n ?_)
     refine WC.ret (blk_r (thn_r (thn_r (blk_r (thn_r ?_)))))
     refine ⟨.inr rfl, [_], ⟨rfl, trivial⟩, [], List.nil_sublist _, ?_⟩
     refine congrArg Value.bool ?_
     exact (decide_eq_false fun e => by subst e; simp at h26).symm
    ·refine WC.skip (blk_n (thn_n ?_))
     refine WC.region ?_
     refine W.mv ?_
     refine W.ok (ok_add rfl rfl (by omega)) ?_
     refine W.as ?_
     refine W.nil (thn_n ?_)
     exact ⟨Le.rfl, k + 1, ⟨(by first | rfl | exact iv (by dsimp only; omega) | exact iv (by omega)), (by first | rfl | exact iv (by dsimp only; omega) | exact iv (by omega)), (by first | rfl | exact iv (by dsimp only; omega) | exact iv (by omega)), trivial⟩, ⟨rfl, by omega, fun i h h2 hi => by
      by_cases e : i = k
      · subst e; simpa using h26
      · exact hk i h h2 (by omega)⟩, by omega⟩
   ·have p14 := of_decide_eq_false h14
    refine WC.exit (thn_x (thn_x (blk_h (thn_n ?_))))
    refine WC.seq ?_
    refine WC.region ?_
    refine W.as ?_
    refine W.nil (thn_n ?_)
    refine WC.ret ?_
    refine ⟨.inr rfl, [_], ⟨rfl, trivial⟩, [], List.nil_sublist _, ?_⟩
    refine congrArg Value.bool ?_
    exact (decide_eq_true (List.ext_getElem (by omega) fun i h h2 => hk i h h2 (by omega))).symm

end Go.Proofs.YthmkpaoolhcibaaDoor
