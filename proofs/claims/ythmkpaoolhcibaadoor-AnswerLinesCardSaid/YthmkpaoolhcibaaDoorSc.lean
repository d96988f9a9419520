/- The example of chapter 10 is walked. -/
import Derived.Test.YthmkpaoolhcibaaDoorSb
import Derived.Test.YthmkpaoolhcibaaDoorPb
import Derived.Test.YthmkpaoolhcibaaDoorLn
namespace Go.Proofs.YthmkpaoolhcibaaDoor
open Go Go.Fw Go.RowKit
set_option maxRecDepth 100000
set_option maxHeartbeats 1600000
set_option linter.unusedVariables false
set_option linter.unusedSimpArgs false
set_option linter.unnecessarySimpa false
def S_104_97_115_32 : Str := ⟨⟨#[104, 97, 115, 32]⟩, by decide⟩
def S_97 : Str := ⟨⟨#[97]⟩, by decide⟩
def S_49 : Str := ⟨⟨#[49]⟩, by decide⟩
def S_104_97_115_32_49 : Str := ⟨⟨#[104, 97, 115, 32, 49]⟩, by decide⟩
theorem asame_fc {G : GH} {cs_a : List Value} {a : Ans} (h_a : AnsC G cs_a a) {cs_b : List Value} {b : Ans} (h_b : AnsC G cs_b b) :
    Fc Tryd.prog 9 [.agg (List.toArray cs_a), .agg (List.toArray cs_b)] G [] (fun v _ _ => v = .bool (decide (a = b))) := by
 obtain ⟨pa_a, pc_a, rfl, hw_a, hok_a⟩ := h_a
 obtain ⟨pa_b, pc_b, rfl, hw_b, hok_b⟩ := h_b
 refine Fc.intro (rs := [.tmp 4]) cl9 Tryd.func9 rfl Tryd.ntmps9 rfl rfl (fun w0 => ?_)
 refine WC.seq ?_
 refine WC.region ?_
 refine W.box (L := [.int .i64 _, .bool _, .string _, .slice _ _ _]) rfl rfl (fun b1 => ?_)
 refine W.box (L := [.int .i64 _, .bool _, .string _, .slice _ _ _]) rfl rfl (fun b2 => ?_)
 refine W.as ?_
 refine W.nil (thn_n ?_)
 refine WC.seq ?_
 refine WC.region ?_
 refine W.ok (ok_fieldB fd27_0 rfl) ?_
 refine W.ok (ok_loadB (i := 1) (vs := [.int .i64 _]) ty24 rfl rfl rfl rfl (by simp)) ?_
 refine W.ok (ok_fieldB fd27_0 rfl) ?_
 refine W.ok (ok_loadB (i := 0) (vs := [.int .i64 _]) ty24 rfl rfl rfl rfl (by simp)) ?_
 refine W.ok (ok_eql rfl rfl) ?_
 refine W.mv ?_
 refine W.sp 10 rfl (fun h9 => ?_) (fun h9 => ?_)
 ·have p9 := of_decide_eq_true h9
  refine W.yes (dj := 10) rfl rfl h9 ?_
  refine W.ok (ok_fieldB fd27_1 rfl) ?_
  refine W.yes (dj := 10) rfl rfl h9 ?_
  refine W.ok (ok_loadB (i := 1) (vs := [.bool _]) ty4 rfl rfl rfl rfl (by simp)) ?_
  refine W.yes (dj := 10) rfl rfl h9 ?_
  refine W.ok (ok_fieldB fd27_1 rfl) ?_
  refine W.yes (dj := 10) rfl rfl h9 ?_
  refine W.ok (ok_loadB (i := 0) (vs := [.bool _]) ty4 rfl rfl rfl rfl (by simp)) ?_
  refine W.yes (dj := 10) rfl rfl h9 ?_
  refine W.ok (ok_eqlB bo4 rfl rfl) ?_
  refine W.ok (ok_pick_t rfl h9) ?_
  refine W.mv ?_
  refine W.sp 17 rfl (fun h15 => ?_) (fun h15 => ?_)
  ·refine W.yes (dj := 17) rfl rfl h15 ?_
   refine W.ok (ok_fieldB fd27_2 rfl) ?_
   refine W.yes (dj := 17) rfl rfl h15 ?_
   refine W.ok (ok_loadB (i := 1) (vs := [.string _]) ty9 rfl rfl rfl rfl (by simp)) ?_
   refine W.yes (dj := 17) rfl rfl h15 ?_
   refine W.ok (ok_fieldB fd27_2 rfl) ?_
   refine W.yes (dj := 17) rfl rfl h15 ?_
   refine W.ok (ok_loadB (i := 0) (vs := [.string _]) ty9 rfl rfl rfl rfl (by simp)) ?_
   refine W.yes (dj := 17) rfl rfl h15 ?_
   refine W.ok (ok_eqlS rfl rfl) ?_
   refine W.ok (ok_pick_t rfl h15) ?_
   refine W.mv ?_
   refine W.sp 24 rfl (fun h22 => ?_) (fun h22 => ?_)
   ·have p22 := of_decide_eq_true h22
    refine W.yes (dj := 24) rfl rfl h22 ?_
    refine W.ok (ok_fieldB fd27_3 rfl) ?_
    refine W.yes (dj := 24) rfl rfl h22 ?_
    refine W.ok (ok_loadB (i := 1) (vs := [.slice _ _ _]) ty25 rfl rfl rfl rfl (by simp)) ?_
    refine W.yes (dj := 24) rfl rfl h22 ?_
    refine W.ok (ok_fieldB fd27_3 rfl) ?_
    refine W.yes (dj := 24) rfl rfl h22 ?_
    refine W.ok (ok_loadB (i := 0) (vs := [.slice _ _ _]) ty25 rfl rfl rfl rfl (by simp)) ?_
    refine W.yes (dj := 24) rfl rfl h22 ?_
    refine W.qcall (msame9_fc hw_a hw_b) rfl ?_
    refine W.ok (ok_pick_t rfl h22) ?_
    refine W.as ?_
    refine W.nil (thn_n ?_)
    refine WC.ret ?_
    refine ⟨.inr rfl, [_], ⟨rfl, trivial⟩, [], List.nil_sublist _, ?_⟩
    refine congrArg Value.bool ?_
    rw [Bool.eq_iff_iff, decide_eq_true_iff]
    clear hw_a hok_a hw_b hok_b
    cases a; cases b
    simp_all [Str.b_inj]
   ·have p22 := of_decide_eq_false h22
    refine W.no (dj := 24) rfl rfl h22 ?_
    refine W.no (dj := 24) rfl rfl h22 ?_
    refine W.no (dj := 24) rfl rfl h22 ?_
    refine W.no (dj := 24) rfl rfl h22 ?_
    refine W.no (dj := 24) rfl rfl h22 ?_
    refine W.ok (ok_pick_f rfl h22) ?_
    refine W.as ?_
    refine W.nil (thn_n ?_)
    refine WC.ret ?_
    refine ⟨.inr rfl, [_], ⟨rfl, trivial⟩, [], List.nil_sublist _, ?_⟩
    refine congrArg Value.bool ?_
    rw [Bool.eq_iff_iff, decide_eq_true_iff]
    clear hw_a hok_a hw_b hok_b
    cases a; cases b
    simp_all [Str.b_inj]
  ·refine W.no (dj := 17) rfl rfl h15 ?_
   refine W.no (dj := 17) rfl rfl h15 ?_
   refine W.no (dj := 17) rfl rfl h15 ?_
   refine W.no (dj := 17) rfl rfl h15 ?_
   refine W.no (dj := 17) rfl rfl h15 ?_
   refine W.ok (ok_pick_f rfl h15) ?_
   refine W.mv ?_
   refine W.no (dj := 24) rfl rfl rfl ?_
   refine W.no (dj := 24) rfl rfl rfl ?_
   refine W.no (dj := 24) rfl rfl rfl ?_
   refine W.no (dj := 24) rfl rfl rfl ?_
   refine W.no (dj := 24) rfl rfl rfl ?_
   refine W.ok (ok_pick_f rfl rfl) ?_
   refine W.as ?_
   refine W.nil (thn_n ?_)
   refine WC.ret ?_
   refine ⟨.inr rfl, [_], ⟨rfl, trivial⟩, [], List.nil_sublist _, ?_⟩
   refine congrArg Value.bool ?_
   rw [Bool.eq_iff_iff, decide_eq_true_iff]
   clear hw_a hok_a hw_b hok_b
   cases a; cases b
   simp_all [Str.b_inj]
 ·have p9 := of_decide_eq_false h9
  refine W.no (dj := 10) rfl rfl h9 ?_
  refine W.no (dj := 10) rfl rfl h9 ?_
  refine W.no (dj := 10) rfl rfl h9 ?_
  refine W.no (dj := 10) rfl rfl h9 ?_
  refine W.no (dj := 10) rfl rfl h9 ?_
  refine W.ok (ok_pick_f rfl h9) ?_
  refine W.mv ?_
  refine W.no (dj := 17) rfl rfl rfl ?_
  refine W.no (dj := 17) rfl rfl rfl ?_
  refine W.no (dj := 17) rfl rfl rfl ?_
  refine W.no (dj := 17) rfl rfl rfl ?_
  refine W.no (dj := 17) rfl rfl rfl ?_
  refine W.ok (ok_pick_f rfl rfl) ?_
  refine W.mv ?_
  refine W.no (dj := 24) rfl rfl rfl ?_
  refine W.no (dj := 24) rfl rfl rfl ?_
  refine W.no (dj := 24) rfl rfl rfl ?_
  refine W.no (dj := 24) rfl rfl rfl ?_
  refine W.no (dj := 24) rfl rfl rfl ?_
  refine W.ok (ok_pick_f rfl rfl) ?_
  refine W.as ?_
  refine W.nil (thn_n ?_)
  refine WC.ret ?_
  refine ⟨.inr rfl, [_], ⟨rfl, trivial⟩, [], List.nil_sublist _, ?_⟩
  refine congrArg Value.bool ?_
  rw [Bool.eq_iff_iff, decide_eq_true_iff]
  clear hw_a hok_a hw_b hok_b
  cases a; cases b
  simp_all [Str.b_inj]

theorem line5_fc {G : GH} (pk : Int) (pkey : Str) (phi : Str) (po : Bool) (pv : Str) (pl : Int) {cs_a : List Value} {a : Ans} (h_a : AnsC G cs_a a) (herr : a.err = 0) (hk : pk = 5) (hh : a.has = true) (hv : a.val.l.length ≤ 100000) :
    Fc Tryd.prog 7 [.agg #[.int .i64 pk, .string pkey.b, .string phi.b, .bool po, .string pv.b, .int .i64 pl], .agg (List.toArray cs_a)] G [] (fun v _ _ => v = .string (Str.b (hasS.app (quoN a.val)))) := by
 obtain ⟨pa_a, pc_a, rfl, hw_a, hok_a⟩ := h_a
 refine Fc.intro (rs := [.tmp 4]) cl7 Tryd.func7 rfl Tryd.ntmps7 rfl rfl (fun w0 => ?_)
 refine WC.seq ?_
 refine WC.region ?_
 refine W.box (L := [.int .i64 _, .string _, .string _, .bool _, .string _, .int .i64 _]) rfl rfl (fun b3 => ?_)
 refine W.box (L := [.int .i64 _, .bool _, .string _, .slice _ _ _]) rfl rfl (fun b4 => ?_)
 refine W.as ?_
 refine W.nil (thn_n ?_)
 refine WC.seq ?_
 refine WC.block ?_
 refine WC.seq ?_
 refine WC.region ?_
 refine W.ok (ok_fieldB fd27_0 rfl) ?_
 refine W.ok (ok_loadB (i := 0) (vs := [.int .i64 _]) ty24 rfl rfl rfl rfl (by simp)) ?_
 refine W.ok (ok_neq rfl rfl) ?_
 refine W.as ?_
 refine W.nil (thn_n ?_)
 refine WC.cond (b := _) rfl (fun h11 => ?_) (fun h11 => ?_)
 ·have p11 := nd_t h11
  exact absurd herr p11
 ·have p11 := nd_f h11
  refine WC.seq ?_
  refine WC.region ?_
  refine W.ok (ok_fieldB fd23_0 rfl) ?_
  refine W.ok (ok_loadB (i := 1) (vs := [.int .i64 _]) ty3 rfl rfl rfl rfl (by simp)) ?_
  refine W.ok (ok_eql rfl rfl) ?_
  refine W.mv ?_
  refine W.sp 20 rfl (fun h19 => ?_) (fun h19 => ?_)
  ·have p19 := of_decide_eq_true h19
   refine W.yes (dj := 20) rfl rfl h19 ?_
   refine W.ok (ok_fieldB fd27_1 rfl) ?_
   refine W.yes (dj := 20) rfl rfl h19 ?_
   refine W.ok (ok_loadB (i := 0) (vs := [.bool _]) ty4 rfl rfl rfl rfl (by simp)) ?_
   refine W.ok (ok_pick_t rfl h19) ?_
   refine W.as ?_
   refine W.nil (thn_n ?_)
   refine WC.cond (b := _) rfl (fun hb_a => ?_) (fun hb_a => ?_)
   ·refine WC.seq ?_
    refine WC.region ?_
    refine W.ok (ok_fieldB fd27_2 rfl) ?_
    refine W.ok (ok_loadB (i := 0) (vs := [.string _]) ty9 rfl rfl rfl rfl (by simp)) ?_
    refine W.qcall (quote_fc _ (by assumption)) rfl ?_
    refine W.ok (Ok.str (b := (hasS.app (quoN a.val)).b) (ok_addS rfl rfl (by have h9 := (quoN a.val).le; show 4 + _ ≤ _; omega)) (app_b (a := hasS) (b := quoN a.val) (by have q9 := quoN_le a.val; have q8 : hasS.l.length ≤ 20 := Nat.le_of_ble_eq_true rfl; omega))) ?_
    refine W.as ?_
    refine W.nil (thn_n ?_)
    refine WC.ret (blk_r (thn_r ?_))
    refine ⟨.inr rfl, [_], ⟨rfl, trivial⟩, [], List.nil_sublist _, ?_⟩
    rfl
   ·rw [hh] at hb_a; cases hb_a
  ·have p19 := of_decide_eq_false h19
   exact absurd hk p19

theorem ado10_fc {G : GH} {v_l : Value} (h_l : SlR ePair G v_l [⟨exA, ex1⟩]) : Fc Tryd.prog 13 [v_l, .agg #[.int .i64 5, .string exA.b, .string Str.nil.b, .bool false, .string Str.nil.b, .int .i64 0]] G []
    (fun v G' M' => M' = [] ∧ ∃ r : List Pair × Ans, r = ([⟨exA, ex1⟩], (⟨0, true, ex1, []⟩ : Ans)) ∧ ∃ u0 u1, v = .tuple #[u0, .agg (List.toArray u1)] ∧ SlR ePair G' u0 (r.1) ∧ AnsC G' u1 (r.2)) := by
  rw [← ex10_do]
  exact ado_fc h_l 5 exA Str.nil false Str.nil 0 ex10_R (by decide)
theorem awake10_fc {G : GH}  :
    Fc Tryd.prog 6 [] G [] (fun v _ _ => v = .bool (true)) := by
 refine Fc.intro (rs := [.tmp 0]) cl6 Tryd.func6 rfl Tryd.ntmps6 rfl rfl (fun w0 => ?_)
 refine WC.seq ?_
 refine WC.region ?_
 refine W.as ?_
 refine W.nil (thn_n ?_)
 refine WC.seq ?_
 refine WC.region ?_
 refine W.ok (ok_build (L := [.int .i64 _, .string _, .string _, .bool _, .string _, .int .i64 _]) pl23 zr23 rfl rfl rfl) ?_
 refine W.alloc zr23 (fun b5 => ?_)
 refine W.store (i := 0) (vs := [.int .i64 _, .string _, .string _, .bool _, .string _, .int .i64 _]) (L' := [.int .i64 _, .string _, .string _, .bool _, .string _, .int .i64 _]) ty23 rfl rfl rfl rfl rfl rfl rfl rfl ?_
 refine W.nil (thn_n ?_)
 refine WC.seq ?_
 refine WC.region ?_
 refine W.ok (ok_build (L := [.string _, .string _]) pl45 zr45 rfl rfl rfl) ?_
 refine W.lit (e := ePair) (l := [⟨exA, ex1⟩]) (css := [[.string _, .string _]]) sl25 ty45 zr45 rfl rfl rfl rfl rfl rfl ⟨rfl, trivial⟩ (fun bl6 G6 hG6 hv6 => ?_)
 refine W.ok (ok_loadB (i := 0) (vs := [.int .i64 _, .string _, .string _, .bool _, .string _, .int .i64 _]) ty23 rfl rfl rfl rfl (by simp)) ?_
 refine W.call (Mp := []) (ado10_fc hv6) rfl (List.Perm.refl _) ?_
 intro _ G7 _ hG7 q10
 refine match q10 with | ⟨e_11, _, e_12, _, _, e_13, hv8, hv9⟩ => ?_
 subst e_11
 subst e_12
 subst e_13
 have q15 := hv8.form
 refine match q15 with | ⟨sa_hv8, sc_hv8, e_14⟩ => ?_
 subst e_14
 refine match hv9 with | ⟨pa_hv9, pc_hv9, e_16, hw_hv9, hok_hv9⟩ => ?_
 subst e_16
 refine W.mv ?_
 refine W.ok (ok_extract rfl rfl) ?_
 refine W.ok (ok_extract rfl rfl) ?_
 refine W.alloc zr27 (fun b17 => ?_)
 refine W.as ?_
 refine W.store (i := 0) (vs := [.int .i64 _, .bool _, .string _, .slice _ _ _]) (L' := [.int .i64 _, .bool _, .string _, .slice _ _ _]) ty27 rfl rfl rfl rfl rfl rfl rfl rfl ?_
 refine W.nil (thn_n ?_)
 refine WC.seq ?_
 refine WC.region ?_
 refine W.ok (ok_fieldB fd27_1 rfl) ?_
 refine W.ok (ok_loadB (i := 0) (vs := [.bool _]) ty4 rfl rfl rfl rfl (by simp)) ?_
 refine W.mv ?_
 refine W.yes (dj := 14) rfl rfl rfl ?_
 refine W.ok (ok_fieldB fd27_2 rfl) ?_
 refine W.yes (dj := 14) rfl rfl rfl ?_
 refine W.ok (ok_loadB (i := 0) (vs := [.string _]) ty9 rfl rfl rfl rfl (by simp)) ?_
 refine W.yes (dj := 14) rfl rfl rfl ?_
 refine W.ok (ok_eqlS rfl rfl) ?_
 refine W.ok (ok_pick_t rfl rfl) ?_
 refine W.mv ?_
 refine W.sp 19 rfl (fun h17 => ?_) (fun h17 => ?_)
 ·have p17 := of_decide_eq_true h17
  refine W.yes (dj := 19) rfl rfl h17 ?_
  refine W.ok (ok_loadB (i := 1) (vs := [.int .i64 _, .string _, .string _, .bool _, .string _, .int .i64 _]) ty23 rfl rfl rfl rfl (by simp)) ?_
  refine W.yes (dj := 19) rfl rfl h17 ?_
  refine W.ok (ok_loadB (i := 0) (vs := [.int .i64 _, .bool _, .string _, .slice _ _ _]) ty27 rfl rfl rfl rfl (by simp)) ?_
  refine W.yes (dj := 19) rfl rfl h17 ?_
  refine W.qcall (line5_fc 5 exA Str.nil false Str.nil 0 (show AnsC _ _ (⟨0, true, ex1, []⟩ : Ans) from ⟨_, _, rfl, hw_hv9, ⟨by decide, by decide⟩⟩) rfl rfl rfl (by decide)) rfl ?_
  refine W.yes (dj := 19) rfl rfl h17 ?_
  refine W.ok (ok_eqlS rfl rfl) ?_
  refine W.ok (ok_pick_t rfl h17) ?_
  refine W.mv ?_
  refine W.sp 25 rfl (fun h23 => ?_) (fun h23 => ?_)
  ·have p23 := of_decide_eq_true h23
   refine W.yes (dj := 25) rfl rfl h23 ?_
   refine W.ok (ok_loadB (i := 0) (vs := [.int .i64 _, .bool _, .string _, .slice _ _ _]) ty27 rfl rfl rfl rfl (by simp)) ?_
   refine W.yes (dj := 25) rfl rfl h23 ?_
   refine W.ok (ok_loadB (i := 0) (vs := [.int .i64 _, .bool _, .string _, .slice _ _ _]) ty27 rfl rfl rfl rfl (by simp)) ?_
   refine W.yes (dj := 25) rfl rfl h23 ?_
   refine W.qcall (asame_fc (show AnsC _ _ (⟨0, true, ex1, []⟩ : Ans) from ⟨_, _, rfl, hw_hv9, ⟨by decide, by decide⟩⟩) (show AnsC _ _ (⟨0, true, ex1, []⟩ : Ans) from ⟨_, _, rfl, hw_hv9, ⟨by decide, by decide⟩⟩)) rfl ?_
   refine W.ok (ok_pick_t rfl h23) ?_
   refine W.as ?_
   refine W.nil (thn_n ?_)
   refine WC.ret ?_
   refine ⟨.inr rfl, [_], ⟨rfl, trivial⟩, [], List.nil_sublist _, ?_⟩
   rfl
  ·have p23 := of_decide_eq_false h23
   exact absurd ex10_line p23
 ·have p17 := of_decide_eq_false h17
  exact absurd rfl p17

theorem answerDoes_fc {G : GH} {v_l : Value} {l : List Pair} (h_l : SlR ePair G v_l l) {v_ops : Value} {ops : List Opr} (h_ops : SlR eOp G v_ops ops) : Fc Tryd.prog 4 [v_l, v_ops] G [] (fun v _ _ => v = .bool true) := answerDoes_of h_l h_ops awake10_fc
end Go.Proofs.YthmkpaoolhcibaaDoor
