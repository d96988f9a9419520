/- Walks of functions on values and effects. -/
import Derived.Test.YthmkpaoolhcibaaDoorW3
namespace Go.Proofs.YthmkpaoolhcibaaDoor
open Go Go.Fw Go.RowKit
set_option maxRecDepth 100000
set_option maxHeartbeats 1600000
set_option linter.unusedVariables false
set_option linter.unusedSimpArgs false
set_option linter.unnecessarySimpa false
theorem tail_fc {G : GH} (s : Str) :
    Fc Tryd.prog 87 [.string s.b] G [] (fun v _ _ => v = .string (Str.b (s.tail))) := by
 have hs := s.le
 refine Fc.intro (rs := [.tmp 2]) cl87 Tryd.func87 rfl Tryd.ntmps87 rfl rfl (fun w0 => ?_)
 refine WC.seq ?_
 refine WC.region ?_
 refine W.as ?_
 refine W.nil (thn_n ?_)
 refine WC.seq ?_
 refine WC.region ?_
 refine W.mv ?_
 refine W.mv ?_
 refine W.ok (ok_lenS st9 rfl) ?_
 refine W.ok (ok_sub rfl rfl (by omega)) ?_
 refine W.ok (ok_maxi rfl rfl) ?_
 refine W.ok (ok_sliceS (s.b.size - 16) (s.b.size) st9 rfl ⟨_, _, rfl, by omega⟩ rfl ⟨by omega, by omega⟩) ?_
 refine W.as ?_
 refine W.nil (thn_n ?_)
 refine WC.ret ?_
 refine ⟨.inr rfl, [_], ⟨rfl, trivial⟩, [], List.nil_sublist _, ?_⟩
 rfl

theorem vadd_fc {G : GH} (a : Str) (b : Str) (ha : a.b.size ≤ 1048576) (hb : b.b.size ≤ 1048576) :
    Fc Tryd.prog 78 [.string a.b, .string b.b] G [] (fun v _ _ => v = .string (Str.b (a.add b))) := by
 refine Fc.intro (rs := [.tmp 4]) cl78 Tryd.func78 rfl Tryd.ntmps78 rfl rfl (fun w0 => ?_)
 refine WC.seq ?_
 refine WC.region ?_
 refine W.as ?_
 refine W.nil (thn_n ?_)
 refine WC.seq ?_
 refine WC.region ?_
 refine W.mv ?_
 refine W.mv ?_
 refine W.ok (Ok.str (b := (a.cat b).b) (ok_addS rfl rfl (by omega)) ((Str.cat_b (by omega)).symm)) ?_
 refine W.qcall (tail_fc _) rfl ?_
 refine W.as ?_
 refine W.nil (thn_n ?_)
 refine WC.ret ?_
 refine ⟨.inr rfl, [_], ⟨rfl, trivial⟩, [], List.nil_sublist _, ?_⟩
 exact congrArg (fun s => Value.string (Str.b s)) (Str.cat_tail (by omega))

theorem rtail_fc {G : GH} (s : Str) :
    Fc Tryd.prog 81 [.string s.b] G [] (fun v _ _ => v = .string (Str.b (s.tail))) := by
 have hs := s.le
 refine Fc.intro (rs := [.tmp 2]) cl81 Tryd.func81 rfl Tryd.ntmps81 rfl rfl (fun w0 => ?_)
 refine WC.seq ?_
 refine WC.region ?_
 refine W.as ?_
 refine W.nil (thn_n ?_)
 refine WC.seq ?_
 refine WC.region ?_
 refine W.as ?_
 refine W.nil (thn_n ?_)
 refine WC.seq ?_
 refine WC.seq ?_
 refine WC.region ?_
 refine W.mv ?_
 refine W.ok (ok_lenS st9 rfl) ?_
 refine W.ok (ok_sub rfl rfl (by omega)) ?_
 refine W.as ?_
 refine W.nil (thn_n ?_)
 refine WC.block ?_
 refine WC.loop (X := Nat) (fun k => [(3, .string (s.cut (s.b.size - k) s.b.size).b), (4, .int .i64 ((s.b.size : Int) - 1 - ((k : Nat) : Int))), (0, .string s.b)]) (fun k _ Ml => Ml = [] ∧ k ≤ s.b.size ∧ k ≤ 16) (fun k => 17 - k) 0 ⟨(congrArg Value.string (Str.cut_nil (by omega)).symm), (iv (by omega)), (by first | rfl | exact iv (by dsimp only; omega) | exact iv (by omega)), trivial⟩ ?_ ?_
 ·exact ⟨rfl, by omega, by omega⟩
 ·rintro k gG1 G1 _ hG1 ⟨rfl, hk, hk16⟩
  have hz := s.cut_size (s.b.size - k) s.b.size
  refine WC.seq ?_
  refine WC.seq ?_
  refine WC.region ?_
  refine W.mv ?_
  refine W.ok (ok_geq rfl rfl) ?_
  refine W.mv ?_
  refine W.sp 10 rfl (fun h9 => ?_) (fun h9 => ?_)
  ·have p9 := of_decide_eq_true h9
   refine W.yes (dj := 10) rfl rfl h9 ?_
   refine W.mv ?_
   refine W.yes (dj := 10) rfl rfl h9 ?_
   refine W.ok (ok_lenS st9 rfl) ?_
   refine W.yes (dj := 10) rfl rfl h9 ?_
   refine W.ok (ok_lss rfl rfl) ?_
   refine W.ok (ok_pick_t rfl h9) ?_
   refine W.nil (thn_n ?_)
   refine WC.cond (b := _) rfl (fun h13 => ?_) (fun h13 => ?_)
   ·have p13 := of_decide_eq_true h13
    refine WC.skip (thn_n ?_)
    refine WC.seq ?_
    refine WC.block ?_
    refine WC.region ?_
    refine W.mv ?_
    refine W.mv ?_
    refine W.mv ?_
    refine W.ok (ok_add rfl rfl (by omega)) ?_
    refine W.ok (ok_sliceS (s.b.size - 1 - k) (s.b.size - k) st9 rfl ⟨_, _, rfl, by omega⟩ ⟨_, _, rfl, by omega⟩ ⟨by omega, by omega⟩) ?_
    refine W.mv ?_
    refine W.ok (ok_addS rfl rfl (by simp only [Str.cut_size]; omega)) ?_
    refine W.as ?_
    refine W.nil (blk_n (thn_n ?_))
    refine WC.region ?_
    refine W.mv ?_
    refine W.ok (ok_sub rfl rfl (by omega)) ?_
    refine W.as ?_
    refine W.nil (thn_n ?_)
    exact ⟨Le.rfl, k + 1, ⟨(congrArg Value.string (Str.cut_cat (by omega))), (iv (by omega)), (by first | rfl | exact iv (by dsimp only; omega) | exact iv (by omega)), trivial⟩, ⟨rfl, by omega, by omega⟩, by omega⟩
   ·have p13 := of_decide_eq_false h13
    refine WC.exit (thn_x (thn_x (blk_h (thn_n ?_))))
    refine WC.seq ?_
    refine WC.region ?_
    refine W.mv ?_
    refine W.as ?_
    refine W.nil (thn_n ?_)
    refine WC.ret ?_
    refine ⟨.inr rfl, [_], ⟨rfl, trivial⟩, [], List.nil_sublist _, ?_⟩
    have hk2 : s.b.size - k = s.b.size - 16 := by simp only [Str.cut_size] at *; omega
    rw [hk2]; rfl
  ·have p9 := of_decide_eq_false h9
   refine W.no (dj := 10) rfl rfl h9 ?_
   refine W.no (dj := 10) rfl rfl h9 ?_
   refine W.no (dj := 10) rfl rfl h9 ?_
   refine W.ok (ok_pick_f rfl h9) ?_
   refine W.nil (thn_n ?_)
   refine WC.cond_f rfl rfl ?_
   refine WC.exit (thn_x (thn_x (blk_h (thn_n ?_))))
   refine WC.seq ?_
   refine WC.region ?_
   refine W.mv ?_
   refine W.as ?_
   refine W.nil (thn_n ?_)
   refine WC.ret ?_
   refine ⟨.inr rfl, [_], ⟨rfl, trivial⟩, [], List.nil_sublist _, ?_⟩
   have hk2 : s.b.size - k = s.b.size - 16 := by simp only [Str.cut_size] at *; omega
   rw [hk2]; rfl

theorem kright_fc {G : GH} (s : Str) :
    Fc Tryd.prog 44 [.string s.b] G [] (fun v _ _ => v = .bool (decide (s.b.size ≤ 16))) := by
 have hs := s.le
 refine Fc.intro (rs := [.tmp 2]) cl44 Tryd.func44 rfl Tryd.ntmps44 rfl rfl (fun w0 => ?_)
 refine WC.seq ?_
 refine WC.region ?_
 refine W.as ?_
 refine W.nil (thn_n ?_)
 refine WC.seq ?_
 refine WC.region ?_
 refine W.mv ?_
 refine W.ok (ok_lenS st9 rfl) ?_
 refine W.ok (ok_leq rfl rfl) ?_
 refine W.as ?_
 refine W.nil (thn_n ?_)
 refine WC.ret ?_
 refine ⟨.inr rfl, [_], ⟨rfl, trivial⟩, [], List.nil_sublist _, ?_⟩
 refine congrArg Value.bool ?_
 rw [decide_eq_decide]; omega

theorem vright_fc {G : GH} (s : Str) :
    Fc Tryd.prog 45 [.string s.b] G [] (fun v _ _ => v = .bool (decide (s.b.size ≤ 16))) := by
 have hs := s.le
 refine Fc.intro (rs := [.tmp 2]) cl45 Tryd.func45 rfl Tryd.ntmps45 rfl rfl (fun w0 => ?_)
 refine WC.seq ?_
 refine WC.region ?_
 refine W.as ?_
 refine W.nil (thn_n ?_)
 refine WC.seq ?_
 refine WC.region ?_
 refine W.mv ?_
 refine W.ok (ok_lenS st9 rfl) ?_
 refine W.ok (ok_leq rfl rfl) ?_
 refine W.as ?_
 refine W.nil (thn_n ?_)
 refine WC.ret ?_
 refine ⟨.inr rfl, [_], ⟨rfl, trivial⟩, [], List.nil_sublist _, ?_⟩
 refine congrArg Value.bool ?_
 rw [decide_eq_decide]; omega

theorem rapply_fc {G : GH} (ek : Int) (ev : Str) (has : Bool) (x : Str) (he : ev.b.size ≤ 1048576) (hv : x.b.size ≤ 1048576) :
    Fc Tryd.prog 73 [.agg #[.int .i64 ek, .string ev.b], .bool has, .string x.b] G [] (fun v _ _ => v = .tuple #[.bool (((Eff.apply (⟨ek, ev⟩ : Eff) (optS has x))).isSome), .string (Str.b (((Eff.apply (⟨ek, ev⟩ : Eff) (optS has x))).getD Str.nil))]) := by
 refine Fc.intro (rs := [.tmp 6, .tmp 7]) cl73 Tryd.func73 rfl Tryd.ntmps73 rfl rfl (fun w0 => ?_)
 refine WC.seq ?_
 refine WC.region ?_
 refine W.box (L := [.int .i64 _, .string _]) rfl rfl (fun b2 => ?_)
 refine W.as ?_
 refine W.as ?_
 refine W.nil (thn_n ?_)
 refine WC.seq ?_
 refine WC.seq ?_
 refine WC.region ?_
 refine W.ok (ok_fieldB fd86_0 rfl) ?_
 refine W.ok (ok_loadB (i := 0) (vs := [.int .i64 _]) ty3 rfl rfl rfl rfl (by simp)) ?_
 refine W.ok (ok_eql rfl rfl) ?_
 refine W.nil (thn_n ?_)
 refine WC.cond (b := _) rfl (fun h10 => ?_) (fun h10 => ?_)
 ·have p10 := of_decide_eq_true h10
  refine WC.seq ?_
  refine WC.draw mix (by kernel_rfl) ?_
  refine W.ok (ok_fieldB fd86_1 rfl) ?_
  refine W.ok (ok_loadB (i := 0) (vs := [.string _]) ty9 rfl rfl rfl rfl (by simp)) ?_
  refine W.as ?_
  refine W.as ?_
  refine W.nil (thn_n ?_)
  refine WC.ret (thn_r ?_)
  refine ⟨.inr rfl, [_, _], ⟨rfl, rfl, trivial⟩, [], List.nil_sublist _, ?_⟩
  show Value.tuple #[Value.bool _, Value.string _] = _
  simp_all [Eff.apply, optS, Str.nil]
 ·have p10 := of_decide_eq_false h10
  refine WC.skip (thn_n ?_)
  refine WC.seq ?_
  refine WC.seq ?_
  refine WC.region ?_
  refine W.ok (ok_fieldB fd86_0 rfl) ?_
  refine W.ok (ok_loadB (i := 0) (vs := [.int .i64 _]) ty3 rfl rfl rfl rfl (by simp)) ?_
  refine W.ok (ok_eql rfl rfl) ?_
  refine W.nil (thn_n ?_)
  refine WC.cond (b := _) rfl (fun h15 => ?_) (fun h15 => ?_)
  ·have p15 := of_decide_eq_true h15
   refine WC.seq ?_
   refine WC.region ?_
   refine W.as ?_
   refine W.as ?_
   refine W.nil (thn_n ?_)
   refine WC.ret (thn_r ?_)
   refine ⟨.inr rfl, [_, _], ⟨rfl, rfl, trivial⟩, [], List.nil_sublist _, ?_⟩
   show Value.tuple #[Value.bool _, Value.string _] = _
   simp_all [Eff.apply, optS, Str.nil]
  ·have p15 := of_decide_eq_false h15
   refine WC.skip (thn_n ?_)
   refine WC.seq ?_
   refine WC.seq ?_
   refine WC.region ?_
   refine W.mv ?_
   refine W.ok (ok_not rfl) ?_
   refine W.nil (thn_n ?_)
   refine WC.cond (b := _) rfl (fun h17 => ?_) (fun h17 => ?_)
   ·refine WC.region ?_
    refine W.as ?_
    refine W.nil (thn_n ?_)
    refine WC.seq ?_
    refine WC.seq ?_
    refine WC.region ?_
    refine W.ok (ok_fieldB fd86_0 rfl) ?_
    refine W.ok (ok_loadB (i := 0) (vs := [.int .i64 _]) ty3 rfl rfl rfl rfl (by simp)) ?_
    refine W.ok (ok_eql rfl rfl) ?_
    refine W.nil (thn_n ?_)
    refine WC.cond (b := _) rfl (fun h20 => ?_) (fun h20 => ?_)
    ·have p20 := of_decide_eq_true h20
     refine WC.seq ?_
     refine WC.region ?_
     refine W.mv ?_
     refine W.ok (ok_fieldB fd86_1 rfl) ?_
     refine W.ok (ok_loadB (i := 0) (vs := [.string _]) ty9 rfl rfl rfl rfl (by simp)) ?_
     refine W.ok (Ok.str (b := (Str.nil.cat ev).b) (ok_addS rfl rfl ((by first | omega | (show 0 + ev.b.size ≤ _; omega)))) ((Str.cat_b (a := Str.nil) (by first | omega | (show 0 + ev.b.size ≤ _; omega))).symm)) ?_
     refine W.qcall (rtail_fc _) rfl ?_
     refine W.as ?_
     refine W.as ?_
     refine W.nil (thn_n ?_)
     refine WC.ret (thn_r ?_)
     refine ⟨.inr rfl, [_, _], ⟨rfl, rfl, trivial⟩, [], List.nil_sublist _, ?_⟩
     show Value.tuple #[Value.bool _, Value.string _] = _
     rw [Str.cat_tail (by first | omega | (show 0 + ev.b.size ≤ _; omega))]
     simp_all [Eff.apply, optS, Str.nil]
    ·have p20 := of_decide_eq_false h20
     refine WC.skip (thn_n ?_)
     refine WC.seq ?_
     refine WC.region ?_
     refine W.mv ?_
     refine W.mv ?_
     refine W.as ?_
     refine W.as ?_
     refine W.nil (thn_n ?_)
     refine WC.ret ?_
     refine ⟨.inr rfl, [_, _], ⟨rfl, rfl, trivial⟩, [], List.nil_sublist _, ?_⟩
     show Value.tuple #[Value.bool _, Value.string _] = _
     simp_all [Eff.apply, optS, Str.nil]
   ·refine WC.skip (thn_n ?_)
    refine WC.seq ?_
    refine WC.seq ?_
    refine WC.region ?_
    refine W.ok (ok_fieldB fd86_0 rfl) ?_
    refine W.ok (ok_loadB (i := 0) (vs := [.int .i64 _]) ty3 rfl rfl rfl rfl (by simp)) ?_
    refine W.ok (ok_eql rfl rfl) ?_
    refine W.nil (thn_n ?_)
    refine WC.cond (b := _) rfl (fun h20 => ?_) (fun h20 => ?_)
    ·have p20 := of_decide_eq_true h20
     refine WC.seq ?_
     refine WC.region ?_
     refine W.mv ?_
     refine W.ok (ok_fieldB fd86_1 rfl) ?_
     refine W.ok (ok_loadB (i := 0) (vs := [.string _]) ty9 rfl rfl rfl rfl (by simp)) ?_
     refine W.ok (Ok.str (b := (x.cat ev).b) (ok_addS rfl rfl ((by first | omega | (show 0 + ev.b.size ≤ _; omega)))) ((Str.cat_b (by omega)).symm)) ?_
     refine W.qcall (rtail_fc _) rfl ?_
     refine W.as ?_
     refine W.as ?_
     refine W.nil (thn_n ?_)
     refine WC.ret (thn_r ?_)
     refine ⟨.inr rfl, [_, _], ⟨rfl, rfl, trivial⟩, [], List.nil_sublist _, ?_⟩
     show Value.tuple #[Value.bool _, Value.string _] = _
     rw [Str.cat_tail (by first | omega | (show 0 + ev.b.size ≤ _; omega))]
     simp_all [Eff.apply, optS, Str.nil]
    ·have p20 := of_decide_eq_false h20
     refine WC.skip (thn_n ?_)
     refine WC.seq ?_
     refine WC.region ?_
     refine W.mv ?_
     refine W.mv ?_
     refine W.as ?_
     refine W.as ?_
     refine W.nil (thn_n ?_)
     refine WC.ret ?_
     refine ⟨.inr rfl, [_, _], ⟨rfl, rfl, trivial⟩, [], List.nil_sublist _, ?_⟩
     show Value.tuple #[Value.bool _, Value.string _] = _
     simp_all [Eff.apply, optS, Str.nil]

theorem eapply_fc {G : GH} (ek : Int) (ev : Str) (has : Bool) (x : Str) (he : ev.b.size ≤ 1048576) (hv : x.b.size ≤ 1048576) :
    Fc Tryd.prog 70 [.agg #[.int .i64 ek, .string ev.b], .bool has, .string x.b] G [] (fun v _ _ => v = .tuple #[.bool (((Eff.apply (⟨ek, ev⟩ : Eff) (optS has x))).isSome), .string (Str.b (((Eff.apply (⟨ek, ev⟩ : Eff) (optS has x))).getD Str.nil))]) := by
 refine Fc.intro (rs := [.tmp 6, .tmp 7]) cl70 Tryd.func70 rfl Tryd.ntmps70 rfl rfl (fun w0 => ?_)
 refine WC.seq ?_
 refine WC.region ?_
 refine W.box (L := [.int .i64 _, .string _]) rfl rfl (fun b3 => ?_)
 refine W.as ?_
 refine W.as ?_
 refine W.nil (thn_n ?_)
 refine WC.seq ?_
 refine WC.seq ?_
 refine WC.region ?_
 refine W.mv ?_
 refine W.ok (ok_not rfl) ?_
 refine W.nil (thn_n ?_)
 refine WC.cond (b := _) rfl (fun h9 => ?_) (fun h9 => ?_)
 ·refine WC.region ?_
  refine W.as ?_
  refine W.nil (thn_n ?_)
  refine WC.seq ?_
  refine WC.seq ?_
  refine WC.region ?_
  refine W.ok (ok_fieldB fd86_0 rfl) ?_
  refine W.ok (ok_loadB (i := 0) (vs := [.int .i64 _]) ty3 rfl rfl rfl rfl (by simp)) ?_
  refine W.nil (thn_n ?_)
  refine WC.block ?_
  refine WC.seq ?_
  refine WC.region ?_
  refine W.ok (ok_eql rfl rfl) ?_
  refine W.as ?_
  refine W.nil (thn_n ?_)
  refine WC.cond (b := _) rfl (fun h13 => ?_) (fun h13 => ?_)
  ·have p13 := of_decide_eq_true h13
   refine WC.seq ?_
   refine WC.draw mix (by kernel_rfl) ?_
   refine W.ok (ok_fieldB fd86_1 rfl) ?_
   refine W.ok (ok_loadB (i := 0) (vs := [.string _]) ty9 rfl rfl rfl rfl (by simp)) ?_
   refine W.as ?_
   refine W.as ?_
   refine W.nil (thn_n ?_)
   refine WC.ret (blk_r (thn_r ?_))
   refine ⟨.inr rfl, [_, _], ⟨rfl, rfl, trivial⟩, [], List.nil_sublist _, ?_⟩
   show Value.tuple #[Value.bool _, Value.string _] = _
   simp_all [Eff.apply, optS, Str.nil]
  ·have p13 := of_decide_eq_false h13
   refine WC.seq ?_
   refine WC.region ?_
   refine W.ok (ok_eql rfl rfl) ?_
   refine W.as ?_
   refine W.nil (thn_n ?_)
   refine WC.cond (b := _) rfl (fun h17 => ?_) (fun h17 => ?_)
   ·have p17 := of_decide_eq_true h17
    refine WC.seq ?_
    refine WC.region ?_
    refine W.mv ?_
    refine W.ok (ok_fieldB fd86_1 rfl) ?_
    refine W.ok (ok_loadB (i := 0) (vs := [.string _]) ty9 rfl rfl rfl rfl (by simp)) ?_
    refine W.qcall (vadd_fc Str.nil ev (by show 0 ≤ 1048576; omega) (by assumption)) rfl ?_
    refine W.as ?_
    refine W.as ?_
    refine W.nil (thn_n ?_)
    refine WC.ret (blk_r (thn_r ?_))
    refine ⟨.inr rfl, [_, _], ⟨rfl, rfl, trivial⟩, [], List.nil_sublist _, ?_⟩
    show Value.tuple #[Value.bool _, Value.string _] = _
    simp_all [Eff.apply, optS, Str.nil]
   ·have p17 := of_decide_eq_false h17
    refine WC.seq ?_
    refine WC.region ?_
    refine W.ok (ok_eql rfl rfl) ?_
    refine W.as ?_
    refine W.nil (thn_n ?_)
    refine WC.cond (b := _) rfl (fun h23 => ?_) (fun h23 => ?_)
    ·have p23 := of_decide_eq_true h23
     refine WC.seq ?_
     refine WC.region ?_
     refine W.as ?_
     refine W.as ?_
     refine W.nil (thn_n ?_)
     refine WC.ret (blk_r (thn_r ?_))
     refine ⟨.inr rfl, [_, _], ⟨rfl, rfl, trivial⟩, [], List.nil_sublist _, ?_⟩
     show Value.tuple #[Value.bool _, Value.string _] = _
     simp_all [Eff.apply, optS, Str.nil]
    ·have p23 := of_decide_eq_false h23
     refine WC.skip (blk_n (thn_n ?_))
     refine WC.seq ?_
     refine WC.region ?_
     refine W.mv ?_
     refine W.mv ?_
     refine W.as ?_
     refine W.as ?_
     refine W.nil (thn_n ?_)
     refine WC.ret ?_
     refine ⟨.inr rfl, [_, _], ⟨rfl, rfl, trivial⟩, [], List.nil_sublist _, ?_⟩
     show Value.tuple #[Value.bool _, Value.string _] = _
     simp_all [Eff.apply, optS, Str.nil]
 ·refine WC.skip (thn_n ?_)
  refine WC.seq ?_
  refine WC.seq ?_
  refine WC.region ?_
  refine W.ok (ok_fieldB fd86_0 rfl) ?_
  refine W.ok (ok_loadB (i := 0) (vs := [.int .i64 _]) ty3 rfl rfl rfl rfl (by simp)) ?_
  refine W.nil (thn_n ?_)
  refine WC.block ?_
  refine WC.seq ?_
  refine WC.region ?_
  refine W.ok (ok_eql rfl rfl) ?_
  refine W.as ?_
  refine W.nil (thn_n ?_)
  refine WC.cond (b := _) rfl (fun h13 => ?_) (fun h13 => ?_)
  ·have p13 := of_decide_eq_true h13
   refine WC.seq ?_
   refine WC.draw mix (by kernel_rfl) ?_
   refine W.ok (ok_fieldB fd86_1 rfl) ?_
   refine W.ok (ok_loadB (i := 0) (vs := [.string _]) ty9 rfl rfl rfl rfl (by simp)) ?_
   refine W.as ?_
   refine W.as ?_
   refine W.nil (thn_n ?_)
   refine WC.ret (blk_r (thn_r ?_))
   refine ⟨.inr rfl, [_, _], ⟨rfl, rfl, trivial⟩, [], List.nil_sublist _, ?_⟩
   show Value.tuple #[Value.bool _, Value.string _] = _
   simp_all [Eff.apply, optS, Str.nil]
  ·have p13 := of_decide_eq_false h13
   refine WC.seq ?_
   refine WC.region ?_
   refine W.ok (ok_eql rfl rfl) ?_
   refine W.as ?_
   refine W.nil (thn_n ?_)
   refine WC.cond (b := _) rfl (fun h17 => ?_) (fun h17 => ?_)
   ·have p17 := of_decide_eq_true h17
    refine WC.seq ?_
    refine WC.region ?_
    refine W.mv ?_
    refine W.ok (ok_fieldB fd86_1 rfl) ?_
    refine W.ok (ok_loadB (i := 0) (vs := [.string _]) ty9 rfl rfl rfl rfl (by simp)) ?_
    refine W.qcall (vadd_fc x ev (by assumption) (by assumption)) rfl ?_
    refine W.as ?_
    refine W.as ?_
    refine W.nil (thn_n ?_)
    refine WC.ret (blk_r (thn_r ?_))
    refine ⟨.inr rfl, [_, _], ⟨rfl, rfl, trivial⟩, [], List.nil_sublist _, ?_⟩
    show Value.tuple #[Value.bool _, Value.string _] = _
    simp_all [Eff.apply, optS, Str.nil]
   ·have p17 := of_decide_eq_false h17
    refine WC.seq ?_
    refine WC.region ?_
    refine W.ok (ok_eql rfl rfl) ?_
    refine W.as ?_
    refine W.nil (thn_n ?_)
    refine WC.cond (b := _) rfl (fun h23 => ?_) (fun h23 => ?_)
    ·have p23 := of_decide_eq_true h23
     refine WC.seq ?_
     refine WC.region ?_
     refine W.as ?_
     refine W.as ?_
     refine W.nil (thn_n ?_)
     refine WC.ret (blk_r (thn_r ?_))
     refine ⟨.inr rfl, [_, _], ⟨rfl, rfl, trivial⟩, [], List.nil_sublist _, ?_⟩
     show Value.tuple #[Value.bool _, Value.string _] = _
     simp_all [Eff.apply, optS, Str.nil]
    ·have p23 := of_decide_eq_false h23
     refine WC.skip (blk_n (thn_n ?_))
     refine WC.seq ?_
     refine WC.region ?_
     refine W.mv ?_
     refine W.mv ?_
     refine W.as ?_
     refine W.as ?_
     refine W.nil (thn_n ?_)
     refine WC.ret ?_
     refine ⟨.inr rfl, [_, _], ⟨rfl, rfl, trivial⟩, [], List.nil_sublist _, ?_⟩
     show Value.tuple #[Value.bool _, Value.string _] = _
     simp_all [Eff.apply, optS, Str.nil]

theorem mon_fc {G : GH} (ms : Int) (mk : Int) (mkey : Str) (mhi : Str) (mo : Bool) (mv : Str) (k : Str) (hk : mkey.b.size < 140737488355328) :
    Fc Tryd.prog 56 [.agg #[.int .i64 ms, .int .i64 mk, .string mkey.b, .string mhi.b, .bool mo, .string mv.b], .string k.b] G [] (fun v _ _ => v = .agg (List.toArray ((Msg.on (⟨ms, mk, mkey, mhi, mo, mv⟩ : Msg) k).cells))) := by
 refine Fc.intro (rs := [.cell 4 86]) cl56 Tryd.func56 rfl Tryd.ntmps56 rfl rfl (fun w0 => ?_)
 refine WC.seq ?_
 refine WC.region ?_
 refine W.box (L := [.int .i64 _, .int .i64 _, .string _, .string _, .bool _, .string _]) rfl rfl (fun b4 => ?_)
 refine W.alloc zr86 (fun b5 => ?_)
 refine W.nil (thn_n ?_)
 refine WC.seq ?_
 refine WC.seq ?_
 refine WC.region ?_
 refine W.ok (ok_loadB (i := 1) (vs := [.int .i64 _, .int .i64 _, .string _, .string _, .bool _, .string _]) ty59 rfl rfl rfl rfl (by simp)) ?_
 refine W.qcall (mspan_fc _ _ _ _ _ _ (by first | assumption | omega | (dsimp only; omega))) rfl ?_
 refine W.mv ?_
 refine W.qcall (spanhas_fc _ _ _ _) rfl ?_
 refine W.ok (ok_not rfl) ?_
 refine W.nil (thn_n ?_)
 refine WC.cond (b := _) rfl (fun h9 => ?_) (fun h9 => ?_)
 ·refine WC.seq ?_
  refine WC.region ?_
  refine W.ok (ok_build (L := [.int .i64 _, .string _]) pl86 zr86 rfl rfl rfl) ?_
  refine W.store (i := 0) (vs := [.int .i64 _, .string _]) (L' := [.int .i64 _, .string _]) ty86 rfl rfl rfl rfl rfl rfl rfl rfl ?_
  refine W.nil (thn_n ?_)
  refine WC.ret (thn_r ?_)
  refine ⟨.inr rfl, [_], ⟨⟨_, _, _, _, _, rfl, nthM_mem (i := 0) rfl, ty86, (by simp), rfl, rfl⟩, trivial⟩, [], List.nil_sublist _, ?_⟩
  refine congrArg (fun l => Value.agg (List.toArray l)) ?_
  show [Value.int _ _, Value.string _] = _
  first | (simp_all [Msg.on, Eff.cells, Eff.zero, Str.nil]; done) | (simp_all [Msg.on, Eff.cells, Eff.zero, Str.nil]; split <;> first | (exfalso; omega) | (simp; done) | (split <;> first | (exfalso; omega) | (simp; done)))
 ·refine WC.skip (thn_n ?_)
  refine WC.seq ?_
  refine WC.seq ?_
  refine WC.region ?_
  refine W.ok (ok_fieldB fd59_1 rfl) ?_
  refine W.ok (ok_loadB (i := 1) (vs := [.int .i64 _]) ty3 rfl rfl rfl rfl (by simp)) ?_
  refine W.nil (thn_n ?_)
  refine WC.block ?_
  refine WC.seq ?_
  refine WC.seq ?_
  refine WC.region ?_
  refine W.ok (ok_eql rfl rfl) ?_
  refine W.as ?_
  refine W.nil (thn_n ?_)
  refine WC.cond (b := _) rfl (fun h14 => ?_) (fun h14 => ?_)
  ·have p14 := of_decide_eq_true h14
   refine WC.skip (thn_n ?_)
   refine WC.cond_t rfl h14 ?_
   refine WC.seq ?_
   refine WC.region ?_
   refine W.ok (ok_fieldB fd59_1 rfl) ?_
   refine W.ok (ok_loadB (i := 1) (vs := [.int .i64 _]) ty3 rfl rfl rfl rfl (by simp)) ?_
   refine W.ok (ok_fieldB fd59_5 rfl) ?_
   refine W.ok (ok_loadB (i := 1) (vs := [.string _]) ty9 rfl rfl rfl rfl (by simp)) ?_
   refine W.ok (ok_build (L := [.int .i64 _, .string _]) pl86 zr86 rfl rfl rfl) ?_
   refine W.store (i := 0) (vs := [.int .i64 _, .string _]) (L' := [.int .i64 _, .string _]) ty86 rfl rfl rfl rfl rfl rfl rfl rfl ?_
   refine W.nil (thn_n ?_)
   refine WC.ret (blk_r (thn_r ?_))
   refine ⟨.inr rfl, [_], ⟨⟨_, _, _, _, _, rfl, nthM_mem (i := 0) rfl, ty86, (by simp), rfl, rfl⟩, trivial⟩, [], List.nil_sublist _, ?_⟩
   refine congrArg (fun l => Value.agg (List.toArray l)) ?_
   show [Value.int _ _, Value.string _] = _
   first | (simp_all [Msg.on, Eff.cells, Eff.zero, Str.nil]; done) | (simp_all [Msg.on, Eff.cells, Eff.zero, Str.nil]; split <;> first | (exfalso; omega) | (simp; done) | (split <;> first | (exfalso; omega) | (simp; done)))
  ·have p14 := of_decide_eq_false h14
   refine WC.region ?_
   refine W.ok (ok_eql rfl rfl) ?_
   refine W.as ?_
   refine W.nil (thn_n ?_)
   refine WC.cond (b := _) rfl (fun h15 => ?_) (fun h15 => ?_)
   ·have p15 := of_decide_eq_true h15
    refine WC.seq ?_
    refine WC.region ?_
    refine W.ok (ok_fieldB fd59_1 rfl) ?_
    refine W.ok (ok_loadB (i := 1) (vs := [.int .i64 _]) ty3 rfl rfl rfl rfl (by simp)) ?_
    refine W.ok (ok_fieldB fd59_5 rfl) ?_
    refine W.ok (ok_loadB (i := 1) (vs := [.string _]) ty9 rfl rfl rfl rfl (by simp)) ?_
    refine W.ok (ok_build (L := [.int .i64 _, .string _]) pl86 zr86 rfl rfl rfl) ?_
    refine W.store (i := 0) (vs := [.int .i64 _, .string _]) (L' := [.int .i64 _, .string _]) ty86 rfl rfl rfl rfl rfl rfl rfl rfl ?_
    refine W.nil (thn_n ?_)
    refine WC.ret (blk_r (thn_r ?_))
    refine ⟨.inr rfl, [_], ⟨⟨_, _, _, _, _, rfl, nthM_mem (i := 0) rfl, ty86, (by simp), rfl, rfl⟩, trivial⟩, [], List.nil_sublist _, ?_⟩
    refine congrArg (fun l => Value.agg (List.toArray l)) ?_
    show [Value.int _ _, Value.string _] = _
    first | (simp_all [Msg.on, Eff.cells, Eff.zero, Str.nil]; done) | (simp_all [Msg.on, Eff.cells, Eff.zero, Str.nil]; split <;> first | (exfalso; omega) | (simp; done) | (split <;> first | (exfalso; omega) | (simp; done)))
   ·have p15 := of_decide_eq_false h15
    refine WC.seq ?_
    refine WC.seq ?_
    refine WC.region ?_
    refine W.ok (ok_eql rfl rfl) ?_
    refine W.as ?_
    refine W.nil (thn_n ?_)
    refine WC.cond (b := _) rfl (fun h22 => ?_) (fun h22 => ?_)
    ·have p22 := of_decide_eq_true h22
     refine WC.skip (thn_n ?_)
     refine WC.cond_t rfl h22 ?_
     refine WC.seq ?_
     refine WC.region ?_
     refine W.ok (ok_build (L := [.int .i64 _, .string _]) pl86 zr86 rfl rfl rfl) ?_
     refine W.store (i := 0) (vs := [.int .i64 _, .string _]) (L' := [.int .i64 _, .string _]) ty86 rfl rfl rfl rfl rfl rfl rfl rfl ?_
     refine W.nil (thn_n ?_)
     refine WC.ret (blk_r (thn_r ?_))
     refine ⟨.inr rfl, [_], ⟨⟨_, _, _, _, _, rfl, nthM_mem (i := 0) rfl, ty86, (by simp), rfl, rfl⟩, trivial⟩, [], List.nil_sublist _, ?_⟩
     refine congrArg (fun l => Value.agg (List.toArray l)) ?_
     show [Value.int _ _, Value.string _] = _
     first | (simp_all [Msg.on, Eff.cells, Eff.zero, Str.nil]; done) | (simp_all [Msg.on, Eff.cells, Eff.zero, Str.nil]; split <;> first | (exfalso; omega) | (simp; done) | (split <;> first | (exfalso; omega) | (simp; done)))
    ·have p22 := of_decide_eq_false h22
     refine WC.region ?_
     refine W.ok (ok_eql rfl rfl) ?_
     refine W.as ?_
     refine W.nil (thn_n ?_)
     refine WC.cond (b := _) rfl (fun h23 => ?_) (fun h23 => ?_)
     ·have p23 := of_decide_eq_true h23
      refine WC.seq ?_
      refine WC.region ?_
      refine W.ok (ok_build (L := [.int .i64 _, .string _]) pl86 zr86 rfl rfl rfl) ?_
      refine W.store (i := 0) (vs := [.int .i64 _, .string _]) (L' := [.int .i64 _, .string _]) ty86 rfl rfl rfl rfl rfl rfl rfl rfl ?_
      refine W.nil (thn_n ?_)
      refine WC.ret (blk_r (thn_r ?_))
      refine ⟨.inr rfl, [_], ⟨⟨_, _, _, _, _, rfl, nthM_mem (i := 0) rfl, ty86, (by simp), rfl, rfl⟩, trivial⟩, [], List.nil_sublist _, ?_⟩
      refine congrArg (fun l => Value.agg (List.toArray l)) ?_
      show [Value.int _ _, Value.string _] = _
      first | (simp_all [Msg.on, Eff.cells, Eff.zero, Str.nil]; done) | (simp_all [Msg.on, Eff.cells, Eff.zero, Str.nil]; split <;> first | (exfalso; omega) | (simp; done) | (split <;> first | (exfalso; omega) | (simp; done)))
     ·have p23 := of_decide_eq_false h23
      refine WC.skip (blk_n (thn_n ?_))
      refine WC.seq ?_
      refine WC.region ?_
      refine W.ok (ok_build (L := [.int .i64 _, .string _]) pl86 zr86 rfl rfl rfl) ?_
      refine W.store (i := 0) (vs := [.int .i64 _, .string _]) (L' := [.int .i64 _, .string _]) ty86 rfl rfl rfl rfl rfl rfl rfl rfl ?_
      refine W.nil (thn_n ?_)
      refine WC.ret ?_
      refine ⟨.inr rfl, [_], ⟨⟨_, _, _, _, _, rfl, nthM_mem (i := 0) rfl, ty86, (by simp), rfl, rfl⟩, trivial⟩, [], List.nil_sublist _, ?_⟩
      refine congrArg (fun l => Value.agg (List.toArray l)) ?_
      show [Value.int _ _, Value.string _] = _
      first | (simp_all [Msg.on, Eff.cells, Eff.zero, Str.nil]; done) | (simp_all [Msg.on, Eff.cells, Eff.zero, Str.nil]; split <;> first | (exfalso; omega) | (simp; done) | (split <;> first | (exfalso; omega) | (simp; done)))

theorem ron_fc {G : GH} (ms : Int) (mk : Int) (mkey : Str) (mhi : Str) (mo : Bool) (mv : Str) (k : Str) (hk : mkey.b.size < 140737488355328) :
    Fc Tryd.prog 60 [.agg #[.int .i64 ms, .int .i64 mk, .string mkey.b, .string mhi.b, .bool mo, .string mv.b], .string k.b] G [] (fun v _ _ => v = .agg (List.toArray ((Msg.on (⟨ms, mk, mkey, mhi, mo, mv⟩ : Msg) k).cells))) := by
 refine Fc.intro (rs := [.cell 4 86]) cl60 Tryd.func60 rfl Tryd.ntmps60 rfl rfl (fun w0 => ?_)
 refine WC.seq ?_
 refine WC.region ?_
 refine W.box (L := [.int .i64 _, .int .i64 _, .string _, .string _, .bool _, .string _]) rfl rfl (fun b6 => ?_)
 refine W.alloc zr86 (fun b7 => ?_)
 refine W.nil (thn_n ?_)
 refine WC.seq ?_
 refine WC.seq ?_
 refine WC.region ?_
 refine W.ok (ok_loadB (i := 1) (vs := [.int .i64 _, .int .i64 _, .string _, .string _, .bool _, .string _]) ty59 rfl rfl rfl rfl (by simp)) ?_
 refine W.qcall (rspan_fc _ _ _ _ _ _ (by first | assumption | omega | (dsimp only; omega))) rfl ?_
 refine W.mv ?_
 refine W.qcall (has_fc _ _ _ _) rfl ?_
 refine W.ok (ok_not rfl) ?_
 refine W.mv ?_
 refine W.sp 10 rfl (fun h9 => ?_) (fun h9 => ?_)
 ·refine W.no (dj := 10) rfl rfl h9 ?_
  refine W.no (dj := 10) rfl rfl h9 ?_
  refine W.no (dj := 10) rfl rfl h9 ?_
  refine W.ok (ok_pick_t rfl h9) ?_
  refine W.mv ?_
  refine W.no (dj := 15) rfl rfl rfl ?_
  refine W.no (dj := 15) rfl rfl rfl ?_
  refine W.no (dj := 15) rfl rfl rfl ?_
  refine W.ok (ok_pick_t rfl rfl) ?_
  refine W.nil (thn_n ?_)
  refine WC.cond_t rfl rfl ?_
  refine WC.seq ?_
  refine WC.region ?_
  refine W.ok (ok_build (L := [.int .i64 _, .string _]) pl86 zr86 rfl rfl rfl) ?_
  refine W.store (i := 0) (vs := [.int .i64 _, .string _]) (L' := [.int .i64 _, .string _]) ty86 rfl rfl rfl rfl rfl rfl rfl rfl ?_
  refine W.nil (thn_n ?_)
  refine WC.ret (thn_r ?_)
  refine ⟨.inr rfl, [_], ⟨⟨_, _, _, _, _, rfl, nthM_mem (i := 0) rfl, ty86, (by simp), rfl, rfl⟩, trivial⟩, [], List.nil_sublist _, ?_⟩
  refine congrArg (fun l => Value.agg (List.toArray l)) ?_
  show [Value.int _ _, Value.string _] = _
  first | (simp_all [Msg.on, Eff.cells, Eff.zero, Str.nil]; done) | (simp_all [Msg.on, Eff.cells, Eff.zero, Str.nil]; split <;> first | (exfalso; omega) | (simp; done) | (split <;> first | (exfalso; omega) | (simp; done)))
 ·refine W.yes (dj := 10) rfl rfl h9 ?_
  refine W.ok (ok_fieldB fd59_1 rfl) ?_
  refine W.yes (dj := 10) rfl rfl h9 ?_
  refine W.ok (ok_loadB (i := 1) (vs := [.int .i64 _]) ty3 rfl rfl rfl rfl (by simp)) ?_
  refine W.yes (dj := 10) rfl rfl h9 ?_
  refine W.ok (ok_lss rfl rfl) ?_
  refine W.ok (ok_pick_f rfl h9) ?_
  refine W.mv ?_
  refine W.sp 15 rfl (fun h13 => ?_) (fun h13 => ?_)
  ·have p13 := of_decide_eq_true h13
   refine W.no (dj := 15) rfl rfl h13 ?_
   refine W.no (dj := 15) rfl rfl h13 ?_
   refine W.no (dj := 15) rfl rfl h13 ?_
   refine W.ok (ok_pick_t rfl h13) ?_
   refine W.nil (thn_n ?_)
   refine WC.cond_t rfl rfl ?_
   refine WC.seq ?_
   refine WC.region ?_
   refine W.ok (ok_build (L := [.int .i64 _, .string _]) pl86 zr86 rfl rfl rfl) ?_
   refine W.store (i := 0) (vs := [.int .i64 _, .string _]) (L' := [.int .i64 _, .string _]) ty86 rfl rfl rfl rfl rfl rfl rfl rfl ?_
   refine W.nil (thn_n ?_)
   refine WC.ret (thn_r ?_)
   refine ⟨.inr rfl, [_], ⟨⟨_, _, _, _, _, rfl, nthM_mem (i := 0) rfl, ty86, (by simp), rfl, rfl⟩, trivial⟩, [], List.nil_sublist _, ?_⟩
   refine congrArg (fun l => Value.agg (List.toArray l)) ?_
   show [Value.int _ _, Value.string _] = _
   first | (simp_all [Msg.on, Eff.cells, Eff.zero, Str.nil]; done) | (simp_all [Msg.on, Eff.cells, Eff.zero, Str.nil]; split <;> first | (exfalso; omega) | (simp; done) | (split <;> first | (exfalso; omega) | (simp; done)))
  ·have p13 := of_decide_eq_false h13
   refine W.yes (dj := 15) rfl rfl h13 ?_
   refine W.ok (ok_fieldB fd59_1 rfl) ?_
   refine W.yes (dj := 15) rfl rfl h13 ?_
   refine W.ok (ok_loadB (i := 1) (vs := [.int .i64 _]) ty3 rfl rfl rfl rfl (by simp)) ?_
   refine W.yes (dj := 15) rfl rfl h13 ?_
   refine W.ok (ok_gtr rfl rfl) ?_
   refine W.ok (ok_pick_f rfl h13) ?_
   refine W.nil (thn_n ?_)
   refine WC.cond (b := _) rfl (fun h18 => ?_) (fun h18 => ?_)
   ·have p18 := of_decide_eq_true h18
    refine WC.seq ?_
    refine WC.region ?_
    refine W.ok (ok_build (L := [.int .i64 _, .string _]) pl86 zr86 rfl rfl rfl) ?_
    refine W.store (i := 0) (vs := [.int .i64 _, .string _]) (L' := [.int .i64 _, .string _]) ty86 rfl rfl rfl rfl rfl rfl rfl rfl ?_
    refine W.nil (thn_n ?_)
    refine WC.ret (thn_r ?_)
    refine ⟨.inr rfl, [_], ⟨⟨_, _, _, _, _, rfl, nthM_mem (i := 0) rfl, ty86, (by simp), rfl, rfl⟩, trivial⟩, [], List.nil_sublist _, ?_⟩
    refine congrArg (fun l => Value.agg (List.toArray l)) ?_
    show [Value.int _ _, Value.string _] = _
    first | (simp_all [Msg.on, Eff.cells, Eff.zero, Str.nil]; done) | (simp_all [Msg.on, Eff.cells, Eff.zero, Str.nil]; split <;> first | (exfalso; omega) | (simp; done) | (split <;> first | (exfalso; omega) | (simp; done)))
   ·have p18 := of_decide_eq_false h18
    refine WC.skip (thn_n ?_)
    refine WC.seq ?_
    refine WC.seq ?_
    refine WC.region ?_
    refine W.ok (ok_fieldB fd59_1 rfl) ?_
    refine W.ok (ok_loadB (i := 1) (vs := [.int .i64 _]) ty3 rfl rfl rfl rfl (by simp)) ?_
    refine W.ok (ok_geq rfl rfl) ?_
    refine W.nil (thn_n ?_)
    refine WC.cond (b := _) rfl (fun h23 => ?_) (fun h23 => ?_)
    ·have p23 := of_decide_eq_true h23
     refine WC.seq ?_
     refine WC.region ?_
     refine W.ok (ok_build (L := [.int .i64 _, .string _]) pl86 zr86 rfl rfl rfl) ?_
     refine W.store (i := 0) (vs := [.int .i64 _, .string _]) (L' := [.int .i64 _, .string _]) ty86 rfl rfl rfl rfl rfl rfl rfl rfl ?_
     refine W.nil (thn_n ?_)
     refine WC.ret (thn_r ?_)
     refine ⟨.inr rfl, [_], ⟨⟨_, _, _, _, _, rfl, nthM_mem (i := 0) rfl, ty86, (by simp), rfl, rfl⟩, trivial⟩, [], List.nil_sublist _, ?_⟩
     refine congrArg (fun l => Value.agg (List.toArray l)) ?_
     show [Value.int _ _, Value.string _] = _
     first | (simp_all [Msg.on, Eff.cells, Eff.zero, Str.nil]; done) | (simp_all [Msg.on, Eff.cells, Eff.zero, Str.nil]; split <;> first | (exfalso; omega) | (simp; done) | (split <;> first | (exfalso; omega) | (simp; done)))
    ·have p23 := of_decide_eq_false h23
     refine WC.skip (thn_n ?_)
     refine WC.seq ?_
     refine WC.region ?_
     refine W.ok (ok_fieldB fd59_1 rfl) ?_
     refine W.ok (ok_loadB (i := 1) (vs := [.int .i64 _]) ty3 rfl rfl rfl rfl (by simp)) ?_
     refine W.ok (ok_fieldB fd59_5 rfl) ?_
     refine W.ok (ok_loadB (i := 1) (vs := [.string _]) ty9 rfl rfl rfl rfl (by simp)) ?_
     refine W.ok (ok_build (L := [.int .i64 _, .string _]) pl86 zr86 rfl rfl rfl) ?_
     refine W.store (i := 0) (vs := [.int .i64 _, .string _]) (L' := [.int .i64 _, .string _]) ty86 rfl rfl rfl rfl rfl rfl rfl rfl ?_
     refine W.nil (thn_n ?_)
     refine WC.ret ?_
     refine ⟨.inr rfl, [_], ⟨⟨_, _, _, _, _, rfl, nthM_mem (i := 0) rfl, ty86, (by simp), rfl, rfl⟩, trivial⟩, [], List.nil_sublist _, ?_⟩
     refine congrArg (fun l => Value.agg (List.toArray l)) ?_
     show [Value.int _ _, Value.string _] = _
     first | (simp_all [Msg.on, Eff.cells, Eff.zero, Str.nil]; done) | (simp_all [Msg.on, Eff.cells, Eff.zero, Str.nil]; split <;> first | (exfalso; omega) | (simp; done) | (split <;> first | (exfalso; omega) | (simp; done)))

end Go.Proofs.YthmkpaoolhcibaaDoor
