/- Walks of functions on keys and spans. -/
import Derived.Test.YthmkpaoolhcibaaDoorFt
import Derived.Test.YthmkpaoolhcibaaDoorX3
namespace Go.Proofs.YthmkpaoolhcibaaDoor
open Go Go.Fw Go.RowKit
set_option maxRecDepth 100000
set_option maxHeartbeats 1600000
set_option linter.unusedVariables false
set_option linter.unusedSimpArgs false
set_option linter.unnecessarySimpa false
theorem less_fc {G : GH} (a : Str) (b : Str) :
    Fc Tryd.prog 23 [.string a.b, .string b.b] G [] (fun v _ _ => v = .bool (Str.lt a b)) := by
 have ha := a.le
 have hb := b.le
 refine Fc.intro (rs := [.tmp 4]) cl23 Tryd.func23 rfl Tryd.ntmps23 rfl rfl (fun w0 => ?_)
 refine WC.seq ?_
 refine WC.region ?_
 refine W.as ?_
 refine W.nil (thn_n ?_)
 refine WC.seq ?_
 refine WC.seq ?_
 refine WC.region ?_
 refine W.as ?_
 refine W.nil (thn_n ?_)
 refine WC.block ?_
 refine WC.loop (X := Nat) (fun k => [(5, .int .i64 ((k : Nat) : Int)), (0, .string a.b), (1, .string b.b)]) (fun k _ Ml => Ml = [] ∧ k ≤ a.b.size ∧ k ≤ b.b.size ∧ ∀ i, i < k → a.b[i]? = b.b[i]?) (fun k => a.b.size - k) 0 ⟨(by first | rfl | exact iv (by dsimp only; omega) | exact iv (by omega)), (by first | rfl | exact iv (by dsimp only; omega) | exact iv (by omega)), (by first | rfl | exact iv (by dsimp only; omega) | exact iv (by omega)), trivial⟩ ?_ ?_
 ·exact ⟨rfl, by omega, by omega, fun i hi => by omega⟩
 ·rintro k gG1 G1 _ hG1 ⟨rfl, hk1, hk2, hk3⟩
  refine WC.seq ?_
  refine WC.seq ?_
  refine WC.region ?_
  refine W.mv ?_
  refine W.mv ?_
  refine W.ok (ok_lenS st9 rfl) ?_
  refine W.ok (ok_lss rfl rfl) ?_
  refine W.mv ?_
  refine W.sp 10 rfl (fun h9 => ?_) (fun h9 => ?_)
  ·have p9 := of_decide_eq_true h9
   refine W.yes (dj := 10) rfl rfl h9 ?_
   refine W.mv ?_
   refine W.yes (dj := 10) rfl rfl h9 ?_
   refine W.mv ?_
   refine W.yes (dj := 10) rfl rfl h9 ?_
   refine W.ok (ok_lenS st9 rfl) ?_
   refine W.yes (dj := 10) rfl rfl h9 ?_
   refine W.ok (ok_lss rfl rfl) ?_
   refine W.ok (ok_pick_t rfl h9) ?_
   refine W.nil (thn_n ?_)
   refine WC.cond (b := _) rfl (fun h14 => ?_) (fun h14 => ?_)
   ·have p14 := of_decide_eq_true h14
    refine WC.skip (thn_n ?_)
    refine WC.seq ?_
    refine WC.block ?_
    refine WC.seq ?_
    refine WC.draw mix (by kernel_rfl) ?_
    refine W.mv ?_
    refine W.mv ?_
    refine W.ok (ok_indexS (i := k) st9 rfl rfl ⟨by omega, by omega⟩) ?_
    refine W.mv ?_
    refine W.mv ?_
    refine W.ok (ok_indexS (i := k) st9 rfl rfl ⟨by omega, by omega⟩) ?_
    refine W.ok (ok_neq rfl rfl) ?_
    refine W.nil (thn_n ?_)
    refine WC.cond (b := _) rfl (fun h24 => ?_) (fun h24 => ?_)
    ·have p24 := nd_t h24
     refine WC.seq ?_
     refine WC.draw mix (by kernel_rfl) ?_
     refine W.mv ?_
     refine W.mv ?_
     refine W.ok (ok_indexS (i := k) st9 rfl rfl ⟨by omega, by omega⟩) ?_
     refine W.mv ?_
     refine W.mv ?_
     refine W.ok (ok_indexS (i := k) st9 rfl rfl ⟨by omega, by omega⟩) ?_
     refine W.ok (ok_lss rfl rfl) ?_
     refine W.as ?_
     refine W.nil (thn_n ?_)
     refine WC.ret (blk_r (thn_r (thn_r (blk_r (thn_r ?_)))))
     refine ⟨.inr rfl, [_], ⟨rfl, trivial⟩, [], List.nil_sublist _, ?_⟩
     exact congrArg Value.bool (blt_at hk3 _ _ (by omega))
    ·have p24 := nd_f h24
     refine WC.skip (blk_n (thn_n ?_))
     refine WC.region ?_
     refine W.mv ?_
     refine W.ok (ok_add rfl rfl (by omega)) ?_
     refine W.as ?_
     refine W.nil (thn_n ?_)
     exact ⟨Le.rfl, k + 1, ⟨(by first | rfl | exact iv (by dsimp only; omega) | exact iv (by omega)), (by first | rfl | exact iv (by dsimp only; omega) | exact iv (by omega)), (by first | rfl | exact iv (by dsimp only; omega) | exact iv (by omega)), trivial⟩, ⟨rfl, by omega, by omega, same_succ hk3 (by omega) (by omega) p24⟩, by omega⟩
   ·have p14 := of_decide_eq_false h14
    refine WC.exit (thn_x (thn_x (blk_h (thn_n ?_))))
    refine WC.seq ?_
    refine WC.region ?_
    refine W.mv ?_
    refine W.ok (ok_lenS st9 rfl) ?_
    refine W.mv ?_
    refine W.ok (ok_lenS st9 rfl) ?_
    refine W.ok (ok_lss rfl rfl) ?_
    refine W.as ?_
    refine W.nil (thn_n ?_)
    refine WC.ret ?_
    refine ⟨.inr rfl, [_], ⟨rfl, trivial⟩, [], List.nil_sublist _, ?_⟩
    exact congrArg Value.bool (blt_end hk3 (by omega) (by omega) (by omega))
  ·have p9 := of_decide_eq_false h9
   refine W.no (dj := 10) rfl rfl h9 ?_
   refine W.no (dj := 10) rfl rfl h9 ?_
   refine W.no (dj := 10) rfl rfl h9 ?_
   refine W.no (dj := 10) rfl rfl h9 ?_
   refine W.ok (ok_pick_f rfl h9) ?_
   refine W.nil (thn_n ?_)
   refine WC.cond_f rfl rfl ?_
   refine WC.exit (thn_x (thn_x (blk_h (thn_n ?_))))
   refine WC.seq ?_
   refine WC.region ?_
   refine W.mv ?_
   refine W.ok (ok_lenS st9 rfl) ?_
   refine W.mv ?_
   refine W.ok (ok_lenS st9 rfl) ?_
   refine W.ok (ok_lss rfl rfl) ?_
   refine W.as ?_
   refine W.nil (thn_n ?_)
   refine WC.ret ?_
   refine ⟨.inr rfl, [_], ⟨rfl, trivial⟩, [], List.nil_sublist _, ?_⟩
   exact congrArg Value.bool (blt_end hk3 (by omega) (by omega) (by omega))

theorem has_fc {G : GH} (slo : Str) (shi : Str) (so : Bool) (k : Str) :
    Fc Tryd.prog 58 [.agg #[.string slo.b, .string shi.b, .bool so], .string k.b] G [] (fun v _ _ => v = .bool (Span.has ⟨slo, shi, so⟩ k)) := by
 refine Fc.intro (rs := [.tmp 4]) cl58 Tryd.func58 rfl Tryd.ntmps58 rfl rfl (fun w0 => ?_)
 refine WC.seq ?_
 refine WC.region ?_
 refine W.box (L := [.string _, .string _, .bool _]) rfl rfl (fun b2 => ?_)
 refine W.as ?_
 refine W.nil (thn_n ?_)
 refine WC.seq ?_
 refine WC.region ?_
 refine W.mv ?_
 refine W.ok (ok_fieldB fd56_0 rfl) ?_
 refine W.ok (ok_loadB (i := 0) (vs := [.string _]) ty9 rfl rfl rfl rfl (by simp)) ?_
 refine W.qcall (less_fc _ _) rfl ?_
 refine W.ok (ok_not rfl) ?_
 refine W.mv ?_
 refine W.sp 10 rfl (fun h9 => ?_) (fun h9 => ?_)
 ·refine W.yes (dj := 10) rfl rfl h9 ?_
  refine W.ok (ok_fieldB fd56_2 rfl) ?_
  refine W.yes (dj := 10) rfl rfl h9 ?_
  refine W.ok (ok_loadB (i := 0) (vs := [.bool _]) ty4 rfl rfl rfl rfl (by simp)) ?_
  refine W.yes (dj := 10) rfl rfl h9 ?_
  refine W.mv ?_
  refine W.sp 13 rfl (fun ha_so => ?_) (fun ha_so => ?_)
  ·refine W.no (dj := 13) rfl rfl ha_so ?_
   refine W.no (dj := 13) rfl rfl ha_so ?_
   refine W.no (dj := 13) rfl rfl ha_so ?_
   refine W.no (dj := 13) rfl rfl ha_so ?_
   refine W.yes (dj := 10) rfl rfl h9 ?_
   refine W.ok (ok_pick_t rfl ha_so) ?_
   refine W.ok (ok_pick_t rfl h9) ?_
   refine W.as ?_
   refine W.nil (thn_n ?_)
   refine WC.ret ?_
   refine ⟨.inr rfl, [_], ⟨rfl, trivial⟩, [], List.nil_sublist _, ?_⟩
   refine congrArg Value.bool ?_
   simp_all [Span.has]
  ·refine W.yes (dj := 13) rfl rfl ha_so ?_
   refine W.mv ?_
   refine W.yes (dj := 13) rfl rfl ha_so ?_
   refine W.ok (ok_fieldB fd56_1 rfl) ?_
   refine W.yes (dj := 13) rfl rfl ha_so ?_
   refine W.ok (ok_loadB (i := 0) (vs := [.string _]) ty9 rfl rfl rfl rfl (by simp)) ?_
   refine W.yes (dj := 13) rfl rfl ha_so ?_
   refine W.qcall (less_fc _ _) rfl ?_
   refine W.yes (dj := 10) rfl rfl h9 ?_
   refine W.ok (ok_pick_f rfl ha_so) ?_
   refine W.ok (ok_pick_t rfl h9) ?_
   refine W.as ?_
   refine W.nil (thn_n ?_)
   refine WC.ret ?_
   refine ⟨.inr rfl, [_], ⟨rfl, trivial⟩, [], List.nil_sublist _, ?_⟩
   refine congrArg Value.bool ?_
   simp_all [Span.has]
 ·refine W.no (dj := 10) rfl rfl h9 ?_
  refine W.no (dj := 10) rfl rfl h9 ?_
  refine W.no (dj := 10) rfl rfl h9 ?_
  refine W.nou (dj := 13) rfl rfl ?_
  refine W.nou (dj := 13) rfl rfl ?_
  refine W.nou (dj := 13) rfl rfl ?_
  refine W.nou (dj := 13) rfl rfl ?_
  refine W.no (dj := 10) rfl rfl h9 ?_
  refine W.ok (ok_pick_f rfl h9) ?_
  refine W.as ?_
  refine W.nil (thn_n ?_)
  refine WC.ret ?_
  refine ⟨.inr rfl, [_], ⟨rfl, trivial⟩, [], List.nil_sublist _, ?_⟩
  refine congrArg Value.bool ?_
  simp_all [Span.has]

theorem empty_fc {G : GH} (slo : Str) (shi : Str) (so : Bool) :
    Fc Tryd.prog 57 [.agg #[.string slo.b, .string shi.b, .bool so]] G [] (fun v _ _ => v = .bool (Span.empty ⟨slo, shi, so⟩)) := by
 refine Fc.intro (rs := [.tmp 2]) cl57 Tryd.func57 rfl Tryd.ntmps57 rfl rfl (fun w0 => ?_)
 refine WC.seq ?_
 refine WC.region ?_
 refine W.box (L := [.string _, .string _, .bool _]) rfl rfl (fun b3 => ?_)
 refine W.as ?_
 refine W.nil (thn_n ?_)
 refine WC.seq ?_
 refine WC.region ?_
 refine W.ok (ok_loadB (i := 0) (vs := [.string _, .string _, .bool _]) ty56 rfl rfl rfl rfl (by simp)) ?_
 refine W.ok (ok_fieldB fd56_0 rfl) ?_
 refine W.ok (ok_loadB (i := 0) (vs := [.string _]) ty9 rfl rfl rfl rfl (by simp)) ?_
 refine W.qcall (has_fc _ _ _ _) rfl ?_
 refine W.ok (ok_not rfl) ?_
 refine W.as ?_
 refine W.nil (thn_n ?_)
 refine WC.ret ?_
 refine ⟨.inr rfl, [_], ⟨rfl, trivial⟩, [], List.nil_sublist _, ?_⟩
 refine congrArg Value.bool ?_
 exact Span.empty_eq ⟨slo, shi, so⟩

theorem spanempty_fc {G : GH} (slo : Str) (shi : Str) (so : Bool) :
    Fc Tryd.prog 48 [.agg #[.string slo.b, .string shi.b, .bool so]] G [] (fun v _ _ => v = .bool (Span.empty ⟨slo, shi, so⟩)) := by
 refine Fc.intro (rs := [.tmp 2]) cl48 Tryd.func48 rfl Tryd.ntmps48 rfl rfl (fun w0 => ?_)
 refine WC.seq ?_
 refine WC.region ?_
 refine W.box (L := [.string _, .string _, .bool _]) rfl rfl (fun b4 => ?_)
 refine W.as ?_
 refine W.nil (thn_n ?_)
 refine WC.seq ?_
 refine WC.region ?_
 refine W.ok (ok_fieldB fd56_2 rfl) ?_
 refine W.ok (ok_loadB (i := 0) (vs := [.bool _]) ty4 rfl rfl rfl rfl (by simp)) ?_
 refine W.ok (ok_not rfl) ?_
 refine W.mv ?_
 refine W.sp 6 rfl (fun h5 => ?_) (fun h5 => ?_)
 ·refine W.yes (dj := 6) rfl rfl h5 ?_
  refine W.ok (ok_fieldB fd56_0 rfl) ?_
  refine W.yes (dj := 6) rfl rfl h5 ?_
  refine W.ok (ok_loadB (i := 0) (vs := [.string _]) ty9 rfl rfl rfl rfl (by simp)) ?_
  refine W.yes (dj := 6) rfl rfl h5 ?_
  refine W.ok (ok_fieldB fd56_1 rfl) ?_
  refine W.yes (dj := 6) rfl rfl h5 ?_
  refine W.ok (ok_loadB (i := 0) (vs := [.string _]) ty9 rfl rfl rfl rfl (by simp)) ?_
  refine W.yes (dj := 6) rfl rfl h5 ?_
  refine W.ok (ok_geqS rfl rfl) ?_
  refine W.ok (ok_pick_t rfl h5) ?_
  refine W.as ?_
  refine W.nil (thn_n ?_)
  refine WC.ret ?_
  refine ⟨.inr rfl, [_], ⟨rfl, trivial⟩, [], List.nil_sublist _, ?_⟩
  refine congrArg Value.bool ?_
  simp_all [Span.empty, Str.lt]
 ·refine W.no (dj := 6) rfl rfl h5 ?_
  refine W.no (dj := 6) rfl rfl h5 ?_
  refine W.no (dj := 6) rfl rfl h5 ?_
  refine W.no (dj := 6) rfl rfl h5 ?_
  refine W.no (dj := 6) rfl rfl h5 ?_
  refine W.ok (ok_pick_f rfl h5) ?_
  refine W.as ?_
  refine W.nil (thn_n ?_)
  refine WC.ret ?_
  refine ⟨.inr rfl, [_], ⟨rfl, trivial⟩, [], List.nil_sublist _, ?_⟩
  refine congrArg Value.bool ?_
  simp_all [Span.empty, Str.lt]

theorem spanhas_fc {G : GH} (slo : Str) (shi : Str) (so : Bool) (k : Str) :
    Fc Tryd.prog 50 [.agg #[.string slo.b, .string shi.b, .bool so], .string k.b] G [] (fun v _ _ => v = .bool (Span.has ⟨slo, shi, so⟩ k)) := by
 refine Fc.intro (rs := [.tmp 4]) cl50 Tryd.func50 rfl Tryd.ntmps50 rfl rfl (fun w0 => ?_)
 refine WC.seq ?_
 refine WC.region ?_
 refine W.box (L := [.string _, .string _, .bool _]) rfl rfl (fun b5 => ?_)
 refine W.as ?_
 refine W.nil (thn_n ?_)
 refine WC.seq ?_
 refine WC.region ?_
 refine W.mv ?_
 refine W.ok (ok_fieldB fd56_0 rfl) ?_
 refine W.ok (ok_loadB (i := 0) (vs := [.string _]) ty9 rfl rfl rfl rfl (by simp)) ?_
 refine W.ok (ok_geqS rfl rfl) ?_
 refine W.mv ?_
 refine W.sp 9 rfl (fun h8 => ?_) (fun h8 => ?_)
 ·refine W.yes (dj := 9) rfl rfl h8 ?_
  refine W.ok (ok_fieldB fd56_2 rfl) ?_
  refine W.yes (dj := 9) rfl rfl h8 ?_
  refine W.ok (ok_loadB (i := 0) (vs := [.bool _]) ty4 rfl rfl rfl rfl (by simp)) ?_
  refine W.yes (dj := 9) rfl rfl h8 ?_
  refine W.mv ?_
  refine W.sp 12 rfl (fun ha_so => ?_) (fun ha_so => ?_)
  ·refine W.no (dj := 12) rfl rfl ha_so ?_
   refine W.no (dj := 12) rfl rfl ha_so ?_
   refine W.no (dj := 12) rfl rfl ha_so ?_
   refine W.no (dj := 12) rfl rfl ha_so ?_
   refine W.yes (dj := 9) rfl rfl h8 ?_
   refine W.ok (ok_pick_t rfl ha_so) ?_
   refine W.ok (ok_pick_t rfl h8) ?_
   refine W.as ?_
   refine W.nil (thn_n ?_)
   refine WC.ret ?_
   refine ⟨.inr rfl, [_], ⟨rfl, trivial⟩, [], List.nil_sublist _, ?_⟩
   refine congrArg Value.bool ?_
   simp_all [Span.has, Str.lt]
  ·refine W.yes (dj := 12) rfl rfl ha_so ?_
   refine W.mv ?_
   refine W.yes (dj := 12) rfl rfl ha_so ?_
   refine W.ok (ok_fieldB fd56_1 rfl) ?_
   refine W.yes (dj := 12) rfl rfl ha_so ?_
   refine W.ok (ok_loadB (i := 0) (vs := [.string _]) ty9 rfl rfl rfl rfl (by simp)) ?_
   refine W.yes (dj := 12) rfl rfl ha_so ?_
   refine W.ok (ok_lssS rfl rfl) ?_
   refine W.yes (dj := 9) rfl rfl h8 ?_
   refine W.ok (ok_pick_f rfl ha_so) ?_
   refine W.ok (ok_pick_t rfl h8) ?_
   refine W.as ?_
   refine W.nil (thn_n ?_)
   refine WC.ret ?_
   refine ⟨.inr rfl, [_], ⟨rfl, trivial⟩, [], List.nil_sublist _, ?_⟩
   refine congrArg Value.bool ?_
   simp_all [Span.has, Str.lt]
 ·refine W.no (dj := 9) rfl rfl h8 ?_
  refine W.no (dj := 9) rfl rfl h8 ?_
  refine W.no (dj := 9) rfl rfl h8 ?_
  refine W.nou (dj := 12) rfl rfl ?_
  refine W.nou (dj := 12) rfl rfl ?_
  refine W.nou (dj := 12) rfl rfl ?_
  refine W.nou (dj := 12) rfl rfl ?_
  refine W.no (dj := 9) rfl rfl h8 ?_
  refine W.ok (ok_pick_f rfl h8) ?_
  refine W.as ?_
  refine W.nil (thn_n ?_)
  refine WC.ret ?_
  refine ⟨.inr rfl, [_], ⟨rfl, trivial⟩, [], List.nil_sublist _, ?_⟩
  refine congrArg Value.bool ?_
  simp_all [Span.has, Str.lt]

theorem isnan_fc {G : GH} (a : Str) :
    Fc Tryd.prog 86 [.string a.b] G [] (fun v _ _ => v = .bool (false)) := by
 refine Fc.intro (rs := [.tmp 2]) cl86 Tryd.func86 rfl Tryd.ntmps86 rfl rfl (fun w0 => ?_)
 refine WC.seq ?_
 refine WC.region ?_
 refine W.as ?_
 refine W.nil (thn_n ?_)
 refine WC.seq ?_
 refine WC.region ?_
 refine W.mv ?_
 refine W.mv ?_
 refine W.ok (ok_neqS rfl rfl) ?_
 refine W.as ?_
 refine W.nil (thn_n ?_)
 refine WC.ret ?_
 refine ⟨.inr rfl, [_], ⟨rfl, trivial⟩, [], List.nil_sublist _, ?_⟩
 refine congrArg Value.bool ?_
 simp

end Go.Proofs.YthmkpaoolhcibaaDoor
