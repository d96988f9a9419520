/- Walks of functions on keys and spans. -/
import Derived.Test.YtmbafmifalppaaaGreatQcNc
set_option maxRecDepth 100000
set_option maxHeartbeats 1600000
set_option linter.unusedVariables false
set_option linter.unusedSimpArgs false
set_option linter.unnecessarySimpa false
namespace Go.Proofs.YtmbafmifalppaaaGreat
open Go Go.Fw Go.RowKit
def S_ : Str := ⟨⟨#[]⟩, by decide⟩
theorem less_fc {G : GH} (a : Str) (b : Str) :
    Fc Tryz.prog 59 [.string a.b, .string b.b] G [] (fun v _ _ => v = .bool (Str.lt a b)) := by
 have ha := a.le
 have hb := b.le
 refine Fc.intro (rs := [.tmp 4]) cl59 Tryz.func59 rfl Tryz.ntmps59 rfl rfl (fun w0 => ?_)
 refine WC.seq (WC.region (W.as (W.nil (thn_n (WC.seq (WC.seq (WC.region (W.as (W.nil (thn_n (WC.block ?_)))))))))))
 refine WC.loop (X := Nat) (fun k => [(5, .int .i64 ((k : Nat) : Int)), (0, .string a.b), (1, .string b.b)]) (fun k _ Ml => Ml = [] ∧ k ≤ a.b.size ∧ k ≤ b.b.size ∧ ∀ i, i < k → a.b[i]? = b.b[i]?) (fun k => a.b.size - k) 0 ⟨eqv, eqv, eqv, trivial⟩ ?_ ?_
 ·exact ⟨rfl, by omega, by omega, fun i hi => by omega⟩
 rintro k gG1 G1 _ hG1 ⟨rfl, hk1, hk2, hk3⟩
 refine WC.seq (WC.seq (WC.region (W.mv (W.mv (W.ok (ok_lenS st9 rfl) (W.ok (ok_lss rfl rfl) (W.mv ?_)))))))
 refine W.sp 10 rfl (fun h9 => ?_) (fun h9 => ?_)
 ·have p9 := of_decide_eq_true h9
  refine W.yes (dj := 10) rfl rfl h9 (W.mv (W.yes (dj := 10) rfl rfl h9 (W.mv (W.yes (dj := 10) rfl rfl h9 (W.ok (ok_lenS st9 rfl) (W.yes (dj := 10) rfl rfl h9 (W.ok (ok_lss rfl rfl) (W.ok (ok_pick_t rfl h9) (W.nil (thn_n ?_))))))))))
  refine WC.cond (b := _) rfl (fun h14 => ?_) (fun h14 => ?_)
  ·have p14 := of_decide_eq_true h14
   refine WC.skip (thn_n (WC.seq (WC.block (WC.seq (WC.draw mix (by kernel_rfl) (W.mv (W.mv (W.ok (ok_indexS (i := k) st9 rfl rfl ⟨by omega, by omega⟩) (W.mv (W.mv (W.ok (ok_indexS (i := k) st9 rfl rfl ⟨by omega, by omega⟩) (W.ok (ok_neq rfl rfl) (W.nil (thn_n ?_))))))))))))))
   refine WC.cond (b := _) rfl (fun h24 => ?_) (fun h24 => ?_)
   ·have p24 := nd_t h24
    refine WC.seq (WC.draw mix (by kernel_rfl) (W.mv (W.mv (W.ok (ok_indexS (i := k) st9 rfl rfl ⟨by omega, by omega⟩) (W.mv (W.mv (W.ok (ok_indexS (i := k) st9 rfl rfl ⟨by omega, by omega⟩) (W.ok (ok_lss rfl rfl) (W.as (W.nil (thn_n (WC.ret (blk_r (thn_r (thn_r (blk_r (thn_r ?_)))))))))))))))))
    refine ⟨.inr rfl, [_], ⟨rfl, trivial⟩, [], sn9, ?_⟩
    exact congrArg Value.bool (blt_at hk3 _ _ (by omega))
   have p24 := nd_f h24
   refine WC.skip (blk_n (thn_n (WC.region (W.mv (W.ok (ok_add rfl rfl (by omega)) (W.as (W.nil (thn_n ?_))))))))
   exact ⟨Le.rfl, k + 1, ⟨eqv, eqv, eqv, trivial⟩, ⟨rfl, by omega, by omega, same_succ hk3 (by omega) (by omega) p24⟩, by omega⟩
  have p14 := of_decide_eq_false h14
  refine WC.exit (thn_x (thn_x (blk_h (thn_n (WC.seq (WC.region (W.mv (W.ok (ok_lenS st9 rfl) (W.mv (W.ok (ok_lenS st9 rfl) (W.ok (ok_lss rfl rfl) (W.as (W.nil (thn_n (WC.ret ?_)))))))))))))))
  refine ⟨.inr rfl, [_], ⟨rfl, trivial⟩, [], sn9, ?_⟩
  exact congrArg Value.bool (blt_end hk3 (by omega) (by omega) (by omega))
 have p9 := of_decide_eq_false h9
 refine W.no (dj := 10) rfl rfl h9 (W.no (dj := 10) rfl rfl h9 (W.no (dj := 10) rfl rfl h9 (W.no (dj := 10) rfl rfl h9 (W.ok (ok_pick_f rfl h9) (W.nil (thn_n (WC.cond_f rfl rfl (WC.exit (thn_x (thn_x (blk_h (thn_n (WC.seq (WC.region (W.mv (W.ok (ok_lenS st9 rfl) (W.mv (W.ok (ok_lenS st9 rfl) ?_))))))))))))))))))
 refine W.ok (ok_lss rfl rfl) (W.as (W.nil (thn_n (WC.ret ?_))))
 refine ⟨.inr rfl, [_], ⟨rfl, trivial⟩, [], sn9, ?_⟩
 exact congrArg Value.bool (blt_end hk3 (by omega) (by omega) (by omega))

theorem has_fc {G : GH} (slo : Str) (shi : Str) (so : Bool) (k : Str) :
    Fc Tryz.prog 14 [.agg #[.string slo.b, .string shi.b, .bool so], .string k.b] G [] (fun v _ _ => v = .bool (Span.has ⟨slo, shi, so⟩ k)) := by
 refine Fc.intro (rs := [.tmp 4]) cl14 Tryz.func14 rfl Tryz.ntmps14 rfl rfl (fun w0 => ?_)
 refine WC.seq (WC.region (W.box (L := [.string _, .string _, .bool _]) rfl rfl (fun b2 => (W.as (W.nil (thn_n (WC.seq (WC.region (W.mv (W.ok (ok_fieldB fd45_0 rfl) (W.ok (ok_loadB (i := 0) (vs := [.string _]) ty9 rfl rfl rfl rfl (by simp)) (W.qcall (less_fc _ _) rfl (W.ok (ok_not rfl) (W.mv ?_))))))))))))))
 refine W.sp 10 rfl (fun h9 => ?_) (fun h9 => ?_)
 ·refine W.yes (dj := 10) rfl rfl h9 (W.ok (ok_fieldB fd45_2 rfl) (W.yes (dj := 10) rfl rfl h9 (W.ok (ok_loadB (i := 0) (vs := [.bool _]) ty4 rfl rfl rfl rfl (by simp)) (W.yes (dj := 10) rfl rfl h9 (W.mv ?_)))))
  refine W.sp 13 rfl (fun ha_so => ?_) (fun ha_so => ?_)
  ·refine W.no (dj := 13) rfl rfl ha_so (W.no (dj := 13) rfl rfl ha_so (W.no (dj := 13) rfl rfl ha_so (W.no (dj := 13) rfl rfl ha_so (W.yes (dj := 10) rfl rfl h9 (W.ok (ok_pick_t rfl ha_so) (W.ok (ok_pick_t rfl h9) (W.as (W.nil (thn_n (WC.ret ?_))))))))))
   refine ⟨.inr rfl, [_], ⟨rfl, trivial⟩, [], sn9, ?_⟩
   refine congrArg Value.bool ?_
   simp_all [Span.has]
  refine W.yes (dj := 13) rfl rfl ha_so (W.mv (W.yes (dj := 13) rfl rfl ha_so (W.ok (ok_fieldB fd45_1 rfl) (W.yes (dj := 13) rfl rfl ha_so (W.ok (ok_loadB (i := 0) (vs := [.string _]) ty9 rfl rfl rfl rfl (by simp)) (W.yes (dj := 13) rfl rfl ha_so (W.qcall (less_fc _ _) rfl (W.yes (dj := 10) rfl rfl h9 (W.ok (ok_pick_f rfl ha_so) (W.ok (ok_pick_t rfl h9) (W.as (W.nil (thn_n (WC.ret ?_))))))))))))))
  refine ⟨.inr rfl, [_], ⟨rfl, trivial⟩, [], sn9, ?_⟩
  refine congrArg Value.bool ?_
  simp_all [Span.has]
 refine W.no (dj := 10) rfl rfl h9 (W.no (dj := 10) rfl rfl h9 (W.no (dj := 10) rfl rfl h9 (W.nou (dj := 13) rfl rfl (W.nou (dj := 13) rfl rfl (W.nou (dj := 13) rfl rfl (W.nou (dj := 13) rfl rfl (W.no (dj := 10) rfl rfl h9 (W.ok (ok_pick_f rfl h9) (W.as (W.nil (thn_n (WC.ret ?_))))))))))))
 refine ⟨.inr rfl, [_], ⟨rfl, trivial⟩, [], sn9, ?_⟩
 refine congrArg Value.bool ?_
 simp_all [Span.has]

theorem empty_fc {G : GH} (slo : Str) (shi : Str) (so : Bool) :
    Fc Tryz.prog 145 [.agg #[.string slo.b, .string shi.b, .bool so]] G [] (fun v _ _ => v = .bool (Span.empty ⟨slo, shi, so⟩)) := by
 refine Fc.intro (rs := [.tmp 2]) cl145 Tryz.func145 rfl Tryz.ntmps145 rfl rfl (fun w0 => ?_)
 refine WC.seq (WC.region (W.box (L := [.string _, .string _, .bool _]) rfl rfl (fun b3 => (W.as (W.nil (thn_n (WC.seq (WC.region (W.ok (ok_loadB (i := 0) (vs := [.string _, .string _, .bool _]) ty45 rfl rfl rfl rfl (by simp)) (W.ok (ok_fieldB fd45_0 rfl) (W.ok (ok_loadB (i := 0) (vs := [.string _]) ty9 rfl rfl rfl rfl (by simp)) (W.qcall (has_fc _ _ _ _) rfl (W.ok (ok_not rfl) (W.as (W.nil (thn_n ?_))))))))))))))))
 refine WC.ret ?_
 refine ⟨.inr rfl, [_], ⟨rfl, trivial⟩, [], sn9, ?_⟩
 refine congrArg Value.bool ?_
 exact Span.empty_eq ⟨slo, shi, so⟩

theorem norm_fc {G : GH} (slo : Str) (shi : Str) (so : Bool) :
    Fc Tryz.prog 99 [.agg #[.string slo.b, .string shi.b, .bool so]] G [] (fun v _ _ => v = .agg (List.toArray ((Span.norm ⟨slo, shi, so⟩ : Span).cells))) := by
 refine Fc.intro (rs := [.cell 2 45]) cl99 Tryz.func99 rfl Tryz.ntmps99 rfl rfl (fun w0 => ?_)
 refine WC.seq (WC.region (W.box (L := [.string _, .string _, .bool _]) rfl rfl (fun b4 => (W.alloc zr45 (fun b5 => (W.nil (thn_n (WC.seq (WC.seq (WC.region (W.ok (ok_loadB (i := 1) (vs := [.string _, .string _, .bool _]) ty45 rfl rfl rfl rfl (by simp)) (W.qcall (empty_fc _ _ _) rfl (W.nil (thn_n ?_))))))))))))))
 refine WC.cond (b := _) rfl (fun h4 => ?_) (fun h4 => ?_)
 ·refine WC.seq (WC.region (W.ok (ok_build (L := [.string _, .string _, .bool _]) pl45 zr45 rfl rfl rfl) (W.store (i := 0) (vs := [.string _, .string _, .bool _]) (L' := [.string _, .string _, .bool _]) ty45 rfl rfl rfl rfl rfl rfl rfl rfl (W.nil (thn_n (WC.ret (thn_r ?_)))))))
  refine ⟨.inr rfl, [_], ⟨⟨_, _, _, _, _, rfl, nthM_mem (i := 0) rfl, ty45, (by simp), rfl, rfl⟩, trivial⟩, [], sn9, ?_⟩
  refine congrArg (fun l => Value.agg (List.toArray l)) ?_
  show [Value.string _, Value.string _, Value.bool _] = _
  simp_all [Span.norm, Span.cells, Span.zero, Str.nil, setAt]
 refine WC.skip (thn_n (WC.seq (WC.seq (WC.region (W.ok (ok_fieldB fd45_2 rfl) (W.ok (ok_loadB (i := 1) (vs := [.bool _]) ty4 rfl rfl rfl rfl (by simp)) (W.nil (thn_n ?_))))))))
 refine WC.cond (b := _) rfl (fun ha_so => ?_) (fun ha_so => ?_)
 ·refine WC.region (W.ok (ok_fieldB fd45_1 rfl) (W.store (i := 1) (vs := [.string _]) (L' := [.string _, .string _, .bool _]) ty9 rfl rfl rfl rfl rfl rfl rfl rfl (W.nil (thn_n (WC.seq (WC.region (W.ok (ok_loadB (i := 1) (vs := [.string _, .string _, .bool _]) ty45 rfl rfl rfl rfl (by simp)) (W.store (i := 0) (vs := [.string _, .string _, .bool _]) (L' := [.string _, .string _, .bool _]) ty45 rfl rfl rfl rfl rfl rfl rfl rfl (W.nil (thn_n (WC.ret ?_)))))))))))
  refine ⟨.inr rfl, [_], ⟨⟨_, _, _, _, _, rfl, nthM_mem (i := 0) rfl, ty45, (by simp), rfl, rfl⟩, trivial⟩, [], sn9, ?_⟩
  refine congrArg (fun l => Value.agg (List.toArray l)) ?_
  show [Value.string _, Value.string _, Value.bool _] = _
  simp_all [Span.norm, Span.cells, Span.zero, Str.nil, setAt]
 refine WC.skip (thn_n (WC.seq (WC.region (W.ok (ok_loadB (i := 1) (vs := [.string _, .string _, .bool _]) ty45 rfl rfl rfl rfl (by simp)) (W.store (i := 0) (vs := [.string _, .string _, .bool _]) (L' := [.string _, .string _, .bool _]) ty45 rfl rfl rfl rfl rfl rfl rfl rfl (W.nil (thn_n (WC.ret ?_))))))))
 refine ⟨.inr rfl, [_], ⟨⟨_, _, _, _, _, rfl, nthM_mem (i := 0) rfl, ty45, (by simp), rfl, rfl⟩, trivial⟩, [], sn9, ?_⟩
 refine congrArg (fun l => Value.agg (List.toArray l)) ?_
 show [Value.string _, Value.string _, Value.bool _] = _
 simp_all [Span.norm, Span.cells, Span.zero, Str.nil, setAt]

theorem spanall_fc {G : GH}  :
    Fc Tryz.prog 178 [] G [] (fun v _ _ => v = .agg (List.toArray ((Span.all : Span).cells))) := by
 refine Fc.intro (rs := [.cell 0 45]) cl178 Tryz.func178 rfl Tryz.ntmps178 rfl rfl (fun w0 => ?_)
 refine WC.seq (WC.region (W.alloc zr45 (fun b6 => (W.nil (thn_n (WC.seq (WC.region (W.ok (ok_build (L := [.string _, .string _, .bool _]) pl45 zr45 rfl rfl rfl) (W.store (i := 0) (vs := [.string _, .string _, .bool _]) (L' := [.string _, .string _, .bool _]) ty45 rfl rfl rfl rfl rfl rfl rfl rfl (W.nil (thn_n (WC.ret ?_))))))))))))
 refine ⟨.inr rfl, [_], ⟨⟨_, _, _, _, _, rfl, nthM_mem (i := 0) rfl, ty45, (by simp), rfl, rfl⟩, trivial⟩, [], sn9, ?_⟩
 rfl

theorem spanempty_fc {G : GH} (slo : Str) (shi : Str) (so : Bool) :
    Fc Tryz.prog 213 [.agg #[.string slo.b, .string shi.b, .bool so]] G [] (fun v _ _ => v = .bool (Span.empty ⟨slo, shi, so⟩)) := by
 refine Fc.intro (rs := [.tmp 2]) cl213 Tryz.func213 rfl Tryz.ntmps213 rfl rfl (fun w0 => ?_)
 refine WC.seq (WC.region (W.box (L := [.string _, .string _, .bool _]) rfl rfl (fun b7 => (W.as (W.nil (thn_n (WC.seq (WC.region (W.ok (ok_fieldB fd45_2 rfl) (W.ok (ok_loadB (i := 0) (vs := [.bool _]) ty4 rfl rfl rfl rfl (by simp)) (W.ok (ok_not rfl) (W.mv ?_))))))))))))
 refine W.sp 6 rfl (fun h5 => ?_) (fun h5 => ?_)
 ·refine W.yes (dj := 6) rfl rfl h5 (W.ok (ok_fieldB fd45_0 rfl) (W.yes (dj := 6) rfl rfl h5 (W.ok (ok_loadB (i := 0) (vs := [.string _]) ty9 rfl rfl rfl rfl (by simp)) (W.yes (dj := 6) rfl rfl h5 (W.ok (ok_fieldB fd45_1 rfl) (W.yes (dj := 6) rfl rfl h5 (W.ok (ok_loadB (i := 0) (vs := [.string _]) ty9 rfl rfl rfl rfl (by simp)) (W.yes (dj := 6) rfl rfl h5 (W.ok (ok_geqS rfl rfl) (W.ok (ok_pick_t rfl h5) (W.as (W.nil (thn_n (WC.ret ?_))))))))))))))
  refine ⟨.inr rfl, [_], ⟨rfl, trivial⟩, [], sn9, ?_⟩
  refine congrArg Value.bool ?_
  simp_all [Span.empty, Str.lt]
 refine W.no (dj := 6) rfl rfl h5 (W.no (dj := 6) rfl rfl h5 (W.no (dj := 6) rfl rfl h5 (W.no (dj := 6) rfl rfl h5 (W.no (dj := 6) rfl rfl h5 (W.ok (ok_pick_f rfl h5) (W.as (W.nil (thn_n (WC.ret ?_)))))))))
 refine ⟨.inr rfl, [_], ⟨rfl, trivial⟩, [], sn9, ?_⟩
 refine congrArg Value.bool ?_
 simp_all [Span.empty, Str.lt]

theorem spannorm_fc {G : GH} (slo : Str) (shi : Str) (so : Bool) :
    Fc Tryz.prog 197 [.agg #[.string slo.b, .string shi.b, .bool so]] G [] (fun v _ _ => v = .agg (List.toArray ((Span.norm ⟨slo, shi, so⟩ : Span).cells))) := by
 refine Fc.intro (rs := [.cell 2 45]) cl197 Tryz.func197 rfl Tryz.ntmps197 rfl rfl (fun w0 => ?_)
 refine WC.seq (WC.region (W.box (L := [.string _, .string _, .bool _]) rfl rfl (fun b8 => (W.alloc zr45 (fun b9 => (W.nil (thn_n (WC.seq (WC.block (WC.seq (WC.region (W.ok (ok_loadB (i := 1) (vs := [.string _, .string _, .bool _]) ty45 rfl rfl rfl rfl (by simp)) (W.qcall (spanempty_fc _ _ _) rfl (W.as (W.nil (thn_n ?_))))))))))))))))
 refine WC.cond (b := _) rfl (fun h5 => ?_) (fun h5 => ?_)
 ·refine WC.seq (WC.region (W.ok (ok_build (L := [.string _, .string _, .bool _]) pl45 zr45 rfl rfl rfl) (W.store (i := 0) (vs := [.string _, .string _, .bool _]) (L' := [.string _, .string _, .bool _]) ty45 rfl rfl rfl rfl rfl rfl rfl rfl (W.nil (thn_n (WC.ret (blk_r (thn_r ?_))))))))
  refine ⟨.inr rfl, [_], ⟨⟨_, _, _, _, _, rfl, nthM_mem (i := 0) rfl, ty45, (by simp), rfl, rfl⟩, trivial⟩, [], sn9, ?_⟩
  refine congrArg (fun l => Value.agg (List.toArray l)) ?_
  show [Value.string _, Value.string _, Value.bool _] = _
  simp_all [Span.norm, Span.cells, Span.zero, Str.nil, setAt]
 refine WC.seq (WC.region (W.ok (ok_fieldB fd45_2 rfl) (W.ok (ok_loadB (i := 1) (vs := [.bool _]) ty4 rfl rfl rfl rfl (by simp)) (W.as (W.nil (thn_n ?_))))))
 refine WC.cond (b := _) rfl (fun ha_so => ?_) (fun ha_so => ?_)
 ·refine WC.region (W.ok (ok_fieldB fd45_1 rfl) (W.store (i := 1) (vs := [.string _]) (L' := [.string _, .string _, .bool _]) ty9 rfl rfl rfl rfl rfl rfl rfl rfl (W.nil (blk_n (thn_n (WC.seq (WC.region (W.ok (ok_loadB (i := 1) (vs := [.string _, .string _, .bool _]) ty45 rfl rfl rfl rfl (by simp)) (W.store (i := 0) (vs := [.string _, .string _, .bool _]) (L' := [.string _, .string _, .bool _]) ty45 rfl rfl rfl rfl rfl rfl rfl rfl (W.nil (thn_n (WC.ret ?_))))))))))))
  refine ⟨.inr rfl, [_], ⟨⟨_, _, _, _, _, rfl, nthM_mem (i := 0) rfl, ty45, (by simp), rfl, rfl⟩, trivial⟩, [], sn9, ?_⟩
  refine congrArg (fun l => Value.agg (List.toArray l)) ?_
  show [Value.string _, Value.string _, Value.bool _] = _
  simp_all [Span.norm, Span.cells, Span.zero, Str.nil, setAt]
 refine WC.skip (blk_n (thn_n (WC.seq (WC.region (W.ok (ok_loadB (i := 1) (vs := [.string _, .string _, .bool _]) ty45 rfl rfl rfl rfl (by simp)) (W.store (i := 0) (vs := [.string _, .string _, .bool _]) (L' := [.string _, .string _, .bool _]) ty45 rfl rfl rfl rfl rfl rfl rfl rfl (W.nil (thn_n (WC.ret ?_)))))))))
 refine ⟨.inr rfl, [_], ⟨⟨_, _, _, _, _, rfl, nthM_mem (i := 0) rfl, ty45, (by simp), rfl, rfl⟩, trivial⟩, [], sn9, ?_⟩
 refine congrArg (fun l => Value.agg (List.toArray l)) ?_
 show [Value.string _, Value.string _, Value.bool _] = _
 simp_all [Span.norm, Span.cells, Span.zero, Str.nil, setAt]

theorem spanhas_fc {G : GH} (slo : Str) (shi : Str) (so : Bool) (k : Str) :
    Fc Tryz.prog 184 [.agg #[.string slo.b, .string shi.b, .bool so], .string k.b] G [] (fun v _ _ => v = .bool (Span.has ⟨slo, shi, so⟩ k)) := by
 refine Fc.intro (rs := [.tmp 4]) cl184 Tryz.func184 rfl Tryz.ntmps184 rfl rfl (fun w0 => ?_)
 refine WC.seq (WC.region (W.box (L := [.string _, .string _, .bool _]) rfl rfl (fun b10 => (W.as (W.nil (thn_n (WC.seq (WC.region (W.mv (W.ok (ok_fieldB fd45_0 rfl) (W.ok (ok_loadB (i := 0) (vs := [.string _]) ty9 rfl rfl rfl rfl (by simp)) (W.ok (ok_geqS rfl rfl) (W.mv ?_)))))))))))))
 refine W.sp 9 rfl (fun h8 => ?_) (fun h8 => ?_)
 ·refine W.yes (dj := 9) rfl rfl h8 (W.ok (ok_fieldB fd45_2 rfl) (W.yes (dj := 9) rfl rfl h8 (W.ok (ok_loadB (i := 0) (vs := [.bool _]) ty4 rfl rfl rfl rfl (by simp)) (W.yes (dj := 9) rfl rfl h8 (W.mv ?_)))))
  refine W.sp 12 rfl (fun ha_so => ?_) (fun ha_so => ?_)
  ·refine W.no (dj := 12) rfl rfl ha_so (W.no (dj := 12) rfl rfl ha_so (W.no (dj := 12) rfl rfl ha_so (W.no (dj := 12) rfl rfl ha_so (W.yes (dj := 9) rfl rfl h8 (W.ok (ok_pick_t rfl ha_so) (W.ok (ok_pick_t rfl h8) (W.as (W.nil (thn_n (WC.ret ?_))))))))))
   refine ⟨.inr rfl, [_], ⟨rfl, trivial⟩, [], sn9, ?_⟩
   refine congrArg Value.bool ?_
   simp_all [Span.has, Str.lt]
  refine W.yes (dj := 12) rfl rfl ha_so (W.mv (W.yes (dj := 12) rfl rfl ha_so (W.ok (ok_fieldB fd45_1 rfl) (W.yes (dj := 12) rfl rfl ha_so (W.ok (ok_loadB (i := 0) (vs := [.string _]) ty9 rfl rfl rfl rfl (by simp)) (W.yes (dj := 12) rfl rfl ha_so (W.ok (ok_lssS rfl rfl) (W.yes (dj := 9) rfl rfl h8 (W.ok (ok_pick_f rfl ha_so) (W.ok (ok_pick_t rfl h8) (W.as (W.nil (thn_n (WC.ret ?_))))))))))))))
  refine ⟨.inr rfl, [_], ⟨rfl, trivial⟩, [], sn9, ?_⟩
  refine congrArg Value.bool ?_
  simp_all [Span.has, Str.lt]
 refine W.no (dj := 9) rfl rfl h8 (W.no (dj := 9) rfl rfl h8 (W.no (dj := 9) rfl rfl h8 (W.nou (dj := 12) rfl rfl (W.nou (dj := 12) rfl rfl (W.nou (dj := 12) rfl rfl (W.nou (dj := 12) rfl rfl (W.no (dj := 9) rfl rfl h8 (W.ok (ok_pick_f rfl h8) (W.as (W.nil (thn_n (WC.ret ?_))))))))))))
 refine ⟨.inr rfl, [_], ⟨rfl, trivial⟩, [], sn9, ?_⟩
 refine congrArg Value.bool ?_
 simp_all [Span.has, Str.lt]

theorem rising_fc {G : GH} {v_l : Value} {l : List Str} (h_l : SlR eStr G v_l l) :
    Fc Tryz.prog 98 [v_l] G [] (fun v _ _ => v = .bool (rising l)) := by
 obtain ⟨sa_l, sc_l, rfl⟩ := h_l.form
 have hl := h_l.len47
 refine Fc.intro (rs := [.tmp 2]) cl98 Tryz.func98 rfl Tryz.ntmps98 rfl rfl (fun w0 => ?_)
 refine WC.seq (WC.region (W.as (W.nil (thn_n (WC.seq (WC.seq (WC.region (W.as (W.nil (thn_n (WC.block ?_)))))))))))
 refine WC.loop (X := Nat) (fun k => [(3, .int .i64 ((k + 1 : Nat) : Int)), (0, .slice sa_l l.length sc_l)]) (fun k _ Ml => Ml = [] ∧ ∀ i (h : i + 1 < l.length), i < k → l[i].lt l[i + 1] = true) (fun k => l.length - k) 0 ⟨eqv, eqv, trivial⟩ ?_ ?_
 ·exact ⟨rfl, fun i _ h => by omega⟩
 rintro k gG11 G11 _ hG11 ⟨rfl, hk⟩
 refine WC.seq (WC.seq (WC.region (W.mv (W.mv (W.ok (ok_len sl38 (h_l.mono hG11) rfl) (W.ok (ok_lss rfl rfl) (W.nil (thn_n ?_))))))))
 refine WC.cond (b := _) rfl (fun h7 => ?_) (fun h7 => ?_)
 ·have p7 := of_decide_eq_true h7
  refine WC.skip (thn_n (WC.seq (WC.block (WC.seq (WC.draw mix (by kernel_rfl) (W.mv (W.mv (W.ok (ok_sub rfl rfl (by omega)) ?_))))))))
  have q14 := (h_l.mono hG11).at (i := k) (by omega)
  refine match q14 with | ⟨_, he12, e_13⟩ => ?_
  subst e_13
  refine W.ok (ok_indexAddr (i := k) sl38 ty9 (h_l.mono hG11) rfl rfl ⟨by omega, by omega⟩) (W.ok (ok_loadE (vs := [.string _]) ty9 he12 rfl rfl rfl (by simp)) (W.mv (W.mv ?_)))
  have q17 := (h_l.mono hG11).at (i := k + 1) (by omega)
  refine match q17 with | ⟨_, he15, e_16⟩ => ?_
  subst e_16
  refine W.ok (ok_indexAddr (i := k + 1) sl38 ty9 (h_l.mono hG11) rfl rfl ⟨by omega, by omega⟩) (W.ok (ok_loadE (vs := [.string _]) ty9 he15 rfl rfl rfl (by simp)) (W.qcall (less_fc _ _) rfl (W.ok (ok_not rfl) (W.nil (thn_n ?_)))))
  refine WC.cond (b := _) rfl (fun h20 => ?_) (fun h20 => ?_)
  ·refine WC.seq (WC.region (W.as (W.nil (thn_n (WC.ret (blk_r (thn_r (thn_r (blk_r (thn_r ?_))))))))))
   refine ⟨.inr rfl, [_], ⟨rfl, trivial⟩, [], sn9, ?_⟩
   refine congrArg Value.bool ?_
   exact (rising_not (i := k) (by omega) (by simpa using h20)).symm
  refine WC.skip (blk_n (thn_n (WC.region (W.mv (W.ok (ok_add rfl rfl (by omega)) (W.as (W.nil (thn_n ?_))))))))
  exact ⟨Le.rfl, k + 1, ⟨eqv, eqv, trivial⟩, ⟨rfl, fun i h hi => by
      by_cases e : i = k
      · subst e; simpa using h20
      · exact hk i h (by omega)⟩, by omega⟩
 have p7 := of_decide_eq_false h7
 refine WC.exit (thn_x (thn_x (blk_h (thn_n (WC.seq (WC.region (W.as (W.nil (thn_n (WC.ret ?_))))))))))
 refine ⟨.inr rfl, [_], ⟨rfl, trivial⟩, [], sn9, ?_⟩
 refine congrArg Value.bool ?_
 exact (rising_iff.2 (fun i h => hk i h (by omega))).symm

theorem rright_fc {G : GH} {v_p : Value} {p : List Str} (h_p : SlR eStr G v_p p) {v_c : Value} {c : List Int} (h_c : SlR eInt G v_c c) :
    Fc Tryz.prog 54 [v_p, v_c] G [] (fun v _ _ => v = .bool (rightN p c.length)) := by
 obtain ⟨sa_p, sc_p, rfl⟩ := h_p.form
 obtain ⟨sa_c, sc_c, rfl⟩ := h_c.form
 have hc := h_c.len47
 have hp := h_p.len47
 refine Fc.intro (rs := [.tmp 4]) cl54 Tryz.func54 rfl Tryz.ntmps54 rfl rfl (fun w0 => ?_)
 refine WC.seq (WC.region (W.as (W.nil (thn_n (WC.seq (WC.region (W.mv (W.qcall (rising_fc h_p) rfl (W.mv ?_)))))))))
 refine W.sp 7 rfl (fun h6 => ?_) (fun h6 => ?_)
 ·refine W.yes (dj := 7) rfl rfl h6 (W.mv (W.yes (dj := 7) rfl rfl h6 (W.ok (ok_len sl39 h_c rfl) (W.yes (dj := 7) rfl rfl h6 (W.mv (W.yes (dj := 7) rfl rfl h6 (W.ok (ok_len sl38 h_p rfl) (W.yes (dj := 7) rfl rfl h6 (W.ok (ok_add rfl rfl (by omega)) (W.yes (dj := 7) rfl rfl h6 (W.ok (ok_eql rfl rfl) (W.ok (ok_pick_t rfl h6) (W.as ?_)))))))))))))
  refine W.nil (thn_n (WC.ret ?_))
  refine ⟨.inr rfl, [_], ⟨rfl, trivial⟩, [], sn9, ?_⟩
  refine congrArg Value.bool ?_
  simp only [rightN, h6, Bool.true_and, Bool.false_and]
  rw [decide_eq_decide]; omega
 refine W.no (dj := 7) rfl rfl h6 (W.no (dj := 7) rfl rfl h6 (W.no (dj := 7) rfl rfl h6 (W.no (dj := 7) rfl rfl h6 (W.no (dj := 7) rfl rfl h6 (W.no (dj := 7) rfl rfl h6 (W.ok (ok_pick_f rfl h6) (W.as (W.nil (thn_n (WC.ret ?_))))))))))
 refine ⟨.inr rfl, [_], ⟨rfl, trivial⟩, [], sn9, ?_⟩
 refine congrArg Value.bool ?_
 simp only [rightN, h6, Bool.true_and, Bool.false_and]

theorem isnan_fc {G : GH} (a : Str) :
    Fc Tryz.prog 194 [.string a.b] G [] (fun v _ _ => v = .bool (false)) := by
 refine Fc.intro (rs := [.tmp 2]) cl194 Tryz.func194 rfl Tryz.ntmps194 rfl rfl (fun w0 => ?_)
 refine WC.seq (WC.region (W.as (W.nil (thn_n (WC.seq (WC.region (W.mv (W.mv (W.ok (ok_neqS rfl rfl) (W.as (W.nil (thn_n (WC.ret ?_)))))))))))))
 refine ⟨.inr rfl, [_], ⟨rfl, trivial⟩, [], sn9, ?_⟩
 refine congrArg Value.bool ?_
 simp

theorem sisnan_fc {G : GH} (a : Str) :
    Fc Tryz.prog 164 [.string a.b] G [] (fun v _ _ => v = .bool (false)) := by
 refine Fc.intro (rs := [.tmp 2]) cl164 Tryz.func164 rfl Tryz.ntmps164 rfl rfl (fun w0 => ?_)
 refine WC.seq (WC.region (W.as (W.nil (thn_n (WC.seq (WC.region (W.mv (W.mv (W.ok (ok_neqS rfl rfl) (W.as (W.nil (thn_n (WC.ret ?_)))))))))))))
 refine ⟨.inr rfl, [_], ⟨rfl, trivial⟩, [], sn9, ?_⟩
 refine congrArg Value.bool ?_
 simp

theorem cmpless_fc {G : GH} (a : Str) (b : Str) :
    Fc Tryz.prog 163 [.string a.b, .string b.b] G [] (fun v _ _ => v = .bool (Str.lt a b)) := by
 refine Fc.intro (rs := [.tmp 4]) cl163 Tryz.func163 rfl Tryz.ntmps163 rfl rfl (fun w0 => ?_)
 refine WC.seq (WC.region (W.as (W.nil (thn_n (WC.seq (WC.region (W.mv (W.qcall (isnan_fc _) rfl (W.mv ?_)))))))))
 refine W.sp 7 rfl (fun h6 => ?_) (fun h6 => ?_)
 ·cases h6
 refine W.no (dj := 7) rfl rfl h6 (W.no (dj := 7) rfl rfl h6 (W.no (dj := 7) rfl rfl h6 (W.ok (ok_pick_f rfl h6) (W.mv (W.yes (dj := 12) rfl rfl rfl (W.mv (W.yes (dj := 12) rfl rfl rfl (W.mv (W.yes (dj := 12) rfl rfl rfl (W.ok (ok_lssS rfl rfl) (W.ok (ok_pick_f rfl rfl) (W.as (W.nil (thn_n ?_))))))))))))))
 refine WC.ret ?_
 refine ⟨.inr rfl, [_], ⟨rfl, trivial⟩, [], sn9, ?_⟩
 refine congrArg Value.bool ?_
 rfl

theorem bsearch_fc {G : GH} {v_l : Value} {l : List Str} (h_l : SlR eStr G v_l l) (k : Str) (hr : rising l = true) :
    Fc Tryz.prog 123 [v_l, .string k.b] G [] (fun v _ _ => v = .tuple #[.int .i64 (((lowerN l k : Nat) : Int)), .bool (decide (l[lowerN l k]? = some k))]) := by
 obtain ⟨sa_l, sc_l, rfl⟩ := h_l.form
 have hlen := h_l.len47
 refine Fc.intro (rs := [.tmp 4, .tmp 5]) cl123 Tryz.func123 rfl Tryz.ntmps123 rfl rfl (fun w0 => ?_)
 refine WC.seq (WC.region (W.as (W.as (W.nil (thn_n (WC.seq (WC.region (W.mv (W.ok (ok_len sl38 h_l rfl) (W.as (W.nil (thn_n (WC.seq (WC.region (W.mv ?_)))))))))))))))
 refine W.as (W.as (W.nil (thn_n (WC.seq (WC.block ?_)))))
 refine WC.loop (X := Nat × Nat) (fun x => [(6, .int .i64 ((l.length : Nat) : Int)), (7, .int .i64 ((x.1 : Nat) : Int)), (8, .int .i64 ((x.2 : Nat) : Int)), (0, .slice sa_l l.length sc_l), (1, .string k.b)]) (fun x _ Ml => Ml = [] ∧ x.1 ≤ x.2 ∧ x.2 ≤ l.length ∧ (∀ q (h : q < l.length), q < x.1 → l[q].lt k = true) ∧ (∀ q (h : q < l.length), x.2 ≤ q → l[q].lt k = false)) (fun x => x.2 - x.1) (0, l.length) ⟨eqv, eqv, eqv, eqv, eqv, trivial⟩ ?_ ?_
 ·exact ⟨rfl, by simp, by simp, (fun q _ h => by simp at h), (fun q h h' => by simp at h'; omega)⟩
 rintro ⟨i, j⟩ gG25 G25 _ hG25 ⟨rfl, hi, hj, h1, h2⟩
 dsimp only at hi hj h1 h2
 refine WC.seq (WC.seq (WC.region (W.mv (W.mv (W.ok (ok_lss rfl rfl) (W.nil (thn_n ?_)))))))
 refine WC.cond (b := _) rfl (fun h15 => ?_) (fun h15 => ?_)
 ·have p15 := of_decide_eq_true h15
  refine WC.skip (thn_n (WC.block (WC.seq (WC.region (W.mv (W.mv (W.ok (ok_add rfl rfl (by omega)) (W.ok (ok_convU un3 un31 rfl (by omega)) (W.ok (ok_shr1 rfl rfl (by omega)) (W.ok (ok_convI un31 un3 rfl (by omega)) (W.as (W.nil (thn_n (WC.seq (WC.region ?_)))))))))))))))
  refine W.mv (W.mv ?_)
  have q28 := (h_l.mono hG25).at (i := (i + j) / 2) (by omega)
  refine match q28 with | ⟨_, he26, e_27⟩ => ?_
  subst e_27
  refine W.ok (ok_indexAddr (i := (i + j) / 2) sl38 ty9 (h_l.mono hG25) rfl rfl ⟨by dsimp only; omega, by omega⟩) (W.ok (ok_loadE (vs := [.string _]) ty9 he26 rfl rfl rfl (by simp)) (W.mv (W.qcall (cmpless_fc _ _) rfl (W.nil (thn_n ?_)))))
  refine WC.cond (b := _) rfl (fun h27 => ?_) (fun h27 => ?_)
  ·refine WC.region (W.mv (W.ok (ok_add rfl rfl (by omega)) (W.as (W.nil (blk_n (thn_n ?_))))))
   exact ⟨Le.rfl, ((i + j) / 2 + 1, j), ⟨eqv, eqv, eqv, eqv, eqv, trivial⟩, ⟨rfl, by dsimp only; omega, by dsimp only; omega, (fun q h hq => rising_below hr (by omega) h27 q h (by dsimp only at hq; omega)), h2⟩, by dsimp only; omega⟩
  refine WC.region (W.mv (W.as (W.nil (blk_n (thn_n ?_)))))
  exact ⟨Le.rfl, (i, (i + j) / 2), ⟨eqv, eqv, eqv, eqv, eqv, trivial⟩, ⟨rfl, by dsimp only; omega, by dsimp only; omega, h1, (fun q h hq => rising_above hr (by omega) h27 q h (by dsimp only at hq; omega))⟩, by dsimp only; omega⟩
 have p15 := of_decide_eq_false h15
 refine WC.exit (thn_x (thn_x (blk_h (thn_n (WC.seq (WC.region (W.mv (W.mv (W.mv (W.ok (ok_lss rfl rfl) (W.mv ?_)))))))))))
 refine W.sp 35 rfl (fun h34 => ?_) (fun h34 => ?_)
 ·have p34 := of_decide_eq_true h34
  refine W.yes (dj := 35) rfl rfl h34 (W.mv (W.yes (dj := 35) rfl rfl h34 (W.mv (W.yes (dj := 35) rfl rfl h34 ?_))))
  have q31 := (h_l.mono hG25).at (i := i) (by omega)
  refine match q31 with | ⟨_, he29, e_30⟩ => ?_
  subst e_30
  refine W.ok (ok_indexAddr (i := i) sl38 ty9 (h_l.mono hG25) rfl rfl ⟨by dsimp only, by omega⟩) (W.yes (dj := 35) rfl rfl h34 (W.ok (ok_loadE (vs := [.string _]) ty9 he29 rfl rfl rfl (by simp)) (W.yes (dj := 35) rfl rfl h34 (W.mv (W.yes (dj := 35) rfl rfl h34 (W.ok (ok_eqlS rfl rfl) (W.yes (dj := 35) rfl rfl h34 (W.mv ?_))))))))
  refine W.sp 42 rfl (fun h41 => ?_) (fun h41 => ?_)
  ·have p41 := of_decide_eq_true h41
   refine W.no (dj := 42) rfl rfl h41 (W.no (dj := 42) rfl rfl h41 (W.no (dj := 42) rfl rfl h41 (W.no (dj := 42) rfl rfl h41 (W.no (dj := 42) rfl rfl h41 (W.no (dj := 42) rfl rfl h41 (W.nou (dj := 48) rfl rfl (W.nou (dj := 48) rfl rfl (W.no (dj := 42) rfl rfl h41 (W.yes (dj := 35) rfl rfl h34 (W.ok (ok_pick_t rfl h41) (W.ok (ok_pick_t rfl h34) (W.as (W.as ?_)))))))))))))
   refine W.nil (thn_n (WC.ret ?_))
   refine ⟨.inr rfl, [_, _], ⟨rfl, rfl, trivial⟩, [], sn9, ?_⟩
   have hlow : lowerN l k = i := lower_split (by omega) h1 (fun q h hq => h2 q h (by omega))
   refine tup2 (by rw [hlow]) ?_
   rw [hlow]
   simp only [Str.b_inj] at p41
   rw [List.getElem?_eq_getElem (by omega)]
   simp [p41]
  have p41 := of_decide_eq_false h41
  refine W.yes (dj := 42) rfl rfl h41 (W.mv (W.yes (dj := 42) rfl rfl h41 (W.mv (W.yes (dj := 42) rfl rfl h41 ?_))))
  have q34 := (h_l.mono hG25).at (i := i) (by omega)
  refine match q34 with | ⟨_, he32, e_33⟩ => ?_
  subst e_33
  refine W.ok (ok_indexAddr (i := i) sl38 ty9 (h_l.mono hG25) rfl rfl ⟨by dsimp only, by omega⟩) (W.yes (dj := 42) rfl rfl h41 (W.ok (ok_loadE (vs := [.string _]) ty9 he32 rfl rfl rfl (by simp)) (W.yes (dj := 42) rfl rfl h41 (W.qcall (sisnan_fc _) rfl (W.yes (dj := 42) rfl rfl h41 (W.mv ?_))))))
  refine W.sp 48 rfl (fun h47 => ?_) (fun h47 => ?_)
  ·cases h47
  refine W.no (dj := 48) rfl rfl h47 (W.no (dj := 48) rfl rfl h47 (W.yes (dj := 42) rfl rfl h41 (W.ok (ok_pick_f rfl h47) (W.yes (dj := 35) rfl rfl h34 (W.ok (ok_pick_f rfl h41) (W.ok (ok_pick_t rfl h34) (W.as (W.as (W.nil (thn_n (WC.ret ?_)))))))))))
  refine ⟨.inr rfl, [_, _], ⟨rfl, rfl, trivial⟩, [], sn9, ?_⟩
  have hlow : lowerN l k = i := lower_split (by omega) h1 (fun q h hq => h2 q h (by omega))
  refine tup2 (by rw [hlow]) ?_
  rw [hlow]
  simp only [Str.b_inj] at p41
  rw [List.getElem?_eq_getElem (by omega)]
  simp [p41]
 have p34 := of_decide_eq_false h34
 refine W.no (dj := 35) rfl rfl h34 (W.no (dj := 35) rfl rfl h34 (W.no (dj := 35) rfl rfl h34 (W.no (dj := 35) rfl rfl h34 (W.no (dj := 35) rfl rfl h34 (W.no (dj := 35) rfl rfl h34 (W.no (dj := 35) rfl rfl h34 (W.nou (dj := 42) rfl rfl (W.nou (dj := 42) rfl rfl (W.nou (dj := 42) rfl rfl (W.nou (dj := 42) rfl rfl (W.nou (dj := 42) rfl rfl (W.nou (dj := 42) rfl rfl (W.nou (dj := 48) rfl rfl ?_)))))))))))))
 refine W.nou (dj := 48) rfl rfl (W.nou (dj := 42) rfl rfl (W.no (dj := 35) rfl rfl h34 (W.ok (ok_pick_f rfl h34) (W.as (W.as (W.nil (thn_n (WC.ret ?_))))))))
 refine ⟨.inr rfl, [_, _], ⟨rfl, rfl, trivial⟩, [], sn9, ?_⟩
 have hlow : lowerN l k = i := lower_split (by omega) h1 (fun q h hq => h2 q h (by omega))
 refine tup2 (by rw [hlow]) ?_
 rw [hlow]
 rw [List.getElem?_eq_none (by omega)]; simp

theorem broute_fc {G : GH} {v_l : Value} {l : List Str} (h_l : SlR eStr G v_l l) (k : Str) (hr : rising l = true) :
    Fc Tryz.prog 76 [v_l, .string k.b] G [] (fun v _ _ => v = .int .i64 (((routeN l k : Nat) : Int))) := by
 obtain ⟨sa_l, sc_l, rfl⟩ := h_l.form
 have hlo := lowerN_le l k
 have hlen := h_l.len47
 refine Fc.intro (rs := [.tmp 4]) cl76 Tryz.func76 rfl Tryz.ntmps76 rfl rfl (fun w0 => ?_)
 refine WC.seq (WC.region (W.as (W.nil (thn_n (WC.seq (WC.region (W.mv (W.mv (W.qcall (bsearch_fc h_l _ (by assumption)) rfl (W.mv (W.ok (ok_extract rfl rfl) (W.ok (ok_extract rfl rfl) (W.as (W.as ?_))))))))))))))
 refine W.nil (thn_n (WC.seq (WC.seq (WC.region (W.mv (W.nil (thn_n ?_)))))))
 refine WC.cond (b := _) rfl (fun h10_1 => ?_) (fun h10_1 => ?_)
 ·refine WC.region (W.mv (W.ok (ok_add rfl rfl (by omega)) (W.as (W.nil (thn_n (WC.seq (WC.region (W.mv (W.as (W.nil (thn_n (WC.ret ?_))))))))))))
  refine ⟨.inr rfl, [_], ⟨rfl, trivial⟩, [], sn9, ?_⟩
  exact iv (route_lower_yes hr (of_decide_eq_true h10_1))
 refine WC.skip (thn_n (WC.seq (WC.region (W.mv (W.as (W.nil (thn_n (WC.ret ?_))))))))
 refine ⟨.inr rfl, [_], ⟨rfl, trivial⟩, [], sn9, ?_⟩
 exact iv (route_lower_no hr (of_decide_eq_false h10_1))

theorem rroute_fc {G : GH} {v_l : Value} {l : List Str} (h_l : SlR eStr G v_l l) (k : Str) :
    Fc Tryz.prog 79 [v_l, .string k.b] G [] (fun v _ _ => v = .int .i64 (((routeN l k : Nat) : Int))) := by
 obtain ⟨sa_l, sc_l, rfl⟩ := h_l.form
 have hl := h_l.len47
 refine Fc.intro (rs := [.tmp 4]) cl79 Tryz.func79 rfl Tryz.ntmps79 rfl rfl (fun w0 => ?_)
 refine WC.seq (WC.region (W.as (W.nil (thn_n (WC.seq (WC.region (W.as (W.nil (thn_n (WC.seq (WC.seq (WC.region (W.as (W.nil (thn_n (WC.block ?_))))))))))))))))
 refine WC.loop (X := Nat) (fun i => [(5, .int .i64 ((routeN (l.take i) k : Nat) : Int)), (6, .int .i64 ((i : Nat) : Int)), (0, .slice sa_l l.length sc_l), (1, .string k.b)]) (fun i _ Ml => Ml = [] ∧ i ≤ l.length) (fun i => l.length - i) 0 ⟨eqv, eqv, eqv, eqv, trivial⟩ ?_ ?_
 ·exact ⟨rfl, by omega⟩
 rintro i gG35 G35 _ hG35 ⟨rfl, hi⟩
 have hrt := routeN_take_le l k i
 refine WC.seq (WC.seq (WC.region (W.mv (W.mv (W.ok (ok_len sl38 (h_l.mono hG35) rfl) (W.ok (ok_lss rfl rfl) (W.nil (thn_n ?_))))))))
 refine WC.cond (b := _) rfl (fun h10 => ?_) (fun h10 => ?_)
 ·have p10 := of_decide_eq_true h10
  refine WC.skip (thn_n (WC.seq (WC.block (WC.seq (WC.region (W.mv (W.mv (W.mv ?_))))))))
  have q38 := (h_l.mono hG35).at (i := i) (by omega)
  refine match q38 with | ⟨_, he36, e_37⟩ => ?_
  subst e_37
  refine W.ok (ok_indexAddr (i := i) sl38 ty9 (h_l.mono hG35) rfl rfl ⟨by omega, by omega⟩) (W.ok (ok_loadE (vs := [.string _]) ty9 he36 rfl rfl rfl (by simp)) (W.qcall (less_fc _ _) rfl (W.ok (ok_not rfl) (W.nil (thn_n ?_)))))
  refine WC.cond (b := _) rfl (fun h19 => ?_) (fun h19 => ?_)
  ·refine WC.region (W.mv (W.ok (ok_add rfl rfl (by omega)) (W.as (W.nil (blk_n (thn_n (WC.region (W.mv (W.ok (ok_add rfl rfl (by omega)) (W.as (W.nil (thn_n ?_))))))))))))
   exact ⟨Le.rfl, i + 1, ⟨(iv (by rw [routeN_succ (by omega : i < l.length)]; simp only [Bool.not_eq_true', Bool.not_eq_false'] at h19; simp [h19])), eqv, eqv, eqv, trivial⟩, ⟨rfl, by omega⟩, by omega⟩
  refine WC.skip (blk_n (thn_n (WC.region (W.mv (W.ok (ok_add rfl rfl (by omega)) (W.as (W.nil (thn_n ?_))))))))
  exact ⟨Le.rfl, i + 1, ⟨(iv (by rw [routeN_succ (by omega : i < l.length)]; simp only [Bool.not_eq_true', Bool.not_eq_false'] at h19; simp [h19])), eqv, eqv, eqv, trivial⟩, ⟨rfl, by omega⟩, by omega⟩
 have p10 := of_decide_eq_false h10
 refine WC.exit (thn_x (thn_x (blk_h (thn_n (WC.seq (WC.region (W.mv (W.as (W.nil (thn_n (WC.ret ?_)))))))))))
 refine ⟨.inr rfl, [_], ⟨rfl, trivial⟩, [], sn9, ?_⟩
 exact iv (by rw [List.take_of_length_le (by omega)])

theorem rrange_fc {G : GH} {v_l : Value} {l : List Str} (h_l : SlR eStr G v_l l) (i : Int) (hi : i64 i) :
    Fc Tryz.prog 56 [v_l, .int .i64 i] G [] (fun v _ _ => v = .agg (List.toArray ((rangeN l i : Span).cells))) := by
 obtain ⟨sa_l, sc_l, rfl⟩ := h_l.form
 have hl := h_l.len47
 obtain ⟨hi1, hi2⟩ := hi
 refine Fc.intro (rs := [.cell 4 45]) cl56 Tryz.func56 rfl Tryz.ntmps56 rfl rfl (fun w0 => ?_)
 refine WC.seq (WC.region (W.alloc zr45 (fun b39 => (W.nil (thn_n (WC.seq (WC.region (W.ok (ok_build (L := [.string _, .string _, .bool _]) pl45 zr45 rfl rfl rfl) (W.alloc zr45 (fun b40 => (W.store (i := 0) (vs := [.string _, .string _, .bool _]) (L' := [.string _, .string _, .bool _]) ty45 rfl rfl rfl rfl rfl rfl rfl rfl (W.nil (thn_n (WC.seq (WC.seq (WC.region (W.mv ?_)))))))))))))))))
 refine W.ok (ok_lss rfl rfl) (W.mv ?_)
 refine W.sp 9 rfl (fun h8 => ?_) (fun h8 => ?_)
 ·have p8 := of_decide_eq_true h8
  refine W.no (dj := 9) rfl rfl h8 (W.no (dj := 9) rfl rfl h8 (W.no (dj := 9) rfl rfl h8 (W.no (dj := 9) rfl rfl h8 (W.ok (ok_pick_t rfl h8) (W.nil (thn_n (WC.cond_t rfl rfl (WC.seq (WC.region (W.ok (ok_build (L := [.string _, .string _, .bool _]) pl45 zr45 rfl rfl rfl) (W.store (i := 1) (vs := [.string _, .string _, .bool _]) (L' := [.string _, .string _, .bool _]) ty45 rfl rfl rfl rfl rfl rfl rfl rfl (W.nil (thn_n (WC.ret (thn_r ?_)))))))))))))))
  refine ⟨.inr rfl, [_], ⟨⟨_, _, _, _, _, rfl, nthM_mem (i := 1) rfl, ty45, (by simp), rfl, rfl⟩, trivial⟩, [], sn9, ?_⟩
  refine congrArg (fun l => Value.agg (List.toArray l)) ?_
  show [Value.string _, Value.string _, Value.bool _] = _
  rw [rangeN_out (by omega)]; rfl
 have p8 := of_decide_eq_false h8
 refine W.yes (dj := 9) rfl rfl h8 (W.mv (W.yes (dj := 9) rfl rfl h8 (W.mv (W.yes (dj := 9) rfl rfl h8 (W.ok (ok_len sl38 h_l rfl) (W.yes (dj := 9) rfl rfl h8 (W.ok (ok_gtr rfl rfl) (W.ok (ok_pick_f rfl h8) (W.nil (thn_n ?_))))))))))
 refine WC.cond (b := _) rfl (fun h13 => ?_) (fun h13 => ?_)
 ·have p13 := of_decide_eq_true h13
  refine WC.seq (WC.region (W.ok (ok_build (L := [.string _, .string _, .bool _]) pl45 zr45 rfl rfl rfl) (W.store (i := 1) (vs := [.string _, .string _, .bool _]) (L' := [.string _, .string _, .bool _]) ty45 rfl rfl rfl rfl rfl rfl rfl rfl (W.nil (thn_n (WC.ret (thn_r ?_)))))))
  refine ⟨.inr rfl, [_], ⟨⟨_, _, _, _, _, rfl, nthM_mem (i := 1) rfl, ty45, (by simp), rfl, rfl⟩, trivial⟩, [], sn9, ?_⟩
  refine congrArg (fun l => Value.agg (List.toArray l)) ?_
  show [Value.string _, Value.string _, Value.bool _] = _
  rw [rangeN_out (by omega)]; rfl
 have p13 := of_decide_eq_false h13
 refine WC.skip (thn_n (WC.seq (WC.seq (WC.region (W.mv (W.ok (ok_gtr rfl rfl) (W.nil (thn_n ?_))))))))
 refine WC.cond (b := _) rfl (fun h17 => ?_) (fun h17 => ?_)
 ·have p17 := of_decide_eq_true h17
  refine WC.region (W.mv (W.mv (W.ok (ok_sub rfl rfl (by omega)) ?_)))
  have q43 := h_l.at (i := (i - 1).toNat) (by omega)
  refine match q43 with | ⟨_, he41, e_42⟩ => ?_
  subst e_42
  refine W.ok (ok_indexAddr (i := (i - 1).toNat) sl38 ty9 h_l rfl rfl ⟨by omega, by omega⟩) (W.ok (ok_loadE (vs := [.string _]) ty9 he41 rfl rfl rfl (by simp)) (W.ok (ok_fieldB fd45_0 rfl) (W.store (i := 0) (vs := [.string _]) (L' := [.string _, .string _, .bool _]) ty9 rfl rfl rfl rfl rfl rfl rfl rfl (W.nil (thn_n (WC.seq (WC.seq (WC.region (W.mv (W.mv (W.ok (ok_len sl38 h_l rfl) (W.ok (ok_lss rfl rfl) (W.nil (thn_n ?_))))))))))))))
  refine WC.cond (b := _) rfl (fun h27 => ?_) (fun h27 => ?_)
  ·have p27 := of_decide_eq_true h27
   refine WC.seq (WC.region (W.ok (ok_fieldB fd45_2 rfl) (W.store (i := 0) (vs := [.bool _]) (L' := [.string _, .string _, .bool _]) ty4 rfl rfl rfl rfl rfl rfl rfl rfl (W.nil (thn_n (WC.region (W.mv (W.mv ?_))))))))
   have q46 := h_l.at (i := i.toNat) (by omega)
   refine match q46 with | ⟨_, he44, e_45⟩ => ?_
   subst e_45
   refine W.ok (ok_indexAddr (i := i.toNat) sl38 ty9 h_l rfl rfl ⟨by omega, by omega⟩) (W.ok (ok_loadE (vs := [.string _]) ty9 he44 rfl rfl rfl (by simp)) (W.ok (ok_fieldB fd45_1 rfl) (W.store (i := 0) (vs := [.string _]) (L' := [.string _, .string _, .bool _]) ty9 rfl rfl rfl rfl rfl rfl rfl rfl (W.nil (thn_n (WC.seq (WC.region (W.ok (ok_loadB (i := 0) (vs := [.string _, .string _, .bool _]) ty45 rfl rfl rfl rfl (by simp)) (W.qcall (norm_fc _ _ _) rfl (W.store (i := 1) (vs := [.string _, .string _, .bool _]) (L' := [.string _, .string _, .bool _]) ty45 rfl rfl rfl rfl rfl rfl rfl rfl (W.nil (thn_n (WC.ret ?_)))))))))))))
   refine ⟨.inr rfl, [_], ⟨⟨_, _, _, _, _, rfl, nthM_mem (i := 1) rfl, ty45, (by simp), rfl, rfl⟩, trivial⟩, [], sn9, ?_⟩
   exact congrArg (fun s : Span => Value.agg (List.toArray s.cells)) (rangeN_tt p17 p27 (by omega) (by omega))
  have p27 := of_decide_eq_false h27
  refine WC.skip (thn_n (WC.seq (WC.region (W.ok (ok_loadB (i := 0) (vs := [.string _, .string _, .bool _]) ty45 rfl rfl rfl rfl (by simp)) (W.qcall (norm_fc _ Str.nil _) rfl (W.store (i := 1) (vs := [.string _, .string _, .bool _]) (L' := [.string _, .string _, .bool _]) ty45 rfl rfl rfl rfl rfl rfl rfl rfl (W.nil (thn_n (WC.ret ?_)))))))))
  refine ⟨.inr rfl, [_], ⟨⟨_, _, _, _, _, rfl, nthM_mem (i := 1) rfl, ty45, (by simp), rfl, rfl⟩, trivial⟩, [], sn9, ?_⟩
  exact congrArg (fun s : Span => Value.agg (List.toArray s.cells)) (rangeN_tf p17 p27 (by omega) (by omega))
 have p17 := of_decide_eq_false h17
 refine WC.skip (thn_n (WC.seq (WC.seq (WC.region (W.mv (W.mv (W.ok (ok_len sl38 h_l rfl) (W.ok (ok_lss rfl rfl) (W.nil (thn_n ?_))))))))))
 refine WC.cond (b := _) rfl (fun h27 => ?_) (fun h27 => ?_)
 ·have p27 := of_decide_eq_true h27
  refine WC.seq (WC.region (W.ok (ok_fieldB fd45_2 rfl) (W.store (i := 0) (vs := [.bool _]) (L' := [.string _, .string _, .bool _]) ty4 rfl rfl rfl rfl rfl rfl rfl rfl (W.nil (thn_n (WC.region (W.mv (W.mv ?_))))))))
  have q49 := h_l.at (i := i.toNat) (by omega)
  refine match q49 with | ⟨_, he47, e_48⟩ => ?_
  subst e_48
  refine W.ok (ok_indexAddr (i := i.toNat) sl38 ty9 h_l rfl rfl ⟨by omega, by omega⟩) (W.ok (ok_loadE (vs := [.string _]) ty9 he47 rfl rfl rfl (by simp)) (W.ok (ok_fieldB fd45_1 rfl) (W.store (i := 0) (vs := [.string _]) (L' := [.string _, .string _, .bool _]) ty9 rfl rfl rfl rfl rfl rfl rfl rfl (W.nil (thn_n (WC.seq (WC.region (W.ok (ok_loadB (i := 0) (vs := [.string _, .string _, .bool _]) ty45 rfl rfl rfl rfl (by simp)) (W.qcall (norm_fc Str.nil _ _) rfl (W.store (i := 1) (vs := [.string _, .string _, .bool _]) (L' := [.string _, .string _, .bool _]) ty45 rfl rfl rfl rfl rfl rfl rfl rfl (W.nil (thn_n (WC.ret ?_)))))))))))))
  refine ⟨.inr rfl, [_], ⟨⟨_, _, _, _, _, rfl, nthM_mem (i := 1) rfl, ty45, (by simp), rfl, rfl⟩, trivial⟩, [], sn9, ?_⟩
  exact congrArg (fun s : Span => Value.agg (List.toArray s.cells)) (rangeN_ft (by omega) p17 p27 (by omega))
 have p27 := of_decide_eq_false h27
 refine WC.skip (thn_n (WC.seq (WC.region (W.ok (ok_loadB (i := 0) (vs := [.string _, .string _, .bool _]) ty45 rfl rfl rfl rfl (by simp)) (W.qcall (norm_fc Str.nil Str.nil _) rfl (W.store (i := 1) (vs := [.string _, .string _, .bool _]) (L' := [.string _, .string _, .bool _]) ty45 rfl rfl rfl rfl rfl rfl rfl rfl (W.nil (thn_n (WC.ret ?_)))))))))
 refine ⟨.inr rfl, [_], ⟨⟨_, _, _, _, _, rfl, nthM_mem (i := 1) rfl, ty45, (by simp), rfl, rfl⟩, trivial⟩, [], sn9, ?_⟩
 exact congrArg (fun s : Span => Value.agg (List.toArray s.cells)) (rangeN_ff (by omega) p17 p27 (by omega))

theorem brange_fc {G : GH} {v_l : Value} {l : List Str} (h_l : SlR eStr G v_l l) (i : Int) (hi : i64 i) :
    Fc Tryz.prog 167 [v_l, .int .i64 i] G [] (fun v _ _ => v = .agg (List.toArray ((rangeN l i : Span).cells))) := by
 obtain ⟨sa_l, sc_l, rfl⟩ := h_l.form
 have hl := h_l.len47
 obtain ⟨hi1, hi2⟩ := hi
 refine Fc.intro (rs := [.cell 4 45]) cl167 Tryz.func167 rfl Tryz.ntmps167 rfl rfl (fun w0 => ?_)
 refine WC.seq (WC.region (W.alloc zr45 (fun b50 => (W.nil (thn_n (WC.seq (WC.seq (WC.region (W.mv (W.ok (ok_lss rfl rfl) (W.mv ?_)))))))))))
 refine W.sp 8 rfl (fun h7 => ?_) (fun h7 => ?_)
 ·have p7 := of_decide_eq_true h7
  refine W.no (dj := 8) rfl rfl h7 (W.no (dj := 8) rfl rfl h7 (W.no (dj := 8) rfl rfl h7 (W.no (dj := 8) rfl rfl h7 (W.ok (ok_pick_t rfl h7) (W.nil (thn_n (WC.cond_t rfl rfl (WC.seq (WC.region (W.ok (ok_build (L := [.string _, .string _, .bool _]) pl45 zr45 rfl rfl rfl) (W.store (i := 0) (vs := [.string _, .string _, .bool _]) (L' := [.string _, .string _, .bool _]) ty45 rfl rfl rfl rfl rfl rfl rfl rfl (W.nil (thn_n (WC.ret (thn_r ?_)))))))))))))))
  refine ⟨.inr rfl, [_], ⟨⟨_, _, _, _, _, rfl, nthM_mem (i := 0) rfl, ty45, (by simp), rfl, rfl⟩, trivial⟩, [], sn9, ?_⟩
  refine congrArg (fun l => Value.agg (List.toArray l)) ?_
  show [Value.string _, Value.string _, Value.bool _] = _
  rw [rangeN_out (by omega)]; rfl
 have p7 := of_decide_eq_false h7
 refine W.yes (dj := 8) rfl rfl h7 (W.mv (W.yes (dj := 8) rfl rfl h7 (W.mv (W.yes (dj := 8) rfl rfl h7 (W.ok (ok_len sl38 h_l rfl) (W.yes (dj := 8) rfl rfl h7 (W.ok (ok_gtr rfl rfl) (W.ok (ok_pick_f rfl h7) (W.nil (thn_n ?_))))))))))
 refine WC.cond (b := _) rfl (fun h12 => ?_) (fun h12 => ?_)
 ·have p12 := of_decide_eq_true h12
  refine WC.seq (WC.region (W.ok (ok_build (L := [.string _, .string _, .bool _]) pl45 zr45 rfl rfl rfl) (W.store (i := 0) (vs := [.string _, .string _, .bool _]) (L' := [.string _, .string _, .bool _]) ty45 rfl rfl rfl rfl rfl rfl rfl rfl (W.nil (thn_n (WC.ret (thn_r ?_)))))))
  refine ⟨.inr rfl, [_], ⟨⟨_, _, _, _, _, rfl, nthM_mem (i := 0) rfl, ty45, (by simp), rfl, rfl⟩, trivial⟩, [], sn9, ?_⟩
  refine congrArg (fun l => Value.agg (List.toArray l)) ?_
  show [Value.string _, Value.string _, Value.bool _] = _
  rw [rangeN_out (by omega)]; rfl
 have p12 := of_decide_eq_false h12
 refine WC.skip (thn_n (WC.seq (WC.region (W.qcall (spanall_fc) rfl (W.alloc zr45 (fun b51 => (W.store (i := 0) (vs := [.string _, .string _, .bool _]) (L' := [.string _, .string _, .bool _]) ty45 rfl rfl rfl rfl rfl rfl rfl rfl (W.nil (thn_n (WC.seq (WC.seq (WC.region (W.mv (W.ok (ok_gtr rfl rfl) (W.nil (thn_n ?_))))))))))))))))
 refine WC.cond (b := _) rfl (fun h17 => ?_) (fun h17 => ?_)
 ·have p17 := of_decide_eq_true h17
  refine WC.region (W.mv (W.mv (W.ok (ok_sub rfl rfl (by omega)) ?_)))
  have q54 := h_l.at (i := (i - 1).toNat) (by omega)
  refine match q54 with | ⟨_, he52, e_53⟩ => ?_
  subst e_53
  refine W.ok (ok_indexAddr (i := (i - 1).toNat) sl38 ty9 h_l rfl rfl ⟨by omega, by omega⟩) (W.ok (ok_loadE (vs := [.string _]) ty9 he52 rfl rfl rfl (by simp)) (W.ok (ok_fieldB fd45_0 rfl) (W.store (i := 0) (vs := [.string _]) (L' := [.string _, .string _, .bool _]) ty9 rfl rfl rfl rfl rfl rfl rfl rfl (W.nil (thn_n (WC.seq (WC.seq (WC.region (W.mv (W.mv (W.ok (ok_len sl38 h_l rfl) (W.ok (ok_lss rfl rfl) (W.nil (thn_n ?_))))))))))))))
  refine WC.cond (b := _) rfl (fun h27 => ?_) (fun h27 => ?_)
  ·have p27 := of_decide_eq_true h27
   refine WC.region (W.mv (W.mv ?_))
   have q57 := h_l.at (i := i.toNat) (by omega)
   refine match q57 with | ⟨_, he55, e_56⟩ => ?_
   subst e_56
   refine W.ok (ok_indexAddr (i := i.toNat) sl38 ty9 h_l rfl rfl ⟨by omega, by omega⟩) (W.ok (ok_loadE (vs := [.string _]) ty9 he55 rfl rfl rfl (by simp)) (W.ok (ok_fieldB fd45_1 rfl) (W.store (i := 0) (vs := [.string _]) (L' := [.string _, .string _, .bool _]) ty9 rfl rfl rfl rfl rfl rfl rfl rfl (W.ok (ok_fieldB fd45_2 rfl) (W.store (i := 0) (vs := [.bool _]) (L' := [.string _, .string _, .bool _]) ty4 rfl rfl rfl rfl rfl rfl rfl rfl (W.nil (thn_n (WC.seq (WC.region (W.ok (ok_loadB (i := 0) (vs := [.string _, .string _, .bool _]) ty45 rfl rfl rfl rfl (by simp)) (W.qcall (spannorm_fc _ _ _) rfl (W.store (i := 1) (vs := [.string _, .string _, .bool _]) (L' := [.string _, .string _, .bool _]) ty45 rfl rfl rfl rfl rfl rfl rfl rfl (W.nil (thn_n (WC.ret ?_)))))))))))))))
   refine ⟨.inr rfl, [_], ⟨⟨_, _, _, _, _, rfl, nthM_mem (i := 1) rfl, ty45, (by simp), rfl, rfl⟩, trivial⟩, [], sn9, ?_⟩
   exact congrArg (fun s : Span => Value.agg (List.toArray s.cells)) (rangeN_tt p17 p27 (by omega) (by omega))
  have p27 := of_decide_eq_false h27
  refine WC.skip (thn_n (WC.seq (WC.region (W.ok (ok_loadB (i := 0) (vs := [.string _, .string _, .bool _]) ty45 rfl rfl rfl rfl (by simp)) (W.qcall (spannorm_fc _ _ _) rfl (W.store (i := 1) (vs := [.string _, .string _, .bool _]) (L' := [.string _, .string _, .bool _]) ty45 rfl rfl rfl rfl rfl rfl rfl rfl (W.nil (thn_n (WC.ret ?_)))))))))
  refine ⟨.inr rfl, [_], ⟨⟨_, _, _, _, _, rfl, nthM_mem (i := 1) rfl, ty45, (by simp), rfl, rfl⟩, trivial⟩, [], sn9, ?_⟩
  exact congrArg (fun s : Span => Value.agg (List.toArray s.cells)) (rangeN_tf p17 p27 (by omega) (by omega))
 have p17 := of_decide_eq_false h17
 refine WC.skip (thn_n (WC.seq (WC.seq (WC.region (W.mv (W.mv (W.ok (ok_len sl38 h_l rfl) (W.ok (ok_lss rfl rfl) (W.nil (thn_n ?_))))))))))
 refine WC.cond (b := _) rfl (fun h27 => ?_) (fun h27 => ?_)
 ·have p27 := of_decide_eq_true h27
  refine WC.region (W.mv (W.mv ?_))
  have q60 := h_l.at (i := i.toNat) (by omega)
  refine match q60 with | ⟨_, he58, e_59⟩ => ?_
  subst e_59
  refine W.ok (ok_indexAddr (i := i.toNat) sl38 ty9 h_l rfl rfl ⟨by omega, by omega⟩) (W.ok (ok_loadE (vs := [.string _]) ty9 he58 rfl rfl rfl (by simp)) (W.ok (ok_fieldB fd45_1 rfl) (W.store (i := 0) (vs := [.string _]) (L' := [.string _, .string _, .bool _]) ty9 rfl rfl rfl rfl rfl rfl rfl rfl (W.ok (ok_fieldB fd45_2 rfl) (W.store (i := 0) (vs := [.bool _]) (L' := [.string _, .string _, .bool _]) ty4 rfl rfl rfl rfl rfl rfl rfl rfl (W.nil (thn_n (WC.seq (WC.region (W.ok (ok_loadB (i := 0) (vs := [.string _, .string _, .bool _]) ty45 rfl rfl rfl rfl (by simp)) (W.qcall (spannorm_fc _ _ _) rfl (W.store (i := 1) (vs := [.string _, .string _, .bool _]) (L' := [.string _, .string _, .bool _]) ty45 rfl rfl rfl rfl rfl rfl rfl rfl (W.nil (thn_n (WC.ret ?_)))))))))))))))
  refine ⟨.inr rfl, [_], ⟨⟨_, _, _, _, _, rfl, nthM_mem (i := 1) rfl, ty45, (by simp), rfl, rfl⟩, trivial⟩, [], sn9, ?_⟩
  exact congrArg (fun s : Span => Value.agg (List.toArray s.cells)) (rangeN_ft (by omega) p17 p27 (by omega))
 have p27 := of_decide_eq_false h27
 refine WC.skip (thn_n (WC.seq (WC.region (W.ok (ok_loadB (i := 0) (vs := [.string _, .string _, .bool _]) ty45 rfl rfl rfl rfl (by simp)) (W.qcall (spannorm_fc _ _ _) rfl (W.store (i := 1) (vs := [.string _, .string _, .bool _]) (L' := [.string _, .string _, .bool _]) ty45 rfl rfl rfl rfl rfl rfl rfl rfl (W.nil (thn_n (WC.ret ?_)))))))))
 refine ⟨.inr rfl, [_], ⟨⟨_, _, _, _, _, rfl, nthM_mem (i := 1) rfl, ty45, (by simp), rfl, rfl⟩, trivial⟩, [], sn9, ?_⟩
 exact congrArg (fun s : Span => Value.agg (List.toArray s.cells)) (rangeN_ff (by omega) p17 p27 (by omega))

theorem rlong_fc {G : GH} {v_l : Value} {l : List Str} (h_l : SlR eStr G v_l l) (m : Int) (hm : 0 ≤ m ∧ m ≤ 1073741824) :
    Fc Tryz.prog 68 [v_l, .int .i64 m] G [] (fun v _ _ => v = .int .i64 (longN l 0 m)) := by
 obtain ⟨sa_l, sc_l, rfl⟩ := h_l.form
 have hl := h_l.len47
 refine Fc.intro (rs := [.tmp 4]) cl68 Tryz.func68 rfl Tryz.ntmps68 rfl rfl (fun w0 => ?_)
 refine WC.seq (WC.region (W.as (W.nil (thn_n (WC.seq (WC.region (W.as (W.nil (thn_n (WC.seq (WC.seq (WC.region (W.as (W.nil (thn_n (WC.block ?_))))))))))))))))
 refine WC.loop (X := Nat × Int) (fun x => [(5, .int .i64 x.2), (6, .int .i64 ((x.1 : Nat) : Int)), (0, .slice sa_l l.length sc_l), (1, .int .i64 m)]) (fun x _ Ml => Ml = [] ∧ x.1 ≤ l.length ∧ 0 ≤ x.2 ∧ x.2 ≤ 140738562097154 ∧ longN (l.drop x.1) x.2 m = longN l 0 m) (fun x => l.length - x.1) (0, 0) ⟨eqv, eqv, eqv, eqv, trivial⟩ ?_ ?_
 ·exact ⟨rfl, by simp, by simp, by simp, by simp⟩
 rintro ⟨k, n⟩ gG61 G61 _ hG61 ⟨rfl, hk, hn, hn2, hlg⟩
 dsimp only at hk hn hn2 hlg
 refine WC.seq (WC.seq (WC.region (W.mv (W.mv (W.ok (ok_len sl38 (h_l.mono hG61) rfl) (W.ok (ok_lss rfl rfl) (W.mv ?_)))))))
 refine W.sp 11 rfl (fun h10 => ?_) (fun h10 => ?_)
 ·have p10 := of_decide_eq_true h10
  refine W.yes (dj := 11) rfl rfl h10 (W.mv (W.yes (dj := 11) rfl rfl h10 (W.mv (W.yes (dj := 11) rfl rfl h10 (W.ok (ok_leq rfl rfl) (W.ok (ok_pick_t rfl h10) (W.nil (thn_n ?_))))))))
  refine WC.cond (b := _) rfl (fun h14 => ?_) (fun h14 => ?_)
  ·have p14 := of_decide_eq_true h14
   refine WC.skip (thn_n (WC.seq (WC.block (WC.region (W.mv (W.mv (W.mv ?_)))))))
   have q64 := (h_l.mono hG61).at (i := k) (by omega)
   refine match q64 with | ⟨_, he62, e_63⟩ => ?_
   subst e_63
   refine W.ok (ok_indexAddr (i := k) sl38 ty9 (h_l.mono hG61) rfl rfl ⟨by dsimp only, by omega⟩) (W.ok (ok_loadE (vs := [.string _]) ty9 he62 rfl rfl rfl (by simp)) (W.ok (ok_lenS st9 rfl) (W.ok (ok_add rfl rfl (by have := (l[k]).le; omega)) (W.ok (ok_add rfl rfl (by have := (l[k]).le; dsimp only; omega)) (W.as (W.nil (blk_n (thn_n (WC.region (W.mv (W.ok (ok_add rfl rfl (by dsimp only; omega)) (W.as (W.nil (thn_n ?_))))))))))))))
   exact ⟨Le.rfl, (k + 1, n + (((l[k]).b.size : Nat) + 1)), ⟨eqv, eqv, eqv, eqv, trivial⟩, ⟨rfl, by dsimp only; omega, by dsimp only; omega, by have := (l[k]).le; dsimp only; omega, (longN_step (by omega) p14).symm.trans hlg⟩, by dsimp only; omega⟩
  have p14 := of_decide_eq_false h14
  refine WC.exit (thn_x (thn_x (blk_h (thn_n (WC.seq (WC.region (W.mv (W.as (W.nil (thn_n (WC.ret ?_)))))))))))
  refine ⟨.inr rfl, [_], ⟨rfl, trivial⟩, [], sn9, ?_⟩
  refine congrArg (Value.int .i64) ?_
  rw [← hlg]
  exact (longN_stop (by omega)).symm
 have p10 := of_decide_eq_false h10
 refine W.no (dj := 11) rfl rfl h10 (W.no (dj := 11) rfl rfl h10 (W.no (dj := 11) rfl rfl h10 (W.ok (ok_pick_f rfl h10) (W.nil (thn_n (WC.cond_f rfl rfl (WC.exit (thn_x (thn_x (blk_h (thn_n (WC.seq (WC.region (W.mv (W.as (W.nil (thn_n (WC.ret ?_))))))))))))))))))
 refine ⟨.inr rfl, [_], ⟨rfl, trivial⟩, [], sn9, ?_⟩
 refine congrArg (Value.int .i64) ?_
 rw [← hlg]
 rw [List.drop_eq_nil_of_le (by omega)]; rfl

end Go.Proofs.YtmbafmifalppaaaGreat
