/- Walks of functions on spans and messages. -/
import Derived.Test.YtebkfinhhpelbaaQtW1
namespace Go.Proofs.Ytebkfinhhpelbaa
open Go Go.Fw Go.RowKit
set_option maxRecDepth 100000
set_option maxHeartbeats 1600000
set_option linter.unusedVariables false
set_option linter.unusedSimpArgs false
set_option linter.unnecessarySimpa false
def S_0 : Str := ⟨⟨#[0]⟩, by decide⟩
theorem rmeet_fc {G : GH} (alo : Str) (ahi : Str) (ao : Bool) (blo : Str) (bhi : Str) (bo : Bool) :
    Fc Try.prog 54 [.agg #[.string alo.b, .string ahi.b, .bool ao], .agg #[.string blo.b, .string bhi.b, .bool bo]] G [] (fun v _ _ => v = .agg (List.toArray ((Span.meet ⟨alo, ahi, ao⟩ ⟨blo, bhi, bo⟩ : Span).cells))) := by
 refine Fc.intro (rs := [.cell 4 37]) cl54 Try.func54 rfl Try.ntmps54 rfl rfl (fun w0 => ?_)
 refine WC.seq ?_
 refine WC.region ?_
 refine W.box (L := [.string _, .string _, .bool _]) rfl rfl (fun b1 => ?_)
 refine W.box (L := [.string _, .string _, .bool _]) rfl rfl (fun b2 => ?_)
 refine W.alloc zr37 (fun b3 => ?_)
 refine W.nil (thn_n ?_)
 refine WC.seq ?_
 refine WC.region ?_
 refine W.ok (ok_loadB (i := 2) (vs := [.string _, .string _, .bool _]) ty37 rfl rfl rfl rfl (by simp)) ?_
 refine W.alloc zr37 (fun b4 => ?_)
 refine W.store (i := 0) (vs := [.string _, .string _, .bool _]) (L' := [.string _, .string _, .bool _]) ty37 rfl rfl rfl rfl rfl rfl rfl rfl ?_
 refine W.nil (thn_n ?_)
 refine WC.seq ?_
 refine WC.seq ?_
 refine WC.region ?_
 refine W.ok (ok_fieldB fd37_0 rfl) ?_
 refine W.ok (ok_loadB (i := 3) (vs := [.string _]) ty9 rfl rfl rfl rfl (by simp)) ?_
 refine W.ok (ok_fieldB fd37_0 rfl) ?_
 refine W.ok (ok_loadB (i := 2) (vs := [.string _]) ty9 rfl rfl rfl rfl (by simp)) ?_
 refine W.qcall (less_fc _ _) rfl ?_
 refine W.nil (thn_n ?_)
 refine WC.cond (b := _) rfl (fun h11 => ?_) (fun h11 => ?_)
 ·refine WC.region ?_
  refine W.ok (ok_fieldB fd37_0 rfl) ?_
  refine W.ok (ok_loadB (i := 2) (vs := [.string _]) ty9 rfl rfl rfl rfl (by simp)) ?_
  refine W.ok (ok_fieldB fd37_0 rfl) ?_
  refine W.store (i := 0) (vs := [.string _]) (L' := [.string _, .string _, .bool _]) ty9 rfl rfl rfl rfl rfl rfl rfl rfl ?_
  refine W.nil (thn_n ?_)
  refine WC.seq ?_
  refine WC.seq ?_
  refine WC.region ?_
  refine W.ok (ok_fieldB fd37_2 rfl) ?_
  refine W.ok (ok_loadB (i := 2) (vs := [.bool _]) ty4 rfl rfl rfl rfl (by simp)) ?_
  refine W.ok (ok_not rfl) ?_
  refine W.mv ?_
  refine W.sp 18 rfl (fun h17 => ?_) (fun h17 => ?_)
  ·refine W.yes (dj := 18) rfl rfl h17 ?_
   refine W.ok (ok_fieldB fd37_2 rfl) ?_
   refine W.yes (dj := 18) rfl rfl h17 ?_
   refine W.ok (ok_loadB (i := 3) (vs := [.bool _]) ty4 rfl rfl rfl rfl (by simp)) ?_
   refine W.yes (dj := 18) rfl rfl h17 ?_
   refine W.mv ?_
   refine W.sp 21 rfl (fun ha_ao => ?_) (fun ha_ao => ?_)
   ·refine W.no (dj := 21) rfl rfl ha_ao ?_
    refine W.no (dj := 21) rfl rfl ha_ao ?_
    refine W.no (dj := 21) rfl rfl ha_ao ?_
    refine W.no (dj := 21) rfl rfl ha_ao ?_
    refine W.no (dj := 21) rfl rfl ha_ao ?_
    refine W.yes (dj := 18) rfl rfl h17 ?_
    refine W.ok (ok_pick_t rfl ha_ao) ?_
    refine W.ok (ok_pick_t rfl h17) ?_
    refine W.nil (thn_n ?_)
    refine WC.cond_t rfl rfl ?_
    refine WC.seq ?_
    refine WC.region ?_
    refine W.ok (ok_fieldB fd37_2 rfl) ?_
    refine W.store (i := 0) (vs := [.bool _]) (L' := [.string _, .string _, .bool _]) ty4 rfl rfl rfl rfl rfl rfl rfl rfl ?_
    refine W.nil (thn_n ?_)
    refine WC.region ?_
    refine W.ok (ok_fieldB fd37_1 rfl) ?_
    refine W.ok (ok_loadB (i := 2) (vs := [.string _]) ty9 rfl rfl rfl rfl (by simp)) ?_
    refine W.ok (ok_fieldB fd37_1 rfl) ?_
    refine W.store (i := 0) (vs := [.string _]) (L' := [.string _, .string _, .bool _]) ty9 rfl rfl rfl rfl rfl rfl rfl rfl ?_
    refine W.nil (thn_n ?_)
    refine WC.seq ?_
    refine WC.region ?_
    refine W.ok (ok_loadB (i := 0) (vs := [.string _, .string _, .bool _]) ty37 rfl rfl rfl rfl (by simp)) ?_
    refine W.qcall (norm_fc _ _ _) rfl ?_
    refine W.store (i := 1) (vs := [.string _, .string _, .bool _]) (L' := [.string _, .string _, .bool _]) ty37 rfl rfl rfl rfl rfl rfl rfl rfl ?_
    refine W.nil (thn_n ?_)
    refine WC.ret ?_
    refine ⟨.inr rfl, [_], ⟨⟨_, _, _, _, _, rfl, nthM_mem (i := 1) rfl, ty37, (by simp), rfl, rfl⟩, trivial⟩, [], List.nil_sublist _, ?_⟩
    refine congrArg (fun l => Value.agg (List.toArray l)) ?_
    show [Value.string _, Value.string _, Value.bool _] = _
    simp_all [Span.meet, setAt] <;> rfl
   ·refine W.yes (dj := 21) rfl rfl ha_ao ?_
    refine W.ok (ok_fieldB fd37_1 rfl) ?_
    refine W.yes (dj := 21) rfl rfl ha_ao ?_
    refine W.ok (ok_loadB (i := 2) (vs := [.string _]) ty9 rfl rfl rfl rfl (by simp)) ?_
    refine W.yes (dj := 21) rfl rfl ha_ao ?_
    refine W.ok (ok_fieldB fd37_1 rfl) ?_
    refine W.yes (dj := 21) rfl rfl ha_ao ?_
    refine W.ok (ok_loadB (i := 3) (vs := [.string _]) ty9 rfl rfl rfl rfl (by simp)) ?_
    refine W.yes (dj := 21) rfl rfl ha_ao ?_
    refine W.qcall (less_fc _ _) rfl ?_
    refine W.yes (dj := 18) rfl rfl h17 ?_
    refine W.ok (ok_pick_f rfl ha_ao) ?_
    refine W.ok (ok_pick_t rfl h17) ?_
    refine W.nil (thn_n ?_)
    refine WC.cond (b := _) rfl (fun h26 => ?_) (fun h26 => ?_)
    ·refine WC.seq ?_
     refine WC.region ?_
     refine W.ok (ok_fieldB fd37_2 rfl) ?_
     refine W.store (i := 0) (vs := [.bool _]) (L' := [.string _, .string _, .bool _]) ty4 rfl rfl rfl rfl rfl rfl rfl rfl ?_
     refine W.nil (thn_n ?_)
     refine WC.region ?_
     refine W.ok (ok_fieldB fd37_1 rfl) ?_
     refine W.ok (ok_loadB (i := 2) (vs := [.string _]) ty9 rfl rfl rfl rfl (by simp)) ?_
     refine W.ok (ok_fieldB fd37_1 rfl) ?_
     refine W.store (i := 0) (vs := [.string _]) (L' := [.string _, .string _, .bool _]) ty9 rfl rfl rfl rfl rfl rfl rfl rfl ?_
     refine W.nil (thn_n ?_)
     refine WC.seq ?_
     refine WC.region ?_
     refine W.ok (ok_loadB (i := 0) (vs := [.string _, .string _, .bool _]) ty37 rfl rfl rfl rfl (by simp)) ?_
     refine W.qcall (norm_fc _ _ _) rfl ?_
     refine W.store (i := 1) (vs := [.string _, .string _, .bool _]) (L' := [.string _, .string _, .bool _]) ty37 rfl rfl rfl rfl rfl rfl rfl rfl ?_
     refine W.nil (thn_n ?_)
     refine WC.ret ?_
     refine ⟨.inr rfl, [_], ⟨⟨_, _, _, _, _, rfl, nthM_mem (i := 1) rfl, ty37, (by simp), rfl, rfl⟩, trivial⟩, [], List.nil_sublist _, ?_⟩
     refine congrArg (fun l => Value.agg (List.toArray l)) ?_
     show [Value.string _, Value.string _, Value.bool _] = _
     simp_all [Span.meet, setAt] <;> rfl
    ·refine WC.skip (thn_n ?_)
     refine WC.seq ?_
     refine WC.region ?_
     refine W.ok (ok_loadB (i := 0) (vs := [.string _, .string _, .bool _]) ty37 rfl rfl rfl rfl (by simp)) ?_
     refine W.qcall (norm_fc _ _ _) rfl ?_
     refine W.store (i := 1) (vs := [.string _, .string _, .bool _]) (L' := [.string _, .string _, .bool _]) ty37 rfl rfl rfl rfl rfl rfl rfl rfl ?_
     refine W.nil (thn_n ?_)
     refine WC.ret ?_
     refine ⟨.inr rfl, [_], ⟨⟨_, _, _, _, _, rfl, nthM_mem (i := 1) rfl, ty37, (by simp), rfl, rfl⟩, trivial⟩, [], List.nil_sublist _, ?_⟩
     refine congrArg (fun l => Value.agg (List.toArray l)) ?_
     show [Value.string _, Value.string _, Value.bool _] = _
     simp_all [Span.meet, setAt] <;> rfl
  ·refine W.no (dj := 18) rfl rfl h17 ?_
   refine W.no (dj := 18) rfl rfl h17 ?_
   refine W.no (dj := 18) rfl rfl h17 ?_
   refine W.nou (dj := 21) rfl rfl ?_
   refine W.nou (dj := 21) rfl rfl ?_
   refine W.nou (dj := 21) rfl rfl ?_
   refine W.nou (dj := 21) rfl rfl ?_
   refine W.nou (dj := 21) rfl rfl ?_
   refine W.no (dj := 18) rfl rfl h17 ?_
   refine W.ok (ok_pick_f rfl h17) ?_
   refine W.nil (thn_n ?_)
   refine WC.cond_f rfl rfl ?_
   refine WC.skip (thn_n ?_)
   refine WC.seq ?_
   refine WC.region ?_
   refine W.ok (ok_loadB (i := 0) (vs := [.string _, .string _, .bool _]) ty37 rfl rfl rfl rfl (by simp)) ?_
   refine W.qcall (norm_fc _ _ _) rfl ?_
   refine W.store (i := 1) (vs := [.string _, .string _, .bool _]) (L' := [.string _, .string _, .bool _]) ty37 rfl rfl rfl rfl rfl rfl rfl rfl ?_
   refine W.nil (thn_n ?_)
   refine WC.ret ?_
   refine ⟨.inr rfl, [_], ⟨⟨_, _, _, _, _, rfl, nthM_mem (i := 1) rfl, ty37, (by simp), rfl, rfl⟩, trivial⟩, [], List.nil_sublist _, ?_⟩
   refine congrArg (fun l => Value.agg (List.toArray l)) ?_
   show [Value.string _, Value.string _, Value.bool _] = _
   simp_all [Span.meet, setAt] <;> rfl
 ·refine WC.skip (thn_n ?_)
  refine WC.seq ?_
  refine WC.seq ?_
  refine WC.region ?_
  refine W.ok (ok_fieldB fd37_2 rfl) ?_
  refine W.ok (ok_loadB (i := 2) (vs := [.bool _]) ty4 rfl rfl rfl rfl (by simp)) ?_
  refine W.ok (ok_not rfl) ?_
  refine W.mv ?_
  refine W.sp 18 rfl (fun h17 => ?_) (fun h17 => ?_)
  ·refine W.yes (dj := 18) rfl rfl h17 ?_
   refine W.ok (ok_fieldB fd37_2 rfl) ?_
   refine W.yes (dj := 18) rfl rfl h17 ?_
   refine W.ok (ok_loadB (i := 3) (vs := [.bool _]) ty4 rfl rfl rfl rfl (by simp)) ?_
   refine W.yes (dj := 18) rfl rfl h17 ?_
   refine W.mv ?_
   refine W.sp 21 rfl (fun ha_ao => ?_) (fun ha_ao => ?_)
   ·refine W.no (dj := 21) rfl rfl ha_ao ?_
    refine W.no (dj := 21) rfl rfl ha_ao ?_
    refine W.no (dj := 21) rfl rfl ha_ao ?_
    refine W.no (dj := 21) rfl rfl ha_ao ?_
    refine W.no (dj := 21) rfl rfl ha_ao ?_
    refine W.yes (dj := 18) rfl rfl h17 ?_
    refine W.ok (ok_pick_t rfl ha_ao) ?_
    refine W.ok (ok_pick_t rfl h17) ?_
    refine W.nil (thn_n ?_)
    refine WC.cond_t rfl rfl ?_
    refine WC.seq ?_
    refine WC.region ?_
    refine W.ok (ok_fieldB fd37_2 rfl) ?_
    refine W.store (i := 0) (vs := [.bool _]) (L' := [.string _, .string _, .bool _]) ty4 rfl rfl rfl rfl rfl rfl rfl rfl ?_
    refine W.nil (thn_n ?_)
    refine WC.region ?_
    refine W.ok (ok_fieldB fd37_1 rfl) ?_
    refine W.ok (ok_loadB (i := 2) (vs := [.string _]) ty9 rfl rfl rfl rfl (by simp)) ?_
    refine W.ok (ok_fieldB fd37_1 rfl) ?_
    refine W.store (i := 0) (vs := [.string _]) (L' := [.string _, .string _, .bool _]) ty9 rfl rfl rfl rfl rfl rfl rfl rfl ?_
    refine W.nil (thn_n ?_)
    refine WC.seq ?_
    refine WC.region ?_
    refine W.ok (ok_loadB (i := 0) (vs := [.string _, .string _, .bool _]) ty37 rfl rfl rfl rfl (by simp)) ?_
    refine W.qcall (norm_fc _ _ _) rfl ?_
    refine W.store (i := 1) (vs := [.string _, .string _, .bool _]) (L' := [.string _, .string _, .bool _]) ty37 rfl rfl rfl rfl rfl rfl rfl rfl ?_
    refine W.nil (thn_n ?_)
    refine WC.ret ?_
    refine ⟨.inr rfl, [_], ⟨⟨_, _, _, _, _, rfl, nthM_mem (i := 1) rfl, ty37, (by simp), rfl, rfl⟩, trivial⟩, [], List.nil_sublist _, ?_⟩
    refine congrArg (fun l => Value.agg (List.toArray l)) ?_
    show [Value.string _, Value.string _, Value.bool _] = _
    simp_all [Span.meet, setAt] <;> rfl
   ·refine W.yes (dj := 21) rfl rfl ha_ao ?_
    refine W.ok (ok_fieldB fd37_1 rfl) ?_
    refine W.yes (dj := 21) rfl rfl ha_ao ?_
    refine W.ok (ok_loadB (i := 2) (vs := [.string _]) ty9 rfl rfl rfl rfl (by simp)) ?_
    refine W.yes (dj := 21) rfl rfl ha_ao ?_
    refine W.ok (ok_fieldB fd37_1 rfl) ?_
    refine W.yes (dj := 21) rfl rfl ha_ao ?_
    refine W.ok (ok_loadB (i := 3) (vs := [.string _]) ty9 rfl rfl rfl rfl (by simp)) ?_
    refine W.yes (dj := 21) rfl rfl ha_ao ?_
    refine W.qcall (less_fc _ _) rfl ?_
    refine W.yes (dj := 18) rfl rfl h17 ?_
    refine W.ok (ok_pick_f rfl ha_ao) ?_
    refine W.ok (ok_pick_t rfl h17) ?_
    refine W.nil (thn_n ?_)
    refine WC.cond (b := _) rfl (fun h26 => ?_) (fun h26 => ?_)
    ·refine WC.seq ?_
     refine WC.region ?_
     refine W.ok (ok_fieldB fd37_2 rfl) ?_
     refine W.store (i := 0) (vs := [.bool _]) (L' := [.string _, .string _, .bool _]) ty4 rfl rfl rfl rfl rfl rfl rfl rfl ?_
     refine W.nil (thn_n ?_)
     refine WC.region ?_
     refine W.ok (ok_fieldB fd37_1 rfl) ?_
     refine W.ok (ok_loadB (i := 2) (vs := [.string _]) ty9 rfl rfl rfl rfl (by simp)) ?_
     refine W.ok (ok_fieldB fd37_1 rfl) ?_
     refine W.store (i := 0) (vs := [.string _]) (L' := [.string _, .string _, .bool _]) ty9 rfl rfl rfl rfl rfl rfl rfl rfl ?_
     refine W.nil (thn_n ?_)
     refine WC.seq ?_
     refine WC.region ?_
     refine W.ok (ok_loadB (i := 0) (vs := [.string _, .string _, .bool _]) ty37 rfl rfl rfl rfl (by simp)) ?_
     refine W.qcall (norm_fc _ _ _) rfl ?_
     refine W.store (i := 1) (vs := [.string _, .string _, .bool _]) (L' := [.string _, .string _, .bool _]) ty37 rfl rfl rfl rfl rfl rfl rfl rfl ?_
     refine W.nil (thn_n ?_)
     refine WC.ret ?_
     refine ⟨.inr rfl, [_], ⟨⟨_, _, _, _, _, rfl, nthM_mem (i := 1) rfl, ty37, (by simp), rfl, rfl⟩, trivial⟩, [], List.nil_sublist _, ?_⟩
     refine congrArg (fun l => Value.agg (List.toArray l)) ?_
     show [Value.string _, Value.string _, Value.bool _] = _
     simp_all [Span.meet, setAt] <;> rfl
    ·refine WC.skip (thn_n ?_)
     refine WC.seq ?_
     refine WC.region ?_
     refine W.ok (ok_loadB (i := 0) (vs := [.string _, .string _, .bool _]) ty37 rfl rfl rfl rfl (by simp)) ?_
     refine W.qcall (norm_fc _ _ _) rfl ?_
     refine W.store (i := 1) (vs := [.string _, .string _, .bool _]) (L' := [.string _, .string _, .bool _]) ty37 rfl rfl rfl rfl rfl rfl rfl rfl ?_
     refine W.nil (thn_n ?_)
     refine WC.ret ?_
     refine ⟨.inr rfl, [_], ⟨⟨_, _, _, _, _, rfl, nthM_mem (i := 1) rfl, ty37, (by simp), rfl, rfl⟩, trivial⟩, [], List.nil_sublist _, ?_⟩
     refine congrArg (fun l => Value.agg (List.toArray l)) ?_
     show [Value.string _, Value.string _, Value.bool _] = _
     simp_all [Span.meet, setAt] <;> rfl
  ·refine W.no (dj := 18) rfl rfl h17 ?_
   refine W.no (dj := 18) rfl rfl h17 ?_
   refine W.no (dj := 18) rfl rfl h17 ?_
   refine W.nou (dj := 21) rfl rfl ?_
   refine W.nou (dj := 21) rfl rfl ?_
   refine W.nou (dj := 21) rfl rfl ?_
   refine W.nou (dj := 21) rfl rfl ?_
   refine W.nou (dj := 21) rfl rfl ?_
   refine W.no (dj := 18) rfl rfl h17 ?_
   refine W.ok (ok_pick_f rfl h17) ?_
   refine W.nil (thn_n ?_)
   refine WC.cond_f rfl rfl ?_
   refine WC.skip (thn_n ?_)
   refine WC.seq ?_
   refine WC.region ?_
   refine W.ok (ok_loadB (i := 0) (vs := [.string _, .string _, .bool _]) ty37 rfl rfl rfl rfl (by simp)) ?_
   refine W.qcall (norm_fc _ _ _) rfl ?_
   refine W.store (i := 1) (vs := [.string _, .string _, .bool _]) (L' := [.string _, .string _, .bool _]) ty37 rfl rfl rfl rfl rfl rfl rfl rfl ?_
   refine W.nil (thn_n ?_)
   refine WC.ret ?_
   refine ⟨.inr rfl, [_], ⟨⟨_, _, _, _, _, rfl, nthM_mem (i := 1) rfl, ty37, (by simp), rfl, rfl⟩, trivial⟩, [], List.nil_sublist _, ?_⟩
   refine congrArg (fun l => Value.agg (List.toArray l)) ?_
   show [Value.string _, Value.string _, Value.bool _] = _
   simp_all [Span.meet, setAt] <;> rfl

theorem smeet_fc {G : GH} (alo : Str) (ahi : Str) (ao : Bool) (blo : Str) (bhi : Str) (bo : Bool) :
    Fc Try.prog 108 [.agg #[.string alo.b, .string ahi.b, .bool ao], .agg #[.string blo.b, .string bhi.b, .bool bo]] G [] (fun v _ _ => v = .agg (List.toArray ((Span.meet ⟨alo, ahi, ao⟩ ⟨blo, bhi, bo⟩ : Span).cells))) := by
 refine Fc.intro (rs := [.cell 4 37]) cl108 Try.func108 rfl Try.ntmps108 rfl rfl (fun w0 => ?_)
 refine WC.seq ?_
 refine WC.region ?_
 refine W.box (L := [.string _, .string _, .bool _]) rfl rfl (fun b5 => ?_)
 refine W.box (L := [.string _, .string _, .bool _]) rfl rfl (fun b6 => ?_)
 refine W.alloc zr37 (fun b7 => ?_)
 refine W.nil (thn_n ?_)
 refine WC.seq ?_
 refine WC.region ?_
 refine W.ok (ok_fieldB fd37_0 rfl) ?_
 refine W.ok (ok_loadB (i := 2) (vs := [.string _]) ty9 rfl rfl rfl rfl (by simp)) ?_
 refine W.ok (ok_fieldB fd37_0 rfl) ?_
 refine W.ok (ok_loadB (i := 1) (vs := [.string _]) ty9 rfl rfl rfl rfl (by simp)) ?_
 refine W.ok (ok_maxS rfl rfl) ?_
 refine W.ok (ok_fieldB fd37_2 rfl) ?_
 refine W.ok (ok_loadB (i := 2) (vs := [.bool _]) ty4 rfl rfl rfl rfl (by simp)) ?_
 refine W.mv ?_
 refine W.sp 13 rfl (fun ha_ao => ?_) (fun ha_ao => ?_)
 ·refine W.yes (dj := 13) rfl rfl ha_ao ?_
  refine W.ok (ok_fieldB fd37_2 rfl) ?_
  refine W.yes (dj := 13) rfl rfl ha_ao ?_
  refine W.ok (ok_loadB (i := 1) (vs := [.bool _]) ty4 rfl rfl rfl rfl (by simp)) ?_
  refine W.ok (ok_pick_t rfl ha_ao) ?_
  refine W.ok (ok_build (L := [.string _, .string _, .bool _]) pl37 zr37 rfl rfl rfl) ?_
  refine W.alloc zr37 (fun b8 => ?_)
  refine W.store (i := 0) (vs := [.string _, .string _, .bool _]) (L' := [.string _, .string _, .bool _]) ty37 rfl rfl rfl rfl rfl rfl rfl rfl ?_
  refine W.nil (thn_n ?_)
  refine WC.seq ?_
  refine WC.block ?_
  refine WC.seq ?_
  refine WC.region ?_
  refine W.ok (ok_fieldB fd37_2 rfl) ?_
  refine W.ok (ok_loadB (i := 3) (vs := [.bool _]) ty4 rfl rfl rfl rfl (by simp)) ?_
  refine W.as ?_
  refine W.nil (thn_n ?_)
  refine WC.cond_t rfl ha_ao ?_
  refine WC.region ?_
  refine W.ok (ok_fieldB fd37_1 rfl) ?_
  refine W.ok (ok_loadB (i := 2) (vs := [.string _]) ty9 rfl rfl rfl rfl (by simp)) ?_
  refine W.ok (ok_fieldB fd37_1 rfl) ?_
  refine W.store (i := 0) (vs := [.string _]) (L' := [.string _, .string _, .bool _]) ty9 rfl rfl rfl rfl rfl rfl rfl rfl ?_
  refine W.nil (blk_n (thn_n ?_))
  refine WC.seq ?_
  refine WC.region ?_
  refine W.ok (ok_loadB (i := 0) (vs := [.string _, .string _, .bool _]) ty37 rfl rfl rfl rfl (by simp)) ?_
  refine W.qcall (spannorm_fc _ _ _) rfl ?_
  refine W.store (i := 1) (vs := [.string _, .string _, .bool _]) (L' := [.string _, .string _, .bool _]) ty37 rfl rfl rfl rfl rfl rfl rfl rfl ?_
  refine W.nil (thn_n ?_)
  refine WC.ret ?_
  refine ⟨.inr rfl, [_], ⟨⟨_, _, _, _, _, rfl, nthM_mem (i := 1) rfl, ty37, (by simp), rfl, rfl⟩, trivial⟩, [], List.nil_sublist _, ?_⟩
  refine congrArg (fun l => Value.agg (List.toArray l)) ?_
  show [Value.string _, Value.string _, Value.bool _] = _
  rw [← smeet_eq]
  simp_all [setAt] <;> rfl
 ·refine W.no (dj := 13) rfl rfl ha_ao ?_
  refine W.no (dj := 13) rfl rfl ha_ao ?_
  refine W.ok (ok_pick_f rfl ha_ao) ?_
  refine W.ok (ok_build (L := [.string _, .string _, .bool _]) pl37 zr37 rfl rfl rfl) ?_
  refine W.alloc zr37 (fun b9 => ?_)
  refine W.store (i := 0) (vs := [.string _, .string _, .bool _]) (L' := [.string _, .string _, .bool _]) ty37 rfl rfl rfl rfl rfl rfl rfl rfl ?_
  refine W.nil (thn_n ?_)
  refine WC.seq ?_
  refine WC.block ?_
  refine WC.seq ?_
  refine WC.region ?_
  refine W.ok (ok_fieldB fd37_2 rfl) ?_
  refine W.ok (ok_loadB (i := 3) (vs := [.bool _]) ty4 rfl rfl rfl rfl (by simp)) ?_
  refine W.as ?_
  refine W.nil (thn_n ?_)
  refine WC.cond_f rfl ha_ao ?_
  refine WC.seq ?_
  refine WC.region ?_
  refine W.ok (ok_fieldB fd37_2 rfl) ?_
  refine W.ok (ok_loadB (i := 2) (vs := [.bool _]) ty4 rfl rfl rfl rfl (by simp)) ?_
  refine W.as ?_
  refine W.nil (thn_n ?_)
  refine WC.cond (b := _) rfl (fun ha_bo => ?_) (fun ha_bo => ?_)
  ·refine WC.region ?_
   refine W.ok (ok_fieldB fd37_1 rfl) ?_
   refine W.ok (ok_loadB (i := 3) (vs := [.string _]) ty9 rfl rfl rfl rfl (by simp)) ?_
   refine W.ok (ok_fieldB fd37_1 rfl) ?_
   refine W.store (i := 0) (vs := [.string _]) (L' := [.string _, .string _, .bool _]) ty9 rfl rfl rfl rfl rfl rfl rfl rfl ?_
   refine W.nil (blk_n (thn_n ?_))
   refine WC.seq ?_
   refine WC.region ?_
   refine W.ok (ok_loadB (i := 0) (vs := [.string _, .string _, .bool _]) ty37 rfl rfl rfl rfl (by simp)) ?_
   refine W.qcall (spannorm_fc _ _ _) rfl ?_
   refine W.store (i := 1) (vs := [.string _, .string _, .bool _]) (L' := [.string _, .string _, .bool _]) ty37 rfl rfl rfl rfl rfl rfl rfl rfl ?_
   refine W.nil (thn_n ?_)
   refine WC.ret ?_
   refine ⟨.inr rfl, [_], ⟨⟨_, _, _, _, _, rfl, nthM_mem (i := 1) rfl, ty37, (by simp), rfl, rfl⟩, trivial⟩, [], List.nil_sublist _, ?_⟩
   refine congrArg (fun l => Value.agg (List.toArray l)) ?_
   show [Value.string _, Value.string _, Value.bool _] = _
   rw [← smeet_eq]
   simp_all [setAt] <;> rfl
  ·refine WC.region ?_
   refine W.ok (ok_fieldB fd37_1 rfl) ?_
   refine W.ok (ok_loadB (i := 3) (vs := [.string _]) ty9 rfl rfl rfl rfl (by simp)) ?_
   refine W.ok (ok_fieldB fd37_1 rfl) ?_
   refine W.ok (ok_loadB (i := 2) (vs := [.string _]) ty9 rfl rfl rfl rfl (by simp)) ?_
   refine W.ok (ok_minS rfl rfl) ?_
   refine W.ok (ok_fieldB fd37_1 rfl) ?_
   refine W.store (i := 0) (vs := [.string _]) (L' := [.string _, .string _, .bool _]) ty9 rfl rfl rfl rfl rfl rfl rfl rfl ?_
   refine W.nil (blk_n (thn_n ?_))
   refine WC.seq ?_
   refine WC.region ?_
   refine W.ok (ok_loadB (i := 0) (vs := [.string _, .string _, .bool _]) ty37 rfl rfl rfl rfl (by simp)) ?_
   refine W.qcall (spannorm_fc _ _ _) rfl ?_
   refine W.store (i := 1) (vs := [.string _, .string _, .bool _]) (L' := [.string _, .string _, .bool _]) ty37 rfl rfl rfl rfl rfl rfl rfl rfl ?_
   refine W.nil (thn_n ?_)
   refine WC.ret ?_
   refine ⟨.inr rfl, [_], ⟨⟨_, _, _, _, _, rfl, nthM_mem (i := 1) rfl, ty37, (by simp), rfl, rfl⟩, trivial⟩, [], List.nil_sublist _, ?_⟩
   refine congrArg (fun l => Value.agg (List.toArray l)) ?_
   show [Value.string _, Value.string _, Value.bool _] = _
   rw [← smeet_eq]
   simp_all [setAt] <;> rfl

theorem knext_fc {G : GH} (k : Str) (hk : k.b.size < 140737488355328) :
    Fc Try.prog 164 [.string k.b] G [] (fun v _ _ => v = .string (Str.b (k.next))) := by
 refine Fc.intro (rs := [.tmp 2]) cl164 Try.func164 rfl Try.ntmps164 rfl rfl (fun w0 => ?_)
 refine WC.seq ?_
 refine WC.region ?_
 refine W.as ?_
 refine W.nil (thn_n ?_)
 refine WC.seq ?_
 refine WC.region ?_
 refine W.mv ?_
 refine W.ok (ok_addS rfl rfl (by show _ + 1 ≤ _; omega)) ?_
 refine W.as ?_
 refine W.nil (thn_n ?_)
 refine WC.ret ?_
 refine ⟨.inr rfl, [_], ⟨rfl, trivial⟩, [], List.nil_sublist _, ?_⟩
 refine congrArg Value.string ?_
 exact (Str.next_b hk).symm

theorem point_fc {G : GH} (k : Str) (hk : k.b.size < 140737488355328) :
    Fc Try.prog 157 [.string k.b] G [] (fun v _ _ => v = .agg (List.toArray ((⟨k, k.next, false⟩ : Span).cells))) := by
 refine Fc.intro (rs := [.cell 2 37]) cl157 Try.func157 rfl Try.ntmps157 rfl rfl (fun w0 => ?_)
 refine WC.seq ?_
 refine WC.region ?_
 refine W.alloc zr37 (fun b10 => ?_)
 refine W.nil (thn_n ?_)
 refine WC.seq ?_
 refine WC.region ?_
 refine W.mv ?_
 refine W.mv ?_
 refine W.qcall (knext_fc _ (by first | assumption | omega | (dsimp only; omega))) rfl ?_
 refine W.ok (ok_build (L := [.string _, .string _, .bool _]) pl37 zr37 rfl rfl rfl) ?_
 refine W.store (i := 0) (vs := [.string _, .string _, .bool _]) (L' := [.string _, .string _, .bool _]) ty37 rfl rfl rfl rfl rfl rfl rfl rfl ?_
 refine W.nil (thn_n ?_)
 refine WC.ret ?_
 refine ⟨.inr rfl, [_], ⟨⟨_, _, _, _, _, rfl, nthM_mem (i := 0) rfl, ty37, (by simp), rfl, rfl⟩, trivial⟩, [], List.nil_sublist _, ?_⟩
 rfl

theorem mspan_fc {G : GH} (ms : Int) (mk : Int) (mkey : Str) (mhi : Str) (mo : Bool) (mv : Str) (hk : mkey.b.size < 140737488355328) :
    Fc Try.prog 144 [.agg #[.int .i64 ms, .int .i64 mk, .string mkey.b, .string mhi.b, .bool mo, .string mv.b]] G [] (fun v _ _ => v = .agg (List.toArray ((Msg.span (⟨ms, mk, mkey, mhi, mo, mv⟩ : Msg) : Span).cells))) := by
 refine Fc.intro (rs := [.cell 2 37]) cl144 Try.func144 rfl Try.ntmps144 rfl rfl (fun w0 => ?_)
 refine WC.seq ?_
 refine WC.region ?_
 refine W.box (L := [.int .i64 _, .int .i64 _, .string _, .string _, .bool _, .string _]) rfl rfl (fun b11 => ?_)
 refine W.alloc zr37 (fun b12 => ?_)
 refine W.nil (thn_n ?_)
 refine WC.seq ?_
 refine WC.seq ?_
 refine WC.region ?_
 refine W.ok (ok_fieldB fd123_1 rfl) ?_
 refine W.ok (ok_loadB (i := 1) (vs := [.int .i64 _]) ty3 rfl rfl rfl rfl (by simp)) ?_
 refine W.ok (ok_eql rfl rfl) ?_
 refine W.nil (thn_n ?_)
 refine WC.cond (b := _) rfl (fun h5 => ?_) (fun h5 => ?_)
 ·have p5 := of_decide_eq_true h5
  refine WC.seq ?_
  refine WC.region ?_
  refine W.ok (ok_fieldB fd123_2 rfl) ?_
  refine W.ok (ok_loadB (i := 1) (vs := [.string _]) ty9 rfl rfl rfl rfl (by simp)) ?_
  refine W.ok (ok_fieldB fd123_3 rfl) ?_
  refine W.ok (ok_loadB (i := 1) (vs := [.string _]) ty9 rfl rfl rfl rfl (by simp)) ?_
  refine W.ok (ok_fieldB fd123_4 rfl) ?_
  refine W.ok (ok_loadB (i := 1) (vs := [.bool _]) ty4 rfl rfl rfl rfl (by simp)) ?_
  refine W.ok (ok_build (L := [.string _, .string _, .bool _]) pl37 zr37 rfl rfl rfl) ?_
  refine W.store (i := 0) (vs := [.string _, .string _, .bool _]) (L' := [.string _, .string _, .bool _]) ty37 rfl rfl rfl rfl rfl rfl rfl rfl ?_
  refine W.nil (thn_n ?_)
  refine WC.ret (thn_r ?_)
  refine ⟨.inr rfl, [_], ⟨⟨_, _, _, _, _, rfl, nthM_mem (i := 0) rfl, ty37, (by simp), rfl, rfl⟩, trivial⟩, [], List.nil_sublist _, ?_⟩
  refine congrArg (fun l => Value.agg (List.toArray l)) ?_
  rw [Msg.span, if_pos p5]; rfl
 ·have p5 := of_decide_eq_false h5
  refine WC.skip (thn_n ?_)
  refine WC.seq ?_
  refine WC.region ?_
  refine W.ok (ok_fieldB fd123_2 rfl) ?_
  refine W.ok (ok_loadB (i := 1) (vs := [.string _]) ty9 rfl rfl rfl rfl (by simp)) ?_
  refine W.qcall (point_fc _ (by first | assumption | omega | (dsimp only; omega))) rfl ?_
  refine W.store (i := 0) (vs := [.string _, .string _, .bool _]) (L' := [.string _, .string _, .bool _]) ty37 rfl rfl rfl rfl rfl rfl rfl rfl ?_
  refine W.nil (thn_n ?_)
  refine WC.ret ?_
  refine ⟨.inr rfl, [_], ⟨⟨_, _, _, _, _, rfl, nthM_mem (i := 0) rfl, ty37, (by simp), rfl, rfl⟩, trivial⟩, [], List.nil_sublist _, ?_⟩
  refine congrArg (fun l => Value.agg (List.toArray l)) ?_
  rw [Msg.span, if_neg p5]; simp [Span.cells, Str.next_b hk, setAt]

theorem rspan_fc {G : GH} (ms : Int) (mk : Int) (mkey : Str) (mhi : Str) (mo : Bool) (mv : Str) (hk : mkey.b.size < 140737488355328) :
    Fc Try.prog 121 [.agg #[.int .i64 ms, .int .i64 mk, .string mkey.b, .string mhi.b, .bool mo, .string mv.b]] G [] (fun v _ _ => v = .agg (List.toArray ((Msg.span (⟨ms, mk, mkey, mhi, mo, mv⟩ : Msg) : Span).cells))) := by
 refine Fc.intro (rs := [.cell 2 37]) cl121 Try.func121 rfl Try.ntmps121 rfl rfl (fun w0 => ?_)
 refine WC.seq ?_
 refine WC.region ?_
 refine W.box (L := [.int .i64 _, .int .i64 _, .string _, .string _, .bool _, .string _]) rfl rfl (fun b13 => ?_)
 refine W.alloc zr37 (fun b14 => ?_)
 refine W.nil (thn_n ?_)
 refine WC.seq ?_
 refine WC.seq ?_
 refine WC.region ?_
 refine W.ok (ok_fieldB fd123_1 rfl) ?_
 refine W.ok (ok_loadB (i := 1) (vs := [.int .i64 _]) ty3 rfl rfl rfl rfl (by simp)) ?_
 refine W.ok (ok_eql rfl rfl) ?_
 refine W.nil (thn_n ?_)
 refine WC.cond (b := _) rfl (fun h5 => ?_) (fun h5 => ?_)
 ·have p5 := of_decide_eq_true h5
  refine WC.seq ?_
  refine WC.region ?_
  refine W.ok (ok_fieldB fd123_2 rfl) ?_
  refine W.ok (ok_loadB (i := 1) (vs := [.string _]) ty9 rfl rfl rfl rfl (by simp)) ?_
  refine W.ok (ok_fieldB fd123_3 rfl) ?_
  refine W.ok (ok_loadB (i := 1) (vs := [.string _]) ty9 rfl rfl rfl rfl (by simp)) ?_
  refine W.ok (ok_fieldB fd123_4 rfl) ?_
  refine W.ok (ok_loadB (i := 1) (vs := [.bool _]) ty4 rfl rfl rfl rfl (by simp)) ?_
  refine W.ok (ok_build (L := [.string _, .string _, .bool _]) pl37 zr37 rfl rfl rfl) ?_
  refine W.store (i := 0) (vs := [.string _, .string _, .bool _]) (L' := [.string _, .string _, .bool _]) ty37 rfl rfl rfl rfl rfl rfl rfl rfl ?_
  refine W.nil (thn_n ?_)
  refine WC.ret (thn_r ?_)
  refine ⟨.inr rfl, [_], ⟨⟨_, _, _, _, _, rfl, nthM_mem (i := 0) rfl, ty37, (by simp), rfl, rfl⟩, trivial⟩, [], List.nil_sublist _, ?_⟩
  refine congrArg (fun l => Value.agg (List.toArray l)) ?_
  rw [Msg.span, if_pos p5]; rfl
 ·have p5 := of_decide_eq_false h5
  refine WC.skip (thn_n ?_)
  refine WC.seq ?_
  refine WC.region ?_
  refine W.ok (ok_fieldB fd123_2 rfl) ?_
  refine W.ok (ok_loadB (i := 1) (vs := [.string _]) ty9 rfl rfl rfl rfl (by simp)) ?_
  refine W.ok (ok_fieldB fd123_2 rfl) ?_
  refine W.ok (ok_loadB (i := 1) (vs := [.string _]) ty9 rfl rfl rfl rfl (by simp)) ?_
  refine W.ok (ok_addS rfl rfl (by show _ + 1 ≤ _; omega)) ?_
  refine W.ok (ok_build (L := [.string _, .string _, .bool _]) pl37 zr37 rfl rfl rfl) ?_
  refine W.store (i := 0) (vs := [.string _, .string _, .bool _]) (L' := [.string _, .string _, .bool _]) ty37 rfl rfl rfl rfl rfl rfl rfl rfl ?_
  refine W.nil (thn_n ?_)
  refine WC.ret ?_
  refine ⟨.inr rfl, [_], ⟨⟨_, _, _, _, _, rfl, nthM_mem (i := 0) rfl, ty37, (by simp), rfl, rfl⟩, trivial⟩, [], List.nil_sublist _, ?_⟩
  refine congrArg (fun l => Value.agg (List.toArray l)) ?_
  rw [Msg.span, if_neg p5]; simp [Span.cells, Str.next_b hk, setAt]

theorem touch_fc {G : GH} (alo : Str) (ahi : Str) (ao : Bool) (blo : Str) (bhi : Str) (bo : Bool) :
    Fc Try.prog 156 [.agg #[.string alo.b, .string ahi.b, .bool ao], .agg #[.string blo.b, .string bhi.b, .bool bo]] G [] (fun v _ _ => v = .bool (!(Span.meet ⟨alo, ahi, ao⟩ ⟨blo, bhi, bo⟩).empty)) := by
 refine Fc.intro (rs := [.tmp 4]) cl156 Try.func156 rfl Try.ntmps156 rfl rfl (fun w0 => ?_)
 refine WC.seq ?_
 refine WC.region ?_
 refine W.box (L := [.string _, .string _, .bool _]) rfl rfl (fun b15 => ?_)
 refine W.box (L := [.string _, .string _, .bool _]) rfl rfl (fun b16 => ?_)
 refine W.as ?_
 refine W.nil (thn_n ?_)
 refine WC.seq ?_
 refine WC.region ?_
 refine W.ok (ok_loadB (i := 1) (vs := [.string _, .string _, .bool _]) ty37 rfl rfl rfl rfl (by simp)) ?_
 refine W.ok (ok_loadB (i := 0) (vs := [.string _, .string _, .bool _]) ty37 rfl rfl rfl rfl (by simp)) ?_
 refine W.qcall (smeet_fc _ _ _ _ _ _) rfl ?_
 refine W.qcall (spanempty_fc _ _ _) rfl ?_
 refine W.ok (ok_not rfl) ?_
 refine W.as ?_
 refine W.nil (thn_n ?_)
 refine WC.ret ?_
 refine ⟨.inr rfl, [_], ⟨rfl, trivial⟩, [], List.nil_sublist _, ?_⟩
 rfl

theorem touches_fc {G : GH} (ms : Int) (mk : Int) (mkey : Str) (mhi : Str) (mo : Bool) (mv : Str) (alo : Str) (ahi : Str) (ao : Bool) (hk : mkey.b.size < 140737488355328) :
    Fc Try.prog 143 [.agg #[.int .i64 ms, .int .i64 mk, .string mkey.b, .string mhi.b, .bool mo, .string mv.b], .agg #[.string alo.b, .string ahi.b, .bool ao]] G [] (fun v _ _ => v = .bool (!((Msg.span (⟨ms, mk, mkey, mhi, mo, mv⟩ : Msg)).meet ⟨alo, ahi, ao⟩).empty)) := by
 refine Fc.intro (rs := [.tmp 4]) cl143 Try.func143 rfl Try.ntmps143 rfl rfl (fun w0 => ?_)
 refine WC.seq ?_
 refine WC.region ?_
 refine W.box (L := [.int .i64 _, .int .i64 _, .string _, .string _, .bool _, .string _]) rfl rfl (fun b17 => ?_)
 refine W.box (L := [.string _, .string _, .bool _]) rfl rfl (fun b18 => ?_)
 refine W.as ?_
 refine W.nil (thn_n ?_)
 refine WC.seq ?_
 refine WC.draw mix (by kernel_rfl) ?_
 refine W.ok (ok_loadB (i := 1) (vs := [.int .i64 _, .int .i64 _, .string _, .string _, .bool _, .string _]) ty123 rfl rfl rfl rfl (by simp)) ?_
 refine W.qcall (mspan_fc _ _ _ _ _ _ (by first | assumption | omega | (dsimp only; omega))) rfl ?_
 refine W.ok (ok_loadB (i := 0) (vs := [.string _, .string _, .bool _]) ty37 rfl rfl rfl rfl (by simp)) ?_
 refine W.qcall (touch_fc _ _ _ _ _ _) rfl ?_
 refine W.as ?_
 refine W.nil (thn_n ?_)
 refine WC.ret ?_
 refine ⟨.inr rfl, [_], ⟨rfl, trivial⟩, [], List.nil_sublist _, ?_⟩
 rfl

theorem msize_fc {G : GH} (ms : Int) (mk : Int) (mkey : Str) (mhi : Str) (mo : Bool) (mv : Str) :
    Fc Try.prog 153 [.agg #[.int .i64 ms, .int .i64 mk, .string mkey.b, .string mhi.b, .bool mo, .string mv.b]] G [] (fun v _ _ => v = .int .i64 (Msg.size (⟨ms, mk, mkey, mhi, mo, mv⟩ : Msg))) := by
 have h1 := mkey.le
 have h2 := mv.le
 refine Fc.intro (rs := [.tmp 2]) cl153 Try.func153 rfl Try.ntmps153 rfl rfl (fun w0 => ?_)
 refine WC.seq ?_
 refine WC.region ?_
 refine W.box (L := [.int .i64 _, .int .i64 _, .string _, .string _, .bool _, .string _]) rfl rfl (fun b19 => ?_)
 refine W.as ?_
 refine W.nil (thn_n ?_)
 refine WC.seq ?_
 refine WC.seq ?_
 refine WC.region ?_
 refine W.ok (ok_fieldB fd123_1 rfl) ?_
 refine W.ok (ok_loadB (i := 0) (vs := [.int .i64 _]) ty3 rfl rfl rfl rfl (by simp)) ?_
 refine W.ok (ok_eql rfl rfl) ?_
 refine W.nil (thn_n ?_)
 refine WC.cond (b := _) rfl (fun h5 => ?_) (fun h5 => ?_)
 ·have p5 := of_decide_eq_true h5
  refine WC.seq ?_
  refine WC.region ?_
  refine W.as ?_
  refine W.nil (thn_n ?_)
  refine WC.ret (thn_r ?_)
  refine ⟨.inr rfl, [_], ⟨rfl, trivial⟩, [], List.nil_sublist _, ?_⟩
  refine congrArg (Value.int .i64) ?_
  rw [Msg.size, if_pos p5]
 ·have p5 := of_decide_eq_false h5
  refine WC.skip (thn_n ?_)
  refine WC.seq ?_
  refine WC.region ?_
  refine W.ok (ok_fieldB fd123_2 rfl) ?_
  refine W.ok (ok_loadB (i := 0) (vs := [.string _]) ty9 rfl rfl rfl rfl (by simp)) ?_
  refine W.ok (ok_lenS st9 rfl) ?_
  refine W.ok (ok_add rfl rfl (by omega)) ?_
  refine W.ok (ok_fieldB fd123_5 rfl) ?_
  refine W.ok (ok_loadB (i := 0) (vs := [.string _]) ty9 rfl rfl rfl rfl (by simp)) ?_
  refine W.ok (ok_lenS st9 rfl) ?_
  refine W.ok (ok_add rfl rfl (by omega)) ?_
  refine W.as ?_
  refine W.nil (thn_n ?_)
  refine WC.ret ?_
  refine ⟨.inr rfl, [_], ⟨rfl, trivial⟩, [], List.nil_sublist _, ?_⟩
  refine congrArg (Value.int .i64) ?_
  rw [Msg.size, if_neg p5]

theorem rclip_fc {G : GH} (ms : Int) (mk : Int) (mkey : Str) (mhi : Str) (mo : Bool) (mv : Str) (alo : Str) (ahi : Str) (ao : Bool) (hk : mkey.b.size < 140737488355328) :
    Fc Try.prog 94 [.agg #[.int .i64 ms, .int .i64 mk, .string mkey.b, .string mhi.b, .bool mo, .string mv.b], .agg #[.string alo.b, .string ahi.b, .bool ao]] G [] (fun v _ _ => v = .tuple #[.agg (List.toArray ((Msg.clip (⟨ms, mk, mkey, mhi, mo, mv⟩ : Msg) ⟨alo, ahi, ao⟩).1.cells)), .bool ((Msg.clip (⟨ms, mk, mkey, mhi, mo, mv⟩ : Msg) ⟨alo, ahi, ao⟩).2)]) := by
 refine Fc.intro (rs := [.cell 4 123, .tmp 5]) cl94 Try.func94 rfl Try.ntmps94 rfl rfl (fun w0 => ?_)
 refine WC.seq ?_
 refine WC.region ?_
 refine W.box (L := [.int .i64 _, .int .i64 _, .string _, .string _, .bool _, .string _]) rfl rfl (fun b20 => ?_)
 refine W.box (L := [.string _, .string _, .bool _]) rfl rfl (fun b21 => ?_)
 refine W.alloc zr123 (fun b22 => ?_)
 refine W.as ?_
 refine W.nil (thn_n ?_)
 refine WC.seq ?_
 refine WC.drawW _ ((((List.Sublist.refl _).cons_cons _).cons_cons _).cons_cons _) mix (by rintro _ _ _ _ ⟨h | h, _⟩ <;> cases h) ?_
 refine WD.take 0 rfl rfl rfl (by kernel_rfl) (by kernel_rfl) (by kernel_rfl) (ok_loadB (i := 2) (vs := [.int .i64 _, .int .i64 _, .string _, .string _, .bool _, .string _]) ty123 rfl rfl rfl rfl (by simp)) ?_
 refine WD.take 2 rfl rfl rfl (by kernel_rfl) (by kernel_rfl) (by kernel_rfl) (ok_loadB (i := 1) (vs := [.string _, .string _, .bool _]) ty37 rfl rfl rfl rfl (by simp)) ?_
 refine WD.any [1, 4] (by kernel_rfl) rfl ⟨⟨_, rfl, rfl, ?_⟩, ⟨_, rfl, rfl, ?_⟩, trivial⟩
 ·refine W.qcall (rspan_fc _ _ _ _ _ _ (by first | assumption | omega | (dsimp only; omega))) rfl ?_
  refine W.nil ⟨Le.rfl, (((List.Sublist.refl _).cons_cons _).cons_cons _).cons_cons _, _, (((List.Sublist.refl _).cons_cons _).cons_cons _).cons_cons _, List.Sublist.refl _, ?_⟩
  refine WD.any [3, 4] (by kernel_rfl) rfl ⟨⟨_, rfl, rfl, ?_⟩, ⟨_, rfl, rfl, ?_⟩, trivial⟩
  ·refine W.qcall (rmeet_fc _ _ _ _ _ _) rfl ?_
   refine W.nil ⟨Le.rfl, (((List.Sublist.refl _).cons_cons _).cons_cons _).cons_cons _, _, (((List.Sublist.refl _).cons_cons _).cons_cons _).cons_cons _, List.Sublist.refl _, ?_⟩
   refine WD.any [4] (by kernel_rfl) rfl ⟨⟨_, rfl, rfl, ?_⟩, trivial⟩
   refine W.alloc zr37 (fun b23 => ?_)
   refine W.nil ⟨Le.rfl, ((((List.Sublist.refl _).cons_cons _).cons_cons _).cons_cons _).cons _, _, ((((List.Sublist.refl _).cons_cons _).cons_cons _).cons_cons _).cons _, List.Sublist.refl _, ?_⟩
   refine WD.any [5] (by kernel_rfl) rfl ⟨⟨_, rfl, rfl, ?_⟩, trivial⟩
   refine W.store (i := 0) (vs := [.string _, .string _, .bool _]) (L' := [.string _, .string _, .bool _]) ty37 rfl rfl rfl rfl rfl rfl rfl rfl ?_
   refine W.nil ⟨Le.rfl, ((((List.Sublist.refl _).cons_cons _).cons_cons _).cons_cons _).cons _, _, ((((List.Sublist.refl _).cons_cons _).cons_cons _).cons_cons _).cons _, List.Sublist.refl _, ?_⟩
   refine WD.done (by kernel_rfl) (thn_n ?_)
   refine WC.seq ?_
   refine WC.seq ?_
   refine WC.region ?_
   refine W.ok (ok_loadB (i := 0) (vs := [.string _, .string _, .bool _]) ty37 rfl rfl rfl rfl (by simp)) ?_
   refine W.qcall (empty_fc _ _ _) rfl ?_
   refine W.nil (thn_n ?_)
   refine WC.cond (b := _) rfl (fun h12 => ?_) (fun h12 => ?_)
   ·refine WC.seq ?_
    refine WC.region ?_
    refine W.ok (ok_build (L := [.int .i64 _, .int .i64 _, .string _, .string _, .bool _, .string _]) pl123 zr123 rfl rfl rfl) ?_
    refine W.store (i := 1) (vs := [.int .i64 _, .int .i64 _, .string _, .string _, .bool _, .string _]) (L' := [.int .i64 _, .int .i64 _, .string _, .string _, .bool _, .string _]) ty123 rfl rfl rfl rfl rfl rfl rfl rfl ?_
    refine W.as ?_
    refine W.nil (thn_n ?_)
    refine WC.ret (thn_r ?_)
    refine ⟨.inr rfl, [_, _], ⟨⟨_, _, _, _, _, rfl, nthM_mem (i := 1) rfl, ty123, (by simp), rfl, rfl⟩, rfl, trivial⟩, [], List.nil_sublist _, ?_⟩
    show Value.tuple #[Value.agg (List.toArray [_, _, _, _, _, _]), Value.bool _] = _
    rw [clip_e h12]; rfl
   ·refine WC.skip (thn_n ?_)
    refine WC.seq ?_
    refine WC.seq ?_
    refine WC.region ?_
    refine W.ok (ok_fieldB fd123_1 rfl) ?_
    refine W.ok (ok_loadB (i := 3) (vs := [.int .i64 _]) ty3 rfl rfl rfl rfl (by simp)) ?_
    refine W.ok (ok_eql rfl rfl) ?_
    refine W.nil (thn_n ?_)
    refine WC.cond (b := _) rfl (fun h16 => ?_) (fun h16 => ?_)
    ·have p16 := of_decide_eq_true h16
     refine WC.seq ?_
     refine WC.region ?_
     refine W.ok (ok_fieldB fd37_0 rfl) ?_
     refine W.ok (ok_loadB (i := 0) (vs := [.string _]) ty9 rfl rfl rfl rfl (by simp)) ?_
     refine W.ok (ok_fieldB fd123_2 rfl) ?_
     refine W.store (i := 3) (vs := [.string _]) (L' := [.int .i64 _, .int .i64 _, .string _, .string _, .bool _, .string _]) ty9 rfl rfl rfl rfl rfl rfl rfl rfl ?_
     refine W.nil (thn_n ?_)
     refine WC.seq ?_
     refine WC.region ?_
     refine W.ok (ok_fieldB fd37_1 rfl) ?_
     refine W.ok (ok_loadB (i := 0) (vs := [.string _]) ty9 rfl rfl rfl rfl (by simp)) ?_
     refine W.ok (ok_fieldB fd123_3 rfl) ?_
     refine W.store (i := 3) (vs := [.string _]) (L' := [.int .i64 _, .int .i64 _, .string _, .string _, .bool _, .string _]) ty9 rfl rfl rfl rfl rfl rfl rfl rfl ?_
     refine W.nil (thn_n ?_)
     refine WC.region ?_
     refine W.ok (ok_fieldB fd37_2 rfl) ?_
     refine W.ok (ok_loadB (i := 0) (vs := [.bool _]) ty4 rfl rfl rfl rfl (by simp)) ?_
     refine W.ok (ok_fieldB fd123_4 rfl) ?_
     refine W.store (i := 3) (vs := [.bool _]) (L' := [.int .i64 _, .int .i64 _, .string _, .string _, .bool _, .string _]) ty4 rfl rfl rfl rfl rfl rfl rfl rfl ?_
     refine W.nil (thn_n ?_)
     refine WC.seq ?_
     refine WC.region ?_
     refine W.ok (ok_loadB (i := 3) (vs := [.int .i64 _, .int .i64 _, .string _, .string _, .bool _, .string _]) ty123 rfl rfl rfl rfl (by simp)) ?_
     refine W.store (i := 1) (vs := [.int .i64 _, .int .i64 _, .string _, .string _, .bool _, .string _]) (L' := [.int .i64 _, .int .i64 _, .string _, .string _, .bool _, .string _]) ty123 rfl rfl rfl rfl rfl rfl rfl rfl ?_
     refine W.as ?_
     refine W.nil (thn_n ?_)
     refine WC.ret ?_
     refine ⟨.inr rfl, [_, _], ⟨⟨_, _, _, _, _, rfl, nthM_mem (i := 1) rfl, ty123, (by simp), rfl, rfl⟩, rfl, trivial⟩, [], List.nil_sublist _, ?_⟩
     show Value.tuple #[Value.agg (List.toArray [_, _, _, _, _, _]), Value.bool _] = _
     rw [clip_4 h12 p16]; rfl
    ·have p16 := of_decide_eq_false h16
     refine WC.skip (thn_n ?_)
     refine WC.seq ?_
     refine WC.region ?_
     refine W.ok (ok_loadB (i := 3) (vs := [.int .i64 _, .int .i64 _, .string _, .string _, .bool _, .string _]) ty123 rfl rfl rfl rfl (by simp)) ?_
     refine W.store (i := 1) (vs := [.int .i64 _, .int .i64 _, .string _, .string _, .bool _, .string _]) (L' := [.int .i64 _, .int .i64 _, .string _, .string _, .bool _, .string _]) ty123 rfl rfl rfl rfl rfl rfl rfl rfl ?_
     refine W.as ?_
     refine W.nil (thn_n ?_)
     refine WC.ret ?_
     refine ⟨.inr rfl, [_, _], ⟨⟨_, _, _, _, _, rfl, nthM_mem (i := 1) rfl, ty123, (by simp), rfl, rfl⟩, rfl, trivial⟩, [], List.nil_sublist _, ?_⟩
     show Value.tuple #[Value.agg (List.toArray [_, _, _, _, _, _]), Value.bool _] = _
     rw [clip_n h12 p16]; rfl
  ·refine W.alloc zr37 (fun b24 => ?_)
   refine W.nil ⟨Le.rfl, ((((List.Sublist.refl _).cons_cons _).cons_cons _).cons_cons _).cons _, _, ((((List.Sublist.refl _).cons_cons _).cons_cons _).cons_cons _).cons _, List.Sublist.refl _, ?_⟩
   refine WD.any [3] (by kernel_rfl) rfl ⟨⟨_, rfl, rfl, ?_⟩, trivial⟩
   refine W.qcall (rmeet_fc _ _ _ _ _ _) rfl ?_
   refine W.nil ⟨Le.rfl, ((((List.Sublist.refl _).cons_cons _).cons_cons _).cons_cons _).cons _, _, ((((List.Sublist.refl _).cons_cons _).cons_cons _).cons_cons _).cons _, List.Sublist.refl _, ?_⟩
   refine WD.any [5] (by kernel_rfl) rfl ⟨⟨_, rfl, rfl, ?_⟩, trivial⟩
   refine W.store (i := 0) (vs := [.string _, .string _, .bool _]) (L' := [.string _, .string _, .bool _]) ty37 rfl rfl rfl rfl rfl rfl rfl rfl ?_
   refine W.nil ⟨Le.rfl, ((((List.Sublist.refl _).cons_cons _).cons_cons _).cons_cons _).cons _, _, ((((List.Sublist.refl _).cons_cons _).cons_cons _).cons_cons _).cons _, List.Sublist.refl _, ?_⟩
   refine WD.done (by kernel_rfl) (thn_n ?_)
   refine WC.seq ?_
   refine WC.seq ?_
   refine WC.region ?_
   refine W.ok (ok_loadB (i := 0) (vs := [.string _, .string _, .bool _]) ty37 rfl rfl rfl rfl (by simp)) ?_
   refine W.qcall (empty_fc _ _ _) rfl ?_
   refine W.nil (thn_n ?_)
   refine WC.cond (b := _) rfl (fun h12 => ?_) (fun h12 => ?_)
   ·refine WC.seq ?_
    refine WC.region ?_
    refine W.ok (ok_build (L := [.int .i64 _, .int .i64 _, .string _, .string _, .bool _, .string _]) pl123 zr123 rfl rfl rfl) ?_
    refine W.store (i := 1) (vs := [.int .i64 _, .int .i64 _, .string _, .string _, .bool _, .string _]) (L' := [.int .i64 _, .int .i64 _, .string _, .string _, .bool _, .string _]) ty123 rfl rfl rfl rfl rfl rfl rfl rfl ?_
    refine W.as ?_
    refine W.nil (thn_n ?_)
    refine WC.ret (thn_r ?_)
    refine ⟨.inr rfl, [_, _], ⟨⟨_, _, _, _, _, rfl, nthM_mem (i := 1) rfl, ty123, (by simp), rfl, rfl⟩, rfl, trivial⟩, [], List.nil_sublist _, ?_⟩
    show Value.tuple #[Value.agg (List.toArray [_, _, _, _, _, _]), Value.bool _] = _
    rw [clip_e h12]; rfl
   ·refine WC.skip (thn_n ?_)
    refine WC.seq ?_
    refine WC.seq ?_
    refine WC.region ?_
    refine W.ok (ok_fieldB fd123_1 rfl) ?_
    refine W.ok (ok_loadB (i := 3) (vs := [.int .i64 _]) ty3 rfl rfl rfl rfl (by simp)) ?_
    refine W.ok (ok_eql rfl rfl) ?_
    refine W.nil (thn_n ?_)
    refine WC.cond (b := _) rfl (fun h16 => ?_) (fun h16 => ?_)
    ·have p16 := of_decide_eq_true h16
     refine WC.seq ?_
     refine WC.region ?_
     refine W.ok (ok_fieldB fd37_0 rfl) ?_
     refine W.ok (ok_loadB (i := 0) (vs := [.string _]) ty9 rfl rfl rfl rfl (by simp)) ?_
     refine W.ok (ok_fieldB fd123_2 rfl) ?_
     refine W.store (i := 3) (vs := [.string _]) (L' := [.int .i64 _, .int .i64 _, .string _, .string _, .bool _, .string _]) ty9 rfl rfl rfl rfl rfl rfl rfl rfl ?_
     refine W.nil (thn_n ?_)
     refine WC.seq ?_
     refine WC.region ?_
     refine W.ok (ok_fieldB fd37_1 rfl) ?_
     refine W.ok (ok_loadB (i := 0) (vs := [.string _]) ty9 rfl rfl rfl rfl (by simp)) ?_
     refine W.ok (ok_fieldB fd123_3 rfl) ?_
     refine W.store (i := 3) (vs := [.string _]) (L' := [.int .i64 _, .int .i64 _, .string _, .string _, .bool _, .string _]) ty9 rfl rfl rfl rfl rfl rfl rfl rfl ?_
     refine W.nil (thn_n ?_)
     refine WC.region ?_
     refine W.ok (ok_fieldB fd37_2 rfl) ?_
     refine W.ok (ok_loadB (i := 0) (vs := [.bool _]) ty4 rfl rfl rfl rfl (by simp)) ?_
     refine W.ok (ok_fieldB fd123_4 rfl) ?_
     refine W.store (i := 3) (vs := [.bool _]) (L' := [.int .i64 _, .int .i64 _, .string _, .string _, .bool _, .string _]) ty4 rfl rfl rfl rfl rfl rfl rfl rfl ?_
     refine W.nil (thn_n ?_)
     refine WC.seq ?_
     refine WC.region ?_
     refine W.ok (ok_loadB (i := 3) (vs := [.int .i64 _, .int .i64 _, .string _, .string _, .bool _, .string _]) ty123 rfl rfl rfl rfl (by simp)) ?_
     refine W.store (i := 1) (vs := [.int .i64 _, .int .i64 _, .string _, .string _, .bool _, .string _]) (L' := [.int .i64 _, .int .i64 _, .string _, .string _, .bool _, .string _]) ty123 rfl rfl rfl rfl rfl rfl rfl rfl ?_
     refine W.as ?_
     refine W.nil (thn_n ?_)
     refine WC.ret ?_
     refine ⟨.inr rfl, [_, _], ⟨⟨_, _, _, _, _, rfl, nthM_mem (i := 1) rfl, ty123, (by simp), rfl, rfl⟩, rfl, trivial⟩, [], List.nil_sublist _, ?_⟩
     show Value.tuple #[Value.agg (List.toArray [_, _, _, _, _, _]), Value.bool _] = _
     rw [clip_4 h12 p16]; rfl
    ·have p16 := of_decide_eq_false h16
     refine WC.skip (thn_n ?_)
     refine WC.seq ?_
     refine WC.region ?_
     refine W.ok (ok_loadB (i := 3) (vs := [.int .i64 _, .int .i64 _, .string _, .string _, .bool _, .string _]) ty123 rfl rfl rfl rfl (by simp)) ?_
     refine W.store (i := 1) (vs := [.int .i64 _, .int .i64 _, .string _, .string _, .bool _, .string _]) (L' := [.int .i64 _, .int .i64 _, .string _, .string _, .bool _, .string _]) ty123 rfl rfl rfl rfl rfl rfl rfl rfl ?_
     refine W.as ?_
     refine W.nil (thn_n ?_)
     refine WC.ret ?_
     refine ⟨.inr rfl, [_, _], ⟨⟨_, _, _, _, _, rfl, nthM_mem (i := 1) rfl, ty123, (by simp), rfl, rfl⟩, rfl, trivial⟩, [], List.nil_sublist _, ?_⟩
     show Value.tuple #[Value.agg (List.toArray [_, _, _, _, _, _]), Value.bool _] = _
     rw [clip_n h12 p16]; rfl
 ·refine W.alloc zr37 (fun b25 => ?_)
  refine W.nil ⟨Le.rfl, ((((List.Sublist.refl _).cons_cons _).cons_cons _).cons_cons _).cons _, _, ((((List.Sublist.refl _).cons_cons _).cons_cons _).cons_cons _).cons _, List.Sublist.refl _, ?_⟩
  refine WD.any [1] (by kernel_rfl) rfl ⟨⟨_, rfl, rfl, ?_⟩, trivial⟩
  refine W.qcall (rspan_fc _ _ _ _ _ _ (by first | assumption | omega | (dsimp only; omega))) rfl ?_
  refine W.nil ⟨Le.rfl, ((((List.Sublist.refl _).cons_cons _).cons_cons _).cons_cons _).cons _, _, ((((List.Sublist.refl _).cons_cons _).cons_cons _).cons_cons _).cons _, List.Sublist.refl _, ?_⟩
  refine WD.any [3] (by kernel_rfl) rfl ⟨⟨_, rfl, rfl, ?_⟩, trivial⟩
  refine W.qcall (rmeet_fc _ _ _ _ _ _) rfl ?_
  refine W.nil ⟨Le.rfl, ((((List.Sublist.refl _).cons_cons _).cons_cons _).cons_cons _).cons _, _, ((((List.Sublist.refl _).cons_cons _).cons_cons _).cons_cons _).cons _, List.Sublist.refl _, ?_⟩
  refine WD.any [5] (by kernel_rfl) rfl ⟨⟨_, rfl, rfl, ?_⟩, trivial⟩
  refine W.store (i := 0) (vs := [.string _, .string _, .bool _]) (L' := [.string _, .string _, .bool _]) ty37 rfl rfl rfl rfl rfl rfl rfl rfl ?_
  refine W.nil ⟨Le.rfl, ((((List.Sublist.refl _).cons_cons _).cons_cons _).cons_cons _).cons _, _, ((((List.Sublist.refl _).cons_cons _).cons_cons _).cons_cons _).cons _, List.Sublist.refl _, ?_⟩
  refine WD.done (by kernel_rfl) (thn_n ?_)
  refine WC.seq ?_
  refine WC.seq ?_
  refine WC.region ?_
  refine W.ok (ok_loadB (i := 0) (vs := [.string _, .string _, .bool _]) ty37 rfl rfl rfl rfl (by simp)) ?_
  refine W.qcall (empty_fc _ _ _) rfl ?_
  refine W.nil (thn_n ?_)
  refine WC.cond (b := _) rfl (fun h12 => ?_) (fun h12 => ?_)
  ·refine WC.seq ?_
   refine WC.region ?_
   refine W.ok (ok_build (L := [.int .i64 _, .int .i64 _, .string _, .string _, .bool _, .string _]) pl123 zr123 rfl rfl rfl) ?_
   refine W.store (i := 1) (vs := [.int .i64 _, .int .i64 _, .string _, .string _, .bool _, .string _]) (L' := [.int .i64 _, .int .i64 _, .string _, .string _, .bool _, .string _]) ty123 rfl rfl rfl rfl rfl rfl rfl rfl ?_
   refine W.as ?_
   refine W.nil (thn_n ?_)
   refine WC.ret (thn_r ?_)
   refine ⟨.inr rfl, [_, _], ⟨⟨_, _, _, _, _, rfl, nthM_mem (i := 1) rfl, ty123, (by simp), rfl, rfl⟩, rfl, trivial⟩, [], List.nil_sublist _, ?_⟩
   show Value.tuple #[Value.agg (List.toArray [_, _, _, _, _, _]), Value.bool _] = _
   rw [clip_e h12]; rfl
  ·refine WC.skip (thn_n ?_)
   refine WC.seq ?_
   refine WC.seq ?_
   refine WC.region ?_
   refine W.ok (ok_fieldB fd123_1 rfl) ?_
   refine W.ok (ok_loadB (i := 3) (vs := [.int .i64 _]) ty3 rfl rfl rfl rfl (by simp)) ?_
   refine W.ok (ok_eql rfl rfl) ?_
   refine W.nil (thn_n ?_)
   refine WC.cond (b := _) rfl (fun h16 => ?_) (fun h16 => ?_)
   ·have p16 := of_decide_eq_true h16
    refine WC.seq ?_
    refine WC.region ?_
    refine W.ok (ok_fieldB fd37_0 rfl) ?_
    refine W.ok (ok_loadB (i := 0) (vs := [.string _]) ty9 rfl rfl rfl rfl (by simp)) ?_
    refine W.ok (ok_fieldB fd123_2 rfl) ?_
    refine W.store (i := 3) (vs := [.string _]) (L' := [.int .i64 _, .int .i64 _, .string _, .string _, .bool _, .string _]) ty9 rfl rfl rfl rfl rfl rfl rfl rfl ?_
    refine W.nil (thn_n ?_)
    refine WC.seq ?_
    refine WC.region ?_
    refine W.ok (ok_fieldB fd37_1 rfl) ?_
    refine W.ok (ok_loadB (i := 0) (vs := [.string _]) ty9 rfl rfl rfl rfl (by simp)) ?_
    refine W.ok (ok_fieldB fd123_3 rfl) ?_
    refine W.store (i := 3) (vs := [.string _]) (L' := [.int .i64 _, .int .i64 _, .string _, .string _, .bool _, .string _]) ty9 rfl rfl rfl rfl rfl rfl rfl rfl ?_
    refine W.nil (thn_n ?_)
    refine WC.region ?_
    refine W.ok (ok_fieldB fd37_2 rfl) ?_
    refine W.ok (ok_loadB (i := 0) (vs := [.bool _]) ty4 rfl rfl rfl rfl (by simp)) ?_
    refine W.ok (ok_fieldB fd123_4 rfl) ?_
    refine W.store (i := 3) (vs := [.bool _]) (L' := [.int .i64 _, .int .i64 _, .string _, .string _, .bool _, .string _]) ty4 rfl rfl rfl rfl rfl rfl rfl rfl ?_
    refine W.nil (thn_n ?_)
    refine WC.seq ?_
    refine WC.region ?_
    refine W.ok (ok_loadB (i := 3) (vs := [.int .i64 _, .int .i64 _, .string _, .string _, .bool _, .string _]) ty123 rfl rfl rfl rfl (by simp)) ?_
    refine W.store (i := 1) (vs := [.int .i64 _, .int .i64 _, .string _, .string _, .bool _, .string _]) (L' := [.int .i64 _, .int .i64 _, .string _, .string _, .bool _, .string _]) ty123 rfl rfl rfl rfl rfl rfl rfl rfl ?_
    refine W.as ?_
    refine W.nil (thn_n ?_)
    refine WC.ret ?_
    refine ⟨.inr rfl, [_, _], ⟨⟨_, _, _, _, _, rfl, nthM_mem (i := 1) rfl, ty123, (by simp), rfl, rfl⟩, rfl, trivial⟩, [], List.nil_sublist _, ?_⟩
    show Value.tuple #[Value.agg (List.toArray [_, _, _, _, _, _]), Value.bool _] = _
    rw [clip_4 h12 p16]; rfl
   ·have p16 := of_decide_eq_false h16
    refine WC.skip (thn_n ?_)
    refine WC.seq ?_
    refine WC.region ?_
    refine W.ok (ok_loadB (i := 3) (vs := [.int .i64 _, .int .i64 _, .string _, .string _, .bool _, .string _]) ty123 rfl rfl rfl rfl (by simp)) ?_
    refine W.store (i := 1) (vs := [.int .i64 _, .int .i64 _, .string _, .string _, .bool _, .string _]) (L' := [.int .i64 _, .int .i64 _, .string _, .string _, .bool _, .string _]) ty123 rfl rfl rfl rfl rfl rfl rfl rfl ?_
    refine W.as ?_
    refine W.nil (thn_n ?_)
    refine WC.ret ?_
    refine ⟨.inr rfl, [_, _], ⟨⟨_, _, _, _, _, rfl, nthM_mem (i := 1) rfl, ty123, (by simp), rfl, rfl⟩, rfl, trivial⟩, [], List.nil_sublist _, ?_⟩
    show Value.tuple #[Value.agg (List.toArray [_, _, _, _, _, _]), Value.bool _] = _
    rw [clip_n h12 p16]; rfl

theorem mclip_fc {G : GH} (ms : Int) (mk : Int) (mkey : Str) (mhi : Str) (mo : Bool) (mv : Str) (alo : Str) (ahi : Str) (ao : Bool) (hk : mkey.b.size < 140737488355328) :
    Fc Try.prog 126 [.agg #[.int .i64 ms, .int .i64 mk, .string mkey.b, .string mhi.b, .bool mo, .string mv.b], .agg #[.string alo.b, .string ahi.b, .bool ao]] G [] (fun v _ _ => v = .tuple #[.agg (List.toArray ((Msg.clip (⟨ms, mk, mkey, mhi, mo, mv⟩ : Msg) ⟨alo, ahi, ao⟩).1.cells)), .bool ((Msg.clip (⟨ms, mk, mkey, mhi, mo, mv⟩ : Msg) ⟨alo, ahi, ao⟩).2)]) := by
 refine Fc.intro (rs := [.cell 4 123, .tmp 5]) cl126 Try.func126 rfl Try.ntmps126 rfl rfl (fun w0 => ?_)
 refine WC.seq ?_
 refine WC.region ?_
 refine W.box (L := [.int .i64 _, .int .i64 _, .string _, .string _, .bool _, .string _]) rfl rfl (fun b26 => ?_)
 refine W.box (L := [.string _, .string _, .bool _]) rfl rfl (fun b27 => ?_)
 refine W.alloc zr123 (fun b28 => ?_)
 refine W.as ?_
 refine W.nil (thn_n ?_)
 refine WC.seq ?_
 refine WC.seq ?_
 refine WC.region ?_
 refine W.ok (ok_loadB (i := 2) (vs := [.int .i64 _, .int .i64 _, .string _, .string _, .bool _, .string _]) ty123 rfl rfl rfl rfl (by simp)) ?_
 refine W.ok (ok_loadB (i := 1) (vs := [.string _, .string _, .bool _]) ty37 rfl rfl rfl rfl (by simp)) ?_
 refine W.qcall (touches_fc _ _ _ _ _ _ _ _ _ (by first | assumption | omega | (dsimp only; omega))) rfl ?_
 refine W.ok (ok_not rfl) ?_
 refine W.nil (thn_n ?_)
 refine WC.cond (b := _) rfl (fun h10 => ?_) (fun h10 => ?_)
 ·refine WC.seq ?_
  refine WC.region ?_
  refine W.ok (ok_build (L := [.int .i64 _, .int .i64 _, .string _, .string _, .bool _, .string _]) pl123 zr123 rfl rfl rfl) ?_
  refine W.store (i := 0) (vs := [.int .i64 _, .int .i64 _, .string _, .string _, .bool _, .string _]) (L' := [.int .i64 _, .int .i64 _, .string _, .string _, .bool _, .string _]) ty123 rfl rfl rfl rfl rfl rfl rfl rfl ?_
  refine W.as ?_
  refine W.nil (thn_n ?_)
  refine WC.ret (thn_r ?_)
  refine ⟨.inr rfl, [_, _], ⟨⟨_, _, _, _, _, rfl, nthM_mem (i := 0) rfl, ty123, (by simp), rfl, rfl⟩, rfl, trivial⟩, [], List.nil_sublist _, ?_⟩
  show Value.tuple #[Value.agg (List.toArray [_, _, _, _, _, _]), Value.bool _] = _
  rw [clip_e (by simpa using h10)]; rfl
 ·refine WC.skip (thn_n ?_)
  refine WC.seq ?_
  refine WC.seq ?_
  refine WC.region ?_
  refine W.ok (ok_fieldB fd123_1 rfl) ?_
  refine W.ok (ok_loadB (i := 2) (vs := [.int .i64 _]) ty3 rfl rfl rfl rfl (by simp)) ?_
  refine W.ok (ok_eql rfl rfl) ?_
  refine W.nil (thn_n ?_)
  refine WC.cond (b := _) rfl (fun h14 => ?_) (fun h14 => ?_)
  ·have p14 := of_decide_eq_true h14
   refine WC.seq ?_
   refine WC.drawW _ ((((List.Sublist.refl _).cons_cons _).cons_cons _).cons_cons _) mix (by rintro _ _ _ _ ⟨h | h, _⟩ <;> cases h) ?_
   refine WD.take 0 rfl rfl rfl (by kernel_rfl) (by kernel_rfl) (by kernel_rfl) (ok_loadB (i := 2) (vs := [.int .i64 _, .int .i64 _, .string _, .string _, .bool _, .string _]) ty123 rfl rfl rfl rfl (by simp)) ?_
   refine WD.take 2 rfl rfl rfl (by kernel_rfl) (by kernel_rfl) (by kernel_rfl) (ok_loadB (i := 1) (vs := [.string _, .string _, .bool _]) ty37 rfl rfl rfl rfl (by simp)) ?_
   refine WD.any [1, 4] (by kernel_rfl) rfl ⟨⟨_, rfl, rfl, ?_⟩, ⟨_, rfl, rfl, ?_⟩, trivial⟩
   ·refine W.qcall (mspan_fc _ _ _ _ _ _ (by first | assumption | omega | (dsimp only; omega))) rfl ?_
    refine W.nil ⟨Le.rfl, (((List.Sublist.refl _).cons_cons _).cons_cons _).cons_cons _, _, (((List.Sublist.refl _).cons_cons _).cons_cons _).cons_cons _, List.Sublist.refl _, ?_⟩
    refine WD.any [3, 4] (by kernel_rfl) rfl ⟨⟨_, rfl, rfl, ?_⟩, ⟨_, rfl, rfl, ?_⟩, trivial⟩
    ·refine W.qcall (smeet_fc _ _ _ _ _ _) rfl ?_
     refine W.nil ⟨Le.rfl, (((List.Sublist.refl _).cons_cons _).cons_cons _).cons_cons _, _, (((List.Sublist.refl _).cons_cons _).cons_cons _).cons_cons _, List.Sublist.refl _, ?_⟩
     refine WD.any [4] (by kernel_rfl) rfl ⟨⟨_, rfl, rfl, ?_⟩, trivial⟩
     refine W.alloc zr37 (fun b29 => ?_)
     refine W.nil ⟨Le.rfl, ((((List.Sublist.refl _).cons_cons _).cons_cons _).cons_cons _).cons _, _, ((((List.Sublist.refl _).cons_cons _).cons_cons _).cons_cons _).cons _, List.Sublist.refl _, ?_⟩
     refine WD.any [5] (by kernel_rfl) rfl ⟨⟨_, rfl, rfl, ?_⟩, trivial⟩
     refine W.store (i := 0) (vs := [.string _, .string _, .bool _]) (L' := [.string _, .string _, .bool _]) ty37 rfl rfl rfl rfl rfl rfl rfl rfl ?_
     refine W.nil ⟨Le.rfl, ((((List.Sublist.refl _).cons_cons _).cons_cons _).cons_cons _).cons _, _, ((((List.Sublist.refl _).cons_cons _).cons_cons _).cons_cons _).cons _, List.Sublist.refl _, ?_⟩
     refine WD.done (by kernel_rfl) (thn_n ?_)
     refine WC.drawW _ (((((List.Sublist.refl _).cons _).cons_cons _).cons_cons _).cons_cons _) mix (by rintro _ _ _ _ ⟨h | h, _⟩ <;> cases h) ?_
     refine WD.take 0 rfl rfl rfl (by kernel_rfl) (by kernel_rfl) (by kernel_rfl) (ok_fieldB fd37_0 rfl) ?_
     refine WD.take 1 rfl rfl rfl (by kernel_rfl) (by kernel_rfl) (by kernel_rfl) (ok_loadB (i := 0) (vs := [.string _]) ty9 rfl rfl rfl rfl (by simp)) ?_
     refine WD.take 2 rfl rfl rfl (by kernel_rfl) (by kernel_rfl) (by kernel_rfl) (ok_fieldB fd37_1 rfl) ?_
     refine WD.take 3 rfl rfl rfl (by kernel_rfl) (by kernel_rfl) (by kernel_rfl) (ok_loadB (i := 0) (vs := [.string _]) ty9 rfl rfl rfl rfl (by simp)) ?_
     refine WD.take 4 rfl rfl rfl (by kernel_rfl) (by kernel_rfl) (by kernel_rfl) (ok_fieldB fd37_2 rfl) ?_
     refine WD.take 5 rfl rfl rfl (by kernel_rfl) (by kernel_rfl) (by kernel_rfl) (ok_loadB (i := 0) (vs := [.bool _]) ty4 rfl rfl rfl rfl (by simp)) ?_
     refine WD.take 6 rfl rfl rfl (by kernel_rfl) (by kernel_rfl) (by kernel_rfl) (ok_fieldB fd123_2 rfl) ?_
     refine WD.any [7] (by kernel_rfl) rfl ⟨⟨_, rfl, rfl, ?_⟩, trivial⟩
     refine W.store (i := 3) (vs := [.string _]) (L' := [.int .i64 _, .int .i64 _, .string _, .string _, .bool _, .string _]) ty9 rfl rfl rfl rfl rfl rfl rfl rfl ?_
     refine W.nil ⟨Le.rfl, ((((List.Sublist.refl _).cons _).cons_cons _).cons_cons _).cons_cons _, _, ((((List.Sublist.refl _).cons _).cons_cons _).cons_cons _).cons_cons _, List.Sublist.refl _, ?_⟩
     refine WD.take 8 rfl rfl rfl (by kernel_rfl) (by kernel_rfl) (by kernel_rfl) (ok_fieldB fd123_3 rfl) ?_
     refine WD.any [9] (by kernel_rfl) rfl ⟨⟨_, rfl, rfl, ?_⟩, trivial⟩
     refine W.store (i := 3) (vs := [.string _]) (L' := [.int .i64 _, .int .i64 _, .string _, .string _, .bool _, .string _]) ty9 rfl rfl rfl rfl rfl rfl rfl rfl ?_
     refine W.nil ⟨Le.rfl, ((((List.Sublist.refl _).cons _).cons_cons _).cons_cons _).cons_cons _, _, ((((List.Sublist.refl _).cons _).cons_cons _).cons_cons _).cons_cons _, List.Sublist.refl _, ?_⟩
     refine WD.take 10 rfl rfl rfl (by kernel_rfl) (by kernel_rfl) (by kernel_rfl) (ok_fieldB fd123_4 rfl) ?_
     refine WD.any [11] (by kernel_rfl) rfl ⟨⟨_, rfl, rfl, ?_⟩, trivial⟩
     refine W.store (i := 3) (vs := [.bool _]) (L' := [.int .i64 _, .int .i64 _, .string _, .string _, .bool _, .string _]) ty4 rfl rfl rfl rfl rfl rfl rfl rfl ?_
     refine W.nil ⟨Le.rfl, ((((List.Sublist.refl _).cons _).cons_cons _).cons_cons _).cons_cons _, _, ((((List.Sublist.refl _).cons _).cons_cons _).cons_cons _).cons_cons _, List.Sublist.refl _, ?_⟩
     refine WD.done (by kernel_rfl) (thn_n ?_)
     refine WC.seq ?_
     refine WC.region ?_
     refine W.ok (ok_loadB (i := 3) (vs := [.int .i64 _, .int .i64 _, .string _, .string _, .bool _, .string _]) ty123 rfl rfl rfl rfl (by simp)) ?_
     refine W.store (i := 1) (vs := [.int .i64 _, .int .i64 _, .string _, .string _, .bool _, .string _]) (L' := [.int .i64 _, .int .i64 _, .string _, .string _, .bool _, .string _]) ty123 rfl rfl rfl rfl rfl rfl rfl rfl ?_
     refine W.as ?_
     refine W.nil (thn_n ?_)
     refine WC.ret ?_
     refine ⟨.inr rfl, [_, _], ⟨⟨_, _, _, _, _, rfl, nthM_mem (i := 1) rfl, ty123, (by simp), rfl, rfl⟩, rfl, trivial⟩, [], List.nil_sublist _, ?_⟩
     show Value.tuple #[Value.agg (List.toArray [_, _, _, _, _, _]), Value.bool _] = _
     rw [clip_4 (by simpa using h10) p14]; rfl
    ·refine W.alloc zr37 (fun b30 => ?_)
     refine W.nil ⟨Le.rfl, ((((List.Sublist.refl _).cons_cons _).cons_cons _).cons_cons _).cons _, _, ((((List.Sublist.refl _).cons_cons _).cons_cons _).cons_cons _).cons _, List.Sublist.refl _, ?_⟩
     refine WD.any [3] (by kernel_rfl) rfl ⟨⟨_, rfl, rfl, ?_⟩, trivial⟩
     refine W.qcall (smeet_fc _ _ _ _ _ _) rfl ?_
     refine W.nil ⟨Le.rfl, ((((List.Sublist.refl _).cons_cons _).cons_cons _).cons_cons _).cons _, _, ((((List.Sublist.refl _).cons_cons _).cons_cons _).cons_cons _).cons _, List.Sublist.refl _, ?_⟩
     refine WD.any [5] (by kernel_rfl) rfl ⟨⟨_, rfl, rfl, ?_⟩, trivial⟩
     refine W.store (i := 0) (vs := [.string _, .string _, .bool _]) (L' := [.string _, .string _, .bool _]) ty37 rfl rfl rfl rfl rfl rfl rfl rfl ?_
     refine W.nil ⟨Le.rfl, ((((List.Sublist.refl _).cons_cons _).cons_cons _).cons_cons _).cons _, _, ((((List.Sublist.refl _).cons_cons _).cons_cons _).cons_cons _).cons _, List.Sublist.refl _, ?_⟩
     refine WD.done (by kernel_rfl) (thn_n ?_)
     refine WC.drawW _ (((((List.Sublist.refl _).cons _).cons_cons _).cons_cons _).cons_cons _) mix (by rintro _ _ _ _ ⟨h | h, _⟩ <;> cases h) ?_
     refine WD.take 0 rfl rfl rfl (by kernel_rfl) (by kernel_rfl) (by kernel_rfl) (ok_fieldB fd37_0 rfl) ?_
     refine WD.take 1 rfl rfl rfl (by kernel_rfl) (by kernel_rfl) (by kernel_rfl) (ok_loadB (i := 0) (vs := [.string _]) ty9 rfl rfl rfl rfl (by simp)) ?_
     refine WD.take 2 rfl rfl rfl (by kernel_rfl) (by kernel_rfl) (by kernel_rfl) (ok_fieldB fd37_1 rfl) ?_
     refine WD.take 3 rfl rfl rfl (by kernel_rfl) (by kernel_rfl) (by kernel_rfl) (ok_loadB (i := 0) (vs := [.string _]) ty9 rfl rfl rfl rfl (by simp)) ?_
     refine WD.take 4 rfl rfl rfl (by kernel_rfl) (by kernel_rfl) (by kernel_rfl) (ok_fieldB fd37_2 rfl) ?_
     refine WD.take 5 rfl rfl rfl (by kernel_rfl) (by kernel_rfl) (by kernel_rfl) (ok_loadB (i := 0) (vs := [.bool _]) ty4 rfl rfl rfl rfl (by simp)) ?_
     refine WD.take 6 rfl rfl rfl (by kernel_rfl) (by kernel_rfl) (by kernel_rfl) (ok_fieldB fd123_2 rfl) ?_
     refine WD.any [7] (by kernel_rfl) rfl ⟨⟨_, rfl, rfl, ?_⟩, trivial⟩
     refine W.store (i := 3) (vs := [.string _]) (L' := [.int .i64 _, .int .i64 _, .string _, .string _, .bool _, .string _]) ty9 rfl rfl rfl rfl rfl rfl rfl rfl ?_
     refine W.nil ⟨Le.rfl, ((((List.Sublist.refl _).cons _).cons_cons _).cons_cons _).cons_cons _, _, ((((List.Sublist.refl _).cons _).cons_cons _).cons_cons _).cons_cons _, List.Sublist.refl _, ?_⟩
     refine WD.take 8 rfl rfl rfl (by kernel_rfl) (by kernel_rfl) (by kernel_rfl) (ok_fieldB fd123_3 rfl) ?_
     refine WD.any [9] (by kernel_rfl) rfl ⟨⟨_, rfl, rfl, ?_⟩, trivial⟩
     refine W.store (i := 3) (vs := [.string _]) (L' := [.int .i64 _, .int .i64 _, .string _, .string _, .bool _, .string _]) ty9 rfl rfl rfl rfl rfl rfl rfl rfl ?_
     refine W.nil ⟨Le.rfl, ((((List.Sublist.refl _).cons _).cons_cons _).cons_cons _).cons_cons _, _, ((((List.Sublist.refl _).cons _).cons_cons _).cons_cons _).cons_cons _, List.Sublist.refl _, ?_⟩
     refine WD.take 10 rfl rfl rfl (by kernel_rfl) (by kernel_rfl) (by kernel_rfl) (ok_fieldB fd123_4 rfl) ?_
     refine WD.any [11] (by kernel_rfl) rfl ⟨⟨_, rfl, rfl, ?_⟩, trivial⟩
     refine W.store (i := 3) (vs := [.bool _]) (L' := [.int .i64 _, .int .i64 _, .string _, .string _, .bool _, .string _]) ty4 rfl rfl rfl rfl rfl rfl rfl rfl ?_
     refine W.nil ⟨Le.rfl, ((((List.Sublist.refl _).cons _).cons_cons _).cons_cons _).cons_cons _, _, ((((List.Sublist.refl _).cons _).cons_cons _).cons_cons _).cons_cons _, List.Sublist.refl _, ?_⟩
     refine WD.done (by kernel_rfl) (thn_n ?_)
     refine WC.seq ?_
     refine WC.region ?_
     refine W.ok (ok_loadB (i := 3) (vs := [.int .i64 _, .int .i64 _, .string _, .string _, .bool _, .string _]) ty123 rfl rfl rfl rfl (by simp)) ?_
     refine W.store (i := 1) (vs := [.int .i64 _, .int .i64 _, .string _, .string _, .bool _, .string _]) (L' := [.int .i64 _, .int .i64 _, .string _, .string _, .bool _, .string _]) ty123 rfl rfl rfl rfl rfl rfl rfl rfl ?_
     refine W.as ?_
     refine W.nil (thn_n ?_)
     refine WC.ret ?_
     refine ⟨.inr rfl, [_, _], ⟨⟨_, _, _, _, _, rfl, nthM_mem (i := 1) rfl, ty123, (by simp), rfl, rfl⟩, rfl, trivial⟩, [], List.nil_sublist _, ?_⟩
     show Value.tuple #[Value.agg (List.toArray [_, _, _, _, _, _]), Value.bool _] = _
     rw [clip_4 (by simpa using h10) p14]; rfl
   ·refine W.alloc zr37 (fun b31 => ?_)
    refine W.nil ⟨Le.rfl, ((((List.Sublist.refl _).cons_cons _).cons_cons _).cons_cons _).cons _, _, ((((List.Sublist.refl _).cons_cons _).cons_cons _).cons_cons _).cons _, List.Sublist.refl _, ?_⟩
    refine WD.any [1] (by kernel_rfl) rfl ⟨⟨_, rfl, rfl, ?_⟩, trivial⟩
    refine W.qcall (mspan_fc _ _ _ _ _ _ (by first | assumption | omega | (dsimp only; omega))) rfl ?_
    refine W.nil ⟨Le.rfl, ((((List.Sublist.refl _).cons_cons _).cons_cons _).cons_cons _).cons _, _, ((((List.Sublist.refl _).cons_cons _).cons_cons _).cons_cons _).cons _, List.Sublist.refl _, ?_⟩
    refine WD.any [3] (by kernel_rfl) rfl ⟨⟨_, rfl, rfl, ?_⟩, trivial⟩
    refine W.qcall (smeet_fc _ _ _ _ _ _) rfl ?_
    refine W.nil ⟨Le.rfl, ((((List.Sublist.refl _).cons_cons _).cons_cons _).cons_cons _).cons _, _, ((((List.Sublist.refl _).cons_cons _).cons_cons _).cons_cons _).cons _, List.Sublist.refl _, ?_⟩
    refine WD.any [5] (by kernel_rfl) rfl ⟨⟨_, rfl, rfl, ?_⟩, trivial⟩
    refine W.store (i := 0) (vs := [.string _, .string _, .bool _]) (L' := [.string _, .string _, .bool _]) ty37 rfl rfl rfl rfl rfl rfl rfl rfl ?_
    refine W.nil ⟨Le.rfl, ((((List.Sublist.refl _).cons_cons _).cons_cons _).cons_cons _).cons _, _, ((((List.Sublist.refl _).cons_cons _).cons_cons _).cons_cons _).cons _, List.Sublist.refl _, ?_⟩
    refine WD.done (by kernel_rfl) (thn_n ?_)
    refine WC.drawW _ (((((List.Sublist.refl _).cons _).cons_cons _).cons_cons _).cons_cons _) mix (by rintro _ _ _ _ ⟨h | h, _⟩ <;> cases h) ?_
    refine WD.take 0 rfl rfl rfl (by kernel_rfl) (by kernel_rfl) (by kernel_rfl) (ok_fieldB fd37_0 rfl) ?_
    refine WD.take 1 rfl rfl rfl (by kernel_rfl) (by kernel_rfl) (by kernel_rfl) (ok_loadB (i := 0) (vs := [.string _]) ty9 rfl rfl rfl rfl (by simp)) ?_
    refine WD.take 2 rfl rfl rfl (by kernel_rfl) (by kernel_rfl) (by kernel_rfl) (ok_fieldB fd37_1 rfl) ?_
    refine WD.take 3 rfl rfl rfl (by kernel_rfl) (by kernel_rfl) (by kernel_rfl) (ok_loadB (i := 0) (vs := [.string _]) ty9 rfl rfl rfl rfl (by simp)) ?_
    refine WD.take 4 rfl rfl rfl (by kernel_rfl) (by kernel_rfl) (by kernel_rfl) (ok_fieldB fd37_2 rfl) ?_
    refine WD.take 5 rfl rfl rfl (by kernel_rfl) (by kernel_rfl) (by kernel_rfl) (ok_loadB (i := 0) (vs := [.bool _]) ty4 rfl rfl rfl rfl (by simp)) ?_
    refine WD.take 6 rfl rfl rfl (by kernel_rfl) (by kernel_rfl) (by kernel_rfl) (ok_fieldB fd123_2 rfl) ?_
    refine WD.any [7] (by kernel_rfl) rfl ⟨⟨_, rfl, rfl, ?_⟩, trivial⟩
    refine W.store (i := 3) (vs := [.string _]) (L' := [.int .i64 _, .int .i64 _, .string _, .string _, .bool _, .string _]) ty9 rfl rfl rfl rfl rfl rfl rfl rfl ?_
    refine W.nil ⟨Le.rfl, ((((List.Sublist.refl _).cons _).cons_cons _).cons_cons _).cons_cons _, _, ((((List.Sublist.refl _).cons _).cons_cons _).cons_cons _).cons_cons _, List.Sublist.refl _, ?_⟩
    refine WD.take 8 rfl rfl rfl (by kernel_rfl) (by kernel_rfl) (by kernel_rfl) (ok_fieldB fd123_3 rfl) ?_
    refine WD.any [9] (by kernel_rfl) rfl ⟨⟨_, rfl, rfl, ?_⟩, trivial⟩
    refine W.store (i := 3) (vs := [.string _]) (L' := [.int .i64 _, .int .i64 _, .string _, .string _, .bool _, .string _]) ty9 rfl rfl rfl rfl rfl rfl rfl rfl ?_
    refine W.nil ⟨Le.rfl, ((((List.Sublist.refl _).cons _).cons_cons _).cons_cons _).cons_cons _, _, ((((List.Sublist.refl _).cons _).cons_cons _).cons_cons _).cons_cons _, List.Sublist.refl _, ?_⟩
    refine WD.take 10 rfl rfl rfl (by kernel_rfl) (by kernel_rfl) (by kernel_rfl) (ok_fieldB fd123_4 rfl) ?_
    refine WD.any [11] (by kernel_rfl) rfl ⟨⟨_, rfl, rfl, ?_⟩, trivial⟩
    refine W.store (i := 3) (vs := [.bool _]) (L' := [.int .i64 _, .int .i64 _, .string _, .string _, .bool _, .string _]) ty4 rfl rfl rfl rfl rfl rfl rfl rfl ?_
    refine W.nil ⟨Le.rfl, ((((List.Sublist.refl _).cons _).cons_cons _).cons_cons _).cons_cons _, _, ((((List.Sublist.refl _).cons _).cons_cons _).cons_cons _).cons_cons _, List.Sublist.refl _, ?_⟩
    refine WD.done (by kernel_rfl) (thn_n ?_)
    refine WC.seq ?_
    refine WC.region ?_
    refine W.ok (ok_loadB (i := 3) (vs := [.int .i64 _, .int .i64 _, .string _, .string _, .bool _, .string _]) ty123 rfl rfl rfl rfl (by simp)) ?_
    refine W.store (i := 1) (vs := [.int .i64 _, .int .i64 _, .string _, .string _, .bool _, .string _]) (L' := [.int .i64 _, .int .i64 _, .string _, .string _, .bool _, .string _]) ty123 rfl rfl rfl rfl rfl rfl rfl rfl ?_
    refine W.as ?_
    refine W.nil (thn_n ?_)
    refine WC.ret ?_
    refine ⟨.inr rfl, [_, _], ⟨⟨_, _, _, _, _, rfl, nthM_mem (i := 1) rfl, ty123, (by simp), rfl, rfl⟩, rfl, trivial⟩, [], List.nil_sublist _, ?_⟩
    show Value.tuple #[Value.agg (List.toArray [_, _, _, _, _, _]), Value.bool _] = _
    rw [clip_4 (by simpa using h10) p14]; rfl
  ·have p14 := of_decide_eq_false h14
   refine WC.skip (thn_n ?_)
   refine WC.seq ?_
   refine WC.region ?_
   refine W.ok (ok_loadB (i := 2) (vs := [.int .i64 _, .int .i64 _, .string _, .string _, .bool _, .string _]) ty123 rfl rfl rfl rfl (by simp)) ?_
   refine W.store (i := 0) (vs := [.int .i64 _, .int .i64 _, .string _, .string _, .bool _, .string _]) (L' := [.int .i64 _, .int .i64 _, .string _, .string _, .bool _, .string _]) ty123 rfl rfl rfl rfl rfl rfl rfl rfl ?_
   refine W.as ?_
   refine W.nil (thn_n ?_)
   refine WC.ret ?_
   refine ⟨.inr rfl, [_, _], ⟨⟨_, _, _, _, _, rfl, nthM_mem (i := 0) rfl, ty123, (by simp), rfl, rfl⟩, rfl, trivial⟩, [], List.nil_sublist _, ?_⟩
   show Value.tuple #[Value.agg (List.toArray [_, _, _, _, _, _]), Value.bool _] = _
   rw [clip_n (by simpa using h10) p14]; rfl

end Go.Proofs.Ytebkfinhhpelbaa
