/- Walks of functions on spans and messages. -/
import Derived.Test.YtmbafmifalppaaaGreatQcW1
set_option maxRecDepth 100000
set_option maxHeartbeats 1600000
set_option linter.unusedVariables false
set_option linter.unusedSimpArgs false
set_option linter.unnecessarySimpa false
namespace Go.Proofs.YtmbafmifalppaaaGreat
open Go Go.Fw Go.RowKit
def S_0 : Str := ⟨⟨#[0]⟩, by decide⟩
theorem rmeet_fc {G : GH} (alo : Str) (ahi : Str) (ao : Bool) (blo : Str) (bhi : Str) (bo : Bool) :
    Fc Tryz.prog 55 [.agg #[.string alo.b, .string ahi.b, .bool ao], .agg #[.string blo.b, .string bhi.b, .bool bo]] G [] (fun v _ _ => v = .agg (List.toArray ((Span.meet ⟨alo, ahi, ao⟩ ⟨blo, bhi, bo⟩ : Span).cells))) := by
 refine Fc.intro (rs := [.cell 4 45]) cl55 Tryz.func55 rfl Tryz.ntmps55 rfl rfl (fun w0 => ?_)
 refine WC.seq (WC.region (W.box (L := [.string _, .string _, .bool _]) rfl rfl (fun b1 => (W.box (L := [.string _, .string _, .bool _]) rfl rfl (fun b2 => (W.alloc zr45 (fun b3 => (W.nil (thn_n (WC.seq (WC.region (W.ok (ok_loadB (i := 2) (vs := [.string _, .string _, .bool _]) ty45 rfl rfl rfl rfl (by simp)) (W.alloc zr45 (fun b4 => (W.store (i := 0) (vs := [.string _, .string _, .bool _]) (L' := [.string _, .string _, .bool _]) ty45 rfl rfl rfl rfl rfl rfl rfl rfl (W.nil (thn_n (WC.seq (WC.seq ?_)))))))))))))))))))
 refine WC.region (W.ok (ok_fieldB fd45_0 rfl) (W.ok (ok_loadB (i := 3) (vs := [.string _]) ty9 rfl rfl rfl rfl (by simp)) (W.ok (ok_fieldB fd45_0 rfl) (W.ok (ok_loadB (i := 2) (vs := [.string _]) ty9 rfl rfl rfl rfl (by simp)) (W.qcall (less_fc _ _) rfl (W.nil (thn_n ?_)))))))
 refine WC.cond (b := _) rfl (fun h11 => ?_) (fun h11 => ?_)
 ·refine WC.region (W.ok (ok_fieldB fd45_0 rfl) (W.ok (ok_loadB (i := 2) (vs := [.string _]) ty9 rfl rfl rfl rfl (by simp)) (W.ok (ok_fieldB fd45_0 rfl) (W.store (i := 0) (vs := [.string _]) (L' := [.string _, .string _, .bool _]) ty9 rfl rfl rfl rfl rfl rfl rfl rfl (W.nil (thn_n (WC.seq (WC.seq (WC.region (W.ok (ok_fieldB fd45_2 rfl) (W.ok (ok_loadB (i := 2) (vs := [.bool _]) ty4 rfl rfl rfl rfl (by simp)) (W.ok (ok_not rfl) (W.mv ?_)))))))))))))
  refine W.sp 18 rfl (fun h17 => ?_) (fun h17 => ?_)
  ·refine W.yes (dj := 18) rfl rfl h17 (W.ok (ok_fieldB fd45_2 rfl) (W.yes (dj := 18) rfl rfl h17 (W.ok (ok_loadB (i := 3) (vs := [.bool _]) ty4 rfl rfl rfl rfl (by simp)) (W.yes (dj := 18) rfl rfl h17 (W.mv ?_)))))
   refine W.sp 21 rfl (fun ha_ao => ?_) (fun ha_ao => ?_)
   ·refine W.no (dj := 21) rfl rfl ha_ao (W.no (dj := 21) rfl rfl ha_ao (W.no (dj := 21) rfl rfl ha_ao (W.no (dj := 21) rfl rfl ha_ao (W.no (dj := 21) rfl rfl ha_ao (W.yes (dj := 18) rfl rfl h17 (W.ok (ok_pick_t rfl ha_ao) (W.ok (ok_pick_t rfl h17) (W.nil (thn_n (WC.cond_t rfl rfl (WC.seq (WC.region (W.ok (ok_fieldB fd45_2 rfl) (W.store (i := 0) (vs := [.bool _]) (L' := [.string _, .string _, .bool _]) ty4 rfl rfl rfl rfl rfl rfl rfl rfl ?_))))))))))))))
    refine W.nil (thn_n (WC.region (W.ok (ok_fieldB fd45_1 rfl) (W.ok (ok_loadB (i := 2) (vs := [.string _]) ty9 rfl rfl rfl rfl (by simp)) (W.ok (ok_fieldB fd45_1 rfl) (W.store (i := 0) (vs := [.string _]) (L' := [.string _, .string _, .bool _]) ty9 rfl rfl rfl rfl rfl rfl rfl rfl (W.nil (thn_n (WC.seq (WC.region (W.ok (ok_loadB (i := 0) (vs := [.string _, .string _, .bool _]) ty45 rfl rfl rfl rfl (by simp)) (W.qcall (norm_fc _ _ _) rfl (W.store (i := 1) (vs := [.string _, .string _, .bool _]) (L' := [.string _, .string _, .bool _]) ty45 rfl rfl rfl rfl rfl rfl rfl rfl (W.nil (thn_n (WC.ret ?_))))))))))))))))
    refine ⟨.inr rfl, [_], ⟨⟨_, _, _, _, _, rfl, nthM_mem (i := 1) rfl, ty45, (by simp), rfl, rfl⟩, trivial⟩, [], sn9, ?_⟩
    refine congrArg (fun l => Value.agg (List.toArray l)) ?_
    show [Value.string _, Value.string _, Value.bool _] = _
    simp_all [Span.meet, setAt] <;> rfl
   refine W.yes (dj := 21) rfl rfl ha_ao (W.ok (ok_fieldB fd45_1 rfl) (W.yes (dj := 21) rfl rfl ha_ao (W.ok (ok_loadB (i := 2) (vs := [.string _]) ty9 rfl rfl rfl rfl (by simp)) (W.yes (dj := 21) rfl rfl ha_ao (W.ok (ok_fieldB fd45_1 rfl) (W.yes (dj := 21) rfl rfl ha_ao (W.ok (ok_loadB (i := 3) (vs := [.string _]) ty9 rfl rfl rfl rfl (by simp)) (W.yes (dj := 21) rfl rfl ha_ao (W.qcall (less_fc _ _) rfl (W.yes (dj := 18) rfl rfl h17 (W.ok (ok_pick_f rfl ha_ao) (W.ok (ok_pick_t rfl h17) (W.nil (thn_n ?_))))))))))))))
   refine WC.cond (b := _) rfl (fun h26 => ?_) (fun h26 => ?_)
   ·refine WC.seq (WC.region (W.ok (ok_fieldB fd45_2 rfl) (W.store (i := 0) (vs := [.bool _]) (L' := [.string _, .string _, .bool _]) ty4 rfl rfl rfl rfl rfl rfl rfl rfl (W.nil (thn_n (WC.region (W.ok (ok_fieldB fd45_1 rfl) (W.ok (ok_loadB (i := 2) (vs := [.string _]) ty9 rfl rfl rfl rfl (by simp)) (W.ok (ok_fieldB fd45_1 rfl) (W.store (i := 0) (vs := [.string _]) (L' := [.string _, .string _, .bool _]) ty9 rfl rfl rfl rfl rfl rfl rfl rfl (W.nil (thn_n (WC.seq (WC.region (W.ok (ok_loadB (i := 0) (vs := [.string _, .string _, .bool _]) ty45 rfl rfl rfl rfl (by simp)) ?_)))))))))))))))
    refine W.qcall (norm_fc _ _ _) rfl (W.store (i := 1) (vs := [.string _, .string _, .bool _]) (L' := [.string _, .string _, .bool _]) ty45 rfl rfl rfl rfl rfl rfl rfl rfl (W.nil (thn_n (WC.ret ?_))))
    refine ⟨.inr rfl, [_], ⟨⟨_, _, _, _, _, rfl, nthM_mem (i := 1) rfl, ty45, (by simp), rfl, rfl⟩, trivial⟩, [], sn9, ?_⟩
    refine congrArg (fun l => Value.agg (List.toArray l)) ?_
    show [Value.string _, Value.string _, Value.bool _] = _
    simp_all [Span.meet, setAt] <;> rfl
   refine WC.skip (thn_n (WC.seq (WC.region (W.ok (ok_loadB (i := 0) (vs := [.string _, .string _, .bool _]) ty45 rfl rfl rfl rfl (by simp)) (W.qcall (norm_fc _ _ _) rfl (W.store (i := 1) (vs := [.string _, .string _, .bool _]) (L' := [.string _, .string _, .bool _]) ty45 rfl rfl rfl rfl rfl rfl rfl rfl (W.nil (thn_n (WC.ret ?_)))))))))
   refine ⟨.inr rfl, [_], ⟨⟨_, _, _, _, _, rfl, nthM_mem (i := 1) rfl, ty45, (by simp), rfl, rfl⟩, trivial⟩, [], sn9, ?_⟩
   refine congrArg (fun l => Value.agg (List.toArray l)) ?_
   show [Value.string _, Value.string _, Value.bool _] = _
   simp_all [Span.meet, setAt] <;> rfl
  refine W.no (dj := 18) rfl rfl h17 (W.no (dj := 18) rfl rfl h17 (W.no (dj := 18) rfl rfl h17 (W.nou (dj := 21) rfl rfl (W.nou (dj := 21) rfl rfl (W.nou (dj := 21) rfl rfl (W.nou (dj := 21) rfl rfl (W.nou (dj := 21) rfl rfl (W.no (dj := 18) rfl rfl h17 (W.ok (ok_pick_f rfl h17) (W.nil (thn_n (WC.cond_f rfl rfl (WC.skip (thn_n (WC.seq ?_)))))))))))))))
  refine WC.region (W.ok (ok_loadB (i := 0) (vs := [.string _, .string _, .bool _]) ty45 rfl rfl rfl rfl (by simp)) (W.qcall (norm_fc _ _ _) rfl (W.store (i := 1) (vs := [.string _, .string _, .bool _]) (L' := [.string _, .string _, .bool _]) ty45 rfl rfl rfl rfl rfl rfl rfl rfl (W.nil (thn_n (WC.ret ?_))))))
  refine ⟨.inr rfl, [_], ⟨⟨_, _, _, _, _, rfl, nthM_mem (i := 1) rfl, ty45, (by simp), rfl, rfl⟩, trivial⟩, [], sn9, ?_⟩
  refine congrArg (fun l => Value.agg (List.toArray l)) ?_
  show [Value.string _, Value.string _, Value.bool _] = _
  simp_all [Span.meet, setAt] <;> rfl
 refine WC.skip (thn_n (WC.seq (WC.seq (WC.region (W.ok (ok_fieldB fd45_2 rfl) (W.ok (ok_loadB (i := 2) (vs := [.bool _]) ty4 rfl rfl rfl rfl (by simp)) (W.ok (ok_not rfl) (W.mv ?_))))))))
 refine W.sp 18 rfl (fun h17 => ?_) (fun h17 => ?_)
 ·refine W.yes (dj := 18) rfl rfl h17 (W.ok (ok_fieldB fd45_2 rfl) (W.yes (dj := 18) rfl rfl h17 (W.ok (ok_loadB (i := 3) (vs := [.bool _]) ty4 rfl rfl rfl rfl (by simp)) (W.yes (dj := 18) rfl rfl h17 (W.mv ?_)))))
  refine W.sp 21 rfl (fun ha_ao => ?_) (fun ha_ao => ?_)
  ·refine W.no (dj := 21) rfl rfl ha_ao (W.no (dj := 21) rfl rfl ha_ao (W.no (dj := 21) rfl rfl ha_ao (W.no (dj := 21) rfl rfl ha_ao (W.no (dj := 21) rfl rfl ha_ao (W.yes (dj := 18) rfl rfl h17 (W.ok (ok_pick_t rfl ha_ao) (W.ok (ok_pick_t rfl h17) (W.nil (thn_n (WC.cond_t rfl rfl (WC.seq (WC.region (W.ok (ok_fieldB fd45_2 rfl) (W.store (i := 0) (vs := [.bool _]) (L' := [.string _, .string _, .bool _]) ty4 rfl rfl rfl rfl rfl rfl rfl rfl ?_))))))))))))))
   refine W.nil (thn_n (WC.region (W.ok (ok_fieldB fd45_1 rfl) (W.ok (ok_loadB (i := 2) (vs := [.string _]) ty9 rfl rfl rfl rfl (by simp)) (W.ok (ok_fieldB fd45_1 rfl) (W.store (i := 0) (vs := [.string _]) (L' := [.string _, .string _, .bool _]) ty9 rfl rfl rfl rfl rfl rfl rfl rfl (W.nil (thn_n (WC.seq (WC.region (W.ok (ok_loadB (i := 0) (vs := [.string _, .string _, .bool _]) ty45 rfl rfl rfl rfl (by simp)) (W.qcall (norm_fc _ _ _) rfl (W.store (i := 1) (vs := [.string _, .string _, .bool _]) (L' := [.string _, .string _, .bool _]) ty45 rfl rfl rfl rfl rfl rfl rfl rfl (W.nil (thn_n (WC.ret ?_))))))))))))))))
   refine ⟨.inr rfl, [_], ⟨⟨_, _, _, _, _, rfl, nthM_mem (i := 1) rfl, ty45, (by simp), rfl, rfl⟩, trivial⟩, [], sn9, ?_⟩
   refine congrArg (fun l => Value.agg (List.toArray l)) ?_
   show [Value.string _, Value.string _, Value.bool _] = _
   simp_all [Span.meet, setAt] <;> rfl
  refine W.yes (dj := 21) rfl rfl ha_ao (W.ok (ok_fieldB fd45_1 rfl) (W.yes (dj := 21) rfl rfl ha_ao (W.ok (ok_loadB (i := 2) (vs := [.string _]) ty9 rfl rfl rfl rfl (by simp)) (W.yes (dj := 21) rfl rfl ha_ao (W.ok (ok_fieldB fd45_1 rfl) (W.yes (dj := 21) rfl rfl ha_ao (W.ok (ok_loadB (i := 3) (vs := [.string _]) ty9 rfl rfl rfl rfl (by simp)) (W.yes (dj := 21) rfl rfl ha_ao (W.qcall (less_fc _ _) rfl (W.yes (dj := 18) rfl rfl h17 (W.ok (ok_pick_f rfl ha_ao) (W.ok (ok_pick_t rfl h17) (W.nil (thn_n ?_))))))))))))))
  refine WC.cond (b := _) rfl (fun h26 => ?_) (fun h26 => ?_)
  ·refine WC.seq (WC.region (W.ok (ok_fieldB fd45_2 rfl) (W.store (i := 0) (vs := [.bool _]) (L' := [.string _, .string _, .bool _]) ty4 rfl rfl rfl rfl rfl rfl rfl rfl (W.nil (thn_n (WC.region (W.ok (ok_fieldB fd45_1 rfl) (W.ok (ok_loadB (i := 2) (vs := [.string _]) ty9 rfl rfl rfl rfl (by simp)) (W.ok (ok_fieldB fd45_1 rfl) (W.store (i := 0) (vs := [.string _]) (L' := [.string _, .string _, .bool _]) ty9 rfl rfl rfl rfl rfl rfl rfl rfl (W.nil (thn_n (WC.seq (WC.region (W.ok (ok_loadB (i := 0) (vs := [.string _, .string _, .bool _]) ty45 rfl rfl rfl rfl (by simp)) ?_)))))))))))))))
   refine W.qcall (norm_fc _ _ _) rfl (W.store (i := 1) (vs := [.string _, .string _, .bool _]) (L' := [.string _, .string _, .bool _]) ty45 rfl rfl rfl rfl rfl rfl rfl rfl (W.nil (thn_n (WC.ret ?_))))
   refine ⟨.inr rfl, [_], ⟨⟨_, _, _, _, _, rfl, nthM_mem (i := 1) rfl, ty45, (by simp), rfl, rfl⟩, trivial⟩, [], sn9, ?_⟩
   refine congrArg (fun l => Value.agg (List.toArray l)) ?_
   show [Value.string _, Value.string _, Value.bool _] = _
   simp_all [Span.meet, setAt] <;> rfl
  refine WC.skip (thn_n (WC.seq (WC.region (W.ok (ok_loadB (i := 0) (vs := [.string _, .string _, .bool _]) ty45 rfl rfl rfl rfl (by simp)) (W.qcall (norm_fc _ _ _) rfl (W.store (i := 1) (vs := [.string _, .string _, .bool _]) (L' := [.string _, .string _, .bool _]) ty45 rfl rfl rfl rfl rfl rfl rfl rfl (W.nil (thn_n (WC.ret ?_)))))))))
  refine ⟨.inr rfl, [_], ⟨⟨_, _, _, _, _, rfl, nthM_mem (i := 1) rfl, ty45, (by simp), rfl, rfl⟩, trivial⟩, [], sn9, ?_⟩
  refine congrArg (fun l => Value.agg (List.toArray l)) ?_
  show [Value.string _, Value.string _, Value.bool _] = _
  simp_all [Span.meet, setAt] <;> rfl
 refine W.no (dj := 18) rfl rfl h17 (W.no (dj := 18) rfl rfl h17 (W.no (dj := 18) rfl rfl h17 (W.nou (dj := 21) rfl rfl (W.nou (dj := 21) rfl rfl (W.nou (dj := 21) rfl rfl (W.nou (dj := 21) rfl rfl (W.nou (dj := 21) rfl rfl (W.no (dj := 18) rfl rfl h17 (W.ok (ok_pick_f rfl h17) (W.nil (thn_n (WC.cond_f rfl rfl (WC.skip (thn_n (WC.seq ?_)))))))))))))))
 refine WC.region (W.ok (ok_loadB (i := 0) (vs := [.string _, .string _, .bool _]) ty45 rfl rfl rfl rfl (by simp)) (W.qcall (norm_fc _ _ _) rfl (W.store (i := 1) (vs := [.string _, .string _, .bool _]) (L' := [.string _, .string _, .bool _]) ty45 rfl rfl rfl rfl rfl rfl rfl rfl (W.nil (thn_n (WC.ret ?_))))))
 refine ⟨.inr rfl, [_], ⟨⟨_, _, _, _, _, rfl, nthM_mem (i := 1) rfl, ty45, (by simp), rfl, rfl⟩, trivial⟩, [], sn9, ?_⟩
 refine congrArg (fun l => Value.agg (List.toArray l)) ?_
 show [Value.string _, Value.string _, Value.bool _] = _
 simp_all [Span.meet, setAt] <;> rfl

theorem smeet_fc {G : GH} (alo : Str) (ahi : Str) (ao : Bool) (blo : Str) (bhi : Str) (bo : Bool) :
    Fc Tryz.prog 180 [.agg #[.string alo.b, .string ahi.b, .bool ao], .agg #[.string blo.b, .string bhi.b, .bool bo]] G [] (fun v _ _ => v = .agg (List.toArray ((Span.meet ⟨alo, ahi, ao⟩ ⟨blo, bhi, bo⟩ : Span).cells))) := by
 refine Fc.intro (rs := [.cell 4 45]) cl180 Tryz.func180 rfl Tryz.ntmps180 rfl rfl (fun w0 => ?_)
 refine WC.seq (WC.region (W.box (L := [.string _, .string _, .bool _]) rfl rfl (fun b5 => (W.box (L := [.string _, .string _, .bool _]) rfl rfl (fun b6 => (W.alloc zr45 (fun b7 => (W.nil (thn_n (WC.seq (WC.region (W.ok (ok_fieldB fd45_0 rfl) (W.ok (ok_loadB (i := 2) (vs := [.string _]) ty9 rfl rfl rfl rfl (by simp)) (W.ok (ok_fieldB fd45_0 rfl) (W.ok (ok_loadB (i := 1) (vs := [.string _]) ty9 rfl rfl rfl rfl (by simp)) (W.ok (ok_maxS rfl rfl) (W.ok (ok_fieldB fd45_2 rfl) ?_)))))))))))))))))
 refine W.ok (ok_loadB (i := 2) (vs := [.bool _]) ty4 rfl rfl rfl rfl (by simp)) (W.mv ?_)
 refine W.sp 13 rfl (fun ha_ao => ?_) (fun ha_ao => ?_)
 ·refine W.yes (dj := 13) rfl rfl ha_ao (W.ok (ok_fieldB fd45_2 rfl) (W.yes (dj := 13) rfl rfl ha_ao (W.ok (ok_loadB (i := 1) (vs := [.bool _]) ty4 rfl rfl rfl rfl (by simp)) (W.ok (ok_pick_t rfl ha_ao) (W.ok (ok_build (L := [.string _, .string _, .bool _]) pl45 zr45 rfl rfl rfl) (W.alloc zr45 (fun b8 => (W.store (i := 0) (vs := [.string _, .string _, .bool _]) (L' := [.string _, .string _, .bool _]) ty45 rfl rfl rfl rfl rfl rfl rfl rfl (W.nil (thn_n (WC.seq (WC.block (WC.seq (WC.region (W.ok (ok_fieldB fd45_2 rfl) ?_)))))))))))))))
  refine W.ok (ok_loadB (i := 3) (vs := [.bool _]) ty4 rfl rfl rfl rfl (by simp)) (W.as (W.nil (thn_n (WC.cond_t rfl ha_ao (WC.region (W.ok (ok_fieldB fd45_1 rfl) (W.ok (ok_loadB (i := 2) (vs := [.string _]) ty9 rfl rfl rfl rfl (by simp)) (W.ok (ok_fieldB fd45_1 rfl) (W.store (i := 0) (vs := [.string _]) (L' := [.string _, .string _, .bool _]) ty9 rfl rfl rfl rfl rfl rfl rfl rfl (W.nil (blk_n (thn_n (WC.seq (WC.region (W.ok (ok_loadB (i := 0) (vs := [.string _, .string _, .bool _]) ty45 rfl rfl rfl rfl (by simp)) (W.qcall (spannorm_fc _ _ _) rfl ?_))))))))))))))))
  refine W.store (i := 1) (vs := [.string _, .string _, .bool _]) (L' := [.string _, .string _, .bool _]) ty45 rfl rfl rfl rfl rfl rfl rfl rfl (W.nil (thn_n (WC.ret ?_)))
  refine ⟨.inr rfl, [_], ⟨⟨_, _, _, _, _, rfl, nthM_mem (i := 1) rfl, ty45, (by simp), rfl, rfl⟩, trivial⟩, [], sn9, ?_⟩
  refine congrArg (fun l => Value.agg (List.toArray l)) ?_
  show [Value.string _, Value.string _, Value.bool _] = _
  rw [← smeet_eq]
  simp_all [setAt] <;> rfl
 refine W.no (dj := 13) rfl rfl ha_ao (W.no (dj := 13) rfl rfl ha_ao (W.ok (ok_pick_f rfl ha_ao) (W.ok (ok_build (L := [.string _, .string _, .bool _]) pl45 zr45 rfl rfl rfl) (W.alloc zr45 (fun b9 => (W.store (i := 0) (vs := [.string _, .string _, .bool _]) (L' := [.string _, .string _, .bool _]) ty45 rfl rfl rfl rfl rfl rfl rfl rfl (W.nil (thn_n (WC.seq (WC.block (WC.seq (WC.region (W.ok (ok_fieldB fd45_2 rfl) (W.ok (ok_loadB (i := 3) (vs := [.bool _]) ty4 rfl rfl rfl rfl (by simp)) (W.as ?_)))))))))))))))
 refine W.nil (thn_n (WC.cond_f rfl ha_ao (WC.seq (WC.region (W.ok (ok_fieldB fd45_2 rfl) (W.ok (ok_loadB (i := 2) (vs := [.bool _]) ty4 rfl rfl rfl rfl (by simp)) (W.as (W.nil (thn_n ?_)))))))))
 refine WC.cond (b := _) rfl (fun ha_bo => ?_) (fun ha_bo => ?_)
 ·refine WC.region (W.ok (ok_fieldB fd45_1 rfl) (W.ok (ok_loadB (i := 3) (vs := [.string _]) ty9 rfl rfl rfl rfl (by simp)) (W.ok (ok_fieldB fd45_1 rfl) (W.store (i := 0) (vs := [.string _]) (L' := [.string _, .string _, .bool _]) ty9 rfl rfl rfl rfl rfl rfl rfl rfl (W.nil (blk_n (thn_n (WC.seq (WC.region (W.ok (ok_loadB (i := 0) (vs := [.string _, .string _, .bool _]) ty45 rfl rfl rfl rfl (by simp)) (W.qcall (spannorm_fc _ _ _) rfl (W.store (i := 1) (vs := [.string _, .string _, .bool _]) (L' := [.string _, .string _, .bool _]) ty45 rfl rfl rfl rfl rfl rfl rfl rfl (W.nil (thn_n (WC.ret ?_)))))))))))))))
  refine ⟨.inr rfl, [_], ⟨⟨_, _, _, _, _, rfl, nthM_mem (i := 1) rfl, ty45, (by simp), rfl, rfl⟩, trivial⟩, [], sn9, ?_⟩
  refine congrArg (fun l => Value.agg (List.toArray l)) ?_
  show [Value.string _, Value.string _, Value.bool _] = _
  rw [← smeet_eq]
  simp_all [setAt] <;> rfl
 refine WC.region (W.ok (ok_fieldB fd45_1 rfl) (W.ok (ok_loadB (i := 3) (vs := [.string _]) ty9 rfl rfl rfl rfl (by simp)) (W.ok (ok_fieldB fd45_1 rfl) (W.ok (ok_loadB (i := 2) (vs := [.string _]) ty9 rfl rfl rfl rfl (by simp)) (W.ok (ok_minS rfl rfl) (W.ok (ok_fieldB fd45_1 rfl) (W.store (i := 0) (vs := [.string _]) (L' := [.string _, .string _, .bool _]) ty9 rfl rfl rfl rfl rfl rfl rfl rfl (W.nil (blk_n (thn_n (WC.seq (WC.region (W.ok (ok_loadB (i := 0) (vs := [.string _, .string _, .bool _]) ty45 rfl rfl rfl rfl (by simp)) (W.qcall (spannorm_fc _ _ _) rfl (W.store (i := 1) (vs := [.string _, .string _, .bool _]) (L' := [.string _, .string _, .bool _]) ty45 rfl rfl rfl rfl rfl rfl rfl rfl ?_)))))))))))))))
 refine W.nil (thn_n (WC.ret ?_))
 refine ⟨.inr rfl, [_], ⟨⟨_, _, _, _, _, rfl, nthM_mem (i := 1) rfl, ty45, (by simp), rfl, rfl⟩, trivial⟩, [], sn9, ?_⟩
 refine congrArg (fun l => Value.agg (List.toArray l)) ?_
 show [Value.string _, Value.string _, Value.bool _] = _
 rw [← smeet_eq]
 simp_all [setAt] <;> rfl

theorem knext_fc {G : GH} (k : Str) (hk : k.b.size < 140737488355328) :
    Fc Tryz.prog 189 [.string k.b] G [] (fun v _ _ => v = .string (Str.b (k.next))) := by
 refine Fc.intro (rs := [.tmp 2]) cl189 Tryz.func189 rfl Tryz.ntmps189 rfl rfl (fun w0 => ?_)
 refine WC.seq (WC.region (W.as (W.nil (thn_n (WC.seq (WC.region (W.mv (W.ok (ok_addS rfl rfl (by show _ + 1 ≤ _; omega)) (W.as (W.nil (thn_n (WC.ret ?_))))))))))))
 refine ⟨.inr rfl, [_], ⟨rfl, trivial⟩, [], sn9, ?_⟩
 refine congrArg Value.string ?_
 exact (Str.next_b hk).symm

theorem point_fc {G : GH} (k : Str) (hk : k.b.size < 140737488355328) :
    Fc Tryz.prog 149 [.string k.b] G [] (fun v _ _ => v = .agg (List.toArray ((⟨k, k.next, false⟩ : Span).cells))) := by
 refine Fc.intro (rs := [.cell 2 45]) cl149 Tryz.func149 rfl Tryz.ntmps149 rfl rfl (fun w0 => ?_)
 refine WC.seq (WC.region (W.alloc zr45 (fun b10 => (W.nil (thn_n (WC.seq (WC.region (W.mv (W.mv (W.qcall (knext_fc _ (by first | assumption | omega | (dsimp only; omega))) rfl (W.ok (ok_build (L := [.string _, .string _, .bool _]) pl45 zr45 rfl rfl rfl) (W.store (i := 0) (vs := [.string _, .string _, .bool _]) (L' := [.string _, .string _, .bool _]) ty45 rfl rfl rfl rfl rfl rfl rfl rfl (W.nil (thn_n (WC.ret ?_)))))))))))))))
 refine ⟨.inr rfl, [_], ⟨⟨_, _, _, _, _, rfl, nthM_mem (i := 0) rfl, ty45, (by simp), rfl, rfl⟩, trivial⟩, [], sn9, ?_⟩
 rfl

theorem mspan_fc {G : GH} (ms : Int) (mk : Int) (mkey : Str) (mhi : Str) (mo : Bool) (mv : Str) (hk : mkey.b.size < 140737488355328) :
    Fc Tryz.prog 199 [.agg #[.int .i64 ms, .int .i64 mk, .string mkey.b, .string mhi.b, .bool mo, .string mv.b]] G [] (fun v _ _ => v = .agg (List.toArray ((Msg.span (⟨ms, mk, mkey, mhi, mo, mv⟩ : Msg) : Span).cells))) := by
 refine Fc.intro (rs := [.cell 2 45]) cl199 Tryz.func199 rfl Tryz.ntmps199 rfl rfl (fun w0 => ?_)
 refine WC.seq (WC.region (W.box (L := [.int .i64 _, .int .i64 _, .string _, .string _, .bool _, .string _]) rfl rfl (fun b11 => (W.alloc zr45 (fun b12 => (W.nil (thn_n (WC.seq (WC.seq (WC.region (W.ok (ok_fieldB fd150_1 rfl) (W.ok (ok_loadB (i := 1) (vs := [.int .i64 _]) ty3 rfl rfl rfl rfl (by simp)) (W.ok (ok_eql rfl rfl) (W.nil (thn_n ?_)))))))))))))))
 refine WC.cond (b := _) rfl (fun h5 => ?_) (fun h5 => ?_)
 ·have p5 := of_decide_eq_true h5
  refine WC.seq (WC.region (W.ok (ok_fieldB fd150_2 rfl) (W.ok (ok_loadB (i := 1) (vs := [.string _]) ty9 rfl rfl rfl rfl (by simp)) (W.ok (ok_fieldB fd150_3 rfl) (W.ok (ok_loadB (i := 1) (vs := [.string _]) ty9 rfl rfl rfl rfl (by simp)) (W.ok (ok_fieldB fd150_4 rfl) (W.ok (ok_loadB (i := 1) (vs := [.bool _]) ty4 rfl rfl rfl rfl (by simp)) (W.ok (ok_build (L := [.string _, .string _, .bool _]) pl45 zr45 rfl rfl rfl) (W.store (i := 0) (vs := [.string _, .string _, .bool _]) (L' := [.string _, .string _, .bool _]) ty45 rfl rfl rfl rfl rfl rfl rfl rfl (W.nil (thn_n (WC.ret (thn_r ?_)))))))))))))
  refine ⟨.inr rfl, [_], ⟨⟨_, _, _, _, _, rfl, nthM_mem (i := 0) rfl, ty45, (by simp), rfl, rfl⟩, trivial⟩, [], sn9, ?_⟩
  refine congrArg (fun l => Value.agg (List.toArray l)) ?_
  rw [Msg.span, if_pos p5]; rfl
 have p5 := of_decide_eq_false h5
 refine WC.skip (thn_n (WC.seq (WC.region (W.ok (ok_fieldB fd150_2 rfl) (W.ok (ok_loadB (i := 1) (vs := [.string _]) ty9 rfl rfl rfl rfl (by simp)) (W.qcall (point_fc _ (by first | assumption | omega | (dsimp only; omega))) rfl (W.store (i := 0) (vs := [.string _, .string _, .bool _]) (L' := [.string _, .string _, .bool _]) ty45 rfl rfl rfl rfl rfl rfl rfl rfl (W.nil (thn_n (WC.ret ?_))))))))))
 refine ⟨.inr rfl, [_], ⟨⟨_, _, _, _, _, rfl, nthM_mem (i := 0) rfl, ty45, (by simp), rfl, rfl⟩, trivial⟩, [], sn9, ?_⟩
 refine congrArg (fun l => Value.agg (List.toArray l)) ?_
 rw [Msg.span, if_neg p5]; simp [Span.cells, Str.next_b hk, setAt]

theorem rspan_fc {G : GH} (ms : Int) (mk : Int) (mkey : Str) (mhi : Str) (mo : Bool) (mv : Str) (hk : mkey.b.size < 140737488355328) :
    Fc Tryz.prog 117 [.agg #[.int .i64 ms, .int .i64 mk, .string mkey.b, .string mhi.b, .bool mo, .string mv.b]] G [] (fun v _ _ => v = .agg (List.toArray ((Msg.span (⟨ms, mk, mkey, mhi, mo, mv⟩ : Msg) : Span).cells))) := by
 refine Fc.intro (rs := [.cell 2 45]) cl117 Tryz.func117 rfl Tryz.ntmps117 rfl rfl (fun w0 => ?_)
 refine WC.seq (WC.region (W.box (L := [.int .i64 _, .int .i64 _, .string _, .string _, .bool _, .string _]) rfl rfl (fun b13 => (W.alloc zr45 (fun b14 => (W.nil (thn_n (WC.seq (WC.seq (WC.region (W.ok (ok_fieldB fd150_1 rfl) (W.ok (ok_loadB (i := 1) (vs := [.int .i64 _]) ty3 rfl rfl rfl rfl (by simp)) (W.ok (ok_eql rfl rfl) (W.nil (thn_n ?_)))))))))))))))
 refine WC.cond (b := _) rfl (fun h5 => ?_) (fun h5 => ?_)
 ·have p5 := of_decide_eq_true h5
  refine WC.seq (WC.region (W.ok (ok_fieldB fd150_2 rfl) (W.ok (ok_loadB (i := 1) (vs := [.string _]) ty9 rfl rfl rfl rfl (by simp)) (W.ok (ok_fieldB fd150_3 rfl) (W.ok (ok_loadB (i := 1) (vs := [.string _]) ty9 rfl rfl rfl rfl (by simp)) (W.ok (ok_fieldB fd150_4 rfl) (W.ok (ok_loadB (i := 1) (vs := [.bool _]) ty4 rfl rfl rfl rfl (by simp)) (W.ok (ok_build (L := [.string _, .string _, .bool _]) pl45 zr45 rfl rfl rfl) (W.store (i := 0) (vs := [.string _, .string _, .bool _]) (L' := [.string _, .string _, .bool _]) ty45 rfl rfl rfl rfl rfl rfl rfl rfl (W.nil (thn_n (WC.ret (thn_r ?_)))))))))))))
  refine ⟨.inr rfl, [_], ⟨⟨_, _, _, _, _, rfl, nthM_mem (i := 0) rfl, ty45, (by simp), rfl, rfl⟩, trivial⟩, [], sn9, ?_⟩
  refine congrArg (fun l => Value.agg (List.toArray l)) ?_
  rw [Msg.span, if_pos p5]; rfl
 have p5 := of_decide_eq_false h5
 refine WC.skip (thn_n (WC.seq (WC.region (W.ok (ok_fieldB fd150_2 rfl) (W.ok (ok_loadB (i := 1) (vs := [.string _]) ty9 rfl rfl rfl rfl (by simp)) (W.ok (ok_fieldB fd150_2 rfl) (W.ok (ok_loadB (i := 1) (vs := [.string _]) ty9 rfl rfl rfl rfl (by simp)) (W.ok (ok_addS rfl rfl (by show _ + 1 ≤ _; omega)) (W.ok (ok_build (L := [.string _, .string _, .bool _]) pl45 zr45 rfl rfl rfl) (W.store (i := 0) (vs := [.string _, .string _, .bool _]) (L' := [.string _, .string _, .bool _]) ty45 rfl rfl rfl rfl rfl rfl rfl rfl (W.nil (thn_n (WC.ret ?_)))))))))))))
 refine ⟨.inr rfl, [_], ⟨⟨_, _, _, _, _, rfl, nthM_mem (i := 0) rfl, ty45, (by simp), rfl, rfl⟩, trivial⟩, [], sn9, ?_⟩
 refine congrArg (fun l => Value.agg (List.toArray l)) ?_
 rw [Msg.span, if_neg p5]; simp [Span.cells, Str.next_b hk, setAt]

theorem touch_fc {G : GH} (alo : Str) (ahi : Str) (ao : Bool) (blo : Str) (bhi : Str) (bo : Bool) :
    Fc Tryz.prog 214 [.agg #[.string alo.b, .string ahi.b, .bool ao], .agg #[.string blo.b, .string bhi.b, .bool bo]] G [] (fun v _ _ => v = .bool (!(Span.meet ⟨alo, ahi, ao⟩ ⟨blo, bhi, bo⟩).empty)) := by
 refine Fc.intro (rs := [.tmp 4]) cl214 Tryz.func214 rfl Tryz.ntmps214 rfl rfl (fun w0 => ?_)
 refine WC.seq (WC.region (W.box (L := [.string _, .string _, .bool _]) rfl rfl (fun b15 => (W.box (L := [.string _, .string _, .bool _]) rfl rfl (fun b16 => (W.as (W.nil (thn_n (WC.seq (WC.region (W.ok (ok_loadB (i := 1) (vs := [.string _, .string _, .bool _]) ty45 rfl rfl rfl rfl (by simp)) (W.ok (ok_loadB (i := 0) (vs := [.string _, .string _, .bool _]) ty45 rfl rfl rfl rfl (by simp)) (W.qcall (smeet_fc _ _ _ _ _ _) rfl (W.qcall (spanempty_fc _ _ _) rfl (W.ok (ok_not rfl) (W.as ?_))))))))))))))))
 refine W.nil (thn_n (WC.ret ?_))
 refine ⟨.inr rfl, [_], ⟨rfl, trivial⟩, [], sn9, ?_⟩
 rfl

theorem touches_fc {G : GH} (ms : Int) (mk : Int) (mkey : Str) (mhi : Str) (mo : Bool) (mv : Str) (alo : Str) (ahi : Str) (ao : Bool) (hk : mkey.b.size < 140737488355328) :
    Fc Tryz.prog 198 [.agg #[.int .i64 ms, .int .i64 mk, .string mkey.b, .string mhi.b, .bool mo, .string mv.b], .agg #[.string alo.b, .string ahi.b, .bool ao]] G [] (fun v _ _ => v = .bool (!((Msg.span (⟨ms, mk, mkey, mhi, mo, mv⟩ : Msg)).meet ⟨alo, ahi, ao⟩).empty)) := by
 refine Fc.intro (rs := [.tmp 4]) cl198 Tryz.func198 rfl Tryz.ntmps198 rfl rfl (fun w0 => ?_)
 refine WC.seq (WC.region (W.box (L := [.int .i64 _, .int .i64 _, .string _, .string _, .bool _, .string _]) rfl rfl (fun b17 => (W.box (L := [.string _, .string _, .bool _]) rfl rfl (fun b18 => (W.as (W.nil (thn_n (WC.seq (WC.draw mix (by kernel_rfl) (W.ok (ok_loadB (i := 1) (vs := [.int .i64 _, .int .i64 _, .string _, .string _, .bool _, .string _]) ty150 rfl rfl rfl rfl (by simp)) (W.qcall (mspan_fc _ _ _ _ _ _ (by first | assumption | omega | (dsimp only; omega))) rfl (W.ok (ok_loadB (i := 0) (vs := [.string _, .string _, .bool _]) ty45 rfl rfl rfl rfl (by simp)) (W.qcall (touch_fc _ _ _ _ _ _) rfl (W.as (W.nil (thn_n ?_)))))))))))))))))
 refine WC.ret ?_
 refine ⟨.inr rfl, [_], ⟨rfl, trivial⟩, [], sn9, ?_⟩
 rfl

theorem msize_fc {G : GH} (ms : Int) (mk : Int) (mkey : Str) (mhi : Str) (mo : Bool) (mv : Str) :
    Fc Tryz.prog 125 [.agg #[.int .i64 ms, .int .i64 mk, .string mkey.b, .string mhi.b, .bool mo, .string mv.b]] G [] (fun v _ _ => v = .int .i64 (Msg.size (⟨ms, mk, mkey, mhi, mo, mv⟩ : Msg))) := by
 have h1 := mkey.le
 have h2 := mv.le
 refine Fc.intro (rs := [.tmp 2]) cl125 Tryz.func125 rfl Tryz.ntmps125 rfl rfl (fun w0 => ?_)
 refine WC.seq (WC.region (W.box (L := [.int .i64 _, .int .i64 _, .string _, .string _, .bool _, .string _]) rfl rfl (fun b19 => (W.as (W.nil (thn_n (WC.seq (WC.seq (WC.region (W.ok (ok_fieldB fd150_1 rfl) (W.ok (ok_loadB (i := 0) (vs := [.int .i64 _]) ty3 rfl rfl rfl rfl (by simp)) (W.ok (ok_eql rfl rfl) (W.nil (thn_n ?_))))))))))))))
 refine WC.cond (b := _) rfl (fun h5 => ?_) (fun h5 => ?_)
 ·have p5 := of_decide_eq_true h5
  refine WC.seq (WC.region (W.as (W.nil (thn_n (WC.ret (thn_r ?_))))))
  refine ⟨.inr rfl, [_], ⟨rfl, trivial⟩, [], sn9, ?_⟩
  refine congrArg (Value.int .i64) ?_
  rw [Msg.size, if_pos p5]
 have p5 := of_decide_eq_false h5
 refine WC.skip (thn_n (WC.seq (WC.region (W.ok (ok_fieldB fd150_2 rfl) (W.ok (ok_loadB (i := 0) (vs := [.string _]) ty9 rfl rfl rfl rfl (by simp)) (W.ok (ok_lenS st9 rfl) (W.ok (ok_add rfl rfl (by omega)) (W.ok (ok_fieldB fd150_5 rfl) (W.ok (ok_loadB (i := 0) (vs := [.string _]) ty9 rfl rfl rfl rfl (by simp)) (W.ok (ok_lenS st9 rfl) (W.ok (ok_add rfl rfl (by omega)) (W.as (W.nil (thn_n (WC.ret ?_)))))))))))))))
 refine ⟨.inr rfl, [_], ⟨rfl, trivial⟩, [], sn9, ?_⟩
 refine congrArg (Value.int .i64) ?_
 rw [Msg.size, if_neg p5]

theorem rclip_fc {G : GH} (ms : Int) (mk : Int) (mkey : Str) (mhi : Str) (mo : Bool) (mv : Str) (alo : Str) (ahi : Str) (ao : Bool) (hk : mkey.b.size < 140737488355328) :
    Fc Tryz.prog 100 [.agg #[.int .i64 ms, .int .i64 mk, .string mkey.b, .string mhi.b, .bool mo, .string mv.b], .agg #[.string alo.b, .string ahi.b, .bool ao]] G [] (fun v _ _ => v = .tuple #[.agg (List.toArray ((Msg.clip (⟨ms, mk, mkey, mhi, mo, mv⟩ : Msg) ⟨alo, ahi, ao⟩).1.cells)), .bool ((Msg.clip (⟨ms, mk, mkey, mhi, mo, mv⟩ : Msg) ⟨alo, ahi, ao⟩).2)]) := by
 refine Fc.intro (rs := [.cell 4 150, .tmp 5]) cl100 Tryz.func100 rfl Tryz.ntmps100 rfl rfl (fun w0 => ?_)
 refine WC.seq (WC.region (W.box (L := [.int .i64 _, .int .i64 _, .string _, .string _, .bool _, .string _]) rfl rfl (fun b20 => (W.box (L := [.string _, .string _, .bool _]) rfl rfl (fun b21 => (W.alloc zr150 (fun b22 => (W.as (W.nil (thn_n (WC.seq (WC.drawW _ ((sr9.k9.k9).k9) mix (by rintro _ _ _ _ ⟨h | h, _⟩ <;> cases h) (WD.tk 0 rfl (ok_loadB (i := 2) (vs := [.int .i64 _, .int .i64 _, .string _, .string _, .bool _, .string _]) ty150 rfl rfl rfl rfl (by simp)) (WD.tk 2 rfl (ok_loadB (i := 1) (vs := [.string _, .string _, .bool _]) ty45 rfl rfl rfl rfl (by simp)) ?_))))))))))))))
 refine WD.any [1, 4] (by kernel_rfl) rfl ⟨⟨_, rfl, rfl, ?_⟩, ⟨_, rfl, rfl, ?_⟩, trivial⟩
 ·refine W.qcall (rspan_fc _ _ _ _ _ _ (by first | assumption | omega | (dsimp only; omega))) rfl (W.nil (WD.n9 Le.rfl ((sr9.k9.k9).k9) ?_))
  refine WD.any [3, 4] (by kernel_rfl) rfl ⟨⟨_, rfl, rfl, ?_⟩, ⟨_, rfl, rfl, ?_⟩, trivial⟩
  ·refine W.qcall (rmeet_fc _ _ _ _ _ _) rfl (W.nil (WD.n9 Le.rfl ((sr9.k9.k9).k9) (WD.a1 4 rfl (W.alloc zr45 (fun b23 => (W.nil (WD.n9 Le.rfl (((sr9.k9.k9).k9).cons _) (WD.a1 5 rfl (W.store (i := 0) (vs := [.string _, .string _, .bool _]) (L' := [.string _, .string _, .bool _]) ty45 rfl rfl rfl rfl rfl rfl rfl rfl (W.nil (WD.n9 Le.rfl (((sr9.k9.k9).k9).cons _) (WD.done (by kernel_rfl) (thn_n (WC.seq (WC.seq (WC.region (W.ok (ok_loadB (i := 0) (vs := [.string _, .string _, .bool _]) ty45 rfl rfl rfl rfl (by simp)) (W.qcall (empty_fc _ _ _) rfl ?_))))))))))))))))))
   refine W.nil (thn_n ?_)
   refine WC.cond (b := _) rfl (fun h12 => ?_) (fun h12 => ?_)
   ·refine WC.seq (WC.region (W.ok (ok_build (L := [.int .i64 _, .int .i64 _, .string _, .string _, .bool _, .string _]) pl150 zr150 rfl rfl rfl) (W.store (i := 1) (vs := [.int .i64 _, .int .i64 _, .string _, .string _, .bool _, .string _]) (L' := [.int .i64 _, .int .i64 _, .string _, .string _, .bool _, .string _]) ty150 rfl rfl rfl rfl rfl rfl rfl rfl (W.as (W.nil (thn_n (WC.ret (thn_r ?_))))))))
    refine ⟨.inr rfl, [_, _], ⟨⟨_, _, _, _, _, rfl, nthM_mem (i := 1) rfl, ty150, (by simp), rfl, rfl⟩, rfl, trivial⟩, [], sn9, ?_⟩
    show Value.tuple #[Value.agg (List.toArray [_, _, _, _, _, _]), Value.bool _] = _
    rw [clip_e h12]; rfl
   refine WC.skip (thn_n (WC.seq (WC.seq (WC.region (W.ok (ok_fieldB fd150_1 rfl) (W.ok (ok_loadB (i := 3) (vs := [.int .i64 _]) ty3 rfl rfl rfl rfl (by simp)) (W.ok (ok_eql rfl rfl) (W.nil (thn_n ?_)))))))))
   refine WC.cond (b := _) rfl (fun h16 => ?_) (fun h16 => ?_)
   ·have p16 := of_decide_eq_true h16
    refine WC.seq (WC.region (W.ok (ok_fieldB fd45_0 rfl) (W.ok (ok_loadB (i := 0) (vs := [.string _]) ty9 rfl rfl rfl rfl (by simp)) (W.ok (ok_fieldB fd150_2 rfl) (W.store (i := 3) (vs := [.string _]) (L' := [.int .i64 _, .int .i64 _, .string _, .string _, .bool _, .string _]) ty9 rfl rfl rfl rfl rfl rfl rfl rfl (W.nil (thn_n (WC.seq (WC.region (W.ok (ok_fieldB fd45_1 rfl) (W.ok (ok_loadB (i := 0) (vs := [.string _]) ty9 rfl rfl rfl rfl (by simp)) (W.ok (ok_fieldB fd150_3 rfl) (W.store (i := 3) (vs := [.string _]) (L' := [.int .i64 _, .int .i64 _, .string _, .string _, .bool _, .string _]) ty9 rfl rfl rfl rfl rfl rfl rfl rfl (W.nil (thn_n ?_)))))))))))))))
    refine WC.region (W.ok (ok_fieldB fd45_2 rfl) (W.ok (ok_loadB (i := 0) (vs := [.bool _]) ty4 rfl rfl rfl rfl (by simp)) (W.ok (ok_fieldB fd150_4 rfl) (W.store (i := 3) (vs := [.bool _]) (L' := [.int .i64 _, .int .i64 _, .string _, .string _, .bool _, .string _]) ty4 rfl rfl rfl rfl rfl rfl rfl rfl (W.nil (thn_n (WC.seq (WC.region (W.ok (ok_loadB (i := 3) (vs := [.int .i64 _, .int .i64 _, .string _, .string _, .bool _, .string _]) ty150 rfl rfl rfl rfl (by simp)) (W.store (i := 1) (vs := [.int .i64 _, .int .i64 _, .string _, .string _, .bool _, .string _]) (L' := [.int .i64 _, .int .i64 _, .string _, .string _, .bool _, .string _]) ty150 rfl rfl rfl rfl rfl rfl rfl rfl (W.as (W.nil (thn_n (WC.ret ?_))))))))))))))
    refine ⟨.inr rfl, [_, _], ⟨⟨_, _, _, _, _, rfl, nthM_mem (i := 1) rfl, ty150, (by simp), rfl, rfl⟩, rfl, trivial⟩, [], sn9, ?_⟩
    show Value.tuple #[Value.agg (List.toArray [_, _, _, _, _, _]), Value.bool _] = _
    rw [clip_4 h12 p16]; rfl
   have p16 := of_decide_eq_false h16
   refine WC.skip (thn_n (WC.seq (WC.region (W.ok (ok_loadB (i := 3) (vs := [.int .i64 _, .int .i64 _, .string _, .string _, .bool _, .string _]) ty150 rfl rfl rfl rfl (by simp)) (W.store (i := 1) (vs := [.int .i64 _, .int .i64 _, .string _, .string _, .bool _, .string _]) (L' := [.int .i64 _, .int .i64 _, .string _, .string _, .bool _, .string _]) ty150 rfl rfl rfl rfl rfl rfl rfl rfl (W.as (W.nil (thn_n (WC.ret ?_)))))))))
   refine ⟨.inr rfl, [_, _], ⟨⟨_, _, _, _, _, rfl, nthM_mem (i := 1) rfl, ty150, (by simp), rfl, rfl⟩, rfl, trivial⟩, [], sn9, ?_⟩
   show Value.tuple #[Value.agg (List.toArray [_, _, _, _, _, _]), Value.bool _] = _
   rw [clip_n h12 p16]; rfl
  refine W.alloc zr45 (fun b24 => (W.nil (WD.n9 Le.rfl (((sr9.k9.k9).k9).cons _) (WD.a1 3 rfl (W.qcall (rmeet_fc _ _ _ _ _ _) rfl (W.nil (WD.n9 Le.rfl (((sr9.k9.k9).k9).cons _) (WD.a1 5 rfl (W.store (i := 0) (vs := [.string _, .string _, .bool _]) (L' := [.string _, .string _, .bool _]) ty45 rfl rfl rfl rfl rfl rfl rfl rfl (W.nil (WD.n9 Le.rfl (((sr9.k9.k9).k9).cons _) (WD.done (by kernel_rfl) (thn_n (WC.seq (WC.seq (WC.region (W.ok (ok_loadB (i := 0) (vs := [.string _, .string _, .bool _]) ty45 rfl rfl rfl rfl (by simp)) (W.qcall (empty_fc _ _ _) rfl ?_))))))))))))))))))
  refine W.nil (thn_n ?_)
  refine WC.cond (b := _) rfl (fun h12 => ?_) (fun h12 => ?_)
  ·refine WC.seq (WC.region (W.ok (ok_build (L := [.int .i64 _, .int .i64 _, .string _, .string _, .bool _, .string _]) pl150 zr150 rfl rfl rfl) (W.store (i := 1) (vs := [.int .i64 _, .int .i64 _, .string _, .string _, .bool _, .string _]) (L' := [.int .i64 _, .int .i64 _, .string _, .string _, .bool _, .string _]) ty150 rfl rfl rfl rfl rfl rfl rfl rfl (W.as (W.nil (thn_n (WC.ret (thn_r ?_))))))))
   refine ⟨.inr rfl, [_, _], ⟨⟨_, _, _, _, _, rfl, nthM_mem (i := 1) rfl, ty150, (by simp), rfl, rfl⟩, rfl, trivial⟩, [], sn9, ?_⟩
   show Value.tuple #[Value.agg (List.toArray [_, _, _, _, _, _]), Value.bool _] = _
   rw [clip_e h12]; rfl
  refine WC.skip (thn_n (WC.seq (WC.seq (WC.region (W.ok (ok_fieldB fd150_1 rfl) (W.ok (ok_loadB (i := 3) (vs := [.int .i64 _]) ty3 rfl rfl rfl rfl (by simp)) (W.ok (ok_eql rfl rfl) (W.nil (thn_n ?_)))))))))
  refine WC.cond (b := _) rfl (fun h16 => ?_) (fun h16 => ?_)
  ·have p16 := of_decide_eq_true h16
   refine WC.seq (WC.region (W.ok (ok_fieldB fd45_0 rfl) (W.ok (ok_loadB (i := 0) (vs := [.string _]) ty9 rfl rfl rfl rfl (by simp)) (W.ok (ok_fieldB fd150_2 rfl) (W.store (i := 3) (vs := [.string _]) (L' := [.int .i64 _, .int .i64 _, .string _, .string _, .bool _, .string _]) ty9 rfl rfl rfl rfl rfl rfl rfl rfl (W.nil (thn_n (WC.seq (WC.region (W.ok (ok_fieldB fd45_1 rfl) (W.ok (ok_loadB (i := 0) (vs := [.string _]) ty9 rfl rfl rfl rfl (by simp)) (W.ok (ok_fieldB fd150_3 rfl) (W.store (i := 3) (vs := [.string _]) (L' := [.int .i64 _, .int .i64 _, .string _, .string _, .bool _, .string _]) ty9 rfl rfl rfl rfl rfl rfl rfl rfl (W.nil (thn_n ?_)))))))))))))))
   refine WC.region (W.ok (ok_fieldB fd45_2 rfl) (W.ok (ok_loadB (i := 0) (vs := [.bool _]) ty4 rfl rfl rfl rfl (by simp)) (W.ok (ok_fieldB fd150_4 rfl) (W.store (i := 3) (vs := [.bool _]) (L' := [.int .i64 _, .int .i64 _, .string _, .string _, .bool _, .string _]) ty4 rfl rfl rfl rfl rfl rfl rfl rfl (W.nil (thn_n (WC.seq (WC.region (W.ok (ok_loadB (i := 3) (vs := [.int .i64 _, .int .i64 _, .string _, .string _, .bool _, .string _]) ty150 rfl rfl rfl rfl (by simp)) (W.store (i := 1) (vs := [.int .i64 _, .int .i64 _, .string _, .string _, .bool _, .string _]) (L' := [.int .i64 _, .int .i64 _, .string _, .string _, .bool _, .string _]) ty150 rfl rfl rfl rfl rfl rfl rfl rfl (W.as (W.nil (thn_n (WC.ret ?_))))))))))))))
   refine ⟨.inr rfl, [_, _], ⟨⟨_, _, _, _, _, rfl, nthM_mem (i := 1) rfl, ty150, (by simp), rfl, rfl⟩, rfl, trivial⟩, [], sn9, ?_⟩
   show Value.tuple #[Value.agg (List.toArray [_, _, _, _, _, _]), Value.bool _] = _
   rw [clip_4 h12 p16]; rfl
  have p16 := of_decide_eq_false h16
  refine WC.skip (thn_n (WC.seq (WC.region (W.ok (ok_loadB (i := 3) (vs := [.int .i64 _, .int .i64 _, .string _, .string _, .bool _, .string _]) ty150 rfl rfl rfl rfl (by simp)) (W.store (i := 1) (vs := [.int .i64 _, .int .i64 _, .string _, .string _, .bool _, .string _]) (L' := [.int .i64 _, .int .i64 _, .string _, .string _, .bool _, .string _]) ty150 rfl rfl rfl rfl rfl rfl rfl rfl (W.as (W.nil (thn_n (WC.ret ?_)))))))))
  refine ⟨.inr rfl, [_, _], ⟨⟨_, _, _, _, _, rfl, nthM_mem (i := 1) rfl, ty150, (by simp), rfl, rfl⟩, rfl, trivial⟩, [], sn9, ?_⟩
  show Value.tuple #[Value.agg (List.toArray [_, _, _, _, _, _]), Value.bool _] = _
  rw [clip_n h12 p16]; rfl
 refine W.alloc zr45 (fun b25 => (W.nil (WD.n9 Le.rfl (((sr9.k9.k9).k9).cons _) (WD.a1 1 rfl (W.qcall (rspan_fc _ _ _ _ _ _ (by first | assumption | omega | (dsimp only; omega))) rfl (W.nil (WD.n9 Le.rfl (((sr9.k9.k9).k9).cons _) (WD.a1 3 rfl (W.qcall (rmeet_fc _ _ _ _ _ _) rfl (W.nil (WD.n9 Le.rfl (((sr9.k9.k9).k9).cons _) (WD.a1 5 rfl (W.store (i := 0) (vs := [.string _, .string _, .bool _]) (L' := [.string _, .string _, .bool _]) ty45 rfl rfl rfl rfl rfl rfl rfl rfl (W.nil (WD.n9 Le.rfl (((sr9.k9.k9).k9).cons _) (WD.done (by kernel_rfl) (thn_n (WC.seq (WC.seq ?_)))))))))))))))))))
 refine WC.region (W.ok (ok_loadB (i := 0) (vs := [.string _, .string _, .bool _]) ty45 rfl rfl rfl rfl (by simp)) (W.qcall (empty_fc _ _ _) rfl (W.nil (thn_n ?_))))
 refine WC.cond (b := _) rfl (fun h12 => ?_) (fun h12 => ?_)
 ·refine WC.seq (WC.region (W.ok (ok_build (L := [.int .i64 _, .int .i64 _, .string _, .string _, .bool _, .string _]) pl150 zr150 rfl rfl rfl) (W.store (i := 1) (vs := [.int .i64 _, .int .i64 _, .string _, .string _, .bool _, .string _]) (L' := [.int .i64 _, .int .i64 _, .string _, .string _, .bool _, .string _]) ty150 rfl rfl rfl rfl rfl rfl rfl rfl (W.as (W.nil (thn_n (WC.ret (thn_r ?_))))))))
  refine ⟨.inr rfl, [_, _], ⟨⟨_, _, _, _, _, rfl, nthM_mem (i := 1) rfl, ty150, (by simp), rfl, rfl⟩, rfl, trivial⟩, [], sn9, ?_⟩
  show Value.tuple #[Value.agg (List.toArray [_, _, _, _, _, _]), Value.bool _] = _
  rw [clip_e h12]; rfl
 refine WC.skip (thn_n (WC.seq (WC.seq (WC.region (W.ok (ok_fieldB fd150_1 rfl) (W.ok (ok_loadB (i := 3) (vs := [.int .i64 _]) ty3 rfl rfl rfl rfl (by simp)) (W.ok (ok_eql rfl rfl) (W.nil (thn_n ?_)))))))))
 refine WC.cond (b := _) rfl (fun h16 => ?_) (fun h16 => ?_)
 ·have p16 := of_decide_eq_true h16
  refine WC.seq (WC.region (W.ok (ok_fieldB fd45_0 rfl) (W.ok (ok_loadB (i := 0) (vs := [.string _]) ty9 rfl rfl rfl rfl (by simp)) (W.ok (ok_fieldB fd150_2 rfl) (W.store (i := 3) (vs := [.string _]) (L' := [.int .i64 _, .int .i64 _, .string _, .string _, .bool _, .string _]) ty9 rfl rfl rfl rfl rfl rfl rfl rfl (W.nil (thn_n (WC.seq (WC.region (W.ok (ok_fieldB fd45_1 rfl) (W.ok (ok_loadB (i := 0) (vs := [.string _]) ty9 rfl rfl rfl rfl (by simp)) (W.ok (ok_fieldB fd150_3 rfl) (W.store (i := 3) (vs := [.string _]) (L' := [.int .i64 _, .int .i64 _, .string _, .string _, .bool _, .string _]) ty9 rfl rfl rfl rfl rfl rfl rfl rfl (W.nil (thn_n ?_)))))))))))))))
  refine WC.region (W.ok (ok_fieldB fd45_2 rfl) (W.ok (ok_loadB (i := 0) (vs := [.bool _]) ty4 rfl rfl rfl rfl (by simp)) (W.ok (ok_fieldB fd150_4 rfl) (W.store (i := 3) (vs := [.bool _]) (L' := [.int .i64 _, .int .i64 _, .string _, .string _, .bool _, .string _]) ty4 rfl rfl rfl rfl rfl rfl rfl rfl (W.nil (thn_n (WC.seq (WC.region (W.ok (ok_loadB (i := 3) (vs := [.int .i64 _, .int .i64 _, .string _, .string _, .bool _, .string _]) ty150 rfl rfl rfl rfl (by simp)) (W.store (i := 1) (vs := [.int .i64 _, .int .i64 _, .string _, .string _, .bool _, .string _]) (L' := [.int .i64 _, .int .i64 _, .string _, .string _, .bool _, .string _]) ty150 rfl rfl rfl rfl rfl rfl rfl rfl (W.as (W.nil (thn_n (WC.ret ?_))))))))))))))
  refine ⟨.inr rfl, [_, _], ⟨⟨_, _, _, _, _, rfl, nthM_mem (i := 1) rfl, ty150, (by simp), rfl, rfl⟩, rfl, trivial⟩, [], sn9, ?_⟩
  show Value.tuple #[Value.agg (List.toArray [_, _, _, _, _, _]), Value.bool _] = _
  rw [clip_4 h12 p16]; rfl
 have p16 := of_decide_eq_false h16
 refine WC.skip (thn_n (WC.seq (WC.region (W.ok (ok_loadB (i := 3) (vs := [.int .i64 _, .int .i64 _, .string _, .string _, .bool _, .string _]) ty150 rfl rfl rfl rfl (by simp)) (W.store (i := 1) (vs := [.int .i64 _, .int .i64 _, .string _, .string _, .bool _, .string _]) (L' := [.int .i64 _, .int .i64 _, .string _, .string _, .bool _, .string _]) ty150 rfl rfl rfl rfl rfl rfl rfl rfl (W.as (W.nil (thn_n (WC.ret ?_)))))))))
 refine ⟨.inr rfl, [_, _], ⟨⟨_, _, _, _, _, rfl, nthM_mem (i := 1) rfl, ty150, (by simp), rfl, rfl⟩, rfl, trivial⟩, [], sn9, ?_⟩
 show Value.tuple #[Value.agg (List.toArray [_, _, _, _, _, _]), Value.bool _] = _
 rw [clip_n h12 p16]; rfl

theorem mclip_fc {G : GH} (ms : Int) (mk : Int) (mkey : Str) (mhi : Str) (mo : Bool) (mv : Str) (alo : Str) (ahi : Str) (ao : Bool) (hk : mkey.b.size < 140737488355328) :
    Fc Tryz.prog 168 [.agg #[.int .i64 ms, .int .i64 mk, .string mkey.b, .string mhi.b, .bool mo, .string mv.b], .agg #[.string alo.b, .string ahi.b, .bool ao]] G [] (fun v _ _ => v = .tuple #[.agg (List.toArray ((Msg.clip (⟨ms, mk, mkey, mhi, mo, mv⟩ : Msg) ⟨alo, ahi, ao⟩).1.cells)), .bool ((Msg.clip (⟨ms, mk, mkey, mhi, mo, mv⟩ : Msg) ⟨alo, ahi, ao⟩).2)]) := by
 refine Fc.intro (rs := [.cell 4 150, .tmp 5]) cl168 Tryz.func168 rfl Tryz.ntmps168 rfl rfl (fun w0 => ?_)
 refine WC.seq (WC.region (W.box (L := [.int .i64 _, .int .i64 _, .string _, .string _, .bool _, .string _]) rfl rfl (fun b26 => (W.box (L := [.string _, .string _, .bool _]) rfl rfl (fun b27 => (W.alloc zr150 (fun b28 => (W.as (W.nil (thn_n (WC.seq (WC.seq (WC.region (W.ok (ok_loadB (i := 2) (vs := [.int .i64 _, .int .i64 _, .string _, .string _, .bool _, .string _]) ty150 rfl rfl rfl rfl (by simp)) (W.ok (ok_loadB (i := 1) (vs := [.string _, .string _, .bool _]) ty45 rfl rfl rfl rfl (by simp)) (W.qcall (touches_fc _ _ _ _ _ _ _ _ _ (by first | assumption | omega | (dsimp only; omega))) rfl (W.ok (ok_not rfl) ?_)))))))))))))))))
 refine W.nil (thn_n ?_)
 refine WC.cond (b := _) rfl (fun h10 => ?_) (fun h10 => ?_)
 ·refine WC.seq (WC.region (W.ok (ok_build (L := [.int .i64 _, .int .i64 _, .string _, .string _, .bool _, .string _]) pl150 zr150 rfl rfl rfl) (W.store (i := 0) (vs := [.int .i64 _, .int .i64 _, .string _, .string _, .bool _, .string _]) (L' := [.int .i64 _, .int .i64 _, .string _, .string _, .bool _, .string _]) ty150 rfl rfl rfl rfl rfl rfl rfl rfl (W.as (W.nil (thn_n (WC.ret (thn_r ?_))))))))
  refine ⟨.inr rfl, [_, _], ⟨⟨_, _, _, _, _, rfl, nthM_mem (i := 0) rfl, ty150, (by simp), rfl, rfl⟩, rfl, trivial⟩, [], sn9, ?_⟩
  show Value.tuple #[Value.agg (List.toArray [_, _, _, _, _, _]), Value.bool _] = _
  rw [clip_e (by simpa using h10)]; rfl
 refine WC.skip (thn_n (WC.seq (WC.seq (WC.region (W.ok (ok_fieldB fd150_1 rfl) (W.ok (ok_loadB (i := 2) (vs := [.int .i64 _]) ty3 rfl rfl rfl rfl (by simp)) (W.ok (ok_eql rfl rfl) (W.nil (thn_n ?_)))))))))
 refine WC.cond (b := _) rfl (fun h14 => ?_) (fun h14 => ?_)
 ·have p14 := of_decide_eq_true h14
  refine WC.seq (WC.drawW _ ((sr9.k9.k9).k9) mix (by rintro _ _ _ _ ⟨h | h, _⟩ <;> cases h) (WD.tk 0 rfl (ok_loadB (i := 2) (vs := [.int .i64 _, .int .i64 _, .string _, .string _, .bool _, .string _]) ty150 rfl rfl rfl rfl (by simp)) (WD.tk 2 rfl (ok_loadB (i := 1) (vs := [.string _, .string _, .bool _]) ty45 rfl rfl rfl rfl (by simp)) ?_)))
  refine WD.any [1, 4] (by kernel_rfl) rfl ⟨⟨_, rfl, rfl, ?_⟩, ⟨_, rfl, rfl, ?_⟩, trivial⟩
  ·refine W.qcall (mspan_fc _ _ _ _ _ _ (by first | assumption | omega | (dsimp only; omega))) rfl (W.nil (WD.n9 Le.rfl ((sr9.k9.k9).k9) ?_))
   refine WD.any [3, 4] (by kernel_rfl) rfl ⟨⟨_, rfl, rfl, ?_⟩, ⟨_, rfl, rfl, ?_⟩, trivial⟩
   ·refine W.qcall (smeet_fc _ _ _ _ _ _) rfl (W.nil (WD.n9 Le.rfl ((sr9.k9.k9).k9) (WD.a1 4 rfl (W.alloc zr45 (fun b29 => (W.nil (WD.n9 Le.rfl (((sr9.k9.k9).k9).cons _) (WD.a1 5 rfl (W.store (i := 0) (vs := [.string _, .string _, .bool _]) (L' := [.string _, .string _, .bool _]) ty45 rfl rfl rfl rfl rfl rfl rfl rfl (W.nil (WD.n9 Le.rfl (((sr9.k9.k9).k9).cons _) (WD.done (by kernel_rfl) (thn_n (WC.drawW _ ((((sr9.cons _).k9).k9).k9) mix (by rintro _ _ _ _ ⟨h | h, _⟩ <;> cases h) (WD.tk 0 rfl (ok_fieldB fd45_0 rfl) (WD.tk 1 rfl (ok_loadB (i := 0) (vs := [.string _]) ty9 rfl rfl rfl rfl (by simp)) (WD.tk 2 rfl (ok_fieldB fd45_1 rfl) (WD.tk 3 rfl (ok_loadB (i := 0) (vs := [.string _]) ty9 rfl rfl rfl rfl (by simp)) ?_))))))))))))))))))
    refine WD.tk 4 rfl (ok_fieldB fd45_2 rfl) (WD.tk 5 rfl (ok_loadB (i := 0) (vs := [.bool _]) ty4 rfl rfl rfl rfl (by simp)) (WD.tk 6 rfl (ok_fieldB fd150_2 rfl) (WD.a1 7 rfl (W.store (i := 3) (vs := [.string _]) (L' := [.int .i64 _, .int .i64 _, .string _, .string _, .bool _, .string _]) ty9 rfl rfl rfl rfl rfl rfl rfl rfl (W.nil (WD.n9 Le.rfl ((((sr9.cons _).k9).k9).k9) (WD.tk 8 rfl (ok_fieldB fd150_3 rfl) (WD.a1 9 rfl (W.store (i := 3) (vs := [.string _]) (L' := [.int .i64 _, .int .i64 _, .string _, .string _, .bool _, .string _]) ty9 rfl rfl rfl rfl rfl rfl rfl rfl (W.nil (WD.n9 Le.rfl ((((sr9.cons _).k9).k9).k9) (WD.tk 10 rfl (ok_fieldB fd150_4 rfl) (WD.a1 11 rfl (W.store (i := 3) (vs := [.bool _]) (L' := [.int .i64 _, .int .i64 _, .string _, .string _, .bool _, .string _]) ty4 rfl rfl rfl rfl rfl rfl rfl rfl (W.nil (WD.n9 Le.rfl ((((sr9.cons _).k9).k9).k9) ?_))))))))))))))))
    refine WD.done (by kernel_rfl) (thn_n (WC.seq (WC.region (W.ok (ok_loadB (i := 3) (vs := [.int .i64 _, .int .i64 _, .string _, .string _, .bool _, .string _]) ty150 rfl rfl rfl rfl (by simp)) (W.store (i := 1) (vs := [.int .i64 _, .int .i64 _, .string _, .string _, .bool _, .string _]) (L' := [.int .i64 _, .int .i64 _, .string _, .string _, .bool _, .string _]) ty150 rfl rfl rfl rfl rfl rfl rfl rfl (W.as (W.nil (thn_n (WC.ret ?_)))))))))
    refine ⟨.inr rfl, [_, _], ⟨⟨_, _, _, _, _, rfl, nthM_mem (i := 1) rfl, ty150, (by simp), rfl, rfl⟩, rfl, trivial⟩, [], sn9, ?_⟩
    show Value.tuple #[Value.agg (List.toArray [_, _, _, _, _, _]), Value.bool _] = _
    rw [clip_4 (by simpa using h10) p14]; rfl
   refine W.alloc zr45 (fun b30 => (W.nil (WD.n9 Le.rfl (((sr9.k9.k9).k9).cons _) (WD.a1 3 rfl (W.qcall (smeet_fc _ _ _ _ _ _) rfl (W.nil (WD.n9 Le.rfl (((sr9.k9.k9).k9).cons _) (WD.a1 5 rfl (W.store (i := 0) (vs := [.string _, .string _, .bool _]) (L' := [.string _, .string _, .bool _]) ty45 rfl rfl rfl rfl rfl rfl rfl rfl (W.nil (WD.n9 Le.rfl (((sr9.k9.k9).k9).cons _) (WD.done (by kernel_rfl) (thn_n (WC.drawW _ ((((sr9.cons _).k9).k9).k9) mix (by rintro _ _ _ _ ⟨h | h, _⟩ <;> cases h) (WD.tk 0 rfl (ok_fieldB fd45_0 rfl) (WD.tk 1 rfl (ok_loadB (i := 0) (vs := [.string _]) ty9 rfl rfl rfl rfl (by simp)) (WD.tk 2 rfl (ok_fieldB fd45_1 rfl) (WD.tk 3 rfl (ok_loadB (i := 0) (vs := [.string _]) ty9 rfl rfl rfl rfl (by simp)) ?_))))))))))))))))))
   refine WD.tk 4 rfl (ok_fieldB fd45_2 rfl) (WD.tk 5 rfl (ok_loadB (i := 0) (vs := [.bool _]) ty4 rfl rfl rfl rfl (by simp)) (WD.tk 6 rfl (ok_fieldB fd150_2 rfl) (WD.a1 7 rfl (W.store (i := 3) (vs := [.string _]) (L' := [.int .i64 _, .int .i64 _, .string _, .string _, .bool _, .string _]) ty9 rfl rfl rfl rfl rfl rfl rfl rfl (W.nil (WD.n9 Le.rfl ((((sr9.cons _).k9).k9).k9) (WD.tk 8 rfl (ok_fieldB fd150_3 rfl) (WD.a1 9 rfl (W.store (i := 3) (vs := [.string _]) (L' := [.int .i64 _, .int .i64 _, .string _, .string _, .bool _, .string _]) ty9 rfl rfl rfl rfl rfl rfl rfl rfl (W.nil (WD.n9 Le.rfl ((((sr9.cons _).k9).k9).k9) (WD.tk 10 rfl (ok_fieldB fd150_4 rfl) (WD.a1 11 rfl (W.store (i := 3) (vs := [.bool _]) (L' := [.int .i64 _, .int .i64 _, .string _, .string _, .bool _, .string _]) ty4 rfl rfl rfl rfl rfl rfl rfl rfl (W.nil (WD.n9 Le.rfl ((((sr9.cons _).k9).k9).k9) ?_))))))))))))))))
   refine WD.done (by kernel_rfl) (thn_n (WC.seq (WC.region (W.ok (ok_loadB (i := 3) (vs := [.int .i64 _, .int .i64 _, .string _, .string _, .bool _, .string _]) ty150 rfl rfl rfl rfl (by simp)) (W.store (i := 1) (vs := [.int .i64 _, .int .i64 _, .string _, .string _, .bool _, .string _]) (L' := [.int .i64 _, .int .i64 _, .string _, .string _, .bool _, .string _]) ty150 rfl rfl rfl rfl rfl rfl rfl rfl (W.as (W.nil (thn_n (WC.ret ?_)))))))))
   refine ⟨.inr rfl, [_, _], ⟨⟨_, _, _, _, _, rfl, nthM_mem (i := 1) rfl, ty150, (by simp), rfl, rfl⟩, rfl, trivial⟩, [], sn9, ?_⟩
   show Value.tuple #[Value.agg (List.toArray [_, _, _, _, _, _]), Value.bool _] = _
   rw [clip_4 (by simpa using h10) p14]; rfl
  refine W.alloc zr45 (fun b31 => (W.nil (WD.n9 Le.rfl (((sr9.k9.k9).k9).cons _) (WD.a1 1 rfl (W.qcall (mspan_fc _ _ _ _ _ _ (by first | assumption | omega | (dsimp only; omega))) rfl (W.nil (WD.n9 Le.rfl (((sr9.k9.k9).k9).cons _) (WD.a1 3 rfl (W.qcall (smeet_fc _ _ _ _ _ _) rfl (W.nil (WD.n9 Le.rfl (((sr9.k9.k9).k9).cons _) (WD.a1 5 rfl (W.store (i := 0) (vs := [.string _, .string _, .bool _]) (L' := [.string _, .string _, .bool _]) ty45 rfl rfl rfl rfl rfl rfl rfl rfl (W.nil (WD.n9 Le.rfl (((sr9.k9.k9).k9).cons _) (WD.done (by kernel_rfl) (thn_n (WC.drawW _ ((((sr9.cons _).k9).k9).k9) mix (by rintro _ _ _ _ ⟨h | h, _⟩ <;> cases h) (WD.tk 0 rfl (ok_fieldB fd45_0 rfl) ?_)))))))))))))))))))
  refine WD.tk 1 rfl (ok_loadB (i := 0) (vs := [.string _]) ty9 rfl rfl rfl rfl (by simp)) (WD.tk 2 rfl (ok_fieldB fd45_1 rfl) (WD.tk 3 rfl (ok_loadB (i := 0) (vs := [.string _]) ty9 rfl rfl rfl rfl (by simp)) (WD.tk 4 rfl (ok_fieldB fd45_2 rfl) (WD.tk 5 rfl (ok_loadB (i := 0) (vs := [.bool _]) ty4 rfl rfl rfl rfl (by simp)) (WD.tk 6 rfl (ok_fieldB fd150_2 rfl) (WD.a1 7 rfl (W.store (i := 3) (vs := [.string _]) (L' := [.int .i64 _, .int .i64 _, .string _, .string _, .bool _, .string _]) ty9 rfl rfl rfl rfl rfl rfl rfl rfl (W.nil (WD.n9 Le.rfl ((((sr9.cons _).k9).k9).k9) (WD.tk 8 rfl (ok_fieldB fd150_3 rfl) (WD.a1 9 rfl (W.store (i := 3) (vs := [.string _]) (L' := [.int .i64 _, .int .i64 _, .string _, .string _, .bool _, .string _]) ty9 rfl rfl rfl rfl rfl rfl rfl rfl (W.nil (WD.n9 Le.rfl ((((sr9.cons _).k9).k9).k9) (WD.tk 10 rfl (ok_fieldB fd150_4 rfl) ?_)))))))))))))))
  refine WD.a1 11 rfl (W.store (i := 3) (vs := [.bool _]) (L' := [.int .i64 _, .int .i64 _, .string _, .string _, .bool _, .string _]) ty4 rfl rfl rfl rfl rfl rfl rfl rfl (W.nil (WD.n9 Le.rfl ((((sr9.cons _).k9).k9).k9) (WD.done (by kernel_rfl) (thn_n (WC.seq (WC.region (W.ok (ok_loadB (i := 3) (vs := [.int .i64 _, .int .i64 _, .string _, .string _, .bool _, .string _]) ty150 rfl rfl rfl rfl (by simp)) (W.store (i := 1) (vs := [.int .i64 _, .int .i64 _, .string _, .string _, .bool _, .string _]) (L' := [.int .i64 _, .int .i64 _, .string _, .string _, .bool _, .string _]) ty150 rfl rfl rfl rfl rfl rfl rfl rfl (W.as (W.nil (thn_n (WC.ret ?_)))))))))))))
  refine ⟨.inr rfl, [_, _], ⟨⟨_, _, _, _, _, rfl, nthM_mem (i := 1) rfl, ty150, (by simp), rfl, rfl⟩, rfl, trivial⟩, [], sn9, ?_⟩
  show Value.tuple #[Value.agg (List.toArray [_, _, _, _, _, _]), Value.bool _] = _
  rw [clip_4 (by simpa using h10) p14]; rfl
 have p14 := of_decide_eq_false h14
 refine WC.skip (thn_n (WC.seq (WC.region (W.ok (ok_loadB (i := 2) (vs := [.int .i64 _, .int .i64 _, .string _, .string _, .bool _, .string _]) ty150 rfl rfl rfl rfl (by simp)) (W.store (i := 0) (vs := [.int .i64 _, .int .i64 _, .string _, .string _, .bool _, .string _]) (L' := [.int .i64 _, .int .i64 _, .string _, .string _, .bool _, .string _]) ty150 rfl rfl rfl rfl rfl rfl rfl rfl (W.as (W.nil (thn_n (WC.ret ?_)))))))))
 refine ⟨.inr rfl, [_, _], ⟨⟨_, _, _, _, _, rfl, nthM_mem (i := 0) rfl, ty150, (by simp), rfl, rfl⟩, rfl, trivial⟩, [], sn9, ?_⟩
 show Value.tuple #[Value.agg (List.toArray [_, _, _, _, _, _]), Value.bool _] = _
 rw [clip_n (by simpa using h10) p14]; rfl

end Go.Proofs.YtmbafmifalppaaaGreat
