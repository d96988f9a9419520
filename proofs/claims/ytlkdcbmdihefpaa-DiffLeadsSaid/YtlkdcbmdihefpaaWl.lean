/- Walks of functions on operations. -/
import Derived.Test.YtlkdcbmdihefpaaWe
import Derived.Test.YtlkdcbmdihefpaaW8
import Derived.Test.YtlkdcbmdihefpaaMl
namespace Go.Proofs.Ytlkdcbmdihefpaa
open Go Go.Fw Go.RowKit
set_option maxRecDepth 100000
set_option maxHeartbeats 1600000
set_option linter.unusedVariables false
set_option linter.unusedSimpArgs false
set_option linter.unnecessarySimpa false
theorem valued_fc {G : GH} (pk : Int) (pkey : Str) (phi : Str) (po : Bool) (pv : Str) (pl : Int) :
    Fc Try.prog 28 [.agg #[.int .i64 pk, .string pkey.b, .string phi.b, .bool po, .string pv.b, .int .i64 pl]] G [] (fun v _ _ => v = .bool (decide (pk = 1 ∨ pk = 2))) := by
 refine Fc.intro (rs := [.tmp 2]) cl28 Try.func28 rfl Try.ntmps28 rfl rfl (fun w0 => ?_)
 refine WC.seq ?_
 refine WC.region ?_
 refine W.box (L := [.int .i64 _, .string _, .string _, .bool _, .string _, .int .i64 _]) rfl rfl (fun b1 => ?_)
 refine W.as ?_
 refine W.nil (thn_n ?_)
 refine WC.seq ?_
 refine WC.region ?_
 refine W.ok (ok_fieldB fd38_0 rfl) ?_
 refine W.ok (ok_loadB (i := 0) (vs := [.int .i64 _]) ty3 rfl rfl rfl rfl (by simp)) ?_
 refine W.ok (ok_eql rfl rfl) ?_
 refine W.mv ?_
 refine W.sp 6 rfl (fun h5 => ?_) (fun h5 => ?_)
 ·have p5 := of_decide_eq_true h5
  refine W.no (dj := 6) rfl rfl h5 ?_
  refine W.no (dj := 6) rfl rfl h5 ?_
  refine W.no (dj := 6) rfl rfl h5 ?_
  refine W.ok (ok_pick_t rfl h5) ?_
  refine W.as ?_
  refine W.nil (thn_n ?_)
  refine WC.ret ?_
  refine ⟨.inr rfl, [_], ⟨rfl, trivial⟩, [], List.nil_sublist _, ?_⟩
  refine congrArg Value.bool ?_
  simp_all
 ·have p5 := of_decide_eq_false h5
  refine W.yes (dj := 6) rfl rfl h5 ?_
  refine W.ok (ok_fieldB fd38_0 rfl) ?_
  refine W.yes (dj := 6) rfl rfl h5 ?_
  refine W.ok (ok_loadB (i := 0) (vs := [.int .i64 _]) ty3 rfl rfl rfl rfl (by simp)) ?_
  refine W.yes (dj := 6) rfl rfl h5 ?_
  refine W.ok (ok_eql rfl rfl) ?_
  refine W.ok (ok_pick_f rfl h5) ?_
  refine W.as ?_
  refine W.nil (thn_n ?_)
  refine WC.ret ?_
  refine ⟨.inr rfl, [_], ⟨rfl, trivial⟩, [], List.nil_sublist _, ?_⟩
  refine congrArg Value.bool ?_
  simp_all

theorem ranged_fc {G : GH} (pk : Int) (pkey : Str) (phi : Str) (po : Bool) (pv : Str) (pl : Int) :
    Fc Try.prog 29 [.agg #[.int .i64 pk, .string pkey.b, .string phi.b, .bool po, .string pv.b, .int .i64 pl]] G [] (fun v _ _ => v = .bool (decide (pk = 4 ∨ pk = 6))) := by
 refine Fc.intro (rs := [.tmp 2]) cl29 Try.func29 rfl Try.ntmps29 rfl rfl (fun w0 => ?_)
 refine WC.seq ?_
 refine WC.region ?_
 refine W.box (L := [.int .i64 _, .string _, .string _, .bool _, .string _, .int .i64 _]) rfl rfl (fun b2 => ?_)
 refine W.as ?_
 refine W.nil (thn_n ?_)
 refine WC.seq ?_
 refine WC.region ?_
 refine W.ok (ok_fieldB fd38_0 rfl) ?_
 refine W.ok (ok_loadB (i := 0) (vs := [.int .i64 _]) ty3 rfl rfl rfl rfl (by simp)) ?_
 refine W.ok (ok_eql rfl rfl) ?_
 refine W.mv ?_
 refine W.sp 6 rfl (fun h5 => ?_) (fun h5 => ?_)
 ·have p5 := of_decide_eq_true h5
  refine W.no (dj := 6) rfl rfl h5 ?_
  refine W.no (dj := 6) rfl rfl h5 ?_
  refine W.no (dj := 6) rfl rfl h5 ?_
  refine W.ok (ok_pick_t rfl h5) ?_
  refine W.as ?_
  refine W.nil (thn_n ?_)
  refine WC.ret ?_
  refine ⟨.inr rfl, [_], ⟨rfl, trivial⟩, [], List.nil_sublist _, ?_⟩
  refine congrArg Value.bool ?_
  simp_all
 ·have p5 := of_decide_eq_false h5
  refine W.yes (dj := 6) rfl rfl h5 ?_
  refine W.ok (ok_fieldB fd38_0 rfl) ?_
  refine W.yes (dj := 6) rfl rfl h5 ?_
  refine W.ok (ok_loadB (i := 0) (vs := [.int .i64 _]) ty3 rfl rfl rfl rfl (by simp)) ?_
  refine W.yes (dj := 6) rfl rfl h5 ?_
  refine W.ok (ok_eql rfl rfl) ?_
  refine W.ok (ok_pick_f rfl h5) ?_
  refine W.as ?_
  refine W.nil (thn_n ?_)
  refine WC.ret ?_
  refine ⟨.inr rfl, [_], ⟨rfl, trivial⟩, [], List.nil_sublist _, ?_⟩
  refine congrArg Value.bool ?_
  simp_all

theorem writes_fc {G : GH} (pk : Int) (pkey : Str) (phi : Str) (po : Bool) (pv : Str) (pl : Int) :
    Fc Try.prog 21 [.agg #[.int .i64 pk, .string pkey.b, .string phi.b, .bool po, .string pv.b, .int .i64 pl]] G [] (fun v _ _ => v = .bool (decide (1 ≤ pk ∧ pk ≤ 4))) := by
 refine Fc.intro (rs := [.tmp 2]) cl21 Try.func21 rfl Try.ntmps21 rfl rfl (fun w0 => ?_)
 refine WC.seq ?_
 refine WC.region ?_
 refine W.box (L := [.int .i64 _, .string _, .string _, .bool _, .string _, .int .i64 _]) rfl rfl (fun b3 => ?_)
 refine W.as ?_
 refine W.nil (thn_n ?_)
 refine WC.seq ?_
 refine WC.region ?_
 refine W.ok (ok_fieldB fd38_0 rfl) ?_
 refine W.ok (ok_loadB (i := 0) (vs := [.int .i64 _]) ty3 rfl rfl rfl rfl (by simp)) ?_
 refine W.ok (ok_geq rfl rfl) ?_
 refine W.mv ?_
 refine W.sp 6 rfl (fun h5 => ?_) (fun h5 => ?_)
 ·have p5 := of_decide_eq_true h5
  refine W.yes (dj := 6) rfl rfl h5 ?_
  refine W.ok (ok_fieldB fd38_0 rfl) ?_
  refine W.yes (dj := 6) rfl rfl h5 ?_
  refine W.ok (ok_loadB (i := 0) (vs := [.int .i64 _]) ty3 rfl rfl rfl rfl (by simp)) ?_
  refine W.yes (dj := 6) rfl rfl h5 ?_
  refine W.ok (ok_leq rfl rfl) ?_
  refine W.ok (ok_pick_t rfl h5) ?_
  refine W.as ?_
  refine W.nil (thn_n ?_)
  refine WC.ret ?_
  refine ⟨.inr rfl, [_], ⟨rfl, trivial⟩, [], List.nil_sublist _, ?_⟩
  refine congrArg Value.bool ?_
  first | (simp_all; done) | (simp_all; omega)
 ·have p5 := of_decide_eq_false h5
  refine W.no (dj := 6) rfl rfl h5 ?_
  refine W.no (dj := 6) rfl rfl h5 ?_
  refine W.no (dj := 6) rfl rfl h5 ?_
  refine W.ok (ok_pick_f rfl h5) ?_
  refine W.as ?_
  refine W.nil (thn_n ?_)
  refine WC.ret ?_
  refine ⟨.inr rfl, [_], ⟨rfl, trivial⟩, [], List.nil_sublist _, ?_⟩
  refine congrArg Value.bool ?_
  first | (simp_all; done) | (simp_all; omega)

theorem opspan_fc {G : GH} (pk : Int) (pkey : Str) (phi : Str) (po : Bool) (pv : Str) (pl : Int) (hk : pkey.b.size < 140737488355328) :
    Fc Try.prog 31 [.agg #[.int .i64 pk, .string pkey.b, .string phi.b, .bool po, .string pv.b, .int .i64 pl]] G [] (fun v _ _ => v = .agg (List.toArray ((Opr.span (⟨pk, pkey, phi, po, pv, pl⟩ : Opr)).cells))) := by
 refine Fc.intro (rs := [.cell 2 62]) cl31 Try.func31 rfl Try.ntmps31 rfl rfl (fun w0 => ?_)
 refine WC.seq ?_
 refine WC.region ?_
 refine W.box (L := [.int .i64 _, .string _, .string _, .bool _, .string _, .int .i64 _]) rfl rfl (fun b4 => ?_)
 refine W.alloc zr62 (fun b5 => ?_)
 refine W.nil (thn_n ?_)
 refine WC.seq ?_
 refine WC.seq ?_
 refine WC.region ?_
 refine W.ok (ok_loadB (i := 1) (vs := [.int .i64 _, .string _, .string _, .bool _, .string _, .int .i64 _]) ty38 rfl rfl rfl rfl (by simp)) ?_
 refine W.qcall (ranged_fc _ _ _ _ _ _) rfl ?_
 refine W.nil (thn_n ?_)
 refine WC.cond (b := _) rfl (fun h4 => ?_) (fun h4 => ?_)
 ·refine WC.seq ?_
  refine WC.region ?_
  refine W.ok (ok_fieldB fd38_1 rfl) ?_
  refine W.ok (ok_loadB (i := 1) (vs := [.string _]) ty9 rfl rfl rfl rfl (by simp)) ?_
  refine W.ok (ok_fieldB fd38_2 rfl) ?_
  refine W.ok (ok_loadB (i := 1) (vs := [.string _]) ty9 rfl rfl rfl rfl (by simp)) ?_
  refine W.ok (ok_fieldB fd38_3 rfl) ?_
  refine W.ok (ok_loadB (i := 1) (vs := [.bool _]) ty4 rfl rfl rfl rfl (by simp)) ?_
  refine W.ok (ok_build (L := [.string _, .string _, .bool _]) pl62 zr62 rfl rfl rfl) ?_
  refine W.store (i := 0) (vs := [.string _, .string _, .bool _]) (L' := [.string _, .string _, .bool _]) ty62 rfl rfl rfl rfl rfl rfl rfl rfl ?_
  refine W.nil (thn_n ?_)
  refine WC.ret (thn_r ?_)
  refine ⟨.inr rfl, [_], ⟨⟨_, _, _, _, _, rfl, nthM_mem (i := 0) rfl, ty62, (by simp), rfl, rfl⟩, trivial⟩, [], List.nil_sublist _, ?_⟩
  refine congrArg (fun l => Value.agg (List.toArray l)) ?_
  rw [Opr.span, if_pos (of_decide_eq_true h4)]; rfl
 ·refine WC.skip (thn_n ?_)
  refine WC.seq ?_
  refine WC.region ?_
  refine W.ok (ok_fieldB fd38_1 rfl) ?_
  refine W.ok (ok_loadB (i := 1) (vs := [.string _]) ty9 rfl rfl rfl rfl (by simp)) ?_
  refine W.qcall (point_fc _ (by first | assumption | omega | (dsimp only; omega))) rfl ?_
  refine W.store (i := 0) (vs := [.string _, .string _, .bool _]) (L' := [.string _, .string _, .bool _]) ty62 rfl rfl rfl rfl rfl rfl rfl rfl ?_
  refine W.nil (thn_n ?_)
  refine WC.ret ?_
  refine ⟨.inr rfl, [_], ⟨⟨_, _, _, _, _, rfl, nthM_mem (i := 0) rfl, ty62, (by simp), rfl, rfl⟩, trivial⟩, [], List.nil_sublist _, ?_⟩
  refine congrArg (fun l => Value.agg (List.toArray l)) ?_
  rw [Opr.span, if_neg (of_decide_eq_false h4)]; rfl

end Go.Proofs.Ytlkdcbmdihefpaa
