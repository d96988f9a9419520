/- Walks of functions on operations. -/
import Derived.Test.YthmkpaoolhcibaaDoorWe
import Derived.Test.YthmkpaoolhcibaaDoorW8
import Derived.Test.YthmkpaoolhcibaaDoorMl
namespace Go.Proofs.YthmkpaoolhcibaaDoor
open Go Go.Fw Go.RowKit
set_option maxRecDepth 100000
set_option maxHeartbeats 1600000
set_option linter.unusedVariables false
set_option linter.unusedSimpArgs false
set_option linter.unnecessarySimpa false
theorem r7span_fc {G : GH} (pk : Int) (pkey : Str) (phi : Str) (po : Bool) (pv : Str) (pl : Int) (hk : pkey.b.size < 140737488355328) :
    Fc Tryd.prog 35 [.agg #[.int .i64 pk, .string pkey.b, .string phi.b, .bool po, .string pv.b, .int .i64 pl]] G [] (fun v _ _ => v = .agg (List.toArray ((Opr.span (⟨pk, pkey, phi, po, pv, pl⟩ : Opr)).cells))) := by
 refine Fc.intro (rs := [.cell 2 56]) cl35 Tryd.func35 rfl Tryd.ntmps35 rfl rfl (fun w0 => ?_)
 refine WC.seq ?_
 refine WC.region ?_
 refine W.box (L := [.int .i64 _, .string _, .string _, .bool _, .string _, .int .i64 _]) rfl rfl (fun b1 => ?_)
 refine W.alloc zr56 (fun b2 => ?_)
 refine W.nil (thn_n ?_)
 refine WC.seq ?_
 refine WC.seq ?_
 refine WC.region ?_
 refine W.ok (ok_fieldB fd23_0 rfl) ?_
 refine W.ok (ok_loadB (i := 1) (vs := [.int .i64 _]) ty3 rfl rfl rfl rfl (by simp)) ?_
 refine W.ok (ok_eql rfl rfl) ?_
 refine W.mv ?_
 refine W.sp 6 rfl (fun h5 => ?_) (fun h5 => ?_)
 ·have p5 := of_decide_eq_true h5
  refine W.no (dj := 6) rfl rfl h5 ?_
  refine W.no (dj := 6) rfl rfl h5 ?_
  refine W.no (dj := 6) rfl rfl h5 ?_
  refine W.ok (ok_pick_t rfl h5) ?_
  refine W.nil (thn_n ?_)
  refine WC.cond_t rfl rfl ?_
  refine WC.seq ?_
  refine WC.region ?_
  refine W.ok (ok_fieldB fd23_1 rfl) ?_
  refine W.ok (ok_loadB (i := 1) (vs := [.string _]) ty9 rfl rfl rfl rfl (by simp)) ?_
  refine W.ok (ok_fieldB fd23_2 rfl) ?_
  refine W.ok (ok_loadB (i := 1) (vs := [.string _]) ty9 rfl rfl rfl rfl (by simp)) ?_
  refine W.ok (ok_fieldB fd23_3 rfl) ?_
  refine W.ok (ok_loadB (i := 1) (vs := [.bool _]) ty4 rfl rfl rfl rfl (by simp)) ?_
  refine W.ok (ok_build (L := [.string _, .string _, .bool _]) pl56 zr56 rfl rfl rfl) ?_
  refine W.store (i := 0) (vs := [.string _, .string _, .bool _]) (L' := [.string _, .string _, .bool _]) ty56 rfl rfl rfl rfl rfl rfl rfl rfl ?_
  refine W.nil (thn_n ?_)
  refine WC.ret (thn_r ?_)
  refine ⟨.inr rfl, [_], ⟨⟨_, _, _, _, _, rfl, nthM_mem (i := 0) rfl, ty56, (by simp), rfl, rfl⟩, trivial⟩, [], List.nil_sublist _, ?_⟩
  refine congrArg (fun l => Value.agg (List.toArray l)) ?_
  rw [Opr.span, if_pos (by dsimp only; omega)]; rfl
 ·have p5 := of_decide_eq_false h5
  refine W.yes (dj := 6) rfl rfl h5 ?_
  refine W.ok (ok_fieldB fd23_0 rfl) ?_
  refine W.yes (dj := 6) rfl rfl h5 ?_
  refine W.ok (ok_loadB (i := 1) (vs := [.int .i64 _]) ty3 rfl rfl rfl rfl (by simp)) ?_
  refine W.yes (dj := 6) rfl rfl h5 ?_
  refine W.ok (ok_eql rfl rfl) ?_
  refine W.ok (ok_pick_f rfl h5) ?_
  refine W.nil (thn_n ?_)
  refine WC.cond (b := _) rfl (fun h9 => ?_) (fun h9 => ?_)
  ·have p9 := of_decide_eq_true h9
   refine WC.seq ?_
   refine WC.region ?_
   refine W.ok (ok_fieldB fd23_1 rfl) ?_
   refine W.ok (ok_loadB (i := 1) (vs := [.string _]) ty9 rfl rfl rfl rfl (by simp)) ?_
   refine W.ok (ok_fieldB fd23_2 rfl) ?_
   refine W.ok (ok_loadB (i := 1) (vs := [.string _]) ty9 rfl rfl rfl rfl (by simp)) ?_
   refine W.ok (ok_fieldB fd23_3 rfl) ?_
   refine W.ok (ok_loadB (i := 1) (vs := [.bool _]) ty4 rfl rfl rfl rfl (by simp)) ?_
   refine W.ok (ok_build (L := [.string _, .string _, .bool _]) pl56 zr56 rfl rfl rfl) ?_
   refine W.store (i := 0) (vs := [.string _, .string _, .bool _]) (L' := [.string _, .string _, .bool _]) ty56 rfl rfl rfl rfl rfl rfl rfl rfl ?_
   refine W.nil (thn_n ?_)
   refine WC.ret (thn_r ?_)
   refine ⟨.inr rfl, [_], ⟨⟨_, _, _, _, _, rfl, nthM_mem (i := 0) rfl, ty56, (by simp), rfl, rfl⟩, trivial⟩, [], List.nil_sublist _, ?_⟩
   refine congrArg (fun l => Value.agg (List.toArray l)) ?_
   rw [Opr.span, if_pos (by dsimp only; omega)]; rfl
  ·have p9 := of_decide_eq_false h9
   refine WC.skip (thn_n ?_)
   refine WC.seq ?_
   refine WC.region ?_
   refine W.ok (ok_fieldB fd23_1 rfl) ?_
   refine W.ok (ok_loadB (i := 1) (vs := [.string _]) ty9 rfl rfl rfl rfl (by simp)) ?_
   refine W.ok (ok_fieldB fd23_1 rfl) ?_
   refine W.ok (ok_loadB (i := 1) (vs := [.string _]) ty9 rfl rfl rfl rfl (by simp)) ?_
   refine W.ok (ok_addS rfl rfl (by show _ + 1 ≤ _; omega)) ?_
   refine W.ok (ok_build (L := [.string _, .string _, .bool _]) pl56 zr56 rfl rfl rfl) ?_
   refine W.store (i := 0) (vs := [.string _, .string _, .bool _]) (L' := [.string _, .string _, .bool _]) ty56 rfl rfl rfl rfl rfl rfl rfl rfl ?_
   refine W.nil (thn_n ?_)
   refine WC.ret ?_
   refine ⟨.inr rfl, [_], ⟨⟨_, _, _, _, _, rfl, nthM_mem (i := 0) rfl, ty56, (by simp), rfl, rfl⟩, trivial⟩, [], List.nil_sublist _, ?_⟩
   refine congrArg (fun l => Value.agg (List.toArray l)) ?_
   rw [Opr.span, if_neg (by dsimp only; omega)]; simp [Span.cells, Str.next_b hk, setAt]

theorem valued_fc {G : GH} (pk : Int) (pkey : Str) (phi : Str) (po : Bool) (pv : Str) (pl : Int) :
    Fc Tryd.prog 46 [.agg #[.int .i64 pk, .string pkey.b, .string phi.b, .bool po, .string pv.b, .int .i64 pl]] G [] (fun v _ _ => v = .bool (decide (pk = 1 ∨ pk = 2))) := by
 refine Fc.intro (rs := [.tmp 2]) cl46 Tryd.func46 rfl Tryd.ntmps46 rfl rfl (fun w0 => ?_)
 refine WC.seq ?_
 refine WC.region ?_
 refine W.box (L := [.int .i64 _, .string _, .string _, .bool _, .string _, .int .i64 _]) rfl rfl (fun b3 => ?_)
 refine W.as ?_
 refine W.nil (thn_n ?_)
 refine WC.seq ?_
 refine WC.region ?_
 refine W.ok (ok_fieldB fd23_0 rfl) ?_
 refine W.ok (ok_loadB (i := 0) (vs := [.int .i64 _]) ty3 rfl rfl rfl rfl (by simp)) ?_
 refine W.ok (ok_eql rfl rfl) ?_
 refine W.mv ?_
 refine W.sp 6 rfl (fun h5 => ?_) (fun h5 => ?_)
 ·have p5 := of_decide_eq_true h5
  refine W.no (dj := 6) rfl rfl h5 ?_
  refine W.no (dj := 6) rfl rfl h5 ?_
  refine W.no (dj := 6) rfl rfl h5 ?_
  refine W.ok (ok_pick_t rfl h5) ?_
  refine W.as ?_
  refine W.nil (thn_n ?_)
  refine WC.ret ?_
  refine ⟨.inr rfl, [_], ⟨rfl, trivial⟩, [], List.nil_sublist _, ?_⟩
  refine congrArg Value.bool ?_
  simp_all
 ·have p5 := of_decide_eq_false h5
  refine W.yes (dj := 6) rfl rfl h5 ?_
  refine W.ok (ok_fieldB fd23_0 rfl) ?_
  refine W.yes (dj := 6) rfl rfl h5 ?_
  refine W.ok (ok_loadB (i := 0) (vs := [.int .i64 _]) ty3 rfl rfl rfl rfl (by simp)) ?_
  refine W.yes (dj := 6) rfl rfl h5 ?_
  refine W.ok (ok_eql rfl rfl) ?_
  refine W.ok (ok_pick_f rfl h5) ?_
  refine W.as ?_
  refine W.nil (thn_n ?_)
  refine WC.ret ?_
  refine ⟨.inr rfl, [_], ⟨rfl, trivial⟩, [], List.nil_sublist _, ?_⟩
  refine congrArg Value.bool ?_
  simp_all

theorem ranged_fc {G : GH} (pk : Int) (pkey : Str) (phi : Str) (po : Bool) (pv : Str) (pl : Int) :
    Fc Tryd.prog 47 [.agg #[.int .i64 pk, .string pkey.b, .string phi.b, .bool po, .string pv.b, .int .i64 pl]] G [] (fun v _ _ => v = .bool (decide (pk = 4 ∨ pk = 6))) := by
 refine Fc.intro (rs := [.tmp 2]) cl47 Tryd.func47 rfl Tryd.ntmps47 rfl rfl (fun w0 => ?_)
 refine WC.seq ?_
 refine WC.region ?_
 refine W.box (L := [.int .i64 _, .string _, .string _, .bool _, .string _, .int .i64 _]) rfl rfl (fun b4 => ?_)
 refine W.as ?_
 refine W.nil (thn_n ?_)
 refine WC.seq ?_
 refine WC.region ?_
 refine W.ok (ok_fieldB fd23_0 rfl) ?_
 refine W.ok (ok_loadB (i := 0) (vs := [.int .i64 _]) ty3 rfl rfl rfl rfl (by simp)) ?_
 refine W.ok (ok_eql rfl rfl) ?_
 refine W.mv ?_
 refine W.sp 6 rfl (fun h5 => ?_) (fun h5 => ?_)
 ·have p5 := of_decide_eq_true h5
  refine W.no (dj := 6) rfl rfl h5 ?_
  refine W.no (dj := 6) rfl rfl h5 ?_
  refine W.no (dj := 6) rfl rfl h5 ?_
  refine W.ok (ok_pick_t rfl h5) ?_
  refine W.as ?_
  refine W.nil (thn_n ?_)
  refine WC.ret ?_
  refine ⟨.inr rfl, [_], ⟨rfl, trivial⟩, [], List.nil_sublist _, ?_⟩
  refine congrArg Value.bool ?_
  simp_all
 ·have p5 := of_decide_eq_false h5
  refine W.yes (dj := 6) rfl rfl h5 ?_
  refine W.ok (ok_fieldB fd23_0 rfl) ?_
  refine W.yes (dj := 6) rfl rfl h5 ?_
  refine W.ok (ok_loadB (i := 0) (vs := [.int .i64 _]) ty3 rfl rfl rfl rfl (by simp)) ?_
  refine W.yes (dj := 6) rfl rfl h5 ?_
  refine W.ok (ok_eql rfl rfl) ?_
  refine W.ok (ok_pick_f rfl h5) ?_
  refine W.as ?_
  refine W.nil (thn_n ?_)
  refine WC.ret ?_
  refine ⟨.inr rfl, [_], ⟨rfl, trivial⟩, [], List.nil_sublist _, ?_⟩
  refine congrArg Value.bool ?_
  simp_all

theorem writes_fc {G : GH} (pk : Int) (pkey : Str) (phi : Str) (po : Bool) (pv : Str) (pl : Int) :
    Fc Tryd.prog 52 [.agg #[.int .i64 pk, .string pkey.b, .string phi.b, .bool po, .string pv.b, .int .i64 pl]] G [] (fun v _ _ => v = .bool (decide (1 ≤ pk ∧ pk ≤ 4))) := by
 refine Fc.intro (rs := [.tmp 2]) cl52 Tryd.func52 rfl Tryd.ntmps52 rfl rfl (fun w0 => ?_)
 refine WC.seq ?_
 refine WC.region ?_
 refine W.box (L := [.int .i64 _, .string _, .string _, .bool _, .string _, .int .i64 _]) rfl rfl (fun b5 => ?_)
 refine W.as ?_
 refine W.nil (thn_n ?_)
 refine WC.seq ?_
 refine WC.region ?_
 refine W.ok (ok_fieldB fd23_0 rfl) ?_
 refine W.ok (ok_loadB (i := 0) (vs := [.int .i64 _]) ty3 rfl rfl rfl rfl (by simp)) ?_
 refine W.ok (ok_geq rfl rfl) ?_
 refine W.mv ?_
 refine W.sp 6 rfl (fun h5 => ?_) (fun h5 => ?_)
 ·have p5 := of_decide_eq_true h5
  refine W.yes (dj := 6) rfl rfl h5 ?_
  refine W.ok (ok_fieldB fd23_0 rfl) ?_
  refine W.yes (dj := 6) rfl rfl h5 ?_
  refine W.ok (ok_loadB (i := 0) (vs := [.int .i64 _]) ty3 rfl rfl rfl rfl (by simp)) ?_
  refine W.yes (dj := 6) rfl rfl h5 ?_
  refine W.ok (ok_leq rfl rfl) ?_
  refine W.ok (ok_pick_t rfl h5) ?_
  refine W.as ?_
  refine W.nil (thn_n ?_)
  refine WC.ret ?_
  refine ⟨.inr rfl, [_], ⟨rfl, trivial⟩, [], List.nil_sublist _, ?_⟩
  refine congrArg Value.bool ?_
  first | (simp_all; done) | (simp_all; omega)
 ·have p5 := of_decide_eq_false h5
  refine W.no (dj := 6) rfl rfl h5 ?_
  refine W.no (dj := 6) rfl rfl h5 ?_
  refine W.no (dj := 6) rfl rfl h5 ?_
  refine W.ok (ok_pick_f rfl h5) ?_
  refine W.as ?_
  refine W.nil (thn_n ?_)
  refine WC.ret ?_
  refine ⟨.inr rfl, [_], ⟨rfl, trivial⟩, [], List.nil_sublist _, ?_⟩
  refine congrArg Value.bool ?_
  first | (simp_all; done) | (simp_all; omega)

theorem opspan_fc {G : GH} (pk : Int) (pkey : Str) (phi : Str) (po : Bool) (pv : Str) (pl : Int) (hk : pkey.b.size < 140737488355328) :
    Fc Tryd.prog 29 [.agg #[.int .i64 pk, .string pkey.b, .string phi.b, .bool po, .string pv.b, .int .i64 pl]] G [] (fun v _ _ => v = .agg (List.toArray ((Opr.span (⟨pk, pkey, phi, po, pv, pl⟩ : Opr)).cells))) := by
 refine Fc.intro (rs := [.cell 2 56]) cl29 Tryd.func29 rfl Tryd.ntmps29 rfl rfl (fun w0 => ?_)
 refine WC.seq ?_
 refine WC.region ?_
 refine W.box (L := [.int .i64 _, .string _, .string _, .bool _, .string _, .int .i64 _]) rfl rfl (fun b6 => ?_)
 refine W.alloc zr56 (fun b7 => ?_)
 refine W.nil (thn_n ?_)
 refine WC.seq ?_
 refine WC.seq ?_
 refine WC.region ?_
 refine W.ok (ok_loadB (i := 1) (vs := [.int .i64 _, .string _, .string _, .bool _, .string _, .int .i64 _]) ty23 rfl rfl rfl rfl (by simp)) ?_
 refine W.qcall (ranged_fc _ _ _ _ _ _) rfl ?_
 refine W.nil (thn_n ?_)
 refine WC.cond (b := _) rfl (fun h4 => ?_) (fun h4 => ?_)
 ·refine WC.seq ?_
  refine WC.region ?_
  refine W.ok (ok_fieldB fd23_1 rfl) ?_
  refine W.ok (ok_loadB (i := 1) (vs := [.string _]) ty9 rfl rfl rfl rfl (by simp)) ?_
  refine W.ok (ok_fieldB fd23_2 rfl) ?_
  refine W.ok (ok_loadB (i := 1) (vs := [.string _]) ty9 rfl rfl rfl rfl (by simp)) ?_
  refine W.ok (ok_fieldB fd23_3 rfl) ?_
  refine W.ok (ok_loadB (i := 1) (vs := [.bool _]) ty4 rfl rfl rfl rfl (by simp)) ?_
  refine W.ok (ok_build (L := [.string _, .string _, .bool _]) pl56 zr56 rfl rfl rfl) ?_
  refine W.store (i := 0) (vs := [.string _, .string _, .bool _]) (L' := [.string _, .string _, .bool _]) ty56 rfl rfl rfl rfl rfl rfl rfl rfl ?_
  refine W.nil (thn_n ?_)
  refine WC.ret (thn_r ?_)
  refine ⟨.inr rfl, [_], ⟨⟨_, _, _, _, _, rfl, nthM_mem (i := 0) rfl, ty56, (by simp), rfl, rfl⟩, trivial⟩, [], List.nil_sublist _, ?_⟩
  refine congrArg (fun l => Value.agg (List.toArray l)) ?_
  rw [Opr.span, if_pos (of_decide_eq_true h4)]; rfl
 ·refine WC.skip (thn_n ?_)
  refine WC.seq ?_
  refine WC.region ?_
  refine W.ok (ok_fieldB fd23_1 rfl) ?_
  refine W.ok (ok_loadB (i := 1) (vs := [.string _]) ty9 rfl rfl rfl rfl (by simp)) ?_
  refine W.qcall (point_fc _ (by first | assumption | omega | (dsimp only; omega))) rfl ?_
  refine W.store (i := 0) (vs := [.string _, .string _, .bool _]) (L' := [.string _, .string _, .bool _]) ty56 rfl rfl rfl rfl rfl rfl rfl rfl ?_
  refine W.nil (thn_n ?_)
  refine WC.ret ?_
  refine ⟨.inr rfl, [_], ⟨⟨_, _, _, _, _, rfl, nthM_mem (i := 0) rfl, ty56, (by simp), rfl, rfl⟩, trivial⟩, [], List.nil_sublist _, ?_⟩
  refine congrArg (fun l => Value.agg (List.toArray l)) ?_
  rw [Opr.span, if_neg (of_decide_eq_false h4)]; rfl

theorem r7right_fc {G : GH} (pk : Int) (pkey : Str) (phi : Str) (po : Bool) (pv : Str) (pl : Int) :
    Fc Tryd.prog 32 [.agg #[.int .i64 pk, .string pkey.b, .string phi.b, .bool po, .string pv.b, .int .i64 pl]] G [] (fun v _ _ => v = .bool (decide (Opr.R (⟨pk, pkey, phi, po, pv, pl⟩ : Opr)))) := by
 have h1 := pkey.le
 have h2 := phi.le
 have h3 := pv.le
 refine Fc.intro (rs := [.tmp 2]) cl32 Tryd.func32 rfl Tryd.ntmps32 rfl rfl (fun w0 => ?_)
 refine WC.seq ?_
 refine WC.region ?_
 refine W.box (L := [.int .i64 _, .string _, .string _, .bool _, .string _, .int .i64 _]) rfl rfl (fun b8 => ?_)
 refine W.as ?_
 refine W.nil (thn_n ?_)
 refine WC.seq ?_
 refine WC.seq ?_
 refine WC.region ?_
 refine W.ok (ok_fieldB fd23_0 rfl) ?_
 refine W.ok (ok_loadB (i := 0) (vs := [.int .i64 _]) ty3 rfl rfl rfl rfl (by simp)) ?_
 refine W.ok (ok_lss rfl rfl) ?_
 refine W.mv ?_
 refine W.sp 6 rfl (fun h5 => ?_) (fun h5 => ?_)
 ·have p5 := of_decide_eq_true h5
  refine W.no (dj := 6) rfl rfl h5 ?_
  refine W.no (dj := 6) rfl rfl h5 ?_
  refine W.no (dj := 6) rfl rfl h5 ?_
  refine W.ok (ok_pick_t rfl h5) ?_
  refine W.mv ?_
  refine W.no (dj := 11) rfl rfl rfl ?_
  refine W.no (dj := 11) rfl rfl rfl ?_
  refine W.no (dj := 11) rfl rfl rfl ?_
  refine W.no (dj := 11) rfl rfl rfl ?_
  refine W.ok (ok_pick_t rfl rfl) ?_
  refine W.mv ?_
  refine W.no (dj := 17) rfl rfl rfl ?_
  refine W.no (dj := 17) rfl rfl rfl ?_
  refine W.no (dj := 17) rfl rfl rfl ?_
  refine W.no (dj := 17) rfl rfl rfl ?_
  refine W.ok (ok_pick_t rfl rfl) ?_
  refine W.mv ?_
  refine W.no (dj := 23) rfl rfl rfl ?_
  refine W.no (dj := 23) rfl rfl rfl ?_
  refine W.no (dj := 23) rfl rfl rfl ?_
  refine W.no (dj := 23) rfl rfl rfl ?_
  refine W.ok (ok_pick_t rfl rfl) ?_
  refine W.nil (thn_n ?_)
  refine WC.cond_t rfl rfl ?_
  refine WC.seq ?_
  refine WC.region ?_
  refine W.as ?_
  refine W.nil (thn_n ?_)
  refine WC.ret (thn_r ?_)
  refine ⟨.inr rfl, [_], ⟨rfl, trivial⟩, [], List.nil_sublist _, ?_⟩
  refine congrArg Value.bool ?_
  have hn : ∀ s : Str, s.b = ⟨#[]⟩ ↔ s = Str.nil := fun s => ⟨fun h => Str.ext' h, fun h => by rw [h]; rfl⟩
  rw [Bool.eq_iff_iff, decide_eq_true_iff]
  simp only [Opr.R]
  first | (simp_all; done) | (simp_all; omega) | grind
 ·have p5 := of_decide_eq_false h5
  refine W.yes (dj := 6) rfl rfl h5 ?_
  refine W.ok (ok_fieldB fd23_0 rfl) ?_
  refine W.yes (dj := 6) rfl rfl h5 ?_
  refine W.ok (ok_loadB (i := 0) (vs := [.int .i64 _]) ty3 rfl rfl rfl rfl (by simp)) ?_
  refine W.yes (dj := 6) rfl rfl h5 ?_
  refine W.ok (ok_gtr rfl rfl) ?_
  refine W.ok (ok_pick_f rfl h5) ?_
  refine W.mv ?_
  refine W.sp 11 rfl (fun h9 => ?_) (fun h9 => ?_)
  ·have p9 := of_decide_eq_true h9
   refine W.no (dj := 11) rfl rfl h9 ?_
   refine W.no (dj := 11) rfl rfl h9 ?_
   refine W.no (dj := 11) rfl rfl h9 ?_
   refine W.no (dj := 11) rfl rfl h9 ?_
   refine W.ok (ok_pick_t rfl h9) ?_
   refine W.mv ?_
   refine W.no (dj := 17) rfl rfl rfl ?_
   refine W.no (dj := 17) rfl rfl rfl ?_
   refine W.no (dj := 17) rfl rfl rfl ?_
   refine W.no (dj := 17) rfl rfl rfl ?_
   refine W.ok (ok_pick_t rfl rfl) ?_
   refine W.mv ?_
   refine W.no (dj := 23) rfl rfl rfl ?_
   refine W.no (dj := 23) rfl rfl rfl ?_
   refine W.no (dj := 23) rfl rfl rfl ?_
   refine W.no (dj := 23) rfl rfl rfl ?_
   refine W.ok (ok_pick_t rfl rfl) ?_
   refine W.nil (thn_n ?_)
   refine WC.cond_t rfl rfl ?_
   refine WC.seq ?_
   refine WC.region ?_
   refine W.as ?_
   refine W.nil (thn_n ?_)
   refine WC.ret (thn_r ?_)
   refine ⟨.inr rfl, [_], ⟨rfl, trivial⟩, [], List.nil_sublist _, ?_⟩
   refine congrArg Value.bool ?_
   have hn : ∀ s : Str, s.b = ⟨#[]⟩ ↔ s = Str.nil := fun s => ⟨fun h => Str.ext' h, fun h => by rw [h]; rfl⟩
   rw [Bool.eq_iff_iff, decide_eq_true_iff]
   simp only [Opr.R]
   first | (simp_all; done) | (simp_all; omega) | grind
  ·have p9 := of_decide_eq_false h9
   refine W.yes (dj := 11) rfl rfl h9 ?_
   refine W.ok (ok_fieldB fd23_1 rfl) ?_
   refine W.yes (dj := 11) rfl rfl h9 ?_
   refine W.ok (ok_loadB (i := 0) (vs := [.string _]) ty9 rfl rfl rfl rfl (by simp)) ?_
   refine W.yes (dj := 11) rfl rfl h9 ?_
   refine W.ok (ok_lenS st9 rfl) ?_
   refine W.yes (dj := 11) rfl rfl h9 ?_
   refine W.ok (ok_gtr rfl rfl) ?_
   refine W.ok (ok_pick_f rfl h9) ?_
   refine W.mv ?_
   refine W.sp 17 rfl (fun h15 => ?_) (fun h15 => ?_)
   ·have p15 := of_decide_eq_true h15
    refine W.no (dj := 17) rfl rfl h15 ?_
    refine W.no (dj := 17) rfl rfl h15 ?_
    refine W.no (dj := 17) rfl rfl h15 ?_
    refine W.no (dj := 17) rfl rfl h15 ?_
    refine W.ok (ok_pick_t rfl h15) ?_
    refine W.mv ?_
    refine W.no (dj := 23) rfl rfl rfl ?_
    refine W.no (dj := 23) rfl rfl rfl ?_
    refine W.no (dj := 23) rfl rfl rfl ?_
    refine W.no (dj := 23) rfl rfl rfl ?_
    refine W.ok (ok_pick_t rfl rfl) ?_
    refine W.nil (thn_n ?_)
    refine WC.cond_t rfl rfl ?_
    refine WC.seq ?_
    refine WC.region ?_
    refine W.as ?_
    refine W.nil (thn_n ?_)
    refine WC.ret (thn_r ?_)
    refine ⟨.inr rfl, [_], ⟨rfl, trivial⟩, [], List.nil_sublist _, ?_⟩
    refine congrArg Value.bool ?_
    have hn : ∀ s : Str, s.b = ⟨#[]⟩ ↔ s = Str.nil := fun s => ⟨fun h => Str.ext' h, fun h => by rw [h]; rfl⟩
    rw [Bool.eq_iff_iff, decide_eq_true_iff]
    simp only [Opr.R]
    first | (simp_all; done) | (simp_all; omega) | grind
   ·have p15 := of_decide_eq_false h15
    refine W.yes (dj := 17) rfl rfl h15 ?_
    refine W.ok (ok_fieldB fd23_2 rfl) ?_
    refine W.yes (dj := 17) rfl rfl h15 ?_
    refine W.ok (ok_loadB (i := 0) (vs := [.string _]) ty9 rfl rfl rfl rfl (by simp)) ?_
    refine W.yes (dj := 17) rfl rfl h15 ?_
    refine W.ok (ok_lenS st9 rfl) ?_
    refine W.yes (dj := 17) rfl rfl h15 ?_
    refine W.ok (ok_gtr rfl rfl) ?_
    refine W.ok (ok_pick_f rfl h15) ?_
    refine W.mv ?_
    refine W.sp 23 rfl (fun h21 => ?_) (fun h21 => ?_)
    ·have p21 := of_decide_eq_true h21
     refine W.no (dj := 23) rfl rfl h21 ?_
     refine W.no (dj := 23) rfl rfl h21 ?_
     refine W.no (dj := 23) rfl rfl h21 ?_
     refine W.no (dj := 23) rfl rfl h21 ?_
     refine W.ok (ok_pick_t rfl h21) ?_
     refine W.nil (thn_n ?_)
     refine WC.cond_t rfl rfl ?_
     refine WC.seq ?_
     refine WC.region ?_
     refine W.as ?_
     refine W.nil (thn_n ?_)
     refine WC.ret (thn_r ?_)
     refine ⟨.inr rfl, [_], ⟨rfl, trivial⟩, [], List.nil_sublist _, ?_⟩
     refine congrArg Value.bool ?_
     have hn : ∀ s : Str, s.b = ⟨#[]⟩ ↔ s = Str.nil := fun s => ⟨fun h => Str.ext' h, fun h => by rw [h]; rfl⟩
     rw [Bool.eq_iff_iff, decide_eq_true_iff]
     simp only [Opr.R]
     first | (simp_all; done) | (simp_all; omega) | grind
    ·have p21 := of_decide_eq_false h21
     refine W.yes (dj := 23) rfl rfl h21 ?_
     refine W.ok (ok_fieldB fd23_4 rfl) ?_
     refine W.yes (dj := 23) rfl rfl h21 ?_
     refine W.ok (ok_loadB (i := 0) (vs := [.string _]) ty9 rfl rfl rfl rfl (by simp)) ?_
     refine W.yes (dj := 23) rfl rfl h21 ?_
     refine W.ok (ok_lenS st9 rfl) ?_
     refine W.yes (dj := 23) rfl rfl h21 ?_
     refine W.ok (ok_gtr rfl rfl) ?_
     refine W.ok (ok_pick_f rfl h21) ?_
     refine W.nil (thn_n ?_)
     refine WC.cond (b := _) rfl (fun h27 => ?_) (fun h27 => ?_)
     ·have p27 := of_decide_eq_true h27
      refine WC.seq ?_
      refine WC.region ?_
      refine W.as ?_
      refine W.nil (thn_n ?_)
      refine WC.ret (thn_r ?_)
      refine ⟨.inr rfl, [_], ⟨rfl, trivial⟩, [], List.nil_sublist _, ?_⟩
      refine congrArg Value.bool ?_
      have hn : ∀ s : Str, s.b = ⟨#[]⟩ ↔ s = Str.nil := fun s => ⟨fun h => Str.ext' h, fun h => by rw [h]; rfl⟩
      rw [Bool.eq_iff_iff, decide_eq_true_iff]
      simp only [Opr.R]
      first | (simp_all; done) | (simp_all; omega) | grind
     ·have p27 := of_decide_eq_false h27
      refine WC.skip (thn_n ?_)
      refine WC.seq ?_
      refine WC.seq ?_
      refine WC.region ?_
      refine W.ok (ok_fieldB fd23_0 rfl) ?_
      refine W.ok (ok_loadB (i := 0) (vs := [.int .i64 _]) ty3 rfl rfl rfl rfl (by simp)) ?_
      refine W.ok (ok_gtr rfl rfl) ?_
      refine W.mv ?_
      refine W.sp 32 rfl (fun h31 => ?_) (fun h31 => ?_)
      ·have p31 := of_decide_eq_true h31
       refine W.yes (dj := 32) rfl rfl h31 ?_
       refine W.ok (ok_fieldB fd23_4 rfl) ?_
       refine W.yes (dj := 32) rfl rfl h31 ?_
       refine W.ok (ok_loadB (i := 0) (vs := [.string _]) ty9 rfl rfl rfl rfl (by simp)) ?_
       refine W.yes (dj := 32) rfl rfl h31 ?_
       refine W.ok (ok_neqS rfl rfl) ?_
       refine W.ok (ok_pick_t rfl h31) ?_
       refine W.mv ?_
       refine W.sp 37 rfl (fun h35 => ?_) (fun h35 => ?_)
       ·have p35 := nd_t h35
        refine W.no (dj := 37) rfl rfl h35 ?_
        refine W.no (dj := 37) rfl rfl h35 ?_
        refine W.no (dj := 37) rfl rfl h35 ?_
        refine W.no (dj := 37) rfl rfl h35 ?_
        refine W.nou (dj := 41) rfl rfl ?_
        refine W.nou (dj := 41) rfl rfl ?_
        refine W.nou (dj := 41) rfl rfl ?_
        refine W.no (dj := 37) rfl rfl h35 ?_
        refine W.ok (ok_pick_t rfl h35) ?_
        refine W.mv ?_
        refine W.no (dj := 47) rfl rfl rfl ?_
        refine W.no (dj := 47) rfl rfl rfl ?_
        refine W.no (dj := 47) rfl rfl rfl ?_
        refine W.no (dj := 47) rfl rfl rfl ?_
        refine W.nou (dj := 51) rfl rfl ?_
        refine W.nou (dj := 51) rfl rfl ?_
        refine W.nou (dj := 51) rfl rfl ?_
        refine W.nou (dj := 51) rfl rfl ?_
        refine W.nou (dj := 55) rfl rfl ?_
        refine W.nou (dj := 55) rfl rfl ?_
        refine W.nou (dj := 55) rfl rfl ?_
        refine W.nou (dj := 51) rfl rfl ?_
        refine W.no (dj := 47) rfl rfl rfl ?_
        refine W.ok (ok_pick_t rfl rfl) ?_
        refine W.nil (thn_n ?_)
        refine WC.cond_t rfl rfl ?_
        refine WC.seq ?_
        refine WC.region ?_
        refine W.as ?_
        refine W.nil (thn_n ?_)
        refine WC.ret (thn_r ?_)
        refine ⟨.inr rfl, [_], ⟨rfl, trivial⟩, [], List.nil_sublist _, ?_⟩
        refine congrArg Value.bool ?_
        have hn : ∀ s : Str, s.b = ⟨#[]⟩ ↔ s = Str.nil := fun s => ⟨fun h => Str.ext' h, fun h => by rw [h]; rfl⟩
        rw [Bool.eq_iff_iff, decide_eq_true_iff]
        simp only [Opr.R]
        first | (simp_all; done) | (simp_all; omega) | grind
       ·have p35 := nd_f h35
        refine W.yes (dj := 37) rfl rfl h35 ?_
        refine W.ok (ok_fieldB fd23_0 rfl) ?_
        refine W.yes (dj := 37) rfl rfl h35 ?_
        refine W.ok (ok_loadB (i := 0) (vs := [.int .i64 _]) ty3 rfl rfl rfl rfl (by simp)) ?_
        refine W.yes (dj := 37) rfl rfl h35 ?_
        refine W.ok (ok_neq rfl rfl) ?_
        refine W.yes (dj := 37) rfl rfl h35 ?_
        refine W.mv ?_
        refine W.sp 41 rfl (fun h40 => ?_) (fun h40 => ?_)
        ·have p40 := nd_t h40
         refine W.yes (dj := 41) rfl rfl h40 ?_
         refine W.ok (ok_fieldB fd23_5 rfl) ?_
         refine W.yes (dj := 41) rfl rfl h40 ?_
         refine W.ok (ok_loadB (i := 0) (vs := [.int .i64 _]) ty3 rfl rfl rfl rfl (by simp)) ?_
         refine W.yes (dj := 41) rfl rfl h40 ?_
         refine W.ok (ok_neq rfl rfl) ?_
         refine W.yes (dj := 37) rfl rfl h35 ?_
         refine W.ok (ok_pick_t rfl h40) ?_
         refine W.ok (ok_pick_f rfl h35) ?_
         refine W.mv ?_
         refine W.sp 47 rfl (fun h44 => ?_) (fun h44 => ?_)
         ·have p44 := nd_t h44
          refine W.no (dj := 47) rfl rfl h44 ?_
          refine W.no (dj := 47) rfl rfl h44 ?_
          refine W.no (dj := 47) rfl rfl h44 ?_
          refine W.no (dj := 47) rfl rfl h44 ?_
          refine W.nou (dj := 51) rfl rfl ?_
          refine W.nou (dj := 51) rfl rfl ?_
          refine W.nou (dj := 51) rfl rfl ?_
          refine W.nou (dj := 51) rfl rfl ?_
          refine W.nou (dj := 55) rfl rfl ?_
          refine W.nou (dj := 55) rfl rfl ?_
          refine W.nou (dj := 55) rfl rfl ?_
          refine W.nou (dj := 51) rfl rfl ?_
          refine W.no (dj := 47) rfl rfl h44 ?_
          refine W.ok (ok_pick_t rfl h44) ?_
          refine W.nil (thn_n ?_)
          refine WC.cond_t rfl rfl ?_
          refine WC.seq ?_
          refine WC.region ?_
          refine W.as ?_
          refine W.nil (thn_n ?_)
          refine WC.ret (thn_r ?_)
          refine ⟨.inr rfl, [_], ⟨rfl, trivial⟩, [], List.nil_sublist _, ?_⟩
          refine congrArg Value.bool ?_
          have hn : ∀ s : Str, s.b = ⟨#[]⟩ ↔ s = Str.nil := fun s => ⟨fun h => Str.ext' h, fun h => by rw [h]; rfl⟩
          rw [Bool.eq_iff_iff, decide_eq_true_iff]
          simp only [Opr.R]
          first | (simp_all; done) | (simp_all; omega) | grind
         ·have p44 := nd_f h44
          refine W.yes (dj := 47) rfl rfl h44 ?_
          refine W.ok (ok_fieldB fd23_0 rfl) ?_
          refine W.yes (dj := 47) rfl rfl h44 ?_
          refine W.ok (ok_loadB (i := 0) (vs := [.int .i64 _]) ty3 rfl rfl rfl rfl (by simp)) ?_
          refine W.yes (dj := 47) rfl rfl h44 ?_
          refine W.ok (ok_eql rfl rfl) ?_
          refine W.yes (dj := 47) rfl rfl h44 ?_
          refine W.mv ?_
          refine W.sp 51 rfl (fun h50 => ?_) (fun h50 => ?_)
          ·have p50 := of_decide_eq_true h50
           refine W.yes (dj := 51) rfl rfl h50 ?_
           refine W.ok (ok_fieldB fd23_5 rfl) ?_
           refine W.yes (dj := 51) rfl rfl h50 ?_
           refine W.ok (ok_loadB (i := 0) (vs := [.int .i64 _]) ty3 rfl rfl rfl rfl (by simp)) ?_
           refine W.yes (dj := 51) rfl rfl h50 ?_
           refine W.ok (ok_lss rfl rfl) ?_
           refine W.yes (dj := 51) rfl rfl h50 ?_
           refine W.mv ?_
           refine W.sp 55 rfl (fun h54 => ?_) (fun h54 => ?_)
           ·have p54 := of_decide_eq_true h54
            refine W.no (dj := 55) rfl rfl h54 ?_
            refine W.no (dj := 55) rfl rfl h54 ?_
            refine W.no (dj := 55) rfl rfl h54 ?_
            refine W.yes (dj := 51) rfl rfl h50 ?_
            refine W.ok (ok_pick_t rfl h54) ?_
            refine W.yes (dj := 47) rfl rfl h44 ?_
            refine W.ok (ok_pick_t rfl h50) ?_
            refine W.ok (ok_pick_f rfl h44) ?_
            refine W.nil (thn_n ?_)
            refine WC.cond_t rfl rfl ?_
            refine WC.seq ?_
            refine WC.region ?_
            refine W.as ?_
            refine W.nil (thn_n ?_)
            refine WC.ret (thn_r ?_)
            refine ⟨.inr rfl, [_], ⟨rfl, trivial⟩, [], List.nil_sublist _, ?_⟩
            refine congrArg Value.bool ?_
            have hn : ∀ s : Str, s.b = ⟨#[]⟩ ↔ s = Str.nil := fun s => ⟨fun h => Str.ext' h, fun h => by rw [h]; rfl⟩
            rw [Bool.eq_iff_iff, decide_eq_true_iff]
            simp only [Opr.R]
            first | (simp_all; done) | (simp_all; omega) | grind
           ·have p54 := of_decide_eq_false h54
            refine W.yes (dj := 55) rfl rfl h54 ?_
            refine W.ok (ok_fieldB fd23_5 rfl) ?_
            refine W.yes (dj := 55) rfl rfl h54 ?_
            refine W.ok (ok_loadB (i := 0) (vs := [.int .i64 _]) ty3 rfl rfl rfl rfl (by simp)) ?_
            refine W.yes (dj := 55) rfl rfl h54 ?_
            refine W.ok (ok_gtr rfl rfl) ?_
            refine W.yes (dj := 51) rfl rfl h50 ?_
            refine W.ok (ok_pick_f rfl h54) ?_
            refine W.yes (dj := 47) rfl rfl h44 ?_
            refine W.ok (ok_pick_t rfl h50) ?_
            refine W.ok (ok_pick_f rfl h44) ?_
            refine W.nil (thn_n ?_)
            refine WC.cond (b := _) rfl (fun h58 => ?_) (fun h58 => ?_)
            ·have p58 := of_decide_eq_true h58
             refine WC.seq ?_
             refine WC.region ?_
             refine W.as ?_
             refine W.nil (thn_n ?_)
             refine WC.ret (thn_r ?_)
             refine ⟨.inr rfl, [_], ⟨rfl, trivial⟩, [], List.nil_sublist _, ?_⟩
             refine congrArg Value.bool ?_
             have hn : ∀ s : Str, s.b = ⟨#[]⟩ ↔ s = Str.nil := fun s => ⟨fun h => Str.ext' h, fun h => by rw [h]; rfl⟩
             rw [Bool.eq_iff_iff, decide_eq_true_iff]
             simp only [Opr.R]
             first | (simp_all; done) | (simp_all; omega) | grind
            ·have p58 := of_decide_eq_false h58
             refine WC.skip (thn_n ?_)
             refine WC.seq ?_
             refine WC.seq ?_
             refine WC.region ?_
             refine W.ok (ok_fieldB fd23_0 rfl) ?_
             refine W.ok (ok_loadB (i := 0) (vs := [.int .i64 _]) ty3 rfl rfl rfl rfl (by simp)) ?_
             refine W.ok (ok_eql rfl rfl) ?_
             refine W.mv ?_
             refine W.sp 65 rfl (fun h64 => ?_) (fun h64 => ?_)
             ·have p64 := of_decide_eq_true h64
              refine W.no (dj := 65) rfl rfl h64 ?_
              refine W.no (dj := 65) rfl rfl h64 ?_
              refine W.no (dj := 65) rfl rfl h64 ?_
              refine W.ok (ok_pick_t rfl h64) ?_
              refine W.nil (thn_n ?_)
              refine WC.cond_t rfl rfl ?_
              refine WC.seq ?_
              refine WC.region ?_
              refine W.ok (ok_loadB (i := 0) (vs := [.int .i64 _, .string _, .string _, .bool _, .string _, .int .i64 _]) ty23 rfl rfl rfl rfl (by simp)) ?_
              refine W.qcall (r7span_fc _ _ _ _ _ _ (by first | assumption | omega | (dsimp only; omega))) rfl ?_
              refine W.qcall (empty_fc _ _ _) rfl ?_
              refine W.ok (ok_not rfl) ?_
              refine W.mv ?_
              refine W.sp 74 rfl (fun h73 => ?_) (fun h73 => ?_)
              ·replace h73 : (!(Opr.span (⟨pk, pkey, phi, po, pv, pl⟩ : Opr)).empty) = true := h73
               refine W.yes (dj := 74) rfl rfl h73 ?_
               refine W.ok (ok_fieldB fd23_3 rfl) ?_
               refine W.yes (dj := 74) rfl rfl h73 ?_
               refine W.ok (ok_loadB (i := 0) (vs := [.bool _]) ty4 rfl rfl rfl rfl (by simp)) ?_
               refine W.yes (dj := 74) rfl rfl h73 ?_
               refine W.ok (ok_not rfl) ?_
               refine W.yes (dj := 74) rfl rfl h73 ?_
               refine W.mv ?_
               refine W.sp 78 rfl (fun h77 => ?_) (fun h77 => ?_)
               ·refine W.no (dj := 78) rfl rfl h77 ?_
                refine W.no (dj := 78) rfl rfl h77 ?_
                refine W.no (dj := 78) rfl rfl h77 ?_
                refine W.yes (dj := 74) rfl rfl h73 ?_
                refine W.ok (ok_pick_t rfl h77) ?_
                refine W.ok (ok_pick_t rfl h73) ?_
                refine W.as ?_
                refine W.nil (thn_n ?_)
                refine WC.ret (thn_r ?_)
                refine ⟨.inr rfl, [_], ⟨rfl, trivial⟩, [], List.nil_sublist _, ?_⟩
                refine congrArg Value.bool ?_
                have hn : ∀ s : Str, s.b = ⟨#[]⟩ ↔ s = Str.nil := fun s => ⟨fun h => Str.ext' h, fun h => by rw [h]; rfl⟩
                rw [Bool.eq_iff_iff, decide_eq_true_iff]
                simp only [Opr.R]
                first | (simp_all; done) | (simp_all; omega) | grind
               ·refine W.yes (dj := 78) rfl rfl h77 ?_
                refine W.ok (ok_fieldB fd23_2 rfl) ?_
                refine W.yes (dj := 78) rfl rfl h77 ?_
                refine W.ok (ok_loadB (i := 0) (vs := [.string _]) ty9 rfl rfl rfl rfl (by simp)) ?_
                refine W.yes (dj := 78) rfl rfl h77 ?_
                refine W.ok (ok_eqlS rfl rfl) ?_
                refine W.yes (dj := 74) rfl rfl h73 ?_
                refine W.ok (ok_pick_f rfl h77) ?_
                refine W.ok (ok_pick_t rfl h73) ?_
                refine W.as ?_
                refine W.nil (thn_n ?_)
                refine WC.ret (thn_r ?_)
                refine ⟨.inr rfl, [_], ⟨rfl, trivial⟩, [], List.nil_sublist _, ?_⟩
                refine congrArg Value.bool ?_
                have hn : ∀ s : Str, s.b = ⟨#[]⟩ ↔ s = Str.nil := fun s => ⟨fun h => Str.ext' h, fun h => by rw [h]; rfl⟩
                rw [Bool.eq_iff_iff, decide_eq_true_iff]
                simp only [Opr.R]
                first | (simp_all; done) | (simp_all; omega) | grind
              ·replace h73 : (!(Opr.span (⟨pk, pkey, phi, po, pv, pl⟩ : Opr)).empty) = false := h73
               refine W.no (dj := 74) rfl rfl h73 ?_
               refine W.no (dj := 74) rfl rfl h73 ?_
               refine W.no (dj := 74) rfl rfl h73 ?_
               refine W.no (dj := 74) rfl rfl h73 ?_
               refine W.nou (dj := 78) rfl rfl ?_
               refine W.nou (dj := 78) rfl rfl ?_
               refine W.nou (dj := 78) rfl rfl ?_
               refine W.no (dj := 74) rfl rfl h73 ?_
               refine W.ok (ok_pick_f rfl h73) ?_
               refine W.as ?_
               refine W.nil (thn_n ?_)
               refine WC.ret (thn_r ?_)
               refine ⟨.inr rfl, [_], ⟨rfl, trivial⟩, [], List.nil_sublist _, ?_⟩
               refine congrArg Value.bool ?_
               have hn : ∀ s : Str, s.b = ⟨#[]⟩ ↔ s = Str.nil := fun s => ⟨fun h => Str.ext' h, fun h => by rw [h]; rfl⟩
               rw [Bool.eq_iff_iff, decide_eq_true_iff]
               simp only [Opr.R]
               first | (simp_all; done) | (simp_all; omega) | grind
             ·have p64 := of_decide_eq_false h64
              refine W.yes (dj := 65) rfl rfl h64 ?_
              refine W.ok (ok_fieldB fd23_0 rfl) ?_
              refine W.yes (dj := 65) rfl rfl h64 ?_
              refine W.ok (ok_loadB (i := 0) (vs := [.int .i64 _]) ty3 rfl rfl rfl rfl (by simp)) ?_
              refine W.yes (dj := 65) rfl rfl h64 ?_
              refine W.ok (ok_eql rfl rfl) ?_
              refine W.ok (ok_pick_f rfl h64) ?_
              refine W.nil (thn_n ?_)
              refine WC.cond (b := _) rfl (fun h68 => ?_) (fun h68 => ?_)
              ·have p68 := of_decide_eq_true h68
               refine WC.seq ?_
               refine WC.region ?_
               refine W.ok (ok_loadB (i := 0) (vs := [.int .i64 _, .string _, .string _, .bool _, .string _, .int .i64 _]) ty23 rfl rfl rfl rfl (by simp)) ?_
               refine W.qcall (r7span_fc _ _ _ _ _ _ (by first | assumption | omega | (dsimp only; omega))) rfl ?_
               refine W.qcall (empty_fc _ _ _) rfl ?_
               refine W.ok (ok_not rfl) ?_
               refine W.mv ?_
               refine W.sp 74 rfl (fun h73 => ?_) (fun h73 => ?_)
               ·replace h73 : (!(Opr.span (⟨pk, pkey, phi, po, pv, pl⟩ : Opr)).empty) = true := h73
                refine W.yes (dj := 74) rfl rfl h73 ?_
                refine W.ok (ok_fieldB fd23_3 rfl) ?_
                refine W.yes (dj := 74) rfl rfl h73 ?_
                refine W.ok (ok_loadB (i := 0) (vs := [.bool _]) ty4 rfl rfl rfl rfl (by simp)) ?_
                refine W.yes (dj := 74) rfl rfl h73 ?_
                refine W.ok (ok_not rfl) ?_
                refine W.yes (dj := 74) rfl rfl h73 ?_
                refine W.mv ?_
                refine W.sp 78 rfl (fun h77 => ?_) (fun h77 => ?_)
                ·refine W.no (dj := 78) rfl rfl h77 ?_
                 refine W.no (dj := 78) rfl rfl h77 ?_
                 refine W.no (dj := 78) rfl rfl h77 ?_
                 refine W.yes (dj := 74) rfl rfl h73 ?_
                 refine W.ok (ok_pick_t rfl h77) ?_
                 refine W.ok (ok_pick_t rfl h73) ?_
                 refine W.as ?_
                 refine W.nil (thn_n ?_)
                 refine WC.ret (thn_r ?_)
                 refine ⟨.inr rfl, [_], ⟨rfl, trivial⟩, [], List.nil_sublist _, ?_⟩
                 refine congrArg Value.bool ?_
                 have hn : ∀ s : Str, s.b = ⟨#[]⟩ ↔ s = Str.nil := fun s => ⟨fun h => Str.ext' h, fun h => by rw [h]; rfl⟩
                 rw [Bool.eq_iff_iff, decide_eq_true_iff]
                 simp only [Opr.R]
                 first | (simp_all; done) | (simp_all; omega) | grind
                ·refine W.yes (dj := 78) rfl rfl h77 ?_
                 refine W.ok (ok_fieldB fd23_2 rfl) ?_
                 refine W.yes (dj := 78) rfl rfl h77 ?_
                 refine W.ok (ok_loadB (i := 0) (vs := [.string _]) ty9 rfl rfl rfl rfl (by simp)) ?_
                 refine W.yes (dj := 78) rfl rfl h77 ?_
                 refine W.ok (ok_eqlS rfl rfl) ?_
                 refine W.yes (dj := 74) rfl rfl h73 ?_
                 refine W.ok (ok_pick_f rfl h77) ?_
                 refine W.ok (ok_pick_t rfl h73) ?_
                 refine W.as ?_
                 refine W.nil (thn_n ?_)
                 refine WC.ret (thn_r ?_)
                 refine ⟨.inr rfl, [_], ⟨rfl, trivial⟩, [], List.nil_sublist _, ?_⟩
                 refine congrArg Value.bool ?_
                 have hn : ∀ s : Str, s.b = ⟨#[]⟩ ↔ s = Str.nil := fun s => ⟨fun h => Str.ext' h, fun h => by rw [h]; rfl⟩
                 rw [Bool.eq_iff_iff, decide_eq_true_iff]
                 simp only [Opr.R]
                 first | (simp_all; done) | (simp_all; omega) | grind
               ·replace h73 : (!(Opr.span (⟨pk, pkey, phi, po, pv, pl⟩ : Opr)).empty) = false := h73
                refine W.no (dj := 74) rfl rfl h73 ?_
                refine W.no (dj := 74) rfl rfl h73 ?_
                refine W.no (dj := 74) rfl rfl h73 ?_
                refine W.no (dj := 74) rfl rfl h73 ?_
                refine W.nou (dj := 78) rfl rfl ?_
                refine W.nou (dj := 78) rfl rfl ?_
                refine W.nou (dj := 78) rfl rfl ?_
                refine W.no (dj := 74) rfl rfl h73 ?_
                refine W.ok (ok_pick_f rfl h73) ?_
                refine W.as ?_
                refine W.nil (thn_n ?_)
                refine WC.ret (thn_r ?_)
                refine ⟨.inr rfl, [_], ⟨rfl, trivial⟩, [], List.nil_sublist _, ?_⟩
                refine congrArg Value.bool ?_
                have hn : ∀ s : Str, s.b = ⟨#[]⟩ ↔ s = Str.nil := fun s => ⟨fun h => Str.ext' h, fun h => by rw [h]; rfl⟩
                rw [Bool.eq_iff_iff, decide_eq_true_iff]
                simp only [Opr.R]
                first | (simp_all; done) | (simp_all; omega) | grind
              ·have p68 := of_decide_eq_false h68
               refine WC.skip (thn_n ?_)
               refine WC.seq ?_
               refine WC.region ?_
               refine W.ok (ok_fieldB fd23_2 rfl) ?_
               refine W.ok (ok_loadB (i := 0) (vs := [.string _]) ty9 rfl rfl rfl rfl (by simp)) ?_
               refine W.ok (ok_eqlS rfl rfl) ?_
               refine W.mv ?_
               refine W.sp 87 rfl (fun h86 => ?_) (fun h86 => ?_)
               ·have p86 := of_decide_eq_true h86
                refine W.yes (dj := 87) rfl rfl h86 ?_
                refine W.ok (ok_fieldB fd23_3 rfl) ?_
                refine W.yes (dj := 87) rfl rfl h86 ?_
                refine W.ok (ok_loadB (i := 0) (vs := [.bool _]) ty4 rfl rfl rfl rfl (by simp)) ?_
                refine W.yes (dj := 87) rfl rfl h86 ?_
                refine W.ok (ok_not rfl) ?_
                refine W.ok (ok_pick_t rfl h86) ?_
                refine W.as ?_
                refine W.nil (thn_n ?_)
                refine WC.ret ?_
                refine ⟨.inr rfl, [_], ⟨rfl, trivial⟩, [], List.nil_sublist _, ?_⟩
                refine congrArg Value.bool ?_
                have hn : ∀ s : Str, s.b = ⟨#[]⟩ ↔ s = Str.nil := fun s => ⟨fun h => Str.ext' h, fun h => by rw [h]; rfl⟩
                rw [Bool.eq_iff_iff, decide_eq_true_iff]
                simp only [Opr.R]
                first | (simp_all; done) | (simp_all; omega) | grind
               ·have p86 := of_decide_eq_false h86
                refine W.no (dj := 87) rfl rfl h86 ?_
                refine W.no (dj := 87) rfl rfl h86 ?_
                refine W.no (dj := 87) rfl rfl h86 ?_
                refine W.ok (ok_pick_f rfl h86) ?_
                refine W.as ?_
                refine W.nil (thn_n ?_)
                refine WC.ret ?_
                refine ⟨.inr rfl, [_], ⟨rfl, trivial⟩, [], List.nil_sublist _, ?_⟩
                refine congrArg Value.bool ?_
                have hn : ∀ s : Str, s.b = ⟨#[]⟩ ↔ s = Str.nil := fun s => ⟨fun h => Str.ext' h, fun h => by rw [h]; rfl⟩
                rw [Bool.eq_iff_iff, decide_eq_true_iff]
                simp only [Opr.R]
                first | (simp_all; done) | (simp_all; omega) | grind
          ·have p50 := of_decide_eq_false h50
           refine W.no (dj := 51) rfl rfl h50 ?_
           refine W.no (dj := 51) rfl rfl h50 ?_
           refine W.no (dj := 51) rfl rfl h50 ?_
           refine W.no (dj := 51) rfl rfl h50 ?_
           refine W.nou (dj := 55) rfl rfl ?_
           refine W.nou (dj := 55) rfl rfl ?_
           refine W.nou (dj := 55) rfl rfl ?_
           refine W.no (dj := 51) rfl rfl h50 ?_
           refine W.yes (dj := 47) rfl rfl h44 ?_
           refine W.ok (ok_pick_f rfl h50) ?_
           refine W.ok (ok_pick_f rfl h44) ?_
           refine W.nil (thn_n ?_)
           refine WC.cond_f rfl rfl ?_
           refine WC.skip (thn_n ?_)
           refine WC.seq ?_
           refine WC.seq ?_
           refine WC.region ?_
           refine W.ok (ok_fieldB fd23_0 rfl) ?_
           refine W.ok (ok_loadB (i := 0) (vs := [.int .i64 _]) ty3 rfl rfl rfl rfl (by simp)) ?_
           refine W.ok (ok_eql rfl rfl) ?_
           refine W.mv ?_
           refine W.sp 65 rfl (fun h64 => ?_) (fun h64 => ?_)
           ·have p64 := of_decide_eq_true h64
            refine W.no (dj := 65) rfl rfl h64 ?_
            refine W.no (dj := 65) rfl rfl h64 ?_
            refine W.no (dj := 65) rfl rfl h64 ?_
            refine W.ok (ok_pick_t rfl h64) ?_
            refine W.nil (thn_n ?_)
            refine WC.cond_t rfl rfl ?_
            refine WC.seq ?_
            refine WC.region ?_
            refine W.ok (ok_loadB (i := 0) (vs := [.int .i64 _, .string _, .string _, .bool _, .string _, .int .i64 _]) ty23 rfl rfl rfl rfl (by simp)) ?_
            refine W.qcall (r7span_fc _ _ _ _ _ _ (by first | assumption | omega | (dsimp only; omega))) rfl ?_
            refine W.qcall (empty_fc _ _ _) rfl ?_
            refine W.ok (ok_not rfl) ?_
            refine W.mv ?_
            refine W.sp 74 rfl (fun h73 => ?_) (fun h73 => ?_)
            ·replace h73 : (!(Opr.span (⟨pk, pkey, phi, po, pv, pl⟩ : Opr)).empty) = true := h73
             refine W.yes (dj := 74) rfl rfl h73 ?_
             refine W.ok (ok_fieldB fd23_3 rfl) ?_
             refine W.yes (dj := 74) rfl rfl h73 ?_
             refine W.ok (ok_loadB (i := 0) (vs := [.bool _]) ty4 rfl rfl rfl rfl (by simp)) ?_
             refine W.yes (dj := 74) rfl rfl h73 ?_
             refine W.ok (ok_not rfl) ?_
             refine W.yes (dj := 74) rfl rfl h73 ?_
             refine W.mv ?_
             refine W.sp 78 rfl (fun h77 => ?_) (fun h77 => ?_)
             ·refine W.no (dj := 78) rfl rfl h77 ?_
              refine W.no (dj := 78) rfl rfl h77 ?_
              refine W.no (dj := 78) rfl rfl h77 ?_
              refine W.yes (dj := 74) rfl rfl h73 ?_
              refine W.ok (ok_pick_t rfl h77) ?_
              refine W.ok (ok_pick_t rfl h73) ?_
              refine W.as ?_
              refine W.nil (thn_n ?_)
              refine WC.ret (thn_r ?_)
              refine ⟨.inr rfl, [_], ⟨rfl, trivial⟩, [], List.nil_sublist _, ?_⟩
              refine congrArg Value.bool ?_
              have hn : ∀ s : Str, s.b = ⟨#[]⟩ ↔ s = Str.nil := fun s => ⟨fun h => Str.ext' h, fun h => by rw [h]; rfl⟩
              rw [Bool.eq_iff_iff, decide_eq_true_iff]
              simp only [Opr.R]
              first | (simp_all; done) | (simp_all; omega) | grind
             ·refine W.yes (dj := 78) rfl rfl h77 ?_
              refine W.ok (ok_fieldB fd23_2 rfl) ?_
              refine W.yes (dj := 78) rfl rfl h77 ?_
              refine W.ok (ok_loadB (i := 0) (vs := [.string _]) ty9 rfl rfl rfl rfl (by simp)) ?_
              refine W.yes (dj := 78) rfl rfl h77 ?_
              refine W.ok (ok_eqlS rfl rfl) ?_
              refine W.yes (dj := 74) rfl rfl h73 ?_
              refine W.ok (ok_pick_f rfl h77) ?_
              refine W.ok (ok_pick_t rfl h73) ?_
              refine W.as ?_
              refine W.nil (thn_n ?_)
              refine WC.ret (thn_r ?_)
              refine ⟨.inr rfl, [_], ⟨rfl, trivial⟩, [], List.nil_sublist _, ?_⟩
              refine congrArg Value.bool ?_
              have hn : ∀ s : Str, s.b = ⟨#[]⟩ ↔ s = Str.nil := fun s => ⟨fun h => Str.ext' h, fun h => by rw [h]; rfl⟩
              rw [Bool.eq_iff_iff, decide_eq_true_iff]
              simp only [Opr.R]
              first | (simp_all; done) | (simp_all; omega) | grind
            ·replace h73 : (!(Opr.span (⟨pk, pkey, phi, po, pv, pl⟩ : Opr)).empty) = false := h73
             refine W.no (dj := 74) rfl rfl h73 ?_
             refine W.no (dj := 74) rfl rfl h73 ?_
             refine W.no (dj := 74) rfl rfl h73 ?_
             refine W.no (dj := 74) rfl rfl h73 ?_
             refine W.nou (dj := 78) rfl rfl ?_
             refine W.nou (dj := 78) rfl rfl ?_
             refine W.nou (dj := 78) rfl rfl ?_
             refine W.no (dj := 74) rfl rfl h73 ?_
             refine W.ok (ok_pick_f rfl h73) ?_
             refine W.as ?_
             refine W.nil (thn_n ?_)
             refine WC.ret (thn_r ?_)
             refine ⟨.inr rfl, [_], ⟨rfl, trivial⟩, [], List.nil_sublist _, ?_⟩
             refine congrArg Value.bool ?_
             have hn : ∀ s : Str, s.b = ⟨#[]⟩ ↔ s = Str.nil := fun s => ⟨fun h => Str.ext' h, fun h => by rw [h]; rfl⟩
             rw [Bool.eq_iff_iff, decide_eq_true_iff]
             simp only [Opr.R]
             first | (simp_all; done) | (simp_all; omega) | grind
           ·have p64 := of_decide_eq_false h64
            refine W.yes (dj := 65) rfl rfl h64 ?_
            refine W.ok (ok_fieldB fd23_0 rfl) ?_
            refine W.yes (dj := 65) rfl rfl h64 ?_
            refine W.ok (ok_loadB (i := 0) (vs := [.int .i64 _]) ty3 rfl rfl rfl rfl (by simp)) ?_
            refine W.yes (dj := 65) rfl rfl h64 ?_
            refine W.ok (ok_eql rfl rfl) ?_
            refine W.ok (ok_pick_f rfl h64) ?_
            refine W.nil (thn_n ?_)
            refine WC.cond (b := _) rfl (fun h68 => ?_) (fun h68 => ?_)
            ·have p68 := of_decide_eq_true h68
             refine WC.seq ?_
             refine WC.region ?_
             refine W.ok (ok_loadB (i := 0) (vs := [.int .i64 _, .string _, .string _, .bool _, .string _, .int .i64 _]) ty23 rfl rfl rfl rfl (by simp)) ?_
             refine W.qcall (r7span_fc _ _ _ _ _ _ (by first | assumption | omega | (dsimp only; omega))) rfl ?_
             refine W.qcall (empty_fc _ _ _) rfl ?_
             refine W.ok (ok_not rfl) ?_
             refine W.mv ?_
             refine W.sp 74 rfl (fun h73 => ?_) (fun h73 => ?_)
             ·replace h73 : (!(Opr.span (⟨pk, pkey, phi, po, pv, pl⟩ : Opr)).empty) = true := h73
              refine W.yes (dj := 74) rfl rfl h73 ?_
              refine W.ok (ok_fieldB fd23_3 rfl) ?_
              refine W.yes (dj := 74) rfl rfl h73 ?_
              refine W.ok (ok_loadB (i := 0) (vs := [.bool _]) ty4 rfl rfl rfl rfl (by simp)) ?_
              refine W.yes (dj := 74) rfl rfl h73 ?_
              refine W.ok (ok_not rfl) ?_
              refine W.yes (dj := 74) rfl rfl h73 ?_
              refine W.mv ?_
              refine W.sp 78 rfl (fun h77 => ?_) (fun h77 => ?_)
              ·refine W.no (dj := 78) rfl rfl h77 ?_
               refine W.no (dj := 78) rfl rfl h77 ?_
               refine W.no (dj := 78) rfl rfl h77 ?_
               refine W.yes (dj := 74) rfl rfl h73 ?_
               refine W.ok (ok_pick_t rfl h77) ?_
               refine W.ok (ok_pick_t rfl h73) ?_
               refine W.as ?_
               refine W.nil (thn_n ?_)
               refine WC.ret (thn_r ?_)
               refine ⟨.inr rfl, [_], ⟨rfl, trivial⟩, [], List.nil_sublist _, ?_⟩
               refine congrArg Value.bool ?_
               have hn : ∀ s : Str, s.b = ⟨#[]⟩ ↔ s = Str.nil := fun s => ⟨fun h => Str.ext' h, fun h => by rw [h]; rfl⟩
               rw [Bool.eq_iff_iff, decide_eq_true_iff]
               simp only [Opr.R]
               first | (simp_all; done) | (simp_all; omega) | grind
              ·refine W.yes (dj := 78) rfl rfl h77 ?_
               refine W.ok (ok_fieldB fd23_2 rfl) ?_
               refine W.yes (dj := 78) rfl rfl h77 ?_
               refine W.ok (ok_loadB (i := 0) (vs := [.string _]) ty9 rfl rfl rfl rfl (by simp)) ?_
               refine W.yes (dj := 78) rfl rfl h77 ?_
               refine W.ok (ok_eqlS rfl rfl) ?_
               refine W.yes (dj := 74) rfl rfl h73 ?_
               refine W.ok (ok_pick_f rfl h77) ?_
               refine W.ok (ok_pick_t rfl h73) ?_
               refine W.as ?_
               refine W.nil (thn_n ?_)
               refine WC.ret (thn_r ?_)
               refine ⟨.inr rfl, [_], ⟨rfl, trivial⟩, [], List.nil_sublist _, ?_⟩
               refine congrArg Value.bool ?_
               have hn : ∀ s : Str, s.b = ⟨#[]⟩ ↔ s = Str.nil := fun s => ⟨fun h => Str.ext' h, fun h => by rw [h]; rfl⟩
               rw [Bool.eq_iff_iff, decide_eq_true_iff]
               simp only [Opr.R]
               first | (simp_all; done) | (simp_all; omega) | grind
             ·replace h73 : (!(Opr.span (⟨pk, pkey, phi, po, pv, pl⟩ : Opr)).empty) = false := h73
              refine W.no (dj := 74) rfl rfl h73 ?_
              refine W.no (dj := 74) rfl rfl h73 ?_
              refine W.no (dj := 74) rfl rfl h73 ?_
              refine W.no (dj := 74) rfl rfl h73 ?_
              refine W.nou (dj := 78) rfl rfl ?_
              refine W.nou (dj := 78) rfl rfl ?_
              refine W.nou (dj := 78) rfl rfl ?_
              refine W.no (dj := 74) rfl rfl h73 ?_
              refine W.ok (ok_pick_f rfl h73) ?_
              refine W.as ?_
              refine W.nil (thn_n ?_)
              refine WC.ret (thn_r ?_)
              refine ⟨.inr rfl, [_], ⟨rfl, trivial⟩, [], List.nil_sublist _, ?_⟩
              refine congrArg Value.bool ?_
              have hn : ∀ s : Str, s.b = ⟨#[]⟩ ↔ s = Str.nil := fun s => ⟨fun h => Str.ext' h, fun h => by rw [h]; rfl⟩
              rw [Bool.eq_iff_iff, decide_eq_true_iff]
              simp only [Opr.R]
              first | (simp_all; done) | (simp_all; omega) | grind
            ·have p68 := of_decide_eq_false h68
             refine WC.skip (thn_n ?_)
             refine WC.seq ?_
             refine WC.region ?_
             refine W.ok (ok_fieldB fd23_2 rfl) ?_
             refine W.ok (ok_loadB (i := 0) (vs := [.string _]) ty9 rfl rfl rfl rfl (by simp)) ?_
             refine W.ok (ok_eqlS rfl rfl) ?_
             refine W.mv ?_
             refine W.sp 87 rfl (fun h86 => ?_) (fun h86 => ?_)
             ·have p86 := of_decide_eq_true h86
              refine W.yes (dj := 87) rfl rfl h86 ?_
              refine W.ok (ok_fieldB fd23_3 rfl) ?_
              refine W.yes (dj := 87) rfl rfl h86 ?_
              refine W.ok (ok_loadB (i := 0) (vs := [.bool _]) ty4 rfl rfl rfl rfl (by simp)) ?_
              refine W.yes (dj := 87) rfl rfl h86 ?_
              refine W.ok (ok_not rfl) ?_
              refine W.ok (ok_pick_t rfl h86) ?_
              refine W.as ?_
              refine W.nil (thn_n ?_)
              refine WC.ret ?_
              refine ⟨.inr rfl, [_], ⟨rfl, trivial⟩, [], List.nil_sublist _, ?_⟩
              refine congrArg Value.bool ?_
              have hn : ∀ s : Str, s.b = ⟨#[]⟩ ↔ s = Str.nil := fun s => ⟨fun h => Str.ext' h, fun h => by rw [h]; rfl⟩
              rw [Bool.eq_iff_iff, decide_eq_true_iff]
              simp only [Opr.R]
              first | (simp_all; done) | (simp_all; omega) | grind
             ·have p86 := of_decide_eq_false h86
              refine W.no (dj := 87) rfl rfl h86 ?_
              refine W.no (dj := 87) rfl rfl h86 ?_
              refine W.no (dj := 87) rfl rfl h86 ?_
              refine W.ok (ok_pick_f rfl h86) ?_
              refine W.as ?_
              refine W.nil (thn_n ?_)
              refine WC.ret ?_
              refine ⟨.inr rfl, [_], ⟨rfl, trivial⟩, [], List.nil_sublist _, ?_⟩
              refine congrArg Value.bool ?_
              have hn : ∀ s : Str, s.b = ⟨#[]⟩ ↔ s = Str.nil := fun s => ⟨fun h => Str.ext' h, fun h => by rw [h]; rfl⟩
              rw [Bool.eq_iff_iff, decide_eq_true_iff]
              simp only [Opr.R]
              first | (simp_all; done) | (simp_all; omega) | grind
        ·have p40 := nd_f h40
         refine W.no (dj := 41) rfl rfl h40 ?_
         refine W.no (dj := 41) rfl rfl h40 ?_
         refine W.no (dj := 41) rfl rfl h40 ?_
         refine W.yes (dj := 37) rfl rfl h35 ?_
         refine W.ok (ok_pick_f rfl h40) ?_
         refine W.ok (ok_pick_f rfl h35) ?_
         refine W.mv ?_
         refine W.yes (dj := 47) rfl rfl rfl ?_
         refine W.ok (ok_fieldB fd23_0 rfl) ?_
         refine W.yes (dj := 47) rfl rfl rfl ?_
         refine W.ok (ok_loadB (i := 0) (vs := [.int .i64 _]) ty3 rfl rfl rfl rfl (by simp)) ?_
         refine W.yes (dj := 47) rfl rfl rfl ?_
         refine W.ok (ok_eql rfl rfl) ?_
         refine W.yes (dj := 47) rfl rfl rfl ?_
         refine W.mv ?_
         refine W.sp 51 rfl (fun h50 => ?_) (fun h50 => ?_)
         ·have p50 := of_decide_eq_true h50
          refine W.yes (dj := 51) rfl rfl h50 ?_
          refine W.ok (ok_fieldB fd23_5 rfl) ?_
          refine W.yes (dj := 51) rfl rfl h50 ?_
          refine W.ok (ok_loadB (i := 0) (vs := [.int .i64 _]) ty3 rfl rfl rfl rfl (by simp)) ?_
          refine W.yes (dj := 51) rfl rfl h50 ?_
          refine W.ok (ok_lss rfl rfl) ?_
          refine W.yes (dj := 51) rfl rfl h50 ?_
          refine W.mv ?_
          refine W.sp 55 rfl (fun h54 => ?_) (fun h54 => ?_)
          ·have p54 := of_decide_eq_true h54
           refine W.no (dj := 55) rfl rfl h54 ?_
           refine W.no (dj := 55) rfl rfl h54 ?_
           refine W.no (dj := 55) rfl rfl h54 ?_
           refine W.yes (dj := 51) rfl rfl h50 ?_
           refine W.ok (ok_pick_t rfl h54) ?_
           refine W.yes (dj := 47) rfl rfl rfl ?_
           refine W.ok (ok_pick_t rfl h50) ?_
           refine W.ok (ok_pick_f rfl rfl) ?_
           refine W.nil (thn_n ?_)
           refine WC.cond_t rfl rfl ?_
           refine WC.seq ?_
           refine WC.region ?_
           refine W.as ?_
           refine W.nil (thn_n ?_)
           refine WC.ret (thn_r ?_)
           refine ⟨.inr rfl, [_], ⟨rfl, trivial⟩, [], List.nil_sublist _, ?_⟩
           refine congrArg Value.bool ?_
           have hn : ∀ s : Str, s.b = ⟨#[]⟩ ↔ s = Str.nil := fun s => ⟨fun h => Str.ext' h, fun h => by rw [h]; rfl⟩
           rw [Bool.eq_iff_iff, decide_eq_true_iff]
           simp only [Opr.R]
           first | (simp_all; done) | (simp_all; omega) | grind
          ·have p54 := of_decide_eq_false h54
           refine W.yes (dj := 55) rfl rfl h54 ?_
           refine W.ok (ok_fieldB fd23_5 rfl) ?_
           refine W.yes (dj := 55) rfl rfl h54 ?_
           refine W.ok (ok_loadB (i := 0) (vs := [.int .i64 _]) ty3 rfl rfl rfl rfl (by simp)) ?_
           refine W.yes (dj := 55) rfl rfl h54 ?_
           refine W.ok (ok_gtr rfl rfl) ?_
           refine W.yes (dj := 51) rfl rfl h50 ?_
           refine W.ok (ok_pick_f rfl h54) ?_
           refine W.yes (dj := 47) rfl rfl rfl ?_
           refine W.ok (ok_pick_t rfl h50) ?_
           refine W.ok (ok_pick_f rfl rfl) ?_
           refine W.nil (thn_n ?_)
           refine WC.cond (b := _) rfl (fun h58 => ?_) (fun h58 => ?_)
           ·have p58 := of_decide_eq_true h58
            refine WC.seq ?_
            refine WC.region ?_
            refine W.as ?_
            refine W.nil (thn_n ?_)
            refine WC.ret (thn_r ?_)
            refine ⟨.inr rfl, [_], ⟨rfl, trivial⟩, [], List.nil_sublist _, ?_⟩
            refine congrArg Value.bool ?_
            have hn : ∀ s : Str, s.b = ⟨#[]⟩ ↔ s = Str.nil := fun s => ⟨fun h => Str.ext' h, fun h => by rw [h]; rfl⟩
            rw [Bool.eq_iff_iff, decide_eq_true_iff]
            simp only [Opr.R]
            first | (simp_all; done) | (simp_all; omega) | grind
           ·have p58 := of_decide_eq_false h58
            refine WC.skip (thn_n ?_)
            refine WC.seq ?_
            refine WC.seq ?_
            refine WC.region ?_
            refine W.ok (ok_fieldB fd23_0 rfl) ?_
            refine W.ok (ok_loadB (i := 0) (vs := [.int .i64 _]) ty3 rfl rfl rfl rfl (by simp)) ?_
            refine W.ok (ok_eql rfl rfl) ?_
            refine W.mv ?_
            refine W.sp 65 rfl (fun h64 => ?_) (fun h64 => ?_)
            ·have p64 := of_decide_eq_true h64
             refine W.no (dj := 65) rfl rfl h64 ?_
             refine W.no (dj := 65) rfl rfl h64 ?_
             refine W.no (dj := 65) rfl rfl h64 ?_
             refine W.ok (ok_pick_t rfl h64) ?_
             refine W.nil (thn_n ?_)
             refine WC.cond_t rfl rfl ?_
             refine WC.seq ?_
             refine WC.region ?_
             refine W.ok (ok_loadB (i := 0) (vs := [.int .i64 _, .string _, .string _, .bool _, .string _, .int .i64 _]) ty23 rfl rfl rfl rfl (by simp)) ?_
             refine W.qcall (r7span_fc _ _ _ _ _ _ (by first | assumption | omega | (dsimp only; omega))) rfl ?_
             refine W.qcall (empty_fc _ _ _) rfl ?_
             refine W.ok (ok_not rfl) ?_
             refine W.mv ?_
             refine W.sp 74 rfl (fun h73 => ?_) (fun h73 => ?_)
             ·replace h73 : (!(Opr.span (⟨pk, pkey, phi, po, pv, pl⟩ : Opr)).empty) = true := h73
              refine W.yes (dj := 74) rfl rfl h73 ?_
              refine W.ok (ok_fieldB fd23_3 rfl) ?_
              refine W.yes (dj := 74) rfl rfl h73 ?_
              refine W.ok (ok_loadB (i := 0) (vs := [.bool _]) ty4 rfl rfl rfl rfl (by simp)) ?_
              refine W.yes (dj := 74) rfl rfl h73 ?_
              refine W.ok (ok_not rfl) ?_
              refine W.yes (dj := 74) rfl rfl h73 ?_
              refine W.mv ?_
              refine W.sp 78 rfl (fun h77 => ?_) (fun h77 => ?_)
              ·refine W.no (dj := 78) rfl rfl h77 ?_
               refine W.no (dj := 78) rfl rfl h77 ?_
               refine W.no (dj := 78) rfl rfl h77 ?_
               refine W.yes (dj := 74) rfl rfl h73 ?_
               refine W.ok (ok_pick_t rfl h77) ?_
               refine W.ok (ok_pick_t rfl h73) ?_
               refine W.as ?_
               refine W.nil (thn_n ?_)
               refine WC.ret (thn_r ?_)
               refine ⟨.inr rfl, [_], ⟨rfl, trivial⟩, [], List.nil_sublist _, ?_⟩
               refine congrArg Value.bool ?_
               have hn : ∀ s : Str, s.b = ⟨#[]⟩ ↔ s = Str.nil := fun s => ⟨fun h => Str.ext' h, fun h => by rw [h]; rfl⟩
               rw [Bool.eq_iff_iff, decide_eq_true_iff]
               simp only [Opr.R]
               first | (simp_all; done) | (simp_all; omega) | grind
              ·refine W.yes (dj := 78) rfl rfl h77 ?_
               refine W.ok (ok_fieldB fd23_2 rfl) ?_
               refine W.yes (dj := 78) rfl rfl h77 ?_
               refine W.ok (ok_loadB (i := 0) (vs := [.string _]) ty9 rfl rfl rfl rfl (by simp)) ?_
               refine W.yes (dj := 78) rfl rfl h77 ?_
               refine W.ok (ok_eqlS rfl rfl) ?_
               refine W.yes (dj := 74) rfl rfl h73 ?_
               refine W.ok (ok_pick_f rfl h77) ?_
               refine W.ok (ok_pick_t rfl h73) ?_
               refine W.as ?_
               refine W.nil (thn_n ?_)
               refine WC.ret (thn_r ?_)
               refine ⟨.inr rfl, [_], ⟨rfl, trivial⟩, [], List.nil_sublist _, ?_⟩
               refine congrArg Value.bool ?_
               have hn : ∀ s : Str, s.b = ⟨#[]⟩ ↔ s = Str.nil := fun s => ⟨fun h => Str.ext' h, fun h => by rw [h]; rfl⟩
               rw [Bool.eq_iff_iff, decide_eq_true_iff]
               simp only [Opr.R]
               first | (simp_all; done) | (simp_all; omega) | grind
             ·replace h73 : (!(Opr.span (⟨pk, pkey, phi, po, pv, pl⟩ : Opr)).empty) = false := h73
              refine W.no (dj := 74) rfl rfl h73 ?_
              refine W.no (dj := 74) rfl rfl h73 ?_
              refine W.no (dj := 74) rfl rfl h73 ?_
              refine W.no (dj := 74) rfl rfl h73 ?_
              refine W.nou (dj := 78) rfl rfl ?_
              refine W.nou (dj := 78) rfl rfl ?_
              refine W.nou (dj := 78) rfl rfl ?_
              refine W.no (dj := 74) rfl rfl h73 ?_
              refine W.ok (ok_pick_f rfl h73) ?_
              refine W.as ?_
              refine W.nil (thn_n ?_)
              refine WC.ret (thn_r ?_)
              refine ⟨.inr rfl, [_], ⟨rfl, trivial⟩, [], List.nil_sublist _, ?_⟩
              refine congrArg Value.bool ?_
              have hn : ∀ s : Str, s.b = ⟨#[]⟩ ↔ s = Str.nil := fun s => ⟨fun h => Str.ext' h, fun h => by rw [h]; rfl⟩
              rw [Bool.eq_iff_iff, decide_eq_true_iff]
              simp only [Opr.R]
              first | (simp_all; done) | (simp_all; omega) | grind
            ·have p64 := of_decide_eq_false h64
             refine W.yes (dj := 65) rfl rfl h64 ?_
             refine W.ok (ok_fieldB fd23_0 rfl) ?_
             refine W.yes (dj := 65) rfl rfl h64 ?_
             refine W.ok (ok_loadB (i := 0) (vs := [.int .i64 _]) ty3 rfl rfl rfl rfl (by simp)) ?_
             refine W.yes (dj := 65) rfl rfl h64 ?_
             refine W.ok (ok_eql rfl rfl) ?_
             refine W.ok (ok_pick_f rfl h64) ?_
             refine W.nil (thn_n ?_)
             refine WC.cond (b := _) rfl (fun h68 => ?_) (fun h68 => ?_)
             ·have p68 := of_decide_eq_true h68
              refine WC.seq ?_
              refine WC.region ?_
              refine W.ok (ok_loadB (i := 0) (vs := [.int .i64 _, .string _, .string _, .bool _, .string _, .int .i64 _]) ty23 rfl rfl rfl rfl (by simp)) ?_
              refine W.qcall (r7span_fc _ _ _ _ _ _ (by first | assumption | omega | (dsimp only; omega))) rfl ?_
              refine W.qcall (empty_fc _ _ _) rfl ?_
              refine W.ok (ok_not rfl) ?_
              refine W.mv ?_
              refine W.sp 74 rfl (fun h73 => ?_) (fun h73 => ?_)
              ·replace h73 : (!(Opr.span (⟨pk, pkey, phi, po, pv, pl⟩ : Opr)).empty) = true := h73
               refine W.yes (dj := 74) rfl rfl h73 ?_
               refine W.ok (ok_fieldB fd23_3 rfl) ?_
               refine W.yes (dj := 74) rfl rfl h73 ?_
               refine W.ok (ok_loadB (i := 0) (vs := [.bool _]) ty4 rfl rfl rfl rfl (by simp)) ?_
               refine W.yes (dj := 74) rfl rfl h73 ?_
               refine W.ok (ok_not rfl) ?_
               refine W.yes (dj := 74) rfl rfl h73 ?_
               refine W.mv ?_
               refine W.sp 78 rfl (fun h77 => ?_) (fun h77 => ?_)
               ·refine W.no (dj := 78) rfl rfl h77 ?_
                refine W.no (dj := 78) rfl rfl h77 ?_
                refine W.no (dj := 78) rfl rfl h77 ?_
                refine W.yes (dj := 74) rfl rfl h73 ?_
                refine W.ok (ok_pick_t rfl h77) ?_
                refine W.ok (ok_pick_t rfl h73) ?_
                refine W.as ?_
                refine W.nil (thn_n ?_)
                refine WC.ret (thn_r ?_)
                refine ⟨.inr rfl, [_], ⟨rfl, trivial⟩, [], List.nil_sublist _, ?_⟩
                refine congrArg Value.bool ?_
                have hn : ∀ s : Str, s.b = ⟨#[]⟩ ↔ s = Str.nil := fun s => ⟨fun h => Str.ext' h, fun h => by rw [h]; rfl⟩
                rw [Bool.eq_iff_iff, decide_eq_true_iff]
                simp only [Opr.R]
                first | (simp_all; done) | (simp_all; omega) | grind
               ·refine W.yes (dj := 78) rfl rfl h77 ?_
                refine W.ok (ok_fieldB fd23_2 rfl) ?_
                refine W.yes (dj := 78) rfl rfl h77 ?_
                refine W.ok (ok_loadB (i := 0) (vs := [.string _]) ty9 rfl rfl rfl rfl (by simp)) ?_
                refine W.yes (dj := 78) rfl rfl h77 ?_
                refine W.ok (ok_eqlS rfl rfl) ?_
                refine W.yes (dj := 74) rfl rfl h73 ?_
                refine W.ok (ok_pick_f rfl h77) ?_
                refine W.ok (ok_pick_t rfl h73) ?_
                refine W.as ?_
                refine W.nil (thn_n ?_)
                refine WC.ret (thn_r ?_)
                refine ⟨.inr rfl, [_], ⟨rfl, trivial⟩, [], List.nil_sublist _, ?_⟩
                refine congrArg Value.bool ?_
                have hn : ∀ s : Str, s.b = ⟨#[]⟩ ↔ s = Str.nil := fun s => ⟨fun h => Str.ext' h, fun h => by rw [h]; rfl⟩
                rw [Bool.eq_iff_iff, decide_eq_true_iff]
                simp only [Opr.R]
                first | (simp_all; done) | (simp_all; omega) | grind
              ·replace h73 : (!(Opr.span (⟨pk, pkey, phi, po, pv, pl⟩ : Opr)).empty) = false := h73
               refine W.no (dj := 74) rfl rfl h73 ?_
               refine W.no (dj := 74) rfl rfl h73 ?_
               refine W.no (dj := 74) rfl rfl h73 ?_
               refine W.no (dj := 74) rfl rfl h73 ?_
               refine W.nou (dj := 78) rfl rfl ?_
               refine W.nou (dj := 78) rfl rfl ?_
               refine W.nou (dj := 78) rfl rfl ?_
               refine W.no (dj := 74) rfl rfl h73 ?_
               refine W.ok (ok_pick_f rfl h73) ?_
               refine W.as ?_
               refine W.nil (thn_n ?_)
               refine WC.ret (thn_r ?_)
               refine ⟨.inr rfl, [_], ⟨rfl, trivial⟩, [], List.nil_sublist _, ?_⟩
               refine congrArg Value.bool ?_
               have hn : ∀ s : Str, s.b = ⟨#[]⟩ ↔ s = Str.nil := fun s => ⟨fun h => Str.ext' h, fun h => by rw [h]; rfl⟩
               rw [Bool.eq_iff_iff, decide_eq_true_iff]
               simp only [Opr.R]
               first | (simp_all; done) | (simp_all; omega) | grind
             ·have p68 := of_decide_eq_false h68
              refine WC.skip (thn_n ?_)
              refine WC.seq ?_
              refine WC.region ?_
              refine W.ok (ok_fieldB fd23_2 rfl) ?_
              refine W.ok (ok_loadB (i := 0) (vs := [.string _]) ty9 rfl rfl rfl rfl (by simp)) ?_
              refine W.ok (ok_eqlS rfl rfl) ?_
              refine W.mv ?_
              refine W.sp 87 rfl (fun h86 => ?_) (fun h86 => ?_)
              ·have p86 := of_decide_eq_true h86
               refine W.yes (dj := 87) rfl rfl h86 ?_
               refine W.ok (ok_fieldB fd23_3 rfl) ?_
               refine W.yes (dj := 87) rfl rfl h86 ?_
               refine W.ok (ok_loadB (i := 0) (vs := [.bool _]) ty4 rfl rfl rfl rfl (by simp)) ?_
               refine W.yes (dj := 87) rfl rfl h86 ?_
               refine W.ok (ok_not rfl) ?_
               refine W.ok (ok_pick_t rfl h86) ?_
               refine W.as ?_
               refine W.nil (thn_n ?_)
               refine WC.ret ?_
               refine ⟨.inr rfl, [_], ⟨rfl, trivial⟩, [], List.nil_sublist _, ?_⟩
               refine congrArg Value.bool ?_
               have hn : ∀ s : Str, s.b = ⟨#[]⟩ ↔ s = Str.nil := fun s => ⟨fun h => Str.ext' h, fun h => by rw [h]; rfl⟩
               rw [Bool.eq_iff_iff, decide_eq_true_iff]
               simp only [Opr.R]
               first | (simp_all; done) | (simp_all; omega) | grind
              ·have p86 := of_decide_eq_false h86
               refine W.no (dj := 87) rfl rfl h86 ?_
               refine W.no (dj := 87) rfl rfl h86 ?_
               refine W.no (dj := 87) rfl rfl h86 ?_
               refine W.ok (ok_pick_f rfl h86) ?_
               refine W.as ?_
               refine W.nil (thn_n ?_)
               refine WC.ret ?_
               refine ⟨.inr rfl, [_], ⟨rfl, trivial⟩, [], List.nil_sublist _, ?_⟩
               refine congrArg Value.bool ?_
               have hn : ∀ s : Str, s.b = ⟨#[]⟩ ↔ s = Str.nil := fun s => ⟨fun h => Str.ext' h, fun h => by rw [h]; rfl⟩
               rw [Bool.eq_iff_iff, decide_eq_true_iff]
               simp only [Opr.R]
               first | (simp_all; done) | (simp_all; omega) | grind
         ·have p50 := of_decide_eq_false h50
          refine W.no (dj := 51) rfl rfl h50 ?_
          refine W.no (dj := 51) rfl rfl h50 ?_
          refine W.no (dj := 51) rfl rfl h50 ?_
          refine W.no (dj := 51) rfl rfl h50 ?_
          refine W.nou (dj := 55) rfl rfl ?_
          refine W.nou (dj := 55) rfl rfl ?_
          refine W.nou (dj := 55) rfl rfl ?_
          refine W.no (dj := 51) rfl rfl h50 ?_
          refine W.yes (dj := 47) rfl rfl rfl ?_
          refine W.ok (ok_pick_f rfl h50) ?_
          refine W.ok (ok_pick_f rfl rfl) ?_
          refine W.nil (thn_n ?_)
          refine WC.cond_f rfl rfl ?_
          refine WC.skip (thn_n ?_)
          refine WC.seq ?_
          refine WC.seq ?_
          refine WC.region ?_
          refine W.ok (ok_fieldB fd23_0 rfl) ?_
          refine W.ok (ok_loadB (i := 0) (vs := [.int .i64 _]) ty3 rfl rfl rfl rfl (by simp)) ?_
          refine W.ok (ok_eql rfl rfl) ?_
          refine W.mv ?_
          refine W.sp 65 rfl (fun h64 => ?_) (fun h64 => ?_)
          ·have p64 := of_decide_eq_true h64
           refine W.no (dj := 65) rfl rfl h64 ?_
           refine W.no (dj := 65) rfl rfl h64 ?_
           refine W.no (dj := 65) rfl rfl h64 ?_
           refine W.ok (ok_pick_t rfl h64) ?_
           refine W.nil (thn_n ?_)
           refine WC.cond_t rfl rfl ?_
           refine WC.seq ?_
           refine WC.region ?_
           refine W.ok (ok_loadB (i := 0) (vs := [.int .i64 _, .string _, .string _, .bool _, .string _, .int .i64 _]) ty23 rfl rfl rfl rfl (by simp)) ?_
           refine W.qcall (r7span_fc _ _ _ _ _ _ (by first | assumption | omega | (dsimp only; omega))) rfl ?_
           refine W.qcall (empty_fc _ _ _) rfl ?_
           refine W.ok (ok_not rfl) ?_
           refine W.mv ?_
           refine W.sp 74 rfl (fun h73 => ?_) (fun h73 => ?_)
           ·replace h73 : (!(Opr.span (⟨pk, pkey, phi, po, pv, pl⟩ : Opr)).empty) = true := h73
            refine W.yes (dj := 74) rfl rfl h73 ?_
            refine W.ok (ok_fieldB fd23_3 rfl) ?_
            refine W.yes (dj := 74) rfl rfl h73 ?_
            refine W.ok (ok_loadB (i := 0) (vs := [.bool _]) ty4 rfl rfl rfl rfl (by simp)) ?_
            refine W.yes (dj := 74) rfl rfl h73 ?_
            refine W.ok (ok_not rfl) ?_
            refine W.yes (dj := 74) rfl rfl h73 ?_
            refine W.mv ?_
            refine W.sp 78 rfl (fun h77 => ?_) (fun h77 => ?_)
            ·refine W.no (dj := 78) rfl rfl h77 ?_
             refine W.no (dj := 78) rfl rfl h77 ?_
             refine W.no (dj := 78) rfl rfl h77 ?_
             refine W.yes (dj := 74) rfl rfl h73 ?_
             refine W.ok (ok_pick_t rfl h77) ?_
             refine W.ok (ok_pick_t rfl h73) ?_
             refine W.as ?_
             refine W.nil (thn_n ?_)
             refine WC.ret (thn_r ?_)
             refine ⟨.inr rfl, [_], ⟨rfl, trivial⟩, [], List.nil_sublist _, ?_⟩
             refine congrArg Value.bool ?_
             have hn : ∀ s : Str, s.b = ⟨#[]⟩ ↔ s = Str.nil := fun s => ⟨fun h => Str.ext' h, fun h => by rw [h]; rfl⟩
             rw [Bool.eq_iff_iff, decide_eq_true_iff]
             simp only [Opr.R]
             first | (simp_all; done) | (simp_all; omega) | grind
            ·refine W.yes (dj := 78) rfl rfl h77 ?_
             refine W.ok (ok_fieldB fd23_2 rfl) ?_
             refine W.yes (dj := 78) rfl rfl h77 ?_
             refine W.ok (ok_loadB (i := 0) (vs := [.string _]) ty9 rfl rfl rfl rfl (by simp)) ?_
             refine W.yes (dj := 78) rfl rfl h77 ?_
             refine W.ok (ok_eqlS rfl rfl) ?_
             refine W.yes (dj := 74) rfl rfl h73 ?_
             refine W.ok (ok_pick_f rfl h77) ?_
             refine W.ok (ok_pick_t rfl h73) ?_
             refine W.as ?_
             refine W.nil (thn_n ?_)
             refine WC.ret (thn_r ?_)
             refine ⟨.inr rfl, [_], ⟨rfl, trivial⟩, [], List.nil_sublist _, ?_⟩
             refine congrArg Value.bool ?_
             have hn : ∀ s : Str, s.b = ⟨#[]⟩ ↔ s = Str.nil := fun s => ⟨fun h => Str.ext' h, fun h => by rw [h]; rfl⟩
             rw [Bool.eq_iff_iff, decide_eq_true_iff]
             simp only [Opr.R]
             first | (simp_all; done) | (simp_all; omega) | grind
           ·replace h73 : (!(Opr.span (⟨pk, pkey, phi, po, pv, pl⟩ : Opr)).empty) = false := h73
            refine W.no (dj := 74) rfl rfl h73 ?_
            refine W.no (dj := 74) rfl rfl h73 ?_
            refine W.no (dj := 74) rfl rfl h73 ?_
            refine W.no (dj := 74) rfl rfl h73 ?_
            refine W.nou (dj := 78) rfl rfl ?_
            refine W.nou (dj := 78) rfl rfl ?_
            refine W.nou (dj := 78) rfl rfl ?_
            refine W.no (dj := 74) rfl rfl h73 ?_
            refine W.ok (ok_pick_f rfl h73) ?_
            refine W.as ?_
            refine W.nil (thn_n ?_)
            refine WC.ret (thn_r ?_)
            refine ⟨.inr rfl, [_], ⟨rfl, trivial⟩, [], List.nil_sublist _, ?_⟩
            refine congrArg Value.bool ?_
            have hn : ∀ s : Str, s.b = ⟨#[]⟩ ↔ s = Str.nil := fun s => ⟨fun h => Str.ext' h, fun h => by rw [h]; rfl⟩
            rw [Bool.eq_iff_iff, decide_eq_true_iff]
            simp only [Opr.R]
            first | (simp_all; done) | (simp_all; omega) | grind
          ·have p64 := of_decide_eq_false h64
           refine W.yes (dj := 65) rfl rfl h64 ?_
           refine W.ok (ok_fieldB fd23_0 rfl) ?_
           refine W.yes (dj := 65) rfl rfl h64 ?_
           refine W.ok (ok_loadB (i := 0) (vs := [.int .i64 _]) ty3 rfl rfl rfl rfl (by simp)) ?_
           refine W.yes (dj := 65) rfl rfl h64 ?_
           refine W.ok (ok_eql rfl rfl) ?_
           refine W.ok (ok_pick_f rfl h64) ?_
           refine W.nil (thn_n ?_)
           refine WC.cond (b := _) rfl (fun h68 => ?_) (fun h68 => ?_)
           ·have p68 := of_decide_eq_true h68
            refine WC.seq ?_
            refine WC.region ?_
            refine W.ok (ok_loadB (i := 0) (vs := [.int .i64 _, .string _, .string _, .bool _, .string _, .int .i64 _]) ty23 rfl rfl rfl rfl (by simp)) ?_
            refine W.qcall (r7span_fc _ _ _ _ _ _ (by first | assumption | omega | (dsimp only; omega))) rfl ?_
            refine W.qcall (empty_fc _ _ _) rfl ?_
            refine W.ok (ok_not rfl) ?_
            refine W.mv ?_
            refine W.sp 74 rfl (fun h73 => ?_) (fun h73 => ?_)
            ·replace h73 : (!(Opr.span (⟨pk, pkey, phi, po, pv, pl⟩ : Opr)).empty) = true := h73
             refine W.yes (dj := 74) rfl rfl h73 ?_
             refine W.ok (ok_fieldB fd23_3 rfl) ?_
             refine W.yes (dj := 74) rfl rfl h73 ?_
             refine W.ok (ok_loadB (i := 0) (vs := [.bool _]) ty4 rfl rfl rfl rfl (by simp)) ?_
             refine W.yes (dj := 74) rfl rfl h73 ?_
             refine W.ok (ok_not rfl) ?_
             refine W.yes (dj := 74) rfl rfl h73 ?_
             refine W.mv ?_
             refine W.sp 78 rfl (fun h77 => ?_) (fun h77 => ?_)
             ·refine W.no (dj := 78) rfl rfl h77 ?_
              refine W.no (dj := 78) rfl rfl h77 ?_
              refine W.no (dj := 78) rfl rfl h77 ?_
              refine W.yes (dj := 74) rfl rfl h73 ?_
              refine W.ok (ok_pick_t rfl h77) ?_
              refine W.ok (ok_pick_t rfl h73) ?_
              refine W.as ?_
              refine W.nil (thn_n ?_)
              refine WC.ret (thn_r ?_)
              refine ⟨.inr rfl, [_], ⟨rfl, trivial⟩, [], List.nil_sublist _, ?_⟩
              refine congrArg Value.bool ?_
              have hn : ∀ s : Str, s.b = ⟨#[]⟩ ↔ s = Str.nil := fun s => ⟨fun h => Str.ext' h, fun h => by rw [h]; rfl⟩
              rw [Bool.eq_iff_iff, decide_eq_true_iff]
              simp only [Opr.R]
              first | (simp_all; done) | (simp_all; omega) | grind
             ·refine W.yes (dj := 78) rfl rfl h77 ?_
              refine W.ok (ok_fieldB fd23_2 rfl) ?_
              refine W.yes (dj := 78) rfl rfl h77 ?_
              refine W.ok (ok_loadB (i := 0) (vs := [.string _]) ty9 rfl rfl rfl rfl (by simp)) ?_
              refine W.yes (dj := 78) rfl rfl h77 ?_
              refine W.ok (ok_eqlS rfl rfl) ?_
              refine W.yes (dj := 74) rfl rfl h73 ?_
              refine W.ok (ok_pick_f rfl h77) ?_
              refine W.ok (ok_pick_t rfl h73) ?_
              refine W.as ?_
              refine W.nil (thn_n ?_)
              refine WC.ret (thn_r ?_)
              refine ⟨.inr rfl, [_], ⟨rfl, trivial⟩, [], List.nil_sublist _, ?_⟩
              refine congrArg Value.bool ?_
              have hn : ∀ s : Str, s.b = ⟨#[]⟩ ↔ s = Str.nil := fun s => ⟨fun h => Str.ext' h, fun h => by rw [h]; rfl⟩
              rw [Bool.eq_iff_iff, decide_eq_true_iff]
              simp only [Opr.R]
              first | (simp_all; done) | (simp_all; omega) | grind
            ·replace h73 : (!(Opr.span (⟨pk, pkey, phi, po, pv, pl⟩ : Opr)).empty) = false := h73
             refine W.no (dj := 74) rfl rfl h73 ?_
             refine W.no (dj := 74) rfl rfl h73 ?_
             refine W.no (dj := 74) rfl rfl h73 ?_
             refine W.no (dj := 74) rfl rfl h73 ?_
             refine W.nou (dj := 78) rfl rfl ?_
             refine W.nou (dj := 78) rfl rfl ?_
             refine W.nou (dj := 78) rfl rfl ?_
             refine W.no (dj := 74) rfl rfl h73 ?_
             refine W.ok (ok_pick_f rfl h73) ?_
             refine W.as ?_
             refine W.nil (thn_n ?_)
             refine WC.ret (thn_r ?_)
             refine ⟨.inr rfl, [_], ⟨rfl, trivial⟩, [], List.nil_sublist _, ?_⟩
             refine congrArg Value.bool ?_
             have hn : ∀ s : Str, s.b = ⟨#[]⟩ ↔ s = Str.nil := fun s => ⟨fun h => Str.ext' h, fun h => by rw [h]; rfl⟩
             rw [Bool.eq_iff_iff, decide_eq_true_iff]
             simp only [Opr.R]
             first | (simp_all; done) | (simp_all; omega) | grind
           ·have p68 := of_decide_eq_false h68
            refine WC.skip (thn_n ?_)
            refine WC.seq ?_
            refine WC.region ?_
            refine W.ok (ok_fieldB fd23_2 rfl) ?_
            refine W.ok (ok_loadB (i := 0) (vs := [.string _]) ty9 rfl rfl rfl rfl (by simp)) ?_
            refine W.ok (ok_eqlS rfl rfl) ?_
            refine W.mv ?_
            refine W.sp 87 rfl (fun h86 => ?_) (fun h86 => ?_)
            ·have p86 := of_decide_eq_true h86
             refine W.yes (dj := 87) rfl rfl h86 ?_
             refine W.ok (ok_fieldB fd23_3 rfl) ?_
             refine W.yes (dj := 87) rfl rfl h86 ?_
             refine W.ok (ok_loadB (i := 0) (vs := [.bool _]) ty4 rfl rfl rfl rfl (by simp)) ?_
             refine W.yes (dj := 87) rfl rfl h86 ?_
             refine W.ok (ok_not rfl) ?_
             refine W.ok (ok_pick_t rfl h86) ?_
             refine W.as ?_
             refine W.nil (thn_n ?_)
             refine WC.ret ?_
             refine ⟨.inr rfl, [_], ⟨rfl, trivial⟩, [], List.nil_sublist _, ?_⟩
             refine congrArg Value.bool ?_
             have hn : ∀ s : Str, s.b = ⟨#[]⟩ ↔ s = Str.nil := fun s => ⟨fun h => Str.ext' h, fun h => by rw [h]; rfl⟩
             rw [Bool.eq_iff_iff, decide_eq_true_iff]
             simp only [Opr.R]
             first | (simp_all; done) | (simp_all; omega) | grind
            ·have p86 := of_decide_eq_false h86
             refine W.no (dj := 87) rfl rfl h86 ?_
             refine W.no (dj := 87) rfl rfl h86 ?_
             refine W.no (dj := 87) rfl rfl h86 ?_
             refine W.ok (ok_pick_f rfl h86) ?_
             refine W.as ?_
             refine W.nil (thn_n ?_)
             refine WC.ret ?_
             refine ⟨.inr rfl, [_], ⟨rfl, trivial⟩, [], List.nil_sublist _, ?_⟩
             refine congrArg Value.bool ?_
             have hn : ∀ s : Str, s.b = ⟨#[]⟩ ↔ s = Str.nil := fun s => ⟨fun h => Str.ext' h, fun h => by rw [h]; rfl⟩
             rw [Bool.eq_iff_iff, decide_eq_true_iff]
             simp only [Opr.R]
             first | (simp_all; done) | (simp_all; omega) | grind
      ·have p31 := of_decide_eq_false h31
       refine W.no (dj := 32) rfl rfl h31 ?_
       refine W.no (dj := 32) rfl rfl h31 ?_
       refine W.no (dj := 32) rfl rfl h31 ?_
       refine W.ok (ok_pick_f rfl h31) ?_
       refine W.mv ?_
       refine W.yes (dj := 37) rfl rfl rfl ?_
       refine W.ok (ok_fieldB fd23_0 rfl) ?_
       refine W.yes (dj := 37) rfl rfl rfl ?_
       refine W.ok (ok_loadB (i := 0) (vs := [.int .i64 _]) ty3 rfl rfl rfl rfl (by simp)) ?_
       refine W.yes (dj := 37) rfl rfl rfl ?_
       refine W.ok (ok_neq rfl rfl) ?_
       refine W.yes (dj := 37) rfl rfl rfl ?_
       refine W.mv ?_
       refine W.sp 41 rfl (fun h40 => ?_) (fun h40 => ?_)
       ·have p40 := nd_t h40
        refine W.yes (dj := 41) rfl rfl h40 ?_
        refine W.ok (ok_fieldB fd23_5 rfl) ?_
        refine W.yes (dj := 41) rfl rfl h40 ?_
        refine W.ok (ok_loadB (i := 0) (vs := [.int .i64 _]) ty3 rfl rfl rfl rfl (by simp)) ?_
        refine W.yes (dj := 41) rfl rfl h40 ?_
        refine W.ok (ok_neq rfl rfl) ?_
        refine W.yes (dj := 37) rfl rfl rfl ?_
        refine W.ok (ok_pick_t rfl h40) ?_
        refine W.ok (ok_pick_f rfl rfl) ?_
        refine W.mv ?_
        refine W.sp 47 rfl (fun h44 => ?_) (fun h44 => ?_)
        ·have p44 := nd_t h44
         refine W.no (dj := 47) rfl rfl h44 ?_
         refine W.no (dj := 47) rfl rfl h44 ?_
         refine W.no (dj := 47) rfl rfl h44 ?_
         refine W.no (dj := 47) rfl rfl h44 ?_
         refine W.nou (dj := 51) rfl rfl ?_
         refine W.nou (dj := 51) rfl rfl ?_
         refine W.nou (dj := 51) rfl rfl ?_
         refine W.nou (dj := 51) rfl rfl ?_
         refine W.nou (dj := 55) rfl rfl ?_
         refine W.nou (dj := 55) rfl rfl ?_
         refine W.nou (dj := 55) rfl rfl ?_
         refine W.nou (dj := 51) rfl rfl ?_
         refine W.no (dj := 47) rfl rfl h44 ?_
         refine W.ok (ok_pick_t rfl h44) ?_
         refine W.nil (thn_n ?_)
         refine WC.cond_t rfl rfl ?_
         refine WC.seq ?_
         refine WC.region ?_
         refine W.as ?_
         refine W.nil (thn_n ?_)
         refine WC.ret (thn_r ?_)
         refine ⟨.inr rfl, [_], ⟨rfl, trivial⟩, [], List.nil_sublist _, ?_⟩
         refine congrArg Value.bool ?_
         have hn : ∀ s : Str, s.b = ⟨#[]⟩ ↔ s = Str.nil := fun s => ⟨fun h => Str.ext' h, fun h => by rw [h]; rfl⟩
         rw [Bool.eq_iff_iff, decide_eq_true_iff]
         simp only [Opr.R]
         first | (simp_all; done) | (simp_all; omega) | grind
        ·have p44 := nd_f h44
         refine W.yes (dj := 47) rfl rfl h44 ?_
         refine W.ok (ok_fieldB fd23_0 rfl) ?_
         refine W.yes (dj := 47) rfl rfl h44 ?_
         refine W.ok (ok_loadB (i := 0) (vs := [.int .i64 _]) ty3 rfl rfl rfl rfl (by simp)) ?_
         refine W.yes (dj := 47) rfl rfl h44 ?_
         refine W.ok (ok_eql rfl rfl) ?_
         refine W.yes (dj := 47) rfl rfl h44 ?_
         refine W.mv ?_
         refine W.sp 51 rfl (fun h50 => ?_) (fun h50 => ?_)
         ·have p50 := of_decide_eq_true h50
          refine W.yes (dj := 51) rfl rfl h50 ?_
          refine W.ok (ok_fieldB fd23_5 rfl) ?_
          refine W.yes (dj := 51) rfl rfl h50 ?_
          refine W.ok (ok_loadB (i := 0) (vs := [.int .i64 _]) ty3 rfl rfl rfl rfl (by simp)) ?_
          refine W.yes (dj := 51) rfl rfl h50 ?_
          refine W.ok (ok_lss rfl rfl) ?_
          refine W.yes (dj := 51) rfl rfl h50 ?_
          refine W.mv ?_
          refine W.sp 55 rfl (fun h54 => ?_) (fun h54 => ?_)
          ·have p54 := of_decide_eq_true h54
           refine W.no (dj := 55) rfl rfl h54 ?_
           refine W.no (dj := 55) rfl rfl h54 ?_
           refine W.no (dj := 55) rfl rfl h54 ?_
           refine W.yes (dj := 51) rfl rfl h50 ?_
           refine W.ok (ok_pick_t rfl h54) ?_
           refine W.yes (dj := 47) rfl rfl h44 ?_
           refine W.ok (ok_pick_t rfl h50) ?_
           refine W.ok (ok_pick_f rfl h44) ?_
           refine W.nil (thn_n ?_)
           refine WC.cond_t rfl rfl ?_
           refine WC.seq ?_
           refine WC.region ?_
           refine W.as ?_
           refine W.nil (thn_n ?_)
           refine WC.ret (thn_r ?_)
           refine ⟨.inr rfl, [_], ⟨rfl, trivial⟩, [], List.nil_sublist _, ?_⟩
           refine congrArg Value.bool ?_
           have hn : ∀ s : Str, s.b = ⟨#[]⟩ ↔ s = Str.nil := fun s => ⟨fun h => Str.ext' h, fun h => by rw [h]; rfl⟩
           rw [Bool.eq_iff_iff, decide_eq_true_iff]
           simp only [Opr.R]
           first | (simp_all; done) | (simp_all; omega) | grind
          ·have p54 := of_decide_eq_false h54
           refine W.yes (dj := 55) rfl rfl h54 ?_
           refine W.ok (ok_fieldB fd23_5 rfl) ?_
           refine W.yes (dj := 55) rfl rfl h54 ?_
           refine W.ok (ok_loadB (i := 0) (vs := [.int .i64 _]) ty3 rfl rfl rfl rfl (by simp)) ?_
           refine W.yes (dj := 55) rfl rfl h54 ?_
           refine W.ok (ok_gtr rfl rfl) ?_
           refine W.yes (dj := 51) rfl rfl h50 ?_
           refine W.ok (ok_pick_f rfl h54) ?_
           refine W.yes (dj := 47) rfl rfl h44 ?_
           refine W.ok (ok_pick_t rfl h50) ?_
           refine W.ok (ok_pick_f rfl h44) ?_
           refine W.nil (thn_n ?_)
           refine WC.cond (b := _) rfl (fun h58 => ?_) (fun h58 => ?_)
           ·have p58 := of_decide_eq_true h58
            refine WC.seq ?_
            refine WC.region ?_
            refine W.as ?_
            refine W.nil (thn_n ?_)
            refine WC.ret (thn_r ?_)
            refine ⟨.inr rfl, [_], ⟨rfl, trivial⟩, [], List.nil_sublist _, ?_⟩
            refine congrArg Value.bool ?_
            have hn : ∀ s : Str, s.b = ⟨#[]⟩ ↔ s = Str.nil := fun s => ⟨fun h => Str.ext' h, fun h => by rw [h]; rfl⟩
            rw [Bool.eq_iff_iff, decide_eq_true_iff]
            simp only [Opr.R]
            first | (simp_all; done) | (simp_all; omega) | grind
           ·have p58 := of_decide_eq_false h58
            refine WC.skip (thn_n ?_)
            refine WC.seq ?_
            refine WC.seq ?_
            refine WC.region ?_
            refine W.ok (ok_fieldB fd23_0 rfl) ?_
            refine W.ok (ok_loadB (i := 0) (vs := [.int .i64 _]) ty3 rfl rfl rfl rfl (by simp)) ?_
            refine W.ok (ok_eql rfl rfl) ?_
            refine W.mv ?_
            refine W.sp 65 rfl (fun h64 => ?_) (fun h64 => ?_)
            ·have p64 := of_decide_eq_true h64
             refine W.no (dj := 65) rfl rfl h64 ?_
             refine W.no (dj := 65) rfl rfl h64 ?_
             refine W.no (dj := 65) rfl rfl h64 ?_
             refine W.ok (ok_pick_t rfl h64) ?_
             refine W.nil (thn_n ?_)
             refine WC.cond_t rfl rfl ?_
             refine WC.seq ?_
             refine WC.region ?_
             refine W.ok (ok_loadB (i := 0) (vs := [.int .i64 _, .string _, .string _, .bool _, .string _, .int .i64 _]) ty23 rfl rfl rfl rfl (by simp)) ?_
             refine W.qcall (r7span_fc _ _ _ _ _ _ (by first | assumption | omega | (dsimp only; omega))) rfl ?_
             refine W.qcall (empty_fc _ _ _) rfl ?_
             refine W.ok (ok_not rfl) ?_
             refine W.mv ?_
             refine W.sp 74 rfl (fun h73 => ?_) (fun h73 => ?_)
             ·replace h73 : (!(Opr.span (⟨pk, pkey, phi, po, pv, pl⟩ : Opr)).empty) = true := h73
              refine W.yes (dj := 74) rfl rfl h73 ?_
              refine W.ok (ok_fieldB fd23_3 rfl) ?_
              refine W.yes (dj := 74) rfl rfl h73 ?_
              refine W.ok (ok_loadB (i := 0) (vs := [.bool _]) ty4 rfl rfl rfl rfl (by simp)) ?_
              refine W.yes (dj := 74) rfl rfl h73 ?_
              refine W.ok (ok_not rfl) ?_
              refine W.yes (dj := 74) rfl rfl h73 ?_
              refine W.mv ?_
              refine W.sp 78 rfl (fun h77 => ?_) (fun h77 => ?_)
              ·refine W.no (dj := 78) rfl rfl h77 ?_
               refine W.no (dj := 78) rfl rfl h77 ?_
               refine W.no (dj := 78) rfl rfl h77 ?_
               refine W.yes (dj := 74) rfl rfl h73 ?_
               refine W.ok (ok_pick_t rfl h77) ?_
               refine W.ok (ok_pick_t rfl h73) ?_
               refine W.as ?_
               refine W.nil (thn_n ?_)
               refine WC.ret (thn_r ?_)
               refine ⟨.inr rfl, [_], ⟨rfl, trivial⟩, [], List.nil_sublist _, ?_⟩
               refine congrArg Value.bool ?_
               have hn : ∀ s : Str, s.b = ⟨#[]⟩ ↔ s = Str.nil := fun s => ⟨fun h => Str.ext' h, fun h => by rw [h]; rfl⟩
               rw [Bool.eq_iff_iff, decide_eq_true_iff]
               simp only [Opr.R]
               first | (simp_all; done) | (simp_all; omega) | grind
              ·refine W.yes (dj := 78) rfl rfl h77 ?_
               refine W.ok (ok_fieldB fd23_2 rfl) ?_
               refine W.yes (dj := 78) rfl rfl h77 ?_
               refine W.ok (ok_loadB (i := 0) (vs := [.string _]) ty9 rfl rfl rfl rfl (by simp)) ?_
               refine W.yes (dj := 78) rfl rfl h77 ?_
               refine W.ok (ok_eqlS rfl rfl) ?_
               refine W.yes (dj := 74) rfl rfl h73 ?_
               refine W.ok (ok_pick_f rfl h77) ?_
               refine W.ok (ok_pick_t rfl h73) ?_
               refine W.as ?_
               refine W.nil (thn_n ?_)
               refine WC.ret (thn_r ?_)
               refine ⟨.inr rfl, [_], ⟨rfl, trivial⟩, [], List.nil_sublist _, ?_⟩
               refine congrArg Value.bool ?_
               have hn : ∀ s : Str, s.b = ⟨#[]⟩ ↔ s = Str.nil := fun s => ⟨fun h => Str.ext' h, fun h => by rw [h]; rfl⟩
               rw [Bool.eq_iff_iff, decide_eq_true_iff]
               simp only [Opr.R]
               first | (simp_all; done) | (simp_all; omega) | grind
             ·replace h73 : (!(Opr.span (⟨pk, pkey, phi, po, pv, pl⟩ : Opr)).empty) = false := h73
              refine W.no (dj := 74) rfl rfl h73 ?_
              refine W.no (dj := 74) rfl rfl h73 ?_
              refine W.no (dj := 74) rfl rfl h73 ?_
              refine W.no (dj := 74) rfl rfl h73 ?_
              refine W.nou (dj := 78) rfl rfl ?_
              refine W.nou (dj := 78) rfl rfl ?_
              refine W.nou (dj := 78) rfl rfl ?_
              refine W.no (dj := 74) rfl rfl h73 ?_
              refine W.ok (ok_pick_f rfl h73) ?_
              refine W.as ?_
              refine W.nil (thn_n ?_)
              refine WC.ret (thn_r ?_)
              refine ⟨.inr rfl, [_], ⟨rfl, trivial⟩, [], List.nil_sublist _, ?_⟩
              refine congrArg Value.bool ?_
              have hn : ∀ s : Str, s.b = ⟨#[]⟩ ↔ s = Str.nil := fun s => ⟨fun h => Str.ext' h, fun h => by rw [h]; rfl⟩
              rw [Bool.eq_iff_iff, decide_eq_true_iff]
              simp only [Opr.R]
              first | (simp_all; done) | (simp_all; omega) | grind
            ·have p64 := of_decide_eq_false h64
             refine W.yes (dj := 65) rfl rfl h64 ?_
             refine W.ok (ok_fieldB fd23_0 rfl) ?_
             refine W.yes (dj := 65) rfl rfl h64 ?_
             refine W.ok (ok_loadB (i := 0) (vs := [.int .i64 _]) ty3 rfl rfl rfl rfl (by simp)) ?_
             refine W.yes (dj := 65) rfl rfl h64 ?_
             refine W.ok (ok_eql rfl rfl) ?_
             refine W.ok (ok_pick_f rfl h64) ?_
             refine W.nil (thn_n ?_)
             refine WC.cond (b := _) rfl (fun h68 => ?_) (fun h68 => ?_)
             ·have p68 := of_decide_eq_true h68
              refine WC.seq ?_
              refine WC.region ?_
              refine W.ok (ok_loadB (i := 0) (vs := [.int .i64 _, .string _, .string _, .bool _, .string _, .int .i64 _]) ty23 rfl rfl rfl rfl (by simp)) ?_
              refine W.qcall (r7span_fc _ _ _ _ _ _ (by first | assumption | omega | (dsimp only; omega))) rfl ?_
              refine W.qcall (empty_fc _ _ _) rfl ?_
              refine W.ok (ok_not rfl) ?_
              refine W.mv ?_
              refine W.sp 74 rfl (fun h73 => ?_) (fun h73 => ?_)
              ·replace h73 : (!(Opr.span (⟨pk, pkey, phi, po, pv, pl⟩ : Opr)).empty) = true := h73
               refine W.yes (dj := 74) rfl rfl h73 ?_
               refine W.ok (ok_fieldB fd23_3 rfl) ?_
               refine W.yes (dj := 74) rfl rfl h73 ?_
               refine W.ok (ok_loadB (i := 0) (vs := [.bool _]) ty4 rfl rfl rfl rfl (by simp)) ?_
               refine W.yes (dj := 74) rfl rfl h73 ?_
               refine W.ok (ok_not rfl) ?_
               refine W.yes (dj := 74) rfl rfl h73 ?_
               refine W.mv ?_
               refine W.sp 78 rfl (fun h77 => ?_) (fun h77 => ?_)
               ·refine W.no (dj := 78) rfl rfl h77 ?_
                refine W.no (dj := 78) rfl rfl h77 ?_
                refine W.no (dj := 78) rfl rfl h77 ?_
                refine W.yes (dj := 74) rfl rfl h73 ?_
                refine W.ok (ok_pick_t rfl h77) ?_
                refine W.ok (ok_pick_t rfl h73) ?_
                refine W.as ?_
                refine W.nil (thn_n ?_)
                refine WC.ret (thn_r ?_)
                refine ⟨.inr rfl, [_], ⟨rfl, trivial⟩, [], List.nil_sublist _, ?_⟩
                refine congrArg Value.bool ?_
                have hn : ∀ s : Str, s.b = ⟨#[]⟩ ↔ s = Str.nil := fun s => ⟨fun h => Str.ext' h, fun h => by rw [h]; rfl⟩
                rw [Bool.eq_iff_iff, decide_eq_true_iff]
                simp only [Opr.R]
                first | (simp_all; done) | (simp_all; omega) | grind
               ·refine W.yes (dj := 78) rfl rfl h77 ?_
                refine W.ok (ok_fieldB fd23_2 rfl) ?_
                refine W.yes (dj := 78) rfl rfl h77 ?_
                refine W.ok (ok_loadB (i := 0) (vs := [.string _]) ty9 rfl rfl rfl rfl (by simp)) ?_
                refine W.yes (dj := 78) rfl rfl h77 ?_
                refine W.ok (ok_eqlS rfl rfl) ?_
                refine W.yes (dj := 74) rfl rfl h73 ?_
                refine W.ok (ok_pick_f rfl h77) ?_
                refine W.ok (ok_pick_t rfl h73) ?_
                refine W.as ?_
                refine W.nil (thn_n ?_)
                refine WC.ret (thn_r ?_)
                refine ⟨.inr rfl, [_], ⟨rfl, trivial⟩, [], List.nil_sublist _, ?_⟩
                refine congrArg Value.bool ?_
                have hn : ∀ s : Str, s.b = ⟨#[]⟩ ↔ s = Str.nil := fun s => ⟨fun h => Str.ext' h, fun h => by rw [h]; rfl⟩
                rw [Bool.eq_iff_iff, decide_eq_true_iff]
                simp only [Opr.R]
                first | (simp_all; done) | (simp_all; omega) | grind
              ·replace h73 : (!(Opr.span (⟨pk, pkey, phi, po, pv, pl⟩ : Opr)).empty) = false := h73
               refine W.no (dj := 74) rfl rfl h73 ?_
               refine W.no (dj := 74) rfl rfl h73 ?_
               refine W.no (dj := 74) rfl rfl h73 ?_
               refine W.no (dj := 74) rfl rfl h73 ?_
               refine W.nou (dj := 78) rfl rfl ?_
               refine W.nou (dj := 78) rfl rfl ?_
               refine W.nou (dj := 78) rfl rfl ?_
               refine W.no (dj := 74) rfl rfl h73 ?_
               refine W.ok (ok_pick_f rfl h73) ?_
               refine W.as ?_
               refine W.nil (thn_n ?_)
               refine WC.ret (thn_r ?_)
               refine ⟨.inr rfl, [_], ⟨rfl, trivial⟩, [], List.nil_sublist _, ?_⟩
               refine congrArg Value.bool ?_
               have hn : ∀ s : Str, s.b = ⟨#[]⟩ ↔ s = Str.nil := fun s => ⟨fun h => Str.ext' h, fun h => by rw [h]; rfl⟩
               rw [Bool.eq_iff_iff, decide_eq_true_iff]
               simp only [Opr.R]
               first | (simp_all; done) | (simp_all; omega) | grind
             ·have p68 := of_decide_eq_false h68
              refine WC.skip (thn_n ?_)
              refine WC.seq ?_
              refine WC.region ?_
              refine W.ok (ok_fieldB fd23_2 rfl) ?_
              refine W.ok (ok_loadB (i := 0) (vs := [.string _]) ty9 rfl rfl rfl rfl (by simp)) ?_
              refine W.ok (ok_eqlS rfl rfl) ?_
              refine W.mv ?_
              refine W.sp 87 rfl (fun h86 => ?_) (fun h86 => ?_)
              ·have p86 := of_decide_eq_true h86
               refine W.yes (dj := 87) rfl rfl h86 ?_
               refine W.ok (ok_fieldB fd23_3 rfl) ?_
               refine W.yes (dj := 87) rfl rfl h86 ?_
               refine W.ok (ok_loadB (i := 0) (vs := [.bool _]) ty4 rfl rfl rfl rfl (by simp)) ?_
               refine W.yes (dj := 87) rfl rfl h86 ?_
               refine W.ok (ok_not rfl) ?_
               refine W.ok (ok_pick_t rfl h86) ?_
               refine W.as ?_
               refine W.nil (thn_n ?_)
               refine WC.ret ?_
               refine ⟨.inr rfl, [_], ⟨rfl, trivial⟩, [], List.nil_sublist _, ?_⟩
               refine congrArg Value.bool ?_
               have hn : ∀ s : Str, s.b = ⟨#[]⟩ ↔ s = Str.nil := fun s => ⟨fun h => Str.ext' h, fun h => by rw [h]; rfl⟩
               rw [Bool.eq_iff_iff, decide_eq_true_iff]
               simp only [Opr.R]
               first | (simp_all; done) | (simp_all; omega) | grind
              ·have p86 := of_decide_eq_false h86
               refine W.no (dj := 87) rfl rfl h86 ?_
               refine W.no (dj := 87) rfl rfl h86 ?_
               refine W.no (dj := 87) rfl rfl h86 ?_
               refine W.ok (ok_pick_f rfl h86) ?_
               refine W.as ?_
               refine W.nil (thn_n ?_)
               refine WC.ret ?_
               refine ⟨.inr rfl, [_], ⟨rfl, trivial⟩, [], List.nil_sublist _, ?_⟩
               refine congrArg Value.bool ?_
               have hn : ∀ s : Str, s.b = ⟨#[]⟩ ↔ s = Str.nil := fun s => ⟨fun h => Str.ext' h, fun h => by rw [h]; rfl⟩
               rw [Bool.eq_iff_iff, decide_eq_true_iff]
               simp only [Opr.R]
               first | (simp_all; done) | (simp_all; omega) | grind
         ·have p50 := of_decide_eq_false h50
          refine W.no (dj := 51) rfl rfl h50 ?_
          refine W.no (dj := 51) rfl rfl h50 ?_
          refine W.no (dj := 51) rfl rfl h50 ?_
          refine W.no (dj := 51) rfl rfl h50 ?_
          refine W.nou (dj := 55) rfl rfl ?_
          refine W.nou (dj := 55) rfl rfl ?_
          refine W.nou (dj := 55) rfl rfl ?_
          refine W.no (dj := 51) rfl rfl h50 ?_
          refine W.yes (dj := 47) rfl rfl h44 ?_
          refine W.ok (ok_pick_f rfl h50) ?_
          refine W.ok (ok_pick_f rfl h44) ?_
          refine W.nil (thn_n ?_)
          refine WC.cond_f rfl rfl ?_
          refine WC.skip (thn_n ?_)
          refine WC.seq ?_
          refine WC.seq ?_
          refine WC.region ?_
          refine W.ok (ok_fieldB fd23_0 rfl) ?_
          refine W.ok (ok_loadB (i := 0) (vs := [.int .i64 _]) ty3 rfl rfl rfl rfl (by simp)) ?_
          refine W.ok (ok_eql rfl rfl) ?_
          refine W.mv ?_
          refine W.sp 65 rfl (fun h64 => ?_) (fun h64 => ?_)
          ·have p64 := of_decide_eq_true h64
           refine W.no (dj := 65) rfl rfl h64 ?_
           refine W.no (dj := 65) rfl rfl h64 ?_
           refine W.no (dj := 65) rfl rfl h64 ?_
           refine W.ok (ok_pick_t rfl h64) ?_
           refine W.nil (thn_n ?_)
           refine WC.cond_t rfl rfl ?_
           refine WC.seq ?_
           refine WC.region ?_
           refine W.ok (ok_loadB (i := 0) (vs := [.int .i64 _, .string _, .string _, .bool _, .string _, .int .i64 _]) ty23 rfl rfl rfl rfl (by simp)) ?_
           refine W.qcall (r7span_fc _ _ _ _ _ _ (by first | assumption | omega | (dsimp only; omega))) rfl ?_
           refine W.qcall (empty_fc _ _ _) rfl ?_
           refine W.ok (ok_not rfl) ?_
           refine W.mv ?_
           refine W.sp 74 rfl (fun h73 => ?_) (fun h73 => ?_)
           ·replace h73 : (!(Opr.span (⟨pk, pkey, phi, po, pv, pl⟩ : Opr)).empty) = true := h73
            refine W.yes (dj := 74) rfl rfl h73 ?_
            refine W.ok (ok_fieldB fd23_3 rfl) ?_
            refine W.yes (dj := 74) rfl rfl h73 ?_
            refine W.ok (ok_loadB (i := 0) (vs := [.bool _]) ty4 rfl rfl rfl rfl (by simp)) ?_
            refine W.yes (dj := 74) rfl rfl h73 ?_
            refine W.ok (ok_not rfl) ?_
            refine W.yes (dj := 74) rfl rfl h73 ?_
            refine W.mv ?_
            refine W.sp 78 rfl (fun h77 => ?_) (fun h77 => ?_)
            ·refine W.no (dj := 78) rfl rfl h77 ?_
             refine W.no (dj := 78) rfl rfl h77 ?_
             refine W.no (dj := 78) rfl rfl h77 ?_
             refine W.yes (dj := 74) rfl rfl h73 ?_
             refine W.ok (ok_pick_t rfl h77) ?_
             refine W.ok (ok_pick_t rfl h73) ?_
             refine W.as ?_
             refine W.nil (thn_n ?_)
             refine WC.ret (thn_r ?_)
             refine ⟨.inr rfl, [_], ⟨rfl, trivial⟩, [], List.nil_sublist _, ?_⟩
             refine congrArg Value.bool ?_
             have hn : ∀ s : Str, s.b = ⟨#[]⟩ ↔ s = Str.nil := fun s => ⟨fun h => Str.ext' h, fun h => by rw [h]; rfl⟩
             rw [Bool.eq_iff_iff, decide_eq_true_iff]
             simp only [Opr.R]
             first | (simp_all; done) | (simp_all; omega) | grind
            ·refine W.yes (dj := 78) rfl rfl h77 ?_
             refine W.ok (ok_fieldB fd23_2 rfl) ?_
             refine W.yes (dj := 78) rfl rfl h77 ?_
             refine W.ok (ok_loadB (i := 0) (vs := [.string _]) ty9 rfl rfl rfl rfl (by simp)) ?_
             refine W.yes (dj := 78) rfl rfl h77 ?_
             refine W.ok (ok_eqlS rfl rfl) ?_
             refine W.yes (dj := 74) rfl rfl h73 ?_
             refine W.ok (ok_pick_f rfl h77) ?_
             refine W.ok (ok_pick_t rfl h73) ?_
             refine W.as ?_
             refine W.nil (thn_n ?_)
             refine WC.ret (thn_r ?_)
             refine ⟨.inr rfl, [_], ⟨rfl, trivial⟩, [], List.nil_sublist _, ?_⟩
             refine congrArg Value.bool ?_
             have hn : ∀ s : Str, s.b = ⟨#[]⟩ ↔ s = Str.nil := fun s => ⟨fun h => Str.ext' h, fun h => by rw [h]; rfl⟩
             rw [Bool.eq_iff_iff, decide_eq_true_iff]
             simp only [Opr.R]
             first | (simp_all; done) | (simp_all; omega) | grind
           ·replace h73 : (!(Opr.span (⟨pk, pkey, phi, po, pv, pl⟩ : Opr)).empty) = false := h73
            refine W.no (dj := 74) rfl rfl h73 ?_
            refine W.no (dj := 74) rfl rfl h73 ?_
            refine W.no (dj := 74) rfl rfl h73 ?_
            refine W.no (dj := 74) rfl rfl h73 ?_
            refine W.nou (dj := 78) rfl rfl ?_
            refine W.nou (dj := 78) rfl rfl ?_
            refine W.nou (dj := 78) rfl rfl ?_
            refine W.no (dj := 74) rfl rfl h73 ?_
            refine W.ok (ok_pick_f rfl h73) ?_
            refine W.as ?_
            refine W.nil (thn_n ?_)
            refine WC.ret (thn_r ?_)
            refine ⟨.inr rfl, [_], ⟨rfl, trivial⟩, [], List.nil_sublist _, ?_⟩
            refine congrArg Value.bool ?_
            have hn : ∀ s : Str, s.b = ⟨#[]⟩ ↔ s = Str.nil := fun s => ⟨fun h => Str.ext' h, fun h => by rw [h]; rfl⟩
            rw [Bool.eq_iff_iff, decide_eq_true_iff]
            simp only [Opr.R]
            first | (simp_all; done) | (simp_all; omega) | grind
          ·have p64 := of_decide_eq_false h64
           refine W.yes (dj := 65) rfl rfl h64 ?_
           refine W.ok (ok_fieldB fd23_0 rfl) ?_
           refine W.yes (dj := 65) rfl rfl h64 ?_
           refine W.ok (ok_loadB (i := 0) (vs := [.int .i64 _]) ty3 rfl rfl rfl rfl (by simp)) ?_
           refine W.yes (dj := 65) rfl rfl h64 ?_
           refine W.ok (ok_eql rfl rfl) ?_
           refine W.ok (ok_pick_f rfl h64) ?_
           refine W.nil (thn_n ?_)
           refine WC.cond (b := _) rfl (fun h68 => ?_) (fun h68 => ?_)
           ·have p68 := of_decide_eq_true h68
            refine WC.seq ?_
            refine WC.region ?_
            refine W.ok (ok_loadB (i := 0) (vs := [.int .i64 _, .string _, .string _, .bool _, .string _, .int .i64 _]) ty23 rfl rfl rfl rfl (by simp)) ?_
            refine W.qcall (r7span_fc _ _ _ _ _ _ (by first | assumption | omega | (dsimp only; omega))) rfl ?_
            refine W.qcall (empty_fc _ _ _) rfl ?_
            refine W.ok (ok_not rfl) ?_
            refine W.mv ?_
            refine W.sp 74 rfl (fun h73 => ?_) (fun h73 => ?_)
            ·replace h73 : (!(Opr.span (⟨pk, pkey, phi, po, pv, pl⟩ : Opr)).empty) = true := h73
             refine W.yes (dj := 74) rfl rfl h73 ?_
             refine W.ok (ok_fieldB fd23_3 rfl) ?_
             refine W.yes (dj := 74) rfl rfl h73 ?_
             refine W.ok (ok_loadB (i := 0) (vs := [.bool _]) ty4 rfl rfl rfl rfl (by simp)) ?_
             refine W.yes (dj := 74) rfl rfl h73 ?_
             refine W.ok (ok_not rfl) ?_
             refine W.yes (dj := 74) rfl rfl h73 ?_
             refine W.mv ?_
             refine W.sp 78 rfl (fun h77 => ?_) (fun h77 => ?_)
             ·refine W.no (dj := 78) rfl rfl h77 ?_
              refine W.no (dj := 78) rfl rfl h77 ?_
              refine W.no (dj := 78) rfl rfl h77 ?_
              refine W.yes (dj := 74) rfl rfl h73 ?_
              refine W.ok (ok_pick_t rfl h77) ?_
              refine W.ok (ok_pick_t rfl h73) ?_
              refine W.as ?_
              refine W.nil (thn_n ?_)
              refine WC.ret (thn_r ?_)
              refine ⟨.inr rfl, [_], ⟨rfl, trivial⟩, [], List.nil_sublist _, ?_⟩
              refine congrArg Value.bool ?_
              have hn : ∀ s : Str, s.b = ⟨#[]⟩ ↔ s = Str.nil := fun s => ⟨fun h => Str.ext' h, fun h => by rw [h]; rfl⟩
              rw [Bool.eq_iff_iff, decide_eq_true_iff]
              simp only [Opr.R]
              first | (simp_all; done) | (simp_all; omega) | grind
             ·refine W.yes (dj := 78) rfl rfl h77 ?_
              refine W.ok (ok_fieldB fd23_2 rfl) ?_
              refine W.yes (dj := 78) rfl rfl h77 ?_
              refine W.ok (ok_loadB (i := 0) (vs := [.string _]) ty9 rfl rfl rfl rfl (by simp)) ?_
              refine W.yes (dj := 78) rfl rfl h77 ?_
              refine W.ok (ok_eqlS rfl rfl) ?_
              refine W.yes (dj := 74) rfl rfl h73 ?_
              refine W.ok (ok_pick_f rfl h77) ?_
              refine W.ok (ok_pick_t rfl h73) ?_
              refine W.as ?_
              refine W.nil (thn_n ?_)
              refine WC.ret (thn_r ?_)
              refine ⟨.inr rfl, [_], ⟨rfl, trivial⟩, [], List.nil_sublist _, ?_⟩
              refine congrArg Value.bool ?_
              have hn : ∀ s : Str, s.b = ⟨#[]⟩ ↔ s = Str.nil := fun s => ⟨fun h => Str.ext' h, fun h => by rw [h]; rfl⟩
              rw [Bool.eq_iff_iff, decide_eq_true_iff]
              simp only [Opr.R]
              first | (simp_all; done) | (simp_all; omega) | grind
            ·replace h73 : (!(Opr.span (⟨pk, pkey, phi, po, pv, pl⟩ : Opr)).empty) = false := h73
             refine W.no (dj := 74) rfl rfl h73 ?_
             refine W.no (dj := 74) rfl rfl h73 ?_
             refine W.no (dj := 74) rfl rfl h73 ?_
             refine W.no (dj := 74) rfl rfl h73 ?_
             refine W.nou (dj := 78) rfl rfl ?_
             refine W.nou (dj := 78) rfl rfl ?_
             refine W.nou (dj := 78) rfl rfl ?_
             refine W.no (dj := 74) rfl rfl h73 ?_
             refine W.ok (ok_pick_f rfl h73) ?_
             refine W.as ?_
             refine W.nil (thn_n ?_)
             refine WC.ret (thn_r ?_)
             refine ⟨.inr rfl, [_], ⟨rfl, trivial⟩, [], List.nil_sublist _, ?_⟩
             refine congrArg Value.bool ?_
             have hn : ∀ s : Str, s.b = ⟨#[]⟩ ↔ s = Str.nil := fun s => ⟨fun h => Str.ext' h, fun h => by rw [h]; rfl⟩
             rw [Bool.eq_iff_iff, decide_eq_true_iff]
             simp only [Opr.R]
             first | (simp_all; done) | (simp_all; omega) | grind
           ·have p68 := of_decide_eq_false h68
            refine WC.skip (thn_n ?_)
            refine WC.seq ?_
            refine WC.region ?_
            refine W.ok (ok_fieldB fd23_2 rfl) ?_
            refine W.ok (ok_loadB (i := 0) (vs := [.string _]) ty9 rfl rfl rfl rfl (by simp)) ?_
            refine W.ok (ok_eqlS rfl rfl) ?_
            refine W.mv ?_
            refine W.sp 87 rfl (fun h86 => ?_) (fun h86 => ?_)
            ·have p86 := of_decide_eq_true h86
             refine W.yes (dj := 87) rfl rfl h86 ?_
             refine W.ok (ok_fieldB fd23_3 rfl) ?_
             refine W.yes (dj := 87) rfl rfl h86 ?_
             refine W.ok (ok_loadB (i := 0) (vs := [.bool _]) ty4 rfl rfl rfl rfl (by simp)) ?_
             refine W.yes (dj := 87) rfl rfl h86 ?_
             refine W.ok (ok_not rfl) ?_
             refine W.ok (ok_pick_t rfl h86) ?_
             refine W.as ?_
             refine W.nil (thn_n ?_)
             refine WC.ret ?_
             refine ⟨.inr rfl, [_], ⟨rfl, trivial⟩, [], List.nil_sublist _, ?_⟩
             refine congrArg Value.bool ?_
             have hn : ∀ s : Str, s.b = ⟨#[]⟩ ↔ s = Str.nil := fun s => ⟨fun h => Str.ext' h, fun h => by rw [h]; rfl⟩
             rw [Bool.eq_iff_iff, decide_eq_true_iff]
             simp only [Opr.R]
             first | (simp_all; done) | (simp_all; omega) | grind
            ·have p86 := of_decide_eq_false h86
             refine W.no (dj := 87) rfl rfl h86 ?_
             refine W.no (dj := 87) rfl rfl h86 ?_
             refine W.no (dj := 87) rfl rfl h86 ?_
             refine W.ok (ok_pick_f rfl h86) ?_
             refine W.as ?_
             refine W.nil (thn_n ?_)
             refine WC.ret ?_
             refine ⟨.inr rfl, [_], ⟨rfl, trivial⟩, [], List.nil_sublist _, ?_⟩
             refine congrArg Value.bool ?_
             have hn : ∀ s : Str, s.b = ⟨#[]⟩ ↔ s = Str.nil := fun s => ⟨fun h => Str.ext' h, fun h => by rw [h]; rfl⟩
             rw [Bool.eq_iff_iff, decide_eq_true_iff]
             simp only [Opr.R]
             first | (simp_all; done) | (simp_all; omega) | grind
       ·have p40 := nd_f h40
        refine W.no (dj := 41) rfl rfl h40 ?_
        refine W.no (dj := 41) rfl rfl h40 ?_
        refine W.no (dj := 41) rfl rfl h40 ?_
        refine W.yes (dj := 37) rfl rfl rfl ?_
        refine W.ok (ok_pick_f rfl h40) ?_
        refine W.ok (ok_pick_f rfl rfl) ?_
        refine W.mv ?_
        refine W.yes (dj := 47) rfl rfl rfl ?_
        refine W.ok (ok_fieldB fd23_0 rfl) ?_
        refine W.yes (dj := 47) rfl rfl rfl ?_
        refine W.ok (ok_loadB (i := 0) (vs := [.int .i64 _]) ty3 rfl rfl rfl rfl (by simp)) ?_
        refine W.yes (dj := 47) rfl rfl rfl ?_
        refine W.ok (ok_eql rfl rfl) ?_
        refine W.yes (dj := 47) rfl rfl rfl ?_
        refine W.mv ?_
        refine W.sp 51 rfl (fun h50 => ?_) (fun h50 => ?_)
        ·have p50 := of_decide_eq_true h50
         refine W.yes (dj := 51) rfl rfl h50 ?_
         refine W.ok (ok_fieldB fd23_5 rfl) ?_
         refine W.yes (dj := 51) rfl rfl h50 ?_
         refine W.ok (ok_loadB (i := 0) (vs := [.int .i64 _]) ty3 rfl rfl rfl rfl (by simp)) ?_
         refine W.yes (dj := 51) rfl rfl h50 ?_
         refine W.ok (ok_lss rfl rfl) ?_
         refine W.yes (dj := 51) rfl rfl h50 ?_
         refine W.mv ?_
         refine W.sp 55 rfl (fun h54 => ?_) (fun h54 => ?_)
         ·have p54 := of_decide_eq_true h54
          refine W.no (dj := 55) rfl rfl h54 ?_
          refine W.no (dj := 55) rfl rfl h54 ?_
          refine W.no (dj := 55) rfl rfl h54 ?_
          refine W.yes (dj := 51) rfl rfl h50 ?_
          refine W.ok (ok_pick_t rfl h54) ?_
          refine W.yes (dj := 47) rfl rfl rfl ?_
          refine W.ok (ok_pick_t rfl h50) ?_
          refine W.ok (ok_pick_f rfl rfl) ?_
          refine W.nil (thn_n ?_)
          refine WC.cond_t rfl rfl ?_
          refine WC.seq ?_
          refine WC.region ?_
          refine W.as ?_
          refine W.nil (thn_n ?_)
          refine WC.ret (thn_r ?_)
          refine ⟨.inr rfl, [_], ⟨rfl, trivial⟩, [], List.nil_sublist _, ?_⟩
          refine congrArg Value.bool ?_
          have hn : ∀ s : Str, s.b = ⟨#[]⟩ ↔ s = Str.nil := fun s => ⟨fun h => Str.ext' h, fun h => by rw [h]; rfl⟩
          rw [Bool.eq_iff_iff, decide_eq_true_iff]
          simp only [Opr.R]
          first | (simp_all; done) | (simp_all; omega) | grind
         ·have p54 := of_decide_eq_false h54
          refine W.yes (dj := 55) rfl rfl h54 ?_
          refine W.ok (ok_fieldB fd23_5 rfl) ?_
          refine W.yes (dj := 55) rfl rfl h54 ?_
          refine W.ok (ok_loadB (i := 0) (vs := [.int .i64 _]) ty3 rfl rfl rfl rfl (by simp)) ?_
          refine W.yes (dj := 55) rfl rfl h54 ?_
          refine W.ok (ok_gtr rfl rfl) ?_
          refine W.yes (dj := 51) rfl rfl h50 ?_
          refine W.ok (ok_pick_f rfl h54) ?_
          refine W.yes (dj := 47) rfl rfl rfl ?_
          refine W.ok (ok_pick_t rfl h50) ?_
          refine W.ok (ok_pick_f rfl rfl) ?_
          refine W.nil (thn_n ?_)
          refine WC.cond (b := _) rfl (fun h58 => ?_) (fun h58 => ?_)
          ·have p58 := of_decide_eq_true h58
           refine WC.seq ?_
           refine WC.region ?_
           refine W.as ?_
           refine W.nil (thn_n ?_)
           refine WC.ret (thn_r ?_)
           refine ⟨.inr rfl, [_], ⟨rfl, trivial⟩, [], List.nil_sublist _, ?_⟩
           refine congrArg Value.bool ?_
           have hn : ∀ s : Str, s.b = ⟨#[]⟩ ↔ s = Str.nil := fun s => ⟨fun h => Str.ext' h, fun h => by rw [h]; rfl⟩
           rw [Bool.eq_iff_iff, decide_eq_true_iff]
           simp only [Opr.R]
           first | (simp_all; done) | (simp_all; omega) | grind
          ·have p58 := of_decide_eq_false h58
           refine WC.skip (thn_n ?_)
           refine WC.seq ?_
           refine WC.seq ?_
           refine WC.region ?_
           refine W.ok (ok_fieldB fd23_0 rfl) ?_
           refine W.ok (ok_loadB (i := 0) (vs := [.int .i64 _]) ty3 rfl rfl rfl rfl (by simp)) ?_
           refine W.ok (ok_eql rfl rfl) ?_
           refine W.mv ?_
           refine W.sp 65 rfl (fun h64 => ?_) (fun h64 => ?_)
           ·have p64 := of_decide_eq_true h64
            refine W.no (dj := 65) rfl rfl h64 ?_
            refine W.no (dj := 65) rfl rfl h64 ?_
            refine W.no (dj := 65) rfl rfl h64 ?_
            refine W.ok (ok_pick_t rfl h64) ?_
            refine W.nil (thn_n ?_)
            refine WC.cond_t rfl rfl ?_
            refine WC.seq ?_
            refine WC.region ?_
            refine W.ok (ok_loadB (i := 0) (vs := [.int .i64 _, .string _, .string _, .bool _, .string _, .int .i64 _]) ty23 rfl rfl rfl rfl (by simp)) ?_
            refine W.qcall (r7span_fc _ _ _ _ _ _ (by first | assumption | omega | (dsimp only; omega))) rfl ?_
            refine W.qcall (empty_fc _ _ _) rfl ?_
            refine W.ok (ok_not rfl) ?_
            refine W.mv ?_
            refine W.sp 74 rfl (fun h73 => ?_) (fun h73 => ?_)
            ·replace h73 : (!(Opr.span (⟨pk, pkey, phi, po, pv, pl⟩ : Opr)).empty) = true := h73
             refine W.yes (dj := 74) rfl rfl h73 ?_
             refine W.ok (ok_fieldB fd23_3 rfl) ?_
             refine W.yes (dj := 74) rfl rfl h73 ?_
             refine W.ok (ok_loadB (i := 0) (vs := [.bool _]) ty4 rfl rfl rfl rfl (by simp)) ?_
             refine W.yes (dj := 74) rfl rfl h73 ?_
             refine W.ok (ok_not rfl) ?_
             refine W.yes (dj := 74) rfl rfl h73 ?_
             refine W.mv ?_
             refine W.sp 78 rfl (fun h77 => ?_) (fun h77 => ?_)
             ·refine W.no (dj := 78) rfl rfl h77 ?_
              refine W.no (dj := 78) rfl rfl h77 ?_
              refine W.no (dj := 78) rfl rfl h77 ?_
              refine W.yes (dj := 74) rfl rfl h73 ?_
              refine W.ok (ok_pick_t rfl h77) ?_
              refine W.ok (ok_pick_t rfl h73) ?_
              refine W.as ?_
              refine W.nil (thn_n ?_)
              refine WC.ret (thn_r ?_)
              refine ⟨.inr rfl, [_], ⟨rfl, trivial⟩, [], List.nil_sublist _, ?_⟩
              refine congrArg Value.bool ?_
              have hn : ∀ s : Str, s.b = ⟨#[]⟩ ↔ s = Str.nil := fun s => ⟨fun h => Str.ext' h, fun h => by rw [h]; rfl⟩
              rw [Bool.eq_iff_iff, decide_eq_true_iff]
              simp only [Opr.R]
              first | (simp_all; done) | (simp_all; omega) | grind
             ·refine W.yes (dj := 78) rfl rfl h77 ?_
              refine W.ok (ok_fieldB fd23_2 rfl) ?_
              refine W.yes (dj := 78) rfl rfl h77 ?_
              refine W.ok (ok_loadB (i := 0) (vs := [.string _]) ty9 rfl rfl rfl rfl (by simp)) ?_
              refine W.yes (dj := 78) rfl rfl h77 ?_
              refine W.ok (ok_eqlS rfl rfl) ?_
              refine W.yes (dj := 74) rfl rfl h73 ?_
              refine W.ok (ok_pick_f rfl h77) ?_
              refine W.ok (ok_pick_t rfl h73) ?_
              refine W.as ?_
              refine W.nil (thn_n ?_)
              refine WC.ret (thn_r ?_)
              refine ⟨.inr rfl, [_], ⟨rfl, trivial⟩, [], List.nil_sublist _, ?_⟩
              refine congrArg Value.bool ?_
              have hn : ∀ s : Str, s.b = ⟨#[]⟩ ↔ s = Str.nil := fun s => ⟨fun h => Str.ext' h, fun h => by rw [h]; rfl⟩
              rw [Bool.eq_iff_iff, decide_eq_true_iff]
              simp only [Opr.R]
              first | (simp_all; done) | (simp_all; omega) | grind
            ·replace h73 : (!(Opr.span (⟨pk, pkey, phi, po, pv, pl⟩ : Opr)).empty) = false := h73
             refine W.no (dj := 74) rfl rfl h73 ?_
             refine W.no (dj := 74) rfl rfl h73 ?_
             refine W.no (dj := 74) rfl rfl h73 ?_
             refine W.no (dj := 74) rfl rfl h73 ?_
             refine W.nou (dj := 78) rfl rfl ?_
             refine W.nou (dj := 78) rfl rfl ?_
             refine W.nou (dj := 78) rfl rfl ?_
             refine W.no (dj := 74) rfl rfl h73 ?_
             refine W.ok (ok_pick_f rfl h73) ?_
             refine W.as ?_
             refine W.nil (thn_n ?_)
             refine WC.ret (thn_r ?_)
             refine ⟨.inr rfl, [_], ⟨rfl, trivial⟩, [], List.nil_sublist _, ?_⟩
             refine congrArg Value.bool ?_
             have hn : ∀ s : Str, s.b = ⟨#[]⟩ ↔ s = Str.nil := fun s => ⟨fun h => Str.ext' h, fun h => by rw [h]; rfl⟩
             rw [Bool.eq_iff_iff, decide_eq_true_iff]
             simp only [Opr.R]
             first | (simp_all; done) | (simp_all; omega) | grind
           ·have p64 := of_decide_eq_false h64
            refine W.yes (dj := 65) rfl rfl h64 ?_
            refine W.ok (ok_fieldB fd23_0 rfl) ?_
            refine W.yes (dj := 65) rfl rfl h64 ?_
            refine W.ok (ok_loadB (i := 0) (vs := [.int .i64 _]) ty3 rfl rfl rfl rfl (by simp)) ?_
            refine W.yes (dj := 65) rfl rfl h64 ?_
            refine W.ok (ok_eql rfl rfl) ?_
            refine W.ok (ok_pick_f rfl h64) ?_
            refine W.nil (thn_n ?_)
            refine WC.cond (b := _) rfl (fun h68 => ?_) (fun h68 => ?_)
            ·have p68 := of_decide_eq_true h68
             refine WC.seq ?_
             refine WC.region ?_
             refine W.ok (ok_loadB (i := 0) (vs := [.int .i64 _, .string _, .string _, .bool _, .string _, .int .i64 _]) ty23 rfl rfl rfl rfl (by simp)) ?_
             refine W.qcall (r7span_fc _ _ _ _ _ _ (by first | assumption | omega | (dsimp only; omega))) rfl ?_
             refine W.qcall (empty_fc _ _ _) rfl ?_
             refine W.ok (ok_not rfl) ?_
             refine W.mv ?_
             refine W.sp 74 rfl (fun h73 => ?_) (fun h73 => ?_)
             ·replace h73 : (!(Opr.span (⟨pk, pkey, phi, po, pv, pl⟩ : Opr)).empty) = true := h73
              refine W.yes (dj := 74) rfl rfl h73 ?_
              refine W.ok (ok_fieldB fd23_3 rfl) ?_
              refine W.yes (dj := 74) rfl rfl h73 ?_
              refine W.ok (ok_loadB (i := 0) (vs := [.bool _]) ty4 rfl rfl rfl rfl (by simp)) ?_
              refine W.yes (dj := 74) rfl rfl h73 ?_
              refine W.ok (ok_not rfl) ?_
              refine W.yes (dj := 74) rfl rfl h73 ?_
              refine W.mv ?_
              refine W.sp 78 rfl (fun h77 => ?_) (fun h77 => ?_)
              ·refine W.no (dj := 78) rfl rfl h77 ?_
               refine W.no (dj := 78) rfl rfl h77 ?_
               refine W.no (dj := 78) rfl rfl h77 ?_
               refine W.yes (dj := 74) rfl rfl h73 ?_
               refine W.ok (ok_pick_t rfl h77) ?_
               refine W.ok (ok_pick_t rfl h73) ?_
               refine W.as ?_
               refine W.nil (thn_n ?_)
               refine WC.ret (thn_r ?_)
               refine ⟨.inr rfl, [_], ⟨rfl, trivial⟩, [], List.nil_sublist _, ?_⟩
               refine congrArg Value.bool ?_
               have hn : ∀ s : Str, s.b = ⟨#[]⟩ ↔ s = Str.nil := fun s => ⟨fun h => Str.ext' h, fun h => by rw [h]; rfl⟩
               rw [Bool.eq_iff_iff, decide_eq_true_iff]
               simp only [Opr.R]
               first | (simp_all; done) | (simp_all; omega) | grind
              ·refine W.yes (dj := 78) rfl rfl h77 ?_
               refine W.ok (ok_fieldB fd23_2 rfl) ?_
               refine W.yes (dj := 78) rfl rfl h77 ?_
               refine W.ok (ok_loadB (i := 0) (vs := [.string _]) ty9 rfl rfl rfl rfl (by simp)) ?_
               refine W.yes (dj := 78) rfl rfl h77 ?_
               refine W.ok (ok_eqlS rfl rfl) ?_
               refine W.yes (dj := 74) rfl rfl h73 ?_
               refine W.ok (ok_pick_f rfl h77) ?_
               refine W.ok (ok_pick_t rfl h73) ?_
               refine W.as ?_
               refine W.nil (thn_n ?_)
               refine WC.ret (thn_r ?_)
               refine ⟨.inr rfl, [_], ⟨rfl, trivial⟩, [], List.nil_sublist _, ?_⟩
               refine congrArg Value.bool ?_
               have hn : ∀ s : Str, s.b = ⟨#[]⟩ ↔ s = Str.nil := fun s => ⟨fun h => Str.ext' h, fun h => by rw [h]; rfl⟩
               rw [Bool.eq_iff_iff, decide_eq_true_iff]
               simp only [Opr.R]
               first | (simp_all; done) | (simp_all; omega) | grind
             ·replace h73 : (!(Opr.span (⟨pk, pkey, phi, po, pv, pl⟩ : Opr)).empty) = false := h73
              refine W.no (dj := 74) rfl rfl h73 ?_
              refine W.no (dj := 74) rfl rfl h73 ?_
              refine W.no (dj := 74) rfl rfl h73 ?_
              refine W.no (dj := 74) rfl rfl h73 ?_
              refine W.nou (dj := 78) rfl rfl ?_
              refine W.nou (dj := 78) rfl rfl ?_
              refine W.nou (dj := 78) rfl rfl ?_
              refine W.no (dj := 74) rfl rfl h73 ?_
              refine W.ok (ok_pick_f rfl h73) ?_
              refine W.as ?_
              refine W.nil (thn_n ?_)
              refine WC.ret (thn_r ?_)
              refine ⟨.inr rfl, [_], ⟨rfl, trivial⟩, [], List.nil_sublist _, ?_⟩
              refine congrArg Value.bool ?_
              have hn : ∀ s : Str, s.b = ⟨#[]⟩ ↔ s = Str.nil := fun s => ⟨fun h => Str.ext' h, fun h => by rw [h]; rfl⟩
              rw [Bool.eq_iff_iff, decide_eq_true_iff]
              simp only [Opr.R]
              first | (simp_all; done) | (simp_all; omega) | grind
            ·have p68 := of_decide_eq_false h68
             refine WC.skip (thn_n ?_)
             refine WC.seq ?_
             refine WC.region ?_
             refine W.ok (ok_fieldB fd23_2 rfl) ?_
             refine W.ok (ok_loadB (i := 0) (vs := [.string _]) ty9 rfl rfl rfl rfl (by simp)) ?_
             refine W.ok (ok_eqlS rfl rfl) ?_
             refine W.mv ?_
             refine W.sp 87 rfl (fun h86 => ?_) (fun h86 => ?_)
             ·have p86 := of_decide_eq_true h86
              refine W.yes (dj := 87) rfl rfl h86 ?_
              refine W.ok (ok_fieldB fd23_3 rfl) ?_
              refine W.yes (dj := 87) rfl rfl h86 ?_
              refine W.ok (ok_loadB (i := 0) (vs := [.bool _]) ty4 rfl rfl rfl rfl (by simp)) ?_
              refine W.yes (dj := 87) rfl rfl h86 ?_
              refine W.ok (ok_not rfl) ?_
              refine W.ok (ok_pick_t rfl h86) ?_
              refine W.as ?_
              refine W.nil (thn_n ?_)
              refine WC.ret ?_
              refine ⟨.inr rfl, [_], ⟨rfl, trivial⟩, [], List.nil_sublist _, ?_⟩
              refine congrArg Value.bool ?_
              have hn : ∀ s : Str, s.b = ⟨#[]⟩ ↔ s = Str.nil := fun s => ⟨fun h => Str.ext' h, fun h => by rw [h]; rfl⟩
              rw [Bool.eq_iff_iff, decide_eq_true_iff]
              simp only [Opr.R]
              first | (simp_all; done) | (simp_all; omega) | grind
             ·have p86 := of_decide_eq_false h86
              refine W.no (dj := 87) rfl rfl h86 ?_
              refine W.no (dj := 87) rfl rfl h86 ?_
              refine W.no (dj := 87) rfl rfl h86 ?_
              refine W.ok (ok_pick_f rfl h86) ?_
              refine W.as ?_
              refine W.nil (thn_n ?_)
              refine WC.ret ?_
              refine ⟨.inr rfl, [_], ⟨rfl, trivial⟩, [], List.nil_sublist _, ?_⟩
              refine congrArg Value.bool ?_
              have hn : ∀ s : Str, s.b = ⟨#[]⟩ ↔ s = Str.nil := fun s => ⟨fun h => Str.ext' h, fun h => by rw [h]; rfl⟩
              rw [Bool.eq_iff_iff, decide_eq_true_iff]
              simp only [Opr.R]
              first | (simp_all; done) | (simp_all; omega) | grind
        ·have p50 := of_decide_eq_false h50
         refine W.no (dj := 51) rfl rfl h50 ?_
         refine W.no (dj := 51) rfl rfl h50 ?_
         refine W.no (dj := 51) rfl rfl h50 ?_
         refine W.no (dj := 51) rfl rfl h50 ?_
         refine W.nou (dj := 55) rfl rfl ?_
         refine W.nou (dj := 55) rfl rfl ?_
         refine W.nou (dj := 55) rfl rfl ?_
         refine W.no (dj := 51) rfl rfl h50 ?_
         refine W.yes (dj := 47) rfl rfl rfl ?_
         refine W.ok (ok_pick_f rfl h50) ?_
         refine W.ok (ok_pick_f rfl rfl) ?_
         refine W.nil (thn_n ?_)
         refine WC.cond_f rfl rfl ?_
         refine WC.skip (thn_n ?_)
         refine WC.seq ?_
         refine WC.seq ?_
         refine WC.region ?_
         refine W.ok (ok_fieldB fd23_0 rfl) ?_
         refine W.ok (ok_loadB (i := 0) (vs := [.int .i64 _]) ty3 rfl rfl rfl rfl (by simp)) ?_
         refine W.ok (ok_eql rfl rfl) ?_
         refine W.mv ?_
         refine W.sp 65 rfl (fun h64 => ?_) (fun h64 => ?_)
         ·have p64 := of_decide_eq_true h64
          refine W.no (dj := 65) rfl rfl h64 ?_
          refine W.no (dj := 65) rfl rfl h64 ?_
          refine W.no (dj := 65) rfl rfl h64 ?_
          refine W.ok (ok_pick_t rfl h64) ?_
          refine W.nil (thn_n ?_)
          refine WC.cond_t rfl rfl ?_
          refine WC.seq ?_
          refine WC.region ?_
          refine W.ok (ok_loadB (i := 0) (vs := [.int .i64 _, .string _, .string _, .bool _, .string _, .int .i64 _]) ty23 rfl rfl rfl rfl (by simp)) ?_
          refine W.qcall (r7span_fc _ _ _ _ _ _ (by first | assumption | omega | (dsimp only; omega))) rfl ?_
          refine W.qcall (empty_fc _ _ _) rfl ?_
          refine W.ok (ok_not rfl) ?_
          refine W.mv ?_
          refine W.sp 74 rfl (fun h73 => ?_) (fun h73 => ?_)
          ·replace h73 : (!(Opr.span (⟨pk, pkey, phi, po, pv, pl⟩ : Opr)).empty) = true := h73
           refine W.yes (dj := 74) rfl rfl h73 ?_
           refine W.ok (ok_fieldB fd23_3 rfl) ?_
           refine W.yes (dj := 74) rfl rfl h73 ?_
           refine W.ok (ok_loadB (i := 0) (vs := [.bool _]) ty4 rfl rfl rfl rfl (by simp)) ?_
           refine W.yes (dj := 74) rfl rfl h73 ?_
           refine W.ok (ok_not rfl) ?_
           refine W.yes (dj := 74) rfl rfl h73 ?_
           refine W.mv ?_
           refine W.sp 78 rfl (fun h77 => ?_) (fun h77 => ?_)
           ·refine W.no (dj := 78) rfl rfl h77 ?_
            refine W.no (dj := 78) rfl rfl h77 ?_
            refine W.no (dj := 78) rfl rfl h77 ?_
            refine W.yes (dj := 74) rfl rfl h73 ?_
            refine W.ok (ok_pick_t rfl h77) ?_
            refine W.ok (ok_pick_t rfl h73) ?_
            refine W.as ?_
            refine W.nil (thn_n ?_)
            refine WC.ret (thn_r ?_)
            refine ⟨.inr rfl, [_], ⟨rfl, trivial⟩, [], List.nil_sublist _, ?_⟩
            refine congrArg Value.bool ?_
            have hn : ∀ s : Str, s.b = ⟨#[]⟩ ↔ s = Str.nil := fun s => ⟨fun h => Str.ext' h, fun h => by rw [h]; rfl⟩
            rw [Bool.eq_iff_iff, decide_eq_true_iff]
            simp only [Opr.R]
            first | (simp_all; done) | (simp_all; omega) | grind
           ·refine W.yes (dj := 78) rfl rfl h77 ?_
            refine W.ok (ok_fieldB fd23_2 rfl) ?_
            refine W.yes (dj := 78) rfl rfl h77 ?_
            refine W.ok (ok_loadB (i := 0) (vs := [.string _]) ty9 rfl rfl rfl rfl (by simp)) ?_
            refine W.yes (dj := 78) rfl rfl h77 ?_
            refine W.ok (ok_eqlS rfl rfl) ?_
            refine W.yes (dj := 74) rfl rfl h73 ?_
            refine W.ok (ok_pick_f rfl h77) ?_
            refine W.ok (ok_pick_t rfl h73) ?_
            refine W.as ?_
            refine W.nil (thn_n ?_)
            refine WC.ret (thn_r ?_)
            refine ⟨.inr rfl, [_], ⟨rfl, trivial⟩, [], List.nil_sublist _, ?_⟩
            refine congrArg Value.bool ?_
            have hn : ∀ s : Str, s.b = ⟨#[]⟩ ↔ s = Str.nil := fun s => ⟨fun h => Str.ext' h, fun h => by rw [h]; rfl⟩
            rw [Bool.eq_iff_iff, decide_eq_true_iff]
            simp only [Opr.R]
            first | (simp_all; done) | (simp_all; omega) | grind
          ·replace h73 : (!(Opr.span (⟨pk, pkey, phi, po, pv, pl⟩ : Opr)).empty) = false := h73
           refine W.no (dj := 74) rfl rfl h73 ?_
           refine W.no (dj := 74) rfl rfl h73 ?_
           refine W.no (dj := 74) rfl rfl h73 ?_
           refine W.no (dj := 74) rfl rfl h73 ?_
           refine W.nou (dj := 78) rfl rfl ?_
           refine W.nou (dj := 78) rfl rfl ?_
           refine W.nou (dj := 78) rfl rfl ?_
           refine W.no (dj := 74) rfl rfl h73 ?_
           refine W.ok (ok_pick_f rfl h73) ?_
           refine W.as ?_
           refine W.nil (thn_n ?_)
           refine WC.ret (thn_r ?_)
           refine ⟨.inr rfl, [_], ⟨rfl, trivial⟩, [], List.nil_sublist _, ?_⟩
           refine congrArg Value.bool ?_
           have hn : ∀ s : Str, s.b = ⟨#[]⟩ ↔ s = Str.nil := fun s => ⟨fun h => Str.ext' h, fun h => by rw [h]; rfl⟩
           rw [Bool.eq_iff_iff, decide_eq_true_iff]
           simp only [Opr.R]
           first | (simp_all; done) | (simp_all; omega) | grind
         ·have p64 := of_decide_eq_false h64
          refine W.yes (dj := 65) rfl rfl h64 ?_
          refine W.ok (ok_fieldB fd23_0 rfl) ?_
          refine W.yes (dj := 65) rfl rfl h64 ?_
          refine W.ok (ok_loadB (i := 0) (vs := [.int .i64 _]) ty3 rfl rfl rfl rfl (by simp)) ?_
          refine W.yes (dj := 65) rfl rfl h64 ?_
          refine W.ok (ok_eql rfl rfl) ?_
          refine W.ok (ok_pick_f rfl h64) ?_
          refine W.nil (thn_n ?_)
          refine WC.cond (b := _) rfl (fun h68 => ?_) (fun h68 => ?_)
          ·have p68 := of_decide_eq_true h68
           refine WC.seq ?_
           refine WC.region ?_
           refine W.ok (ok_loadB (i := 0) (vs := [.int .i64 _, .string _, .string _, .bool _, .string _, .int .i64 _]) ty23 rfl rfl rfl rfl (by simp)) ?_
           refine W.qcall (r7span_fc _ _ _ _ _ _ (by first | assumption | omega | (dsimp only; omega))) rfl ?_
           refine W.qcall (empty_fc _ _ _) rfl ?_
           refine W.ok (ok_not rfl) ?_
           refine W.mv ?_
           refine W.sp 74 rfl (fun h73 => ?_) (fun h73 => ?_)
           ·replace h73 : (!(Opr.span (⟨pk, pkey, phi, po, pv, pl⟩ : Opr)).empty) = true := h73
            refine W.yes (dj := 74) rfl rfl h73 ?_
            refine W.ok (ok_fieldB fd23_3 rfl) ?_
            refine W.yes (dj := 74) rfl rfl h73 ?_
            refine W.ok (ok_loadB (i := 0) (vs := [.bool _]) ty4 rfl rfl rfl rfl (by simp)) ?_
            refine W.yes (dj := 74) rfl rfl h73 ?_
            refine W.ok (ok_not rfl) ?_
            refine W.yes (dj := 74) rfl rfl h73 ?_
            refine W.mv ?_
            refine W.sp 78 rfl (fun h77 => ?_) (fun h77 => ?_)
            ·refine W.no (dj := 78) rfl rfl h77 ?_
             refine W.no (dj := 78) rfl rfl h77 ?_
             refine W.no (dj := 78) rfl rfl h77 ?_
             refine W.yes (dj := 74) rfl rfl h73 ?_
             refine W.ok (ok_pick_t rfl h77) ?_
             refine W.ok (ok_pick_t rfl h73) ?_
             refine W.as ?_
             refine W.nil (thn_n ?_)
             refine WC.ret (thn_r ?_)
             refine ⟨.inr rfl, [_], ⟨rfl, trivial⟩, [], List.nil_sublist _, ?_⟩
             refine congrArg Value.bool ?_
             have hn : ∀ s : Str, s.b = ⟨#[]⟩ ↔ s = Str.nil := fun s => ⟨fun h => Str.ext' h, fun h => by rw [h]; rfl⟩
             rw [Bool.eq_iff_iff, decide_eq_true_iff]
             simp only [Opr.R]
             first | (simp_all; done) | (simp_all; omega) | grind
            ·refine W.yes (dj := 78) rfl rfl h77 ?_
             refine W.ok (ok_fieldB fd23_2 rfl) ?_
             refine W.yes (dj := 78) rfl rfl h77 ?_
             refine W.ok (ok_loadB (i := 0) (vs := [.string _]) ty9 rfl rfl rfl rfl (by simp)) ?_
             refine W.yes (dj := 78) rfl rfl h77 ?_
             refine W.ok (ok_eqlS rfl rfl) ?_
             refine W.yes (dj := 74) rfl rfl h73 ?_
             refine W.ok (ok_pick_f rfl h77) ?_
             refine W.ok (ok_pick_t rfl h73) ?_
             refine W.as ?_
             refine W.nil (thn_n ?_)
             refine WC.ret (thn_r ?_)
             refine ⟨.inr rfl, [_], ⟨rfl, trivial⟩, [], List.nil_sublist _, ?_⟩
             refine congrArg Value.bool ?_
             have hn : ∀ s : Str, s.b = ⟨#[]⟩ ↔ s = Str.nil := fun s => ⟨fun h => Str.ext' h, fun h => by rw [h]; rfl⟩
             rw [Bool.eq_iff_iff, decide_eq_true_iff]
             simp only [Opr.R]
             first | (simp_all; done) | (simp_all; omega) | grind
           ·replace h73 : (!(Opr.span (⟨pk, pkey, phi, po, pv, pl⟩ : Opr)).empty) = false := h73
            refine W.no (dj := 74) rfl rfl h73 ?_
            refine W.no (dj := 74) rfl rfl h73 ?_
            refine W.no (dj := 74) rfl rfl h73 ?_
            refine W.no (dj := 74) rfl rfl h73 ?_
            refine W.nou (dj := 78) rfl rfl ?_
            refine W.nou (dj := 78) rfl rfl ?_
            refine W.nou (dj := 78) rfl rfl ?_
            refine W.no (dj := 74) rfl rfl h73 ?_
            refine W.ok (ok_pick_f rfl h73) ?_
            refine W.as ?_
            refine W.nil (thn_n ?_)
            refine WC.ret (thn_r ?_)
            refine ⟨.inr rfl, [_], ⟨rfl, trivial⟩, [], List.nil_sublist _, ?_⟩
            refine congrArg Value.bool ?_
            have hn : ∀ s : Str, s.b = ⟨#[]⟩ ↔ s = Str.nil := fun s => ⟨fun h => Str.ext' h, fun h => by rw [h]; rfl⟩
            rw [Bool.eq_iff_iff, decide_eq_true_iff]
            simp only [Opr.R]
            first | (simp_all; done) | (simp_all; omega) | grind
          ·have p68 := of_decide_eq_false h68
           refine WC.skip (thn_n ?_)
           refine WC.seq ?_
           refine WC.region ?_
           refine W.ok (ok_fieldB fd23_2 rfl) ?_
           refine W.ok (ok_loadB (i := 0) (vs := [.string _]) ty9 rfl rfl rfl rfl (by simp)) ?_
           refine W.ok (ok_eqlS rfl rfl) ?_
           refine W.mv ?_
           refine W.sp 87 rfl (fun h86 => ?_) (fun h86 => ?_)
           ·have p86 := of_decide_eq_true h86
            refine W.yes (dj := 87) rfl rfl h86 ?_
            refine W.ok (ok_fieldB fd23_3 rfl) ?_
            refine W.yes (dj := 87) rfl rfl h86 ?_
            refine W.ok (ok_loadB (i := 0) (vs := [.bool _]) ty4 rfl rfl rfl rfl (by simp)) ?_
            refine W.yes (dj := 87) rfl rfl h86 ?_
            refine W.ok (ok_not rfl) ?_
            refine W.ok (ok_pick_t rfl h86) ?_
            refine W.as ?_
            refine W.nil (thn_n ?_)
            refine WC.ret ?_
            refine ⟨.inr rfl, [_], ⟨rfl, trivial⟩, [], List.nil_sublist _, ?_⟩
            refine congrArg Value.bool ?_
            have hn : ∀ s : Str, s.b = ⟨#[]⟩ ↔ s = Str.nil := fun s => ⟨fun h => Str.ext' h, fun h => by rw [h]; rfl⟩
            rw [Bool.eq_iff_iff, decide_eq_true_iff]
            simp only [Opr.R]
            first | (simp_all; done) | (simp_all; omega) | grind
           ·have p86 := of_decide_eq_false h86
            refine W.no (dj := 87) rfl rfl h86 ?_
            refine W.no (dj := 87) rfl rfl h86 ?_
            refine W.no (dj := 87) rfl rfl h86 ?_
            refine W.ok (ok_pick_f rfl h86) ?_
            refine W.as ?_
            refine W.nil (thn_n ?_)
            refine WC.ret ?_
            refine ⟨.inr rfl, [_], ⟨rfl, trivial⟩, [], List.nil_sublist _, ?_⟩
            refine congrArg Value.bool ?_
            have hn : ∀ s : Str, s.b = ⟨#[]⟩ ↔ s = Str.nil := fun s => ⟨fun h => Str.ext' h, fun h => by rw [h]; rfl⟩
            rw [Bool.eq_iff_iff, decide_eq_true_iff]
            simp only [Opr.R]
            first | (simp_all; done) | (simp_all; omega) | grind

end Go.Proofs.YthmkpaoolhcibaaDoor
