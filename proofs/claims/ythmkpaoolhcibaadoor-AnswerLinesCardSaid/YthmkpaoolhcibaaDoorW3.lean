/- Walks of functions on spans and messages. -/
import Derived.Test.YthmkpaoolhcibaaDoorW1
namespace Go.Proofs.YthmkpaoolhcibaaDoor
open Go Go.Fw Go.RowKit
set_option maxRecDepth 100000
set_option maxHeartbeats 1600000
set_option linter.unusedVariables false
set_option linter.unusedSimpArgs false
set_option linter.unnecessarySimpa false
def S_ : Str := ⟨⟨#[]⟩, by decide⟩
def S_0 : Str := ⟨⟨#[0]⟩, by decide⟩
theorem knext_fc {G : GH} (k : Str) (hk : k.b.size < 140737488355328) :
    Fc Tryd.prog 67 [.string k.b] G [] (fun v _ _ => v = .string (Str.b (k.next))) := by
 refine Fc.intro (rs := [.tmp 2]) cl67 Tryd.func67 rfl Tryd.ntmps67 rfl rfl (fun w0 => ?_)
 refine WC.seq ?_
 refine WC.region ?_
 refine W.as ?_
 refine W.nil (thn_n ?_)
 refine WC.seq ?_
 refine WC.region ?_
 refine W.mv ?_
 refine W.ok (ok_addS rfl rfl (by show _ + 1 ≤ _; omega)) ?_
 refine W.as ?_
 refine W.nil (thn_n ?_)
 refine WC.ret ?_
 refine ⟨.inr rfl, [_], ⟨rfl, trivial⟩, [], List.nil_sublist _, ?_⟩
 refine congrArg Value.string ?_
 exact (Str.next_b hk).symm

theorem point_fc {G : GH} (k : Str) (hk : k.b.size < 140737488355328) :
    Fc Tryd.prog 51 [.string k.b] G [] (fun v _ _ => v = .agg (List.toArray ((⟨k, k.next, false⟩ : Span).cells))) := by
 refine Fc.intro (rs := [.cell 2 56]) cl51 Tryd.func51 rfl Tryd.ntmps51 rfl rfl (fun w0 => ?_)
 refine WC.seq ?_
 refine WC.region ?_
 refine W.alloc zr56 (fun b1 => ?_)
 refine W.nil (thn_n ?_)
 refine WC.seq ?_
 refine WC.region ?_
 refine W.mv ?_
 refine W.mv ?_
 refine W.qcall (knext_fc _ (by first | assumption | omega | (dsimp only; omega))) rfl ?_
 refine W.ok (ok_build (L := [.string _, .string _, .bool _]) pl56 zr56 rfl rfl rfl) ?_
 refine W.store (i := 0) (vs := [.string _, .string _, .bool _]) (L' := [.string _, .string _, .bool _]) ty56 rfl rfl rfl rfl rfl rfl rfl rfl ?_
 refine W.nil (thn_n ?_)
 refine WC.ret ?_
 refine ⟨.inr rfl, [_], ⟨⟨_, _, _, _, _, rfl, nthM_mem (i := 0) rfl, ty56, (by simp), rfl, rfl⟩, trivial⟩, [], List.nil_sublist _, ?_⟩
 rfl

theorem mspan_fc {G : GH} (ms : Int) (mk : Int) (mkey : Str) (mhi : Str) (mo : Bool) (mv : Str) (hk : mkey.b.size < 140737488355328) :
    Fc Tryd.prog 54 [.agg #[.int .i64 ms, .int .i64 mk, .string mkey.b, .string mhi.b, .bool mo, .string mv.b]] G [] (fun v _ _ => v = .agg (List.toArray ((Msg.span (⟨ms, mk, mkey, mhi, mo, mv⟩ : Msg) : Span).cells))) := by
 refine Fc.intro (rs := [.cell 2 56]) cl54 Tryd.func54 rfl Tryd.ntmps54 rfl rfl (fun w0 => ?_)
 refine WC.seq ?_
 refine WC.region ?_
 refine W.box (L := [.int .i64 _, .int .i64 _, .string _, .string _, .bool _, .string _]) rfl rfl (fun b2 => ?_)
 refine W.alloc zr56 (fun b3 => ?_)
 refine W.nil (thn_n ?_)
 refine WC.seq ?_
 refine WC.seq ?_
 refine WC.region ?_
 refine W.ok (ok_fieldB fd59_1 rfl) ?_
 refine W.ok (ok_loadB (i := 1) (vs := [.int .i64 _]) ty3 rfl rfl rfl rfl (by simp)) ?_
 refine W.ok (ok_eql rfl rfl) ?_
 refine W.nil (thn_n ?_)
 refine WC.cond (b := _) rfl (fun h5 => ?_) (fun h5 => ?_)
 ·have p5 := of_decide_eq_true h5
  refine WC.seq ?_
  refine WC.region ?_
  refine W.ok (ok_fieldB fd59_2 rfl) ?_
  refine W.ok (ok_loadB (i := 1) (vs := [.string _]) ty9 rfl rfl rfl rfl (by simp)) ?_
  refine W.ok (ok_fieldB fd59_3 rfl) ?_
  refine W.ok (ok_loadB (i := 1) (vs := [.string _]) ty9 rfl rfl rfl rfl (by simp)) ?_
  refine W.ok (ok_fieldB fd59_4 rfl) ?_
  refine W.ok (ok_loadB (i := 1) (vs := [.bool _]) ty4 rfl rfl rfl rfl (by simp)) ?_
  refine W.ok (ok_build (L := [.string _, .string _, .bool _]) pl56 zr56 rfl rfl rfl) ?_
  refine W.store (i := 0) (vs := [.string _, .string _, .bool _]) (L' := [.string _, .string _, .bool _]) ty56 rfl rfl rfl rfl rfl rfl rfl rfl ?_
  refine W.nil (thn_n ?_)
  refine WC.ret (thn_r ?_)
  refine ⟨.inr rfl, [_], ⟨⟨_, _, _, _, _, rfl, nthM_mem (i := 0) rfl, ty56, (by simp), rfl, rfl⟩, trivial⟩, [], List.nil_sublist _, ?_⟩
  refine congrArg (fun l => Value.agg (List.toArray l)) ?_
  rw [Msg.span, if_pos p5]; rfl
 ·have p5 := of_decide_eq_false h5
  refine WC.skip (thn_n ?_)
  refine WC.seq ?_
  refine WC.region ?_
  refine W.ok (ok_fieldB fd59_2 rfl) ?_
  refine W.ok (ok_loadB (i := 1) (vs := [.string _]) ty9 rfl rfl rfl rfl (by simp)) ?_
  refine W.qcall (point_fc _ (by first | assumption | omega | (dsimp only; omega))) rfl ?_
  refine W.store (i := 0) (vs := [.string _, .string _, .bool _]) (L' := [.string _, .string _, .bool _]) ty56 rfl rfl rfl rfl rfl rfl rfl rfl ?_
  refine W.nil (thn_n ?_)
  refine WC.ret ?_
  refine ⟨.inr rfl, [_], ⟨⟨_, _, _, _, _, rfl, nthM_mem (i := 0) rfl, ty56, (by simp), rfl, rfl⟩, trivial⟩, [], List.nil_sublist _, ?_⟩
  refine congrArg (fun l => Value.agg (List.toArray l)) ?_
  rw [Msg.span, if_neg p5]; simp [Span.cells, Str.next_b hk, setAt]

theorem rspan_fc {G : GH} (ms : Int) (mk : Int) (mkey : Str) (mhi : Str) (mo : Bool) (mv : Str) (hk : mkey.b.size < 140737488355328) :
    Fc Tryd.prog 61 [.agg #[.int .i64 ms, .int .i64 mk, .string mkey.b, .string mhi.b, .bool mo, .string mv.b]] G [] (fun v _ _ => v = .agg (List.toArray ((Msg.span (⟨ms, mk, mkey, mhi, mo, mv⟩ : Msg) : Span).cells))) := by
 refine Fc.intro (rs := [.cell 2 56]) cl61 Tryd.func61 rfl Tryd.ntmps61 rfl rfl (fun w0 => ?_)
 refine WC.seq ?_
 refine WC.region ?_
 refine W.box (L := [.int .i64 _, .int .i64 _, .string _, .string _, .bool _, .string _]) rfl rfl (fun b4 => ?_)
 refine W.alloc zr56 (fun b5 => ?_)
 refine W.nil (thn_n ?_)
 refine WC.seq ?_
 refine WC.seq ?_
 refine WC.region ?_
 refine W.ok (ok_fieldB fd59_1 rfl) ?_
 refine W.ok (ok_loadB (i := 1) (vs := [.int .i64 _]) ty3 rfl rfl rfl rfl (by simp)) ?_
 refine W.ok (ok_eql rfl rfl) ?_
 refine W.nil (thn_n ?_)
 refine WC.cond (b := _) rfl (fun h5 => ?_) (fun h5 => ?_)
 ·have p5 := of_decide_eq_true h5
  refine WC.seq ?_
  refine WC.region ?_
  refine W.ok (ok_fieldB fd59_2 rfl) ?_
  refine W.ok (ok_loadB (i := 1) (vs := [.string _]) ty9 rfl rfl rfl rfl (by simp)) ?_
  refine W.ok (ok_fieldB fd59_3 rfl) ?_
  refine W.ok (ok_loadB (i := 1) (vs := [.string _]) ty9 rfl rfl rfl rfl (by simp)) ?_
  refine W.ok (ok_fieldB fd59_4 rfl) ?_
  refine W.ok (ok_loadB (i := 1) (vs := [.bool _]) ty4 rfl rfl rfl rfl (by simp)) ?_
  refine W.ok (ok_build (L := [.string _, .string _, .bool _]) pl56 zr56 rfl rfl rfl) ?_
  refine W.store (i := 0) (vs := [.string _, .string _, .bool _]) (L' := [.string _, .string _, .bool _]) ty56 rfl rfl rfl rfl rfl rfl rfl rfl ?_
  refine W.nil (thn_n ?_)
  refine WC.ret (thn_r ?_)
  refine ⟨.inr rfl, [_], ⟨⟨_, _, _, _, _, rfl, nthM_mem (i := 0) rfl, ty56, (by simp), rfl, rfl⟩, trivial⟩, [], List.nil_sublist _, ?_⟩
  refine congrArg (fun l => Value.agg (List.toArray l)) ?_
  rw [Msg.span, if_pos p5]; rfl
 ·have p5 := of_decide_eq_false h5
  refine WC.skip (thn_n ?_)
  refine WC.seq ?_
  refine WC.region ?_
  refine W.ok (ok_fieldB fd59_2 rfl) ?_
  refine W.ok (ok_loadB (i := 1) (vs := [.string _]) ty9 rfl rfl rfl rfl (by simp)) ?_
  refine W.ok (ok_fieldB fd59_2 rfl) ?_
  refine W.ok (ok_loadB (i := 1) (vs := [.string _]) ty9 rfl rfl rfl rfl (by simp)) ?_
  refine W.ok (ok_addS rfl rfl (by show _ + 1 ≤ _; omega)) ?_
  refine W.ok (ok_build (L := [.string _, .string _, .bool _]) pl56 zr56 rfl rfl rfl) ?_
  refine W.store (i := 0) (vs := [.string _, .string _, .bool _]) (L' := [.string _, .string _, .bool _]) ty56 rfl rfl rfl rfl rfl rfl rfl rfl ?_
  refine W.nil (thn_n ?_)
  refine WC.ret ?_
  refine ⟨.inr rfl, [_], ⟨⟨_, _, _, _, _, rfl, nthM_mem (i := 0) rfl, ty56, (by simp), rfl, rfl⟩, trivial⟩, [], List.nil_sublist _, ?_⟩
  refine congrArg (fun l => Value.agg (List.toArray l)) ?_
  rw [Msg.span, if_neg p5]; simp [Span.cells, Str.next_b hk, setAt]

end Go.Proofs.YthmkpaoolhcibaaDoor
