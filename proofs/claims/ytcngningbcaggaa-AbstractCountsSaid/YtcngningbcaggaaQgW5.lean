/- Walks of functions on effects, and where a key stands. -/
import Derived.Test.YtcngningbcaggaaQgW4
import Derived.Test.YtcngningbcaggaaQgW2
set_option maxRecDepth 100000
set_option maxHeartbeats 1600000
set_option linter.unusedVariables false
set_option linter.unusedSimpArgs false
set_option linter.unnecessarySimpa false
namespace Go.Proofs.Ytcngningbcaggaa
open Go Go.Fw Go.RowKit
attribute [local irreducible] Ok W WC
theorem ethen_fc {G : GH} (ak : Int) (av : Str) (bk : Int) (bv : Str) (ha : av.b.size ≤ 1048576) (hb : bv.b.size ≤ 1048576) :
    Fc Try.prog 107 [.agg #[iV ak, sV av.b], .agg #[iV bk, sV bv.b]] G [] (fun v _ _ => v = .agg (List.toArray ((Eff.then (⟨ak, av⟩ : Eff) (⟨bk, bv⟩ : Eff)).cells))) := by
 refine Fc.go [.cell 4 136] Try.func107 Try.ntmps107 rfl (fun w0 => (g9 2 ?_))
 refine W.box (L := [iV _, sV _]) rfl rfl (fun b1 => (W.box (L := [iV _, sV _]) rfl rfl (fun b2 => (W.alloc zr136 (fun b3 => (g9 12 ?_))))))
 refine WC.cd (fun h10 p10 => ?_) (fun h10 p10 => ?_)
 ·refine g9 10 ?_
  refine congrArg (fun l => Value.agg (List.toArray l)) ?_
  show [Value.int _ _, Value.string _] = _
  first | (simp_all [Eff.then, Eff.cells, Eff.apply, optS, Str.nil]; done) | (simp_all [Eff.then, Eff.cells, Eff.apply, optS, Str.nil]; split <;> simp)
 refine g9 6 ?_
 refine W.sm 16 (fun h15 p15 => ?_) (fun h15 p15 => ?_)
 ·refine g9 18 ?_
  refine congrArg (fun l => Value.agg (List.toArray l)) ?_
  show [Value.int _ _, Value.string _] = _
  first | (simp_all [Eff.then, Eff.cells, Eff.apply, optS, Str.nil]; done) | (simp_all [Eff.then, Eff.cells, Eff.apply, optS, Str.nil]; split <;> simp)
 refine g9 10 ?_
 refine WC.cd (fun h19 p19 => ?_) (fun h19 p19 => ?_)
 ·refine g9 10 ?_
  refine congrArg (fun l => Value.agg (List.toArray l)) ?_
  show [Value.int _ _, Value.string _] = _
  first | (simp_all [Eff.then, Eff.cells, Eff.apply, optS, Str.nil]; done) | (simp_all [Eff.then, Eff.cells, Eff.apply, optS, Str.nil]; split <;> simp)
 refine g9 11 ?_
 refine W.qcall (eapply_fc _ _ _ _ (by first | assumption | omega | (dsimp only; omega) | (simp; omega)) (by first | assumption | omega | (dsimp only; omega) | (simp; omega))) rfl (g9 20 ?_)
 refine WC.cd (fun h37 p37 => ?_) (fun h37 p37 => ?_)
 ·refine g9 3 ?_
  refine W.ok (ok_build (L := [iV _, sV _]) pl136 zr136 rfl rfl rfl) (g9 6 ?_)
  refine congrArg (fun l => Value.agg (List.toArray l)) ?_
  show [Value.int _ _, Value.string _] = _
  first | (simp_all [Eff.then, Eff.cells, Eff.apply, optS, Str.nil]; done) | (simp_all [Eff.then, Eff.cells, Eff.apply, optS, Str.nil]; split <;> simp)
 refine g9 3 ?_
 refine W.ok (ok_build (L := [iV _, sV _]) pl136 zr136 rfl rfl rfl) (g9 6 ?_)
 refine congrArg (fun l => Value.agg (List.toArray l)) ?_
 show [Value.int _ _, Value.string _] = _
 first | (simp_all [Eff.then, Eff.cells, Eff.apply, optS, Str.nil]; done) | (simp_all [Eff.then, Eff.cells, Eff.apply, optS, Str.nil]; split <;> simp)

theorem cmp_fc {G : GH} (a : Str) (b : Str) :
    Fc Try.prog 140 [sV a.b, sV b.b] G [] (fun v _ _ => v = iV (cmpN a b)) := by
 refine Fc.go [.tmp 4] Try.func140 Try.ntmps140 rfl (fun w0 => (g9 8 ?_))
 refine W.qcall (isnan_fc _) rfl (g9 6 ?_)
 refine W.qcall (isnan_fc _) rfl (g9 9 ?_)
 refine WC.cond rfl (fun h8 => ?_) (fun h8 => ?_)
 ·cases h8
 refine g9 8 ?_
 refine WC.cond rfl (fun h10 => ?_) (fun h10 => ?_)
 ·cases h10
 refine g9 10 ?_
 refine WC.cond rfl (fun h16 => ?_) (fun h16 => ?_)
 ·refine g9 8 ?_
  refine congrArg (Value.int .i64) ?_
  simp_all [cmpN, Str.lt]
 refine g9 7 ?_
 refine W.ok (ok_gtrS rfl rfl) (g9 2 ?_)
 refine WC.cond rfl (fun h19 => ?_) (fun h19 => ?_)
 ·refine g9 8 ?_
  refine congrArg (Value.int .i64) ?_
  simp_all [cmpN, Str.lt]
 refine g9 9 ?_
 refine congrArg (Value.int .i64) ?_
 simp_all [cmpN, Str.lt]

theorem kcmp_fc {G : GH} (a : Str) (b : Str) :
    Fc Try.prog 125 [sV a.b, sV b.b] G [] (fun v _ _ => v = iV (cmpN a b)) := by
 refine Fc.go [.tmp 4] Try.func125 Try.ntmps125 rfl (fun w0 => (g9 9 ?_))
 refine W.qcall (cmp_fc _ _) rfl (g9 5 ?_)
 rfl

theorem cl_m_fc {G : GH} (pk : Str) (pv : Str) (k : Str) :
    Fc Try.prog 124 [.agg #[sV pk.b, sV pv.b], sV k.b] G [] (fun v _ _ => v = iV (cmpN pk k)) := by
 refine Fc.go [.tmp 4] Try.func124 Try.ntmps124 rfl (fun w0 => (g9 2 ?_))
 refine W.box (L := [sV _, sV _]) rfl rfl (fun b19 => (g9 8 ?_))
 refine W.qcall (kcmp_fc _ _) rfl (g9 5 ?_)
 rfl

end Go.Proofs.Ytcngningbcaggaa
