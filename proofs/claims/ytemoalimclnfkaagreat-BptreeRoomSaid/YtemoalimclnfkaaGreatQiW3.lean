/- Walks of functions on spans and messages. -/
import Derived.Test.YtemoalimclnfkaaGreatQiW1
set_option maxRecDepth 100000
set_option maxHeartbeats 1600000
set_option linter.unusedVariables false
set_option linter.unusedSimpArgs false
set_option linter.unnecessarySimpa false
namespace Go.Proofs.YtemoalimclnfkaaGreat
open Go Go.Fw Go.RowKit
attribute [local irreducible] Ok W WC
def S_0 : Str := ⟨⟨#[0]⟩, by decide⟩
theorem rmeet_fc {G : GH} (alo : Str) (ahi : Str) (ao : Bool) (blo : Str) (bhi : Str) (bo : Bool) :
    Fc Tryz.prog 83 [.agg #[sV alo.b, sV ahi.b, .bool ao], .agg #[sV blo.b, sV bhi.b, .bool bo]] G [] (fun v _ _ => v = .agg (List.toArray ((Span.meet ⟨alo, ahi, ao⟩ ⟨blo, bhi, bo⟩ : Span).cells))) := by
 refine Fc.go [.cell 4 74] Tryz.func83 Tryz.ntmps83 rfl (fun w0 => (g9 2 ?_))
 refine W.box (L := [sV _, sV _, .bool _]) rfl rfl (fun b1 => (W.box (L := [sV _, sV _, .bool _]) rfl rfl (fun b2 => (W.alloc zr74 (fun b3 => (g9 5 ?_))))))
 refine W.alloc zr74 (fun b4 => (g9 10 ?_))
 refine W.qcall (less_fc _ _) rfl (g9 2 ?_)
 refine WC.cond rfl (fun h11 => ?_) (fun h11 => ?_)
 ·refine g9 14 ?_
  refine W.sp 18 rfl (fun h17 => ?_) (fun h17 => ?_)
  ·refine g9 6 ?_
   refine W.sp 21 rfl (fun ha_ao => ?_) (fun ha_ao => ?_)
   ·refine g9 27 ?_
    refine W.qcall (norm_fc _ _ _) rfl (g9 5 ?_)
    refine congrArg (fun l => Value.agg (List.toArray l)) ?_
    show [Value.string _, Value.string _, Value.bool _] = _
    simp_all [Span.meet, setAt] <;> rfl
   refine g9 9 ?_
   refine W.qcall (less_fc _ _) rfl (g9 5 ?_)
   refine WC.cond rfl (fun h26 => ?_) (fun h26 => ?_)
   ·refine g9 16 ?_
    refine W.qcall (norm_fc _ _ _) rfl (g9 5 ?_)
    refine congrArg (fun l => Value.agg (List.toArray l)) ?_
    show [Value.string _, Value.string _, Value.bool _] = _
    simp_all [Span.meet, setAt] <;> rfl
   refine g9 5 ?_
   refine W.qcall (norm_fc _ _ _) rfl (g9 5 ?_)
   refine congrArg (fun l => Value.agg (List.toArray l)) ?_
   show [Value.string _, Value.string _, Value.bool _] = _
   simp_all [Span.meet, setAt] <;> rfl
  refine g9 18 ?_
  refine W.qcall (norm_fc _ _ _) rfl (g9 5 ?_)
  refine congrArg (fun l => Value.agg (List.toArray l)) ?_
  show [Value.string _, Value.string _, Value.bool _] = _
  simp_all [Span.meet, setAt] <;> rfl
 refine g9 9 ?_
 refine W.sp 18 rfl (fun h17 => ?_) (fun h17 => ?_)
 ·refine g9 6 ?_
  refine W.sp 21 rfl (fun ha_ao => ?_) (fun ha_ao => ?_)
  ·refine g9 27 ?_
   refine W.qcall (norm_fc _ _ _) rfl (g9 5 ?_)
   refine congrArg (fun l => Value.agg (List.toArray l)) ?_
   show [Value.string _, Value.string _, Value.bool _] = _
   simp_all [Span.meet, setAt] <;> rfl
  refine g9 9 ?_
  refine W.qcall (less_fc _ _) rfl (g9 5 ?_)
  refine WC.cond rfl (fun h26 => ?_) (fun h26 => ?_)
  ·refine g9 16 ?_
   refine W.qcall (norm_fc _ _ _) rfl (g9 5 ?_)
   refine congrArg (fun l => Value.agg (List.toArray l)) ?_
   show [Value.string _, Value.string _, Value.bool _] = _
   simp_all [Span.meet, setAt] <;> rfl
  refine g9 5 ?_
  refine W.qcall (norm_fc _ _ _) rfl (g9 5 ?_)
  refine congrArg (fun l => Value.agg (List.toArray l)) ?_
  show [Value.string _, Value.string _, Value.bool _] = _
  simp_all [Span.meet, setAt] <;> rfl
 refine g9 18 ?_
 refine W.qcall (norm_fc _ _ _) rfl (g9 5 ?_)
 refine congrArg (fun l => Value.agg (List.toArray l)) ?_
 show [Value.string _, Value.string _, Value.bool _] = _
 simp_all [Span.meet, setAt] <;> rfl

theorem smeet_fc {G : GH} (alo : Str) (ahi : Str) (ao : Bool) (blo : Str) (bhi : Str) (bo : Bool) :
    Fc Tryz.prog 95 [.agg #[sV alo.b, sV ahi.b, .bool ao], .agg #[sV blo.b, sV bhi.b, .bool bo]] G [] (fun v _ _ => v = .agg (List.toArray ((Span.meet ⟨alo, ahi, ao⟩ ⟨blo, bhi, bo⟩ : Span).cells))) := by
 refine Fc.go [.cell 4 74] Tryz.func95 Tryz.ntmps95 rfl (fun w0 => (g9 2 ?_))
 refine W.box (L := [sV _, sV _, .bool _]) rfl rfl (fun b5 => (W.box (L := [sV _, sV _, .bool _]) rfl rfl (fun b6 => (W.alloc zr74 (fun b7 => (g9 8 ?_))))))
 refine W.ok (ok_maxS rfl rfl) (g9 3 ?_)
 refine W.sp 13 rfl (fun ha_ao => ?_) (fun ha_ao => ?_)
 ·refine g9 5 ?_
  refine W.ok (ok_build (L := [sV _, sV _, .bool _]) pl74 zr74 rfl rfl rfl) (W.alloc zr74 (fun b8 => (g9 24 ?_)))
  refine W.qcall (spannorm_fc _ _ _) rfl (g9 5 ?_)
  refine congrArg (fun l => Value.agg (List.toArray l)) ?_
  show [Value.string _, Value.string _, Value.bool _] = _
  rw [← smeet_eq]
  simp_all [setAt] <;> rfl
 refine g9 3 ?_
 refine W.ok (ok_build (L := [sV _, sV _, .bool _]) pl74 zr74 rfl rfl rfl) (W.alloc zr74 (fun b9 => (g9 20 ?_)))
 refine WC.cond rfl (fun ha_bo => ?_) (fun ha_bo => ?_)
 ·refine g9 11 ?_
  refine W.qcall (spannorm_fc _ _ _) rfl (g9 5 ?_)
  refine congrArg (fun l => Value.agg (List.toArray l)) ?_
  show [Value.string _, Value.string _, Value.bool _] = _
  rw [← smeet_eq]
  simp_all [setAt] <;> rfl
 refine g9 5 ?_
 refine W.ok (ok_minS rfl rfl) (g9 8 ?_)
 refine W.qcall (spannorm_fc _ _ _) rfl (g9 5 ?_)
 refine congrArg (fun l => Value.agg (List.toArray l)) ?_
 show [Value.string _, Value.string _, Value.bool _] = _
 rw [← smeet_eq]
 simp_all [setAt] <;> rfl

theorem knext_fc {G : GH} (k : Str) (hk : k.b.size < 140737488355328) :
    Fc Tryz.prog 97 [sV k.b] G [] (fun v _ _ => v = sV (Str.b (k.next))) := by
 refine Fc.go [.tmp 2] Tryz.func97 Tryz.ntmps97 rfl (fun w0 => (g9 8 ?_))
 refine W.ok (ok_addS rfl rfl (by show _ + 1 ≤ _; omega)) (g9 5 ?_)
 refine congrArg Value.string ?_
 exact (Str.next_b hk).symm

theorem point_fc {G : GH} (k : Str) (hk : k.b.size < 140737488355328) :
    Fc Tryz.prog 70 [sV k.b] G [] (fun v _ _ => v = .agg (List.toArray ((⟨k, k.next, false⟩ : Span).cells))) := by
 refine Fc.go [.cell 2 74] Tryz.func70 Tryz.ntmps70 rfl (fun w0 => (g9 2 ?_))
 refine W.alloc zr74 (fun b10 => (g9 6 ?_))
 refine W.qcall (knext_fc _ (by first | assumption | omega | (dsimp only; omega))) rfl (W.ok (ok_build (L := [sV _, sV _, .bool _]) pl74 zr74 rfl rfl rfl) (g9 5 ?_))
 rfl

theorem mspan_fc {G : GH} (ms : Int) (mk : Int) (mkey : Str) (mhi : Str) (mo : Bool) (mv : Str) (hk : mkey.b.size < 140737488355328) :
    Fc Tryz.prog 79 [.agg #[iV ms, iV mk, sV mkey.b, sV mhi.b, .bool mo, sV mv.b]] G [] (fun v _ _ => v = .agg (List.toArray ((Msg.span (⟨ms, mk, mkey, mhi, mo, mv⟩ : Msg) : Span).cells))) := by
 refine Fc.go [.cell 2 74] Tryz.func79 Tryz.ntmps79 rfl (fun w0 => (g9 2 ?_))
 refine W.box (L := [iV _, iV _, sV _, sV _, .bool _, sV _]) rfl rfl (fun b11 => (W.alloc zr74 (fun b12 => (g9 10 ?_))))
 refine WC.cd (fun h5 p5 => ?_) (fun h5 p5 => ?_)
 ·refine g9 8 ?_
  refine W.ok (ok_build (L := [sV _, sV _, .bool _]) pl74 zr74 rfl rfl rfl) (g9 6 ?_)
  refine congrArg (fun l => Value.agg (List.toArray l)) ?_
  rw [Msg.span, if_pos p5]; rfl
 refine g9 6 ?_
 refine W.qcall (point_fc _ (by first | assumption | omega | (dsimp only; omega))) rfl (g9 5 ?_)
 refine congrArg (fun l => Value.agg (List.toArray l)) ?_
 rw [Msg.span, if_neg p5] <;> simp [Span.cells, Str.next_b hk, setAt]

theorem rspan_fc {G : GH} (ms : Int) (mk : Int) (mkey : Str) (mhi : Str) (mo : Bool) (mv : Str) (hk : mkey.b.size < 140737488355328) :
    Fc Tryz.prog 59 [.agg #[iV ms, iV mk, sV mkey.b, sV mhi.b, .bool mo, sV mv.b]] G [] (fun v _ _ => v = .agg (List.toArray ((Msg.span (⟨ms, mk, mkey, mhi, mo, mv⟩ : Msg) : Span).cells))) := by
 refine Fc.go [.cell 2 74] Tryz.func59 Tryz.ntmps59 rfl (fun w0 => (g9 2 ?_))
 refine W.box (L := [iV _, iV _, sV _, sV _, .bool _, sV _]) rfl rfl (fun b13 => (W.alloc zr74 (fun b14 => (g9 10 ?_))))
 refine WC.cd (fun h5 p5 => ?_) (fun h5 p5 => ?_)
 ·refine g9 8 ?_
  refine W.ok (ok_build (L := [sV _, sV _, .bool _]) pl74 zr74 rfl rfl rfl) (g9 6 ?_)
  refine congrArg (fun l => Value.agg (List.toArray l)) ?_
  rw [Msg.span, if_pos p5]; rfl
 refine g9 8 ?_
 refine W.ok (ok_addS rfl rfl (by show _ + 1 ≤ _; omega)) (W.ok (ok_build (L := [sV _, sV _, .bool _]) pl74 zr74 rfl rfl rfl) (g9 5 ?_))
 refine congrArg (fun l => Value.agg (List.toArray l)) ?_
 rw [Msg.span, if_neg p5] <;> simp [Span.cells, Str.next_b hk, setAt]

theorem touch_fc {G : GH} (alo : Str) (ahi : Str) (ao : Bool) (blo : Str) (bhi : Str) (bo : Bool) :
    Fc Tryz.prog 68 [.agg #[sV alo.b, sV ahi.b, .bool ao], .agg #[sV blo.b, sV bhi.b, .bool bo]] G [] (fun v _ _ => v = .bool (!(Span.meet ⟨alo, ahi, ao⟩ ⟨blo, bhi, bo⟩).empty)) := by
 refine Fc.go [.tmp 4] Tryz.func68 Tryz.ntmps68 rfl (fun w0 => (g9 2 ?_))
 refine W.box (L := [sV _, sV _, .bool _]) rfl rfl (fun b15 => (W.box (L := [sV _, sV _, .bool _]) rfl rfl (fun b16 => (g9 7 ?_))))
 refine W.qcall (smeet_fc _ _ _ _ _ _) rfl (W.qcall (spanempty_fc _ _ _) rfl (g9 6 ?_))
 rfl

theorem tail_fc {G : GH} (s : Str) :
    Fc Tryz.prog 145 [sV s.b] G [] (fun v _ _ => v = sV (Str.b (s.tail))) := by
 have hs := s.le
 refine Fc.go [.tmp 2] Tryz.func145 Tryz.ntmps145 rfl (fun w0 => (g9 11 ?_))
 refine W.ok (ok_maxi rfl rfl) (W.ok (ok_sliceS (s.b.size - 16) (s.b.size) st9 rfl ⟨_, _, rfl, om9⟩ rfl ⟨om9, om9⟩) (g9 5 ?_))
 rfl

theorem vadd_fc {G : GH} (a : Str) (b : Str) (ha : a.b.size ≤ 1048576) (hb : b.b.size ≤ 1048576) :
    Fc Tryz.prog 132 [sV a.b, sV b.b] G [] (fun v _ _ => v = sV (Str.b (a.add b))) := by
 refine Fc.go [.tmp 4] Tryz.func132 Tryz.ntmps132 rfl (fun w0 => (g9 9 ?_))
 refine W.ok (Ok.str (b := (a.cat b).b) (ok_addS rfl rfl om9) ((Str.cat_b om9).symm)) (W.qcall (tail_fc _) rfl (g9 5 ?_))
 exact congrArg (fun s => Value.string (Str.b s)) (Str.cat_tail om9)

theorem rtail_fc {G : GH} (s : Str) :
    Fc Tryz.prog 113 [sV s.b] G [] (fun v _ _ => v = sV (Str.b (s.tail))) := by
 have hs := s.le
 refine Fc.go [.tmp 2] Tryz.func113 Tryz.ntmps113 rfl (fun w0 => (g9 20 ?_))
 refine WC.loop (X := Nat) (fun k => [(3, sV (s.cut (s.b.size - k) s.b.size).b), (4, iV ((s.b.size : Int) - 1 - ((k : Nat) : Int))), (0, sV s.b)]) (fun k _ Ml => Ml = [] ∧ k ≤ s.b.size ∧ k ≤ 16) (fun k => 17 - k) 0 ⟨(congrArg Value.string (Str.cut_nil om9).symm), (iv om9), eqv, trivial⟩ ?_ ?_
 ·exact ⟨rfl, om9, om9⟩
 rintro k gG1 G1 _ hG1 ⟨rfl, hk, hk16⟩
 have hz := s.cut_size (s.b.size - k) s.b.size
 refine g9 6 ?_
 refine W.sd 10 (fun h9 p9 => ?_) (fun h9 p9 => ?_)
 ·refine g9 9 ?_
  refine WC.cd (fun h13 p13 => ?_) (fun h13 p13 => ?_)
  ·refine g9 9 ?_
   refine W.ok (ok_sliceS (s.b.size - 1 - k) (s.b.size - k) st9 rfl ⟨_, _, rfl, om9⟩ ⟨_, _, rfl, om9⟩ ⟨om9, om9⟩) (W.mv (W.ok (ok_addS rfl rfl (by simp only [Str.cut_size]; omega)) (g9 10 ?_)))
   exact ⟨Le.rfl, k + 1, ⟨(congrArg Value.string (Str.cut_cat om9)), (iv om9), eqv, trivial⟩, ⟨rfl, om9, om9⟩, om9⟩
  refine g9 13 ?_
  have hk2 : s.b.size - k = s.b.size - 16 := by simp only [Str.cut_size] at *; omega
  rw [hk2]; rfl
 refine g9 20 ?_
 have hk2 : s.b.size - k = s.b.size - 16 := by simp only [Str.cut_size] at *; omega
 rw [hk2]; rfl

theorem kright_fc {G : GH} (s : Str) :
    Fc Tryz.prog 60 [sV s.b] G [] (fun v _ _ => v = .bool (decide (s.b.size ≤ 16))) := by
 have hs := s.le
 refine Fc.go [.tmp 2] Tryz.func60 Tryz.ntmps60 rfl (fun w0 => (g9 15 ?_))
 refine congrArg Value.bool ?_
 rw [decide_eq_decide]; omega

theorem vright_fc {G : GH} (s : Str) :
    Fc Tryz.prog 61 [sV s.b] G [] (fun v _ _ => v = .bool (decide (s.b.size ≤ 16))) := by
 have hs := s.le
 refine Fc.go [.tmp 2] Tryz.func61 Tryz.ntmps61 rfl (fun w0 => (g9 15 ?_))
 refine congrArg Value.bool ?_
 rw [decide_eq_decide]; omega

theorem rapply_fc {G : GH} (ek : Int) (ev : Str) (has : Bool) (x : Str) (he : ev.b.size ≤ 1048576) (hv : x.b.size ≤ 1048576) :
    Fc Tryz.prog 90 [.agg #[iV ek, sV ev.b], .bool has, sV x.b] G [] (fun v _ _ => v = .tuple #[.bool (((Eff.apply (⟨ek, ev⟩ : Eff) (optS has x))).isSome), sV (Str.b (((Eff.apply (⟨ek, ev⟩ : Eff) (optS has x))).getD Str.nil))]) := by
 refine Fc.go [.tmp 6, .tmp 7] Tryz.func90 Tryz.ntmps90 rfl (fun w0 => (g9 2 ?_))
 refine W.box (L := [iV _, sV _]) rfl rfl (fun b2 => (g9 12 ?_))
 refine WC.cd (fun h10 p10 => ?_) (fun h10 p10 => ?_)
 ·refine g9 11 ?_
  show Value.tuple #[Value.bool _, Value.string _] = _
  simp_all [Eff.apply, optS, Str.nil]
 refine g9 10 ?_
 refine WC.cd (fun h15 p15 => ?_) (fun h15 p15 => ?_)
 ·refine g9 9 ?_
  show Value.tuple #[Value.bool _, Value.string _] = _
  simp_all [Eff.apply, optS, Str.nil]
 refine g9 9 ?_
 refine WC.cond rfl (fun h17 => ?_) (fun h17 => ?_)
 ·refine g9 12 ?_
  refine WC.cd (fun h20 p20 => ?_) (fun h20 p20 => ?_)
  ·refine g9 5 ?_
   refine W.ok (Ok.str (b := (Str.nil.cat ev).b) (ok_addS rfl rfl ((by first | omega | (show 0 + ev.b.size ≤ _; omega)))) ((Str.cat_b (a := Str.nil) (by first | omega | (show 0 + ev.b.size ≤ _; omega))).symm)) (W.qcall (rtail_fc _) rfl (g9 7 ?_))
   show Value.tuple #[Value.bool _, Value.string _] = _
   rw [Str.cat_tail (by first | omega | (show 0 + ev.b.size ≤ _; omega))]
   simp_all [Eff.apply, optS, Str.nil]
  refine g9 12 ?_
  show Value.tuple #[Value.bool _, Value.string _] = _
  simp_all [Eff.apply, optS, Str.nil]
 refine g9 10 ?_
 refine WC.cd (fun h20 p20 => ?_) (fun h20 p20 => ?_)
 ·refine g9 5 ?_
  refine W.ok (Ok.str (b := (x.cat ev).b) (ok_addS rfl rfl ((by first | omega | (show 0 + ev.b.size ≤ _; omega)))) ((Str.cat_b om9).symm)) (W.qcall (rtail_fc _) rfl (g9 7 ?_))
  show Value.tuple #[Value.bool _, Value.string _] = _
  rw [Str.cat_tail (by first | omega | (show 0 + ev.b.size ≤ _; omega))]
  simp_all [Eff.apply, optS, Str.nil]
 refine g9 12 ?_
 show Value.tuple #[Value.bool _, Value.string _] = _
 simp_all [Eff.apply, optS, Str.nil]

theorem eapply_fc {G : GH} (ek : Int) (ev : Str) (has : Bool) (x : Str) (he : ev.b.size ≤ 1048576) (hv : x.b.size ≤ 1048576) :
    Fc Tryz.prog 117 [.agg #[iV ek, sV ev.b], .bool has, sV x.b] G [] (fun v _ _ => v = .tuple #[.bool (((Eff.apply (⟨ek, ev⟩ : Eff) (optS has x))).isSome), sV (Str.b (((Eff.apply (⟨ek, ev⟩ : Eff) (optS has x))).getD Str.nil))]) := by
 refine Fc.go [.tmp 6, .tmp 7] Tryz.func117 Tryz.ntmps117 rfl (fun w0 => (g9 2 ?_))
 refine W.box (L := [iV _, sV _]) rfl rfl (fun b3 => (g9 11 ?_))
 refine WC.cond rfl (fun h9 => ?_) (fun h9 => ?_)
 ·refine g9 18 ?_
  refine WC.cd (fun h13 p13 => ?_) (fun h13 p13 => ?_)
  ·refine g9 12 ?_
   show Value.tuple #[Value.bool _, Value.string _] = _
   simp_all [Eff.apply, optS, Str.nil]
  refine g9 6 ?_
  refine WC.cd (fun h17 p17 => ?_) (fun h17 p17 => ?_)
  ·refine g9 5 ?_
   refine W.qcall (vadd_fc Str.nil ev (by show 0 ≤ 1048576; omega) (by assumption)) rfl (g9 8 ?_)
   show Value.tuple #[Value.bool _, Value.string _] = _
   simp_all [Eff.apply, optS, Str.nil]
  refine g9 6 ?_
  refine WC.cd (fun h23 p23 => ?_) (fun h23 p23 => ?_)
  ·refine g9 10 ?_
   show Value.tuple #[Value.bool _, Value.string _] = _
   simp_all [Eff.apply, optS, Str.nil]
  refine g9 13 ?_
  show Value.tuple #[Value.bool _, Value.string _] = _
  simp_all [Eff.apply, optS, Str.nil]
 refine g9 16 ?_
 refine WC.cd (fun h13 p13 => ?_) (fun h13 p13 => ?_)
 ·refine g9 12 ?_
  show Value.tuple #[Value.bool _, Value.string _] = _
  simp_all [Eff.apply, optS, Str.nil]
 refine g9 6 ?_
 refine WC.cd (fun h17 p17 => ?_) (fun h17 p17 => ?_)
 ·refine g9 5 ?_
  refine W.qcall (vadd_fc x ev (by assumption) (by assumption)) rfl (g9 8 ?_)
  show Value.tuple #[Value.bool _, Value.string _] = _
  simp_all [Eff.apply, optS, Str.nil]
 refine g9 6 ?_
 refine WC.cd (fun h23 p23 => ?_) (fun h23 p23 => ?_)
 ·refine g9 10 ?_
  show Value.tuple #[Value.bool _, Value.string _] = _
  simp_all [Eff.apply, optS, Str.nil]
 refine g9 13 ?_
 show Value.tuple #[Value.bool _, Value.string _] = _
 simp_all [Eff.apply, optS, Str.nil]

theorem mon_fc {G : GH} (ms : Int) (mk : Int) (mkey : Str) (mhi : Str) (mo : Bool) (mv : Str) (k : Str) (hk : mkey.b.size < 140737488355328) :
    Fc Tryz.prog 40 [.agg #[iV ms, iV mk, sV mkey.b, sV mhi.b, .bool mo, sV mv.b], sV k.b] G [] (fun v _ _ => v = .agg (List.toArray ((Msg.on (⟨ms, mk, mkey, mhi, mo, mv⟩ : Msg) k).cells))) := by
 refine Fc.go [.cell 4 90] Tryz.func40 Tryz.ntmps40 rfl (fun w0 => (g9 2 ?_))
 refine W.box (L := [iV _, iV _, sV _, sV _, .bool _, sV _]) rfl rfl (fun b4 => (W.alloc zr90 (fun b5 => (g9 6 ?_))))
 refine W.qcall (mspan_fc _ _ _ _ _ _ (by first | assumption | omega | (dsimp only; omega))) rfl (W.mv (W.qcall (spanhas_fc _ _ _ _) rfl (g9 3 ?_)))
 refine WC.cond rfl (fun h9 => ?_) (fun h9 => ?_)
 ·refine g9 2 ?_
  refine W.ok (ok_build (L := [iV _, sV _]) pl90 zr90 rfl rfl rfl) (g9 6 ?_)
  refine congrArg (fun l => Value.agg (List.toArray l)) ?_
  show [Value.int _ _, Value.string _] = _
  first | (simp_all [Msg.on, Eff.cells, Eff.zero, Str.nil]; done) | (simp_all [Msg.on, Eff.cells, Eff.zero, Str.nil]; split <;> first | (exfalso; omega) | (simp; done) | (split <;> first | (exfalso; omega) | (simp; done)))
 refine g9 17 ?_
 refine WC.cd (fun h14 p14 => ?_) (fun h14 p14 => ?_)
 ·refine g9 9 ?_
  refine W.ok (ok_build (L := [iV _, sV _]) pl90 zr90 rfl rfl rfl) (g9 7 ?_)
  refine congrArg (fun l => Value.agg (List.toArray l)) ?_
  show [Value.int _ _, Value.string _] = _
  first | (simp_all [Msg.on, Eff.cells, Eff.zero, Str.nil]; done) | (simp_all [Msg.on, Eff.cells, Eff.zero, Str.nil]; split <;> first | (exfalso; omega) | (simp; done) | (split <;> first | (exfalso; omega) | (simp; done)))
 refine g9 5 ?_
 refine WC.cd (fun h15 p15 => ?_) (fun h15 p15 => ?_)
 ·refine g9 6 ?_
  refine W.ok (ok_build (L := [iV _, sV _]) pl90 zr90 rfl rfl rfl) (g9 7 ?_)
  refine congrArg (fun l => Value.agg (List.toArray l)) ?_
  show [Value.int _ _, Value.string _] = _
  first | (simp_all [Msg.on, Eff.cells, Eff.zero, Str.nil]; done) | (simp_all [Msg.on, Eff.cells, Eff.zero, Str.nil]; split <;> first | (exfalso; omega) | (simp; done) | (split <;> first | (exfalso; omega) | (simp; done)))
 refine g9 7 ?_
 refine WC.cd (fun h22 p22 => ?_) (fun h22 p22 => ?_)
 ·refine g9 5 ?_
  refine W.ok (ok_build (L := [iV _, sV _]) pl90 zr90 rfl rfl rfl) (g9 7 ?_)
  refine congrArg (fun l => Value.agg (List.toArray l)) ?_
  show [Value.int _ _, Value.string _] = _
  first | (simp_all [Msg.on, Eff.cells, Eff.zero, Str.nil]; done) | (simp_all [Msg.on, Eff.cells, Eff.zero, Str.nil]; split <;> first | (exfalso; omega) | (simp; done) | (split <;> first | (exfalso; omega) | (simp; done)))
 refine g9 5 ?_
 refine WC.cd (fun h23 p23 => ?_) (fun h23 p23 => ?_)
 ·refine g9 2 ?_
  refine W.ok (ok_build (L := [iV _, sV _]) pl90 zr90 rfl rfl rfl) (g9 7 ?_)
  refine congrArg (fun l => Value.agg (List.toArray l)) ?_
  show [Value.int _ _, Value.string _] = _
  first | (simp_all [Msg.on, Eff.cells, Eff.zero, Str.nil]; done) | (simp_all [Msg.on, Eff.cells, Eff.zero, Str.nil]; split <;> first | (exfalso; omega) | (simp; done) | (split <;> first | (exfalso; omega) | (simp; done)))
 refine g9 5 ?_
 refine W.ok (ok_build (L := [iV _, sV _]) pl90 zr90 rfl rfl rfl) (g9 5 ?_)
 refine congrArg (fun l => Value.agg (List.toArray l)) ?_
 show [Value.int _ _, Value.string _] = _
 first | (simp_all [Msg.on, Eff.cells, Eff.zero, Str.nil]; done) | (simp_all [Msg.on, Eff.cells, Eff.zero, Str.nil]; split <;> first | (exfalso; omega) | (simp; done) | (split <;> first | (exfalso; omega) | (simp; done)))

theorem ron_fc {G : GH} (ms : Int) (mk : Int) (mkey : Str) (mhi : Str) (mo : Bool) (mv : Str) (k : Str) (hk : mkey.b.size < 140737488355328) :
    Fc Tryz.prog 58 [.agg #[iV ms, iV mk, sV mkey.b, sV mhi.b, .bool mo, sV mv.b], sV k.b] G [] (fun v _ _ => v = .agg (List.toArray ((Msg.on (⟨ms, mk, mkey, mhi, mo, mv⟩ : Msg) k).cells))) := by
 refine Fc.go [.cell 4 90] Tryz.func58 Tryz.ntmps58 rfl (fun w0 => (g9 2 ?_))
 refine W.box (L := [iV _, iV _, sV _, sV _, .bool _, sV _]) rfl rfl (fun b6 => (W.alloc zr90 (fun b7 => (g9 6 ?_))))
 refine W.qcall (rspan_fc _ _ _ _ _ _ (by first | assumption | omega | (dsimp only; omega))) rfl (W.mv (W.qcall (has_fc _ _ _ _) rfl (g9 2 ?_)))
 refine W.sp 10 rfl (fun h9 => ?_) (fun h9 => ?_)
 ·refine g9 14 ?_
  refine W.ok (ok_build (L := [iV _, sV _]) pl90 zr90 rfl rfl rfl) (g9 6 ?_)
  refine congrArg (fun l => Value.agg (List.toArray l)) ?_
  show [Value.int _ _, Value.string _] = _
  first | (simp_all [Msg.on, Eff.cells, Eff.zero, Str.nil]; done) | (simp_all [Msg.on, Eff.cells, Eff.zero, Str.nil]; split <;> first | (exfalso; omega) | (simp; done) | (split <;> first | (exfalso; omega) | (simp; done)))
 refine g9 8 ?_
 refine W.sd 15 (fun h13 p13 => ?_) (fun h13 p13 => ?_)
 ·refine g9 9 ?_
  refine W.ok (ok_build (L := [iV _, sV _]) pl90 zr90 rfl rfl rfl) (g9 6 ?_)
  refine congrArg (fun l => Value.agg (List.toArray l)) ?_
  show [Value.int _ _, Value.string _] = _
  first | (simp_all [Msg.on, Eff.cells, Eff.zero, Str.nil]; done) | (simp_all [Msg.on, Eff.cells, Eff.zero, Str.nil]; split <;> first | (exfalso; omega) | (simp; done) | (split <;> first | (exfalso; omega) | (simp; done)))
 refine g9 9 ?_
 refine WC.cd (fun h18 p18 => ?_) (fun h18 p18 => ?_)
 ·refine g9 2 ?_
  refine W.ok (ok_build (L := [iV _, sV _]) pl90 zr90 rfl rfl rfl) (g9 6 ?_)
  refine congrArg (fun l => Value.agg (List.toArray l)) ?_
  show [Value.int _ _, Value.string _] = _
  first | (simp_all [Msg.on, Eff.cells, Eff.zero, Str.nil]; done) | (simp_all [Msg.on, Eff.cells, Eff.zero, Str.nil]; split <;> first | (exfalso; omega) | (simp; done) | (split <;> first | (exfalso; omega) | (simp; done)))
 refine g9 10 ?_
 refine WC.cd (fun h23 p23 => ?_) (fun h23 p23 => ?_)
 ·refine g9 2 ?_
  refine W.ok (ok_build (L := [iV _, sV _]) pl90 zr90 rfl rfl rfl) (g9 6 ?_)
  refine congrArg (fun l => Value.agg (List.toArray l)) ?_
  show [Value.int _ _, Value.string _] = _
  first | (simp_all [Msg.on, Eff.cells, Eff.zero, Str.nil]; done) | (simp_all [Msg.on, Eff.cells, Eff.zero, Str.nil]; split <;> first | (exfalso; omega) | (simp; done) | (split <;> first | (exfalso; omega) | (simp; done)))
 refine g9 8 ?_
 refine W.ok (ok_build (L := [iV _, sV _]) pl90 zr90 rfl rfl rfl) (g9 5 ?_)
 refine congrArg (fun l => Value.agg (List.toArray l)) ?_
 show [Value.int _ _, Value.string _] = _
 first | (simp_all [Msg.on, Eff.cells, Eff.zero, Str.nil]; done) | (simp_all [Msg.on, Eff.cells, Eff.zero, Str.nil]; split <;> first | (exfalso; omega) | (simp; done) | (split <;> first | (exfalso; omega) | (simp; done)))

end Go.Proofs.YtemoalimclnfkaaGreat
