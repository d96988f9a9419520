/- Walks of functions on spans and messages. -/
import Derived.Test.YtemoalimclnfkaaGreatQjRn
set_option maxRecDepth 100000
set_option maxHeartbeats 1600000
set_option linter.unusedVariables false
set_option linter.unusedSimpArgs false
set_option linter.unnecessarySimpa false
namespace Go.Proofs.YtemoalimclnfkaaGreat
open Go Go.Fw Go.RowKit
attribute [local irreducible] Ok W WC
def S_0 : Str := ⟨⟨#[0]⟩, by decide⟩
theorem smeet_fc {G : GH} (alo : Str) (ahi : Str) (ao : Bool) (blo : Str) (bhi : Str) (bo : Bool) :
    Fc Tryz.prog 95 [.agg #[sV alo.b, sV ahi.b, .bool ao], .agg #[sV blo.b, sV bhi.b, .bool bo]] G [] (fun v _ _ => v = .agg (List.toArray ((Span.meet ⟨alo, ahi, ao⟩ ⟨blo, bhi, bo⟩ : Span).cells))) := by
 refine Fc.go [.cell 4 74] Tryz.func95 Tryz.ntmps95 rfl (fun w0 => (g9 2 ?_))
 refine W.box (L := [sV _, sV _, .bool _]) rfl rfl (fun b5 => (W.box (L := [sV _, sV _, .bool _]) rfl rfl (fun b6 => (W.alloc zr74 (fun b7 => (g9 8 ?_))))))
 refine W.ok (ok_maxS rfl rfl) (g9 3 ?_)
 refine W.sp 13 rfl (fun ha_ao => ?_) (fun ha_ao => ?_)
 ·refine g9 5 ?_
  refine W.ok (ok_build (L := [sV _, sV _, .bool _]) pl74 zr74 rfl rfl rfl) (W.alloc zr74 (fun b8 => (g9 24 ?_)))
  refine W.qcall (spannorm_fc _ _ _) rfl (g9 5 ?_)
  refine congrArg (fun l => Value.agg (List.toArray l)) ?_
  show [Value.string _, Value.string _, Value.bool _] = _
  rw [← smeet_eq]
  simp_all [setAt] <;> rfl
 refine g9 3 ?_
 refine W.ok (ok_build (L := [sV _, sV _, .bool _]) pl74 zr74 rfl rfl rfl) (W.alloc zr74 (fun b9 => (g9 20 ?_)))
 refine WC.cond rfl (fun ha_bo => ?_) (fun ha_bo => ?_)
 ·refine g9 11 ?_
  refine W.qcall (spannorm_fc _ _ _) rfl (g9 5 ?_)
  refine congrArg (fun l => Value.agg (List.toArray l)) ?_
  show [Value.string _, Value.string _, Value.bool _] = _
  rw [← smeet_eq]
  simp_all [setAt] <;> rfl
 refine g9 5 ?_
 refine W.ok (ok_minS rfl rfl) (g9 8 ?_)
 refine W.qcall (spannorm_fc _ _ _) rfl (g9 5 ?_)
 refine congrArg (fun l => Value.agg (List.toArray l)) ?_
 show [Value.string _, Value.string _, Value.bool _] = _
 rw [← smeet_eq]
 simp_all [setAt] <;> rfl

theorem knext_fc {G : GH} (k : Str) (hk : k.b.size < 140737488355328) :
    Fc Tryz.prog 97 [sV k.b] G [] (fun v _ _ => v = sV (Str.b (k.next))) := by
 refine Fc.go [.tmp 2] Tryz.func97 Tryz.ntmps97 rfl (fun w0 => (g9 8 ?_))
 refine W.ok (ok_addS rfl rfl (by show _ + 1 ≤ _; omega)) (g9 5 ?_)
 refine congrArg Value.string ?_
 exact (Str.next_b hk).symm

theorem point_fc {G : GH} (k : Str) (hk : k.b.size < 140737488355328) :
    Fc Tryz.prog 70 [sV k.b] G [] (fun v _ _ => v = .agg (List.toArray ((⟨k, k.next, false⟩ : Span).cells))) := by
 refine Fc.go [.cell 2 74] Tryz.func70 Tryz.ntmps70 rfl (fun w0 => (g9 2 ?_))
 refine W.alloc zr74 (fun b10 => (g9 6 ?_))
 refine W.qcall (knext_fc _ (by first | assumption | omega | (dsimp only; omega))) rfl (W.ok (ok_build (L := [sV _, sV _, .bool _]) pl74 zr74 rfl rfl rfl) (g9 5 ?_))
 rfl

theorem mspan_fc {G : GH} (ms : Int) (mk : Int) (mkey : Str) (mhi : Str) (mo : Bool) (mv : Str) (hk : mkey.b.size < 140737488355328) :
    Fc Tryz.prog 79 [.agg #[iV ms, iV mk, sV mkey.b, sV mhi.b, .bool mo, sV mv.b]] G [] (fun v _ _ => v = .agg (List.toArray ((Msg.span (⟨ms, mk, mkey, mhi, mo, mv⟩ : Msg) : Span).cells))) := by
 refine Fc.go [.cell 2 74] Tryz.func79 Tryz.ntmps79 rfl (fun w0 => (g9 2 ?_))
 refine W.box (L := [iV _, iV _, sV _, sV _, .bool _, sV _]) rfl rfl (fun b11 => (W.alloc zr74 (fun b12 => (g9 10 ?_))))
 refine WC.cd (fun h5 p5 => ?_) (fun h5 p5 => ?_)
 ·refine g9 8 ?_
  refine W.ok (ok_build (L := [sV _, sV _, .bool _]) pl74 zr74 rfl rfl rfl) (g9 6 ?_)
  refine congrArg (fun l => Value.agg (List.toArray l)) ?_
  rw [Msg.span, if_pos p5]; rfl
 refine g9 6 ?_
 refine W.qcall (point_fc _ (by first | assumption | omega | (dsimp only; omega))) rfl (g9 5 ?_)
 refine congrArg (fun l => Value.agg (List.toArray l)) ?_
 rw [Msg.span, if_neg p5] <;> simp [Span.cells, Str.next_b hk, setAt]

theorem touch_fc {G : GH} (alo : Str) (ahi : Str) (ao : Bool) (blo : Str) (bhi : Str) (bo : Bool) :
    Fc Tryz.prog 68 [.agg #[sV alo.b, sV ahi.b, .bool ao], .agg #[sV blo.b, sV bhi.b, .bool bo]] G [] (fun v _ _ => v = .bool (!(Span.meet ⟨alo, ahi, ao⟩ ⟨blo, bhi, bo⟩).empty)) := by
 refine Fc.go [.tmp 4] Tryz.func68 Tryz.ntmps68 rfl (fun w0 => (g9 2 ?_))
 refine W.box (L := [sV _, sV _, .bool _]) rfl rfl (fun b15 => (W.box (L := [sV _, sV _, .bool _]) rfl rfl (fun b16 => (g9 7 ?_))))
 refine W.qcall (smeet_fc _ _ _ _ _ _) rfl (W.qcall (spanempty_fc _ _ _) rfl (g9 6 ?_))
 rfl

theorem tail_fc {G : GH} (s : Str) :
    Fc Tryz.prog 145 [sV s.b] G [] (fun v _ _ => v = sV (Str.b (s.tail))) := by
 have hs := s.le
 refine Fc.go [.tmp 2] Tryz.func145 Tryz.ntmps145 rfl (fun w0 => (g9 11 ?_))
 refine W.ok (ok_maxi rfl rfl) (W.ok (ok_sliceS (s.b.size - 16) (s.b.size) st9 rfl ⟨_, _, rfl, om9⟩ rfl ⟨om9, om9⟩) (g9 5 ?_))
 rfl

theorem vadd_fc {G : GH} (a : Str) (b : Str) (ha : a.b.size ≤ 1048576) (hb : b.b.size ≤ 1048576) :
    Fc Tryz.prog 132 [sV a.b, sV b.b] G [] (fun v _ _ => v = sV (Str.b (a.add b))) := by
 refine Fc.go [.tmp 4] Tryz.func132 Tryz.ntmps132 rfl (fun w0 => (g9 9 ?_))
 refine W.ok (Ok.str (b := (a.cat b).b) (ok_addS rfl rfl om9) ((Str.cat_b om9).symm)) (W.qcall (tail_fc _) rfl (g9 5 ?_))
 exact congrArg (fun s => Value.string (Str.b s)) (Str.cat_tail om9)

theorem kright_fc {G : GH} (s : Str) :
    Fc Tryz.prog 60 [sV s.b] G [] (fun v _ _ => v = .bool (decide (s.b.size ≤ 16))) := by
 have hs := s.le
 refine Fc.go [.tmp 2] Tryz.func60 Tryz.ntmps60 rfl (fun w0 => (g9 15 ?_))
 refine congrArg Value.bool ?_
 rw [decide_eq_decide]; omega

theorem vright_fc {G : GH} (s : Str) :
    Fc Tryz.prog 61 [sV s.b] G [] (fun v _ _ => v = .bool (decide (s.b.size ≤ 16))) := by
 have hs := s.le
 refine Fc.go [.tmp 2] Tryz.func61 Tryz.ntmps61 rfl (fun w0 => (g9 15 ?_))
 refine congrArg Value.bool ?_
 rw [decide_eq_decide]; omega

theorem eapply_fc {G : GH} (ek : Int) (ev : Str) (has : Bool) (x : Str) (he : ev.b.size ≤ 1048576) (hv : x.b.size ≤ 1048576) :
    Fc Tryz.prog 117 [.agg #[iV ek, sV ev.b], .bool has, sV x.b] G [] (fun v _ _ => v = .tuple #[.bool (((Eff.apply (⟨ek, ev⟩ : Eff) (optS has x))).isSome), sV (Str.b (((Eff.apply (⟨ek, ev⟩ : Eff) (optS has x))).getD Str.nil))]) := by
 refine Fc.go [.tmp 6, .tmp 7] Tryz.func117 Tryz.ntmps117 rfl (fun w0 => (g9 2 ?_))
 refine W.box (L := [iV _, sV _]) rfl rfl (fun b3 => (g9 11 ?_))
 refine WC.cond rfl (fun h9 => ?_) (fun h9 => ?_)
 ·refine g9 18 ?_
  refine WC.cd (fun h13 p13 => ?_) (fun h13 p13 => ?_)
  ·refine g9 12 ?_
   show Value.tuple #[Value.bool _, Value.string _] = _
   simp_all [Eff.apply, optS, Str.nil]
  refine g9 6 ?_
  refine WC.cd (fun h17 p17 => ?_) (fun h17 p17 => ?_)
  ·refine g9 5 ?_
   refine W.qcall (vadd_fc Str.nil ev (by show 0 ≤ 1048576; omega) (by assumption)) rfl (g9 8 ?_)
   show Value.tuple #[Value.bool _, Value.string _] = _
   simp_all [Eff.apply, optS, Str.nil]
  refine g9 6 ?_
  refine WC.cd (fun h23 p23 => ?_) (fun h23 p23 => ?_)
  ·refine g9 10 ?_
   show Value.tuple #[Value.bool _, Value.string _] = _
   simp_all [Eff.apply, optS, Str.nil]
  refine g9 13 ?_
  show Value.tuple #[Value.bool _, Value.string _] = _
  simp_all [Eff.apply, optS, Str.nil]
 refine g9 16 ?_
 refine WC.cd (fun h13 p13 => ?_) (fun h13 p13 => ?_)
 ·refine g9 12 ?_
  show Value.tuple #[Value.bool _, Value.string _] = _
  simp_all [Eff.apply, optS, Str.nil]
 refine g9 6 ?_
 refine WC.cd (fun h17 p17 => ?_) (fun h17 p17 => ?_)
 ·refine g9 5 ?_
  refine W.qcall (vadd_fc x ev (by assumption) (by assumption)) rfl (g9 8 ?_)
  show Value.tuple #[Value.bool _, Value.string _] = _
  simp_all [Eff.apply, optS, Str.nil]
 refine g9 6 ?_
 refine WC.cd (fun h23 p23 => ?_) (fun h23 p23 => ?_)
 ·refine g9 10 ?_
  show Value.tuple #[Value.bool _, Value.string _] = _
  simp_all [Eff.apply, optS, Str.nil]
 refine g9 13 ?_
 show Value.tuple #[Value.bool _, Value.string _] = _
 simp_all [Eff.apply, optS, Str.nil]

theorem mon_fc {G : GH} (ms : Int) (mk : Int) (mkey : Str) (mhi : Str) (mo : Bool) (mv : Str) (k : Str) (hk : mkey.b.size < 140737488355328) :
    Fc Tryz.prog 40 [.agg #[iV ms, iV mk, sV mkey.b, sV mhi.b, .bool mo, sV mv.b], sV k.b] G [] (fun v _ _ => v = .agg (List.toArray ((Msg.on (⟨ms, mk, mkey, mhi, mo, mv⟩ : Msg) k).cells))) := by
 refine Fc.go [.cell 4 90] Tryz.func40 Tryz.ntmps40 rfl (fun w0 => (g9 2 ?_))
 refine W.box (L := [iV _, iV _, sV _, sV _, .bool _, sV _]) rfl rfl (fun b4 => (W.alloc zr90 (fun b5 => (g9 6 ?_))))
 refine W.qcall (mspan_fc _ _ _ _ _ _ (by first | assumption | omega | (dsimp only; omega))) rfl (W.mv (W.qcall (spanhas_fc _ _ _ _) rfl (g9 3 ?_)))
 refine WC.cond rfl (fun h9 => ?_) (fun h9 => ?_)
 ·refine g9 2 ?_
  refine W.ok (ok_build (L := [iV _, sV _]) pl90 zr90 rfl rfl rfl) (g9 6 ?_)
  refine congrArg (fun l => Value.agg (List.toArray l)) ?_
  show [Value.int _ _, Value.string _] = _
  first | (simp_all [Msg.on, Eff.cells, Eff.zero, Str.nil]; done) | (simp_all [Msg.on, Eff.cells, Eff.zero, Str.nil]; split <;> first | (exfalso; omega) | (simp; done) | (split <;> first | (exfalso; omega) | (simp; done)))
 refine g9 17 ?_
 refine WC.cd (fun h14 p14 => ?_) (fun h14 p14 => ?_)
 ·refine g9 9 ?_
  refine W.ok (ok_build (L := [iV _, sV _]) pl90 zr90 rfl rfl rfl) (g9 7 ?_)
  refine congrArg (fun l => Value.agg (List.toArray l)) ?_
  show [Value.int _ _, Value.string _] = _
  first | (simp_all [Msg.on, Eff.cells, Eff.zero, Str.nil]; done) | (simp_all [Msg.on, Eff.cells, Eff.zero, Str.nil]; split <;> first | (exfalso; omega) | (simp; done) | (split <;> first | (exfalso; omega) | (simp; done)))
 refine g9 5 ?_
 refine WC.cd (fun h15 p15 => ?_) (fun h15 p15 => ?_)
 ·refine g9 6 ?_
  refine W.ok (ok_build (L := [iV _, sV _]) pl90 zr90 rfl rfl rfl) (g9 7 ?_)
  refine congrArg (fun l => Value.agg (List.toArray l)) ?_
  show [Value.int _ _, Value.string _] = _
  first | (simp_all [Msg.on, Eff.cells, Eff.zero, Str.nil]; done) | (simp_all [Msg.on, Eff.cells, Eff.zero, Str.nil]; split <;> first | (exfalso; omega) | (simp; done) | (split <;> first | (exfalso; omega) | (simp; done)))
 refine g9 7 ?_
 refine WC.cd (fun h22 p22 => ?_) (fun h22 p22 => ?_)
 ·refine g9 5 ?_
  refine W.ok (ok_build (L := [iV _, sV _]) pl90 zr90 rfl rfl rfl) (g9 7 ?_)
  refine congrArg (fun l => Value.agg (List.toArray l)) ?_
  show [Value.int _ _, Value.string _] = _
  first | (simp_all [Msg.on, Eff.cells, Eff.zero, Str.nil]; done) | (simp_all [Msg.on, Eff.cells, Eff.zero, Str.nil]; split <;> first | (exfalso; omega) | (simp; done) | (split <;> first | (exfalso; omega) | (simp; done)))
 refine g9 5 ?_
 refine WC.cd (fun h23 p23 => ?_) (fun h23 p23 => ?_)
 ·refine g9 2 ?_
  refine W.ok (ok_build (L := [iV _, sV _]) pl90 zr90 rfl rfl rfl) (g9 7 ?_)
  refine congrArg (fun l => Value.agg (List.toArray l)) ?_
  show [Value.int _ _, Value.string _] = _
  first | (simp_all [Msg.on, Eff.cells, Eff.zero, Str.nil]; done) | (simp_all [Msg.on, Eff.cells, Eff.zero, Str.nil]; split <;> first | (exfalso; omega) | (simp; done) | (split <;> first | (exfalso; omega) | (simp; done)))
 refine g9 5 ?_
 refine W.ok (ok_build (L := [iV _, sV _]) pl90 zr90 rfl rfl rfl) (g9 5 ?_)
 refine congrArg (fun l => Value.agg (List.toArray l)) ?_
 show [Value.int _ _, Value.string _] = _
 first | (simp_all [Msg.on, Eff.cells, Eff.zero, Str.nil]; done) | (simp_all [Msg.on, Eff.cells, Eff.zero, Str.nil]; split <;> first | (exfalso; omega) | (simp; done) | (split <;> first | (exfalso; omega) | (simp; done)))

theorem samep_fc {G : GH} {v_a : Value} {a : List Pair} (h_a : SlR ePair G v_a a) {v_b : Value} {b : List Pair} (h_b : SlR ePair G v_b b) :
    Fc Tryz.prog 12 [v_a, v_b] G [] (fun v _ _ => v = .bool (decide (a = b))) := by
 obtain ⟨sa_a, sc_a, rfl⟩ := h_a.form
 obtain ⟨sa_b, sc_b, rfl⟩ := h_b.form
 have ha := h_a.len47
 have hb := h_b.len47
 refine Fc.go [.tmp 4] Tryz.func12 Tryz.ntmps12 rfl (fun w0 => (g9 15 ?_))
 refine WC.cn (fun h10 p10 => ?_) (fun h10 p10 => ?_)
 ·refine g9 8 ?_
  refine congrArg Value.bool ?_
  exact (decide_eq_false fun e => by subst e; omega).symm
 have hab : a.length = b.length := by omega
 refine g9 9 ?_
 refine WC.loop (X := Nat) (fun k => [(5, nt9 k), (0, lV sa_a a.length sc_a), (1, lV sa_b b.length sc_b)]) (fun k _ Ml => Ml = [] ∧ k ≤ a.length ∧ ∀ i (h : i < a.length) (h2 : i < b.length), i < k → a[i] = b[i]) (fun k => a.length - k) 0 hs9 ?_ ?_
 ·exact ⟨rfl, om9, fun i _ _ h => by omega⟩
 rintro k gG1 G1 _ hG1 ⟨rfl, hk0, hk⟩
 refine g9 9 ?_
 refine WC.cd (fun h14 p14 => ?_) (fun h14 p14 => ?_)
 ·refine g9 8 ?_
  refine (h_a.mono hG1).a1 (i := k) om9 (fun he2 => (g9 4 ?_))
  refine (h_b.mono hG1).a1 (i := k) om9 (fun he5 => (g9 2 ?_))
  refine W.ok (ok_neqA (L1 := [sV _, sV _]) (L2 := [sV _, sV _]) eq84 rfl rfl rfl rfl) (g9 2 ?_)
  refine WC.cond rfl (fun h25 => ?_) (fun h25 => ?_)
  ·refine g9 12 ?_
   refine congrArg Value.bool ?_
   exact (decide_eq_false fun e => by subst e; exact Pair.ne_of h25 rfl).symm
  refine g9 9 ?_
  exact ⟨Le.rfl, k + 1, hs9, ⟨rfl, om9, fun i h h2 hi => by
      by_cases e : i = k
      · subst e; exact Pair.eq_of h25
      · exact hk i h h2 om9⟩, om9⟩
 refine g9 12 ?_
 refine congrArg Value.bool ?_
 exact (decide_eq_true (List.ext_getElem om9 fun i h h2 => hk i h h2 om9)).symm

theorem clonep_fc {G : GH} {v_a : Value} {a : List Pair} (h_a : SlR ePair G v_a a) :
    Fc Tryz.prog 47 [v_a] G [] (fun v G' M' => M' = [] ∧ ∃ u0, v = u0 ∧ SlR ePair G' u0 (a)) := by
 obtain ⟨sa_a, sc_a, rfl⟩ := h_a.form
 have ha := h_a.bytes
 refine Fc.go [.tmp 2] Tryz.func47 Tryz.ntmps47 rfl (fun w0 => (g9 9 ?_))
 refine W.ok (ok_eqlNil sl31 rfl rfl) (g9 2 ?_)
 refine WC.cond rfl (fun h4 => ?_) (fun h4 => ?_)
 ·have hn := SlR.isNone h_a h4
  subst hn
  refine g9 8 ?_
  refine ⟨rfl, _, rfl, ?_⟩
  · exact SlR.nil
 refine g9 4 ?_
 refine W.lit0 (e := ePair) sl31 ty84 zr84 rfl (fun v21 Ms22 ho23 => (W.mv (W.app (e := ePair) sl31 ty84 zr84 rfl by84 rfl rfl (ho23) (h_a) pr9 (by simpa using ha) (fun v24 Ms25 ho26 => (g9 3 ?_)))))
 refine WC.giveO ho26 pr9 (fun G27 hG27 hv27 => (g9 2 ?_))
 refine ⟨rfl, _, rfl, ?_⟩
 · exact hv27

theorem cmp_fc {G : GH} (a : Str) (b : Str) :
    Fc Tryz.prog 116 [sV a.b, sV b.b] G [] (fun v _ _ => v = iV (cmpN a b)) := by
 refine Fc.go [.tmp 4] Tryz.func116 Tryz.ntmps116 rfl (fun w0 => (g9 8 ?_))
 refine W.qcall (isnan_fc _) rfl (g9 6 ?_)
 refine W.qcall (isnan_fc _) rfl (g9 9 ?_)
 refine WC.cond rfl (fun h8 => ?_) (fun h8 => ?_)
 ·cases h8
 refine g9 8 ?_
 refine WC.cond rfl (fun h10 => ?_) (fun h10 => ?_)
 ·cases h10
 refine g9 10 ?_
 refine WC.cond rfl (fun h16 => ?_) (fun h16 => ?_)
 ·refine g9 8 ?_
  refine congrArg (Value.int .i64) ?_
  simp_all [cmpN, Str.lt]
 refine g9 7 ?_
 refine W.ok (ok_gtrS rfl rfl) (g9 2 ?_)
 refine WC.cond rfl (fun h19 => ?_) (fun h19 => ?_)
 ·refine g9 8 ?_
  refine congrArg (Value.int .i64) ?_
  simp_all [cmpN, Str.lt]
 refine g9 9 ?_
 refine congrArg (Value.int .i64) ?_
 simp_all [cmpN, Str.lt]

theorem kcmp_fc {G : GH} (a : Str) (b : Str) :
    Fc Tryz.prog 94 [sV a.b, sV b.b] G [] (fun v _ _ => v = iV (cmpN a b)) := by
 refine Fc.go [.tmp 4] Tryz.func94 Tryz.ntmps94 rfl (fun w0 => (g9 9 ?_))
 refine W.qcall (cmp_fc _ _) rfl (g9 5 ?_)
 rfl

theorem cl_m_fc {G : GH} (pk : Str) (pv : Str) (k : Str) :
    Fc Tryz.prog 93 [.agg #[sV pk.b, sV pv.b], sV k.b] G [] (fun v _ _ => v = iV (cmpN pk k)) := by
 refine Fc.go [.tmp 4] Tryz.func93 Tryz.ntmps93 rfl (fun w0 => (g9 2 ?_))
 refine W.box (L := [sV _, sV _]) rfl rfl (fun b8 => (g9 8 ?_))
 refine W.qcall (kcmp_fc _ _) rfl (g9 5 ?_)
 rfl

theorem cl_r_fc {G : GH} (pk : Str) (pv : Str) (k : Str) :
    Fc Tryz.prog 124 [.agg #[sV pk.b, sV pv.b], sV k.b] G [] (fun v _ _ => v = iV (cmpN pk k)) := by
 refine Fc.go [.tmp 4] Tryz.func124 Tryz.ntmps124 rfl (fun w0 => (g9 2 ?_))
 refine W.box (L := [sV _, sV _]) rfl rfl (fun b9 => (g9 8 ?_))
 refine W.qcall (kcmp_fc _ _) rfl (g9 5 ?_)
 rfl

theorem bsfm_fc {G : GH} {v_l : Value} {l : List Pair} (h_l : SlR ePair G v_l l) (k : Str) (hr : Srt l) :
    Fc Tryz.prog 92 [v_l, sV k.b, .func (.func 93) #[] #[]] G [] (fun v _ _ => v = .tuple #[nt9 (fndN l k), .bool ((getN l k).isSome)]) := by
 obtain ⟨sa_l, sc_l, rfl⟩ := h_l.form
 have hlen := h_l.len47
 refine Fc.go [.tmp 6, .tmp 7] Tryz.func92 Tryz.ntmps92 rfl (fun w0 => (g9 22 ?_))
 refine WC.loop (X := Nat × Nat) (fun x => [(9, nt9 x.1), (10, nt9 x.2), (0, lV sa_l l.length sc_l), (1, sV k.b), (2, .func (.func 93) #[] #[]), (8, nt9 ((l).length))]) (fun x _ Ml => Ml = [] ∧ x.1 ≤ x.2 ∧ x.2 ≤ l.length ∧ (∀ q (h : q < l.length), q < x.1 → l[q].key.lt k = true) ∧ (∀ q (h : q < l.length), x.2 ≤ q → l[q].key.lt k = false)) (fun x => x.2 - x.1) (0, l.length) hs9 ?_ ?_
 ·exact ⟨rfl, by simp, by simp, (fun q _ h => by simp at h), (fun q h h' => by simp at h'; omega)⟩
 rintro ⟨i, j⟩ gG10 G10 _ hG10 ⟨rfl, hi, hj, h1, h2⟩
 dsimp only at hi hj h1 h2
 refine g9 8 ?_
 refine WC.cd (fun h17 p17 => ?_) (fun h17 p17 => ?_)
 ·refine g9 8 ?_
  refine W.ok (ok_convU un3 un51 rfl om9) (W.ok (ok_shr1 rfl rfl om9) (W.ok (ok_convI un51 un3 rfl om9) (g9 8 ?_)))
  refine (h_l.mono hG10).a1 (i := (i + j) / 2) om9 (fun he11 => (W.ok (ok_indexAddr (i := (i + j) / 2) sl31 ty84 (h_l.mono hG10) rfl rfl ⟨by dsimp only; omega, om9⟩) (g9 2 ?_)))
  refine W.qcallV (fst := []) (caps := []) rfl (cl_m_fc _ _ _) rfl (g9 3 ?_)
  refine WC.cd (fun h31 p31 => ?_) (fun h31 p31 => ?_)
  ·refine g9 7 ?_
   exact ⟨Le.rfl, ((i + j) / 2 + 1, j), hs9, ⟨rfl, by dsimp only; omega, by dsimp only; omega, (fun q h hq => hr.below om9 (cmpN_neg.1 p31) q h (by dsimp only at hq; omega)), h2⟩, by dsimp only; omega⟩
  refine g9 6 ?_
  exact ⟨Le.rfl, (i, (i + j) / 2), hs9, ⟨rfl, by dsimp only; omega, by dsimp only; omega, h1, (fun q h hq => hr.above om9 (cmpN_nn p31) q h (by dsimp only at hq; omega))⟩, by dsimp only; omega⟩
 refine g9 12 ?_
 refine W.sd 39 (fun h38 p38 => ?_) (fun h38 p38 => ?_)
 ·refine g9 7 ?_
  refine (h_l.mono hG10).a1 (i := i) om9 (fun he14 => (g9 6 ?_))
  refine W.qcallV (fst := []) (caps := []) rfl (cl_m_fc _ _ _) rfl (g9 9 ?_)
  have hlow : fndN l k = i := fnd_eq om9 h1 (fun q h hq => h2 q h om9)
  refine tup2 (by rw [hlow]) ?_
  rw [hr.has]
  rw [cmpN_zero_d]
  exact decide_eq_decide.2 ⟨fun e => ⟨om9, by simp only [hlow]; exact e⟩, fun ⟨_, e⟩ => by simp only [hlow] at e; exact e⟩
 refine g9 15 ?_
 have hlow : fndN l k = i := fnd_eq om9 h1 (fun q h hq => h2 q h om9)
 refine tup2 (by rw [hlow]) ?_
 rw [hr.has]
 exact (decide_eq_false (by rintro ⟨h, _⟩; omega)).symm

theorem bsfr_fc {G : GH} {v_l : Value} {l : List Pair} (h_l : SlR ePair G v_l l) (k : Str) (hr : Srt l) :
    Fc Tryz.prog 92 [v_l, sV k.b, .func (.func 124) #[] #[]] G [] (fun v _ _ => v = .tuple #[nt9 (fndN l k), .bool ((getN l k).isSome)]) := by
 obtain ⟨sa_l, sc_l, rfl⟩ := h_l.form
 have hlen := h_l.len47
 refine Fc.go [.tmp 6, .tmp 7] Tryz.func92 Tryz.ntmps92 rfl (fun w0 => (g9 22 ?_))
 refine WC.loop (X := Nat × Nat) (fun x => [(9, nt9 x.1), (10, nt9 x.2), (0, lV sa_l l.length sc_l), (1, sV k.b), (2, .func (.func 124) #[] #[]), (8, nt9 ((l).length))]) (fun x _ Ml => Ml = [] ∧ x.1 ≤ x.2 ∧ x.2 ≤ l.length ∧ (∀ q (h : q < l.length), q < x.1 → l[q].key.lt k = true) ∧ (∀ q (h : q < l.length), x.2 ≤ q → l[q].key.lt k = false)) (fun x => x.2 - x.1) (0, l.length) hs9 ?_ ?_
 ·exact ⟨rfl, by simp, by simp, (fun q _ h => by simp at h), (fun q h h' => by simp at h'; omega)⟩
 rintro ⟨i, j⟩ gG17 G17 _ hG17 ⟨rfl, hi, hj, h1, h2⟩
 dsimp only at hi hj h1 h2
 refine g9 8 ?_
 refine WC.cd (fun h17 p17 => ?_) (fun h17 p17 => ?_)
 ·refine g9 8 ?_
  refine W.ok (ok_convU un3 un51 rfl om9) (W.ok (ok_shr1 rfl rfl om9) (W.ok (ok_convI un51 un3 rfl om9) (g9 8 ?_)))
  refine (h_l.mono hG17).a1 (i := (i + j) / 2) om9 (fun he18 => (W.ok (ok_indexAddr (i := (i + j) / 2) sl31 ty84 (h_l.mono hG17) rfl rfl ⟨by dsimp only; omega, om9⟩) (g9 2 ?_)))
  refine W.qcallV (fst := []) (caps := []) rfl (cl_r_fc _ _ _) rfl (g9 3 ?_)
  refine WC.cd (fun h31 p31 => ?_) (fun h31 p31 => ?_)
  ·refine g9 7 ?_
   exact ⟨Le.rfl, ((i + j) / 2 + 1, j), hs9, ⟨rfl, by dsimp only; omega, by dsimp only; omega, (fun q h hq => hr.below om9 (cmpN_neg.1 p31) q h (by dsimp only at hq; omega)), h2⟩, by dsimp only; omega⟩
  refine g9 6 ?_
  exact ⟨Le.rfl, (i, (i + j) / 2), hs9, ⟨rfl, by dsimp only; omega, by dsimp only; omega, h1, (fun q h hq => hr.above om9 (cmpN_nn p31) q h (by dsimp only at hq; omega))⟩, by dsimp only; omega⟩
 refine g9 12 ?_
 refine W.sd 39 (fun h38 p38 => ?_) (fun h38 p38 => ?_)
 ·refine g9 7 ?_
  refine (h_l.mono hG17).a1 (i := i) om9 (fun he21 => (g9 6 ?_))
  refine W.qcallV (fst := []) (caps := []) rfl (cl_r_fc _ _ _) rfl (g9 9 ?_)
  have hlow : fndN l k = i := fnd_eq om9 h1 (fun q h hq => h2 q h om9)
  refine tup2 (by rw [hlow]) ?_
  rw [hr.has]
  rw [cmpN_zero_d]
  exact decide_eq_decide.2 ⟨fun e => ⟨om9, by simp only [hlow]; exact e⟩, fun ⟨_, e⟩ => by simp only [hlow] at e; exact e⟩
 refine g9 15 ?_
 have hlow : fndN l k = i := fnd_eq om9 h1 (fun q h hq => h2 q h om9)
 refine tup2 (by rw [hlow]) ?_
 rw [hr.has]
 exact (decide_eq_false (by rintro ⟨h, _⟩; omega)).symm

theorem find_fc {G : GH} {v_l : Value} {l : List Pair} (h_l : SlR ePair G v_l l) (k : Str) (hr : Srt l) :
    Fc Tryz.prog 66 [v_l, sV k.b] G [] (fun v _ _ => v = .tuple #[nt9 (fndN l k), .bool ((getN l k).isSome)]) := by
 obtain ⟨sa_l, sc_l, rfl⟩ := h_l.form
 refine Fc.go [.tmp 4, .tmp 5] Tryz.func66 Tryz.ntmps66 rfl (fun w0 => (g9 10 ?_))
 refine W.qcall (bsfm_fc h_l k hr) rfl (g9 8 ?_)
 rfl

theorem rfind_fc {G : GH} {v_l : Value} {l : List Pair} (h_l : SlR ePair G v_l l) (k : Str) (hr : Srt l) :
    Fc Tryz.prog 103 [v_l, sV k.b] G [] (fun v _ _ => v = .tuple #[nt9 (fndN l k), .bool ((getN l k).isSome)]) := by
 obtain ⟨sa_l, sc_l, rfl⟩ := h_l.form
 refine Fc.go [.tmp 4, .tmp 5] Tryz.func103 Tryz.ntmps103 rfl (fun w0 => (g9 10 ?_))
 refine W.qcall (bsfr_fc h_l k hr) rfl (g9 8 ?_)
 rfl

theorem mget_fc {G : GH} {v_l : Value} {l : List Pair} (h_l : SlR ePair G v_l l) (k : Str) (hr : Srt l) :
    Fc Tryz.prog 34 [v_l, sV k.b] G [] (fun v _ _ => v = .tuple #[sV (Str.b ((getN l k).getD Str.nil)), .bool ((getN l k).isSome)]) := by
 obtain ⟨sa_l, sc_l, rfl⟩ := h_l.form
 have hlen := h_l.len47
 have hh := hr.has k
 refine Fc.go [.tmp 4, .tmp 5] Tryz.func34 Tryz.ntmps34 rfl (fun w0 => (g9 10 ?_))
 refine W.qcall (find_fc h_l _ (by assumption)) rfl (g9 14 ?_)
 refine WC.cond rfl (fun h15 => ?_) (fun h15 => ?_)
 ·refine g9 9 ?_
  show Value.tuple #[Value.string _, Value.bool _] = _
  have e : getN l k = none := by simpa using h15
  rw [e]; rfl
 have hs : (getN l k).isSome = true := by simpa using h15
 obtain ⟨q1, q2⟩ := odt (hh.symm.trans hs)
 have hv := hr.val q1 q2
 refine g9 6 ?_
 refine h_l.a1 (i := fndN l k) (q1) (fun he24 => (W.ok (ok_indexAddr (i := fndN l k) sl31 ty84 h_l rfl rfl ⟨om9, q1⟩) (g9 8 ?_)))
 show Value.tuple #[Value.string _, Value.bool _] = _
 rw [hv]; rfl

end Go.Proofs.YtemoalimclnfkaaGreat
