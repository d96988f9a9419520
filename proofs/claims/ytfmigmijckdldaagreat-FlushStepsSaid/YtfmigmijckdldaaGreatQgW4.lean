/- Walks of functions on values and effects. -/
import Derived.Test.YtfmigmijckdldaaGreatQgW1
set_option maxRecDepth 100000
set_option maxHeartbeats 1600000
set_option linter.unusedVariables false
set_option linter.unusedSimpArgs false
set_option linter.unnecessarySimpa false
namespace Go.Proofs.YtfmigmijckdldaaGreat
open Go Go.Fw Go.RowKit
attribute [local irreducible] Ok W WC
theorem tail_fc {G : GH} (s : Str) :
    Fc Tryz.prog 193 [sV s.b] G [] (fun v _ _ => v = sV (Str.b (s.tail))) := by
 have hs := s.le
 refine Fc.go [.tmp 2] Tryz.func193 Tryz.ntmps193 rfl (fun w0 => (g9 11 ?_))
 refine W.ok (ok_maxi rfl rfl) (W.ok (ok_sliceS (s.b.size - 16) (s.b.size) st9 rfl ⟨_, _, rfl, om9⟩ rfl ⟨om9, om9⟩) (g9 5 ?_))
 rfl

theorem vadd_fc {G : GH} (a : Str) (b : Str) (ha : a.b.size ≤ 1048576) (hb : b.b.size ≤ 1048576) :
    Fc Tryz.prog 189 [sV a.b, sV b.b] G [] (fun v _ _ => v = sV (Str.b (a.add b))) := by
 refine Fc.go [.tmp 4] Tryz.func189 Tryz.ntmps189 rfl (fun w0 => (g9 9 ?_))
 refine W.ok (Ok.str (b := (a.cat b).b) (ok_addS rfl rfl om9) ((Str.cat_b om9).symm)) (W.qcall (tail_fc _) rfl (g9 5 ?_))
 exact congrArg (fun s => Value.string (Str.b s)) (Str.cat_tail om9)

theorem rtail_fc {G : GH} (s : Str) :
    Fc Tryz.prog 165 [sV s.b] G [] (fun v _ _ => v = sV (Str.b (s.tail))) := by
 have hs := s.le
 refine Fc.go [.tmp 2] Tryz.func165 Tryz.ntmps165 rfl (fun w0 => (g9 20 ?_))
 refine WC.loop (X := Nat) (fun k => [(3, sV (s.cut (s.b.size - k) s.b.size).b), (4, iV ((s.b.size : Int) - 1 - ((k : Nat) : Int))), (0, sV s.b)]) (fun k _ Ml => Ml = [] ∧ k ≤ s.b.size ∧ k ≤ 16) (fun k => 17 - k) 0 ⟨(congrArg Value.string (Str.cut_nil om9).symm), (iv om9), eqv, trivial⟩ ?_ ?_
 ·exact ⟨rfl, om9, om9⟩
 rintro k gG1 G1 _ hG1 ⟨rfl, hk, hk16⟩
 have hz := s.cut_size (s.b.size - k) s.b.size
 refine g9 6 ?_
 refine W.sd 10 (fun h9 p9 => ?_) (fun h9 p9 => ?_)
 ·refine g9 9 ?_
  refine WC.cd (fun h13 p13 => ?_) (fun h13 p13 => ?_)
  ·refine g9 9 ?_
   refine W.ok (ok_sliceS (s.b.size - 1 - k) (s.b.size - k) st9 rfl ⟨_, _, rfl, om9⟩ ⟨_, _, rfl, om9⟩ ⟨om9, om9⟩) (W.mv (W.ok (ok_addS rfl rfl (by simp only [Str.cut_size]; omega)) (g9 10 ?_)))
   exact ⟨Le.rfl, k + 1, ⟨(congrArg Value.string (Str.cut_cat om9)), (iv om9), eqv, trivial⟩, ⟨rfl, om9, om9⟩, om9⟩
  refine g9 13 ?_
  have hk2 : s.b.size - k = s.b.size - 16 := by simp only [Str.cut_size] at *; omega
  rw [hk2]; rfl
 refine g9 20 ?_
 have hk2 : s.b.size - k = s.b.size - 16 := by simp only [Str.cut_size] at *; omega
 rw [hk2]; rfl

theorem rapply_fc {G : GH} (ek : Int) (ev : Str) (has : Bool) (x : Str) (he : ev.b.size ≤ 1048576) (hv : x.b.size ≤ 1048576) :
    Fc Tryz.prog 154 [.agg #[iV ek, sV ev.b], .bool has, sV x.b] G [] (fun v _ _ => v = .tuple #[.bool (((Eff.apply (⟨ek, ev⟩ : Eff) (optS has x))).isSome), sV (Str.b (((Eff.apply (⟨ek, ev⟩ : Eff) (optS has x))).getD Str.nil))]) := by
 refine Fc.go [.tmp 6, .tmp 7] Tryz.func154 Tryz.ntmps154 rfl (fun w0 => (g9 2 ?_))
 refine W.box (L := [iV _, sV _]) rfl rfl (fun b2 => (g9 12 ?_))
 refine WC.cd (fun h10 p10 => ?_) (fun h10 p10 => ?_)
 ·refine g9 11 ?_
  show Value.tuple #[Value.bool _, Value.string _] = _
  simp_all [Eff.apply, optS, Str.nil]
 refine g9 10 ?_
 refine WC.cd (fun h15 p15 => ?_) (fun h15 p15 => ?_)
 ·refine g9 9 ?_
  show Value.tuple #[Value.bool _, Value.string _] = _
  simp_all [Eff.apply, optS, Str.nil]
 refine g9 9 ?_
 refine WC.cond rfl (fun h17 => ?_) (fun h17 => ?_)
 ·refine g9 12 ?_
  refine WC.cd (fun h20 p20 => ?_) (fun h20 p20 => ?_)
  ·refine g9 5 ?_
   refine W.ok (Ok.str (b := (Str.nil.cat ev).b) (ok_addS rfl rfl ((by first | omega | (show 0 + ev.b.size ≤ _; omega)))) ((Str.cat_b (a := Str.nil) (by first | omega | (show 0 + ev.b.size ≤ _; omega))).symm)) (W.qcall (rtail_fc _) rfl (g9 7 ?_))
   show Value.tuple #[Value.bool _, Value.string _] = _
   rw [Str.cat_tail (by first | omega | (show 0 + ev.b.size ≤ _; omega))]
   simp_all [Eff.apply, optS, Str.nil]
  refine g9 12 ?_
  show Value.tuple #[Value.bool _, Value.string _] = _
  simp_all [Eff.apply, optS, Str.nil]
 refine g9 10 ?_
 refine WC.cd (fun h20 p20 => ?_) (fun h20 p20 => ?_)
 ·refine g9 5 ?_
  refine W.ok (Ok.str (b := (x.cat ev).b) (ok_addS rfl rfl ((by first | omega | (show 0 + ev.b.size ≤ _; omega)))) ((Str.cat_b om9).symm)) (W.qcall (rtail_fc _) rfl (g9 7 ?_))
  show Value.tuple #[Value.bool _, Value.string _] = _
  rw [Str.cat_tail (by first | omega | (show 0 + ev.b.size ≤ _; omega))]
  simp_all [Eff.apply, optS, Str.nil]
 refine g9 12 ?_
 show Value.tuple #[Value.bool _, Value.string _] = _
 simp_all [Eff.apply, optS, Str.nil]

theorem eapply_fc {G : GH} (ek : Int) (ev : Str) (has : Bool) (x : Str) (he : ev.b.size ≤ 1048576) (hv : x.b.size ≤ 1048576) :
    Fc Tryz.prog 181 [.agg #[iV ek, sV ev.b], .bool has, sV x.b] G [] (fun v _ _ => v = .tuple #[.bool (((Eff.apply (⟨ek, ev⟩ : Eff) (optS has x))).isSome), sV (Str.b (((Eff.apply (⟨ek, ev⟩ : Eff) (optS has x))).getD Str.nil))]) := by
 refine Fc.go [.tmp 6, .tmp 7] Tryz.func181 Tryz.ntmps181 rfl (fun w0 => (g9 2 ?_))
 refine W.box (L := [iV _, sV _]) rfl rfl (fun b3 => (g9 11 ?_))
 refine WC.cond rfl (fun h9 => ?_) (fun h9 => ?_)
 ·refine g9 18 ?_
  refine WC.cd (fun h13 p13 => ?_) (fun h13 p13 => ?_)
  ·refine g9 12 ?_
   show Value.tuple #[Value.bool _, Value.string _] = _
   simp_all [Eff.apply, optS, Str.nil]
  refine g9 6 ?_
  refine WC.cd (fun h17 p17 => ?_) (fun h17 p17 => ?_)
  ·refine g9 5 ?_
   refine W.qcall (vadd_fc Str.nil ev (by show 0 ≤ 1048576; omega) (by assumption)) rfl (g9 8 ?_)
   show Value.tuple #[Value.bool _, Value.string _] = _
   simp_all [Eff.apply, optS, Str.nil]
  refine g9 6 ?_
  refine WC.cd (fun h23 p23 => ?_) (fun h23 p23 => ?_)
  ·refine g9 10 ?_
   show Value.tuple #[Value.bool _, Value.string _] = _
   simp_all [Eff.apply, optS, Str.nil]
  refine g9 13 ?_
  show Value.tuple #[Value.bool _, Value.string _] = _
  simp_all [Eff.apply, optS, Str.nil]
 refine g9 16 ?_
 refine WC.cd (fun h13 p13 => ?_) (fun h13 p13 => ?_)
 ·refine g9 12 ?_
  show Value.tuple #[Value.bool _, Value.string _] = _
  simp_all [Eff.apply, optS, Str.nil]
 refine g9 6 ?_
 refine WC.cd (fun h17 p17 => ?_) (fun h17 p17 => ?_)
 ·refine g9 5 ?_
  refine W.qcall (vadd_fc x ev (by assumption) (by assumption)) rfl (g9 8 ?_)
  show Value.tuple #[Value.bool _, Value.string _] = _
  simp_all [Eff.apply, optS, Str.nil]
 refine g9 6 ?_
 refine WC.cd (fun h23 p23 => ?_) (fun h23 p23 => ?_)
 ·refine g9 10 ?_
  show Value.tuple #[Value.bool _, Value.string _] = _
  simp_all [Eff.apply, optS, Str.nil]
 refine g9 13 ?_
 show Value.tuple #[Value.bool _, Value.string _] = _
 simp_all [Eff.apply, optS, Str.nil]

theorem mon_fc {G : GH} (ms : Int) (mk : Int) (mkey : Str) (mhi : Str) (mo : Bool) (mv : Str) (k : Str) (hk : mkey.b.size < 140737488355328) :
    Fc Tryz.prog 170 [.agg #[iV ms, iV mk, sV mkey.b, sV mhi.b, .bool mo, sV mv.b], sV k.b] G [] (fun v _ _ => v = .agg (List.toArray ((Msg.on (⟨ms, mk, mkey, mhi, mo, mv⟩ : Msg) k).cells))) := by
 refine Fc.go [.cell 4 187] Tryz.func170 Tryz.ntmps170 rfl (fun w0 => (g9 2 ?_))
 refine W.box (L := [iV _, iV _, sV _, sV _, .bool _, sV _]) rfl rfl (fun b4 => (W.alloc zr187 (fun b5 => (g9 6 ?_))))
 refine W.qcall (mspan_fc _ _ _ _ _ _ (by first | assumption | omega | (dsimp only; omega))) rfl (W.mv (W.qcall (spanhas_fc _ _ _ _) rfl (g9 3 ?_)))
 refine WC.cond rfl (fun h9 => ?_) (fun h9 => ?_)
 ·refine g9 2 ?_
  refine W.ok (ok_build (L := [iV _, sV _]) pl187 zr187 rfl rfl rfl) (g9 6 ?_)
  refine congrArg (fun l => Value.agg (List.toArray l)) ?_
  show [Value.int _ _, Value.string _] = _
  first | (simp_all [Msg.on, Eff.cells, Eff.zero, Str.nil]; done) | (simp_all [Msg.on, Eff.cells, Eff.zero, Str.nil]; split <;> first | (exfalso; omega) | (simp; done) | (split <;> first | (exfalso; omega) | (simp; done)))
 refine g9 17 ?_
 refine WC.cd (fun h14 p14 => ?_) (fun h14 p14 => ?_)
 ·refine g9 9 ?_
  refine W.ok (ok_build (L := [iV _, sV _]) pl187 zr187 rfl rfl rfl) (g9 7 ?_)
  refine congrArg (fun l => Value.agg (List.toArray l)) ?_
  show [Value.int _ _, Value.string _] = _
  first | (simp_all [Msg.on, Eff.cells, Eff.zero, Str.nil]; done) | (simp_all [Msg.on, Eff.cells, Eff.zero, Str.nil]; split <;> first | (exfalso; omega) | (simp; done) | (split <;> first | (exfalso; omega) | (simp; done)))
 refine g9 5 ?_
 refine WC.cd (fun h15 p15 => ?_) (fun h15 p15 => ?_)
 ·refine g9 6 ?_
  refine W.ok (ok_build (L := [iV _, sV _]) pl187 zr187 rfl rfl rfl) (g9 7 ?_)
  refine congrArg (fun l => Value.agg (List.toArray l)) ?_
  show [Value.int _ _, Value.string _] = _
  first | (simp_all [Msg.on, Eff.cells, Eff.zero, Str.nil]; done) | (simp_all [Msg.on, Eff.cells, Eff.zero, Str.nil]; split <;> first | (exfalso; omega) | (simp; done) | (split <;> first | (exfalso; omega) | (simp; done)))
 refine g9 7 ?_
 refine WC.cd (fun h22 p22 => ?_) (fun h22 p22 => ?_)
 ·refine g9 5 ?_
  refine W.ok (ok_build (L := [iV _, sV _]) pl187 zr187 rfl rfl rfl) (g9 7 ?_)
  refine congrArg (fun l => Value.agg (List.toArray l)) ?_
  show [Value.int _ _, Value.string _] = _
  first | (simp_all [Msg.on, Eff.cells, Eff.zero, Str.nil]; done) | (simp_all [Msg.on, Eff.cells, Eff.zero, Str.nil]; split <;> first | (exfalso; omega) | (simp; done) | (split <;> first | (exfalso; omega) | (simp; done)))
 refine g9 5 ?_
 refine WC.cd (fun h23 p23 => ?_) (fun h23 p23 => ?_)
 ·refine g9 2 ?_
  refine W.ok (ok_build (L := [iV _, sV _]) pl187 zr187 rfl rfl rfl) (g9 7 ?_)
  refine congrArg (fun l => Value.agg (List.toArray l)) ?_
  show [Value.int _ _, Value.string _] = _
  first | (simp_all [Msg.on, Eff.cells, Eff.zero, Str.nil]; done) | (simp_all [Msg.on, Eff.cells, Eff.zero, Str.nil]; split <;> first | (exfalso; omega) | (simp; done) | (split <;> first | (exfalso; omega) | (simp; done)))
 refine g9 5 ?_
 refine W.ok (ok_build (L := [iV _, sV _]) pl187 zr187 rfl rfl rfl) (g9 5 ?_)
 refine congrArg (fun l => Value.agg (List.toArray l)) ?_
 show [Value.int _ _, Value.string _] = _
 first | (simp_all [Msg.on, Eff.cells, Eff.zero, Str.nil]; done) | (simp_all [Msg.on, Eff.cells, Eff.zero, Str.nil]; split <;> first | (exfalso; omega) | (simp; done) | (split <;> first | (exfalso; omega) | (simp; done)))

theorem ron_fc {G : GH} (ms : Int) (mk : Int) (mkey : Str) (mhi : Str) (mo : Bool) (mv : Str) (k : Str) (hk : mkey.b.size < 140737488355328) :
    Fc Tryz.prog 139 [.agg #[iV ms, iV mk, sV mkey.b, sV mhi.b, .bool mo, sV mv.b], sV k.b] G [] (fun v _ _ => v = .agg (List.toArray ((Msg.on (⟨ms, mk, mkey, mhi, mo, mv⟩ : Msg) k).cells))) := by
 refine Fc.go [.cell 4 187] Tryz.func139 Tryz.ntmps139 rfl (fun w0 => (g9 2 ?_))
 refine W.box (L := [iV _, iV _, sV _, sV _, .bool _, sV _]) rfl rfl (fun b6 => (W.alloc zr187 (fun b7 => (g9 6 ?_))))
 refine W.qcall (rspan_fc _ _ _ _ _ _ (by first | assumption | omega | (dsimp only; omega))) rfl (W.mv (W.qcall (has_fc _ _ _ _) rfl (g9 2 ?_)))
 refine W.sp 10 rfl (fun h9 => ?_) (fun h9 => ?_)
 ·refine g9 14 ?_
  refine W.ok (ok_build (L := [iV _, sV _]) pl187 zr187 rfl rfl rfl) (g9 6 ?_)
  refine congrArg (fun l => Value.agg (List.toArray l)) ?_
  show [Value.int _ _, Value.string _] = _
  first | (simp_all [Msg.on, Eff.cells, Eff.zero, Str.nil]; done) | (simp_all [Msg.on, Eff.cells, Eff.zero, Str.nil]; split <;> first | (exfalso; omega) | (simp; done) | (split <;> first | (exfalso; omega) | (simp; done)))
 refine g9 8 ?_
 refine W.sd 15 (fun h13 p13 => ?_) (fun h13 p13 => ?_)
 ·refine g9 9 ?_
  refine W.ok (ok_build (L := [iV _, sV _]) pl187 zr187 rfl rfl rfl) (g9 6 ?_)
  refine congrArg (fun l => Value.agg (List.toArray l)) ?_
  show [Value.int _ _, Value.string _] = _
  first | (simp_all [Msg.on, Eff.cells, Eff.zero, Str.nil]; done) | (simp_all [Msg.on, Eff.cells, Eff.zero, Str.nil]; split <;> first | (exfalso; omega) | (simp; done) | (split <;> first | (exfalso; omega) | (simp; done)))
 refine g9 9 ?_
 refine WC.cd (fun h18 p18 => ?_) (fun h18 p18 => ?_)
 ·refine g9 2 ?_
  refine W.ok (ok_build (L := [iV _, sV _]) pl187 zr187 rfl rfl rfl) (g9 6 ?_)
  refine congrArg (fun l => Value.agg (List.toArray l)) ?_
  show [Value.int _ _, Value.string _] = _
  first | (simp_all [Msg.on, Eff.cells, Eff.zero, Str.nil]; done) | (simp_all [Msg.on, Eff.cells, Eff.zero, Str.nil]; split <;> first | (exfalso; omega) | (simp; done) | (split <;> first | (exfalso; omega) | (simp; done)))
 refine g9 10 ?_
 refine WC.cd (fun h23 p23 => ?_) (fun h23 p23 => ?_)
 ·refine g9 2 ?_
  refine W.ok (ok_build (L := [iV _, sV _]) pl187 zr187 rfl rfl rfl) (g9 6 ?_)
  refine congrArg (fun l => Value.agg (List.toArray l)) ?_
  show [Value.int _ _, Value.string _] = _
  first | (simp_all [Msg.on, Eff.cells, Eff.zero, Str.nil]; done) | (simp_all [Msg.on, Eff.cells, Eff.zero, Str.nil]; split <;> first | (exfalso; omega) | (simp; done) | (split <;> first | (exfalso; omega) | (simp; done)))
 refine g9 8 ?_
 refine W.ok (ok_build (L := [iV _, sV _]) pl187 zr187 rfl rfl rfl) (g9 5 ?_)
 refine congrArg (fun l => Value.agg (List.toArray l)) ?_
 show [Value.int _ _, Value.string _] = _
 first | (simp_all [Msg.on, Eff.cells, Eff.zero, Str.nil]; done) | (simp_all [Msg.on, Eff.cells, Eff.zero, Str.nil]; split <;> first | (exfalso; omega) | (simp; done) | (split <;> first | (exfalso; omega) | (simp; done)))

end Go.Proofs.YtfmigmijckdldaaGreat
namespace Go.Proofs.YtfmigmijckdldaaGreat
open Go Go.Fw Go.RowKit
attribute [local irreducible] Ok W WC
theorem same_fc {G : GH} {v_a : Value} {a : List Str} (h_a : SlR eStr G v_a a) {v_b : Value} {b : List Str} (h_b : SlR eStr G v_b b) :
    Fc Tryz.prog 69 [v_a, v_b] G [] (fun v _ _ => v = .bool (decide (a = b))) := by
 obtain ⟨sa_a, sc_a, rfl⟩ := h_a.form
 obtain ⟨sa_b, sc_b, rfl⟩ := h_b.form
 have ha := h_a.len47
 have hb := h_b.len47
 refine Fc.go [.tmp 4] Tryz.func69 Tryz.ntmps69 rfl (fun w0 => (g9 15 ?_))
 refine WC.cn (fun h10 p10 => ?_) (fun h10 p10 => ?_)
 ·refine g9 8 ?_
  refine congrArg Value.bool ?_
  exact (decide_eq_false fun e => by subst e; omega).symm
 have hab : a.length = b.length := by omega
 refine g9 9 ?_
 refine WC.loop (X := Nat) (fun k => [(5, nt9 k), (0, lV sa_a a.length sc_a), (1, lV sa_b b.length sc_b)]) (fun k _ Ml => Ml = [] ∧ k ≤ a.length ∧ ∀ i (h : i < a.length) (h2 : i < b.length), i < k → a[i] = b[i]) (fun k => a.length - k) 0 hs9 ?_ ?_
 ·exact ⟨rfl, om9, fun i _ _ h => by omega⟩
 rintro k gG1 G1 _ hG1 ⟨rfl, hk0, hk⟩
 refine g9 9 ?_
 refine WC.cd (fun h14 p14 => ?_) (fun h14 p14 => ?_)
 ·refine g9 8 ?_
  refine (h_a.mono hG1).a1 (i := k) om9 (fun he2 => (g9 4 ?_))
  refine (h_b.mono hG1).a1 (i := k) om9 (fun he5 => (g9 5 ?_))
  refine WC.cn (fun h25 p25 => ?_) (fun h25 p25 => ?_)
  ·refine g9 12 ?_
   refine congrArg Value.bool ?_
   exact (decide_eq_false fun e => by subst e; exact p25 rfl).symm
  refine g9 9 ?_
  exact ⟨Le.rfl, k + 1, hs9, ⟨rfl, om9, fun i h h2 hi => by
      by_cases e : i = k
      · subst e; first | exact Decidable.not_not.1 p25 | exact Str.ext' p25 | omega
      · exact hk i h h2 om9⟩, om9⟩
 refine g9 12 ?_
 refine congrArg Value.bool ?_
 exact (decide_eq_true (List.ext_getElem om9 fun i h h2 => hk i h h2 om9)).symm

theorem ints_fc {G : GH} {v_a : Value} {a : List Int} (h_a : SlR eInt G v_a a) {v_b : Value} {b : List Int} (h_b : SlR eInt G v_b b) :
    Fc Tryz.prog 70 [v_a, v_b] G [] (fun v _ _ => v = .bool (decide (a = b))) := by
 obtain ⟨sa_a, sc_a, rfl⟩ := h_a.form
 obtain ⟨sa_b, sc_b, rfl⟩ := h_b.form
 have ha := h_a.len47
 have hb := h_b.len47
 refine Fc.go [.tmp 4] Tryz.func70 Tryz.ntmps70 rfl (fun w0 => (g9 15 ?_))
 refine WC.cn (fun h10 p10 => ?_) (fun h10 p10 => ?_)
 ·refine g9 8 ?_
  refine congrArg Value.bool ?_
  exact (decide_eq_false fun e => by subst e; omega).symm
 have hab : a.length = b.length := by omega
 refine g9 9 ?_
 refine WC.loop (X := Nat) (fun k => [(5, nt9 k), (0, lV sa_a a.length sc_a), (1, lV sa_b b.length sc_b)]) (fun k _ Ml => Ml = [] ∧ k ≤ a.length ∧ ∀ i (h : i < a.length) (h2 : i < b.length), i < k → a[i] = b[i]) (fun k => a.length - k) 0 hs9 ?_ ?_
 ·exact ⟨rfl, om9, fun i _ _ h => by omega⟩
 rintro k gG8 G8 _ hG8 ⟨rfl, hk0, hk⟩
 refine g9 9 ?_
 refine WC.cd (fun h14 p14 => ?_) (fun h14 p14 => ?_)
 ·refine g9 8 ?_
  refine (h_a.mono hG8).a2 (i := k) om9 (fun he9 hi10 => (g9 4 ?_))
  refine (h_b.mono hG8).a2 (i := k) om9 (fun he13 hi14 => (g9 5 ?_))
  refine WC.cn (fun h25 p25 => ?_) (fun h25 p25 => ?_)
  ·refine g9 12 ?_
   refine congrArg Value.bool ?_
   exact (decide_eq_false fun e => by subst e; exact p25 rfl).symm
  refine g9 9 ?_
  exact ⟨Le.rfl, k + 1, hs9, ⟨rfl, om9, fun i h h2 hi => by
      by_cases e : i = k
      · subst e; first | exact Decidable.not_not.1 p25 | exact Str.ext' p25 | omega
      · exact hk i h h2 om9⟩, om9⟩
 refine g9 12 ?_
 refine congrArg Value.bool ?_
 exact (decide_eq_true (List.ext_getElem om9 fun i h h2 => hk i h h2 om9)).symm

theorem samep_fc {G : GH} {v_a : Value} {a : List Pair} (h_a : SlR ePair G v_a a) {v_b : Value} {b : List Pair} (h_b : SlR ePair G v_b b) :
    Fc Tryz.prog 14 [v_a, v_b] G [] (fun v _ _ => v = .bool (decide (a = b))) := by
 obtain ⟨sa_a, sc_a, rfl⟩ := h_a.form
 obtain ⟨sa_b, sc_b, rfl⟩ := h_b.form
 have ha := h_a.len47
 have hb := h_b.len47
 refine Fc.go [.tmp 4] Tryz.func14 Tryz.ntmps14 rfl (fun w0 => (g9 15 ?_))
 refine WC.cn (fun h10 p10 => ?_) (fun h10 p10 => ?_)
 ·refine g9 8 ?_
  refine congrArg Value.bool ?_
  exact (decide_eq_false fun e => by subst e; omega).symm
 have hab : a.length = b.length := by omega
 refine g9 9 ?_
 refine WC.loop (X := Nat) (fun k => [(5, nt9 k), (0, lV sa_a a.length sc_a), (1, lV sa_b b.length sc_b)]) (fun k _ Ml => Ml = [] ∧ k ≤ a.length ∧ ∀ i (h : i < a.length) (h2 : i < b.length), i < k → a[i] = b[i]) (fun k => a.length - k) 0 hs9 ?_ ?_
 ·exact ⟨rfl, om9, fun i _ _ h => by omega⟩
 rintro k gG17 G17 _ hG17 ⟨rfl, hk0, hk⟩
 refine g9 9 ?_
 refine WC.cd (fun h14 p14 => ?_) (fun h14 p14 => ?_)
 ·refine g9 8 ?_
  refine (h_a.mono hG17).a1 (i := k) om9 (fun he18 => (g9 4 ?_))
  refine (h_b.mono hG17).a1 (i := k) om9 (fun he21 => (g9 2 ?_))
  refine W.ok (ok_neqA (L1 := [sV _, sV _]) (L2 := [sV _, sV _]) eq92 rfl rfl rfl rfl) (g9 2 ?_)
  refine WC.cond rfl (fun h25 => ?_) (fun h25 => ?_)
  ·refine g9 12 ?_
   refine congrArg Value.bool ?_
   exact (decide_eq_false fun e => by subst e; exact Pair.ne_of h25 rfl).symm
  refine g9 9 ?_
  exact ⟨Le.rfl, k + 1, hs9, ⟨rfl, om9, fun i h h2 hi => by
      by_cases e : i = k
      · subst e; exact Pair.eq_of h25
      · exact hk i h h2 om9⟩, om9⟩
 refine g9 12 ?_
 refine congrArg Value.bool ?_
 exact (decide_eq_true (List.ext_getElem om9 fun i h h2 => hk i h h2 om9)).symm

theorem samem_fc {G : GH} {v_a : Value} {a : List Msg} (h_a : SlR eMsg G v_a a) {v_b : Value} {b : List Msg} (h_b : SlR eMsg G v_b b) :
    Fc Tryz.prog 71 [v_a, v_b] G [] (fun v _ _ => v = .bool (decide (a = b))) := by
 obtain ⟨sa_a, sc_a, rfl⟩ := h_a.form
 obtain ⟨sa_b, sc_b, rfl⟩ := h_b.form
 have ha := h_a.len47
 have hb := h_b.len47
 refine Fc.go [.tmp 4] Tryz.func71 Tryz.ntmps71 rfl (fun w0 => (g9 15 ?_))
 refine WC.cn (fun h10 p10 => ?_) (fun h10 p10 => ?_)
 ·refine g9 8 ?_
  refine congrArg Value.bool ?_
  exact (decide_eq_false fun e => by subst e; omega).symm
 have hab : a.length = b.length := by omega
 refine g9 9 ?_
 refine WC.loop (X := Nat) (fun k => [(5, nt9 k), (0, lV sa_a a.length sc_a), (1, lV sa_b b.length sc_b)]) (fun k _ Ml => Ml = [] ∧ k ≤ a.length ∧ ∀ i (h : i < a.length) (h2 : i < b.length), i < k → a[i] = b[i]) (fun k => a.length - k) 0 hs9 ?_ ?_
 ·exact ⟨rfl, om9, fun i _ _ h => by omega⟩
 rintro k gG24 G24 _ hG24 ⟨rfl, hk0, hk⟩
 refine g9 9 ?_
 refine WC.cd (fun h14 p14 => ?_) (fun h14 p14 => ?_)
 ·refine g9 8 ?_
  refine (h_a.mono hG24).a2 (i := k) om9 (fun he25 hm26 => (g9 4 ?_))
  refine (h_b.mono hG24).a2 (i := k) om9 (fun he30 hm31 => (g9 2 ?_))
  refine W.ok (ok_neqA (L1 := [iV _, iV _, sV _, sV _, .bool _, sV _]) (L2 := [iV _, iV _, sV _, sV _, .bool _, sV _]) eq90 rfl rfl rfl rfl) (g9 2 ?_)
  refine WC.cond rfl (fun h25 => ?_) (fun h25 => ?_)
  ·refine g9 12 ?_
   refine congrArg Value.bool ?_
   exact (decide_eq_false fun e => by subst e; exact Msg.ne_of h25 rfl).symm
  refine g9 9 ?_
  exact ⟨Le.rfl, k + 1, hs9, ⟨rfl, om9, fun i h h2 hi => by
      by_cases e : i = k
      · subst e; exact Msg.eq_of h25
      · exact hk i h h2 om9⟩, om9⟩
 refine g9 12 ?_
 refine congrArg Value.bool ?_
 exact (decide_eq_true (List.ext_getElem om9 fun i h h2 => hk i h h2 om9)).symm

theorem longp_fc {G : GH} {v_l : Value} {l : List Pair} (h_l : SlR ePair G v_l l) (m : Int) (hm : 0 ≤ m ∧ m ≤ 1073741824) :
    Fc Tryz.prog 51 [v_l, iV m] G [] (fun v _ _ => v = .bool (decide (longG Pair.w l 0 m ≤ m))) := by
 obtain ⟨sa_l, sc_l, rfl⟩ := h_l.form
 have hl := h_l.len47
 refine Fc.go [.tmp 4] Tryz.func51 Tryz.ntmps51 rfl (fun w0 => (g9 17 ?_))
 refine WC.loop (X := Nat × Int) (fun x => [(5, iV x.2), (6, nt9 x.1), (0, lV sa_l l.length sc_l), (1, iV m)]) (fun x _ Ml => Ml = [] ∧ x.1 ≤ l.length ∧ 0 ≤ x.2 ∧ x.2 ≤ 1125899906842624 ∧ longG Pair.w (l.drop x.1) x.2 m = longG Pair.w l 0 m) (fun x => l.length - x.1) (0, 0) hs9 ?_ ?_
 ·exact ⟨rfl, by simp, by simp, by simp, by simp⟩
 rintro ⟨k, n⟩ gG35 G35 _ hG35 ⟨rfl, hk, hn, hn2, hlg⟩
 dsimp only at hk hn hn2 hlg
 refine g9 8 ?_
 refine W.sd 11 (fun h10 p10 => ?_) (fun h10 p10 => ?_)
 ·refine g9 9 ?_
  refine WC.cd (fun h14 p14 => ?_) (fun h14 p14 => ?_)
  ·refine g9 8 ?_
   refine (h_l.mono hG35).a1 (i := k) om9 (fun he36 => (g9 4 ?_))
   refine W.ok (ok_add rfl rfl (by have := (l[k]).key.le; have := (l[k]).val.le; omega)) (g9 2 ?_)
   refine (h_l.mono hG35).a1 (i := k) om9 (fun he39 => (g9 4 ?_))
   refine W.ok (ok_add rfl rfl (by have := (l[k]).key.le; have := (l[k]).val.le; omega)) (W.ok (ok_add rfl rfl (by have := (l[k]).key.le; have := (l[k]).val.le; dsimp only; omega)) (g9 10 ?_))
   exact ⟨Le.rfl, (k + 1, n + Pair.w l[k]), ⟨(by first | rfl | exact iv (by dsimp only [Pair.w]) | exact iv (by dsimp only [Pair.w]; omega)), eqv, eqv, eqv, trivial⟩, ⟨rfl, by dsimp only; omega, by have := Pair.w_pos l[k]; dsimp only; omega, by have := Pair.w_le l[k]; dsimp only; omega, (longG_step om9 p14).symm.trans hlg⟩, by dsimp only; omega⟩
  refine g9 15 ?_
  refine congrArg Value.bool ?_
  rw [← hlg]
  rw [longG_stop om9]
 refine g9 22 ?_
 refine congrArg Value.bool ?_
 rw [← hlg]
 rw [longG_end om9]

theorem few_fc {G : GH} {v_l : Value} {l : List Msg} (h_l : SlR eMsg G v_l l) (m : Int) (hm : 0 ≤ m ∧ m ≤ 1073741824) :
    Fc Tryz.prog 53 [v_l, iV m] G [] (fun v _ _ => v = .bool (decide (longG Msg.w l 0 m ≤ m))) := by
 obtain ⟨sa_l, sc_l, rfl⟩ := h_l.form
 have hl := h_l.len47
 refine Fc.go [.tmp 4] Tryz.func53 Tryz.ntmps53 rfl (fun w0 => (g9 17 ?_))
 refine WC.loop (X := Nat × Int) (fun x => [(5, iV x.2), (6, nt9 x.1), (0, lV sa_l l.length sc_l), (1, iV m)]) (fun x _ Ml => Ml = [] ∧ x.1 ≤ l.length ∧ 0 ≤ x.2 ∧ x.2 ≤ 1125899906842624 ∧ longG Msg.w (l.drop x.1) x.2 m = longG Msg.w l 0 m) (fun x => l.length - x.1) (0, 0) hs9 ?_ ?_
 ·exact ⟨rfl, by simp, by simp, by simp, by simp⟩
 rintro ⟨k, n⟩ gG42 G42 _ hG42 ⟨rfl, hk, hn, hn2, hlg⟩
 dsimp only at hk hn hn2 hlg
 refine g9 8 ?_
 refine W.sd 11 (fun h10 p10 => ?_) (fun h10 p10 => ?_)
 ·refine g9 9 ?_
  refine WC.cd (fun h14 p14 => ?_) (fun h14 p14 => ?_)
  ·refine g9 8 ?_
   refine (h_l.mono hG42).a2 (i := k) om9 (fun he43 hm44 => (g9 4 ?_))
   refine W.ok (ok_add rfl rfl (by have := (l[k]).key.le; have := (l[k]).val.le; have := (l[k]).hi.le; omega)) (g9 2 ?_)
   refine (h_l.mono hG42).a2 (i := k) om9 (fun he48 hm49 => (g9 4 ?_))
   refine W.ok (ok_add rfl rfl (by have := (l[k]).key.le; have := (l[k]).val.le; have := (l[k]).hi.le; omega)) (g9 2 ?_)
   refine (h_l.mono hG42).a2 (i := k) om9 (fun he53 hm54 => (g9 4 ?_))
   refine W.ok (ok_add rfl rfl (by have := (l[k]).key.le; have := (l[k]).val.le; have := (l[k]).hi.le; omega)) (W.ok (ok_add rfl rfl (by have := (l[k]).key.le; have := (l[k]).val.le; have := (l[k]).hi.le; dsimp only; omega)) (g9 10 ?_))
   exact ⟨Le.rfl, (k + 1, n + Msg.w l[k]), ⟨(by first | rfl | exact iv (by dsimp only [Msg.w]) | exact iv (by dsimp only [Msg.w]; omega)), eqv, eqv, eqv, trivial⟩, ⟨rfl, by dsimp only; omega, by have := Msg.w_pos l[k]; dsimp only; omega, by have := Msg.w_le l[k]; dsimp only; omega, (longG_step om9 p14).symm.trans hlg⟩, by dsimp only; omega⟩
  refine g9 15 ?_
  refine congrArg Value.bool ?_
  rw [← hlg]
  rw [longG_stop om9]
 refine g9 22 ?_
 refine congrArg Value.bool ?_
 rw [← hlg]
 rw [longG_end om9]

theorem rightp_fc {G : GH} {v_l : Value} {l : List Pair} (h_l : SlR ePair G v_l l) :
    Fc Tryz.prog 118 [v_l] G [] (fun v _ _ => v = .bool (decide (PairsR l))) := by
 obtain ⟨sa_l, sc_l, rfl⟩ := h_l.form
 have hl := h_l.len47
 refine Fc.go [.tmp 2] Tryz.func118 Tryz.ntmps118 rfl (fun w0 => (g9 12 ?_))
 refine WC.loop (X := Nat) (fun k => [(3, nt9 k), (0, lV sa_l l.length sc_l)]) (fun k _ Ml => Ml = [] ∧ ∀ i (h : i < l.length), i < k → (l[i].key.b.size ≤ 16 ∧ l[i].val.b.size ≤ 16) ∧ (0 < i → (l[i - 1]'om9).key.lt l[i].key = true)) (fun k => l.length - k) 0 hs9 ?_ ?_
 ·exact ⟨rfl, fun i _ h => by omega⟩
 rintro k gG58 G58 _ hG58 ⟨rfl, hk⟩
 refine g9 9 ?_
 refine WC.cd (fun h7 p7 => ?_) (fun h7 p7 => ?_)
 ·refine g9 8 ?_
  refine (h_l.mono hG58).a1 (i := k) om9 (fun he59 => (g9 6 ?_))
  refine W.sd 17 (fun h16 p16 => ?_) (fun h16 p16 => ?_)
  ·refine g9 42 ?_
   refine congrArg Value.bool ?_
   exact (decide_eq_false fun h => by have := h k om9; omega).symm
  refine g9 5 ?_
  refine (h_l.mono hG58).a1 (i := k) om9 (fun he62 => (g9 11 ?_))
  refine W.sd 26 (fun h24 p24 => ?_) (fun h24 p24 => ?_)
  ·refine g9 33 ?_
   refine congrArg Value.bool ?_
   exact (decide_eq_false fun h => by have := h k om9; omega).symm
  refine g9 6 ?_
  refine W.sd 29 (fun h28 p28 => ?_) (fun h28 p28 => ?_)
  ·refine g9 7 ?_
   refine (h_l.mono hG58).a1 (i := k - 1) om9 (fun he65 => (W.ok (ok_indexAddr (i := k - 1) sl42 ty92 (h_l.mono hG58) rfl rfl ⟨om9, om9⟩) (g9 9 ?_)))
   refine (h_l.mono hG58).a1 (i := k) om9 (fun he68 => (g9 6 ?_))
   refine W.qcall (less_fc _ _) rfl (g9 7 ?_)
   refine WC.cond rfl (fun h42 => ?_) (fun h42 => ?_)
   ·refine g9 12 ?_
    refine congrArg Value.bool ?_
    exact (decide_eq_false fun h => by have := h k om9; have h1 := this.2 om9; simp [h1] at h42).symm
   refine g9 9 ?_
   exact ⟨Le.rfl, k + 1, hs9, ⟨rfl, fun i h hi => by
      by_cases e : i = k
      · subst e; exact ⟨⟨om9, om9⟩, fun h0 => by simpa using h42⟩
      · exact hk i h om9⟩, om9⟩
  refine g9 28 ?_
  exact ⟨Le.rfl, k + 1, hs9, ⟨rfl, fun i h hi => by
      by_cases e : i = k
      · subst e; exact ⟨⟨om9, om9⟩, fun h0 => by omega⟩
      · exact hk i h om9⟩, om9⟩
 refine g9 12 ?_
 refine congrArg Value.bool ?_
 exact (decide_eq_true fun i h => hk i h om9).symm

theorem clonep_fc {G : GH} {v_a : Value} {a : List Pair} (h_a : SlR ePair G v_a a) :
    Fc Tryz.prog 100 [v_a] G [] (fun v G' M' => M' = [] ∧ ∃ u0, v = u0 ∧ SlR ePair G' u0 (a)) := by
 obtain ⟨sa_a, sc_a, rfl⟩ := h_a.form
 have ha := h_a.bytes
 refine Fc.go [.tmp 2] Tryz.func100 Tryz.ntmps100 rfl (fun w0 => (g9 9 ?_))
 refine W.ok (ok_eqlNil sl42 rfl rfl) (g9 2 ?_)
 refine WC.cond rfl (fun h4 => ?_) (fun h4 => ?_)
 ·have hn := SlR.isNone h_a h4
  subst hn
  refine g9 8 ?_
  refine ⟨rfl, _, rfl, ?_⟩
  · exact SlR.nil
 refine g9 4 ?_
 refine W.lit0 (e := ePair) sl42 ty92 zr92 rfl (fun v71 Ms72 ho73 => (W.mv (W.app (e := ePair) sl42 ty92 zr92 rfl by92 rfl rfl (ho73) (h_a) pr9 (by simpa using ha) (fun v74 Ms75 ho76 => (g9 3 ?_)))))
 refine WC.giveO ho76 pr9 (fun G77 hG77 hv77 => (g9 2 ?_))
 refine ⟨rfl, _, rfl, ?_⟩
 · exact hv77

theorem clonem_fc {G : GH} {v_a : Value} {a : List Msg} (h_a : SlR eMsg G v_a a) :
    Fc Tryz.prog 99 [v_a] G [] (fun v G' M' => M' = [] ∧ ∃ u0, v = u0 ∧ SlR eMsg G' u0 (a)) := by
 obtain ⟨sa_a, sc_a, rfl⟩ := h_a.form
 have ha := h_a.bytes
 refine Fc.go [.tmp 2] Tryz.func99 Tryz.ntmps99 rfl (fun w0 => (g9 9 ?_))
 refine W.ok (ok_eqlNil sl51 rfl rfl) (g9 2 ?_)
 refine WC.cond rfl (fun h4 => ?_) (fun h4 => ?_)
 ·have hn := SlR.isNone h_a h4
  subst hn
  refine g9 8 ?_
  refine ⟨rfl, _, rfl, ?_⟩
  · exact SlR.nil
 refine g9 4 ?_
 refine W.lit0 (e := eMsg) sl51 ty90 zr90 rfl (fun v78 Ms79 ho80 => (W.mv (W.app (e := eMsg) sl51 ty90 zr90 rfl by90 rfl rfl (ho80) (h_a) pr9 (by simpa using ha) (fun v81 Ms82 ho83 => (g9 3 ?_)))))
 refine WC.giveO ho83 pr9 (fun G84 hG84 hv84 => (g9 2 ?_))
 refine ⟨rfl, _, rfl, ?_⟩
 · exact hv84

end Go.Proofs.YtfmigmijckdldaaGreat
