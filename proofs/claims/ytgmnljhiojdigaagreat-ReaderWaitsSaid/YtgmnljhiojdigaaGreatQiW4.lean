/- Walks of functions on values and effects. -/
import Derived.Test.YtgmnljhiojdigaaGreatQiNk
set_option maxRecDepth 100000
set_option maxHeartbeats 1600000
set_option linter.unusedVariables false
set_option linter.unusedSimpArgs false
set_option linter.unnecessarySimpa false
namespace Go.Proofs.YtgmnljhiojdigaaGreat
open Go Go.Fw Go.RowKit
attribute [local irreducible] Ok W WC
theorem tail_fc {G : GH} (s : Str) :
    Fc Tryz.prog 158 [sV s.b] G [] (fun v _ _ => v = sV (Str.b (s.tail))) := by
 have hs := s.le
 refine Fc.go [.tmp 2] Tryz.func158 Tryz.ntmps158 rfl (fun w0 => (g9 11 ?_))
 refine W.ok (ok_maxi rfl rfl) (W.ok (ok_sliceS (s.b.size - 16) (s.b.size) st9 rfl ⟨_, _, rfl, om9⟩ rfl ⟨om9, om9⟩) (g9 5 ?_))
 rfl

theorem vadd_fc {G : GH} (a : Str) (b : Str) (ha : a.b.size ≤ 1048576) (hb : b.b.size ≤ 1048576) :
    Fc Tryz.prog 147 [sV a.b, sV b.b] G [] (fun v _ _ => v = sV (Str.b (a.add b))) := by
 refine Fc.go [.tmp 4] Tryz.func147 Tryz.ntmps147 rfl (fun w0 => (g9 9 ?_))
 refine W.ok (Ok.str (b := (a.cat b).b) (ok_addS rfl rfl om9) ((Str.cat_b om9).symm)) (W.qcall (tail_fc _) rfl (g9 5 ?_))
 exact congrArg (fun s => Value.string (Str.b s)) (Str.cat_tail om9)

theorem rtail_fc {G : GH} (s : Str) :
    Fc Tryz.prog 154 [sV s.b] G [] (fun v _ _ => v = sV (Str.b (s.tail))) := by
 have hs := s.le
 refine Fc.go [.tmp 2] Tryz.func154 Tryz.ntmps154 rfl (fun w0 => (g9 20 ?_))
 refine WC.loop (X := Nat) (fun k => [(3, sV (s.cut (s.b.size - k) s.b.size).b), (4, iV ((s.b.size : Int) - 1 - ((k : Nat) : Int))), (0, sV s.b)]) (fun k _ Ml => Ml = [] ∧ k ≤ s.b.size ∧ k ≤ 16) (fun k => 17 - k) 0 ⟨(congrArg Value.string (Str.cut_nil om9).symm), (iv om9), eqv, trivial⟩ ?_ ?_
 ·exact ⟨rfl, om9, om9⟩
 rintro k gG1 G1 _ hG1 ⟨rfl, hk, hk16⟩
 have hz := s.cut_size (s.b.size - k) s.b.size
 refine g9 6 ?_
 refine W.sd 10 (fun h9 p9 => ?_) (fun h9 p9 => ?_)
 ·refine g9 9 ?_
  refine WC.cd (fun h13 p13 => ?_) (fun h13 p13 => ?_)
  ·refine g9 9 ?_
   refine W.ok (ok_sliceS (s.b.size - 1 - k) (s.b.size - k) st9 rfl ⟨_, _, rfl, om9⟩ ⟨_, _, rfl, om9⟩ ⟨om9, om9⟩) (W.mv (W.ok (ok_addS rfl rfl (by simp only [Str.cut_size]; omega)) (g9 10 ?_)))
   exact ⟨Le.rfl, k + 1, ⟨(congrArg Value.string (Str.cut_cat om9)), (iv om9), eqv, trivial⟩, ⟨rfl, om9, om9⟩, om9⟩
  refine g9 13 ?_
  have hk2 : s.b.size - k = s.b.size - 16 := by simp only [Str.cut_size] at *; omega
  rw [hk2]; rfl
 refine g9 20 ?_
 have hk2 : s.b.size - k = s.b.size - 16 := by simp only [Str.cut_size] at *; omega
 rw [hk2]; rfl

theorem rapply_fc {G : GH} (ek : Int) (ev : Str) (has : Bool) (x : Str) (he : ev.b.size ≤ 1048576) (hv : x.b.size ≤ 1048576) :
    Fc Tryz.prog 142 [.agg #[iV ek, sV ev.b], .bool has, sV x.b] G [] (fun v _ _ => v = .tuple #[.bool (((Eff.apply (⟨ek, ev⟩ : Eff) (optS has x))).isSome), sV (Str.b (((Eff.apply (⟨ek, ev⟩ : Eff) (optS has x))).getD Str.nil))]) := by
 refine Fc.go [.tmp 6, .tmp 7] Tryz.func142 Tryz.ntmps142 rfl (fun w0 => (g9 2 ?_))
 refine W.box (L := [iV _, sV _]) rfl rfl (fun b2 => (g9 12 ?_))
 refine WC.cd (fun h10 p10 => ?_) (fun h10 p10 => ?_)
 ·refine g9 11 ?_
  show Value.tuple #[Value.bool _, Value.string _] = _
  simp_all [Eff.apply, optS, Str.nil]
 refine g9 10 ?_
 refine WC.cd (fun h15 p15 => ?_) (fun h15 p15 => ?_)
 ·refine g9 9 ?_
  show Value.tuple #[Value.bool _, Value.string _] = _
  simp_all [Eff.apply, optS, Str.nil]
 refine g9 9 ?_
 refine WC.cond rfl (fun h17 => ?_) (fun h17 => ?_)
 ·refine g9 12 ?_
  refine WC.cd (fun h20 p20 => ?_) (fun h20 p20 => ?_)
  ·refine g9 5 ?_
   refine W.ok (Ok.str (b := (Str.nil.cat ev).b) (ok_addS rfl rfl ((by first | omega | (show 0 + ev.b.size ≤ _; omega)))) ((Str.cat_b (a := Str.nil) (by first | omega | (show 0 + ev.b.size ≤ _; omega))).symm)) (W.qcall (rtail_fc _) rfl (g9 7 ?_))
   show Value.tuple #[Value.bool _, Value.string _] = _
   rw [Str.cat_tail (by first | omega | (show 0 + ev.b.size ≤ _; omega))]
   simp_all [Eff.apply, optS, Str.nil]
  refine g9 12 ?_
  show Value.tuple #[Value.bool _, Value.string _] = _
  simp_all [Eff.apply, optS, Str.nil]
 refine g9 10 ?_
 refine WC.cd (fun h20 p20 => ?_) (fun h20 p20 => ?_)
 ·refine g9 5 ?_
  refine W.ok (Ok.str (b := (x.cat ev).b) (ok_addS rfl rfl ((by first | omega | (show 0 + ev.b.size ≤ _; omega)))) ((Str.cat_b om9).symm)) (W.qcall (rtail_fc _) rfl (g9 7 ?_))
  show Value.tuple #[Value.bool _, Value.string _] = _
  rw [Str.cat_tail (by first | omega | (show 0 + ev.b.size ≤ _; omega))]
  simp_all [Eff.apply, optS, Str.nil]
 refine g9 12 ?_
 show Value.tuple #[Value.bool _, Value.string _] = _
 simp_all [Eff.apply, optS, Str.nil]

theorem eapply_fc {G : GH} (ek : Int) (ev : Str) (has : Bool) (x : Str) (he : ev.b.size ≤ 1048576) (hv : x.b.size ≤ 1048576) :
    Fc Tryz.prog 137 [.agg #[iV ek, sV ev.b], .bool has, sV x.b] G [] (fun v _ _ => v = .tuple #[.bool (((Eff.apply (⟨ek, ev⟩ : Eff) (optS has x))).isSome), sV (Str.b (((Eff.apply (⟨ek, ev⟩ : Eff) (optS has x))).getD Str.nil))]) := by
 refine Fc.go [.tmp 6, .tmp 7] Tryz.func137 Tryz.ntmps137 rfl (fun w0 => (g9 2 ?_))
 refine W.box (L := [iV _, sV _]) rfl rfl (fun b3 => (g9 11 ?_))
 refine WC.cond rfl (fun h9 => ?_) (fun h9 => ?_)
 ·refine g9 18 ?_
  refine WC.cd (fun h13 p13 => ?_) (fun h13 p13 => ?_)
  ·refine g9 12 ?_
   show Value.tuple #[Value.bool _, Value.string _] = _
   simp_all [Eff.apply, optS, Str.nil]
  refine g9 6 ?_
  refine WC.cd (fun h17 p17 => ?_) (fun h17 p17 => ?_)
  ·refine g9 5 ?_
   refine W.qcall (vadd_fc Str.nil ev (by show 0 ≤ 1048576; omega) (by assumption)) rfl (g9 8 ?_)
   show Value.tuple #[Value.bool _, Value.string _] = _
   simp_all [Eff.apply, optS, Str.nil]
  refine g9 6 ?_
  refine WC.cd (fun h23 p23 => ?_) (fun h23 p23 => ?_)
  ·refine g9 10 ?_
   show Value.tuple #[Value.bool _, Value.string _] = _
   simp_all [Eff.apply, optS, Str.nil]
  refine g9 13 ?_
  show Value.tuple #[Value.bool _, Value.string _] = _
  simp_all [Eff.apply, optS, Str.nil]
 refine g9 16 ?_
 refine WC.cd (fun h13 p13 => ?_) (fun h13 p13 => ?_)
 ·refine g9 12 ?_
  show Value.tuple #[Value.bool _, Value.string _] = _
  simp_all [Eff.apply, optS, Str.nil]
 refine g9 6 ?_
 refine WC.cd (fun h17 p17 => ?_) (fun h17 p17 => ?_)
 ·refine g9 5 ?_
  refine W.qcall (vadd_fc x ev (by assumption) (by assumption)) rfl (g9 8 ?_)
  show Value.tuple #[Value.bool _, Value.string _] = _
  simp_all [Eff.apply, optS, Str.nil]
 refine g9 6 ?_
 refine WC.cd (fun h23 p23 => ?_) (fun h23 p23 => ?_)
 ·refine g9 10 ?_
  show Value.tuple #[Value.bool _, Value.string _] = _
  simp_all [Eff.apply, optS, Str.nil]
 refine g9 13 ?_
 show Value.tuple #[Value.bool _, Value.string _] = _
 simp_all [Eff.apply, optS, Str.nil]

theorem mon_fc {G : GH} (ms : Int) (mk : Int) (mkey : Str) (mhi : Str) (mo : Bool) (mv : Str) (k : Str) (hk : mkey.b.size < 140737488355328) :
    Fc Tryz.prog 149 [.agg #[iV ms, iV mk, sV mkey.b, sV mhi.b, .bool mo, sV mv.b], sV k.b] G [] (fun v _ _ => v = .agg (List.toArray ((Msg.on (⟨ms, mk, mkey, mhi, mo, mv⟩ : Msg) k).cells))) := by
 refine Fc.go [.cell 4 189] Tryz.func149 Tryz.ntmps149 rfl (fun w0 => (g9 2 ?_))
 refine W.box (L := [iV _, iV _, sV _, sV _, .bool _, sV _]) rfl rfl (fun b4 => (W.alloc zr189 (fun b5 => (g9 6 ?_))))
 refine W.qcall (mspan_fc _ _ _ _ _ _ (by first | assumption | omega | (dsimp only; omega))) rfl (W.mv (W.qcall (spanhas_fc _ _ _ _) rfl (g9 3 ?_)))
 refine WC.cond rfl (fun h9 => ?_) (fun h9 => ?_)
 ·refine g9 2 ?_
  refine W.ok (ok_build (L := [iV _, sV _]) pl189 zr189 rfl rfl rfl) (g9 6 ?_)
  refine congrArg (fun l => Value.agg (List.toArray l)) ?_
  show [Value.int _ _, Value.string _] = _
  first | (simp_all [Msg.on, Eff.cells, Eff.zero, Str.nil]; done) | (simp_all [Msg.on, Eff.cells, Eff.zero, Str.nil]; split <;> first | (exfalso; omega) | (simp; done) | (split <;> first | (exfalso; omega) | (simp; done)))
 refine g9 17 ?_
 refine WC.cd (fun h14 p14 => ?_) (fun h14 p14 => ?_)
 ·refine g9 9 ?_
  refine W.ok (ok_build (L := [iV _, sV _]) pl189 zr189 rfl rfl rfl) (g9 7 ?_)
  refine congrArg (fun l => Value.agg (List.toArray l)) ?_
  show [Value.int _ _, Value.string _] = _
  first | (simp_all [Msg.on, Eff.cells, Eff.zero, Str.nil]; done) | (simp_all [Msg.on, Eff.cells, Eff.zero, Str.nil]; split <;> first | (exfalso; omega) | (simp; done) | (split <;> first | (exfalso; omega) | (simp; done)))
 refine g9 5 ?_
 refine WC.cd (fun h15 p15 => ?_) (fun h15 p15 => ?_)
 ·refine g9 6 ?_
  refine W.ok (ok_build (L := [iV _, sV _]) pl189 zr189 rfl rfl rfl) (g9 7 ?_)
  refine congrArg (fun l => Value.agg (List.toArray l)) ?_
  show [Value.int _ _, Value.string _] = _
  first | (simp_all [Msg.on, Eff.cells, Eff.zero, Str.nil]; done) | (simp_all [Msg.on, Eff.cells, Eff.zero, Str.nil]; split <;> first | (exfalso; omega) | (simp; done) | (split <;> first | (exfalso; omega) | (simp; done)))
 refine g9 7 ?_
 refine WC.cd (fun h22 p22 => ?_) (fun h22 p22 => ?_)
 ·refine g9 5 ?_
  refine W.ok (ok_build (L := [iV _, sV _]) pl189 zr189 rfl rfl rfl) (g9 7 ?_)
  refine congrArg (fun l => Value.agg (List.toArray l)) ?_
  show [Value.int _ _, Value.string _] = _
  first | (simp_all [Msg.on, Eff.cells, Eff.zero, Str.nil]; done) | (simp_all [Msg.on, Eff.cells, Eff.zero, Str.nil]; split <;> first | (exfalso; omega) | (simp; done) | (split <;> first | (exfalso; omega) | (simp; done)))
 refine g9 5 ?_
 refine WC.cd (fun h23 p23 => ?_) (fun h23 p23 => ?_)
 ·refine g9 2 ?_
  refine W.ok (ok_build (L := [iV _, sV _]) pl189 zr189 rfl rfl rfl) (g9 7 ?_)
  refine congrArg (fun l => Value.agg (List.toArray l)) ?_
  show [Value.int _ _, Value.string _] = _
  first | (simp_all [Msg.on, Eff.cells, Eff.zero, Str.nil]; done) | (simp_all [Msg.on, Eff.cells, Eff.zero, Str.nil]; split <;> first | (exfalso; omega) | (simp; done) | (split <;> first | (exfalso; omega) | (simp; done)))
 refine g9 5 ?_
 refine W.ok (ok_build (L := [iV _, sV _]) pl189 zr189 rfl rfl rfl) (g9 5 ?_)
 refine congrArg (fun l => Value.agg (List.toArray l)) ?_
 show [Value.int _ _, Value.string _] = _
 first | (simp_all [Msg.on, Eff.cells, Eff.zero, Str.nil]; done) | (simp_all [Msg.on, Eff.cells, Eff.zero, Str.nil]; split <;> first | (exfalso; omega) | (simp; done) | (split <;> first | (exfalso; omega) | (simp; done)))

theorem ron_fc {G : GH} (ms : Int) (mk : Int) (mkey : Str) (mhi : Str) (mo : Bool) (mv : Str) (k : Str) (hk : mkey.b.size < 140737488355328) :
    Fc Tryz.prog 127 [.agg #[iV ms, iV mk, sV mkey.b, sV mhi.b, .bool mo, sV mv.b], sV k.b] G [] (fun v _ _ => v = .agg (List.toArray ((Msg.on (⟨ms, mk, mkey, mhi, mo, mv⟩ : Msg) k).cells))) := by
 refine Fc.go [.cell 4 189] Tryz.func127 Tryz.ntmps127 rfl (fun w0 => (g9 2 ?_))
 refine W.box (L := [iV _, iV _, sV _, sV _, .bool _, sV _]) rfl rfl (fun b6 => (W.alloc zr189 (fun b7 => (g9 6 ?_))))
 refine W.qcall (rspan_fc _ _ _ _ _ _ (by first | assumption | omega | (dsimp only; omega))) rfl (W.mv (W.qcall (has_fc _ _ _ _) rfl (g9 2 ?_)))
 refine W.sp 10 rfl (fun h9 => ?_) (fun h9 => ?_)
 ·refine g9 14 ?_
  refine W.ok (ok_build (L := [iV _, sV _]) pl189 zr189 rfl rfl rfl) (g9 6 ?_)
  refine congrArg (fun l => Value.agg (List.toArray l)) ?_
  show [Value.int _ _, Value.string _] = _
  first | (simp_all [Msg.on, Eff.cells, Eff.zero, Str.nil]; done) | (simp_all [Msg.on, Eff.cells, Eff.zero, Str.nil]; split <;> first | (exfalso; omega) | (simp; done) | (split <;> first | (exfalso; omega) | (simp; done)))
 refine g9 8 ?_
 refine W.sd 15 (fun h13 p13 => ?_) (fun h13 p13 => ?_)
 ·refine g9 9 ?_
  refine W.ok (ok_build (L := [iV _, sV _]) pl189 zr189 rfl rfl rfl) (g9 6 ?_)
  refine congrArg (fun l => Value.agg (List.toArray l)) ?_
  show [Value.int _ _, Value.string _] = _
  first | (simp_all [Msg.on, Eff.cells, Eff.zero, Str.nil]; done) | (simp_all [Msg.on, Eff.cells, Eff.zero, Str.nil]; split <;> first | (exfalso; omega) | (simp; done) | (split <;> first | (exfalso; omega) | (simp; done)))
 refine g9 9 ?_
 refine WC.cd (fun h18 p18 => ?_) (fun h18 p18 => ?_)
 ·refine g9 2 ?_
  refine W.ok (ok_build (L := [iV _, sV _]) pl189 zr189 rfl rfl rfl) (g9 6 ?_)
  refine congrArg (fun l => Value.agg (List.toArray l)) ?_
  show [Value.int _ _, Value.string _] = _
  first | (simp_all [Msg.on, Eff.cells, Eff.zero, Str.nil]; done) | (simp_all [Msg.on, Eff.cells, Eff.zero, Str.nil]; split <;> first | (exfalso; omega) | (simp; done) | (split <;> first | (exfalso; omega) | (simp; done)))
 refine g9 10 ?_
 refine WC.cd (fun h23 p23 => ?_) (fun h23 p23 => ?_)
 ·refine g9 2 ?_
  refine W.ok (ok_build (L := [iV _, sV _]) pl189 zr189 rfl rfl rfl) (g9 6 ?_)
  refine congrArg (fun l => Value.agg (List.toArray l)) ?_
  show [Value.int _ _, Value.string _] = _
  first | (simp_all [Msg.on, Eff.cells, Eff.zero, Str.nil]; done) | (simp_all [Msg.on, Eff.cells, Eff.zero, Str.nil]; split <;> first | (exfalso; omega) | (simp; done) | (split <;> first | (exfalso; omega) | (simp; done)))
 refine g9 8 ?_
 refine W.ok (ok_build (L := [iV _, sV _]) pl189 zr189 rfl rfl rfl) (g9 5 ?_)
 refine congrArg (fun l => Value.agg (List.toArray l)) ?_
 show [Value.int _ _, Value.string _] = _
 first | (simp_all [Msg.on, Eff.cells, Eff.zero, Str.nil]; done) | (simp_all [Msg.on, Eff.cells, Eff.zero, Str.nil]; split <;> first | (exfalso; omega) | (simp; done) | (split <;> first | (exfalso; omega) | (simp; done)))

theorem same_fc {G : GH} {v_a : Value} {a : List Str} (h_a : SlR eStr G v_a a) {v_b : Value} {b : List Str} (h_b : SlR eStr G v_b b) :
    Fc Tryz.prog 77 [v_a, v_b] G [] (fun v _ _ => v = .bool (decide (a = b))) := by
 obtain ⟨sa_a, sc_a, rfl⟩ := h_a.form
 obtain ⟨sa_b, sc_b, rfl⟩ := h_b.form
 have ha := h_a.len47
 have hb := h_b.len47
 refine Fc.go [.tmp 4] Tryz.func77 Tryz.ntmps77 rfl (fun w0 => (g9 15 ?_))
 refine WC.cn (fun h10 p10 => ?_) (fun h10 p10 => ?_)
 ·refine g9 8 ?_
  refine congrArg Value.bool ?_
  exact (decide_eq_false fun e => by subst e; omega).symm
 have hab : a.length = b.length := by omega
 refine g9 9 ?_
 refine WC.loop (X := Nat) (fun k => [(5, nt9 k), (0, lV sa_a a.length sc_a), (1, lV sa_b b.length sc_b)]) (fun k _ Ml => Ml = [] ∧ k ≤ a.length ∧ ∀ i (h : i < a.length) (h2 : i < b.length), i < k → a[i] = b[i]) (fun k => a.length - k) 0 hs9 ?_ ?_
 ·exact ⟨rfl, om9, fun i _ _ h => by omega⟩
 rintro k gG1 G1 _ hG1 ⟨rfl, hk0, hk⟩
 refine g9 9 ?_
 refine WC.cd (fun h14 p14 => ?_) (fun h14 p14 => ?_)
 ·refine g9 8 ?_
  refine (h_a.mono hG1).a1 (i := k) om9 (fun he2 => (g9 4 ?_))
  refine (h_b.mono hG1).a1 (i := k) om9 (fun he5 => (g9 5 ?_))
  refine WC.cn (fun h25 p25 => ?_) (fun h25 p25 => ?_)
  ·refine g9 12 ?_
   refine congrArg Value.bool ?_
   exact (decide_eq_false fun e => by subst e; exact p25 rfl).symm
  refine g9 9 ?_
  exact ⟨Le.rfl, k + 1, hs9, ⟨rfl, om9, fun i h h2 hi => by
      by_cases e : i = k
      · subst e; first | exact Decidable.not_not.1 p25 | exact Str.ext' p25 | omega
      · exact hk i h h2 om9⟩, om9⟩
 refine g9 12 ?_
 refine congrArg Value.bool ?_
 exact (decide_eq_true (List.ext_getElem om9 fun i h h2 => hk i h h2 om9)).symm

theorem ints_fc {G : GH} {v_a : Value} {a : List Int} (h_a : SlR eInt G v_a a) {v_b : Value} {b : List Int} (h_b : SlR eInt G v_b b) :
    Fc Tryz.prog 78 [v_a, v_b] G [] (fun v _ _ => v = .bool (decide (a = b))) := by
 obtain ⟨sa_a, sc_a, rfl⟩ := h_a.form
 obtain ⟨sa_b, sc_b, rfl⟩ := h_b.form
 have ha := h_a.len47
 have hb := h_b.len47
 refine Fc.go [.tmp 4] Tryz.func78 Tryz.ntmps78 rfl (fun w0 => (g9 15 ?_))
 refine WC.cn (fun h10 p10 => ?_) (fun h10 p10 => ?_)
 ·refine g9 8 ?_
  refine congrArg Value.bool ?_
  exact (decide_eq_false fun e => by subst e; omega).symm
 have hab : a.length = b.length := by omega
 refine g9 9 ?_
 refine WC.loop (X := Nat) (fun k => [(5, nt9 k), (0, lV sa_a a.length sc_a), (1, lV sa_b b.length sc_b)]) (fun k _ Ml => Ml = [] ∧ k ≤ a.length ∧ ∀ i (h : i < a.length) (h2 : i < b.length), i < k → a[i] = b[i]) (fun k => a.length - k) 0 hs9 ?_ ?_
 ·exact ⟨rfl, om9, fun i _ _ h => by omega⟩
 rintro k gG8 G8 _ hG8 ⟨rfl, hk0, hk⟩
 refine g9 9 ?_
 refine WC.cd (fun h14 p14 => ?_) (fun h14 p14 => ?_)
 ·refine g9 8 ?_
  refine (h_a.mono hG8).a2 (i := k) om9 (fun he9 hi10 => (g9 4 ?_))
  refine (h_b.mono hG8).a2 (i := k) om9 (fun he13 hi14 => (g9 5 ?_))
  refine WC.cn (fun h25 p25 => ?_) (fun h25 p25 => ?_)
  ·refine g9 12 ?_
   refine congrArg Value.bool ?_
   exact (decide_eq_false fun e => by subst e; exact p25 rfl).symm
  refine g9 9 ?_
  exact ⟨Le.rfl, k + 1, hs9, ⟨rfl, om9, fun i h h2 hi => by
      by_cases e : i = k
      · subst e; first | exact Decidable.not_not.1 p25 | exact Str.ext' p25 | omega
      · exact hk i h h2 om9⟩, om9⟩
 refine g9 12 ?_
 refine congrArg Value.bool ?_
 exact (decide_eq_true (List.ext_getElem om9 fun i h h2 => hk i h h2 om9)).symm

theorem samep_fc {G : GH} {v_a : Value} {a : List Pair} (h_a : SlR ePair G v_a a) {v_b : Value} {b : List Pair} (h_b : SlR ePair G v_b b) :
    Fc Tryz.prog 47 [v_a, v_b] G [] (fun v _ _ => v = .bool (decide (a = b))) := by
 obtain ⟨sa_a, sc_a, rfl⟩ := h_a.form
 obtain ⟨sa_b, sc_b, rfl⟩ := h_b.form
 have ha := h_a.len47
 have hb := h_b.len47
 refine Fc.go [.tmp 4] Tryz.func47 Tryz.ntmps47 rfl (fun w0 => (g9 15 ?_))
 refine WC.cn (fun h10 p10 => ?_) (fun h10 p10 => ?_)
 ·refine g9 8 ?_
  refine congrArg Value.bool ?_
  exact (decide_eq_false fun e => by subst e; omega).symm
 have hab : a.length = b.length := by omega
 refine g9 9 ?_
 refine WC.loop (X := Nat) (fun k => [(5, nt9 k), (0, lV sa_a a.length sc_a), (1, lV sa_b b.length sc_b)]) (fun k _ Ml => Ml = [] ∧ k ≤ a.length ∧ ∀ i (h : i < a.length) (h2 : i < b.length), i < k → a[i] = b[i]) (fun k => a.length - k) 0 hs9 ?_ ?_
 ·exact ⟨rfl, om9, fun i _ _ h => by omega⟩
 rintro k gG17 G17 _ hG17 ⟨rfl, hk0, hk⟩
 refine g9 9 ?_
 refine WC.cd (fun h14 p14 => ?_) (fun h14 p14 => ?_)
 ·refine g9 8 ?_
  refine (h_a.mono hG17).a1 (i := k) om9 (fun he18 => (g9 4 ?_))
  refine (h_b.mono hG17).a1 (i := k) om9 (fun he21 => (g9 2 ?_))
  refine W.ok (ok_neqA (L1 := [sV _, sV _]) (L2 := [sV _, sV _]) eq101 rfl rfl rfl rfl) (g9 2 ?_)
  refine WC.cond rfl (fun h25 => ?_) (fun h25 => ?_)
  ·refine g9 12 ?_
   refine congrArg Value.bool ?_
   exact (decide_eq_false fun e => by subst e; exact Pair.ne_of h25 rfl).symm
  refine g9 9 ?_
  exact ⟨Le.rfl, k + 1, hs9, ⟨rfl, om9, fun i h h2 hi => by
      by_cases e : i = k
      · subst e; exact Pair.eq_of h25
      · exact hk i h h2 om9⟩, om9⟩
 refine g9 12 ?_
 refine congrArg Value.bool ?_
 exact (decide_eq_true (List.ext_getElem om9 fun i h h2 => hk i h h2 om9)).symm

theorem samem_fc {G : GH} {v_a : Value} {a : List Msg} (h_a : SlR eMsg G v_a a) {v_b : Value} {b : List Msg} (h_b : SlR eMsg G v_b b) :
    Fc Tryz.prog 79 [v_a, v_b] G [] (fun v _ _ => v = .bool (decide (a = b))) := by
 obtain ⟨sa_a, sc_a, rfl⟩ := h_a.form
 obtain ⟨sa_b, sc_b, rfl⟩ := h_b.form
 have ha := h_a.len47
 have hb := h_b.len47
 refine Fc.go [.tmp 4] Tryz.func79 Tryz.ntmps79 rfl (fun w0 => (g9 15 ?_))
 refine WC.cn (fun h10 p10 => ?_) (fun h10 p10 => ?_)
 ·refine g9 8 ?_
  refine congrArg Value.bool ?_
  exact (decide_eq_false fun e => by subst e; omega).symm
 have hab : a.length = b.length := by omega
 refine g9 9 ?_
 refine WC.loop (X := Nat) (fun k => [(5, nt9 k), (0, lV sa_a a.length sc_a), (1, lV sa_b b.length sc_b)]) (fun k _ Ml => Ml = [] ∧ k ≤ a.length ∧ ∀ i (h : i < a.length) (h2 : i < b.length), i < k → a[i] = b[i]) (fun k => a.length - k) 0 hs9 ?_ ?_
 ·exact ⟨rfl, om9, fun i _ _ h => by omega⟩
 rintro k gG24 G24 _ hG24 ⟨rfl, hk0, hk⟩
 refine g9 9 ?_
 refine WC.cd (fun h14 p14 => ?_) (fun h14 p14 => ?_)
 ·refine g9 8 ?_
  refine (h_a.mono hG24).a2 (i := k) om9 (fun he25 hm26 => (g9 4 ?_))
  refine (h_b.mono hG24).a2 (i := k) om9 (fun he30 hm31 => (g9 2 ?_))
  refine W.ok (ok_neqA (L1 := [iV _, iV _, sV _, sV _, .bool _, sV _]) (L2 := [iV _, iV _, sV _, sV _, .bool _, sV _]) eq118 rfl rfl rfl rfl) (g9 2 ?_)
  refine WC.cond rfl (fun h25 => ?_) (fun h25 => ?_)
  ·refine g9 12 ?_
   refine congrArg Value.bool ?_
   exact (decide_eq_false fun e => by subst e; exact Msg.ne_of h25 rfl).symm
  refine g9 9 ?_
  exact ⟨Le.rfl, k + 1, hs9, ⟨rfl, om9, fun i h h2 hi => by
      by_cases e : i = k
      · subst e; exact Msg.eq_of h25
      · exact hk i h h2 om9⟩, om9⟩
 refine g9 12 ?_
 refine congrArg Value.bool ?_
 exact (decide_eq_true (List.ext_getElem om9 fun i h h2 => hk i h h2 om9)).symm

theorem longp_fc {G : GH} {v_l : Value} {l : List Pair} (h_l : SlR ePair G v_l l) (m : Int) (hm : 0 ≤ m ∧ m ≤ 1073741824) :
    Fc Tryz.prog 52 [v_l, iV m] G [] (fun v _ _ => v = .bool (decide (longG Pair.w l 0 m ≤ m))) := by
 obtain ⟨sa_l, sc_l, rfl⟩ := h_l.form
 have hl := h_l.len47
 refine Fc.go [.tmp 4] Tryz.func52 Tryz.ntmps52 rfl (fun w0 => (g9 17 ?_))
 refine WC.loop (X := Nat × Int) (fun x => [(5, iV x.2), (6, nt9 x.1), (0, lV sa_l l.length sc_l), (1, iV m)]) (fun x _ Ml => Ml = [] ∧ x.1 ≤ l.length ∧ 0 ≤ x.2 ∧ x.2 ≤ 1125899906842624 ∧ longG Pair.w (l.drop x.1) x.2 m = longG Pair.w l 0 m) (fun x => l.length - x.1) (0, 0) hs9 ?_ ?_
 ·exact ⟨rfl, by simp, by simp, by simp, by simp⟩
 rintro ⟨k, n⟩ gG35 G35 _ hG35 ⟨rfl, hk, hn, hn2, hlg⟩
 dsimp only at hk hn hn2 hlg
 refine g9 8 ?_
 refine W.sd 11 (fun h10 p10 => ?_) (fun h10 p10 => ?_)
 ·refine g9 9 ?_
  refine WC.cd (fun h14 p14 => ?_) (fun h14 p14 => ?_)
  ·refine g9 8 ?_
   refine (h_l.mono hG35).a1 (i := k) om9 (fun he36 => (g9 4 ?_))
   refine W.ok (ok_add rfl rfl (by have := (l[k]).key.le; have := (l[k]).val.le; omega)) (g9 2 ?_)
   refine (h_l.mono hG35).a1 (i := k) om9 (fun he39 => (g9 4 ?_))
   refine W.ok (ok_add rfl rfl (by have := (l[k]).key.le; have := (l[k]).val.le; omega)) (W.ok (ok_add rfl rfl (by have := (l[k]).key.le; have := (l[k]).val.le; dsimp only; omega)) (g9 10 ?_))
   exact ⟨Le.rfl, (k + 1, n + Pair.w l[k]), ⟨(by first | rfl | exact iv (by dsimp only [Pair.w]) | exact iv (by dsimp only [Pair.w]; omega)), eqv, eqv, eqv, trivial⟩, ⟨rfl, by dsimp only; omega, by have := Pair.w_pos l[k]; dsimp only; omega, by have := Pair.w_le l[k]; dsimp only; omega, (longG_step om9 p14).symm.trans hlg⟩, by dsimp only; omega⟩
  refine g9 15 ?_
  refine congrArg Value.bool ?_
  rw [← hlg]
  rw [longG_stop om9]
 refine g9 22 ?_
 refine congrArg Value.bool ?_
 rw [← hlg]
 rw [longG_end om9]

theorem few_fc {G : GH} {v_l : Value} {l : List Msg} (h_l : SlR eMsg G v_l l) (m : Int) (hm : 0 ≤ m ∧ m ≤ 1073741824) :
    Fc Tryz.prog 54 [v_l, iV m] G [] (fun v _ _ => v = .bool (decide (longG Msg.w l 0 m ≤ m))) := by
 obtain ⟨sa_l, sc_l, rfl⟩ := h_l.form
 have hl := h_l.len47
 refine Fc.go [.tmp 4] Tryz.func54 Tryz.ntmps54 rfl (fun w0 => (g9 17 ?_))
 refine WC.loop (X := Nat × Int) (fun x => [(5, iV x.2), (6, nt9 x.1), (0, lV sa_l l.length sc_l), (1, iV m)]) (fun x _ Ml => Ml = [] ∧ x.1 ≤ l.length ∧ 0 ≤ x.2 ∧ x.2 ≤ 1125899906842624 ∧ longG Msg.w (l.drop x.1) x.2 m = longG Msg.w l 0 m) (fun x => l.length - x.1) (0, 0) hs9 ?_ ?_
 ·exact ⟨rfl, by simp, by simp, by simp, by simp⟩
 rintro ⟨k, n⟩ gG42 G42 _ hG42 ⟨rfl, hk, hn, hn2, hlg⟩
 dsimp only at hk hn hn2 hlg
 refine g9 8 ?_
 refine W.sd 11 (fun h10 p10 => ?_) (fun h10 p10 => ?_)
 ·refine g9 9 ?_
  refine WC.cd (fun h14 p14 => ?_) (fun h14 p14 => ?_)
  ·refine g9 8 ?_
   refine (h_l.mono hG42).a2 (i := k) om9 (fun he43 hm44 => (g9 4 ?_))
   refine W.ok (ok_add rfl rfl (by have := (l[k]).key.le; have := (l[k]).val.le; have := (l[k]).hi.le; omega)) (g9 2 ?_)
   refine (h_l.mono hG42).a2 (i := k) om9 (fun he48 hm49 => (g9 4 ?_))
   refine W.ok (ok_add rfl rfl (by have := (l[k]).key.le; have := (l[k]).val.le; have := (l[k]).hi.le; omega)) (g9 2 ?_)
   refine (h_l.mono hG42).a2 (i := k) om9 (fun he53 hm54 => (g9 4 ?_))
   refine W.ok (ok_add rfl rfl (by have := (l[k]).key.le; have := (l[k]).val.le; have := (l[k]).hi.le; omega)) (W.ok (ok_add rfl rfl (by have := (l[k]).key.le; have := (l[k]).val.le; have := (l[k]).hi.le; dsimp only; omega)) (g9 10 ?_))
   exact ⟨Le.rfl, (k + 1, n + Msg.w l[k]), ⟨(by first | rfl | exact iv (by dsimp only [Msg.w]) | exact iv (by dsimp only [Msg.w]; omega)), eqv, eqv, eqv, trivial⟩, ⟨rfl, by dsimp only; omega, by have := Msg.w_pos l[k]; dsimp only; omega, by have := Msg.w_le l[k]; dsimp only; omega, (longG_step om9 p14).symm.trans hlg⟩, by dsimp only; omega⟩
  refine g9 15 ?_
  refine congrArg Value.bool ?_
  rw [← hlg]
  rw [longG_stop om9]
 refine g9 22 ?_
 refine congrArg Value.bool ?_
 rw [← hlg]
 rw [longG_end om9]

theorem rightp_fc {G : GH} {v_l : Value} {l : List Pair} (h_l : SlR ePair G v_l l) :
    Fc Tryz.prog 108 [v_l] G [] (fun v _ _ => v = .bool (decide (PairsR l))) := by
 obtain ⟨sa_l, sc_l, rfl⟩ := h_l.form
 have hl := h_l.len47
 refine Fc.go [.tmp 2] Tryz.func108 Tryz.ntmps108 rfl (fun w0 => (g9 12 ?_))
 refine WC.loop (X := Nat) (fun k => [(3, nt9 k), (0, lV sa_l l.length sc_l)]) (fun k _ Ml => Ml = [] ∧ ∀ i (h : i < l.length), i < k → (l[i].key.b.size ≤ 16 ∧ l[i].val.b.size ≤ 16) ∧ (0 < i → (l[i - 1]'om9).key.lt l[i].key = true)) (fun k => l.length - k) 0 hs9 ?_ ?_
 ·exact ⟨rfl, fun i _ h => by omega⟩
 rintro k gG58 G58 _ hG58 ⟨rfl, hk⟩
 refine g9 9 ?_
 refine WC.cd (fun h7 p7 => ?_) (fun h7 p7 => ?_)
 ·refine g9 8 ?_
  refine (h_l.mono hG58).a1 (i := k) om9 (fun he59 => (g9 6 ?_))
  refine W.sd 17 (fun h16 p16 => ?_) (fun h16 p16 => ?_)
  ·refine g9 42 ?_
   refine congrArg Value.bool ?_
   exact (decide_eq_false fun h => by have := h k om9; omega).symm
  refine g9 5 ?_
  refine (h_l.mono hG58).a1 (i := k) om9 (fun he62 => (g9 11 ?_))
  refine W.sd 26 (fun h24 p24 => ?_) (fun h24 p24 => ?_)
  ·refine g9 33 ?_
   refine congrArg Value.bool ?_
   exact (decide_eq_false fun h => by have := h k om9; omega).symm
  refine g9 6 ?_
  refine W.sd 29 (fun h28 p28 => ?_) (fun h28 p28 => ?_)
  ·refine g9 7 ?_
   refine (h_l.mono hG58).a1 (i := k - 1) om9 (fun he65 => (W.ok (ok_indexAddr (i := k - 1) sl41 ty101 (h_l.mono hG58) rfl rfl ⟨om9, om9⟩) (g9 9 ?_)))
   refine (h_l.mono hG58).a1 (i := k) om9 (fun he68 => (g9 6 ?_))
   refine W.qcall (less_fc _ _) rfl (g9 7 ?_)
   refine WC.cond rfl (fun h42 => ?_) (fun h42 => ?_)
   ·refine g9 12 ?_
    refine congrArg Value.bool ?_
    exact (decide_eq_false fun h => by have := h k om9; have h1 := this.2 om9; simp [h1] at h42).symm
   refine g9 9 ?_
   exact ⟨Le.rfl, k + 1, hs9, ⟨rfl, fun i h hi => by
      by_cases e : i = k
      · subst e; exact ⟨⟨om9, om9⟩, fun h0 => by simpa using h42⟩
      · exact hk i h om9⟩, om9⟩
  refine g9 28 ?_
  exact ⟨Le.rfl, k + 1, hs9, ⟨rfl, fun i h hi => by
      by_cases e : i = k
      · subst e; exact ⟨⟨om9, om9⟩, fun h0 => by omega⟩
      · exact hk i h om9⟩, om9⟩
 refine g9 12 ?_
 refine congrArg Value.bool ?_
 exact (decide_eq_true fun i h => hk i h om9).symm

theorem clonep_fc {G : GH} {v_a : Value} {a : List Pair} (h_a : SlR ePair G v_a a) :
    Fc Tryz.prog 107 [v_a] G [] (fun v G' M' => M' = [] ∧ ∃ u0, v = u0 ∧ SlR ePair G' u0 (a)) := by
 obtain ⟨sa_a, sc_a, rfl⟩ := h_a.form
 have ha := h_a.bytes
 refine Fc.go [.tmp 2] Tryz.func107 Tryz.ntmps107 rfl (fun w0 => (g9 9 ?_))
 refine W.ok (ok_eqlNil sl41 rfl rfl) (g9 2 ?_)
 refine WC.cond rfl (fun h4 => ?_) (fun h4 => ?_)
 ·have hn := SlR.isNone h_a h4
  subst hn
  refine g9 8 ?_
  refine ⟨rfl, _, rfl, ?_⟩
  · exact SlR.nil
 refine g9 4 ?_
 refine W.lit0 (e := ePair) sl41 ty101 zr101 rfl (fun v71 Ms72 ho73 => (W.mv (W.app (e := ePair) sl41 ty101 zr101 rfl by101 rfl rfl (ho73) (h_a) pr9 (by simpa using ha) (fun v74 Ms75 ho76 => (g9 3 ?_)))))
 refine WC.giveO ho76 pr9 (fun G77 hG77 hv77 => (g9 2 ?_))
 refine ⟨rfl, _, rfl, ?_⟩
 · exact hv77

theorem clonem_fc {G : GH} {v_a : Value} {a : List Msg} (h_a : SlR eMsg G v_a a) :
    Fc Tryz.prog 106 [v_a] G [] (fun v G' M' => M' = [] ∧ ∃ u0, v = u0 ∧ SlR eMsg G' u0 (a)) := by
 obtain ⟨sa_a, sc_a, rfl⟩ := h_a.form
 have ha := h_a.bytes
 refine Fc.go [.tmp 2] Tryz.func106 Tryz.ntmps106 rfl (fun w0 => (g9 9 ?_))
 refine W.ok (ok_eqlNil sl40 rfl rfl) (g9 2 ?_)
 refine WC.cond rfl (fun h4 => ?_) (fun h4 => ?_)
 ·have hn := SlR.isNone h_a h4
  subst hn
  refine g9 8 ?_
  refine ⟨rfl, _, rfl, ?_⟩
  · exact SlR.nil
 refine g9 4 ?_
 refine W.lit0 (e := eMsg) sl40 ty118 zr118 rfl (fun v78 Ms79 ho80 => (W.mv (W.app (e := eMsg) sl40 ty118 zr118 rfl by118 rfl rfl (ho80) (h_a) pr9 (by simpa using ha) (fun v81 Ms82 ho83 => (g9 3 ?_)))))
 refine WC.giveO ho83 pr9 (fun G84 hG84 hv84 => (g9 2 ?_))
 refine ⟨rfl, _, rfl, ?_⟩
 · exact hv84

theorem ethen_fc {G : GH} (ak : Int) (av : Str) (bk : Int) (bv : Str) (ha : av.b.size ≤ 1048576) (hb : bv.b.size ≤ 1048576) :
    Fc Tryz.prog 148 [.agg #[iV ak, sV av.b], .agg #[iV bk, sV bv.b]] G [] (fun v _ _ => v = .agg (List.toArray ((Eff.then (⟨ak, av⟩ : Eff) (⟨bk, bv⟩ : Eff)).cells))) := by
 refine Fc.go [.cell 4 189] Tryz.func148 Tryz.ntmps148 rfl (fun w0 => (g9 2 ?_))
 refine W.box (L := [iV _, sV _]) rfl rfl (fun b1 => (W.box (L := [iV _, sV _]) rfl rfl (fun b2 => (W.alloc zr189 (fun b3 => (g9 12 ?_))))))
 refine WC.cd (fun h10 p10 => ?_) (fun h10 p10 => ?_)
 ·refine g9 10 ?_
  refine congrArg (fun l => Value.agg (List.toArray l)) ?_
  show [Value.int _ _, Value.string _] = _
  first | (simp_all [Eff.then, Eff.cells, Eff.apply, optS, Str.nil]; done) | (simp_all [Eff.then, Eff.cells, Eff.apply, optS, Str.nil]; split <;> simp)
 refine g9 6 ?_
 refine W.sm 16 (fun h15 p15 => ?_) (fun h15 p15 => ?_)
 ·refine g9 18 ?_
  refine congrArg (fun l => Value.agg (List.toArray l)) ?_
  show [Value.int _ _, Value.string _] = _
  first | (simp_all [Eff.then, Eff.cells, Eff.apply, optS, Str.nil]; done) | (simp_all [Eff.then, Eff.cells, Eff.apply, optS, Str.nil]; split <;> simp)
 refine g9 10 ?_
 refine WC.cd (fun h19 p19 => ?_) (fun h19 p19 => ?_)
 ·refine g9 10 ?_
  refine congrArg (fun l => Value.agg (List.toArray l)) ?_
  show [Value.int _ _, Value.string _] = _
  first | (simp_all [Eff.then, Eff.cells, Eff.apply, optS, Str.nil]; done) | (simp_all [Eff.then, Eff.cells, Eff.apply, optS, Str.nil]; split <;> simp)
 refine g9 11 ?_
 refine W.qcall (eapply_fc _ _ _ _ (by first | assumption | omega | (dsimp only; omega) | (simp; omega)) (by first | assumption | omega | (dsimp only; omega) | (simp; omega))) rfl (g9 20 ?_)
 refine WC.cd (fun h37 p37 => ?_) (fun h37 p37 => ?_)
 ·refine g9 3 ?_
  refine W.ok (ok_build (L := [iV _, sV _]) pl189 zr189 rfl rfl rfl) (g9 6 ?_)
  refine congrArg (fun l => Value.agg (List.toArray l)) ?_
  show [Value.int _ _, Value.string _] = _
  first | (simp_all [Eff.then, Eff.cells, Eff.apply, optS, Str.nil]; done) | (simp_all [Eff.then, Eff.cells, Eff.apply, optS, Str.nil]; split <;> simp)
 refine g9 3 ?_
 refine W.ok (ok_build (L := [iV _, sV _]) pl189 zr189 rfl rfl rfl) (g9 6 ?_)
 refine congrArg (fun l => Value.agg (List.toArray l)) ?_
 show [Value.int _ _, Value.string _] = _
 first | (simp_all [Eff.then, Eff.cells, Eff.apply, optS, Str.nil]; done) | (simp_all [Eff.then, Eff.cells, Eff.apply, optS, Str.nil]; split <;> simp)

theorem bufon_fc {G : GH} {v_l : Value} {l : List Msg} (h_l : SlR eMsg G v_l l) (key : Str) (hm : ∀ m ∈ l, m.key.b.size < 140737488355328 ∧ m.val.b.size ≤ 16) :
    Fc Tryz.prog 138 [v_l, sV key.b] G [] (fun v _ _ => v = .agg (List.toArray ((onsN l key).cells))) := by
 obtain ⟨sa_l, sc_l, rfl⟩ := h_l.form
 have hl := h_l.len47
 refine Fc.go [.cell 4 189] Tryz.func138 Tryz.ntmps138 rfl (fun w0 => (g9 2 ?_))
 refine W.alloc zr189 (fun b4 => (g9 11 ?_))
 refine WC.loop (X := Nat) (fun k => [(9, nt9 k), (4, pt9 b4), (1, sV key.b), (7, lV sa_l l.length sc_l), (8, nt9 ((l).length))]) (fun k _ Ml => Ml = [(b4, ce9 189 [iV (onsN (l.take k) key).kind, sV (onsN (l.take k) key).val.b])] ∧ k ≤ l.length) (fun k => l.length - k) 0 hs9 ?_ ?_
 ·exact ⟨rfl, om9⟩
 rintro k gG5 G5 _ hG5 ⟨rfl, hk⟩
 have hon := onsN_val (l.take k) key (fun m hm2 => (hm m (List.mem_of_mem_take hm2)).2)
 refine g9 6 ?_
 refine WC.cd (fun h10 p10 => ?_) (fun h10 p10 => ?_)
 ·refine g9 6 ?_
  refine (h_l.mono hG5).a2 (i := k) om9 (fun he6 hm7 => (g9 2 ?_))
  refine W.alloc zr118 (fun b11 => (g9 3 ?_))
  refine WC.dw ((sr9.cons _).k9) (d9 [1, 2] ?_)
  refine WD.any [0, 3] (by kernel_rfl) rfl ⟨WD.ap ?_, WD.ap ?_, trivial⟩
  ·refine g9 1 ?_
   refine W.nn (WD.a1 3 rfl (W.qcall (mon_fc _ _ _ _ _ _ _ (hm _ (List.getElem_mem _)).1) rfl (W.nn (WD.a1 4 rfl (W.qcall (ethen_fc (onsN (l.take k) key).kind (onsN (l.take k) key).val (Msg.on l[k] key).kind (Msg.on l[k] key).val om9 (by have := on_val key (hm _ (List.getElem_mem (by omega : k < l.length))).2; omega)) rfl (W.nn (d9 [5] ?_)))))))
   refine WD.done (by kernel_rfl) (blk_n (thn_n (g9 3 ?_)))
   refine W.sub (sr9.cons _) (g9 2 ?_)
   exact ⟨Le.rfl, k + 1, hs9, ⟨(by rw [onsN_succ _ om9]; rfl), om9⟩, om9⟩
  refine W.qcall (mon_fc _ _ _ _ _ _ _ (hm _ (List.getElem_mem _)).1) rfl (W.nn (WD.a1 0 rfl (g9 1 ?_)))
  refine W.nn (WD.a1 4 rfl (W.qcall (ethen_fc (onsN (l.take k) key).kind (onsN (l.take k) key).val (Msg.on l[k] key).kind (Msg.on l[k] key).val om9 (by have := on_val key (hm _ (List.getElem_mem (by omega : k < l.length))).2; omega)) rfl (W.nn (d9 [5] ?_))))
  refine WD.done (by kernel_rfl) (blk_n (thn_n (g9 3 ?_)))
  refine W.sub (sr9.cons _) (g9 2 ?_)
  exact ⟨Le.rfl, k + 1, hs9, ⟨(by rw [onsN_succ _ om9]; rfl), om9⟩, om9⟩
 refine g9 13 ?_
 refine congrArg (fun l => Value.agg (List.toArray l)) ?_
 show [Value.int _ _, Value.string _] = _
 rw [List.take_of_length_le om9]; rfl

theorem rget_fc {G : GH} {v_l : Value} {l : List Pair} (h_l : SlR ePair G v_l l) (k : Str) :
    Fc Tryz.prog 16 [v_l, sV k.b] G [] (fun v _ _ => v = .tuple #[sV (Str.b ((getN l k).getD Str.nil)), .bool ((getN l k).isSome)]) := by
 obtain ⟨sa_l, sc_l, rfl⟩ := h_l.form
 have hl := h_l.len47
 refine Fc.go [.tmp 4, .tmp 5] Tryz.func16 Tryz.ntmps16 rfl (fun w0 => (g9 13 ?_))
 refine WC.loop (X := Nat) (fun i => [(6, nt9 i), (0, lV sa_l l.length sc_l), (1, sV k.b)]) (fun i _ Ml => Ml = [] ∧ i ≤ l.length ∧ ∀ j (h : j < l.length), j < i → l[j].key ≠ k) (fun i => l.length - i) 0 hs9 ?_ ?_
 ·exact ⟨rfl, om9, fun j _ h => by omega⟩
 rintro i gG12 G12 _ hG12 ⟨rfl, hi, hj⟩
 refine g9 9 ?_
 refine WC.cd (fun h10 p10 => ?_) (fun h10 p10 => ?_)
 ·refine g9 8 ?_
  refine (h_l.mono hG12).a1 (i := i) om9 (fun he13 => (g9 7 ?_))
  refine WC.cd (fun h19 p19 => ?_) (fun h19 p19 => ?_)
  ·refine g9 4 ?_
   refine (h_l.mono hG12).a1 (i := i) om9 (fun he16 => (g9 14 ?_))
   show Value.tuple #[Value.string _, Value.bool _] = _
   have e1 : l[i].key = k := Str.ext' p19
   have e := getN_at (by omega : i < l.length) (fun j h hji => by rw [e1]; exact hj j h hji)
   rw [e1] at e
   rw [e]; rfl
  refine g9 9 ?_
  exact ⟨Le.rfl, i + 1, hs9, ⟨rfl, om9, fun j h hji e => by
      by_cases e2 : j = i
      · subst e2; exact p19 (congrArg Str.b e)
      · exact hj j h om9 e⟩, om9⟩
 refine g9 13 ?_
 show Value.tuple #[Value.string _, Value.bool _] = _
 rw [getN_no (fun j h => hj j h om9)]; rfl

theorem cmp_fc {G : GH} (a : Str) (b : Str) :
    Fc Tryz.prog 160 [sV a.b, sV b.b] G [] (fun v _ _ => v = iV (cmpN a b)) := by
 refine Fc.go [.tmp 4] Tryz.func160 Tryz.ntmps160 rfl (fun w0 => (g9 8 ?_))
 refine W.qcall (isnan_fc _) rfl (g9 6 ?_)
 refine W.qcall (isnan_fc _) rfl (g9 9 ?_)
 refine WC.cond rfl (fun h8 => ?_) (fun h8 => ?_)
 ·cases h8
 refine g9 8 ?_
 refine WC.cond rfl (fun h10 => ?_) (fun h10 => ?_)
 ·cases h10
 refine g9 10 ?_
 refine WC.cond rfl (fun h16 => ?_) (fun h16 => ?_)
 ·refine g9 8 ?_
  refine congrArg (Value.int .i64) ?_
  simp_all [cmpN, Str.lt]
 refine g9 7 ?_
 refine W.ok (ok_gtrS rfl rfl) (g9 2 ?_)
 refine WC.cond rfl (fun h19 => ?_) (fun h19 => ?_)
 ·refine g9 8 ?_
  refine congrArg (Value.int .i64) ?_
  simp_all [cmpN, Str.lt]
 refine g9 9 ?_
 refine congrArg (Value.int .i64) ?_
 simp_all [cmpN, Str.lt]

theorem kcmp_fc {G : GH} (a : Str) (b : Str) :
    Fc Tryz.prog 157 [sV a.b, sV b.b] G [] (fun v _ _ => v = iV (cmpN a b)) := by
 refine Fc.go [.tmp 4] Tryz.func157 Tryz.ntmps157 rfl (fun w0 => (g9 9 ?_))
 refine W.qcall (cmp_fc _ _) rfl (g9 5 ?_)
 rfl

theorem cl_m_fc {G : GH} (pk : Str) (pv : Str) (k : Str) :
    Fc Tryz.prog 156 [.agg #[sV pk.b, sV pv.b], sV k.b] G [] (fun v _ _ => v = iV (cmpN pk k)) := by
 refine Fc.go [.tmp 4] Tryz.func156 Tryz.ntmps156 rfl (fun w0 => (g9 2 ?_))
 refine W.box (L := [sV _, sV _]) rfl rfl (fun b19 => (g9 8 ?_))
 refine W.qcall (kcmp_fc _ _) rfl (g9 5 ?_)
 rfl

theorem bsfm_fc {G : GH} {v_l : Value} {l : List Pair} (h_l : SlR ePair G v_l l) (k : Str) (hr : Srt l) :
    Fc Tryz.prog 155 [v_l, sV k.b, .func (.func 156) #[] #[]] G [] (fun v _ _ => v = .tuple #[nt9 (fndN l k), .bool ((getN l k).isSome)]) := by
 obtain ⟨sa_l, sc_l, rfl⟩ := h_l.form
 have hlen := h_l.len47
 refine Fc.go [.tmp 6, .tmp 7] Tryz.func155 Tryz.ntmps155 rfl (fun w0 => (g9 22 ?_))
 refine WC.loop (X := Nat × Nat) (fun x => [(9, nt9 x.1), (10, nt9 x.2), (0, lV sa_l l.length sc_l), (1, sV k.b), (2, .func (.func 156) #[] #[]), (8, nt9 ((l).length))]) (fun x _ Ml => Ml = [] ∧ x.1 ≤ x.2 ∧ x.2 ≤ l.length ∧ (∀ q (h : q < l.length), q < x.1 → l[q].key.lt k = true) ∧ (∀ q (h : q < l.length), x.2 ≤ q → l[q].key.lt k = false)) (fun x => x.2 - x.1) (0, l.length) hs9 ?_ ?_
 ·exact ⟨rfl, by simp, by simp, (fun q _ h => by simp at h), (fun q h h' => by simp at h'; omega)⟩
 rintro ⟨i, j⟩ gG20 G20 _ hG20 ⟨rfl, hi, hj, h1, h2⟩
 dsimp only at hi hj h1 h2
 refine g9 8 ?_
 refine WC.cd (fun h17 p17 => ?_) (fun h17 p17 => ?_)
 ·refine g9 8 ?_
  refine W.ok (ok_convU un3 un31 rfl om9) (W.ok (ok_shr1 rfl rfl om9) (W.ok (ok_convI un31 un3 rfl om9) (g9 8 ?_)))
  refine (h_l.mono hG20).a1 (i := (i + j) / 2) om9 (fun he21 => (W.ok (ok_indexAddr (i := (i + j) / 2) sl41 ty101 (h_l.mono hG20) rfl rfl ⟨by dsimp only; omega, om9⟩) (g9 2 ?_)))
  refine W.qcallV (fst := []) (caps := []) rfl (cl_m_fc _ _ _) rfl (g9 3 ?_)
  refine WC.cd (fun h31 p31 => ?_) (fun h31 p31 => ?_)
  ·refine g9 7 ?_
   exact ⟨Le.rfl, ((i + j) / 2 + 1, j), hs9, ⟨rfl, by dsimp only; omega, by dsimp only; omega, (fun q h hq => hr.below om9 (cmpN_neg.1 p31) q h (by dsimp only at hq; omega)), h2⟩, by dsimp only; omega⟩
  refine g9 6 ?_
  exact ⟨Le.rfl, (i, (i + j) / 2), hs9, ⟨rfl, by dsimp only; omega, by dsimp only; omega, h1, (fun q h hq => hr.above om9 (cmpN_nn p31) q h (by dsimp only at hq; omega))⟩, by dsimp only; omega⟩
 refine g9 12 ?_
 refine W.sd 39 (fun h38 p38 => ?_) (fun h38 p38 => ?_)
 ·refine g9 7 ?_
  refine (h_l.mono hG20).a1 (i := i) om9 (fun he24 => (g9 6 ?_))
  refine W.qcallV (fst := []) (caps := []) rfl (cl_m_fc _ _ _) rfl (g9 9 ?_)
  have hlow : fndN l k = i := fnd_eq om9 h1 (fun q h hq => h2 q h om9)
  refine tup2 (by rw [hlow]) ?_
  rw [hr.has]
  rw [cmpN_zero_d]
  exact decide_eq_decide.2 ⟨fun e => ⟨om9, by simp only [hlow]; exact e⟩, fun ⟨_, e⟩ => by simp only [hlow] at e; exact e⟩
 refine g9 15 ?_
 have hlow : fndN l k = i := fnd_eq om9 h1 (fun q h hq => h2 q h om9)
 refine tup2 (by rw [hlow]) ?_
 rw [hr.has]
 exact (decide_eq_false (by rintro ⟨h, _⟩; omega)).symm

theorem find_fc {G : GH} {v_l : Value} {l : List Pair} (h_l : SlR ePair G v_l l) (k : Str) (hr : Srt l) :
    Fc Tryz.prog 146 [v_l, sV k.b] G [] (fun v _ _ => v = .tuple #[nt9 (fndN l k), .bool ((getN l k).isSome)]) := by
 obtain ⟨sa_l, sc_l, rfl⟩ := h_l.form
 refine Fc.go [.tmp 4, .tmp 5] Tryz.func146 Tryz.ntmps146 rfl (fun w0 => (g9 10 ?_))
 refine W.qcall (bsfm_fc h_l k hr) rfl (g9 8 ?_)
 rfl

theorem mget_fc {G : GH} {v_l : Value} {l : List Pair} (h_l : SlR ePair G v_l l) (k : Str) (hr : Srt l) :
    Fc Tryz.prog 136 [v_l, sV k.b] G [] (fun v _ _ => v = .tuple #[sV (Str.b ((getN l k).getD Str.nil)), .bool ((getN l k).isSome)]) := by
 obtain ⟨sa_l, sc_l, rfl⟩ := h_l.form
 have hlen := h_l.len47
 have hh := hr.has k
 refine Fc.go [.tmp 4, .tmp 5] Tryz.func136 Tryz.ntmps136 rfl (fun w0 => (g9 10 ?_))
 refine W.qcall (find_fc h_l _ (by assumption)) rfl (g9 14 ?_)
 refine WC.cond rfl (fun h15 => ?_) (fun h15 => ?_)
 ·refine g9 9 ?_
  show Value.tuple #[Value.string _, Value.bool _] = _
  have e : getN l k = none := by simpa using h15
  rw [e]; rfl
 have hs : (getN l k).isSome = true := by simpa using h15
 obtain ⟨q1, q2⟩ := odt (hh.symm.trans hs)
 have hv := hr.val q1 q2
 refine g9 6 ?_
 refine h_l.a1 (i := fndN l k) (q1) (fun he27 => (W.ok (ok_indexAddr (i := fndN l k) sl41 ty101 h_l rfl rfl ⟨om9, q1⟩) (g9 8 ?_)))
 show Value.tuple #[Value.string _, Value.bool _] = _
 rw [hv]; rfl

theorem rscan_fc {G : GH} {v_l : Value} {l : List Pair} (h_l : SlR ePair G v_l l) (slo : Str) (shi : Str) (so : Bool) (n : Int) (hn : l.length ≤ 100000000) :
    Fc Tryz.prog 74 [v_l, .agg #[sV slo.b, sV shi.b, .bool so], iV n] G [] (fun v G' M' => M' = [] ∧ ∃ u0, v = u0 ∧ SlR ePair G' u0 (scanN l ⟨slo, shi, so⟩ n)) := by
 obtain ⟨sa_l, sc_l, rfl⟩ := h_l.form
 have hl := h_l.len47
 refine Fc.go [.tmp 6] Tryz.func74 Tryz.ntmps74 rfl (fun w0 => (g9 2 ?_))
 refine W.box (L := [sV _, sV _, .bool _]) rfl rfl (fun b1 => (g9 15 ?_))
 refine WC.loop (X := (Nat) × Value × MH) (fun i => [(8, nt9 i.1), (4, pt9 b1), (0, lV sa_l l.length sc_l), (2, iV n), (7, i.2.1)]) (fun i G Ml => Ml = ((b1, ce9 45 [sV slo.b, sV shi.b, .bool so]) :: (i.2.2 ++ [])) ∧ OwnR ePair 101 G i.2.1 (scanN (l.take i.1) ⟨slo, shi, so⟩ n) i.2.2 ∧ i.1 ≤ l.length) (fun i => l.length - i.1) (0, lV none 0 0, ([] : MH)) hs9 ?_ ?_
 ·exact ⟨rfl, (by simpa [scanN] using OwnR.nil), om9⟩
 rintro ⟨i, v_7, M_7⟩ gG2 G2 _ hG2 ⟨rfl, ho_7, hi⟩
 try dsimp only at ho_7 hi
 have hsl := scan_len (l := l.take i) (s := ⟨slo, shi, so⟩) (n := n)
 have htl : (l.take i).length ≤ i := by simp; omega
 refine WC.fr (f := setL gG2 [(8, nt9 i), (4, pt9 b1), (0, lV sa_l l.length sc_l), (2, iV n), (7, v_7)]) rfl (g9 9 ?_)
 refine WC.cd (fun h12 p12 => ?_) (fun h12 p12 => ?_)
 ·refine g9 9 ?_
  refine (h_l.mono hG2).a1 (i := i) om9 (fun he3 => (g9 3 ?_))
  refine W.qcall (has_fc _ _ _ _) rfl (W.mv ?_)
  refine W.sp 22 rfl (fun h21 => ?_) (fun h21 => ?_)
  ·refine g9 11 ?_
   refine WC.cd (fun h26 p26 => ?_) (fun h26 p26 => ?_)
   ·refine g9 4 ?_
    refine (h_l.mono hG2).a1 (i := i) om9 (fun he6 => (g9 2 ?_))
    refine W.lit (e := ePair) (l := [((l)[i])]) (css := [[sV _, sV _]]) sl41 ty101 zr101 rfl rfl rfl rfl rfl rfl ⟨rfl, trivial⟩ (fun bl9 G9 hG9 hv9 => (W.app (e := ePair) sl41 ty101 zr101 rfl by101 rfl rfl ((ho_7.mono hG9)) (hv9) (pmC pr9) (by show (_ + 1) * 32 ≤ _; (try simp only [List.length_append] at *); omega) (fun v10 Ms11 ho12 => (W.perm (pmC pr9).symm (g9 10 ?_)))))
    exact ⟨hG9, (i + 1, v10, Ms11), hs9, ⟨rfl, (by have h := ho12; rw [scan_succ_t om9 om9 (by simpa using h21)]; exact h), om9⟩, om9⟩
   refine g9 9 ?_
   exact ⟨Le.rfl, (i + 1, v_7, M_7), hs9, ⟨rfl, (by have h := ho_7; rw [scan_full' om9 om9]; exact h), om9⟩, om9⟩
  refine g9 17 ?_
  exact ⟨Le.rfl, (i + 1, v_7, M_7), hs9, ⟨rfl, (by have h := ho_7; rw [scan_succ_f om9 (by simpa using h21)]; exact h), om9⟩, om9⟩
 refine g9 11 ?_
 refine WC.giveO ho_7 (pmC pr9) (fun G13 hG13 hv13 => (g9 2 ?_))
 refine ⟨rfl, _, rfl, ?_⟩
 · have h := hv13; rw [List.take_of_length_le om9] at h; exact h

theorem isnani_fc {G : GH} (a : Int) :
    Fc Tryz.prog 115 [.int .i64 a] G [] (fun v _ _ => v = .bool (false)) := by
 refine Fc.intro (rs := [.tmp 2]) cl115 Tryz.func115 rfl Tryz.ntmps115 rfl rfl (fun w0 => ?_)
 refine WC.seq ?_
 refine WC.region ?_
 refine W.as ?_
 refine W.nil (thn_n ?_)
 refine WC.seq ?_
 refine WC.region ?_
 refine W.mv ?_
 refine W.mv ?_
 refine W.ok (ok_neq rfl rfl) ?_
 refine W.as ?_
 refine W.nil (thn_n ?_)
 refine WC.ret ?_
 refine ⟨.inr rfl, [_], ⟨rfl, trivial⟩, [], List.nil_sublist _, ?_⟩
 refine congrArg Value.bool ?_
 simp

theorem sisnani_fc {G : GH} (a : Int) :
    Fc Tryz.prog 91 [.int .i64 a] G [] (fun v _ _ => v = .bool (false)) := by
 refine Fc.intro (rs := [.tmp 2]) cl91 Tryz.func91 rfl Tryz.ntmps91 rfl rfl (fun w0 => ?_)
 refine WC.seq ?_
 refine WC.region ?_
 refine W.as ?_
 refine W.nil (thn_n ?_)
 refine WC.seq ?_
 refine WC.region ?_
 refine W.mv ?_
 refine W.mv ?_
 refine W.ok (ok_neq rfl rfl) ?_
 refine W.as ?_
 refine W.nil (thn_n ?_)
 refine WC.ret ?_
 refine ⟨.inr rfl, [_], ⟨rfl, trivial⟩, [], List.nil_sublist _, ?_⟩
 refine congrArg Value.bool ?_
 simp

theorem cmplessi_fc {G : GH} (a : Int) (b : Int) :
    Fc Tryz.prog 90 [.int .i64 a, .int .i64 b] G [] (fun v _ _ => v = .bool (decide (a < b))) := by
 refine Fc.intro (rs := [.tmp 4]) cl90 Tryz.func90 rfl Tryz.ntmps90 rfl rfl (fun w0 => ?_)
 refine WC.seq ?_
 refine WC.region ?_
 refine W.as ?_
 refine W.nil (thn_n ?_)
 refine WC.seq ?_
 refine WC.region ?_
 refine W.mv ?_
 refine W.qcall (isnani_fc _) rfl ?_
 refine W.mv ?_
 refine W.no (dj := 7) rfl rfl rfl ?_
 refine W.no (dj := 7) rfl rfl rfl ?_
 refine W.no (dj := 7) rfl rfl rfl ?_
 refine W.ok (ok_pick_f rfl rfl) ?_
 refine W.mv ?_
 refine W.yes (dj := 12) rfl rfl rfl ?_
 refine W.mv ?_
 refine W.yes (dj := 12) rfl rfl rfl ?_
 refine W.mv ?_
 refine W.yes (dj := 12) rfl rfl rfl ?_
 refine W.ok (ok_lss rfl rfl) ?_
 refine W.ok (ok_pick_f rfl rfl) ?_
 refine W.as ?_
 refine W.nil (thn_n ?_)
 refine WC.ret ?_
 refine ⟨.inr rfl, [_], ⟨rfl, trivial⟩, [], List.nil_sublist _, ?_⟩
 refine congrArg Value.bool ?_
 rfl

theorem bsearchi_fc {G : GH} {v_l : Value} {l : List Int} (h_l : SlR eInt G v_l l) (k : Int) (hs : SrtI l) :
    Fc Tryz.prog 64 [v_l, .int .i64 k] G [] (fun v _ _ => v = .tuple #[.int .i64 (((lowI l k : Nat) : Int)), .bool (decide (k ∈ l))]) := by
 obtain ⟨sa_l, sc_l, rfl⟩ := h_l.form
 have hlen := h_l.len47
 refine Fc.intro (rs := [.tmp 4, .tmp 5]) cl64 Tryz.func64 rfl Tryz.ntmps64 rfl rfl (fun w0 => ?_)
 refine WC.seq ?_
 refine WC.region ?_
 refine W.as ?_
 refine W.as ?_
 refine W.nil (thn_n ?_)
 refine WC.seq ?_
 refine WC.region ?_
 refine W.mv ?_
 refine W.ok (ok_len sl39 h_l rfl) ?_
 refine W.as ?_
 refine W.nil (thn_n ?_)
 refine WC.seq ?_
 refine WC.region ?_
 refine W.mv ?_
 refine W.as ?_
 refine W.as ?_
 refine W.nil (thn_n ?_)
 refine WC.seq ?_
 refine WC.block ?_
 refine WC.loop (X := Nat × Nat) (fun x => [(6, .int .i64 ((l.length : Nat) : Int)), (7, .int .i64 ((x.1 : Nat) : Int)), (8, .int .i64 ((x.2 : Nat) : Int)), (0, .slice sa_l l.length sc_l), (1, .int .i64 k)]) (fun x _ Ml => Ml = [] ∧ x.1 ≤ x.2 ∧ x.2 ≤ l.length ∧ (∀ q (h : q < l.length), q < x.1 → l[q] < k) ∧ (∀ q (h : q < l.length), x.2 ≤ q → ¬ l[q] < k)) (fun x => x.2 - x.1) (0, l.length) ⟨eqv, eqv, eqv, eqv, eqv, trivial⟩ ?_ ?_
 ·exact ⟨rfl, by simp, by simp, (fun q _ h => by simp at h), (fun q h h' => by simp at h'; omega)⟩
 ·rintro ⟨i, j⟩ gG1 G1 _ hG1 ⟨rfl, hi, hj, h1, h2⟩
  dsimp only at hi hj h1 h2
  refine WC.seq ?_
  refine WC.seq ?_
  refine WC.region ?_
  refine W.mv ?_
  refine W.mv ?_
  refine W.ok (ok_lss rfl rfl) ?_
  refine W.nil (thn_n ?_)
  refine WC.cond (b := _) rfl (fun h15 => ?_) (fun h15 => ?_)
  ·have p15 := of_decide_eq_true h15
   refine WC.skip (thn_n ?_)
   refine WC.block ?_
   refine WC.seq ?_
   refine WC.region ?_
   refine W.mv ?_
   refine W.mv ?_
   refine W.ok (ok_add rfl rfl (by omega)) ?_
   refine W.ok (ok_convU un3 un31 rfl (by omega)) ?_
   refine W.ok (ok_shr1 rfl rfl (by omega)) ?_
   refine W.ok (ok_convI un31 un3 rfl (by omega)) ?_
   refine W.as ?_
   refine W.nil (thn_n ?_)
   refine WC.seq ?_
   refine WC.region ?_
   refine W.mv ?_
   refine W.mv ?_
   have q5 := (h_l.mono hG1).at (i := (i + j) / 2) (by omega)
   refine match q5 with | ⟨_, he2, ⟨e_4, hi3⟩⟩ => ?_
   subst e_4
   refine W.ok (ok_indexAddr (i := (i + j) / 2) sl39 ty3 (h_l.mono hG1) rfl rfl ⟨by dsimp only; omega, by omega⟩) ?_
   refine W.ok (ok_loadE (vs := [.int .i64 _]) ty3 he2 rfl rfl rfl (by simp)) ?_
   refine W.mv ?_
   refine W.qcall (cmplessi_fc _ _) rfl ?_
   refine W.nil (thn_n ?_)
   refine WC.cond (b := _) rfl (fun h27 => ?_) (fun h27 => ?_)
   ·refine WC.region ?_
    refine W.mv ?_
    refine W.ok (ok_add rfl rfl (by omega)) ?_
    refine W.as ?_
    refine W.nil (blk_n (thn_n ?_))
    exact ⟨Le.rfl, ((i + j) / 2 + 1, j), ⟨eqv, eqv, eqv, eqv, eqv, trivial⟩, ⟨rfl, by dsimp only; omega, by dsimp only; omega, (fun q h hq => srt_below hs (by omega) (of_decide_eq_true h27) q h (by dsimp only at hq; omega)), h2⟩, by dsimp only; omega⟩
   ·refine WC.region ?_
    refine W.mv ?_
    refine W.as ?_
    refine W.nil (blk_n (thn_n ?_))
    exact ⟨Le.rfl, (i, (i + j) / 2), ⟨eqv, eqv, eqv, eqv, eqv, trivial⟩, ⟨rfl, by dsimp only; omega, by dsimp only; omega, h1, (fun q h hq => srt_above hs (by omega) (of_decide_eq_false h27) q h (by dsimp only at hq; omega))⟩, by dsimp only; omega⟩
  ·have p15 := of_decide_eq_false h15
   refine WC.exit (thn_x (thn_x (blk_h (thn_n ?_))))
   refine WC.seq ?_
   refine WC.region ?_
   refine W.mv ?_
   refine W.mv ?_
   refine W.mv ?_
   refine W.ok (ok_lss rfl rfl) ?_
   refine W.mv ?_
   refine W.sp 35 rfl (fun h34 => ?_) (fun h34 => ?_)
   ·have p34 := of_decide_eq_true h34
    refine W.yes (dj := 35) rfl rfl h34 ?_
    refine W.mv ?_
    refine W.yes (dj := 35) rfl rfl h34 ?_
    refine W.mv ?_
    refine W.yes (dj := 35) rfl rfl h34 ?_
    have q9 := (h_l.mono hG1).at (i := i) (by omega)
    refine match q9 with | ⟨_, he6, ⟨e_8, hi7⟩⟩ => ?_
    subst e_8
    refine W.ok (ok_indexAddr (i := i) sl39 ty3 (h_l.mono hG1) rfl rfl ⟨by dsimp only, by omega⟩) ?_
    refine W.yes (dj := 35) rfl rfl h34 ?_
    refine W.ok (ok_loadE (vs := [.int .i64 _]) ty3 he6 rfl rfl rfl (by simp)) ?_
    refine W.yes (dj := 35) rfl rfl h34 ?_
    refine W.mv ?_
    refine W.yes (dj := 35) rfl rfl h34 ?_
    refine W.ok (ok_eql rfl rfl) ?_
    refine W.yes (dj := 35) rfl rfl h34 ?_
    refine W.mv ?_
    refine W.sp 42 rfl (fun h41 => ?_) (fun h41 => ?_)
    ·have p41 := of_decide_eq_true h41
     refine W.no (dj := 42) rfl rfl h41 ?_
     refine W.no (dj := 42) rfl rfl h41 ?_
     refine W.no (dj := 42) rfl rfl h41 ?_
     refine W.no (dj := 42) rfl rfl h41 ?_
     refine W.no (dj := 42) rfl rfl h41 ?_
     refine W.no (dj := 42) rfl rfl h41 ?_
     refine W.nou (dj := 48) rfl rfl ?_
     refine W.nou (dj := 48) rfl rfl ?_
     refine W.no (dj := 42) rfl rfl h41 ?_
     refine W.yes (dj := 35) rfl rfl h34 ?_
     refine W.ok (ok_pick_t rfl h41) ?_
     refine W.ok (ok_pick_t rfl h34) ?_
     refine W.as ?_
     refine W.as ?_
     refine W.nil (thn_n ?_)
     refine WC.ret ?_
     refine ⟨.inr rfl, [_, _], ⟨rfl, rfl, trivial⟩, [], List.nil_sublist _, ?_⟩
     have h2b : ∀ q (h : q < l.length), i ≤ q → ¬ l[q] < k := fun q h hq => h2 q h (by omega)
     have hlow : lowI l k = i := lowI_split (by omega) h1 h2b
     have hmm := low_mem (by omega) h1 h2b hs
     refine tup2 (by rw [hlow]) ?_
     exact (decide_eq_true (hmm.2 ⟨by omega, p41⟩)).symm
    ·have p41 := of_decide_eq_false h41
     refine W.yes (dj := 42) rfl rfl h41 ?_
     refine W.mv ?_
     refine W.yes (dj := 42) rfl rfl h41 ?_
     refine W.mv ?_
     refine W.yes (dj := 42) rfl rfl h41 ?_
     have q13 := (h_l.mono hG1).at (i := i) (by omega)
     refine match q13 with | ⟨_, he10, ⟨e_12, hi11⟩⟩ => ?_
     subst e_12
     refine W.ok (ok_indexAddr (i := i) sl39 ty3 (h_l.mono hG1) rfl rfl ⟨by dsimp only, by omega⟩) ?_
     refine W.yes (dj := 42) rfl rfl h41 ?_
     refine W.ok (ok_loadE (vs := [.int .i64 _]) ty3 he10 rfl rfl rfl (by simp)) ?_
     refine W.yes (dj := 42) rfl rfl h41 ?_
     refine W.qcall (sisnani_fc _) rfl ?_
     refine W.yes (dj := 42) rfl rfl h41 ?_
     refine W.mv ?_
     refine W.no (dj := 48) rfl rfl rfl ?_
     refine W.no (dj := 48) rfl rfl rfl ?_
     refine W.yes (dj := 42) rfl rfl h41 ?_
     refine W.ok (ok_pick_f rfl rfl) ?_
     refine W.yes (dj := 35) rfl rfl h34 ?_
     refine W.ok (ok_pick_f rfl h41) ?_
     refine W.ok (ok_pick_t rfl h34) ?_
     refine W.as ?_
     refine W.as ?_
     refine W.nil (thn_n ?_)
     refine WC.ret ?_
     refine ⟨.inr rfl, [_, _], ⟨rfl, rfl, trivial⟩, [], List.nil_sublist _, ?_⟩
     have h2b : ∀ q (h : q < l.length), i ≤ q → ¬ l[q] < k := fun q h hq => h2 q h (by omega)
     have hlow : lowI l k = i := lowI_split (by omega) h1 h2b
     have hmm := low_mem (by omega) h1 h2b hs
     refine tup2 (by rw [hlow]) ?_
     exact (decide_eq_false (fun h => by obtain ⟨_, h9⟩ := hmm.1 h; exact p41 h9)).symm
   ·have p34 := of_decide_eq_false h34
    refine W.no (dj := 35) rfl rfl h34 ?_
    refine W.no (dj := 35) rfl rfl h34 ?_
    refine W.no (dj := 35) rfl rfl h34 ?_
    refine W.no (dj := 35) rfl rfl h34 ?_
    refine W.no (dj := 35) rfl rfl h34 ?_
    refine W.no (dj := 35) rfl rfl h34 ?_
    refine W.no (dj := 35) rfl rfl h34 ?_
    refine W.nou (dj := 42) rfl rfl ?_
    refine W.nou (dj := 42) rfl rfl ?_
    refine W.nou (dj := 42) rfl rfl ?_
    refine W.nou (dj := 42) rfl rfl ?_
    refine W.nou (dj := 42) rfl rfl ?_
    refine W.nou (dj := 42) rfl rfl ?_
    refine W.nou (dj := 48) rfl rfl ?_
    refine W.nou (dj := 48) rfl rfl ?_
    refine W.nou (dj := 42) rfl rfl ?_
    refine W.no (dj := 35) rfl rfl h34 ?_
    refine W.ok (ok_pick_f rfl h34) ?_
    refine W.as ?_
    refine W.as ?_
    refine W.nil (thn_n ?_)
    refine WC.ret ?_
    refine ⟨.inr rfl, [_, _], ⟨rfl, rfl, trivial⟩, [], List.nil_sublist _, ?_⟩
    have h2b : ∀ q (h : q < l.length), i ≤ q → ¬ l[q] < k := fun q h hq => h2 q h (by omega)
    have hlow : lowI l k = i := lowI_split (by omega) h1 h2b
    have hmm := low_mem (by omega) h1 h2b hs
    refine tup2 (by rw [hlow]) ?_
    exact (decide_eq_false fun h => by obtain ⟨h9, _⟩ := hmm.1 h; omega).symm

theorem insi_fc {G : GH} {v_s : Value} {s : List Int} {Ms_s : MH} (h_s : OwnR eInt 3 G v_s s Ms_s) (i : Nat) {v_u : Value} {u : List Int} {Ms_u : MH} (h_u : OwnR eInt 3 G v_u u Ms_u) (hi : i ≤ s.length) (hu : 0 < u.length) (hw : (s.length + u.length) * 8 ≤ 140737488355328) :
    Fc Tryz.prog 92 [v_s, .int .i64 ((i : Nat) : Int), v_u] G (Ms_s ++ Ms_u) (fun v G' M' => OwnR eInt 3 G' v ((s.take i ++ u) ++ s.drop i) M') := by
 have hs := h_s.len47
 have hul := h_u.len47
 have hcs := h_s.cap_le
 refine Fc.intro (rs := [.tmp 6]) cl92 Tryz.func92 rfl Tryz.ntmps92 rfl rfl (fun w0 => ?_)
 refine WC.perm (M' := (Ms_s ++ (Ms_u ++ []))) (by simp) ?_
 refine WC.seq ?_
 refine WC.region ?_
 refine W.as ?_
 refine W.nil (thn_n ?_)
 refine WC.seq ?_
 refine WC.region ?_
 refine W.mv ?_
 refine W.mv ?_
 refine W.ok (ok_sliceO (i) (s.length) sl39 ty3 h_s rfl ⟨_, _, rfl, by omega⟩ rfl ⟨by omega, .inl (by omega)⟩) ?_
 refine W.nil (thn_n ?_)
 refine WC.seq ?_
 refine WC.region ?_
 refine W.mv ?_
 refine W.ok (ok_lenO sl39 h_u rfl) ?_
 refine W.as ?_
 refine W.nil (thn_n ?_)
 refine WC.seq ?_
 refine WC.seq ?_
 refine WC.region ?_
 refine W.mv ?_
 refine W.ok (ok_eql rfl rfl) ?_
 refine W.nil (thn_n ?_)
 refine WC.cond (b := _) rfl (fun h16 => ?_) (fun h16 => ?_)
 ·have p16 := of_decide_eq_true h16
  exact absurd p16 (by omega)
 ·have p16 := of_decide_eq_false h16
  refine WC.skip (thn_n ?_)
  refine WC.seq ?_
  refine WC.region ?_
  refine W.mv ?_
  refine W.ok (ok_lenO sl39 h_s rfl) ?_
  refine W.as ?_
  refine W.nil (thn_n ?_)
  refine WC.seq ?_
  refine WC.seq ?_
  refine WC.region ?_
  refine W.mv ?_
  refine W.mv ?_
  refine W.ok (ok_eql rfl rfl) ?_
  refine W.nil (thn_n ?_)
  refine WC.cond (b := _) rfl (fun h22 => ?_) (fun h22 => ?_)
  ·have p22 := of_decide_eq_true h22
   refine WC.seq ?_
   refine WC.region ?_
   refine W.mv ?_
   refine W.mv ?_
   refine W.giveO h_u (pmA (List.Perm.refl _)) (fun G14 hG14 hv14 => ?_)
   have q16 := hv14.form
   refine match q16 with | ⟨_, _, e_15⟩ => ?_
   subst e_15
   refine W.app (e := eInt) sl39 ty3 zr3 rfl by3 rfl rfl ((h_s.mono hG14)) (hv14) (List.Perm.refl _) (hw) (fun v17 Ms18 ho19 => ?_)
   refine W.as ?_
   refine W.nil (thn_n ?_)
   refine WC.ret (thn_r ?_)
   refine ⟨.inr rfl, [_], ⟨rfl, trivial⟩, Ms18, List.sublist_append_left _ _, ?_⟩
   have h := ho19
   rw [show (s.take i ++ u) ++ s.drop i = s ++ u from by rw [List.take_of_length_le (by omega), List.drop_eq_nil_of_le (by omega), List.append_nil]]
   exact h
  ·have p22 := of_decide_eq_false h22
   refine WC.skip (thn_n ?_)
   refine WC.seq ?_
   refine WC.seq ?_
   refine WC.region ?_
   refine W.mv ?_
   refine W.mv ?_
   refine W.ok (Ok.int (n := ((s.length + u.length : Nat) : Int)) (ok_add rfl rfl (by omega)) (by omega)) ?_
   refine W.mv ?_
   have q20 := h_s.capForm
   refine match q20 with | ⟨ac30, hcf30⟩ => ?_
   refine W.ok (ok_capO (c := capV v_s) sl39 hcf30) ?_
   refine W.ok (ok_gtr rfl rfl) ?_
   refine W.nil (thn_n ?_)
   refine WC.cond (b := _) rfl (fun h31 => ?_) (fun h31 => ?_)
   ·have p31 := of_decide_eq_true h31
    refine WC.seq ?_
    refine WC.region ?_
    refine W.mv ?_
    refine W.mv ?_
    refine W.ok (ok_sliceO (0) (i) sl39 ty3 h_s rfl rfl ⟨_, _, rfl, by omega⟩ ⟨by omega, .inl (by omega)⟩) ?_
    refine W.mv ?_
    refine W.mv ?_
    refine W.ok (Ok.int (n := ((s.length + u.length : Nat) : Int)) (ok_add rfl rfl (by omega)) (by omega)) ?_
    refine W.mv ?_
    refine W.ok (Ok.int (n := ((s.length + u.length - i : Nat) : Int)) (ok_sub rfl rfl (by omega)) (by omega)) ?_
    refine W.appZ (e := eInt) (i := i) (c := s.length + u.length - i) sl39 ty3 zr3 rfl by3 Tryz.underlying3 h_s (List.Perm.refl _) rfl rfl (by omega) (by omega) (by omega) (by omega) (by rw [show i + (s.length + u.length - i) = s.length + u.length from by omega]; exact hw) rfl (fun v40 Ms40 hp40 => ?_)
    refine W.as ?_
    refine W.nil (thn_n ?_)
    refine WC.seq ?_
    refine WC.region ?_
    refine W.mv ?_
    refine W.mv ?_
    refine W.ok (ok_sliceP (i) (i + (s.length + u.length - i)) sl39 ty3 hp40 rfl ⟨_, _, rfl, by omega⟩ rfl ⟨by omega, by have := OwnP.cap_le hp40; omega⟩) ?_
    refine W.mv ?_
    refine W.copyP (i) (by simp; omega) sl39 ty3 hp40 (List.Perm.refl _) (Src.ofOwn0 h_u (pmA (pmA (List.Perm.refl _))) (by omega)) rfl rfl (by omega) (by omega) (fun z45 Ms45 hp45 => ?_)
    refine W.nil (thn_n ?_)
    refine WC.seq ?_
    refine WC.drawW _ (List.nil_sublist _) mix (by rintro _ _ _ _ ⟨h | h, _⟩ <;> cases h) ?_
    refine WD.take 0 rfl rfl rfl (by kernel_rfl) (by kernel_rfl) (by kernel_rfl) (ok_mv) ?_
    refine WD.take 1 rfl rfl rfl (by kernel_rfl) (by kernel_rfl) (by kernel_rfl) (ok_mv) ?_
    refine WD.take 2 rfl rfl rfl (by kernel_rfl) (by kernel_rfl) (by kernel_rfl) (ok_mv) ?_
    refine WD.take 3 rfl rfl rfl (by kernel_rfl) (by kernel_rfl) (by kernel_rfl) (Ok.int (n := ((i + u.length : Nat) : Int)) (ok_add rfl rfl (by omega)) (by omega)) ?_
    refine WD.take 4 rfl rfl rfl (by kernel_rfl) (by kernel_rfl) (by kernel_rfl) (ok_sliceP (i + u.length) (i + (s.length + u.length - i)) sl39 ty3 hp45 rfl ⟨_, _, rfl, by omega⟩ rfl ⟨by omega, by have := OwnP.cap_le hp45; omega⟩) ?_
    refine WD.take 5 rfl rfl rfl (by kernel_rfl) (by kernel_rfl) (by kernel_rfl) (ok_mv) ?_
    refine WD.take 6 rfl rfl rfl (by kernel_rfl) (by kernel_rfl) (by kernel_rfl) (ok_mv) ?_
    refine WD.take 7 rfl rfl rfl (by kernel_rfl) (by kernel_rfl) (by kernel_rfl) (ok_sliceO (i) (s.length) sl39 ty3 h_s rfl ⟨_, _, rfl, by omega⟩ rfl ⟨by omega, .inl (by omega)⟩) ?_
    refine WD.any [8] (by kernel_rfl) rfl ⟨⟨_, rfl, rfl, ?_⟩, trivial⟩
    refine W.copyP (i + u.length) (by simp; omega) sl39 ty3 hp45 (List.Perm.refl _) (Src.ofOwn (lo := i) h_s (pmA (List.Perm.refl _)) (by omega) (by omega)) rfl rfl (by simp; omega) (by omega) (fun z54 Ms54 hp54 => ?_)
    refine W.nil ⟨Le.rfl, List.nil_sublist _, _, List.nil_sublist _, List.Sublist.refl _, ?_⟩
    refine WD.done (by kernel_rfl) (thn_n ?_)
    refine WC.seq ?_
    refine WC.region ?_
    refine W.mv ?_
    refine W.as ?_
    refine W.nil (thn_n ?_)
    refine WC.ret (thn_r ?_)
    refine ⟨.inr rfl, [_], ⟨rfl, trivial⟩, Ms54, List.sublist_append_left _ _, ?_⟩
    have h := (hp54.own' (by simp; omega))
    rw [List.append_nil] at h
    exact h
   ·have p31 := of_decide_eq_false h31
    refine WC.skip (thn_n ?_)
    refine WC.seq ?_
    refine WC.region ?_
    refine W.mv ?_
    refine W.mv ?_
    refine W.mv ?_
    refine W.ok (Ok.int (n := ((s.length + u.length : Nat) : Int)) (ok_add rfl rfl (by omega)) (by omega)) ?_
    refine W.ok (ok_sliceO 0 (s.length + u.length) sl39 ty3 h_s rfl rfl ⟨_, _, rfl, by omega⟩ ⟨by omega, .inr (by omega)⟩) ?_
    have hp60 := OwnP.extend (m := u.length) (OwnR.open h_s (by omega)) (by omega) hw (by omega)
    refine W.as ?_
    refine W.nil (thn_n ?_)
    refine WC.seq ?_
    refine WC.seq ?_
    refine WC.region ?_
    refine W.mv ?_
    refine W.mv ?_
    refine W.mv ?_
    refine W.mv ?_
    refine W.ok (Ok.int (n := ((i + u.length : Nat) : Int)) (ok_add rfl rfl (by omega)) (by omega)) ?_
    refine W.ok (ok_sliceP (i + u.length) (s.length + u.length) sl39 ty3 hp60 rfl ⟨_, _, rfl, by omega⟩ rfl ⟨by omega, by have := OwnP.cap_le hp60; omega⟩) ?_
    have hc67 := OwnP.cap_le hp60
    refine W.ok (ok_overlaps (fn := Tryz.f116) (tR := 4) (lo := i + u.length) (hi := s.length + u.length) Tryz.func116 (by kernel_rfl) (by kernel_rfl) (by kernel_rfl) (by kernel_rfl) sl39 ty3 h_u hp60 ((List.Perm.append_left _ (List.Perm.refl _)).trans (pmA (List.Perm.refl _))) (by omega) (by omega) rfl rfl rfl) ?_
    refine W.ok (ok_not rfl) ?_
    refine W.nil (thn_n ?_)
    refine WC.cond_t rfl rfl ?_
    refine WC.seq ?_
    refine WC.drawW _ (List.nil_sublist _) mix (by rintro _ _ _ _ ⟨h | h, _⟩ <;> cases h) ?_
    refine WD.take 0 rfl rfl rfl (by kernel_rfl) (by kernel_rfl) (by kernel_rfl) (ok_mv) ?_
    refine WD.take 1 rfl rfl rfl (by kernel_rfl) (by kernel_rfl) (by kernel_rfl) (ok_mv) ?_
    refine WD.take 2 rfl rfl rfl (by kernel_rfl) (by kernel_rfl) (by kernel_rfl) (ok_mv) ?_
    refine WD.take 3 rfl rfl rfl (by kernel_rfl) (by kernel_rfl) (by kernel_rfl) (Ok.int (n := ((i + u.length : Nat) : Int)) (ok_add rfl rfl (by omega)) (by omega)) ?_
    refine WD.take 4 rfl rfl rfl (by kernel_rfl) (by kernel_rfl) (by kernel_rfl) (ok_sliceP (i + u.length) (s.length + u.length) sl39 ty3 hp60 rfl ⟨_, _, rfl, by omega⟩ rfl ⟨by omega, by have := OwnP.cap_le hp60; omega⟩) ?_
    refine WD.take 5 rfl rfl rfl (by kernel_rfl) (by kernel_rfl) (by kernel_rfl) (ok_mv) ?_
    refine WD.take 6 rfl rfl rfl (by kernel_rfl) (by kernel_rfl) (by kernel_rfl) (ok_mv) ?_
    refine WD.take 7 rfl rfl rfl (by kernel_rfl) (by kernel_rfl) (by kernel_rfl) (ok_sliceP (i) (s.length + u.length) sl39 ty3 hp60 rfl ⟨_, _, rfl, by omega⟩ rfl ⟨by omega, by have := OwnP.cap_le hp60; omega⟩) ?_
    refine WD.any [8] (by kernel_rfl) rfl ⟨⟨_, rfl, rfl, ?_⟩, trivial⟩
    refine W.copyShift (i := i) sl39 ty3 hp60 (List.Perm.refl _) rfl rfl (by omega) (fun z77 Ms77 hp77 => ?_)
    refine W.nil ⟨Le.rfl, List.nil_sublist _, _, List.nil_sublist _, List.Sublist.refl _, ?_⟩
    refine WD.done (by kernel_rfl) (thn_n ?_)
    refine WC.seq ?_
    refine WC.region ?_
    refine W.mv ?_
    refine W.mv ?_
    refine W.ok (ok_sliceP (i) (s.length + u.length) sl39 ty3 hp77 rfl ⟨_, _, rfl, by omega⟩ rfl ⟨by omega, by have := OwnP.cap_le hp77; omega⟩) ?_
    refine W.mv ?_
    refine W.copyP (i) (by simp; omega) sl39 ty3 hp77 (List.Perm.refl _) (Src.ofOwn0 h_u (pmA (List.Perm.refl _)) (by omega)) rfl rfl (by omega) (by omega) (fun z82 Ms82 hp82 => ?_)
    refine W.nil (thn_n ?_)
    refine WC.seq ?_
    refine WC.region ?_
    refine W.mv ?_
    refine W.as ?_
    refine W.nil (thn_n ?_)
    refine WC.ret (thn_r ?_)
    refine ⟨.inr rfl, [_], ⟨rfl, trivial⟩, Ms82, List.sublist_append_left _ _, ?_⟩
    exact (hp82.own' (by omega))

theorem rl1_fc {G : GH} (x : Int) (n : Int) {b_c : Nat} (h_c : CellsG G b_c 0 [.int .i64 n]) :
    Fc Tryz.prog 101 [.int .i64 x, .pointer (some ⟨b_c, 0, none⟩)] G [] (fun v _ _ => v = .bool ((fun z : Int => decide (z = n)) x)) := by
 refine Fc.intro (rs := [.tmp 3]) cl101 Tryz.func101 rfl Tryz.ntmps101 rfl rfl (fun w0 => ?_)
 refine WC.seq ?_
 refine WC.region ?_
 refine W.as ?_
 refine W.nil (thn_n ?_)
 refine WC.seq ?_
 refine WC.region ?_
 refine W.mv ?_
 refine W.ok (ok_loadG (vs := [.int .i64 _]) ty3 h_c rfl rfl rfl (by simp)) ?_
 refine W.ok (ok_eql rfl rfl) ?_
 refine W.as ?_
 refine W.nil (thn_n ?_)
 refine WC.ret ?_
 refine ⟨.inr rfl, [_], ⟨rfl, trivial⟩, [], List.nil_sublist _, ?_⟩
 rfl

theorem ixh_fc {G : GH} {v_l : Value} {l : List Int} {Ms_l : MH} (h_l : OwnR eInt 3 G v_l l Ms_l) (n : Int) {b_c : Nat} (h_c : CellsG G b_c 0 [.int .i64 n]) :
    Fc Tryz.prog 125 [v_l, .func (.func 101) #[] #[.pointer (some ⟨b_c, 0, none⟩)]] G Ms_l (fun v _ M' => v = .int .i64 (idxN (fun z : Int => decide (z = n)) l) ∧ Ms_l = M') := by
 have hl := h_l.len47
 refine Fc.intro (rs := [.tmp 4]) cl125 Tryz.func125 rfl Tryz.ntmps125 rfl rfl (fun w0 => ?_)
 refine WC.perm (M' := (Ms_l ++ [])) (by simp) ?_
 refine WC.seq ?_
 refine WC.region ?_
 refine W.as ?_
 refine W.nil (thn_n ?_)
 refine WC.seq ?_
 refine WC.seq ?_
 refine WC.region ?_
 refine W.mv ?_
 refine W.ok (ok_lenO sl39 h_l rfl) ?_
 refine W.mv ?_
 refine W.nil (thn_n ?_)
 refine WC.block ?_
 refine WC.loop (X := Nat) (fun k => [(8, .int .i64 ((k : Nat) : Int)), (0, v_l), (1, .func (.func 101) #[] #[.pointer (some ⟨b_c, 0, none⟩)]), (7, .int .i64 (((l).length : Nat) : Int))]) (fun k _ Ml => Ml = (Ms_l ++ []) ∧ k ≤ l.length ∧ ∀ j (h : j < l.length), j < k → (fun z : Int => decide (z = n)) l[j] = false) (fun k => l.length - k) 0 ⟨eqv, eqv, eqv, eqv, trivial⟩ ?_ ?_
 ·exact ⟨rfl, by omega, fun j _ h => by omega⟩
 ·rintro k gG21 G21 _ hG21 ⟨rfl, hk, hj⟩
  refine WC.seq ?_
  refine WC.region ?_
  refine W.ok (ok_lss rfl rfl) ?_
  refine W.nil (thn_n ?_)
  refine WC.seq ?_
  refine WC.cond (b := _) rfl (fun h9 => ?_) (fun h9 => ?_)
  ·have p9 := of_decide_eq_true h9
   refine WC.skip (thn_n ?_)
   refine WC.seq ?_
   refine WC.block ?_
   refine WC.seq ?_
   refine WC.region ?_
   refine W.mv ?_
   refine W.as ?_
   refine W.nil (thn_n ?_)
   refine WC.seq ?_
   refine WC.region ?_
   refine W.mv ?_
   refine W.mv ?_
   refine W.mv ?_
   have q25 := (h_l.mono hG21).at (i := k) (by omega)
   refine match q25 with | ⟨_, he22, ⟨e_24, hi23⟩⟩ => ?_
   subst e_24
   refine W.ok (ok_indexAddrO (i := k) sl39 ty3 (h_l.mono hG21) rfl rfl ⟨by omega, by omega⟩) ?_
   refine W.ok (ok_loadO (vs := [.int .i64 _]) ty3 he22 (List.Perm.refl _) rfl rfl rfl (by simp)) ?_
   refine W.qcallV (fst := []) (caps := [.pointer (some ⟨b_c, 0, none⟩)]) rfl (rl1_fc _ _ (h_c.mono hG21)) rfl ?_
   refine W.nil (thn_n ?_)
   refine WC.cond (b := _) rfl (fun h16 => ?_) (fun h16 => ?_)
   ·refine WC.seq ?_
    refine WC.region ?_
    refine W.mv ?_
    refine W.as ?_
    refine W.nil (thn_n ?_)
    refine WC.ret (blk_r (thn_r (thn_r (blk_r (thn_r ?_)))))
    refine ⟨.inr rfl, [_], ⟨rfl, trivial⟩, Ms_l, List.sublist_append_left _ _, ?_⟩
    refine ⟨congrArg (Value.int .i64) ?_, rfl⟩
    exact (idxN_at (by omega) (h16) hj).symm
   ·refine WC.skip (blk_n (thn_n ?_))
    refine WC.region ?_
    refine W.ok (ok_add rfl rfl (by omega)) ?_
    refine W.mv ?_
    refine W.nil (thn_n ?_)
    exact ⟨Le.rfl, k + 1, ⟨eqv, eqv, eqv, eqv, trivial⟩, ⟨rfl, by omega, fun j h hji => by
      by_cases e2 : j = k
      · subst e2; exact h16
      · exact hj j h (by omega)⟩, by omega⟩
  ·have p9 := of_decide_eq_false h9
   refine WC.exit (thn_x (thn_x (blk_h (thn_n ?_))))
   refine WC.seq ?_
   refine WC.region ?_
   refine W.as ?_
   refine W.nil (thn_n ?_)
   refine WC.ret ?_
   refine ⟨.inr rfl, [_], ⟨rfl, trivial⟩, Ms_l, List.sublist_append_left _ _, ?_⟩
   refine ⟨congrArg (Value.int .i64) ?_, rfl⟩
   exact (idxN_no (fun j h => hj j h (by omega))).symm

theorem dfh_fc {G : GH} {v_l : Value} {l : List Int} {Ms_l : MH} (h_l : OwnR eInt 3 G v_l l Ms_l) (n : Int) {b_c : Nat} (h_c : CellsG G b_c 0 [.int .i64 n]) :
    Fc Tryz.prog 100 [v_l, .func (.func 101) #[] #[.pointer (some ⟨b_c, 0, none⟩)]] G Ms_l (fun v G' M' => OwnR eInt 3 G' v (l.filter (fun a => !(fun z : Int => decide (z = n)) a)) M') := by
 have hl := h_l.len47
 have hix := idxN_le (fun z : Int => decide (z = n)) l
 refine Fc.intro (rs := [.tmp 4]) cl100 Tryz.func100 rfl Tryz.ntmps100 rfl rfl (fun w0 => ?_)
 refine WC.perm (M' := (Ms_l ++ [])) (by simp) ?_
 refine WC.seq ?_
 refine WC.region ?_
 refine W.as ?_
 refine W.nil (thn_n ?_)
 refine WC.seq ?_
 refine WC.region ?_
 refine W.mv ?_
 refine W.mv ?_
 refine W.call (Mp := Ms_l) (ixh_fc h_l _ h_c) rfl (List.Perm.refl _) ?_
 intro _ G26 Ms28 hG26 q27
 refine match q27 with | ⟨e_29, e_30⟩ => ?_
 subst e_29
 subst e_30
 refine W.as ?_
 refine W.nil (thn_n ?_)
 refine WC.seq ?_
 refine WC.seq ?_
 refine WC.region ?_
 refine W.mv ?_
 refine W.ok (ok_eql rfl rfl) ?_
 refine W.nil (thn_n ?_)
 refine WC.cond (b := _) rfl (fun h12 => ?_) (fun h12 => ?_)
 ·have p12 := of_decide_eq_true h12
  try dsimp only at p12
  refine WC.seq ?_
  refine WC.region ?_
  refine W.mv ?_
  refine W.as ?_
  refine W.nil (thn_n ?_)
  refine WC.ret (thn_r ?_)
  refine ⟨.inr rfl, [_], ⟨rfl, trivial⟩, Ms_l, List.sublist_append_left _ _, ?_⟩
  have h := (h_l.mono hG26)
  rw [idx_none p12]
  exact h
 ·have p12 := of_decide_eq_false h12
  try dsimp only at p12
  refine WC.skip (thn_n ?_)
  refine WC.seq ?_
  refine WC.seq ?_
  refine WC.region ?_
  refine W.mv ?_
  refine W.ok (ok_add rfl rfl (by omega)) ?_
  refine W.as ?_
  refine W.nil (thn_n ?_)
  refine WC.block ?_
  refine WC.loop (X := (Nat × Nat × List Int) × Value × MH) (fun x => [(5, .int .i64 ((x.1.1 : Nat) : Int)), (6, .int .i64 ((x.1.2.1 : Nat) : Int)), (1, .func (.func 101) #[] #[.pointer (some ⟨b_c, 0, none⟩)]), (0, x.2.1)]) (fun x G Ml => Ml = (x.2.2 ++ []) ∧ OwnR eInt 3 G x.2.1 (x.1.2.2) x.2.2 ∧ x.1.1 < x.1.2.1 ∧ x.1.2.1 ≤ l.length ∧ x.1.2.2.length = l.length ∧ x.1.2.2.take x.1.1 = (l.take x.1.2.1).filter (fun a => !(fun z : Int => decide (z = n)) a) ∧ x.1.2.2.drop x.1.2.1 = l.drop x.1.2.1) (fun x => l.length - x.1.2.1) (((idxN (fun z : Int => decide (z = n)) l).toNat, (idxN (fun z : Int => decide (z = n)) l).toNat + 1, l), v_l, Ms_l) ⟨eqv, eqv, eqv, eqv, trivial⟩ ?_ ?_
  ·exact ⟨rfl, (by exact (h_l.mono hG26)), by dsimp only; omega, by dsimp only; omega, rfl, idx_first p12, rfl⟩
  ·rintro ⟨⟨i, j, m⟩, v_0, M_0⟩ gG31 G31 _ hG31 ⟨rfl, ho_0, hij, hjl, hml, hmt, hmd⟩
   try dsimp only at ho_0 hij hjl hml hmt hmd
   have hmj := fun (h : j < l.length) => drop_get (by omega : j < m.length) h hmd
   refine WC.seq ?_
   refine WC.seq ?_
   refine WC.region ?_
   refine W.mv ?_
   refine W.mv ?_
   refine W.ok (ok_lenO sl39 ho_0 rfl) ?_
   refine W.ok (ok_lss rfl rfl) ?_
   refine W.nil (thn_n ?_)
   refine WC.cond (b := _) rfl (fun h19 => ?_) (fun h19 => ?_)
   ·have p19 := of_decide_eq_true h19
    try dsimp only at p19
    refine WC.skip (thn_n ?_)
    refine WC.seq ?_
    refine WC.block ?_
    refine WC.seq ?_
    refine WC.region ?_
    refine W.mv ?_
    refine W.mv ?_
    have q35 := ho_0.at (i := j) (by omega)
    refine match q35 with | ⟨_, he32, ⟨e_34, hi33⟩⟩ => ?_
    subst e_34
    refine W.ok (ok_indexAddrO (i := j) sl39 ty3 ho_0 rfl rfl ⟨by dsimp only, by omega⟩) ?_
    refine W.ok (ok_loadO (vs := [.int .i64 _]) ty3 he32 (List.Perm.refl _) rfl rfl rfl (by simp)) ?_
    refine W.as ?_
    refine W.nil (thn_n ?_)
    refine WC.seq ?_
    refine WC.region ?_
    refine W.mv ?_
    refine W.mv ?_
    refine W.qcallV (fst := []) (caps := [.pointer (some ⟨b_c, 0, none⟩)]) rfl (rl1_fc _ _ (h_c.mono (hG26.trans hG31))) rfl ?_
    refine W.ok (ok_not rfl) ?_
    refine W.nil (thn_n ?_)
    refine WC.cond (b := _) rfl (fun h29 => ?_) (fun h29 => ?_)
    ·refine WC.seq ?_
     refine WC.region ?_
     refine W.mv ?_
     refine W.mv ?_
     refine W.mv ?_
     have q39 := ho_0.at (i := i) (by omega)
     refine match q39 with | ⟨_, he36, ⟨e_38, hi37⟩⟩ => ?_
     subst e_38
     refine W.ok (ok_indexAddrO (i := i) sl39 ty3 ho_0 rfl rfl ⟨by dsimp only, by omega⟩) ?_
     refine W.storeO (i := i) (o := 0) (vs := [.int .i64 _]) (a' := m[j]) ty3 rfl rfl rfl rfl rfl (ho_0) (List.Perm.refl _) (by omega) (by decide) (fun cs h => by first | (rw [h]; rfl) | (rw [h.1]; exact ⟨rfl, by assumption⟩)) (fun Ms40 ho41 => ?_)
     refine W.nil (thn_n ?_)
     refine WC.region ?_
     refine W.mv ?_
     refine W.ok (ok_add rfl rfl (by dsimp only; omega)) ?_
     refine W.as ?_
     refine W.nil (blk_n (thn_n ?_))
     refine WC.region ?_
     refine W.mv ?_
     refine W.ok (ok_add rfl rfl (by dsimp only; omega)) ?_
     refine W.as ?_
     refine W.nil (thn_n ?_)
     exact ⟨Le.rfl, ((i + 1, j + 1, m.set i m[j]), v_0, Ms40), ⟨eqv, eqv, eqv, eqv, trivial⟩, ⟨rfl, (by exact ho41), by dsimp only; omega, by dsimp only; omega, by simpa using hml, (del_keep (p := (fun a => !(fun z : Int => decide (z = n)) a)) hij (by omega) hml hmt hmd (by rw [← hmj (by omega)]; simpa using h29)).1, (del_keep (p := (fun a => !(fun z : Int => decide (z = n)) a)) hij (by omega) hml hmt hmd (by rw [← hmj (by omega)]; simpa using h29)).2⟩, by dsimp only; omega⟩
    ·refine WC.skip (blk_n (thn_n ?_))
     refine WC.region ?_
     refine W.mv ?_
     refine W.ok (ok_add rfl rfl (by dsimp only; omega)) ?_
     refine W.as ?_
     refine W.nil (thn_n ?_)
     exact ⟨Le.rfl, ((i, j + 1, m), v_0, M_0), ⟨eqv, eqv, eqv, eqv, trivial⟩, ⟨rfl, (by exact ho_0), by dsimp only; omega, by dsimp only; omega, hml, (del_skip (p := (fun a => !(fun z : Int => decide (z = n)) a)) (by omega) hmt hmd (by rw [← hmj (by omega)]; simpa using h29)).1, (del_skip (p := (fun a => !(fun z : Int => decide (z = n)) a)) (by omega) hmt hmd (by rw [← hmj (by omega)]; simpa using h29)).2⟩, by dsimp only; omega⟩
   ·have p19 := of_decide_eq_false h19
    try dsimp only at p19
    refine WC.exit (thn_x (thn_x (blk_h (thn_n ?_))))
    refine WC.seq ?_
    refine WC.region ?_
    refine W.mv ?_
    refine W.mv ?_
    have q43 := ho_0.formB (by omega)
    refine match q43 with | ⟨b38, c38, e_42⟩ => ?_
    subst e_42
    have hc38 := ho_0.cap_le
    refine W.ok (ok_sliceO i m.length sl39 ty3 ho_0 rfl ⟨_, _, rfl, by first | omega | (dsimp only; omega) | dsimp only⟩ rfl ⟨by omega, .inl (by omega)⟩) ?_
    refine W.clearO (e := eInt) (lo := i) (hi := m.length) (m := i) sl39 ty3 zr3 rfl rfl ho_0 (List.Perm.refl _) rfl (by omega) hc38 ⟨_, rfl⟩ (by omega) (by omega) (fun Ms38 ho38 => ?_)
    refine W.nil (thn_n ?_)
    refine WC.seq ?_
    refine WC.region ?_
    refine W.mv ?_
    refine W.mv ?_
    refine W.ok (ok_sliceG 0 i sl39 ty3 rfl rfl ⟨_, _, rfl, by first | omega | (dsimp only; omega) | dsimp only⟩ ⟨by omega, by simp only [capV] at hc38; omega⟩) ?_
    refine W.as ?_
    refine W.nil (thn_n ?_)
    refine WC.ret ?_
    refine ⟨.inr rfl, [_], ⟨rfl, trivial⟩, Ms38, List.sublist_append_left _ _, ?_⟩
    have h := ho38
    rw [← List.take_of_length_le (l := l) (i := j) (by omega), ← hmt]
    exact h

end Go.Proofs.YtgmnljhiojdigaaGreat
namespace Go.Fw
open Go Go.RowKit
theorem nodup_few : ∀ {A B : List Int}, A.Nodup → (∀ a ∈ A, a ∈ B) → A.length ≤ B.length
  | [], _, _, _ => Nat.zero_le _
  | a :: A, B, h, hs => by
    rw [List.nodup_cons] at h
    have hm := hs a (List.mem_cons_self ..)
    have h1 := nodup_few (A := A) (B := B.erase a) h.2 fun x hx => (List.mem_erase_of_ne fun e => h.1 (by rw [← e]; exact hx)).2 (hs x (List.mem_cons_of_mem _ hx))
    rw [List.length_erase_of_mem hm] at h1
    have h2 := List.length_pos_of_mem hm
    rw [List.length_cons]; omega
section
variable {Th : List Int} {W : Lat} {t s how : Int} {k : Nat}
theorem srt_nodup {l : List Int} (h : SrtI l) : l.Nodup := List.Pairwise.imp (fun h9 e => by omega) h
theorem atL_eq (h : inL W s) (hi : s.toNat < W.length) : atL W s = W[s.toNat] := getD_lt hi
theorem inL_lt (h : inL W s) : s.toNat < W.length := by unfold inL at h; omega
theorem LatOk.at (h : LatOk Th W) {i : Nat} (hi : i < W.length) : SrtI W[i].1 ∧ (∀ x ∈ W[i].1, x ∈ Th) ∧ i64 W[i].2 ∧ W[i].1.length ≤ 1000 := by
  obtain ⟨h1, h2, h3⟩ := h.1 _ (List.getElem_mem hi)
  exact ⟨h1, h2, h3, Nat.le_trans (nodup_few (srt_nodup h1) h2) h.2.2.2⟩
theorem LatOk.set (h : LatOk Th W) {i : Nat} {w : List Int} {k : Int} (hs : SrtI w) (hm : ∀ x ∈ w, x ∈ Th) (hk : i64 k) : LatOk Th (W.set i (w, k)) := by
  refine ⟨fun p hp => ?_, by rw [List.length_set]; exact h.2.1, h.2.2⟩
  rcases List.mem_or_eq_of_mem_set hp with h9 | h9
  · exact h.1 p h9
  · rw [h9]; exact ⟨hs, hm, hk⟩
theorem lhas_no (h : ¬ inL W s) : lhasN W t s = false ∧ ltoN W t s = false := by
  have h1 : lhasN W t s = false := by unfold lhasN; rw [decide_eq_false h]; rfl
  exact ⟨h1, by unfold ltoN; rw [h1]; rfl⟩
theorem lhas_at (h : inL W s) : lhasN W t s = decide (t ∈ (W[s.toNat]'(inL_lt h)).1) ∧ ltoN W t s = (decide (t ∈ (W[s.toNat]'(inL_lt h)).1) && decide ((W[s.toNat]'(inL_lt h)).2 = 2)) := by
  have h1 : lhasN W t s = decide (t ∈ (W[s.toNat]'(inL_lt h)).1) := by unfold lhasN; rw [decide_eq_true h, atL_eq h (inL_lt h)]; rfl
  exact ⟨h1, by unfold ltoN; rw [h1, atL_eq h (inL_lt h)]⟩
theorem take_2a (h : t < 0 ∨ ¬ inL W s) : ltakeN W t s how = (2, W) := if_pos h
theorem take_2b (h0 : ¬ t < 0) (h : inL W s) (hm : t ∈ (W[s.toNat]'(inL_lt h)).1) : ltakeN W t s how = (2, W) := by
  unfold ltakeN
  rw [if_neg (by intro h9; rcases h9 with h9 | h9; exact h0 h9; exact h9 h), atL_eq h (inL_lt h), if_pos hm]
theorem take_7 (h0 : ¬ t < 0) (h : inL W s) (hm : ¬ t ∈ (W[s.toNat]'(inL_lt h)).1) (hk : (W[s.toNat]'(inL_lt h)).2 = 2 ∨ (how = 2 ∧ (W[s.toNat]'(inL_lt h)).2 ≠ 0)) : ltakeN W t s how = (7, W) := by
  unfold ltakeN
  rw [if_neg (by intro h9; rcases h9 with h9 | h9; exact h0 h9; exact h9 h), atL_eq h (inL_lt h), if_neg hm, if_pos hk]
theorem take_0 (h0 : ¬ t < 0) (h : inL W s) (hm : ¬ t ∈ (W[s.toNat]'(inL_lt h)).1) (hk : ¬ ((W[s.toNat]'(inL_lt h)).2 = 2 ∨ (how = 2 ∧ (W[s.toNat]'(inL_lt h)).2 ≠ 0))) : ltakeN W t s how = (0, W.set s.toNat (insI t (W[s.toNat]'(inL_lt h)).1, how)) := by
  unfold ltakeN
  rw [if_neg (by intro h9; rcases h9 with h9 | h9; exact h0 h9; exact h9 h), atL_eq h (inL_lt h), if_neg hm, if_neg hk]
theorem rel_8 (h : lhasN W t s = false) : lrelN W t s = (8, W) := by unfold lrelN; rw [h]; rfl
theorem rel_0 (h : lhasN W t s = true) (hi : inL W s) : lrelN W t s = (0, W.set s.toNat (outI t (W[s.toNat]'(inL_lt hi)).1, if (outI t (W[s.toNat]'(inL_lt hi)).1).length = 0 then 0 else (W[s.toNat]'(inL_lt hi)).2)) := by
  unfold lrelN; rw [if_pos h, atL_eq hi (inL_lt hi)]
theorem lhas_in (h : lhasN W t s = true) : inL W s := by
  unfold lhasN at h
  rw [Bool.and_eq_true] at h
  exact of_decide_eq_true h.1
theorem LatOk.take (h : LatOk Th W) (ht : t ∈ Th) (hh : i64 how) : LatOk Th (ltakeN W t s how).2 := by
  unfold ltakeN
  split
  · exact h
  · rename_i h1
    split
    · exact h
    · rename_i h2
      split
      · exact h
      · have hi : inL W s := Classical.byContradiction fun h9 => h1 (.inr h9)
        rw [atL_eq hi (inL_lt hi)] at h2 ⊢
        obtain ⟨a1, a2, a3, a4⟩ := h.at (inL_lt hi)
        exact h.set (srt_ins a1 h2) (fun x hx => by rcases mem_ins.1 hx with h9 | h9; rw [h9]; exact ht; exact a2 x h9) hh
theorem srt_out {l : List Int} (h : SrtI l) : SrtI (outI t l) := h.filter _
theorem LatOk.rel (h : LatOk Th W) : LatOk Th (lrelN W t s).2 := by
  unfold lrelN
  split
  · rename_i h1
    have hi := lhas_in h1
    rw [atL_eq hi (inL_lt hi)]
    obtain ⟨a1, a2, a3, a4⟩ := h.at (inL_lt hi)
    refine h.set (srt_out a1) (fun x hx => a2 x (List.mem_filter.1 hx).1) ?_
    split
    · exact ⟨by decide, by decide⟩
    · exact a3
  · exact h
theorem ownAt9 {α : Type} {e : Enc α} {T : TypeId} {G : GH} {v : Value} {l : List α} {Ms : MH} {x : α} {i : Nat} (h : OwnR e T G v l Ms) (hi : i < l.length) (hx : l[i] = x) : ∃ cs, OwnAt Ms v e.k i cs ∧ e.R G cs x := by
  subst hx
  exact h.at hi
theorem OwnR.to9 {α : Type} {e : Enc α} {T : TypeId} {G : GH} {v : Value} {l l' : List α} {Ms : MH} (h : OwnR e T G v l Ms) (he : l = l') : OwnR e T G v l' Ms := he ▸ h
theorem Ok.to9 {E : Env} {f : Fr} {G : GH} {M : MH} {o : Oper} {v v' : Value} (h : Ok E f G M o v) (e : v = v') : Ok E f G M o v' := e ▸ h
theorem tbb {a b a' b' : Bool} (h1 : a = a') (h2 : b = b') : Value.tuple #[.bool a, .bool b] = .tuple #[.bool a', .bool b'] := by rw [h1, h2]
def eHld : Enc Hld where
  k := 3
  w := 24
  R := fun _ cs p => cs = [.int .i64 p.thread, .int .i64 p.slot, .bool p.write] ∧ i64 p.thread ∧ i64 p.slot
  mono := fun _ h => h
  len := fun h => by rw [h.1]; rfl
  one := fun h u hu => by
    rw [h.1] at hu; simp at hu
    rcases hu with rfl | rfl | rfl <;> rfl
theorem rels_succ {l : List Hld} {j : Nat} (hj : j < l.length) : lrelsN t (l.take (j + 1)) W = (lrelN (lrelsN t (l.take j) W) t l[j].slot).2 := by
  unfold lrelsN
  rw [List.take_succ_eq_append_getElem hj, List.foldl_append]; rfl
theorem who_new {TI : TypeId} {G : GH} : ∀ n : Nat, WhoR TI (List.replicate n ((.slice none 0 0), 0)) (List.replicate n ([], 0)) G []
  | 0 => rfl
  | n + 1 => ⟨rfl, [], [], rfl, OwnR.nil, who_new n⟩
theorem lat_new {n : Nat} (hn : n ≤ 4096) (hT : (∀ x ∈ Th, i64 x) ∧ Th.length ≤ 1000) : LatOk Th (List.replicate n ([], 0)) := by
  refine ⟨fun p hp => ?_, by rw [List.length_replicate]; exact hn, hT⟩
  rw [(List.mem_replicate.1 hp).2]
  exact ⟨List.Pairwise.nil, fun x hx => (by cases hx), by decide, by decide⟩
theorem inS_len {k : Int} {p : List Int × Int} : (inS k p).length = p.1.length := List.length_map ..
theorem inS_take {k : Int} {p : List Int × Int} {j : Nat} (hj : j < p.1.length) : (inS k p).take (j + 1) = (inS k p).take j ++ [⟨p.1[j], k, decide (p.2 = 2)⟩] := by
  have h : j < (inS k p).length := by rw [inS_len]; exact hj
  rw [List.take_succ_eq_append_getElem h]
  congr 2
  exact List.getElem_map ..
def heldJ (W : Lat) (k j : Nat) : List Hld := heldK W k ++ (inS (k : Int) (W.getD k ([], 0))).take j
theorem heldJ_0 : heldJ W k 0 = heldK W k := by unfold heldJ; rw [List.take_zero, List.append_nil]
theorem heldJ_end {k : Nat} (hk : k < W.length) : heldJ W k (W[k].1.length) = heldK W (k + 1) := by
  unfold heldJ
  rw [heldK_succ W hk, getD_lt hk, List.take_of_length_le (by rw [inS_len]; exact Nat.le_refl _)]
theorem heldJ_t {f : Hld → Bool} {k j : Nat} (hk : k < W.length) (hj : j < W[k].1.length) (hf : f ⟨W[k].1[j], (k : Int), decide (W[k].2 = 2)⟩ = true) : (heldJ W k (j + 1)).filter f = (heldJ W k j).filter f ++ [⟨W[k].1[j], (k : Int), decide (W[k].2 = 2)⟩] := by
  unfold heldJ
  rw [getD_lt hk, inS_take hj, ← List.append_assoc, List.filter_append, List.filter_cons_of_pos hf]; rfl
theorem heldJ_f {f : Hld → Bool} {k j : Nat} (hk : k < W.length) (hj : j < W[k].1.length) (hf : f ⟨W[k].1[j], (k : Int), decide (W[k].2 = 2)⟩ = false) : (heldJ W k (j + 1)).filter f = (heldJ W k j).filter f := by
  unfold heldJ
  rw [getD_lt hk, inS_take hj, ← List.append_assoc, List.filter_append, List.filter_cons_of_neg (by rw [hf]; decide), List.filter_nil, List.append_nil]
theorem held_len (h : LatOk Th W) : ∀ k, k ≤ W.length → (heldK W k).length ≤ 1000 * k
  | 0, _ => Nat.le_refl _
  | k + 1, hk => by
    rw [heldK_succ W (by omega), List.length_append, inS_len]
    have h1 := held_len h k (by omega)
    have h2 := (h.at (i := k) (by omega)).2.2.2
    omega
theorem heldJ_len (h : LatOk Th W) {k j : Nat} (hk : k < W.length) (f : Hld → Bool) : ((heldJ W k j).filter f).length ≤ 1000 * (k + 1) := by
  have h1 := List.length_filter_le f (heldJ W k j)
  have h2 := held_len h k (by omega)
  have h3 := (h.at (i := k) hk).2.2.2
  have h4 : (heldJ W k j).length ≤ (heldK W k).length + W[k].1.length := by
    unfold heldJ
    rw [List.length_append, List.length_take, getD_lt hk, inS_len]; omega
  omega
end
end Go.Fw
