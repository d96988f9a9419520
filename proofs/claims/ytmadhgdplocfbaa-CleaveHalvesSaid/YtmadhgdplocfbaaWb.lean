/- Walks of copies, joins and comparisons of slices. -/
import Derived.Test.YtmadhgdplocfbaaWa
import Derived.Test.YtmadhgdplocfbaaFs
import Derived.Test.YtmadhgdplocfbaaSr
namespace Go.Proofs.Ytmadhgdplocfbaa
open Go Go.Fw Go.RowKit
set_option maxRecDepth 100000
set_option maxHeartbeats 1600000
set_option linter.unusedVariables false
theorem same_fc {G : GH} {v_a : Value} {a : List Str} (h_a : SlR eStr G v_a a) {v_b : Value} {b : List Str} (h_b : SlR eStr G v_b b) :
    Fc Try.prog 42 [v_a, v_b] G [] (fun v _ _ => v = .bool (decide (a = b))) := by
  obtain ⟨sa_a, sc_a, rfl⟩ := h_a.form
  obtain ⟨sa_b, sc_b, rfl⟩ := h_b.form
  have ha := h_a.len47
  have hb := h_b.len47
  refine Fc.intro (rs := [.tmp 4]) cl42 Try.func42 rfl Try.ntmps42 rfl rfl (fun w0 => ?_)
  refine WC.seq ?_
  refine WC.region ?_
  refine W.as ?_
  refine W.nil (thn_n ?_)
  refine WC.seq ?_
  refine WC.seq ?_
  refine WC.region ?_
  refine W.mv ?_
  refine W.ok (ok_len sl25 h_a rfl) ?_
  refine W.mv ?_
  refine W.ok (ok_len sl25 h_b rfl) ?_
  refine W.ok (ok_neq rfl rfl) ?_
  refine W.nil (thn_n ?_)
  refine WC.cond (b := _) rfl (fun h10 => ?_) (fun h10 => ?_)
  · have p10 := nd_t h10
    refine WC.seq ?_
    refine WC.region ?_
    refine W.as ?_
    refine W.nil (thn_n ?_)
    refine WC.ret (thn_r ?_)
    refine ⟨.inr rfl, [_], ⟨rfl, trivial⟩, [], List.nil_sublist _, ?_⟩
    refine congrArg Value.bool ?_
    exact (decide_eq_false fun e => by subst e; omega).symm
  · have p10 := nd_f h10
    have hab : a.length = b.length := by omega
    refine WC.skip (thn_n ?_)
    refine WC.seq ?_
    refine WC.seq ?_
    refine WC.region ?_
    refine W.as ?_
    refine W.nil (thn_n ?_)
    refine WC.block ?_
    refine WC.loop (X := Nat) (fun k => [(5, .int .i64 ((k : Nat) : Int)), (0, .slice sa_a a.length sc_a), (1, .slice sa_b b.length sc_b)]) (fun k _ Ml => Ml = [] ∧ k ≤ a.length ∧ ∀ i (h : i < a.length) (h2 : i < b.length), i < k → a[i] = b[i]) (fun k => a.length - k) 0 ⟨(by first | rfl | exact iv (by dsimp only; omega) | exact iv (by omega)), (by first | rfl | exact iv (by dsimp only; omega) | exact iv (by omega)), (by first | rfl | exact iv (by dsimp only; omega) | exact iv (by omega)), trivial⟩ ?_ ?_
    · exact ⟨rfl, by omega, fun i _ _ h => by omega⟩
    · rintro k gG35 G35 _ hG35 ⟨rfl, hk0, hk⟩
      refine WC.seq ?_
      refine WC.seq ?_
      refine WC.region ?_
      refine W.mv ?_
      refine W.mv ?_
      refine W.ok (ok_len sl25 (h_a.mono hG35) rfl) ?_
      refine W.ok (ok_lss rfl rfl) ?_
      refine W.nil (thn_n ?_)
      refine WC.cond (b := _) rfl (fun h14 => ?_) (fun h14 => ?_)
      · have p14 := of_decide_eq_true h14
        refine WC.skip (thn_n ?_)
        refine WC.seq ?_
        refine WC.block ?_
        refine WC.seq ?_
        refine WC.draw mix (by kernel_rfl) ?_
        refine W.mv ?_
        refine W.mv ?_
        obtain ⟨_, he36, rfl⟩ := (h_a.mono hG35).at (i := k) (by omega)
        refine W.ok (ok_indexAddr (i := k) sl25 ty9 (h_a.mono hG35) rfl rfl ⟨by omega, by omega⟩) ?_
        refine W.ok (ok_loadE (vs := [.string _]) ty9 he36 rfl rfl rfl (by simp)) ?_
        refine W.mv ?_
        refine W.mv ?_
        obtain ⟨_, he37, rfl⟩ := (h_b.mono hG35).at (i := k) (by omega)
        refine W.ok (ok_indexAddr (i := k) sl25 ty9 (h_b.mono hG35) rfl rfl ⟨by omega, by omega⟩) ?_
        refine W.ok (ok_loadE (vs := [.string _]) ty9 he37 rfl rfl rfl (by simp)) ?_
        refine W.ok (ok_neqS rfl rfl) ?_
        refine W.nil (thn_n ?_)
        refine WC.cond (b := _) rfl (fun h25 => ?_) (fun h25 => ?_)
        · have p25 := nd_t h25
          refine WC.seq ?_
          refine WC.region ?_
          refine W.as ?_
          refine W.nil (thn_n ?_)
          refine WC.ret (blk_r (thn_r (thn_r (blk_r (thn_r ?_)))))
          refine ⟨.inr rfl, [_], ⟨rfl, trivial⟩, [], List.nil_sublist _, ?_⟩
          refine congrArg Value.bool ?_
          exact (decide_eq_false fun e => by subst e; exact p25 rfl).symm
        · have p25 := nd_f h25
          refine WC.skip (blk_n (thn_n ?_))
          refine WC.region ?_
          refine W.mv ?_
          refine W.ok (ok_add rfl rfl (by omega)) ?_
          refine W.as ?_
          refine W.nil (thn_n ?_)
          exact ⟨Le.rfl, k + 1, ⟨(by first | rfl | exact iv (by dsimp only; omega) | exact iv (by omega)), (by first | rfl | exact iv (by dsimp only; omega) | exact iv (by omega)), (by first | rfl | exact iv (by dsimp only; omega) | exact iv (by omega)), trivial⟩, ⟨rfl, by omega, fun i h h2 hi => by
      by_cases e : i = k
      · subst e; first | exact Decidable.not_not.1 p25 | exact Str.ext' p25 | omega
      · exact hk i h h2 (by omega)⟩, by omega⟩
      · have p14 := of_decide_eq_false h14
        refine WC.exit (thn_x (thn_x (blk_h (thn_n ?_))))
        refine WC.seq ?_
        refine WC.region ?_
        refine W.as ?_
        refine W.nil (thn_n ?_)
        refine WC.ret ?_
        refine ⟨.inr rfl, [_], ⟨rfl, trivial⟩, [], List.nil_sublist _, ?_⟩
        refine congrArg Value.bool ?_
        exact (decide_eq_true (List.ext_getElem (by omega) fun i h h2 => hk i h h2 (by omega))).symm

theorem ints_fc {G : GH} {v_a : Value} {a : List Int} (h_a : SlR eInt G v_a a) {v_b : Value} {b : List Int} (h_b : SlR eInt G v_b b) :
    Fc Try.prog 33 [v_a, v_b] G [] (fun v _ _ => v = .bool (decide (a = b))) := by
  obtain ⟨sa_a, sc_a, rfl⟩ := h_a.form
  obtain ⟨sa_b, sc_b, rfl⟩ := h_b.form
  have ha := h_a.len47
  have hb := h_b.len47
  refine Fc.intro (rs := [.tmp 4]) cl33 Try.func33 rfl Try.ntmps33 rfl rfl (fun w0 => ?_)
  refine WC.seq ?_
  refine WC.region ?_
  refine W.as ?_
  refine W.nil (thn_n ?_)
  refine WC.seq ?_
  refine WC.seq ?_
  refine WC.region ?_
  refine W.mv ?_
  refine W.ok (ok_len sl26 h_a rfl) ?_
  refine W.mv ?_
  refine W.ok (ok_len sl26 h_b rfl) ?_
  refine W.ok (ok_neq rfl rfl) ?_
  refine W.nil (thn_n ?_)
  refine WC.cond (b := _) rfl (fun h10 => ?_) (fun h10 => ?_)
  · have p10 := nd_t h10
    refine WC.seq ?_
    refine WC.region ?_
    refine W.as ?_
    refine W.nil (thn_n ?_)
    refine WC.ret (thn_r ?_)
    refine ⟨.inr rfl, [_], ⟨rfl, trivial⟩, [], List.nil_sublist _, ?_⟩
    refine congrArg Value.bool ?_
    exact (decide_eq_false fun e => by subst e; omega).symm
  · have p10 := nd_f h10
    have hab : a.length = b.length := by omega
    refine WC.skip (thn_n ?_)
    refine WC.seq ?_
    refine WC.seq ?_
    refine WC.region ?_
    refine W.as ?_
    refine W.nil (thn_n ?_)
    refine WC.block ?_
    refine WC.loop (X := Nat) (fun k => [(5, .int .i64 ((k : Nat) : Int)), (0, .slice sa_a a.length sc_a), (1, .slice sa_b b.length sc_b)]) (fun k _ Ml => Ml = [] ∧ k ≤ a.length ∧ ∀ i (h : i < a.length) (h2 : i < b.length), i < k → a[i] = b[i]) (fun k => a.length - k) 0 ⟨(by first | rfl | exact iv (by dsimp only; omega) | exact iv (by omega)), (by first | rfl | exact iv (by dsimp only; omega) | exact iv (by omega)), (by first | rfl | exact iv (by dsimp only; omega) | exact iv (by omega)), trivial⟩ ?_ ?_
    · exact ⟨rfl, by omega, fun i _ _ h => by omega⟩
    · rintro k gG38 G38 _ hG38 ⟨rfl, hk0, hk⟩
      refine WC.seq ?_
      refine WC.seq ?_
      refine WC.region ?_
      refine W.mv ?_
      refine W.mv ?_
      refine W.ok (ok_len sl26 (h_a.mono hG38) rfl) ?_
      refine W.ok (ok_lss rfl rfl) ?_
      refine W.nil (thn_n ?_)
      refine WC.cond (b := _) rfl (fun h14 => ?_) (fun h14 => ?_)
      · have p14 := of_decide_eq_true h14
        refine WC.skip (thn_n ?_)
        refine WC.seq ?_
        refine WC.block ?_
        refine WC.seq ?_
        refine WC.draw mix (by kernel_rfl) ?_
        refine W.mv ?_
        refine W.mv ?_
        obtain ⟨_, he39, ⟨rfl, hi40⟩⟩ := (h_a.mono hG38).at (i := k) (by omega)
        refine W.ok (ok_indexAddr (i := k) sl26 ty3 (h_a.mono hG38) rfl rfl ⟨by omega, by omega⟩) ?_
        refine W.ok (ok_loadE (vs := [.int .i64 _]) ty3 he39 rfl rfl rfl (by simp)) ?_
        refine W.mv ?_
        refine W.mv ?_
        obtain ⟨_, he41, ⟨rfl, hi42⟩⟩ := (h_b.mono hG38).at (i := k) (by omega)
        refine W.ok (ok_indexAddr (i := k) sl26 ty3 (h_b.mono hG38) rfl rfl ⟨by omega, by omega⟩) ?_
        refine W.ok (ok_loadE (vs := [.int .i64 _]) ty3 he41 rfl rfl rfl (by simp)) ?_
        refine W.ok (ok_neq rfl rfl) ?_
        refine W.nil (thn_n ?_)
        refine WC.cond (b := _) rfl (fun h25 => ?_) (fun h25 => ?_)
        · have p25 := nd_t h25
          refine WC.seq ?_
          refine WC.region ?_
          refine W.as ?_
          refine W.nil (thn_n ?_)
          refine WC.ret (blk_r (thn_r (thn_r (blk_r (thn_r ?_)))))
          refine ⟨.inr rfl, [_], ⟨rfl, trivial⟩, [], List.nil_sublist _, ?_⟩
          refine congrArg Value.bool ?_
          exact (decide_eq_false fun e => by subst e; exact p25 rfl).symm
        · have p25 := nd_f h25
          refine WC.skip (blk_n (thn_n ?_))
          refine WC.region ?_
          refine W.mv ?_
          refine W.ok (ok_add rfl rfl (by omega)) ?_
          refine W.as ?_
          refine W.nil (thn_n ?_)
          exact ⟨Le.rfl, k + 1, ⟨(by first | rfl | exact iv (by dsimp only; omega) | exact iv (by omega)), (by first | rfl | exact iv (by dsimp only; omega) | exact iv (by omega)), (by first | rfl | exact iv (by dsimp only; omega) | exact iv (by omega)), trivial⟩, ⟨rfl, by omega, fun i h h2 hi => by
      by_cases e : i = k
      · subst e; first | exact Decidable.not_not.1 p25 | exact Str.ext' p25 | omega
      · exact hk i h h2 (by omega)⟩, by omega⟩
      · have p14 := of_decide_eq_false h14
        refine WC.exit (thn_x (thn_x (blk_h (thn_n ?_))))
        refine WC.seq ?_
        refine WC.region ?_
        refine W.as ?_
        refine W.nil (thn_n ?_)
        refine WC.ret ?_
        refine ⟨.inr rfl, [_], ⟨rfl, trivial⟩, [], List.nil_sublist _, ?_⟩
        refine congrArg Value.bool ?_
        exact (decide_eq_true (List.ext_getElem (by omega) fun i h h2 => hk i h h2 (by omega))).symm

theorem clones_fc {G : GH} {v_a : Value} {a : List Str} (h_a : SlR eStr G v_a a) :
    Fc Try.prog 131 [v_a] G [] (fun v G' M' => M' = [] ∧ ∃ u0, v = u0 ∧ SlR eStr G' u0 (a)) := by
  obtain ⟨sa_a, sc_a, rfl⟩ := h_a.form
  have ha := h_a.bytes
  refine Fc.intro (rs := [.tmp 2]) cl131 Try.func131 rfl Try.ntmps131 rfl rfl (fun w0 => ?_)
  refine WC.seq ?_
  refine WC.region ?_
  refine W.as ?_
  refine W.nil (thn_n ?_)
  refine WC.seq ?_
  refine WC.seq ?_
  refine WC.region ?_
  refine W.mv ?_
  refine W.ok (ok_eqlNil sl25 rfl rfl) ?_
  refine W.nil (thn_n ?_)
  refine WC.cond (b := _) rfl (fun h4 => ?_) (fun h4 => ?_)
  · have hn := SlR.isNone h_a h4
    subst hn
    refine WC.seq ?_
    refine WC.region ?_
    refine W.as ?_
    refine W.nil (thn_n ?_)
    refine WC.ret (thn_r ?_)
    refine ⟨.inr rfl, [_], ⟨rfl, trivial⟩, [], List.nil_sublist _, ?_⟩
    refine ⟨rfl, _, rfl, ?_⟩
    · exact SlR.nil
  · refine WC.skip (thn_n ?_)
    refine WC.seq ?_
    refine WC.region ?_
    refine W.lit0 (e := eStr) sl25 ty9 zr9 rfl (fun v43 Ms44 ho45 => ?_)
    refine W.mv ?_
    refine W.app (e := eStr) sl25 ty9 zr9 rfl by9 rfl rfl (ho45) (h_a) (List.Perm.refl _) (by simpa using ha) (fun v46 Ms47 ho48 => ?_)
    refine W.as ?_
    refine W.nil (thn_n ?_)
    refine WC.giveO ho48 (List.Perm.refl _) (fun G49 hG49 hv49 => ?_)
    refine WC.ret ?_
    refine ⟨.inr rfl, [_], ⟨rfl, trivial⟩, [], List.nil_sublist _, ?_⟩
    refine ⟨rfl, _, rfl, ?_⟩
    · exact hv49

theorem clonei_fc {G : GH} {v_a : Value} {a : List Int} (h_a : SlR eInt G v_a a) :
    Fc Try.prog 132 [v_a] G [] (fun v G' M' => M' = [] ∧ ∃ u0, v = u0 ∧ SlR eInt G' u0 (a)) := by
  obtain ⟨sa_a, sc_a, rfl⟩ := h_a.form
  have ha := h_a.bytes
  refine Fc.intro (rs := [.tmp 2]) cl132 Try.func132 rfl Try.ntmps132 rfl rfl (fun w0 => ?_)
  refine WC.seq ?_
  refine WC.region ?_
  refine W.as ?_
  refine W.nil (thn_n ?_)
  refine WC.seq ?_
  refine WC.seq ?_
  refine WC.region ?_
  refine W.mv ?_
  refine W.ok (ok_eqlNil sl26 rfl rfl) ?_
  refine W.nil (thn_n ?_)
  refine WC.cond (b := _) rfl (fun h4 => ?_) (fun h4 => ?_)
  · have hn := SlR.isNone h_a h4
    subst hn
    refine WC.seq ?_
    refine WC.region ?_
    refine W.as ?_
    refine W.nil (thn_n ?_)
    refine WC.ret (thn_r ?_)
    refine ⟨.inr rfl, [_], ⟨rfl, trivial⟩, [], List.nil_sublist _, ?_⟩
    refine ⟨rfl, _, rfl, ?_⟩
    · exact SlR.nil
  · refine WC.skip (thn_n ?_)
    refine WC.seq ?_
    refine WC.region ?_
    refine W.lit0 (e := eInt) sl26 ty3 zr3 rfl (fun v50 Ms51 ho52 => ?_)
    refine W.mv ?_
    refine W.app (e := eInt) sl26 ty3 zr3 rfl by3 rfl rfl (ho52) (h_a) (List.Perm.refl _) (by simpa using ha) (fun v53 Ms54 ho55 => ?_)
    refine W.as ?_
    refine W.nil (thn_n ?_)
    refine WC.giveO ho55 (List.Perm.refl _) (fun G56 hG56 hv56 => ?_)
    refine WC.ret ?_
    refine ⟨.inr rfl, [_], ⟨rfl, trivial⟩, [], List.nil_sublist _, ?_⟩
    refine ⟨rfl, _, rfl, ?_⟩
    · exact hv56

theorem grows_fc {G : GH} (n : Nat) (hb : n * 16 ≤ 140737488355328) :
    Fc Try.prog 184 [.slice none 0 0, .int .i64 ((n : Nat) : Int)] G [] (fun v G' M' => OwnR eStr 9 G' v ([]) M') := by
  refine Fc.intro (rs := [.tmp 4]) cl184 Try.func184 rfl Try.ntmps184 rfl rfl (fun w0 => ?_)
  refine WC.seq ?_
  refine WC.region ?_
  refine W.as ?_
  refine W.nil (thn_n ?_)
  refine WC.seq ?_
  refine WC.seq ?_
  refine WC.region ?_
  refine W.mv ?_
  refine W.ok (ok_lss rfl rfl) ?_
  refine W.nil (thn_n ?_)
  refine WC.cond (b := _) rfl (fun h6 => ?_) (fun h6 => ?_)
  · have p6 := of_decide_eq_true h6
    exact absurd p6 (by omega)
  · have p6 := of_decide_eq_false h6
    refine WC.skip (thn_n ?_)
    refine WC.seq ?_
    refine WC.seq ?_
    refine WC.region ?_
    refine W.mv ?_
    refine W.mv ?_
    refine W.ok (ok_capNil sl25 rfl) ?_
    refine W.mv ?_
    refine W.ok (ok_len (e := eStr) sl25 SlR.nil rfl) ?_
    refine W.ok (ok_sub rfl rfl (by simp)) ?_
    refine W.ok (ok_sub rfl rfl (by simp; omega)) ?_
    refine W.as ?_
    refine W.nil (thn_n ?_)
    refine WC.seq ?_
    refine WC.region ?_
    refine W.mv ?_
    refine W.ok (ok_gtr rfl rfl) ?_
    refine W.nil (thn_n ?_)
    refine WC.cond (b := _) rfl (fun h16 => ?_) (fun h16 => ?_)
    · have p16 := of_decide_eq_true h16
      refine WC.region ?_
      refine W.mv ?_
      refine W.mv ?_
      refine W.ok (ok_capNil sl25 rfl) ?_
      refine W.ok (ok_sliceNil sl25 ty9 rfl rfl) ?_
      refine W.mv ?_
      refine W.appMake (e := eStr) (n := n) sl25 ty9 zr9 rfl by9 Try.underlying3 rfl (iv (by simp)) (by simp at p16; omega) hb rfl (fun b_1 c_1 Ms_1 ho_1 => ?_)
      refine W.mv ?_
      refine W.ok (ok_len (e := eStr) sl25 SlR.nil rfl) ?_
      refine W.ok (ok_slice0 sl25 ty9 rfl rfl) ?_
      refine W.as ?_
      refine W.nil (thn_n ?_)
      refine WC.seq ?_
      refine WC.region ?_
      refine W.mv ?_
      refine W.as ?_
      refine W.nil (thn_n ?_)
      refine WC.ret ?_
      refine ⟨.inr rfl, [_], ⟨rfl, trivial⟩, Ms_1, List.sublist_append_left _ _, ?_⟩
      exact ho_1
    · have p16 := of_decide_eq_false h16
      refine WC.skip (thn_n ?_)
      refine WC.seq ?_
      refine WC.region ?_
      refine W.mv ?_
      refine W.as ?_
      refine W.nil (thn_n ?_)
      refine WC.ret ?_
      refine ⟨.inr rfl, [_], ⟨rfl, trivial⟩, [], List.nil_sublist _, ?_⟩
      exact OwnR.nil

theorem growi_fc {G : GH} (n : Nat) (hb : n * 8 ≤ 140737488355328) :
    Fc Try.prog 185 [.slice none 0 0, .int .i64 ((n : Nat) : Int)] G [] (fun v G' M' => OwnR eInt 3 G' v ([]) M') := by
  refine Fc.intro (rs := [.tmp 4]) cl185 Try.func185 rfl Try.ntmps185 rfl rfl (fun w0 => ?_)
  refine WC.seq ?_
  refine WC.region ?_
  refine W.as ?_
  refine W.nil (thn_n ?_)
  refine WC.seq ?_
  refine WC.seq ?_
  refine WC.region ?_
  refine W.mv ?_
  refine W.ok (ok_lss rfl rfl) ?_
  refine W.nil (thn_n ?_)
  refine WC.cond (b := _) rfl (fun h6 => ?_) (fun h6 => ?_)
  · have p6 := of_decide_eq_true h6
    exact absurd p6 (by omega)
  · have p6 := of_decide_eq_false h6
    refine WC.skip (thn_n ?_)
    refine WC.seq ?_
    refine WC.seq ?_
    refine WC.region ?_
    refine W.mv ?_
    refine W.mv ?_
    refine W.ok (ok_capNil sl26 rfl) ?_
    refine W.mv ?_
    refine W.ok (ok_len (e := eInt) sl26 SlR.nil rfl) ?_
    refine W.ok (ok_sub rfl rfl (by simp)) ?_
    refine W.ok (ok_sub rfl rfl (by simp; omega)) ?_
    refine W.as ?_
    refine W.nil (thn_n ?_)
    refine WC.seq ?_
    refine WC.region ?_
    refine W.mv ?_
    refine W.ok (ok_gtr rfl rfl) ?_
    refine W.nil (thn_n ?_)
    refine WC.cond (b := _) rfl (fun h16 => ?_) (fun h16 => ?_)
    · have p16 := of_decide_eq_true h16
      refine WC.region ?_
      refine W.mv ?_
      refine W.mv ?_
      refine W.ok (ok_capNil sl26 rfl) ?_
      refine W.ok (ok_sliceNil sl26 ty3 rfl rfl) ?_
      refine W.mv ?_
      refine W.appMake (e := eInt) (n := n) sl26 ty3 zr3 rfl by3 Try.underlying3 rfl (iv (by simp)) (by simp at p16; omega) hb rfl (fun b_1 c_1 Ms_1 ho_1 => ?_)
      refine W.mv ?_
      refine W.ok (ok_len (e := eInt) sl26 SlR.nil rfl) ?_
      refine W.ok (ok_slice0 sl26 ty3 rfl rfl) ?_
      refine W.as ?_
      refine W.nil (thn_n ?_)
      refine WC.seq ?_
      refine WC.region ?_
      refine W.mv ?_
      refine W.as ?_
      refine W.nil (thn_n ?_)
      refine WC.ret ?_
      refine ⟨.inr rfl, [_], ⟨rfl, trivial⟩, Ms_1, List.sublist_append_left _ _, ?_⟩
      exact ho_1
    · have p16 := of_decide_eq_false h16
      refine WC.skip (thn_n ?_)
      refine WC.seq ?_
      refine WC.region ?_
      refine W.mv ?_
      refine W.as ?_
      refine W.nil (thn_n ?_)
      refine WC.ret ?_
      refine ⟨.inr rfl, [_], ⟨rfl, trivial⟩, [], List.nil_sublist _, ?_⟩
      exact OwnR.nil

theorem concats_fc {G : GH} {v_l : Value} {l : List (List Str)} (h_l : SlR (eSl eStr) G v_l l) (hb : l.flatten.length * 16 ≤ 140737488355328) :
    Fc Try.prog 133 [v_l] G [] (fun v G' M' => M' = [] ∧ ∃ u0, v = u0 ∧ SlR eStr G' u0 (l.flatten)) := by
  obtain ⟨sa_l, sc_l, rfl⟩ := h_l.form
  have hl := h_l.len47
  refine Fc.intro (rs := [.tmp 2]) cl133 Try.func133 rfl Try.ntmps133 rfl rfl (fun w0 => ?_)
  refine WC.seq ?_
  refine WC.region ?_
  refine W.as ?_
  refine W.nil (thn_n ?_)
  refine WC.seq ?_
  refine WC.region ?_
  refine W.as ?_
  refine W.nil (thn_n ?_)
  refine WC.seq ?_
  refine WC.seq ?_
  refine WC.region ?_
  refine W.mv ?_
  refine W.ok (ok_len sl224 h_l rfl) ?_
  refine W.mv ?_
  refine W.nil (thn_n ?_)
  refine WC.block ?_
  refine WC.loop (X := Nat) (fun j => [(3, .int .i64 (((l.take j).flatten.length : Nat) : Int)), (9, .slice sa_l l.length sc_l), (10, .int .i64 ((l.length : Nat) : Int)), (11, .int .i64 ((j : Nat) : Int)), (0, .slice sa_l l.length sc_l)]) (fun j _ Ml => Ml = [] ∧ j ≤ l.length) (fun j => l.length - j) 0 ⟨rfl, (by first | rfl | exact iv (by dsimp only; omega) | exact iv (by omega)), (by first | rfl | exact iv (by dsimp only; omega) | exact iv (by omega)), (by first | rfl | exact iv (by dsimp only; omega) | exact iv (by omega)), (by first | rfl | exact iv (by dsimp only; omega) | exact iv (by omega)), trivial⟩ ?_ ?_
  · exact ⟨rfl, by omega⟩
  · rintro j gG57 G57 _ hG57 ⟨rfl, hj⟩
    have hlj := flat_le l j
    have hlj2 := flat_le l (j + 1)
    refine WC.seq ?_
    refine WC.region ?_
    refine W.ok (ok_lss rfl rfl) ?_
    refine W.nil (thn_n ?_)
    refine WC.seq ?_
    refine WC.cond (b := _) rfl (fun h12 => ?_) (fun h12 => ?_)
    · have p12 := of_decide_eq_true h12
      have hjl := flat_len (l := l) (j := j) (by omega)
      refine WC.skip (thn_n ?_)
      refine WC.seq ?_
      refine WC.block ?_
      refine WC.seq ?_
      refine WC.region ?_
      obtain ⟨_, he58, ⟨_, rfl, hs59⟩⟩ := (h_l.mono hG57).at (i := j) (by omega)
      obtain ⟨_, _, rfl⟩ := hs59.form
      refine W.ok (ok_indexAddr (i := j) sl224 ty25 (h_l.mono hG57) rfl rfl ⟨by omega, by omega⟩) ?_
      refine W.ok (ok_loadE (vs := [.slice _ _ _]) ty25 he58 rfl rfl rfl (by simp)) ?_
      refine W.as ?_
      refine W.nil (thn_n ?_)
      refine WC.seq ?_
      refine WC.region ?_
      refine W.mv ?_
      refine W.mv ?_
      refine W.ok (ok_len sl25 hs59 rfl) ?_
      refine W.ok (ok_add rfl rfl (by omega)) ?_
      refine W.as ?_
      refine W.nil (thn_n ?_)
      refine WC.seq ?_
      refine WC.region ?_
      refine W.mv ?_
      refine W.ok (ok_lss rfl rfl) ?_
      refine W.nil (thn_n ?_)
      refine WC.cond (b := _) rfl (fun h20 => ?_) (fun h20 => ?_)
      · have p20 := of_decide_eq_true h20
        exact absurd p20 (by omega)
      · have p20 := of_decide_eq_false h20
        refine WC.skip (blk_n (thn_n ?_))
        refine WC.region ?_
        refine W.ok (ok_add rfl rfl (by omega)) ?_
        refine W.mv ?_
        refine W.nil (thn_n ?_)
        exact ⟨Le.rfl, j + 1, ⟨(iv (by rw [flat_len (by omega)]; omega)), (by first | rfl | exact iv (by dsimp only; omega) | exact iv (by omega)), (by first | rfl | exact iv (by dsimp only; omega) | exact iv (by omega)), (by first | rfl | exact iv (by dsimp only; omega) | exact iv (by omega)), (by first | rfl | exact iv (by dsimp only; omega) | exact iv (by omega)), trivial⟩, ⟨rfl, by omega⟩, by omega⟩
    · have p12 := of_decide_eq_false h12
      refine WC.exit (thn_x (thn_x (blk_h (thn_n ?_))))
      refine WC.seq ?_
      refine WC.region ?_
      refine W.mv ?_
      refine W.call (Mp := []) (grows_fc _ (by rw [flat_all (by omega)]; omega)) rfl (List.Perm.refl _) ?_
      rintro v61 G60 Ms62 hG60 ho63
      refine W.as ?_
      refine W.nil (thn_n ?_)
      refine WC.seq ?_
      refine WC.seq ?_
      refine WC.region ?_
      refine W.mv ?_
      refine W.ok (ok_len sl224 (h_l.mono (hG57.trans hG60)) rfl) ?_
      refine W.mv ?_
      refine W.nil (thn_n ?_)
      refine WC.block ?_
      refine WC.loop (X := (Nat) × Value × MH) (fun i => [(25, .slice sa_l l.length sc_l), (26, .int .i64 ((l.length : Nat) : Int)), (27, .int .i64 ((i.1 : Nat) : Int)), (6, i.2.1)]) (fun i G Ml => Ml = (i.2.2 ++ []) ∧ OwnR eStr 9 G i.2.1 ((l.take i.1).flatten) i.2.2 ∧ i.1 ≤ l.length) (fun i => l.length - i.1) (0, v61, Ms62) ⟨(by first | rfl | exact iv (by dsimp only; omega) | exact iv (by omega)), (by first | rfl | exact iv (by dsimp only; omega) | exact iv (by omega)), (by first | rfl | exact iv (by dsimp only; omega) | exact iv (by omega)), (by first | rfl | exact iv (by dsimp only; omega) | exact iv (by omega)), trivial⟩ ?_ ?_
      · exact ⟨rfl, (by simpa using ho63), by omega⟩
      · rintro ⟨i, v_6, M_6⟩ gG64 G64 _ hG64 ⟨rfl, ho_6, hi⟩
        have hli := flat_le l i
        have hli2 := flat_le l (i + 1)
        refine WC.seq ?_
        refine WC.region ?_
        refine W.ok (ok_lss rfl rfl) ?_
        refine W.nil (thn_n ?_)
        refine WC.seq ?_
        refine WC.cond (b := _) rfl (fun h28 => ?_) (fun h28 => ?_)
        · have p28 := of_decide_eq_true h28
          have hil := flat_len (l := l) (j := i) (by omega)
          refine WC.skip (thn_n ?_)
          refine WC.seq ?_
          refine WC.block ?_
          refine WC.seq ?_
          refine WC.region ?_
          obtain ⟨_, he65, ⟨_, rfl, hs66⟩⟩ := (h_l.mono ((hG57.trans hG60).trans hG64)).at (i := i) (by omega)
          obtain ⟨_, _, rfl⟩ := hs66.form
          refine W.ok (ok_indexAddr (i := i) sl224 ty25 (h_l.mono ((hG57.trans hG60).trans hG64)) rfl rfl ⟨by omega, by omega⟩) ?_
          refine W.ok (ok_loadE (vs := [.slice _ _ _]) ty25 he65 rfl rfl rfl (by simp)) ?_
          refine W.as ?_
          refine W.nil (thn_n ?_)
          refine WC.region ?_
          refine W.mv ?_
          refine W.mv ?_
          refine W.app (e := eStr) sl25 ty9 zr9 rfl by9 rfl rfl (ho_6) (hs66) (List.Perm.refl _) (by show ((l.take i).flatten.length + l[i].length) * 16 ≤ 140737488355328; omega) (fun v67 Ms68 ho69 => ?_)
          refine W.as ?_
          refine W.nil (blk_n (thn_n ?_))
          refine WC.region ?_
          refine W.ok (ok_add rfl rfl (by omega)) ?_
          refine W.mv ?_
          refine W.nil (thn_n ?_)
          exact ⟨Le.rfl, (i + 1, v67, Ms68), ⟨(by first | rfl | exact iv (by dsimp only; omega) | exact iv (by omega)), (by first | rfl | exact iv (by dsimp only; omega) | exact iv (by omega)), (by first | rfl | exact iv (by dsimp only; omega) | exact iv (by omega)), (by first | rfl | exact iv (by dsimp only; omega) | exact iv (by omega)), trivial⟩, ⟨rfl, (by have h := ho69; rw [flat_succ (by omega)]; exact h), by omega⟩, by omega⟩
        · have p28 := of_decide_eq_false h28
          refine WC.exit (thn_x (thn_x (blk_h (thn_n ?_))))
          refine WC.seq ?_
          refine WC.region ?_
          refine W.mv ?_
          refine W.as ?_
          refine W.nil (thn_n ?_)
          refine WC.giveO ho_6 (List.Perm.refl _) (fun G70 hG70 hv70 => ?_)
          refine WC.ret ?_
          refine ⟨.inr rfl, [_], ⟨rfl, trivial⟩, [], List.nil_sublist _, ?_⟩
          refine ⟨rfl, _, rfl, ?_⟩
          · have h := hv70; rw [flat_all (by omega)] at h; exact h

theorem concati_fc {G : GH} {v_l : Value} {l : List (List Int)} (h_l : SlR (eSl eInt) G v_l l) (hb : l.flatten.length * 8 ≤ 140737488355328) :
    Fc Try.prog 134 [v_l] G [] (fun v G' M' => M' = [] ∧ ∃ u0, v = u0 ∧ SlR eInt G' u0 (l.flatten)) := by
  obtain ⟨sa_l, sc_l, rfl⟩ := h_l.form
  have hl := h_l.len47
  refine Fc.intro (rs := [.tmp 2]) cl134 Try.func134 rfl Try.ntmps134 rfl rfl (fun w0 => ?_)
  refine WC.seq ?_
  refine WC.region ?_
  refine W.as ?_
  refine W.nil (thn_n ?_)
  refine WC.seq ?_
  refine WC.region ?_
  refine W.as ?_
  refine W.nil (thn_n ?_)
  refine WC.seq ?_
  refine WC.seq ?_
  refine WC.region ?_
  refine W.mv ?_
  refine W.ok (ok_len sl226 h_l rfl) ?_
  refine W.mv ?_
  refine W.nil (thn_n ?_)
  refine WC.block ?_
  refine WC.loop (X := Nat) (fun j => [(3, .int .i64 (((l.take j).flatten.length : Nat) : Int)), (9, .slice sa_l l.length sc_l), (10, .int .i64 ((l.length : Nat) : Int)), (11, .int .i64 ((j : Nat) : Int)), (0, .slice sa_l l.length sc_l)]) (fun j _ Ml => Ml = [] ∧ j ≤ l.length) (fun j => l.length - j) 0 ⟨rfl, (by first | rfl | exact iv (by dsimp only; omega) | exact iv (by omega)), (by first | rfl | exact iv (by dsimp only; omega) | exact iv (by omega)), (by first | rfl | exact iv (by dsimp only; omega) | exact iv (by omega)), (by first | rfl | exact iv (by dsimp only; omega) | exact iv (by omega)), trivial⟩ ?_ ?_
  · exact ⟨rfl, by omega⟩
  · rintro j gG71 G71 _ hG71 ⟨rfl, hj⟩
    have hlj := flat_le l j
    have hlj2 := flat_le l (j + 1)
    refine WC.seq ?_
    refine WC.region ?_
    refine W.ok (ok_lss rfl rfl) ?_
    refine W.nil (thn_n ?_)
    refine WC.seq ?_
    refine WC.cond (b := _) rfl (fun h12 => ?_) (fun h12 => ?_)
    · have p12 := of_decide_eq_true h12
      have hjl := flat_len (l := l) (j := j) (by omega)
      refine WC.skip (thn_n ?_)
      refine WC.seq ?_
      refine WC.block ?_
      refine WC.seq ?_
      refine WC.region ?_
      obtain ⟨_, he72, ⟨_, rfl, hs73⟩⟩ := (h_l.mono hG71).at (i := j) (by omega)
      obtain ⟨_, _, rfl⟩ := hs73.form
      refine W.ok (ok_indexAddr (i := j) sl226 ty26 (h_l.mono hG71) rfl rfl ⟨by omega, by omega⟩) ?_
      refine W.ok (ok_loadE (vs := [.slice _ _ _]) ty26 he72 rfl rfl rfl (by simp)) ?_
      refine W.as ?_
      refine W.nil (thn_n ?_)
      refine WC.seq ?_
      refine WC.region ?_
      refine W.mv ?_
      refine W.mv ?_
      refine W.ok (ok_len sl26 hs73 rfl) ?_
      refine W.ok (ok_add rfl rfl (by omega)) ?_
      refine W.as ?_
      refine W.nil (thn_n ?_)
      refine WC.seq ?_
      refine WC.region ?_
      refine W.mv ?_
      refine W.ok (ok_lss rfl rfl) ?_
      refine W.nil (thn_n ?_)
      refine WC.cond (b := _) rfl (fun h20 => ?_) (fun h20 => ?_)
      · have p20 := of_decide_eq_true h20
        exact absurd p20 (by omega)
      · have p20 := of_decide_eq_false h20
        refine WC.skip (blk_n (thn_n ?_))
        refine WC.region ?_
        refine W.ok (ok_add rfl rfl (by omega)) ?_
        refine W.mv ?_
        refine W.nil (thn_n ?_)
        exact ⟨Le.rfl, j + 1, ⟨(iv (by rw [flat_len (by omega)]; omega)), (by first | rfl | exact iv (by dsimp only; omega) | exact iv (by omega)), (by first | rfl | exact iv (by dsimp only; omega) | exact iv (by omega)), (by first | rfl | exact iv (by dsimp only; omega) | exact iv (by omega)), (by first | rfl | exact iv (by dsimp only; omega) | exact iv (by omega)), trivial⟩, ⟨rfl, by omega⟩, by omega⟩
    · have p12 := of_decide_eq_false h12
      refine WC.exit (thn_x (thn_x (blk_h (thn_n ?_))))
      refine WC.seq ?_
      refine WC.region ?_
      refine W.mv ?_
      refine W.call (Mp := []) (growi_fc _ (by rw [flat_all (by omega)]; omega)) rfl (List.Perm.refl _) ?_
      rintro v75 G74 Ms76 hG74 ho77
      refine W.as ?_
      refine W.nil (thn_n ?_)
      refine WC.seq ?_
      refine WC.seq ?_
      refine WC.region ?_
      refine W.mv ?_
      refine W.ok (ok_len sl226 (h_l.mono (hG71.trans hG74)) rfl) ?_
      refine W.mv ?_
      refine W.nil (thn_n ?_)
      refine WC.block ?_
      refine WC.loop (X := (Nat) × Value × MH) (fun i => [(25, .slice sa_l l.length sc_l), (26, .int .i64 ((l.length : Nat) : Int)), (27, .int .i64 ((i.1 : Nat) : Int)), (6, i.2.1)]) (fun i G Ml => Ml = (i.2.2 ++ []) ∧ OwnR eInt 3 G i.2.1 ((l.take i.1).flatten) i.2.2 ∧ i.1 ≤ l.length) (fun i => l.length - i.1) (0, v75, Ms76) ⟨(by first | rfl | exact iv (by dsimp only; omega) | exact iv (by omega)), (by first | rfl | exact iv (by dsimp only; omega) | exact iv (by omega)), (by first | rfl | exact iv (by dsimp only; omega) | exact iv (by omega)), (by first | rfl | exact iv (by dsimp only; omega) | exact iv (by omega)), trivial⟩ ?_ ?_
      · exact ⟨rfl, (by simpa using ho77), by omega⟩
      · rintro ⟨i, v_6, M_6⟩ gG78 G78 _ hG78 ⟨rfl, ho_6, hi⟩
        have hli := flat_le l i
        have hli2 := flat_le l (i + 1)
        refine WC.seq ?_
        refine WC.region ?_
        refine W.ok (ok_lss rfl rfl) ?_
        refine W.nil (thn_n ?_)
        refine WC.seq ?_
        refine WC.cond (b := _) rfl (fun h28 => ?_) (fun h28 => ?_)
        · have p28 := of_decide_eq_true h28
          have hil := flat_len (l := l) (j := i) (by omega)
          refine WC.skip (thn_n ?_)
          refine WC.seq ?_
          refine WC.block ?_
          refine WC.seq ?_
          refine WC.region ?_
          obtain ⟨_, he79, ⟨_, rfl, hs80⟩⟩ := (h_l.mono ((hG71.trans hG74).trans hG78)).at (i := i) (by omega)
          obtain ⟨_, _, rfl⟩ := hs80.form
          refine W.ok (ok_indexAddr (i := i) sl226 ty26 (h_l.mono ((hG71.trans hG74).trans hG78)) rfl rfl ⟨by omega, by omega⟩) ?_
          refine W.ok (ok_loadE (vs := [.slice _ _ _]) ty26 he79 rfl rfl rfl (by simp)) ?_
          refine W.as ?_
          refine W.nil (thn_n ?_)
          refine WC.region ?_
          refine W.mv ?_
          refine W.mv ?_
          refine W.app (e := eInt) sl26 ty3 zr3 rfl by3 rfl rfl (ho_6) (hs80) (List.Perm.refl _) (by show ((l.take i).flatten.length + l[i].length) * 8 ≤ 140737488355328; omega) (fun v81 Ms82 ho83 => ?_)
          refine W.as ?_
          refine W.nil (blk_n (thn_n ?_))
          refine WC.region ?_
          refine W.ok (ok_add rfl rfl (by omega)) ?_
          refine W.mv ?_
          refine W.nil (thn_n ?_)
          exact ⟨Le.rfl, (i + 1, v81, Ms82), ⟨(by first | rfl | exact iv (by dsimp only; omega) | exact iv (by omega)), (by first | rfl | exact iv (by dsimp only; omega) | exact iv (by omega)), (by first | rfl | exact iv (by dsimp only; omega) | exact iv (by omega)), (by first | rfl | exact iv (by dsimp only; omega) | exact iv (by omega)), trivial⟩, ⟨rfl, (by have h := ho83; rw [flat_succ (by omega)]; exact h), by omega⟩, by omega⟩
        · have p28 := of_decide_eq_false h28
          refine WC.exit (thn_x (thn_x (blk_h (thn_n ?_))))
          refine WC.seq ?_
          refine WC.region ?_
          refine W.mv ?_
          refine W.as ?_
          refine W.nil (thn_n ?_)
          refine WC.giveO ho_6 (List.Perm.refl _) (fun G84 hG84 hv84 => ?_)
          refine WC.ret ?_
          refine ⟨.inr rfl, [_], ⟨rfl, trivial⟩, [], List.nil_sublist _, ?_⟩
          refine ⟨rfl, _, rfl, ?_⟩
          · have h := hv84; rw [flat_all (by omega)] at h; exact h

end Go.Proofs.Ytmadhgdplocfbaa
