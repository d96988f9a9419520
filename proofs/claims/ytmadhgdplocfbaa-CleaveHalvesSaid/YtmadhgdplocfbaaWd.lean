/- Walks of functions on pairs and messages. -/
import Derived.Test.YtmadhgdplocfbaaWa
import Derived.Test.YtmadhgdplocfbaaWb
import Derived.Test.YtmadhgdplocfbaaMg
namespace Go.Proofs.Ytmadhgdplocfbaa
open Go Go.Fw Go.RowKit
set_option maxRecDepth 100000
set_option maxHeartbeats 1600000
set_option linter.unusedVariables false
theorem samep_fc {G : GH} {v_a : Value} {a : List Pair} (h_a : SlR ePair G v_a a) {v_b : Value} {b : List Pair} (h_b : SlR ePair G v_b b) :
    Fc Try.prog 35 [v_a, v_b] G [] (fun v _ _ => v = .bool (decide (a = b))) := by
  obtain ⟨sa_a, sc_a, rfl⟩ := h_a.form
  obtain ⟨sa_b, sc_b, rfl⟩ := h_b.form
  have ha := h_a.len47
  have hb := h_b.len47
  refine Fc.intro (rs := [.tmp 4]) cl35 Try.func35 rfl Try.ntmps35 rfl rfl (fun w0 => ?_)
  refine WC.seq ?_
  refine WC.region ?_
  refine W.as ?_
  refine W.nil (thn_n ?_)
  refine WC.seq ?_
  refine WC.seq ?_
  refine WC.region ?_
  refine W.mv ?_
  refine W.ok (ok_len sl42 h_a rfl) ?_
  refine W.mv ?_
  refine W.ok (ok_len sl42 h_b rfl) ?_
  refine W.ok (ok_neq rfl rfl) ?_
  refine W.nil (thn_n ?_)
  refine WC.cond (b := _) rfl (fun h10 => ?_) (fun h10 => ?_)
  · have p10 := nd_t h10
    refine WC.seq ?_
    refine WC.region ?_
    refine W.as ?_
    refine W.nil (thn_n ?_)
    refine WC.ret (thn_r ?_)
    refine ⟨.inr rfl, [_], ⟨rfl, trivial⟩, [], List.nil_sublist _, ?_⟩
    refine congrArg Value.bool ?_
    exact (decide_eq_false fun e => by subst e; omega).symm
  · have p10 := nd_f h10
    have hab : a.length = b.length := by omega
    refine WC.skip (thn_n ?_)
    refine WC.seq ?_
    refine WC.seq ?_
    refine WC.region ?_
    refine W.as ?_
    refine W.nil (thn_n ?_)
    refine WC.block ?_
    refine WC.loop (X := Nat) (fun k => [(5, .int .i64 ((k : Nat) : Int)), (0, .slice sa_a a.length sc_a), (1, .slice sa_b b.length sc_b)]) (fun k _ Ml => Ml = [] ∧ k ≤ a.length ∧ ∀ i (h : i < a.length) (h2 : i < b.length), i < k → a[i] = b[i]) (fun k => a.length - k) 0 ⟨(by first | rfl | exact iv (by dsimp only; omega) | exact iv (by omega)), (by first | rfl | exact iv (by dsimp only; omega) | exact iv (by omega)), (by first | rfl | exact iv (by dsimp only; omega) | exact iv (by omega)), trivial⟩ ?_ ?_
    · exact ⟨rfl, by omega, fun i _ _ h => by omega⟩
    · rintro k gG65 G65 _ hG65 ⟨rfl, hk0, hk⟩
      refine WC.seq ?_
      refine WC.seq ?_
      refine WC.region ?_
      refine W.mv ?_
      refine W.mv ?_
      refine W.ok (ok_len sl42 (h_a.mono hG65) rfl) ?_
      refine W.ok (ok_lss rfl rfl) ?_
      refine W.nil (thn_n ?_)
      refine WC.cond (b := _) rfl (fun h14 => ?_) (fun h14 => ?_)
      · have p14 := of_decide_eq_true h14
        refine WC.skip (thn_n ?_)
        refine WC.seq ?_
        refine WC.block ?_
        refine WC.seq ?_
        refine WC.draw mix (by kernel_rfl) ?_
        refine W.mv ?_
        refine W.mv ?_
        have q68 := (h_a.mono hG65).at (i := k) (by omega)
        refine match q68 with | ⟨_, he66, e_67⟩ => ?_
        subst e_67
        refine W.ok (ok_indexAddr (i := k) sl42 ty127 (h_a.mono hG65) rfl rfl ⟨by omega, by omega⟩) ?_
        refine W.ok (ok_loadE (vs := [.string _, .string _]) ty127 he66 rfl rfl rfl (by simp)) ?_
        refine W.mv ?_
        refine W.mv ?_
        have q71 := (h_b.mono hG65).at (i := k) (by omega)
        refine match q71 with | ⟨_, he69, e_70⟩ => ?_
        subst e_70
        refine W.ok (ok_indexAddr (i := k) sl42 ty127 (h_b.mono hG65) rfl rfl ⟨by omega, by omega⟩) ?_
        refine W.ok (ok_loadE (vs := [.string _, .string _]) ty127 he69 rfl rfl rfl (by simp)) ?_
        refine W.ok (ok_neqA (L1 := [.string _, .string _]) (L2 := [.string _, .string _]) eq127 rfl rfl rfl rfl) ?_
        refine W.nil (thn_n ?_)
        refine WC.cond (b := _) rfl (fun h25 => ?_) (fun h25 => ?_)
        · refine WC.seq ?_
          refine WC.region ?_
          refine W.as ?_
          refine W.nil (thn_n ?_)
          refine WC.ret (blk_r (thn_r (thn_r (blk_r (thn_r ?_)))))
          refine ⟨.inr rfl, [_], ⟨rfl, trivial⟩, [], List.nil_sublist _, ?_⟩
          refine congrArg Value.bool ?_
          exact (decide_eq_false fun e => by subst e; exact Pair.ne_of h25 rfl).symm
        · refine WC.skip (blk_n (thn_n ?_))
          refine WC.region ?_
          refine W.mv ?_
          refine W.ok (ok_add rfl rfl (by omega)) ?_
          refine W.as ?_
          refine W.nil (thn_n ?_)
          exact ⟨Le.rfl, k + 1, ⟨(by first | rfl | exact iv (by dsimp only; omega) | exact iv (by omega)), (by first | rfl | exact iv (by dsimp only; omega) | exact iv (by omega)), (by first | rfl | exact iv (by dsimp only; omega) | exact iv (by omega)), trivial⟩, ⟨rfl, by omega, fun i h h2 hi => by
      by_cases e : i = k
      · subst e; exact Pair.eq_of h25
      · exact hk i h h2 (by omega)⟩, by omega⟩
      · have p14 := of_decide_eq_false h14
        refine WC.exit (thn_x (thn_x (blk_h (thn_n ?_))))
        refine WC.seq ?_
        refine WC.region ?_
        refine W.as ?_
        refine W.nil (thn_n ?_)
        refine WC.ret ?_
        refine ⟨.inr rfl, [_], ⟨rfl, trivial⟩, [], List.nil_sublist _, ?_⟩
        refine congrArg Value.bool ?_
        exact (decide_eq_true (List.ext_getElem (by omega) fun i h h2 => hk i h h2 (by omega))).symm

theorem samem_fc {G : GH} {v_a : Value} {a : List Msg} (h_a : SlR eMsg G v_a a) {v_b : Value} {b : List Msg} (h_b : SlR eMsg G v_b b) :
    Fc Try.prog 113 [v_a, v_b] G [] (fun v _ _ => v = .bool (decide (a = b))) := by
  obtain ⟨sa_a, sc_a, rfl⟩ := h_a.form
  obtain ⟨sa_b, sc_b, rfl⟩ := h_b.form
  have ha := h_a.len47
  have hb := h_b.len47
  refine Fc.intro (rs := [.tmp 4]) cl113 Try.func113 rfl Try.ntmps113 rfl rfl (fun w0 => ?_)
  refine WC.seq ?_
  refine WC.region ?_
  refine W.as ?_
  refine W.nil (thn_n ?_)
  refine WC.seq ?_
  refine WC.seq ?_
  refine WC.region ?_
  refine W.mv ?_
  refine W.ok (ok_len sl43 h_a rfl) ?_
  refine W.mv ?_
  refine W.ok (ok_len sl43 h_b rfl) ?_
  refine W.ok (ok_neq rfl rfl) ?_
  refine W.nil (thn_n ?_)
  refine WC.cond (b := _) rfl (fun h10 => ?_) (fun h10 => ?_)
  · have p10 := nd_t h10
    refine WC.seq ?_
    refine WC.region ?_
    refine W.as ?_
    refine W.nil (thn_n ?_)
    refine WC.ret (thn_r ?_)
    refine ⟨.inr rfl, [_], ⟨rfl, trivial⟩, [], List.nil_sublist _, ?_⟩
    refine congrArg Value.bool ?_
    exact (decide_eq_false fun e => by subst e; omega).symm
  · have p10 := nd_f h10
    have hab : a.length = b.length := by omega
    refine WC.skip (thn_n ?_)
    refine WC.seq ?_
    refine WC.seq ?_
    refine WC.region ?_
    refine W.as ?_
    refine W.nil (thn_n ?_)
    refine WC.block ?_
    refine WC.loop (X := Nat) (fun k => [(5, .int .i64 ((k : Nat) : Int)), (0, .slice sa_a a.length sc_a), (1, .slice sa_b b.length sc_b)]) (fun k _ Ml => Ml = [] ∧ k ≤ a.length ∧ ∀ i (h : i < a.length) (h2 : i < b.length), i < k → a[i] = b[i]) (fun k => a.length - k) 0 ⟨(by first | rfl | exact iv (by dsimp only; omega) | exact iv (by omega)), (by first | rfl | exact iv (by dsimp only; omega) | exact iv (by omega)), (by first | rfl | exact iv (by dsimp only; omega) | exact iv (by omega)), trivial⟩ ?_ ?_
    · exact ⟨rfl, by omega, fun i _ _ h => by omega⟩
    · rintro k gG72 G72 _ hG72 ⟨rfl, hk0, hk⟩
      refine WC.seq ?_
      refine WC.seq ?_
      refine WC.region ?_
      refine W.mv ?_
      refine W.mv ?_
      refine W.ok (ok_len sl43 (h_a.mono hG72) rfl) ?_
      refine W.ok (ok_lss rfl rfl) ?_
      refine W.nil (thn_n ?_)
      refine WC.cond (b := _) rfl (fun h14 => ?_) (fun h14 => ?_)
      · have p14 := of_decide_eq_true h14
        refine WC.skip (thn_n ?_)
        refine WC.seq ?_
        refine WC.block ?_
        refine WC.seq ?_
        refine WC.draw mix (by kernel_rfl) ?_
        refine W.mv ?_
        refine W.mv ?_
        have q77 := (h_a.mono hG72).at (i := k) (by omega)
        refine match q77 with | ⟨_, he73, ⟨e_76, hm74⟩⟩ => ?_
        subst e_76
        refine W.ok (ok_indexAddr (i := k) sl43 ty167 (h_a.mono hG72) rfl rfl ⟨by omega, by omega⟩) ?_
        refine W.ok (ok_loadE (vs := [.int .i64 _, .int .i64 _, .string _, .string _, .bool _, .string _]) ty167 he73 rfl rfl rfl (by simp)) ?_
        refine W.mv ?_
        refine W.mv ?_
        have q82 := (h_b.mono hG72).at (i := k) (by omega)
        refine match q82 with | ⟨_, he78, ⟨e_81, hm79⟩⟩ => ?_
        subst e_81
        refine W.ok (ok_indexAddr (i := k) sl43 ty167 (h_b.mono hG72) rfl rfl ⟨by omega, by omega⟩) ?_
        refine W.ok (ok_loadE (vs := [.int .i64 _, .int .i64 _, .string _, .string _, .bool _, .string _]) ty167 he78 rfl rfl rfl (by simp)) ?_
        refine W.ok (ok_neqA (L1 := [.int .i64 _, .int .i64 _, .string _, .string _, .bool _, .string _]) (L2 := [.int .i64 _, .int .i64 _, .string _, .string _, .bool _, .string _]) eq167 rfl rfl rfl rfl) ?_
        refine W.nil (thn_n ?_)
        refine WC.cond (b := _) rfl (fun h25 => ?_) (fun h25 => ?_)
        · refine WC.seq ?_
          refine WC.region ?_
          refine W.as ?_
          refine W.nil (thn_n ?_)
          refine WC.ret (blk_r (thn_r (thn_r (blk_r (thn_r ?_)))))
          refine ⟨.inr rfl, [_], ⟨rfl, trivial⟩, [], List.nil_sublist _, ?_⟩
          refine congrArg Value.bool ?_
          exact (decide_eq_false fun e => by subst e; exact Msg.ne_of h25 rfl).symm
        · refine WC.skip (blk_n (thn_n ?_))
          refine WC.region ?_
          refine W.mv ?_
          refine W.ok (ok_add rfl rfl (by omega)) ?_
          refine W.as ?_
          refine W.nil (thn_n ?_)
          exact ⟨Le.rfl, k + 1, ⟨(by first | rfl | exact iv (by dsimp only; omega) | exact iv (by omega)), (by first | rfl | exact iv (by dsimp only; omega) | exact iv (by omega)), (by first | rfl | exact iv (by dsimp only; omega) | exact iv (by omega)), trivial⟩, ⟨rfl, by omega, fun i h h2 hi => by
      by_cases e : i = k
      · subst e; exact Msg.eq_of h25
      · exact hk i h h2 (by omega)⟩, by omega⟩
      · have p14 := of_decide_eq_false h14
        refine WC.exit (thn_x (thn_x (blk_h (thn_n ?_))))
        refine WC.seq ?_
        refine WC.region ?_
        refine W.as ?_
        refine W.nil (thn_n ?_)
        refine WC.ret ?_
        refine ⟨.inr rfl, [_], ⟨rfl, trivial⟩, [], List.nil_sublist _, ?_⟩
        refine congrArg Value.bool ?_
        exact (decide_eq_true (List.ext_getElem (by omega) fun i h h2 => hk i h h2 (by omega))).symm

theorem clonep_fc {G : GH} {v_a : Value} {a : List Pair} (h_a : SlR ePair G v_a a) :
    Fc Try.prog 194 [v_a] G [] (fun v G' M' => M' = [] ∧ ∃ u0, v = u0 ∧ SlR ePair G' u0 (a)) := by
  obtain ⟨sa_a, sc_a, rfl⟩ := h_a.form
  have ha := h_a.bytes
  refine Fc.intro (rs := [.tmp 2]) cl194 Try.func194 rfl Try.ntmps194 rfl rfl (fun w0 => ?_)
  refine WC.seq ?_
  refine WC.region ?_
  refine W.as ?_
  refine W.nil (thn_n ?_)
  refine WC.seq ?_
  refine WC.seq ?_
  refine WC.region ?_
  refine W.mv ?_
  refine W.ok (ok_eqlNil sl42 rfl rfl) ?_
  refine W.nil (thn_n ?_)
  refine WC.cond (b := _) rfl (fun h4 => ?_) (fun h4 => ?_)
  · have hn := SlR.isNone h_a h4
    subst hn
    refine WC.seq ?_
    refine WC.region ?_
    refine W.as ?_
    refine W.nil (thn_n ?_)
    refine WC.ret (thn_r ?_)
    refine ⟨.inr rfl, [_], ⟨rfl, trivial⟩, [], List.nil_sublist _, ?_⟩
    refine ⟨rfl, _, rfl, ?_⟩
    · exact SlR.nil
  · refine WC.skip (thn_n ?_)
    refine WC.seq ?_
    refine WC.region ?_
    refine W.lit0 (e := ePair) sl42 ty127 zr127 rfl (fun v83 Ms84 ho85 => ?_)
    refine W.mv ?_
    refine W.app (e := ePair) sl42 ty127 zr127 rfl by127 rfl rfl (ho85) (h_a) (List.Perm.refl _) (by simpa using ha) (fun v86 Ms87 ho88 => ?_)
    refine W.as ?_
    refine W.nil (thn_n ?_)
    refine WC.giveO ho88 (List.Perm.refl _) (fun G89 hG89 hv89 => ?_)
    refine WC.ret ?_
    refine ⟨.inr rfl, [_], ⟨rfl, trivial⟩, [], List.nil_sublist _, ?_⟩
    refine ⟨rfl, _, rfl, ?_⟩
    · exact hv89

theorem clonem_fc {G : GH} {v_a : Value} {a : List Msg} (h_a : SlR eMsg G v_a a) :
    Fc Try.prog 193 [v_a] G [] (fun v G' M' => M' = [] ∧ ∃ u0, v = u0 ∧ SlR eMsg G' u0 (a)) := by
  obtain ⟨sa_a, sc_a, rfl⟩ := h_a.form
  have ha := h_a.bytes
  refine Fc.intro (rs := [.tmp 2]) cl193 Try.func193 rfl Try.ntmps193 rfl rfl (fun w0 => ?_)
  refine WC.seq ?_
  refine WC.region ?_
  refine W.as ?_
  refine W.nil (thn_n ?_)
  refine WC.seq ?_
  refine WC.seq ?_
  refine WC.region ?_
  refine W.mv ?_
  refine W.ok (ok_eqlNil sl43 rfl rfl) ?_
  refine W.nil (thn_n ?_)
  refine WC.cond (b := _) rfl (fun h4 => ?_) (fun h4 => ?_)
  · have hn := SlR.isNone h_a h4
    subst hn
    refine WC.seq ?_
    refine WC.region ?_
    refine W.as ?_
    refine W.nil (thn_n ?_)
    refine WC.ret (thn_r ?_)
    refine ⟨.inr rfl, [_], ⟨rfl, trivial⟩, [], List.nil_sublist _, ?_⟩
    refine ⟨rfl, _, rfl, ?_⟩
    · exact SlR.nil
  · refine WC.skip (thn_n ?_)
    refine WC.seq ?_
    refine WC.region ?_
    refine W.lit0 (e := eMsg) sl43 ty167 zr167 rfl (fun v90 Ms91 ho92 => ?_)
    refine W.mv ?_
    refine W.app (e := eMsg) sl43 ty167 zr167 rfl by167 rfl rfl (ho92) (h_a) (List.Perm.refl _) (by simpa using ha) (fun v93 Ms94 ho95 => ?_)
    refine W.as ?_
    refine W.nil (thn_n ?_)
    refine WC.giveO ho95 (List.Perm.refl _) (fun G96 hG96 hv96 => ?_)
    refine WC.ret ?_
    refine ⟨.inr rfl, [_], ⟨rfl, trivial⟩, [], List.nil_sublist _, ?_⟩
    refine ⟨rfl, _, rfl, ?_⟩
    · exact hv96

theorem longp_fc {G : GH} {v_l : Value} {l : List Pair} (h_l : SlR ePair G v_l l) (m : Int) (hm : 0 ≤ m ∧ m ≤ 1073741824) :
    Fc Try.prog 43 [v_l, .int .i64 m] G [] (fun v _ _ => v = .bool (decide (longG Pair.w l 0 m ≤ m))) := by
  obtain ⟨sa_l, sc_l, rfl⟩ := h_l.form
  have hl := h_l.len47
  refine Fc.intro (rs := [.tmp 4]) cl43 Try.func43 rfl Try.ntmps43 rfl rfl (fun w0 => ?_)
  refine WC.seq ?_
  refine WC.region ?_
  refine W.as ?_
  refine W.nil (thn_n ?_)
  refine WC.seq ?_
  refine WC.region ?_
  refine W.as ?_
  refine W.nil (thn_n ?_)
  refine WC.seq ?_
  refine WC.seq ?_
  refine WC.region ?_
  refine W.as ?_
  refine W.nil (thn_n ?_)
  refine WC.block ?_
  refine WC.loop (X := Nat × Int) (fun x => [(5, .int .i64 x.2), (6, .int .i64 ((x.1 : Nat) : Int)), (0, .slice sa_l l.length sc_l), (1, .int .i64 m)]) (fun x _ Ml => Ml = [] ∧ x.1 ≤ l.length ∧ 0 ≤ x.2 ∧ x.2 ≤ 1125899906842624 ∧ longG Pair.w (l.drop x.1) x.2 m = longG Pair.w l 0 m) (fun x => l.length - x.1) (0, 0) ⟨(by first | rfl | exact iv (by dsimp only; omega) | exact iv (by omega)), (by first | rfl | exact iv (by dsimp only; omega) | exact iv (by omega)), (by first | rfl | exact iv (by dsimp only; omega) | exact iv (by omega)), (by first | rfl | exact iv (by dsimp only; omega) | exact iv (by omega)), trivial⟩ ?_ ?_
  · exact ⟨rfl, by simp, by simp, by simp, by simp⟩
  · rintro ⟨k, n⟩ gG97 G97 _ hG97 ⟨rfl, hk, hn, hn2, hlg⟩
    dsimp only at hk hn hn2 hlg
    refine WC.seq ?_
    refine WC.seq ?_
    refine WC.region ?_
    refine W.mv ?_
    refine W.mv ?_
    refine W.ok (ok_len sl42 (h_l.mono hG97) rfl) ?_
    refine W.ok (ok_lss rfl rfl) ?_
    refine W.mv ?_
    refine W.sp 11 rfl (fun h10 => ?_) (fun h10 => ?_)
    · have p10 := of_decide_eq_true h10
      refine W.yes (dj := 11) rfl rfl h10 ?_
      refine W.mv ?_
      refine W.yes (dj := 11) rfl rfl h10 ?_
      refine W.mv ?_
      refine W.yes (dj := 11) rfl rfl h10 ?_
      refine W.ok (ok_leq rfl rfl) ?_
      refine W.ok (ok_pick_t rfl h10) ?_
      refine W.nil (thn_n ?_)
      refine WC.cond (b := _) rfl (fun h14 => ?_) (fun h14 => ?_)
      · have p14 := of_decide_eq_true h14
        refine WC.skip (thn_n ?_)
        refine WC.seq ?_
        refine WC.block ?_
        refine WC.draw mix (by kernel_rfl) ?_
        refine W.mv ?_
        refine W.mv ?_
        refine W.mv ?_
        have q100 := (h_l.mono hG97).at (i := k) (by omega)
        refine match q100 with | ⟨_, he98, e_99⟩ => ?_
        subst e_99
        refine W.ok (ok_indexAddr (i := k) sl42 ty127 (h_l.mono hG97) rfl rfl ⟨by dsimp only, by omega⟩) ?_
        refine W.ok (ok_fieldE fd127_0 rfl he98.form) ?_
        refine W.ok (ok_loadE (vs := [.string _]) ty9 he98 rfl rfl rfl (by simp)) ?_
        refine W.ok (ok_lenS st9 rfl) ?_
        refine W.ok (ok_add rfl rfl (by have := (l[k]).key.le; have := (l[k]).val.le; omega)) ?_
        refine W.mv ?_
        refine W.mv ?_
        have q103 := (h_l.mono hG97).at (i := k) (by omega)
        refine match q103 with | ⟨_, he101, e_102⟩ => ?_
        subst e_102
        refine W.ok (ok_indexAddr (i := k) sl42 ty127 (h_l.mono hG97) rfl rfl ⟨by dsimp only, by omega⟩) ?_
        refine W.ok (ok_fieldE fd127_1 rfl he101.form) ?_
        refine W.ok (ok_loadE (vs := [.string _]) ty9 he101 rfl rfl rfl (by simp)) ?_
        refine W.ok (ok_lenS st9 rfl) ?_
        refine W.ok (ok_add rfl rfl (by have := (l[k]).key.le; have := (l[k]).val.le; omega)) ?_
        refine W.ok (ok_add rfl rfl (by have := (l[k]).key.le; have := (l[k]).val.le; dsimp only; omega)) ?_
        refine W.as ?_
        refine W.nil (blk_n (thn_n ?_))
        refine WC.region ?_
        refine W.mv ?_
        refine W.ok (ok_add rfl rfl (by dsimp only; omega)) ?_
        refine W.as ?_
        refine W.nil (thn_n ?_)
        exact ⟨Le.rfl, (k + 1, n + Pair.w l[k]), ⟨(by first | rfl | exact iv (by dsimp only [Pair.w]) | exact iv (by dsimp only [Pair.w]; omega)), (by first | rfl | exact iv (by dsimp only; omega) | exact iv (by omega)), (by first | rfl | exact iv (by dsimp only; omega) | exact iv (by omega)), (by first | rfl | exact iv (by dsimp only; omega) | exact iv (by omega)), trivial⟩, ⟨rfl, by dsimp only; omega, by have := Pair.w_pos l[k]; dsimp only; omega, by have := Pair.w_le l[k]; dsimp only; omega, (longG_step (by omega) p14).symm.trans hlg⟩, by dsimp only; omega⟩
      · have p14 := of_decide_eq_false h14
        refine WC.exit (thn_x (thn_x (blk_h (thn_n ?_))))
        refine WC.seq ?_
        refine WC.region ?_
        refine W.mv ?_
        refine W.mv ?_
        refine W.ok (ok_leq rfl rfl) ?_
        refine W.as ?_
        refine W.nil (thn_n ?_)
        refine WC.ret ?_
        refine ⟨.inr rfl, [_], ⟨rfl, trivial⟩, [], List.nil_sublist _, ?_⟩
        refine congrArg Value.bool ?_
        rw [← hlg]
        rw [longG_stop (by omega)]
    · have p10 := of_decide_eq_false h10
      refine W.no (dj := 11) rfl rfl h10 ?_
      refine W.no (dj := 11) rfl rfl h10 ?_
      refine W.no (dj := 11) rfl rfl h10 ?_
      refine W.ok (ok_pick_f rfl h10) ?_
      refine W.nil (thn_n ?_)
      refine WC.cond_f rfl rfl ?_
      refine WC.exit (thn_x (thn_x (blk_h (thn_n ?_))))
      refine WC.seq ?_
      refine WC.region ?_
      refine W.mv ?_
      refine W.mv ?_
      refine W.ok (ok_leq rfl rfl) ?_
      refine W.as ?_
      refine W.nil (thn_n ?_)
      refine WC.ret ?_
      refine ⟨.inr rfl, [_], ⟨rfl, trivial⟩, [], List.nil_sublist _, ?_⟩
      refine congrArg Value.bool ?_
      rw [← hlg]
      rw [longG_end (by omega)]

theorem few_fc {G : GH} {v_l : Value} {l : List Msg} (h_l : SlR eMsg G v_l l) (m : Int) (hm : 0 ≤ m ∧ m ≤ 1073741824) :
    Fc Try.prog 45 [v_l, .int .i64 m] G [] (fun v _ _ => v = .bool (decide (longG Msg.w l 0 m ≤ m))) := by
  obtain ⟨sa_l, sc_l, rfl⟩ := h_l.form
  have hl := h_l.len47
  refine Fc.intro (rs := [.tmp 4]) cl45 Try.func45 rfl Try.ntmps45 rfl rfl (fun w0 => ?_)
  refine WC.seq ?_
  refine WC.region ?_
  refine W.as ?_
  refine W.nil (thn_n ?_)
  refine WC.seq ?_
  refine WC.region ?_
  refine W.as ?_
  refine W.nil (thn_n ?_)
  refine WC.seq ?_
  refine WC.seq ?_
  refine WC.region ?_
  refine W.as ?_
  refine W.nil (thn_n ?_)
  refine WC.block ?_
  refine WC.loop (X := Nat × Int) (fun x => [(5, .int .i64 x.2), (6, .int .i64 ((x.1 : Nat) : Int)), (0, .slice sa_l l.length sc_l), (1, .int .i64 m)]) (fun x _ Ml => Ml = [] ∧ x.1 ≤ l.length ∧ 0 ≤ x.2 ∧ x.2 ≤ 1125899906842624 ∧ longG Msg.w (l.drop x.1) x.2 m = longG Msg.w l 0 m) (fun x => l.length - x.1) (0, 0) ⟨(by first | rfl | exact iv (by dsimp only; omega) | exact iv (by omega)), (by first | rfl | exact iv (by dsimp only; omega) | exact iv (by omega)), (by first | rfl | exact iv (by dsimp only; omega) | exact iv (by omega)), (by first | rfl | exact iv (by dsimp only; omega) | exact iv (by omega)), trivial⟩ ?_ ?_
  · exact ⟨rfl, by simp, by simp, by simp, by simp⟩
  · rintro ⟨k, n⟩ gG104 G104 _ hG104 ⟨rfl, hk, hn, hn2, hlg⟩
    dsimp only at hk hn hn2 hlg
    refine WC.seq ?_
    refine WC.seq ?_
    refine WC.region ?_
    refine W.mv ?_
    refine W.mv ?_
    refine W.ok (ok_len sl43 (h_l.mono hG104) rfl) ?_
    refine W.ok (ok_lss rfl rfl) ?_
    refine W.mv ?_
    refine W.sp 11 rfl (fun h10 => ?_) (fun h10 => ?_)
    · have p10 := of_decide_eq_true h10
      refine W.yes (dj := 11) rfl rfl h10 ?_
      refine W.mv ?_
      refine W.yes (dj := 11) rfl rfl h10 ?_
      refine W.mv ?_
      refine W.yes (dj := 11) rfl rfl h10 ?_
      refine W.ok (ok_leq rfl rfl) ?_
      refine W.ok (ok_pick_t rfl h10) ?_
      refine W.nil (thn_n ?_)
      refine WC.cond (b := _) rfl (fun h14 => ?_) (fun h14 => ?_)
      · have p14 := of_decide_eq_true h14
        refine WC.skip (thn_n ?_)
        refine WC.seq ?_
        refine WC.block ?_
        refine WC.draw mix (by kernel_rfl) ?_
        refine W.mv ?_
        refine W.mv ?_
        refine W.mv ?_
        have q109 := (h_l.mono hG104).at (i := k) (by omega)
        refine match q109 with | ⟨_, he105, ⟨e_108, hm106⟩⟩ => ?_
        subst e_108
        refine W.ok (ok_indexAddr (i := k) sl43 ty167 (h_l.mono hG104) rfl rfl ⟨by dsimp only, by omega⟩) ?_
        refine W.ok (ok_fieldE fd167_2 rfl he105.form) ?_
        refine W.ok (ok_loadE (vs := [.string _]) ty9 he105 rfl rfl rfl (by simp)) ?_
        refine W.ok (ok_lenS st9 rfl) ?_
        refine W.ok (ok_add rfl rfl (by have := (l[k]).key.le; have := (l[k]).val.le; have := (l[k]).hi.le; omega)) ?_
        refine W.mv ?_
        refine W.mv ?_
        have q114 := (h_l.mono hG104).at (i := k) (by omega)
        refine match q114 with | ⟨_, he110, ⟨e_113, hm111⟩⟩ => ?_
        subst e_113
        refine W.ok (ok_indexAddr (i := k) sl43 ty167 (h_l.mono hG104) rfl rfl ⟨by dsimp only, by omega⟩) ?_
        refine W.ok (ok_fieldE fd167_3 rfl he110.form) ?_
        refine W.ok (ok_loadE (vs := [.string _]) ty9 he110 rfl rfl rfl (by simp)) ?_
        refine W.ok (ok_lenS st9 rfl) ?_
        refine W.ok (ok_add rfl rfl (by have := (l[k]).key.le; have := (l[k]).val.le; have := (l[k]).hi.le; omega)) ?_
        refine W.mv ?_
        refine W.mv ?_
        have q119 := (h_l.mono hG104).at (i := k) (by omega)
        refine match q119 with | ⟨_, he115, ⟨e_118, hm116⟩⟩ => ?_
        subst e_118
        refine W.ok (ok_indexAddr (i := k) sl43 ty167 (h_l.mono hG104) rfl rfl ⟨by dsimp only, by omega⟩) ?_
        refine W.ok (ok_fieldE fd167_5 rfl he115.form) ?_
        refine W.ok (ok_loadE (vs := [.string _]) ty9 he115 rfl rfl rfl (by simp)) ?_
        refine W.ok (ok_lenS st9 rfl) ?_
        refine W.ok (ok_add rfl rfl (by have := (l[k]).key.le; have := (l[k]).val.le; have := (l[k]).hi.le; omega)) ?_
        refine W.ok (ok_add rfl rfl (by have := (l[k]).key.le; have := (l[k]).val.le; have := (l[k]).hi.le; dsimp only; omega)) ?_
        refine W.as ?_
        refine W.nil (blk_n (thn_n ?_))
        refine WC.region ?_
        refine W.mv ?_
        refine W.ok (ok_add rfl rfl (by dsimp only; omega)) ?_
        refine W.as ?_
        refine W.nil (thn_n ?_)
        exact ⟨Le.rfl, (k + 1, n + Msg.w l[k]), ⟨(by first | rfl | exact iv (by dsimp only [Msg.w]) | exact iv (by dsimp only [Msg.w]; omega)), (by first | rfl | exact iv (by dsimp only; omega) | exact iv (by omega)), (by first | rfl | exact iv (by dsimp only; omega) | exact iv (by omega)), (by first | rfl | exact iv (by dsimp only; omega) | exact iv (by omega)), trivial⟩, ⟨rfl, by dsimp only; omega, by have := Msg.w_pos l[k]; dsimp only; omega, by have := Msg.w_le l[k]; dsimp only; omega, (longG_step (by omega) p14).symm.trans hlg⟩, by dsimp only; omega⟩
      · have p14 := of_decide_eq_false h14
        refine WC.exit (thn_x (thn_x (blk_h (thn_n ?_))))
        refine WC.seq ?_
        refine WC.region ?_
        refine W.mv ?_
        refine W.mv ?_
        refine W.ok (ok_leq rfl rfl) ?_
        refine W.as ?_
        refine W.nil (thn_n ?_)
        refine WC.ret ?_
        refine ⟨.inr rfl, [_], ⟨rfl, trivial⟩, [], List.nil_sublist _, ?_⟩
        refine congrArg Value.bool ?_
        rw [← hlg]
        rw [longG_stop (by omega)]
    · have p10 := of_decide_eq_false h10
      refine W.no (dj := 11) rfl rfl h10 ?_
      refine W.no (dj := 11) rfl rfl h10 ?_
      refine W.no (dj := 11) rfl rfl h10 ?_
      refine W.ok (ok_pick_f rfl h10) ?_
      refine W.nil (thn_n ?_)
      refine WC.cond_f rfl rfl ?_
      refine WC.exit (thn_x (thn_x (blk_h (thn_n ?_))))
      refine WC.seq ?_
      refine WC.region ?_
      refine W.mv ?_
      refine W.mv ?_
      refine W.ok (ok_leq rfl rfl) ?_
      refine W.as ?_
      refine W.nil (thn_n ?_)
      refine WC.ret ?_
      refine ⟨.inr rfl, [_], ⟨rfl, trivial⟩, [], List.nil_sublist _, ?_⟩
      refine congrArg Value.bool ?_
      rw [← hlg]
      rw [longG_end (by omega)]

theorem rightp_fc {G : GH} {v_l : Value} {l : List Pair} (h_l : SlR ePair G v_l l) :
    Fc Try.prog 44 [v_l] G [] (fun v _ _ => v = .bool (decide (PairsR l))) := by
  obtain ⟨sa_l, sc_l, rfl⟩ := h_l.form
  have hl := h_l.len47
  refine Fc.intro (rs := [.tmp 2]) cl44 Try.func44 rfl Try.ntmps44 rfl rfl (fun w0 => ?_)
  refine WC.seq ?_
  refine WC.region ?_
  refine W.as ?_
  refine W.nil (thn_n ?_)
  refine WC.seq ?_
  refine WC.seq ?_
  refine WC.region ?_
  refine W.as ?_
  refine W.nil (thn_n ?_)
  refine WC.block ?_
  refine WC.loop (X := Nat) (fun k => [(3, .int .i64 ((k : Nat) : Int)), (0, .slice sa_l l.length sc_l)]) (fun k _ Ml => Ml = [] ∧ ∀ i (h : i < l.length), i < k → (l[i].key.b.size ≤ 16 ∧ l[i].val.b.size ≤ 16) ∧ (0 < i → (l[i - 1]'(by omega)).key.lt l[i].key = true)) (fun k => l.length - k) 0 ⟨(by first | rfl | exact iv (by dsimp only; omega) | exact iv (by omega)), (by first | rfl | exact iv (by dsimp only; omega) | exact iv (by omega)), trivial⟩ ?_ ?_
  · exact ⟨rfl, fun i _ h => by omega⟩
  · rintro k gG120 G120 _ hG120 ⟨rfl, hk⟩
    refine WC.seq ?_
    refine WC.seq ?_
    refine WC.region ?_
    refine W.mv ?_
    refine W.mv ?_
    refine W.ok (ok_len sl42 (h_l.mono hG120) rfl) ?_
    refine W.ok (ok_lss rfl rfl) ?_
    refine W.nil (thn_n ?_)
    refine WC.cond (b := _) rfl (fun h7 => ?_) (fun h7 => ?_)
    · have p7 := of_decide_eq_true h7
      refine WC.skip (thn_n ?_)
      refine WC.seq ?_
      refine WC.block ?_
      refine WC.seq ?_
      refine WC.draw mix (by kernel_rfl) ?_
      refine W.mv ?_
      refine W.mv ?_
      have q123 := (h_l.mono hG120).at (i := k) (by omega)
      refine match q123 with | ⟨_, he121, e_122⟩ => ?_
      subst e_122
      refine W.ok (ok_indexAddr (i := k) sl42 ty127 (h_l.mono hG120) rfl rfl ⟨by omega, by omega⟩) ?_
      refine W.ok (ok_fieldE fd127_0 rfl he121.form) ?_
      refine W.ok (ok_loadE (vs := [.string _]) ty9 he121 rfl rfl rfl (by simp)) ?_
      refine W.ok (ok_lenS st9 rfl) ?_
      refine W.ok (ok_gtr rfl rfl) ?_
      refine W.mv ?_
      refine W.sp 17 rfl (fun h16 => ?_) (fun h16 => ?_)
      · have p16 := of_decide_eq_true h16
        refine W.no (dj := 17) rfl rfl h16 ?_
        refine W.no (dj := 17) rfl rfl h16 ?_
        refine W.no (dj := 17) rfl rfl h16 ?_
        refine W.no (dj := 17) rfl rfl h16 ?_
        refine W.no (dj := 17) rfl rfl h16 ?_
        refine W.no (dj := 17) rfl rfl h16 ?_
        refine W.no (dj := 17) rfl rfl h16 ?_
        refine W.ok (ok_pick_t rfl h16) ?_
        refine W.mv ?_
        refine W.no (dj := 26) rfl rfl rfl ?_
        refine W.no (dj := 26) rfl rfl rfl ?_
        refine W.no (dj := 26) rfl rfl rfl ?_
        refine W.nou (dj := 29) rfl rfl ?_
        refine W.nou (dj := 29) rfl rfl ?_
        refine W.nou (dj := 29) rfl rfl ?_
        refine W.nou (dj := 29) rfl rfl ?_
        refine W.nou (dj := 29) rfl rfl ?_
        refine W.nou (dj := 29) rfl rfl ?_
        refine W.nou (dj := 29) rfl rfl ?_
        refine W.nou (dj := 29) rfl rfl ?_
        refine W.nou (dj := 29) rfl rfl ?_
        refine W.nou (dj := 29) rfl rfl ?_
        refine W.nou (dj := 29) rfl rfl ?_
        refine W.nou (dj := 29) rfl rfl ?_
        refine W.nou (dj := 29) rfl rfl ?_
        refine W.no (dj := 26) rfl rfl rfl ?_
        refine W.ok (ok_pick_t rfl rfl) ?_
        refine W.nil (thn_n ?_)
        refine WC.cond_t rfl rfl ?_
        refine WC.seq ?_
        refine WC.region ?_
        refine W.as ?_
        refine W.nil (thn_n ?_)
        refine WC.ret (blk_r (thn_r (thn_r (blk_r (thn_r ?_)))))
        refine ⟨.inr rfl, [_], ⟨rfl, trivial⟩, [], List.nil_sublist _, ?_⟩
        refine congrArg Value.bool ?_
        exact (decide_eq_false fun h => by have := h k (by omega); omega).symm
      · have p16 := of_decide_eq_false h16
        refine W.yes (dj := 17) rfl rfl h16 ?_
        refine W.mv ?_
        refine W.yes (dj := 17) rfl rfl h16 ?_
        refine W.mv ?_
        refine W.yes (dj := 17) rfl rfl h16 ?_
        have q126 := (h_l.mono hG120).at (i := k) (by omega)
        refine match q126 with | ⟨_, he124, e_125⟩ => ?_
        subst e_125
        refine W.ok (ok_indexAddr (i := k) sl42 ty127 (h_l.mono hG120) rfl rfl ⟨by omega, by omega⟩) ?_
        refine W.yes (dj := 17) rfl rfl h16 ?_
        refine W.ok (ok_fieldE fd127_1 rfl he124.form) ?_
        refine W.yes (dj := 17) rfl rfl h16 ?_
        refine W.ok (ok_loadE (vs := [.string _]) ty9 he124 rfl rfl rfl (by simp)) ?_
        refine W.yes (dj := 17) rfl rfl h16 ?_
        refine W.ok (ok_lenS st9 rfl) ?_
        refine W.yes (dj := 17) rfl rfl h16 ?_
        refine W.ok (ok_gtr rfl rfl) ?_
        refine W.ok (ok_pick_f rfl h16) ?_
        refine W.mv ?_
        refine W.sp 26 rfl (fun h24 => ?_) (fun h24 => ?_)
        · have p24 := of_decide_eq_true h24
          refine W.no (dj := 26) rfl rfl h24 ?_
          refine W.no (dj := 26) rfl rfl h24 ?_
          refine W.no (dj := 26) rfl rfl h24 ?_
          refine W.nou (dj := 29) rfl rfl ?_
          refine W.nou (dj := 29) rfl rfl ?_
          refine W.nou (dj := 29) rfl rfl ?_
          refine W.nou (dj := 29) rfl rfl ?_
          refine W.nou (dj := 29) rfl rfl ?_
          refine W.nou (dj := 29) rfl rfl ?_
          refine W.nou (dj := 29) rfl rfl ?_
          refine W.nou (dj := 29) rfl rfl ?_
          refine W.nou (dj := 29) rfl rfl ?_
          refine W.nou (dj := 29) rfl rfl ?_
          refine W.nou (dj := 29) rfl rfl ?_
          refine W.nou (dj := 29) rfl rfl ?_
          refine W.nou (dj := 29) rfl rfl ?_
          refine W.no (dj := 26) rfl rfl h24 ?_
          refine W.ok (ok_pick_t rfl h24) ?_
          refine W.nil (thn_n ?_)
          refine WC.cond_t rfl rfl ?_
          refine WC.seq ?_
          refine WC.region ?_
          refine W.as ?_
          refine W.nil (thn_n ?_)
          refine WC.ret (blk_r (thn_r (thn_r (blk_r (thn_r ?_)))))
          refine ⟨.inr rfl, [_], ⟨rfl, trivial⟩, [], List.nil_sublist _, ?_⟩
          refine congrArg Value.bool ?_
          exact (decide_eq_false fun h => by have := h k (by omega); omega).symm
        · have p24 := of_decide_eq_false h24
          refine W.yes (dj := 26) rfl rfl h24 ?_
          refine W.mv ?_
          refine W.yes (dj := 26) rfl rfl h24 ?_
          refine W.ok (ok_gtr rfl rfl) ?_
          refine W.yes (dj := 26) rfl rfl h24 ?_
          refine W.mv ?_
          refine W.sp 29 rfl (fun h28 => ?_) (fun h28 => ?_)
          · have p28 := of_decide_eq_true h28
            refine W.yes (dj := 29) rfl rfl h28 ?_
            refine W.mv ?_
            refine W.yes (dj := 29) rfl rfl h28 ?_
            refine W.mv ?_
            refine W.yes (dj := 29) rfl rfl h28 ?_
            refine W.ok (ok_sub rfl rfl (by omega)) ?_
            refine W.yes (dj := 29) rfl rfl h28 ?_
            have q129 := (h_l.mono hG120).at (i := k - 1) (by omega)
            refine match q129 with | ⟨_, he127, e_128⟩ => ?_
            subst e_128
            refine W.ok (ok_indexAddr (i := k - 1) sl42 ty127 (h_l.mono hG120) rfl rfl ⟨by omega, by omega⟩) ?_
            refine W.yes (dj := 29) rfl rfl h28 ?_
            refine W.ok (ok_fieldE fd127_0 rfl he127.form) ?_
            refine W.yes (dj := 29) rfl rfl h28 ?_
            refine W.ok (ok_loadE (vs := [.string _]) ty9 he127 rfl rfl rfl (by simp)) ?_
            refine W.yes (dj := 29) rfl rfl h28 ?_
            refine W.mv ?_
            refine W.yes (dj := 29) rfl rfl h28 ?_
            refine W.mv ?_
            refine W.yes (dj := 29) rfl rfl h28 ?_
            have q132 := (h_l.mono hG120).at (i := k) (by omega)
            refine match q132 with | ⟨_, he130, e_131⟩ => ?_
            subst e_131
            refine W.ok (ok_indexAddr (i := k) sl42 ty127 (h_l.mono hG120) rfl rfl ⟨by omega, by omega⟩) ?_
            refine W.yes (dj := 29) rfl rfl h28 ?_
            refine W.ok (ok_fieldE fd127_0 rfl he130.form) ?_
            refine W.yes (dj := 29) rfl rfl h28 ?_
            refine W.ok (ok_loadE (vs := [.string _]) ty9 he130 rfl rfl rfl (by simp)) ?_
            refine W.yes (dj := 29) rfl rfl h28 ?_
            refine W.qcall (less_fc _ _) rfl ?_
            refine W.yes (dj := 29) rfl rfl h28 ?_
            refine W.ok (ok_not rfl) ?_
            refine W.yes (dj := 26) rfl rfl h24 ?_
            refine W.ok (ok_pick_t rfl h28) ?_
            refine W.ok (ok_pick_f rfl h24) ?_
            refine W.nil (thn_n ?_)
            refine WC.cond (b := _) rfl (fun h42 => ?_) (fun h42 => ?_)
            · refine WC.seq ?_
              refine WC.region ?_
              refine W.as ?_
              refine W.nil (thn_n ?_)
              refine WC.ret (blk_r (thn_r (thn_r (blk_r (thn_r ?_)))))
              refine ⟨.inr rfl, [_], ⟨rfl, trivial⟩, [], List.nil_sublist _, ?_⟩
              refine congrArg Value.bool ?_
              exact (decide_eq_false fun h => by have := h k (by omega); have h1 := this.2 (by omega); simp [h1] at h42).symm
            · refine WC.skip (blk_n (thn_n ?_))
              refine WC.region ?_
              refine W.mv ?_
              refine W.ok (ok_add rfl rfl (by omega)) ?_
              refine W.as ?_
              refine W.nil (thn_n ?_)
              exact ⟨Le.rfl, k + 1, ⟨(by first | rfl | exact iv (by dsimp only; omega) | exact iv (by omega)), (by first | rfl | exact iv (by dsimp only; omega) | exact iv (by omega)), trivial⟩, ⟨rfl, fun i h hi => by
      by_cases e : i = k
      · subst e; exact ⟨⟨by omega, by omega⟩, fun h0 => by simpa using h42⟩
      · exact hk i h (by omega)⟩, by omega⟩
          · have p28 := of_decide_eq_false h28
            refine W.no (dj := 29) rfl rfl h28 ?_
            refine W.no (dj := 29) rfl rfl h28 ?_
            refine W.no (dj := 29) rfl rfl h28 ?_
            refine W.no (dj := 29) rfl rfl h28 ?_
            refine W.no (dj := 29) rfl rfl h28 ?_
            refine W.no (dj := 29) rfl rfl h28 ?_
            refine W.no (dj := 29) rfl rfl h28 ?_
            refine W.no (dj := 29) rfl rfl h28 ?_
            refine W.no (dj := 29) rfl rfl h28 ?_
            refine W.no (dj := 29) rfl rfl h28 ?_
            refine W.no (dj := 29) rfl rfl h28 ?_
            refine W.no (dj := 29) rfl rfl h28 ?_
            refine W.no (dj := 29) rfl rfl h28 ?_
            refine W.yes (dj := 26) rfl rfl h24 ?_
            refine W.ok (ok_pick_f rfl h28) ?_
            refine W.ok (ok_pick_f rfl h24) ?_
            refine W.nil (thn_n ?_)
            refine WC.cond_f rfl rfl ?_
            refine WC.skip (blk_n (thn_n ?_))
            refine WC.region ?_
            refine W.mv ?_
            refine W.ok (ok_add rfl rfl (by omega)) ?_
            refine W.as ?_
            refine W.nil (thn_n ?_)
            exact ⟨Le.rfl, k + 1, ⟨(by first | rfl | exact iv (by dsimp only; omega) | exact iv (by omega)), (by first | rfl | exact iv (by dsimp only; omega) | exact iv (by omega)), trivial⟩, ⟨rfl, fun i h hi => by
      by_cases e : i = k
      · subst e; exact ⟨⟨by omega, by omega⟩, fun h0 => by omega⟩
      · exact hk i h (by omega)⟩, by omega⟩
    · have p7 := of_decide_eq_false h7
      refine WC.exit (thn_x (thn_x (blk_h (thn_n ?_))))
      refine WC.seq ?_
      refine WC.region ?_
      refine W.as ?_
      refine W.nil (thn_n ?_)
      refine WC.ret ?_
      refine ⟨.inr rfl, [_], ⟨rfl, trivial⟩, [], List.nil_sublist _, ?_⟩
      refine congrArg Value.bool ?_
      exact (decide_eq_true fun i h => hk i h (by omega)).symm

end Go.Proofs.Ytmadhgdplocfbaa
