/- Walks of comparisons and copies. -/
import Derived.Test.YthmkpaoolhcibaaDoorW1
namespace Go.Proofs.YthmkpaoolhcibaaDoor
open Go Go.Fw Go.RowKit
set_option maxRecDepth 100000
set_option maxHeartbeats 1600000
set_option linter.unusedVariables false
set_option linter.unusedSimpArgs false
set_option linter.unnecessarySimpa false
theorem samep_fc {G : GH} {v_a : Value} {a : List Pair} (h_a : SlR ePair G v_a a) {v_b : Value} {b : List Pair} (h_b : SlR ePair G v_b b) :
    Fc Tryd.prog 15 [v_a, v_b] G [] (fun v _ _ => v = .bool (decide (a = b))) := by
 obtain ⟨sa_a, sc_a, rfl⟩ := h_a.form
 obtain ⟨sa_b, sc_b, rfl⟩ := h_b.form
 have ha := h_a.len47
 have hb := h_b.len47
 refine Fc.intro (rs := [.tmp 4]) cl15 Tryd.func15 rfl Tryd.ntmps15 rfl rfl (fun w0 => ?_)
 refine WC.seq ?_
 refine WC.region ?_
 refine W.as ?_
 refine W.nil (thn_n ?_)
 refine WC.seq ?_
 refine WC.seq ?_
 refine WC.region ?_
 refine W.mv ?_
 refine W.ok (ok_len sl25 h_a rfl) ?_
 refine W.mv ?_
 refine W.ok (ok_len sl25 h_b rfl) ?_
 refine W.ok (ok_neq rfl rfl) ?_
 refine W.nil (thn_n ?_)
 refine WC.cond (b := _) rfl (fun h10 => ?_) (fun h10 => ?_)
 ·have p10 := nd_t h10
  refine WC.seq ?_
  refine WC.region ?_
  refine W.as ?_
  refine W.nil (thn_n ?_)
  refine WC.ret (thn_r ?_)
  refine ⟨.inr rfl, [_], ⟨rfl, trivial⟩, [], List.nil_sublist _, ?_⟩
  refine congrArg Value.bool ?_
  exact (decide_eq_false fun e => by subst e; omega).symm
 ·have p10 := nd_f h10
  have hab : a.length = b.length := by omega
  refine WC.skip (thn_n ?_)
  refine WC.seq ?_
  refine WC.seq ?_
  refine WC.region ?_
  refine W.as ?_
  refine W.nil (thn_n ?_)
  refine WC.block ?_
  refine WC.loop (X := Nat) (fun k => [(5, .int .i64 ((k : Nat) : Int)), (0, .slice sa_a a.length sc_a), (1, .slice sa_b b.length sc_b)]) (fun k _ Ml => Ml = [] ∧ k ≤ a.length ∧ ∀ i (h : i < a.length) (h2 : i < b.length), i < k → a[i] = b[i]) (fun k => a.length - k) 0 ⟨(by first | rfl | exact iv (by dsimp only; omega) | exact iv (by omega)), (by first | rfl | exact iv (by dsimp only; omega) | exact iv (by omega)), (by first | rfl | exact iv (by dsimp only; omega) | exact iv (by omega)), trivial⟩ ?_ ?_
  ·exact ⟨rfl, by omega, fun i _ _ h => by omega⟩
  ·rintro k gG1 G1 _ hG1 ⟨rfl, hk0, hk⟩
   refine WC.seq ?_
   refine WC.seq ?_
   refine WC.region ?_
   refine W.mv ?_
   refine W.mv ?_
   refine W.ok (ok_len sl25 (h_a.mono hG1) rfl) ?_
   refine W.ok (ok_lss rfl rfl) ?_
   refine W.nil (thn_n ?_)
   refine WC.cond (b := _) rfl (fun h14 => ?_) (fun h14 => ?_)
   ·have p14 := of_decide_eq_true h14
    refine WC.skip (thn_n ?_)
    refine WC.seq ?_
    refine WC.block ?_
    refine WC.seq ?_
    refine WC.draw mix (by kernel_rfl) ?_
    refine W.mv ?_
    refine W.mv ?_
    have q4 := (h_a.mono hG1).at (i := k) (by omega)
    refine match q4 with | ⟨_, he2, e_3⟩ => ?_
    subst e_3
    refine W.ok (ok_indexAddr (i := k) sl25 ty45 (h_a.mono hG1) rfl rfl ⟨by omega, by omega⟩) ?_
    refine W.ok (ok_loadE (vs := [.string _, .string _]) ty45 he2 rfl rfl rfl (by simp)) ?_
    refine W.mv ?_
    refine W.mv ?_
    have q7 := (h_b.mono hG1).at (i := k) (by omega)
    refine match q7 with | ⟨_, he5, e_6⟩ => ?_
    subst e_6
    refine W.ok (ok_indexAddr (i := k) sl25 ty45 (h_b.mono hG1) rfl rfl ⟨by omega, by omega⟩) ?_
    refine W.ok (ok_loadE (vs := [.string _, .string _]) ty45 he5 rfl rfl rfl (by simp)) ?_
    refine W.ok (ok_neqA (L1 := [.string _, .string _]) (L2 := [.string _, .string _]) eq45 rfl rfl rfl rfl) ?_
    refine W.nil (thn_n ?_)
    refine WC.cond (b := _) rfl (fun h25 => ?_) (fun h25 => ?_)
    ·refine WC.seq ?_
     refine WC.region ?_
     refine W.as ?_
     refine W.nil (thn_n ?_)
     refine WC.ret (blk_r (thn_r (thn_r (blk_r (thn_r ?_)))))
     refine ⟨.inr rfl, [_], ⟨rfl, trivial⟩, [], List.nil_sublist _, ?_⟩
     refine congrArg Value.bool ?_
     exact (decide_eq_false fun e => by subst e; exact Pair.ne_of h25 rfl).symm
    ·refine WC.skip (blk_n (thn_n ?_))
     refine WC.region ?_
     refine W.mv ?_
     refine W.ok (ok_add rfl rfl (by omega)) ?_
     refine W.as ?_
     refine W.nil (thn_n ?_)
     exact ⟨Le.rfl, k + 1, ⟨(by first | rfl | exact iv (by dsimp only; omega) | exact iv (by omega)), (by first | rfl | exact iv (by dsimp only; omega) | exact iv (by omega)), (by first | rfl | exact iv (by dsimp only; omega) | exact iv (by omega)), trivial⟩, ⟨rfl, by omega, fun i h h2 hi => by
      by_cases e : i = k
      · subst e; exact Pair.eq_of h25
      · exact hk i h h2 (by omega)⟩, by omega⟩
   ·have p14 := of_decide_eq_false h14
    refine WC.exit (thn_x (thn_x (blk_h (thn_n ?_))))
    refine WC.seq ?_
    refine WC.region ?_
    refine W.as ?_
    refine W.nil (thn_n ?_)
    refine WC.ret ?_
    refine ⟨.inr rfl, [_], ⟨rfl, trivial⟩, [], List.nil_sublist _, ?_⟩
    refine congrArg Value.bool ?_
    exact (decide_eq_true (List.ext_getElem (by omega) fun i h h2 => hk i h h2 (by omega))).symm

theorem longp_fc {G : GH} {v_l : Value} {l : List Pair} (h_l : SlR ePair G v_l l) (m : Int) (hm : 0 ≤ m ∧ m ≤ 1073741824) :
    Fc Tryd.prog 5 [v_l, .int .i64 m] G [] (fun v _ _ => v = .bool (decide (longG Pair.w l 0 m ≤ m))) := by
 obtain ⟨sa_l, sc_l, rfl⟩ := h_l.form
 have hl := h_l.len47
 refine Fc.intro (rs := [.tmp 4]) cl5 Tryd.func5 rfl Tryd.ntmps5 rfl rfl (fun w0 => ?_)
 refine WC.seq ?_
 refine WC.region ?_
 refine W.as ?_
 refine W.nil (thn_n ?_)
 refine WC.seq ?_
 refine WC.region ?_
 refine W.as ?_
 refine W.nil (thn_n ?_)
 refine WC.seq ?_
 refine WC.seq ?_
 refine WC.region ?_
 refine W.as ?_
 refine W.nil (thn_n ?_)
 refine WC.block ?_
 refine WC.loop (X := Nat × Int) (fun x => [(5, .int .i64 x.2), (6, .int .i64 ((x.1 : Nat) : Int)), (0, .slice sa_l l.length sc_l), (1, .int .i64 m)]) (fun x _ Ml => Ml = [] ∧ x.1 ≤ l.length ∧ 0 ≤ x.2 ∧ x.2 ≤ 1125899906842624 ∧ longG Pair.w (l.drop x.1) x.2 m = longG Pair.w l 0 m) (fun x => l.length - x.1) (0, 0) ⟨(by first | rfl | exact iv (by dsimp only; omega) | exact iv (by omega)), (by first | rfl | exact iv (by dsimp only; omega) | exact iv (by omega)), (by first | rfl | exact iv (by dsimp only; omega) | exact iv (by omega)), (by first | rfl | exact iv (by dsimp only; omega) | exact iv (by omega)), trivial⟩ ?_ ?_
 ·exact ⟨rfl, by simp, by simp, by simp, by simp⟩
 ·rintro ⟨k, n⟩ gG8 G8 _ hG8 ⟨rfl, hk, hn, hn2, hlg⟩
  dsimp only at hk hn hn2 hlg
  refine WC.seq ?_
  refine WC.seq ?_
  refine WC.region ?_
  refine W.mv ?_
  refine W.mv ?_
  refine W.ok (ok_len sl25 (h_l.mono hG8) rfl) ?_
  refine W.ok (ok_lss rfl rfl) ?_
  refine W.mv ?_
  refine W.sp 11 rfl (fun h10 => ?_) (fun h10 => ?_)
  ·have p10 := of_decide_eq_true h10
   refine W.yes (dj := 11) rfl rfl h10 ?_
   refine W.mv ?_
   refine W.yes (dj := 11) rfl rfl h10 ?_
   refine W.mv ?_
   refine W.yes (dj := 11) rfl rfl h10 ?_
   refine W.ok (ok_leq rfl rfl) ?_
   refine W.ok (ok_pick_t rfl h10) ?_
   refine W.nil (thn_n ?_)
   refine WC.cond (b := _) rfl (fun h14 => ?_) (fun h14 => ?_)
   ·have p14 := of_decide_eq_true h14
    refine WC.skip (thn_n ?_)
    refine WC.seq ?_
    refine WC.block ?_
    refine WC.draw mix (by kernel_rfl) ?_
    refine W.mv ?_
    refine W.mv ?_
    refine W.mv ?_
    have q11 := (h_l.mono hG8).at (i := k) (by omega)
    refine match q11 with | ⟨_, he9, e_10⟩ => ?_
    subst e_10
    refine W.ok (ok_indexAddr (i := k) sl25 ty45 (h_l.mono hG8) rfl rfl ⟨by dsimp only, by omega⟩) ?_
    refine W.ok (ok_fieldE fd45_0 rfl he9.form) ?_
    refine W.ok (ok_loadE (vs := [.string _]) ty9 he9 rfl rfl rfl (by simp)) ?_
    refine W.ok (ok_lenS st9 rfl) ?_
    refine W.ok (ok_add rfl rfl (by have := (l[k]).key.le; have := (l[k]).val.le; omega)) ?_
    refine W.mv ?_
    refine W.mv ?_
    have q14 := (h_l.mono hG8).at (i := k) (by omega)
    refine match q14 with | ⟨_, he12, e_13⟩ => ?_
    subst e_13
    refine W.ok (ok_indexAddr (i := k) sl25 ty45 (h_l.mono hG8) rfl rfl ⟨by dsimp only, by omega⟩) ?_
    refine W.ok (ok_fieldE fd45_1 rfl he12.form) ?_
    refine W.ok (ok_loadE (vs := [.string _]) ty9 he12 rfl rfl rfl (by simp)) ?_
    refine W.ok (ok_lenS st9 rfl) ?_
    refine W.ok (ok_add rfl rfl (by have := (l[k]).key.le; have := (l[k]).val.le; omega)) ?_
    refine W.ok (ok_add rfl rfl (by have := (l[k]).key.le; have := (l[k]).val.le; dsimp only; omega)) ?_
    refine W.as ?_
    refine W.nil (blk_n (thn_n ?_))
    refine WC.region ?_
    refine W.mv ?_
    refine W.ok (ok_add rfl rfl (by dsimp only; omega)) ?_
    refine W.as ?_
    refine W.nil (thn_n ?_)
    exact ⟨Le.rfl, (k + 1, n + Pair.w l[k]), ⟨(by first | rfl | exact iv (by dsimp only [Pair.w]) | exact iv (by dsimp only [Pair.w]; omega)), (by first | rfl | exact iv (by dsimp only; omega) | exact iv (by omega)), (by first | rfl | exact iv (by dsimp only; omega) | exact iv (by omega)), (by first | rfl | exact iv (by dsimp only; omega) | exact iv (by omega)), trivial⟩, ⟨rfl, by dsimp only; omega, by have := Pair.w_pos l[k]; dsimp only; omega, by have := Pair.w_le l[k]; dsimp only; omega, (longG_step (by omega) p14).symm.trans hlg⟩, by dsimp only; omega⟩
   ·have p14 := of_decide_eq_false h14
    refine WC.exit (thn_x (thn_x (blk_h (thn_n ?_))))
    refine WC.seq ?_
    refine WC.region ?_
    refine W.mv ?_
    refine W.mv ?_
    refine W.ok (ok_leq rfl rfl) ?_
    refine W.as ?_
    refine W.nil (thn_n ?_)
    refine WC.ret ?_
    refine ⟨.inr rfl, [_], ⟨rfl, trivial⟩, [], List.nil_sublist _, ?_⟩
    refine congrArg Value.bool ?_
    rw [← hlg]
    rw [longG_stop (by omega)]
  ·have p10 := of_decide_eq_false h10
   refine W.no (dj := 11) rfl rfl h10 ?_
   refine W.no (dj := 11) rfl rfl h10 ?_
   refine W.no (dj := 11) rfl rfl h10 ?_
   refine W.ok (ok_pick_f rfl h10) ?_
   refine W.nil (thn_n ?_)
   refine WC.cond_f rfl rfl ?_
   refine WC.exit (thn_x (thn_x (blk_h (thn_n ?_))))
   refine WC.seq ?_
   refine WC.region ?_
   refine W.mv ?_
   refine W.mv ?_
   refine W.ok (ok_leq rfl rfl) ?_
   refine W.as ?_
   refine W.nil (thn_n ?_)
   refine WC.ret ?_
   refine ⟨.inr rfl, [_], ⟨rfl, trivial⟩, [], List.nil_sublist _, ?_⟩
   refine congrArg Value.bool ?_
   rw [← hlg]
   rw [longG_end (by omega)]

theorem rightp_fc {G : GH} {v_l : Value} {l : List Pair} (h_l : SlR ePair G v_l l) :
    Fc Tryd.prog 11 [v_l] G [] (fun v _ _ => v = .bool (decide (PairsR l))) := by
 obtain ⟨sa_l, sc_l, rfl⟩ := h_l.form
 have hl := h_l.len47
 refine Fc.intro (rs := [.tmp 2]) cl11 Tryd.func11 rfl Tryd.ntmps11 rfl rfl (fun w0 => ?_)
 refine WC.seq ?_
 refine WC.region ?_
 refine W.as ?_
 refine W.nil (thn_n ?_)
 refine WC.seq ?_
 refine WC.seq ?_
 refine WC.region ?_
 refine W.as ?_
 refine W.nil (thn_n ?_)
 refine WC.block ?_
 refine WC.loop (X := Nat) (fun k => [(3, .int .i64 ((k : Nat) : Int)), (0, .slice sa_l l.length sc_l)]) (fun k _ Ml => Ml = [] ∧ ∀ i (h : i < l.length), i < k → (l[i].key.b.size ≤ 16 ∧ l[i].val.b.size ≤ 16) ∧ (0 < i → (l[i - 1]'(by omega)).key.lt l[i].key = true)) (fun k => l.length - k) 0 ⟨(by first | rfl | exact iv (by dsimp only; omega) | exact iv (by omega)), (by first | rfl | exact iv (by dsimp only; omega) | exact iv (by omega)), trivial⟩ ?_ ?_
 ·exact ⟨rfl, fun i _ h => by omega⟩
 ·rintro k gG15 G15 _ hG15 ⟨rfl, hk⟩
  refine WC.seq ?_
  refine WC.seq ?_
  refine WC.region ?_
  refine W.mv ?_
  refine W.mv ?_
  refine W.ok (ok_len sl25 (h_l.mono hG15) rfl) ?_
  refine W.ok (ok_lss rfl rfl) ?_
  refine W.nil (thn_n ?_)
  refine WC.cond (b := _) rfl (fun h7 => ?_) (fun h7 => ?_)
  ·have p7 := of_decide_eq_true h7
   refine WC.skip (thn_n ?_)
   refine WC.seq ?_
   refine WC.block ?_
   refine WC.seq ?_
   refine WC.draw mix (by kernel_rfl) ?_
   refine W.mv ?_
   refine W.mv ?_
   have q18 := (h_l.mono hG15).at (i := k) (by omega)
   refine match q18 with | ⟨_, he16, e_17⟩ => ?_
   subst e_17
   refine W.ok (ok_indexAddr (i := k) sl25 ty45 (h_l.mono hG15) rfl rfl ⟨by omega, by omega⟩) ?_
   refine W.ok (ok_fieldE fd45_0 rfl he16.form) ?_
   refine W.ok (ok_loadE (vs := [.string _]) ty9 he16 rfl rfl rfl (by simp)) ?_
   refine W.ok (ok_lenS st9 rfl) ?_
   refine W.ok (ok_gtr rfl rfl) ?_
   refine W.mv ?_
   refine W.sp 17 rfl (fun h16 => ?_) (fun h16 => ?_)
   ·have p16 := of_decide_eq_true h16
    refine W.no (dj := 17) rfl rfl h16 ?_
    refine W.no (dj := 17) rfl rfl h16 ?_
    refine W.no (dj := 17) rfl rfl h16 ?_
    refine W.no (dj := 17) rfl rfl h16 ?_
    refine W.no (dj := 17) rfl rfl h16 ?_
    refine W.no (dj := 17) rfl rfl h16 ?_
    refine W.no (dj := 17) rfl rfl h16 ?_
    refine W.ok (ok_pick_t rfl h16) ?_
    refine W.mv ?_
    refine W.no (dj := 26) rfl rfl rfl ?_
    refine W.no (dj := 26) rfl rfl rfl ?_
    refine W.no (dj := 26) rfl rfl rfl ?_
    refine W.nou (dj := 29) rfl rfl ?_
    refine W.nou (dj := 29) rfl rfl ?_
    refine W.nou (dj := 29) rfl rfl ?_
    refine W.nou (dj := 29) rfl rfl ?_
    refine W.nou (dj := 29) rfl rfl ?_
    refine W.nou (dj := 29) rfl rfl ?_
    refine W.nou (dj := 29) rfl rfl ?_
    refine W.nou (dj := 29) rfl rfl ?_
    refine W.nou (dj := 29) rfl rfl ?_
    refine W.nou (dj := 29) rfl rfl ?_
    refine W.nou (dj := 29) rfl rfl ?_
    refine W.nou (dj := 29) rfl rfl ?_
    refine W.nou (dj := 29) rfl rfl ?_
    refine W.no (dj := 26) rfl rfl rfl ?_
    refine W.ok (ok_pick_t rfl rfl) ?_
    refine W.nil (thn_n ?_)
    refine WC.cond_t rfl rfl ?_
    refine WC.seq ?_
    refine WC.region ?_
    refine W.as ?_
    refine W.nil (thn_n ?_)
    refine WC.ret (blk_r (thn_r (thn_r (blk_r (thn_r ?_)))))
    refine ⟨.inr rfl, [_], ⟨rfl, trivial⟩, [], List.nil_sublist _, ?_⟩
    refine congrArg Value.bool ?_
    exact (decide_eq_false fun h => by have := h k (by omega); omega).symm
   ·have p16 := of_decide_eq_false h16
    refine W.yes (dj := 17) rfl rfl h16 ?_
    refine W.mv ?_
    refine W.yes (dj := 17) rfl rfl h16 ?_
    refine W.mv ?_
    refine W.yes (dj := 17) rfl rfl h16 ?_
    have q21 := (h_l.mono hG15).at (i := k) (by omega)
    refine match q21 with | ⟨_, he19, e_20⟩ => ?_
    subst e_20
    refine W.ok (ok_indexAddr (i := k) sl25 ty45 (h_l.mono hG15) rfl rfl ⟨by omega, by omega⟩) ?_
    refine W.yes (dj := 17) rfl rfl h16 ?_
    refine W.ok (ok_fieldE fd45_1 rfl he19.form) ?_
    refine W.yes (dj := 17) rfl rfl h16 ?_
    refine W.ok (ok_loadE (vs := [.string _]) ty9 he19 rfl rfl rfl (by simp)) ?_
    refine W.yes (dj := 17) rfl rfl h16 ?_
    refine W.ok (ok_lenS st9 rfl) ?_
    refine W.yes (dj := 17) rfl rfl h16 ?_
    refine W.ok (ok_gtr rfl rfl) ?_
    refine W.ok (ok_pick_f rfl h16) ?_
    refine W.mv ?_
    refine W.sp 26 rfl (fun h24 => ?_) (fun h24 => ?_)
    ·have p24 := of_decide_eq_true h24
     refine W.no (dj := 26) rfl rfl h24 ?_
     refine W.no (dj := 26) rfl rfl h24 ?_
     refine W.no (dj := 26) rfl rfl h24 ?_
     refine W.nou (dj := 29) rfl rfl ?_
     refine W.nou (dj := 29) rfl rfl ?_
     refine W.nou (dj := 29) rfl rfl ?_
     refine W.nou (dj := 29) rfl rfl ?_
     refine W.nou (dj := 29) rfl rfl ?_
     refine W.nou (dj := 29) rfl rfl ?_
     refine W.nou (dj := 29) rfl rfl ?_
     refine W.nou (dj := 29) rfl rfl ?_
     refine W.nou (dj := 29) rfl rfl ?_
     refine W.nou (dj := 29) rfl rfl ?_
     refine W.nou (dj := 29) rfl rfl ?_
     refine W.nou (dj := 29) rfl rfl ?_
     refine W.nou (dj := 29) rfl rfl ?_
     refine W.no (dj := 26) rfl rfl h24 ?_
     refine W.ok (ok_pick_t rfl h24) ?_
     refine W.nil (thn_n ?_)
     refine WC.cond_t rfl rfl ?_
     refine WC.seq ?_
     refine WC.region ?_
     refine W.as ?_
     refine W.nil (thn_n ?_)
     refine WC.ret (blk_r (thn_r (thn_r (blk_r (thn_r ?_)))))
     refine ⟨.inr rfl, [_], ⟨rfl, trivial⟩, [], List.nil_sublist _, ?_⟩
     refine congrArg Value.bool ?_
     exact (decide_eq_false fun h => by have := h k (by omega); omega).symm
    ·have p24 := of_decide_eq_false h24
     refine W.yes (dj := 26) rfl rfl h24 ?_
     refine W.mv ?_
     refine W.yes (dj := 26) rfl rfl h24 ?_
     refine W.ok (ok_gtr rfl rfl) ?_
     refine W.yes (dj := 26) rfl rfl h24 ?_
     refine W.mv ?_
     refine W.sp 29 rfl (fun h28 => ?_) (fun h28 => ?_)
     ·have p28 := of_decide_eq_true h28
      refine W.yes (dj := 29) rfl rfl h28 ?_
      refine W.mv ?_
      refine W.yes (dj := 29) rfl rfl h28 ?_
      refine W.mv ?_
      refine W.yes (dj := 29) rfl rfl h28 ?_
      refine W.ok (ok_sub rfl rfl (by omega)) ?_
      refine W.yes (dj := 29) rfl rfl h28 ?_
      have q24 := (h_l.mono hG15).at (i := k - 1) (by omega)
      refine match q24 with | ⟨_, he22, e_23⟩ => ?_
      subst e_23
      refine W.ok (ok_indexAddr (i := k - 1) sl25 ty45 (h_l.mono hG15) rfl rfl ⟨by omega, by omega⟩) ?_
      refine W.yes (dj := 29) rfl rfl h28 ?_
      refine W.ok (ok_fieldE fd45_0 rfl he22.form) ?_
      refine W.yes (dj := 29) rfl rfl h28 ?_
      refine W.ok (ok_loadE (vs := [.string _]) ty9 he22 rfl rfl rfl (by simp)) ?_
      refine W.yes (dj := 29) rfl rfl h28 ?_
      refine W.mv ?_
      refine W.yes (dj := 29) rfl rfl h28 ?_
      refine W.mv ?_
      refine W.yes (dj := 29) rfl rfl h28 ?_
      have q27 := (h_l.mono hG15).at (i := k) (by omega)
      refine match q27 with | ⟨_, he25, e_26⟩ => ?_
      subst e_26
      refine W.ok (ok_indexAddr (i := k) sl25 ty45 (h_l.mono hG15) rfl rfl ⟨by omega, by omega⟩) ?_
      refine W.yes (dj := 29) rfl rfl h28 ?_
      refine W.ok (ok_fieldE fd45_0 rfl he25.form) ?_
      refine W.yes (dj := 29) rfl rfl h28 ?_
      refine W.ok (ok_loadE (vs := [.string _]) ty9 he25 rfl rfl rfl (by simp)) ?_
      refine W.yes (dj := 29) rfl rfl h28 ?_
      refine W.qcall (less_fc _ _) rfl ?_
      refine W.yes (dj := 29) rfl rfl h28 ?_
      refine W.ok (ok_not rfl) ?_
      refine W.yes (dj := 26) rfl rfl h24 ?_
      refine W.ok (ok_pick_t rfl h28) ?_
      refine W.ok (ok_pick_f rfl h24) ?_
      refine W.nil (thn_n ?_)
      refine WC.cond (b := _) rfl (fun h42 => ?_) (fun h42 => ?_)
      ·refine WC.seq ?_
       refine WC.region ?_
       refine W.as ?_
       refine W.nil (thn_n ?_)
       refine WC.ret (blk_r (thn_r (thn_r (blk_r (thn_r ?_)))))
       refine ⟨.inr rfl, [_], ⟨rfl, trivial⟩, [], List.nil_sublist _, ?_⟩
       refine congrArg Value.bool ?_
       exact (decide_eq_false fun h => by have := h k (by omega); have h1 := this.2 (by omega); simp [h1] at h42).symm
      ·refine WC.skip (blk_n (thn_n ?_))
       refine WC.region ?_
       refine W.mv ?_
       refine W.ok (ok_add rfl rfl (by omega)) ?_
       refine W.as ?_
       refine W.nil (thn_n ?_)
       exact ⟨Le.rfl, k + 1, ⟨(by first | rfl | exact iv (by dsimp only; omega) | exact iv (by omega)), (by first | rfl | exact iv (by dsimp only; omega) | exact iv (by omega)), trivial⟩, ⟨rfl, fun i h hi => by
      by_cases e : i = k
      · subst e; exact ⟨⟨by omega, by omega⟩, fun h0 => by simpa using h42⟩
      · exact hk i h (by omega)⟩, by omega⟩
     ·have p28 := of_decide_eq_false h28
      refine W.no (dj := 29) rfl rfl h28 ?_
      refine W.no (dj := 29) rfl rfl h28 ?_
      refine W.no (dj := 29) rfl rfl h28 ?_
      refine W.no (dj := 29) rfl rfl h28 ?_
      refine W.no (dj := 29) rfl rfl h28 ?_
      refine W.no (dj := 29) rfl rfl h28 ?_
      refine W.no (dj := 29) rfl rfl h28 ?_
      refine W.no (dj := 29) rfl rfl h28 ?_
      refine W.no (dj := 29) rfl rfl h28 ?_
      refine W.no (dj := 29) rfl rfl h28 ?_
      refine W.no (dj := 29) rfl rfl h28 ?_
      refine W.no (dj := 29) rfl rfl h28 ?_
      refine W.no (dj := 29) rfl rfl h28 ?_
      refine W.yes (dj := 26) rfl rfl h24 ?_
      refine W.ok (ok_pick_f rfl h28) ?_
      refine W.ok (ok_pick_f rfl h24) ?_
      refine W.nil (thn_n ?_)
      refine WC.cond_f rfl rfl ?_
      refine WC.skip (blk_n (thn_n ?_))
      refine WC.region ?_
      refine W.mv ?_
      refine W.ok (ok_add rfl rfl (by omega)) ?_
      refine W.as ?_
      refine W.nil (thn_n ?_)
      exact ⟨Le.rfl, k + 1, ⟨(by first | rfl | exact iv (by dsimp only; omega) | exact iv (by omega)), (by first | rfl | exact iv (by dsimp only; omega) | exact iv (by omega)), trivial⟩, ⟨rfl, fun i h hi => by
      by_cases e : i = k
      · subst e; exact ⟨⟨by omega, by omega⟩, fun h0 => by omega⟩
      · exact hk i h (by omega)⟩, by omega⟩
  ·have p7 := of_decide_eq_false h7
   refine WC.exit (thn_x (thn_x (blk_h (thn_n ?_))))
   refine WC.seq ?_
   refine WC.region ?_
   refine W.as ?_
   refine W.nil (thn_n ?_)
   refine WC.ret ?_
   refine ⟨.inr rfl, [_], ⟨rfl, trivial⟩, [], List.nil_sublist _, ?_⟩
   refine congrArg Value.bool ?_
   exact (decide_eq_true fun i h => hk i h (by omega)).symm

theorem clonep_fc {G : GH} {v_a : Value} {a : List Pair} (h_a : SlR ePair G v_a a) :
    Fc Tryd.prog 26 [v_a] G [] (fun v G' M' => M' = [] ∧ ∃ u0, v = u0 ∧ SlR ePair G' u0 (a)) := by
 obtain ⟨sa_a, sc_a, rfl⟩ := h_a.form
 have ha := h_a.bytes
 refine Fc.intro (rs := [.tmp 2]) cl26 Tryd.func26 rfl Tryd.ntmps26 rfl rfl (fun w0 => ?_)
 refine WC.seq ?_
 refine WC.region ?_
 refine W.as ?_
 refine W.nil (thn_n ?_)
 refine WC.seq ?_
 refine WC.seq ?_
 refine WC.region ?_
 refine W.mv ?_
 refine W.ok (ok_eqlNil sl25 rfl rfl) ?_
 refine W.nil (thn_n ?_)
 refine WC.cond (b := _) rfl (fun h4 => ?_) (fun h4 => ?_)
 ·have hn := SlR.isNone h_a h4
  subst hn
  refine WC.seq ?_
  refine WC.region ?_
  refine W.as ?_
  refine W.nil (thn_n ?_)
  refine WC.ret (thn_r ?_)
  refine ⟨.inr rfl, [_], ⟨rfl, trivial⟩, [], List.nil_sublist _, ?_⟩
  refine ⟨rfl, _, rfl, ?_⟩
  · exact SlR.nil
 ·refine WC.skip (thn_n ?_)
  refine WC.seq ?_
  refine WC.region ?_
  refine W.lit0 (e := ePair) sl25 ty45 zr45 rfl (fun v28 Ms29 ho30 => ?_)
  refine W.mv ?_
  refine W.app (e := ePair) sl25 ty45 zr45 rfl by45 rfl rfl (ho30) (h_a) (List.Perm.refl _) (by simpa using ha) (fun v31 Ms32 ho33 => ?_)
  refine W.as ?_
  refine W.nil (thn_n ?_)
  refine WC.giveO ho33 (List.Perm.refl _) (fun G34 hG34 hv34 => ?_)
  refine WC.ret ?_
  refine ⟨.inr rfl, [_], ⟨rfl, trivial⟩, [], List.nil_sublist _, ?_⟩
  refine ⟨rfl, _, rfl, ?_⟩
  · exact hv34

end Go.Proofs.YthmkpaoolhcibaaDoor
