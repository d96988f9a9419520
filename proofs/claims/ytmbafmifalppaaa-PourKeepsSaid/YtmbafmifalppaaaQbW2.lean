/- Walks of comparisons and copies. -/
import Derived.Test.YtmbafmifalppaaaQbW1
set_option maxRecDepth 100000
set_option maxHeartbeats 1600000
set_option linter.unusedVariables false
set_option linter.unusedSimpArgs false
set_option linter.unnecessarySimpa false
namespace Go.Proofs.Ytmbafmifalppaaa
open Go Go.Fw Go.RowKit
theorem longp_fc {G : GH} {v_l : Value} {l : List Pair} (h_l : SlR ePair G v_l l) (m : Int) (hm : 0 ≤ m ∧ m ≤ 1073741824) :
    Fc Try.prog 73 [v_l, .int .i64 m] G [] (fun v _ _ => v = .bool (decide (longG Pair.w l 0 m ≤ m))) := by
 obtain ⟨sa_l, sc_l, rfl⟩ := h_l.form
 have hl := h_l.len47
 refine Fc.intro (rs := [.tmp 4]) cl73 Try.func73 rfl Try.ntmps73 rfl rfl (fun w0 => ?_)
 refine WC.seq (WC.region (W.as (W.nil (thn_n (WC.seq (WC.region (W.as (W.nil (thn_n (WC.seq (WC.seq (WC.region (W.as (W.nil (thn_n (WC.block ?_))))))))))))))))
 refine WC.loop (X := Nat × Int) (fun x => [(5, .int .i64 x.2), (6, .int .i64 ((x.1 : Nat) : Int)), (0, .slice sa_l l.length sc_l), (1, .int .i64 m)]) (fun x _ Ml => Ml = [] ∧ x.1 ≤ l.length ∧ 0 ≤ x.2 ∧ x.2 ≤ 1125899906842624 ∧ longG Pair.w (l.drop x.1) x.2 m = longG Pair.w l 0 m) (fun x => l.length - x.1) (0, 0) ⟨eqv, eqv, eqv, eqv, trivial⟩ ?_ ?_
 ·exact ⟨rfl, by simp, by simp, by simp, by simp⟩
 rintro ⟨k, n⟩ gG35 G35 _ hG35 ⟨rfl, hk, hn, hn2, hlg⟩
 dsimp only at hk hn hn2 hlg
 refine WC.seq (WC.seq (WC.region (W.mv (W.mv (W.ok (ok_len sl31 (h_l.mono hG35) rfl) (W.ok (ok_lss rfl rfl) (W.mv ?_)))))))
 refine W.sp 11 rfl (fun h10 => ?_) (fun h10 => ?_)
 ·have p10 := of_decide_eq_true h10
  refine W.yes (dj := 11) rfl rfl h10 (W.mv (W.yes (dj := 11) rfl rfl h10 (W.mv (W.yes (dj := 11) rfl rfl h10 (W.ok (ok_leq rfl rfl) (W.ok (ok_pick_t rfl h10) (W.nil (thn_n ?_))))))))
  refine WC.cond (b := _) rfl (fun h14 => ?_) (fun h14 => ?_)
  ·have p14 := of_decide_eq_true h14
   refine WC.skip (thn_n (WC.seq (WC.block (WC.draw mix (by kernel_rfl) (W.mv (W.mv (W.mv ?_)))))))
   have q38 := (h_l.mono hG35).at (i := k) (by omega)
   refine match q38 with | ⟨_, he36, e_37⟩ => ?_
   subst e_37
   refine W.ok (ok_indexAddr (i := k) sl31 ty71 (h_l.mono hG35) rfl rfl ⟨by dsimp only, by omega⟩) (W.ok (ok_fieldE fd71_0 rfl he36.form) (W.ok (ok_loadE (vs := [.string _]) ty9 he36 rfl rfl rfl (by simp)) (W.ok (ok_lenS st9 rfl) (W.ok (ok_add rfl rfl (by have := (l[k]).key.le; have := (l[k]).val.le; omega)) (W.mv (W.mv ?_))))))
   have q41 := (h_l.mono hG35).at (i := k) (by omega)
   refine match q41 with | ⟨_, he39, e_40⟩ => ?_
   subst e_40
   refine W.ok (ok_indexAddr (i := k) sl31 ty71 (h_l.mono hG35) rfl rfl ⟨by dsimp only, by omega⟩) (W.ok (ok_fieldE fd71_1 rfl he39.form) (W.ok (ok_loadE (vs := [.string _]) ty9 he39 rfl rfl rfl (by simp)) (W.ok (ok_lenS st9 rfl) (W.ok (ok_add rfl rfl (by have := (l[k]).key.le; have := (l[k]).val.le; omega)) (W.ok (ok_add rfl rfl (by have := (l[k]).key.le; have := (l[k]).val.le; dsimp only; omega)) (W.as (W.nil (blk_n (thn_n (WC.region (W.mv (W.ok (ok_add rfl rfl (by dsimp only; omega)) (W.as (W.nil (thn_n ?_)))))))))))))))
   exact ⟨Le.rfl, (k + 1, n + Pair.w l[k]), ⟨(by first | rfl | exact iv (by dsimp only [Pair.w]) | exact iv (by dsimp only [Pair.w]; omega)), eqv, eqv, eqv, trivial⟩, ⟨rfl, by dsimp only; omega, by have := Pair.w_pos l[k]; dsimp only; omega, by have := Pair.w_le l[k]; dsimp only; omega, (longG_step (by omega) p14).symm.trans hlg⟩, by dsimp only; omega⟩
  have p14 := of_decide_eq_false h14
  refine WC.exit (thn_x (thn_x (blk_h (thn_n (WC.seq (WC.region (W.mv (W.mv (W.ok (ok_leq rfl rfl) (W.as (W.nil (thn_n (WC.ret ?_)))))))))))))
  refine ⟨.inr rfl, [_], ⟨rfl, trivial⟩, [], sn9, ?_⟩
  refine congrArg Value.bool ?_
  rw [← hlg]
  rw [longG_stop (by omega)]
 have p10 := of_decide_eq_false h10
 refine W.no (dj := 11) rfl rfl h10 (W.no (dj := 11) rfl rfl h10 (W.no (dj := 11) rfl rfl h10 (W.ok (ok_pick_f rfl h10) (W.nil (thn_n (WC.cond_f rfl rfl (WC.exit (thn_x (thn_x (blk_h (thn_n (WC.seq (WC.region (W.mv (W.mv (W.ok (ok_leq rfl rfl) (W.as (W.nil (thn_n ?_)))))))))))))))))))
 refine WC.ret ?_
 refine ⟨.inr rfl, [_], ⟨rfl, trivial⟩, [], sn9, ?_⟩
 refine congrArg Value.bool ?_
 rw [← hlg]
 rw [longG_end (by omega)]

theorem few_fc {G : GH} {v_l : Value} {l : List Msg} (h_l : SlR eMsg G v_l l) (m : Int) (hm : 0 ≤ m ∧ m ≤ 1073741824) :
    Fc Try.prog 75 [v_l, .int .i64 m] G [] (fun v _ _ => v = .bool (decide (longG Msg.w l 0 m ≤ m))) := by
 obtain ⟨sa_l, sc_l, rfl⟩ := h_l.form
 have hl := h_l.len47
 refine Fc.intro (rs := [.tmp 4]) cl75 Try.func75 rfl Try.ntmps75 rfl rfl (fun w0 => ?_)
 refine WC.seq (WC.region (W.as (W.nil (thn_n (WC.seq (WC.region (W.as (W.nil (thn_n (WC.seq (WC.seq (WC.region (W.as (W.nil (thn_n (WC.block ?_))))))))))))))))
 refine WC.loop (X := Nat × Int) (fun x => [(5, .int .i64 x.2), (6, .int .i64 ((x.1 : Nat) : Int)), (0, .slice sa_l l.length sc_l), (1, .int .i64 m)]) (fun x _ Ml => Ml = [] ∧ x.1 ≤ l.length ∧ 0 ≤ x.2 ∧ x.2 ≤ 1125899906842624 ∧ longG Msg.w (l.drop x.1) x.2 m = longG Msg.w l 0 m) (fun x => l.length - x.1) (0, 0) ⟨eqv, eqv, eqv, eqv, trivial⟩ ?_ ?_
 ·exact ⟨rfl, by simp, by simp, by simp, by simp⟩
 rintro ⟨k, n⟩ gG42 G42 _ hG42 ⟨rfl, hk, hn, hn2, hlg⟩
 dsimp only at hk hn hn2 hlg
 refine WC.seq (WC.seq (WC.region (W.mv (W.mv (W.ok (ok_len sl33 (h_l.mono hG42) rfl) (W.ok (ok_lss rfl rfl) (W.mv ?_)))))))
 refine W.sp 11 rfl (fun h10 => ?_) (fun h10 => ?_)
 ·have p10 := of_decide_eq_true h10
  refine W.yes (dj := 11) rfl rfl h10 (W.mv (W.yes (dj := 11) rfl rfl h10 (W.mv (W.yes (dj := 11) rfl rfl h10 (W.ok (ok_leq rfl rfl) (W.ok (ok_pick_t rfl h10) (W.nil (thn_n ?_))))))))
  refine WC.cond (b := _) rfl (fun h14 => ?_) (fun h14 => ?_)
  ·have p14 := of_decide_eq_true h14
   refine WC.skip (thn_n (WC.seq (WC.block (WC.draw mix (by kernel_rfl) (W.mv (W.mv (W.mv ?_)))))))
   have q47 := (h_l.mono hG42).at (i := k) (by omega)
   refine match q47 with | ⟨_, he43, ⟨e_46, hm44⟩⟩ => ?_
   subst e_46
   refine W.ok (ok_indexAddr (i := k) sl33 ty141 (h_l.mono hG42) rfl rfl ⟨by dsimp only, by omega⟩) (W.ok (ok_fieldE fd141_2 rfl he43.form) (W.ok (ok_loadE (vs := [.string _]) ty9 he43 rfl rfl rfl (by simp)) (W.ok (ok_lenS st9 rfl) (W.ok (ok_add rfl rfl (by have := (l[k]).key.le; have := (l[k]).val.le; have := (l[k]).hi.le; omega)) (W.mv (W.mv ?_))))))
   have q52 := (h_l.mono hG42).at (i := k) (by omega)
   refine match q52 with | ⟨_, he48, ⟨e_51, hm49⟩⟩ => ?_
   subst e_51
   refine W.ok (ok_indexAddr (i := k) sl33 ty141 (h_l.mono hG42) rfl rfl ⟨by dsimp only, by omega⟩) (W.ok (ok_fieldE fd141_3 rfl he48.form) (W.ok (ok_loadE (vs := [.string _]) ty9 he48 rfl rfl rfl (by simp)) (W.ok (ok_lenS st9 rfl) (W.ok (ok_add rfl rfl (by have := (l[k]).key.le; have := (l[k]).val.le; have := (l[k]).hi.le; omega)) (W.mv (W.mv ?_))))))
   have q57 := (h_l.mono hG42).at (i := k) (by omega)
   refine match q57 with | ⟨_, he53, ⟨e_56, hm54⟩⟩ => ?_
   subst e_56
   refine W.ok (ok_indexAddr (i := k) sl33 ty141 (h_l.mono hG42) rfl rfl ⟨by dsimp only, by omega⟩) (W.ok (ok_fieldE fd141_5 rfl he53.form) (W.ok (ok_loadE (vs := [.string _]) ty9 he53 rfl rfl rfl (by simp)) (W.ok (ok_lenS st9 rfl) (W.ok (ok_add rfl rfl (by have := (l[k]).key.le; have := (l[k]).val.le; have := (l[k]).hi.le; omega)) (W.ok (ok_add rfl rfl (by have := (l[k]).key.le; have := (l[k]).val.le; have := (l[k]).hi.le; dsimp only; omega)) (W.as (W.nil (blk_n (thn_n (WC.region (W.mv (W.ok (ok_add rfl rfl (by dsimp only; omega)) (W.as (W.nil (thn_n ?_)))))))))))))))
   exact ⟨Le.rfl, (k + 1, n + Msg.w l[k]), ⟨(by first | rfl | exact iv (by dsimp only [Msg.w]) | exact iv (by dsimp only [Msg.w]; omega)), eqv, eqv, eqv, trivial⟩, ⟨rfl, by dsimp only; omega, by have := Msg.w_pos l[k]; dsimp only; omega, by have := Msg.w_le l[k]; dsimp only; omega, (longG_step (by omega) p14).symm.trans hlg⟩, by dsimp only; omega⟩
  have p14 := of_decide_eq_false h14
  refine WC.exit (thn_x (thn_x (blk_h (thn_n (WC.seq (WC.region (W.mv (W.mv (W.ok (ok_leq rfl rfl) (W.as (W.nil (thn_n (WC.ret ?_)))))))))))))
  refine ⟨.inr rfl, [_], ⟨rfl, trivial⟩, [], sn9, ?_⟩
  refine congrArg Value.bool ?_
  rw [← hlg]
  rw [longG_stop (by omega)]
 have p10 := of_decide_eq_false h10
 refine W.no (dj := 11) rfl rfl h10 (W.no (dj := 11) rfl rfl h10 (W.no (dj := 11) rfl rfl h10 (W.ok (ok_pick_f rfl h10) (W.nil (thn_n (WC.cond_f rfl rfl (WC.exit (thn_x (thn_x (blk_h (thn_n (WC.seq (WC.region (W.mv (W.mv (W.ok (ok_leq rfl rfl) (W.as (W.nil (thn_n ?_)))))))))))))))))))
 refine WC.ret ?_
 refine ⟨.inr rfl, [_], ⟨rfl, trivial⟩, [], sn9, ?_⟩
 refine congrArg Value.bool ?_
 rw [← hlg]
 rw [longG_end (by omega)]

theorem rightp_fc {G : GH} {v_l : Value} {l : List Pair} (h_l : SlR ePair G v_l l) :
    Fc Try.prog 124 [v_l] G [] (fun v _ _ => v = .bool (decide (PairsR l))) := by
 obtain ⟨sa_l, sc_l, rfl⟩ := h_l.form
 have hl := h_l.len47
 refine Fc.intro (rs := [.tmp 2]) cl124 Try.func124 rfl Try.ntmps124 rfl rfl (fun w0 => ?_)
 refine WC.seq (WC.region (W.as (W.nil (thn_n (WC.seq (WC.seq (WC.region (W.as (W.nil (thn_n (WC.block ?_)))))))))))
 refine WC.loop (X := Nat) (fun k => [(3, .int .i64 ((k : Nat) : Int)), (0, .slice sa_l l.length sc_l)]) (fun k _ Ml => Ml = [] ∧ ∀ i (h : i < l.length), i < k → (l[i].key.b.size ≤ 16 ∧ l[i].val.b.size ≤ 16) ∧ (0 < i → (l[i - 1]'(by omega)).key.lt l[i].key = true)) (fun k => l.length - k) 0 ⟨eqv, eqv, trivial⟩ ?_ ?_
 ·exact ⟨rfl, fun i _ h => by omega⟩
 rintro k gG58 G58 _ hG58 ⟨rfl, hk⟩
 refine WC.seq (WC.seq (WC.region (W.mv (W.mv (W.ok (ok_len sl31 (h_l.mono hG58) rfl) (W.ok (ok_lss rfl rfl) (W.nil (thn_n ?_))))))))
 refine WC.cond (b := _) rfl (fun h7 => ?_) (fun h7 => ?_)
 ·have p7 := of_decide_eq_true h7
  refine WC.skip (thn_n (WC.seq (WC.block (WC.seq (WC.draw mix (by kernel_rfl) (W.mv (W.mv ?_)))))))
  have q61 := (h_l.mono hG58).at (i := k) (by omega)
  refine match q61 with | ⟨_, he59, e_60⟩ => ?_
  subst e_60
  refine W.ok (ok_indexAddr (i := k) sl31 ty71 (h_l.mono hG58) rfl rfl ⟨by omega, by omega⟩) (W.ok (ok_fieldE fd71_0 rfl he59.form) (W.ok (ok_loadE (vs := [.string _]) ty9 he59 rfl rfl rfl (by simp)) (W.ok (ok_lenS st9 rfl) (W.ok (ok_gtr rfl rfl) (W.mv ?_)))))
  refine W.sp 17 rfl (fun h16 => ?_) (fun h16 => ?_)
  ·have p16 := of_decide_eq_true h16
   refine W.no (dj := 17) rfl rfl h16 (W.no (dj := 17) rfl rfl h16 (W.no (dj := 17) rfl rfl h16 (W.no (dj := 17) rfl rfl h16 (W.no (dj := 17) rfl rfl h16 (W.no (dj := 17) rfl rfl h16 (W.no (dj := 17) rfl rfl h16 (W.ok (ok_pick_t rfl h16) (W.mv (W.no (dj := 26) rfl rfl rfl (W.no (dj := 26) rfl rfl rfl (W.no (dj := 26) rfl rfl rfl (W.nou (dj := 29) rfl rfl (W.nou (dj := 29) rfl rfl ?_)))))))))))))
   refine W.nou (dj := 29) rfl rfl (W.nou (dj := 29) rfl rfl (W.nou (dj := 29) rfl rfl (W.nou (dj := 29) rfl rfl (W.nou (dj := 29) rfl rfl (W.nou (dj := 29) rfl rfl (W.nou (dj := 29) rfl rfl (W.nou (dj := 29) rfl rfl (W.nou (dj := 29) rfl rfl (W.nou (dj := 29) rfl rfl (W.nou (dj := 29) rfl rfl (W.no (dj := 26) rfl rfl rfl (W.ok (ok_pick_t rfl rfl) (W.nil (thn_n ?_))))))))))))))
   refine WC.cond_t rfl rfl (WC.seq (WC.region (W.as (W.nil (thn_n (WC.ret (blk_r (thn_r (thn_r (blk_r (thn_r ?_)))))))))))
   refine ⟨.inr rfl, [_], ⟨rfl, trivial⟩, [], sn9, ?_⟩
   refine congrArg Value.bool ?_
   exact (decide_eq_false fun h => by have := h k (by omega); omega).symm
  have p16 := of_decide_eq_false h16
  refine W.yes (dj := 17) rfl rfl h16 (W.mv (W.yes (dj := 17) rfl rfl h16 (W.mv (W.yes (dj := 17) rfl rfl h16 ?_))))
  have q64 := (h_l.mono hG58).at (i := k) (by omega)
  refine match q64 with | ⟨_, he62, e_63⟩ => ?_
  subst e_63
  refine W.ok (ok_indexAddr (i := k) sl31 ty71 (h_l.mono hG58) rfl rfl ⟨by omega, by omega⟩) (W.yes (dj := 17) rfl rfl h16 (W.ok (ok_fieldE fd71_1 rfl he62.form) (W.yes (dj := 17) rfl rfl h16 (W.ok (ok_loadE (vs := [.string _]) ty9 he62 rfl rfl rfl (by simp)) (W.yes (dj := 17) rfl rfl h16 (W.ok (ok_lenS st9 rfl) (W.yes (dj := 17) rfl rfl h16 (W.ok (ok_gtr rfl rfl) (W.ok (ok_pick_f rfl h16) (W.mv ?_))))))))))
  refine W.sp 26 rfl (fun h24 => ?_) (fun h24 => ?_)
  ·have p24 := of_decide_eq_true h24
   refine W.no (dj := 26) rfl rfl h24 (W.no (dj := 26) rfl rfl h24 (W.no (dj := 26) rfl rfl h24 (W.nou (dj := 29) rfl rfl (W.nou (dj := 29) rfl rfl (W.nou (dj := 29) rfl rfl (W.nou (dj := 29) rfl rfl (W.nou (dj := 29) rfl rfl (W.nou (dj := 29) rfl rfl (W.nou (dj := 29) rfl rfl (W.nou (dj := 29) rfl rfl (W.nou (dj := 29) rfl rfl (W.nou (dj := 29) rfl rfl (W.nou (dj := 29) rfl rfl ?_)))))))))))))
   refine W.nou (dj := 29) rfl rfl (W.nou (dj := 29) rfl rfl (W.no (dj := 26) rfl rfl h24 (W.ok (ok_pick_t rfl h24) (W.nil (thn_n (WC.cond_t rfl rfl (WC.seq (WC.region (W.as (W.nil (thn_n (WC.ret (blk_r (thn_r (thn_r (blk_r (thn_r ?_)))))))))))))))))
   refine ⟨.inr rfl, [_], ⟨rfl, trivial⟩, [], sn9, ?_⟩
   refine congrArg Value.bool ?_
   exact (decide_eq_false fun h => by have := h k (by omega); omega).symm
  have p24 := of_decide_eq_false h24
  refine W.yes (dj := 26) rfl rfl h24 (W.mv (W.yes (dj := 26) rfl rfl h24 (W.ok (ok_gtr rfl rfl) (W.yes (dj := 26) rfl rfl h24 (W.mv ?_)))))
  refine W.sp 29 rfl (fun h28 => ?_) (fun h28 => ?_)
  ·have p28 := of_decide_eq_true h28
   refine W.yes (dj := 29) rfl rfl h28 (W.mv (W.yes (dj := 29) rfl rfl h28 (W.mv (W.yes (dj := 29) rfl rfl h28 (W.ok (ok_sub rfl rfl (by omega)) (W.yes (dj := 29) rfl rfl h28 ?_))))))
   have q67 := (h_l.mono hG58).at (i := k - 1) (by omega)
   refine match q67 with | ⟨_, he65, e_66⟩ => ?_
   subst e_66
   refine W.ok (ok_indexAddr (i := k - 1) sl31 ty71 (h_l.mono hG58) rfl rfl ⟨by omega, by omega⟩) (W.yes (dj := 29) rfl rfl h28 (W.ok (ok_fieldE fd71_0 rfl he65.form) (W.yes (dj := 29) rfl rfl h28 (W.ok (ok_loadE (vs := [.string _]) ty9 he65 rfl rfl rfl (by simp)) (W.yes (dj := 29) rfl rfl h28 (W.mv (W.yes (dj := 29) rfl rfl h28 (W.mv (W.yes (dj := 29) rfl rfl h28 ?_)))))))))
   have q70 := (h_l.mono hG58).at (i := k) (by omega)
   refine match q70 with | ⟨_, he68, e_69⟩ => ?_
   subst e_69
   refine W.ok (ok_indexAddr (i := k) sl31 ty71 (h_l.mono hG58) rfl rfl ⟨by omega, by omega⟩) (W.yes (dj := 29) rfl rfl h28 (W.ok (ok_fieldE fd71_0 rfl he68.form) (W.yes (dj := 29) rfl rfl h28 (W.ok (ok_loadE (vs := [.string _]) ty9 he68 rfl rfl rfl (by simp)) (W.yes (dj := 29) rfl rfl h28 (W.qcall (less_fc _ _) rfl (W.yes (dj := 29) rfl rfl h28 (W.ok (ok_not rfl) (W.yes (dj := 26) rfl rfl h24 (W.ok (ok_pick_t rfl h28) (W.ok (ok_pick_f rfl h24) (W.nil (thn_n ?_)))))))))))))
   refine WC.cond (b := _) rfl (fun h42 => ?_) (fun h42 => ?_)
   ·refine WC.seq (WC.region (W.as (W.nil (thn_n (WC.ret (blk_r (thn_r (thn_r (blk_r (thn_r ?_))))))))))
    refine ⟨.inr rfl, [_], ⟨rfl, trivial⟩, [], sn9, ?_⟩
    refine congrArg Value.bool ?_
    exact (decide_eq_false fun h => by have := h k (by omega); have h1 := this.2 (by omega); simp [h1] at h42).symm
   refine WC.skip (blk_n (thn_n (WC.region (W.mv (W.ok (ok_add rfl rfl (by omega)) (W.as (W.nil (thn_n ?_))))))))
   exact ⟨Le.rfl, k + 1, ⟨eqv, eqv, trivial⟩, ⟨rfl, fun i h hi => by
      by_cases e : i = k
      · subst e; exact ⟨⟨by omega, by omega⟩, fun h0 => by simpa using h42⟩
      · exact hk i h (by omega)⟩, by omega⟩
  have p28 := of_decide_eq_false h28
  refine W.no (dj := 29) rfl rfl h28 (W.no (dj := 29) rfl rfl h28 (W.no (dj := 29) rfl rfl h28 (W.no (dj := 29) rfl rfl h28 (W.no (dj := 29) rfl rfl h28 (W.no (dj := 29) rfl rfl h28 (W.no (dj := 29) rfl rfl h28 (W.no (dj := 29) rfl rfl h28 (W.no (dj := 29) rfl rfl h28 (W.no (dj := 29) rfl rfl h28 (W.no (dj := 29) rfl rfl h28 (W.no (dj := 29) rfl rfl h28 (W.no (dj := 29) rfl rfl h28 (W.yes (dj := 26) rfl rfl h24 ?_)))))))))))))
  refine W.ok (ok_pick_f rfl h28) (W.ok (ok_pick_f rfl h24) (W.nil (thn_n (WC.cond_f rfl rfl (WC.skip (blk_n (thn_n (WC.region (W.mv (W.ok (ok_add rfl rfl (by omega)) (W.as (W.nil (thn_n ?_)))))))))))))
  exact ⟨Le.rfl, k + 1, ⟨eqv, eqv, trivial⟩, ⟨rfl, fun i h hi => by
      by_cases e : i = k
      · subst e; exact ⟨⟨by omega, by omega⟩, fun h0 => by omega⟩
      · exact hk i h (by omega)⟩, by omega⟩
 have p7 := of_decide_eq_false h7
 refine WC.exit (thn_x (thn_x (blk_h (thn_n (WC.seq (WC.region (W.as (W.nil (thn_n (WC.ret ?_))))))))))
 refine ⟨.inr rfl, [_], ⟨rfl, trivial⟩, [], sn9, ?_⟩
 refine congrArg Value.bool ?_
 exact (decide_eq_true fun i h => hk i h (by omega)).symm

theorem clonep_fc {G : GH} {v_a : Value} {a : List Pair} (h_a : SlR ePair G v_a a) :
    Fc Try.prog 132 [v_a] G [] (fun v G' M' => M' = [] ∧ ∃ u0, v = u0 ∧ SlR ePair G' u0 (a)) := by
 obtain ⟨sa_a, sc_a, rfl⟩ := h_a.form
 have ha := h_a.bytes
 refine Fc.intro (rs := [.tmp 2]) cl132 Try.func132 rfl Try.ntmps132 rfl rfl (fun w0 => ?_)
 refine WC.seq (WC.region (W.as (W.nil (thn_n (WC.seq (WC.seq (WC.region (W.mv (W.ok (ok_eqlNil sl31 rfl rfl) (W.nil (thn_n ?_)))))))))))
 refine WC.cond (b := _) rfl (fun h4 => ?_) (fun h4 => ?_)
 ·have hn := SlR.isNone h_a h4
  subst hn
  refine WC.seq (WC.region (W.as (W.nil (thn_n (WC.ret (thn_r ?_))))))
  refine ⟨.inr rfl, [_], ⟨rfl, trivial⟩, [], sn9, ?_⟩
  refine ⟨rfl, _, rfl, ?_⟩
  · exact SlR.nil
 refine WC.skip (thn_n (WC.seq (WC.region (W.lit0 (e := ePair) sl31 ty71 zr71 rfl (fun v71 Ms72 ho73 => (W.mv (W.app (e := ePair) sl31 ty71 zr71 rfl by71 rfl rfl (ho73) (h_a) pr9 (by simpa using ha) (fun v74 Ms75 ho76 => (W.as (W.nil (thn_n (WC.giveO ho76 pr9 (fun G77 hG77 hv77 => (WC.ret ?_))))))))))))))
 refine ⟨.inr rfl, [_], ⟨rfl, trivial⟩, [], sn9, ?_⟩
 refine ⟨rfl, _, rfl, ?_⟩
 · exact hv77

theorem clonem_fc {G : GH} {v_a : Value} {a : List Msg} (h_a : SlR eMsg G v_a a) :
    Fc Try.prog 131 [v_a] G [] (fun v G' M' => M' = [] ∧ ∃ u0, v = u0 ∧ SlR eMsg G' u0 (a)) := by
 obtain ⟨sa_a, sc_a, rfl⟩ := h_a.form
 have ha := h_a.bytes
 refine Fc.intro (rs := [.tmp 2]) cl131 Try.func131 rfl Try.ntmps131 rfl rfl (fun w0 => ?_)
 refine WC.seq (WC.region (W.as (W.nil (thn_n (WC.seq (WC.seq (WC.region (W.mv (W.ok (ok_eqlNil sl33 rfl rfl) (W.nil (thn_n ?_)))))))))))
 refine WC.cond (b := _) rfl (fun h4 => ?_) (fun h4 => ?_)
 ·have hn := SlR.isNone h_a h4
  subst hn
  refine WC.seq (WC.region (W.as (W.nil (thn_n (WC.ret (thn_r ?_))))))
  refine ⟨.inr rfl, [_], ⟨rfl, trivial⟩, [], sn9, ?_⟩
  refine ⟨rfl, _, rfl, ?_⟩
  · exact SlR.nil
 refine WC.skip (thn_n (WC.seq (WC.region (W.lit0 (e := eMsg) sl33 ty141 zr141 rfl (fun v78 Ms79 ho80 => (W.mv (W.app (e := eMsg) sl33 ty141 zr141 rfl by141 rfl rfl (ho80) (h_a) pr9 (by simpa using ha) (fun v81 Ms82 ho83 => (W.as (W.nil (thn_n (WC.giveO ho83 pr9 (fun G84 hG84 hv84 => (WC.ret ?_))))))))))))))
 refine ⟨.inr rfl, [_], ⟨rfl, trivial⟩, [], sn9, ?_⟩
 refine ⟨rfl, _, rfl, ?_⟩
 · exact hv84

end Go.Proofs.Ytmbafmifalppaaa
