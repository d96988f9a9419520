/- Walks of comparisons and copies. -/
import Derived.Test.YtmbafmifalppaaaGreatQcW4
set_option maxRecDepth 100000
set_option maxHeartbeats 1600000
set_option linter.unusedVariables false
set_option linter.unusedSimpArgs false
set_option linter.unnecessarySimpa false
namespace Go.Proofs.YtmbafmifalppaaaGreat
open Go Go.Fw Go.RowKit
theorem longp_fc {G : GH} {v_l : Value} {l : List Pair} (h_l : SlR ePair G v_l l) (m : Int) (hm : 0 ≤ m ∧ m ≤ 1073741824) :
    Fc Tryz.prog 67 [v_l, .int .i64 m] G [] (fun v _ _ => v = .bool (decide (longG Pair.w l 0 m ≤ m))) := by
 obtain ⟨sa_l, sc_l, rfl⟩ := h_l.form
 have hl := h_l.len47
 refine Fc.intro (rs := [.tmp 4]) cl67 Tryz.func67 rfl Tryz.ntmps67 rfl rfl (fun w0 => ?_)
 refine WC.seq (WC.region (W.as (W.nil (thn_n (WC.seq (WC.region (W.as (W.nil (thn_n (WC.seq (WC.seq (WC.region (W.as (W.nil (thn_n (WC.block ?_))))))))))))))))
 refine WC.loop (X := Nat × Int) (fun x => [(5, .int .i64 x.2), (6, .int .i64 ((x.1 : Nat) : Int)), (0, .slice sa_l l.length sc_l), (1, .int .i64 m)]) (fun x _ Ml => Ml = [] ∧ x.1 ≤ l.length ∧ 0 ≤ x.2 ∧ x.2 ≤ 1125899906842624 ∧ longG Pair.w (l.drop x.1) x.2 m = longG Pair.w l 0 m) (fun x => l.length - x.1) (0, 0) ⟨eqv, eqv, eqv, eqv, trivial⟩ ?_ ?_
 ·exact ⟨rfl, by simp, by simp, by simp, by simp⟩
 rintro ⟨k, n⟩ gG35 G35 _ hG35 ⟨rfl, hk, hn, hn2, hlg⟩
 dsimp only at hk hn hn2 hlg
 refine WC.seq (WC.seq (WC.region (W.mv (W.mv (W.ok (ok_len sl41 (h_l.mono hG35) rfl) (W.ok (ok_lss rfl rfl) (W.mv ?_)))))))
 refine W.sp 11 rfl (fun h10 => ?_) (fun h10 => ?_)
 ·have p10 := of_decide_eq_true h10
  refine W.yes (dj := 11) rfl rfl h10 (W.mv (W.yes (dj := 11) rfl rfl h10 (W.mv (W.yes (dj := 11) rfl rfl h10 (W.ok (ok_leq rfl rfl) (W.ok (ok_pick_t rfl h10) (W.nil (thn_n ?_))))))))
  refine WC.cond (b := _) rfl (fun h14 => ?_) (fun h14 => ?_)
  ·have p14 := of_decide_eq_true h14
   refine WC.skip (thn_n (WC.seq (WC.block (WC.draw mix (by kernel_rfl) (W.mv (W.mv (W.mv ?_)))))))
   have q38 := (h_l.mono hG35).at (i := k) (by omega)
   refine match q38 with | ⟨_, he36, e_37⟩ => ?_
   subst e_37
   refine W.ok (ok_indexAddr (i := k) sl41 ty120 (h_l.mono hG35) rfl rfl ⟨by dsimp only, by omega⟩) (W.ok (ok_fieldE fd120_0 rfl he36.form) (W.ok (ok_loadE (vs := [.string _]) ty9 he36 rfl rfl rfl (by simp)) (W.ok (ok_lenS st9 rfl) (W.ok (ok_add rfl rfl (by have := (l[k]).key.le; have := (l[k]).val.le; omega)) (W.mv (W.mv ?_))))))
   have q41 := (h_l.mono hG35).at (i := k) (by omega)
   refine match q41 with | ⟨_, he39, e_40⟩ => ?_
   subst e_40
   refine W.ok (ok_indexAddr (i := k) sl41 ty120 (h_l.mono hG35) rfl rfl ⟨by dsimp only, by omega⟩) (W.ok (ok_fieldE fd120_1 rfl he39.form) (W.ok (ok_loadE (vs := [.string _]) ty9 he39 rfl rfl rfl (by simp)) (W.ok (ok_lenS st9 rfl) (W.ok (ok_add rfl rfl (by have := (l[k]).key.le; have := (l[k]).val.le; omega)) (W.ok (ok_add rfl rfl (by have := (l[k]).key.le; have := (l[k]).val.le; dsimp only; omega)) (W.as (W.nil (blk_n (thn_n (WC.region (W.mv (W.ok (ok_add rfl rfl (by dsimp only; omega)) (W.as (W.nil (thn_n ?_)))))))))))))))
   exact ⟨Le.rfl, (k + 1, n + Pair.w l[k]), ⟨(by first | rfl | exact iv (by dsimp only [Pair.w]) | exact iv (by dsimp only [Pair.w]; omega)), eqv, eqv, eqv, trivial⟩, ⟨rfl, by dsimp only; omega, by have := Pair.w_pos l[k]; dsimp only; omega, by have := Pair.w_le l[k]; dsimp only; omega, (longG_step (by omega) p14).symm.trans hlg⟩, by dsimp only; omega⟩
  have p14 := of_decide_eq_false h14
  refine WC.exit (thn_x (thn_x (blk_h (thn_n (WC.seq (WC.region (W.mv (W.mv (W.ok (ok_leq rfl rfl) (W.as (W.nil (thn_n (WC.ret ?_)))))))))))))
  refine ⟨.inr rfl, [_], ⟨rfl, trivial⟩, [], sn9, ?_⟩
  refine congrArg Value.bool ?_
  rw [← hlg]
  rw [longG_stop (by omega)]
 have p10 := of_decide_eq_false h10
 refine W.no (dj := 11) rfl rfl h10 (W.no (dj := 11) rfl rfl h10 (W.no (dj := 11) rfl rfl h10 (W.ok (ok_pick_f rfl h10) (W.nil (thn_n (WC.cond_f rfl rfl (WC.exit (thn_x (thn_x (blk_h (thn_n (WC.seq (WC.region (W.mv (W.mv (W.ok (ok_leq rfl rfl) (W.as (W.nil (thn_n ?_)))))))))))))))))))
 refine WC.ret ?_
 refine ⟨.inr rfl, [_], ⟨rfl, trivial⟩, [], sn9, ?_⟩
 refine congrArg Value.bool ?_
 rw [← hlg]
 rw [longG_end (by omega)]

theorem few_fc {G : GH} {v_l : Value} {l : List Msg} (h_l : SlR eMsg G v_l l) (m : Int) (hm : 0 ≤ m ∧ m ≤ 1073741824) :
    Fc Tryz.prog 69 [v_l, .int .i64 m] G [] (fun v _ _ => v = .bool (decide (longG Msg.w l 0 m ≤ m))) := by
 obtain ⟨sa_l, sc_l, rfl⟩ := h_l.form
 have hl := h_l.len47
 refine Fc.intro (rs := [.tmp 4]) cl69 Tryz.func69 rfl Tryz.ntmps69 rfl rfl (fun w0 => ?_)
 refine WC.seq (WC.region (W.as (W.nil (thn_n (WC.seq (WC.region (W.as (W.nil (thn_n (WC.seq (WC.seq (WC.region (W.as (W.nil (thn_n (WC.block ?_))))))))))))))))
 refine WC.loop (X := Nat × Int) (fun x => [(5, .int .i64 x.2), (6, .int .i64 ((x.1 : Nat) : Int)), (0, .slice sa_l l.length sc_l), (1, .int .i64 m)]) (fun x _ Ml => Ml = [] ∧ x.1 ≤ l.length ∧ 0 ≤ x.2 ∧ x.2 ≤ 1125899906842624 ∧ longG Msg.w (l.drop x.1) x.2 m = longG Msg.w l 0 m) (fun x => l.length - x.1) (0, 0) ⟨eqv, eqv, eqv, eqv, trivial⟩ ?_ ?_
 ·exact ⟨rfl, by simp, by simp, by simp, by simp⟩
 rintro ⟨k, n⟩ gG42 G42 _ hG42 ⟨rfl, hk, hn, hn2, hlg⟩
 dsimp only at hk hn hn2 hlg
 refine WC.seq (WC.seq (WC.region (W.mv (W.mv (W.ok (ok_len sl40 (h_l.mono hG42) rfl) (W.ok (ok_lss rfl rfl) (W.mv ?_)))))))
 refine W.sp 11 rfl (fun h10 => ?_) (fun h10 => ?_)
 ·have p10 := of_decide_eq_true h10
  refine W.yes (dj := 11) rfl rfl h10 (W.mv (W.yes (dj := 11) rfl rfl h10 (W.mv (W.yes (dj := 11) rfl rfl h10 (W.ok (ok_leq rfl rfl) (W.ok (ok_pick_t rfl h10) (W.nil (thn_n ?_))))))))
  refine WC.cond (b := _) rfl (fun h14 => ?_) (fun h14 => ?_)
  ·have p14 := of_decide_eq_true h14
   refine WC.skip (thn_n (WC.seq (WC.block (WC.draw mix (by kernel_rfl) (W.mv (W.mv (W.mv ?_)))))))
   have q47 := (h_l.mono hG42).at (i := k) (by omega)
   refine match q47 with | ⟨_, he43, ⟨e_46, hm44⟩⟩ => ?_
   subst e_46
   refine W.ok (ok_indexAddr (i := k) sl40 ty150 (h_l.mono hG42) rfl rfl ⟨by dsimp only, by omega⟩) (W.ok (ok_fieldE fd150_2 rfl he43.form) (W.ok (ok_loadE (vs := [.string _]) ty9 he43 rfl rfl rfl (by simp)) (W.ok (ok_lenS st9 rfl) (W.ok (ok_add rfl rfl (by have := (l[k]).key.le; have := (l[k]).val.le; have := (l[k]).hi.le; omega)) (W.mv (W.mv ?_))))))
   have q52 := (h_l.mono hG42).at (i := k) (by omega)
   refine match q52 with | ⟨_, he48, ⟨e_51, hm49⟩⟩ => ?_
   subst e_51
   refine W.ok (ok_indexAddr (i := k) sl40 ty150 (h_l.mono hG42) rfl rfl ⟨by dsimp only, by omega⟩) (W.ok (ok_fieldE fd150_3 rfl he48.form) (W.ok (ok_loadE (vs := [.string _]) ty9 he48 rfl rfl rfl (by simp)) (W.ok (ok_lenS st9 rfl) (W.ok (ok_add rfl rfl (by have := (l[k]).key.le; have := (l[k]).val.le; have := (l[k]).hi.le; omega)) (W.mv (W.mv ?_))))))
   have q57 := (h_l.mono hG42).at (i := k) (by omega)
   refine match q57 with | ⟨_, he53, ⟨e_56, hm54⟩⟩ => ?_
   subst e_56
   refine W.ok (ok_indexAddr (i := k) sl40 ty150 (h_l.mono hG42) rfl rfl ⟨by dsimp only, by omega⟩) (W.ok (ok_fieldE fd150_5 rfl he53.form) (W.ok (ok_loadE (vs := [.string _]) ty9 he53 rfl rfl rfl (by simp)) (W.ok (ok_lenS st9 rfl) (W.ok (ok_add rfl rfl (by have := (l[k]).key.le; have := (l[k]).val.le; have := (l[k]).hi.le; omega)) (W.ok (ok_add rfl rfl (by have := (l[k]).key.le; have := (l[k]).val.le; have := (l[k]).hi.le; dsimp only; omega)) (W.as (W.nil (blk_n (thn_n (WC.region (W.mv (W.ok (ok_add rfl rfl (by dsimp only; omega)) (W.as (W.nil (thn_n ?_)))))))))))))))
   exact ⟨Le.rfl, (k + 1, n + Msg.w l[k]), ⟨(by first | rfl | exact iv (by dsimp only [Msg.w]) | exact iv (by dsimp only [Msg.w]; omega)), eqv, eqv, eqv, trivial⟩, ⟨rfl, by dsimp only; omega, by have := Msg.w_pos l[k]; dsimp only; omega, by have := Msg.w_le l[k]; dsimp only; omega, (longG_step (by omega) p14).symm.trans hlg⟩, by dsimp only; omega⟩
  have p14 := of_decide_eq_false h14
  refine WC.exit (thn_x (thn_x (blk_h (thn_n (WC.seq (WC.region (W.mv (W.mv (W.ok (ok_leq rfl rfl) (W.as (W.nil (thn_n (WC.ret ?_)))))))))))))
  refine ⟨.inr rfl, [_], ⟨rfl, trivial⟩, [], sn9, ?_⟩
  refine congrArg Value.bool ?_
  rw [← hlg]
  rw [longG_stop (by omega)]
 have p10 := of_decide_eq_false h10
 refine W.no (dj := 11) rfl rfl h10 (W.no (dj := 11) rfl rfl h10 (W.no (dj := 11) rfl rfl h10 (W.ok (ok_pick_f rfl h10) (W.nil (thn_n (WC.cond_f rfl rfl (WC.exit (thn_x (thn_x (blk_h (thn_n (WC.seq (WC.region (W.mv (W.mv (W.ok (ok_leq rfl rfl) (W.as (W.nil (thn_n ?_)))))))))))))))))))
 refine WC.ret ?_
 refine ⟨.inr rfl, [_], ⟨rfl, trivial⟩, [], sn9, ?_⟩
 refine congrArg Value.bool ?_
 rw [← hlg]
 rw [longG_end (by omega)]

theorem rightp_fc {G : GH} {v_l : Value} {l : List Pair} (h_l : SlR ePair G v_l l) :
    Fc Tryz.prog 113 [v_l] G [] (fun v _ _ => v = .bool (decide (PairsR l))) := by
 obtain ⟨sa_l, sc_l, rfl⟩ := h_l.form
 have hl := h_l.len47
 refine Fc.intro (rs := [.tmp 2]) cl113 Tryz.func113 rfl Tryz.ntmps113 rfl rfl (fun w0 => ?_)
 refine WC.seq (WC.region (W.as (W.nil (thn_n (WC.seq (WC.seq (WC.region (W.as (W.nil (thn_n (WC.block ?_)))))))))))
 refine WC.loop (X := Nat) (fun k => [(3, .int .i64 ((k : Nat) : Int)), (0, .slice sa_l l.length sc_l)]) (fun k _ Ml => Ml = [] ∧ ∀ i (h : i < l.length), i < k → (l[i].key.b.size ≤ 16 ∧ l[i].val.b.size ≤ 16) ∧ (0 < i → (l[i - 1]'(by omega)).key.lt l[i].key = true)) (fun k => l.length - k) 0 ⟨eqv, eqv, trivial⟩ ?_ ?_
 ·exact ⟨rfl, fun i _ h => by omega⟩
 rintro k gG58 G58 _ hG58 ⟨rfl, hk⟩
 refine WC.seq (WC.seq (WC.region (W.mv (W.mv (W.ok (ok_len sl41 (h_l.mono hG58) rfl) (W.ok (ok_lss rfl rfl) (W.nil (thn_n ?_))))))))
 refine WC.cond (b := _) rfl (fun h7 => ?_) (fun h7 => ?_)
 ·have p7 := of_decide_eq_true h7
  refine WC.skip (thn_n (WC.seq (WC.block (WC.seq (WC.draw mix (by kernel_rfl) (W.mv (W.mv ?_)))))))
  have q61 := (h_l.mono hG58).at (i := k) (by omega)
  refine match q61 with | ⟨_, he59, e_60⟩ => ?_
  subst e_60
  refine W.ok (ok_indexAddr (i := k) sl41 ty120 (h_l.mono hG58) rfl rfl ⟨by omega, by omega⟩) (W.ok (ok_fieldE fd120_0 rfl he59.form) (W.ok (ok_loadE (vs := [.string _]) ty9 he59 rfl rfl rfl (by simp)) (W.ok (ok_lenS st9 rfl) (W.ok (ok_gtr rfl rfl) (W.mv ?_)))))
  refine W.sp 17 rfl (fun h16 => ?_) (fun h16 => ?_)
  ·have p16 := of_decide_eq_true h16
   refine W.no (dj := 17) rfl rfl h16 (W.no (dj := 17) rfl rfl h16 (W.no (dj := 17) rfl rfl h16 (W.no (dj := 17) rfl rfl h16 (W.no (dj := 17) rfl rfl h16 (W.no (dj := 17) rfl rfl h16 (W.no (dj := 17) rfl rfl h16 (W.ok (ok_pick_t rfl h16) (W.mv (W.no (dj := 26) rfl rfl rfl (W.no (dj := 26) rfl rfl rfl (W.no (dj := 26) rfl rfl rfl (W.nou (dj := 29) rfl rfl (W.nou (dj := 29) rfl rfl ?_)))))))))))))
   refine W.nou (dj := 29) rfl rfl (W.nou (dj := 29) rfl rfl (W.nou (dj := 29) rfl rfl (W.nou (dj := 29) rfl rfl (W.nou (dj := 29) rfl rfl (W.nou (dj := 29) rfl rfl (W.nou (dj := 29) rfl rfl (W.nou (dj := 29) rfl rfl (W.nou (dj := 29) rfl rfl (W.nou (dj := 29) rfl rfl (W.nou (dj := 29) rfl rfl (W.no (dj := 26) rfl rfl rfl (W.ok (ok_pick_t rfl rfl) (W.nil (thn_n ?_))))))))))))))
   refine WC.cond_t rfl rfl (WC.seq (WC.region (W.as (W.nil (thn_n (WC.ret (blk_r (thn_r (thn_r (blk_r (thn_r ?_)))))))))))
   refine ⟨.inr rfl, [_], ⟨rfl, trivial⟩, [], sn9, ?_⟩
   refine congrArg Value.bool ?_
   exact (decide_eq_false fun h => by have := h k (by omega); omega).symm
  have p16 := of_decide_eq_false h16
  refine W.yes (dj := 17) rfl rfl h16 (W.mv (W.yes (dj := 17) rfl rfl h16 (W.mv (W.yes (dj := 17) rfl rfl h16 ?_))))
  have q64 := (h_l.mono hG58).at (i := k) (by omega)
  refine match q64 with | ⟨_, he62, e_63⟩ => ?_
  subst e_63
  refine W.ok (ok_indexAddr (i := k) sl41 ty120 (h_l.mono hG58) rfl rfl ⟨by omega, by omega⟩) (W.yes (dj := 17) rfl rfl h16 (W.ok (ok_fieldE fd120_1 rfl he62.form) (W.yes (dj := 17) rfl rfl h16 (W.ok (ok_loadE (vs := [.string _]) ty9 he62 rfl rfl rfl (by simp)) (W.yes (dj := 17) rfl rfl h16 (W.ok (ok_lenS st9 rfl) (W.yes (dj := 17) rfl rfl h16 (W.ok (ok_gtr rfl rfl) (W.ok (ok_pick_f rfl h16) (W.mv ?_))))))))))
  refine W.sp 26 rfl (fun h24 => ?_) (fun h24 => ?_)
  ·have p24 := of_decide_eq_true h24
   refine W.no (dj := 26) rfl rfl h24 (W.no (dj := 26) rfl rfl h24 (W.no (dj := 26) rfl rfl h24 (W.nou (dj := 29) rfl rfl (W.nou (dj := 29) rfl rfl (W.nou (dj := 29) rfl rfl (W.nou (dj := 29) rfl rfl (W.nou (dj := 29) rfl rfl (W.nou (dj := 29) rfl rfl (W.nou (dj := 29) rfl rfl (W.nou (dj := 29) rfl rfl (W.nou (dj := 29) rfl rfl (W.nou (dj := 29) rfl rfl (W.nou (dj := 29) rfl rfl ?_)))))))))))))
   refine W.nou (dj := 29) rfl rfl (W.nou (dj := 29) rfl rfl (W.no (dj := 26) rfl rfl h24 (W.ok (ok_pick_t rfl h24) (W.nil (thn_n (WC.cond_t rfl rfl (WC.seq (WC.region (W.as (W.nil (thn_n (WC.ret (blk_r (thn_r (thn_r (blk_r (thn_r ?_)))))))))))))))))
   refine ⟨.inr rfl, [_], ⟨rfl, trivial⟩, [], sn9, ?_⟩
   refine congrArg Value.bool ?_
   exact (decide_eq_false fun h => by have := h k (by omega); omega).symm
  have p24 := of_decide_eq_false h24
  refine W.yes (dj := 26) rfl rfl h24 (W.mv (W.yes (dj := 26) rfl rfl h24 (W.ok (ok_gtr rfl rfl) (W.yes (dj := 26) rfl rfl h24 (W.mv ?_)))))
  refine W.sp 29 rfl (fun h28 => ?_) (fun h28 => ?_)
  ·have p28 := of_decide_eq_true h28
   refine W.yes (dj := 29) rfl rfl h28 (W.mv (W.yes (dj := 29) rfl rfl h28 (W.mv (W.yes (dj := 29) rfl rfl h28 (W.ok (ok_sub rfl rfl (by omega)) (W.yes (dj := 29) rfl rfl h28 ?_))))))
   have q67 := (h_l.mono hG58).at (i := k - 1) (by omega)
   refine match q67 with | ⟨_, he65, e_66⟩ => ?_
   subst e_66
   refine W.ok (ok_indexAddr (i := k - 1) sl41 ty120 (h_l.mono hG58) rfl rfl ⟨by omega, by omega⟩) (W.yes (dj := 29) rfl rfl h28 (W.ok (ok_fieldE fd120_0 rfl he65.form) (W.yes (dj := 29) rfl rfl h28 (W.ok (ok_loadE (vs := [.string _]) ty9 he65 rfl rfl rfl (by simp)) (W.yes (dj := 29) rfl rfl h28 (W.mv (W.yes (dj := 29) rfl rfl h28 (W.mv (W.yes (dj := 29) rfl rfl h28 ?_)))))))))
   have q70 := (h_l.mono hG58).at (i := k) (by omega)
   refine match q70 with | ⟨_, he68, e_69⟩ => ?_
   subst e_69
   refine W.ok (ok_indexAddr (i := k) sl41 ty120 (h_l.mono hG58) rfl rfl ⟨by omega, by omega⟩) (W.yes (dj := 29) rfl rfl h28 (W.ok (ok_fieldE fd120_0 rfl he68.form) (W.yes (dj := 29) rfl rfl h28 (W.ok (ok_loadE (vs := [.string _]) ty9 he68 rfl rfl rfl (by simp)) (W.yes (dj := 29) rfl rfl h28 (W.qcall (less_fc _ _) rfl (W.yes (dj := 29) rfl rfl h28 (W.ok (ok_not rfl) (W.yes (dj := 26) rfl rfl h24 (W.ok (ok_pick_t rfl h28) (W.ok (ok_pick_f rfl h24) (W.nil (thn_n ?_)))))))))))))
   refine WC.cond (b := _) rfl (fun h42 => ?_) (fun h42 => ?_)
   ·refine WC.seq (WC.region (W.as (W.nil (thn_n (WC.ret (blk_r (thn_r (thn_r (blk_r (thn_r ?_))))))))))
    refine ⟨.inr rfl, [_], ⟨rfl, trivial⟩, [], sn9, ?_⟩
    refine congrArg Value.bool ?_
    exact (decide_eq_false fun h => by have := h k (by omega); have h1 := this.2 (by omega); simp [h1] at h42).symm
   refine WC.skip (blk_n (thn_n (WC.region (W.mv (W.ok (ok_add rfl rfl (by omega)) (W.as (W.nil (thn_n ?_))))))))
   exact ⟨Le.rfl, k + 1, ⟨eqv, eqv, trivial⟩, ⟨rfl, fun i h hi => by
      by_cases e : i = k
      · subst e; exact ⟨⟨by omega, by omega⟩, fun h0 => by simpa using h42⟩
      · exact hk i h (by omega)⟩, by omega⟩
  have p28 := of_decide_eq_false h28
  refine W.no (dj := 29) rfl rfl h28 (W.no (dj := 29) rfl rfl h28 (W.no (dj := 29) rfl rfl h28 (W.no (dj := 29) rfl rfl h28 (W.no (dj := 29) rfl rfl h28 (W.no (dj := 29) rfl rfl h28 (W.no (dj := 29) rfl rfl h28 (W.no (dj := 29) rfl rfl h28 (W.no (dj := 29) rfl rfl h28 (W.no (dj := 29) rfl rfl h28 (W.no (dj := 29) rfl rfl h28 (W.no (dj := 29) rfl rfl h28 (W.no (dj := 29) rfl rfl h28 (W.yes (dj := 26) rfl rfl h24 ?_)))))))))))))
  refine W.ok (ok_pick_f rfl h28) (W.ok (ok_pick_f rfl h24) (W.nil (thn_n (WC.cond_f rfl rfl (WC.skip (blk_n (thn_n (WC.region (W.mv (W.ok (ok_add rfl rfl (by omega)) (W.as (W.nil (thn_n ?_)))))))))))))
  exact ⟨Le.rfl, k + 1, ⟨eqv, eqv, trivial⟩, ⟨rfl, fun i h hi => by
      by_cases e : i = k
      · subst e; exact ⟨⟨by omega, by omega⟩, fun h0 => by omega⟩
      · exact hk i h (by omega)⟩, by omega⟩
 have p7 := of_decide_eq_false h7
 refine WC.exit (thn_x (thn_x (blk_h (thn_n (WC.seq (WC.region (W.as (W.nil (thn_n (WC.ret ?_))))))))))
 refine ⟨.inr rfl, [_], ⟨rfl, trivial⟩, [], sn9, ?_⟩
 refine congrArg Value.bool ?_
 exact (decide_eq_true fun i h => hk i h (by omega)).symm

theorem clonep_fc {G : GH} {v_a : Value} {a : List Pair} (h_a : SlR ePair G v_a a) :
    Fc Tryz.prog 157 [v_a] G [] (fun v G' M' => M' = [] ∧ ∃ u0, v = u0 ∧ SlR ePair G' u0 (a)) := by
 obtain ⟨sa_a, sc_a, rfl⟩ := h_a.form
 have ha := h_a.bytes
 refine Fc.intro (rs := [.tmp 2]) cl157 Tryz.func157 rfl Tryz.ntmps157 rfl rfl (fun w0 => ?_)
 refine WC.seq (WC.region (W.as (W.nil (thn_n (WC.seq (WC.seq (WC.region (W.mv (W.ok (ok_eqlNil sl41 rfl rfl) (W.nil (thn_n ?_)))))))))))
 refine WC.cond (b := _) rfl (fun h4 => ?_) (fun h4 => ?_)
 ·have hn := SlR.isNone h_a h4
  subst hn
  refine WC.seq (WC.region (W.as (W.nil (thn_n (WC.ret (thn_r ?_))))))
  refine ⟨.inr rfl, [_], ⟨rfl, trivial⟩, [], sn9, ?_⟩
  refine ⟨rfl, _, rfl, ?_⟩
  · exact SlR.nil
 refine WC.skip (thn_n (WC.seq (WC.region (W.lit0 (e := ePair) sl41 ty120 zr120 rfl (fun v71 Ms72 ho73 => (W.mv (W.app (e := ePair) sl41 ty120 zr120 rfl by120 rfl rfl (ho73) (h_a) pr9 (by simpa using ha) (fun v74 Ms75 ho76 => (W.as (W.nil (thn_n (WC.giveO ho76 pr9 (fun G77 hG77 hv77 => (WC.ret ?_))))))))))))))
 refine ⟨.inr rfl, [_], ⟨rfl, trivial⟩, [], sn9, ?_⟩
 refine ⟨rfl, _, rfl, ?_⟩
 · exact hv77

theorem clonem_fc {G : GH} {v_a : Value} {a : List Msg} (h_a : SlR eMsg G v_a a) :
    Fc Tryz.prog 156 [v_a] G [] (fun v G' M' => M' = [] ∧ ∃ u0, v = u0 ∧ SlR eMsg G' u0 (a)) := by
 obtain ⟨sa_a, sc_a, rfl⟩ := h_a.form
 have ha := h_a.bytes
 refine Fc.intro (rs := [.tmp 2]) cl156 Tryz.func156 rfl Tryz.ntmps156 rfl rfl (fun w0 => ?_)
 refine WC.seq (WC.region (W.as (W.nil (thn_n (WC.seq (WC.seq (WC.region (W.mv (W.ok (ok_eqlNil sl40 rfl rfl) (W.nil (thn_n ?_)))))))))))
 refine WC.cond (b := _) rfl (fun h4 => ?_) (fun h4 => ?_)
 ·have hn := SlR.isNone h_a h4
  subst hn
  refine WC.seq (WC.region (W.as (W.nil (thn_n (WC.ret (thn_r ?_))))))
  refine ⟨.inr rfl, [_], ⟨rfl, trivial⟩, [], sn9, ?_⟩
  refine ⟨rfl, _, rfl, ?_⟩
  · exact SlR.nil
 refine WC.skip (thn_n (WC.seq (WC.region (W.lit0 (e := eMsg) sl40 ty150 zr150 rfl (fun v78 Ms79 ho80 => (W.mv (W.app (e := eMsg) sl40 ty150 zr150 rfl by150 rfl rfl (ho80) (h_a) pr9 (by simpa using ha) (fun v81 Ms82 ho83 => (W.as (W.nil (thn_n (WC.giveO ho83 pr9 (fun G84 hG84 hv84 => (WC.ret ?_))))))))))))))
 refine ⟨.inr rfl, [_], ⟨rfl, trivial⟩, [], sn9, ?_⟩
 refine ⟨rfl, _, rfl, ?_⟩
 · exact hv84

end Go.Proofs.YtmbafmifalppaaaGreat
namespace Go.Proofs.YtmbafmifalppaaaGreat
open Go Go.Fw Go.RowKit
theorem rget_fc {G : GH} {v_l : Value} {l : List Pair} (h_l : SlR ePair G v_l l) (k : Str) :
    Fc Tryz.prog 19 [v_l, .string k.b] G [] (fun v _ _ => v = .tuple #[.string (Str.b ((getN l k).getD Str.nil)), .bool ((getN l k).isSome)]) := by
 obtain ⟨sa_l, sc_l, rfl⟩ := h_l.form
 have hl := h_l.len47
 refine Fc.intro (rs := [.tmp 4, .tmp 5]) cl19 Tryz.func19 rfl Tryz.ntmps19 rfl rfl (fun w0 => ?_)
 refine WC.seq (WC.region (W.as (W.as (W.nil (thn_n (WC.seq (WC.seq (WC.region (W.as (W.nil (thn_n (WC.block ?_))))))))))))
 refine WC.loop (X := Nat) (fun i => [(6, .int .i64 ((i : Nat) : Int)), (0, .slice sa_l l.length sc_l), (1, .string k.b)]) (fun i _ Ml => Ml = [] ∧ i ≤ l.length ∧ ∀ j (h : j < l.length), j < i → l[j].key ≠ k) (fun i => l.length - i) 0 ⟨eqv, eqv, eqv, trivial⟩ ?_ ?_
 ·exact ⟨rfl, by omega, fun j _ h => by omega⟩
 rintro i gG12 G12 _ hG12 ⟨rfl, hi, hj⟩
 refine WC.seq (WC.seq (WC.region (W.mv (W.mv (W.ok (ok_len sl41 (h_l.mono hG12) rfl) (W.ok (ok_lss rfl rfl) (W.nil (thn_n ?_))))))))
 refine WC.cond (b := _) rfl (fun h10 => ?_) (fun h10 => ?_)
 ·have p10 := of_decide_eq_true h10
  refine WC.skip (thn_n (WC.seq (WC.block (WC.seq (WC.region (W.mv (W.mv ?_)))))))
  have q15 := (h_l.mono hG12).at (i := i) (by omega)
  refine match q15 with | ⟨_, he13, e_14⟩ => ?_
  subst e_14
  refine W.ok (ok_indexAddr (i := i) sl41 ty120 (h_l.mono hG12) rfl rfl ⟨by omega, by omega⟩) (W.ok (ok_fieldE fd120_0 rfl he13.form) (W.ok (ok_loadE (vs := [.string _]) ty9 he13 rfl rfl rfl (by simp)) (W.mv (W.ok (ok_eqlS rfl rfl) (W.nil (thn_n ?_))))))
  refine WC.cond (b := _) rfl (fun h19 => ?_) (fun h19 => ?_)
  ·have p19 := of_decide_eq_true h19
   refine WC.seq (WC.region (W.mv (W.mv ?_)))
   have q18 := (h_l.mono hG12).at (i := i) (by omega)
   refine match q18 with | ⟨_, he16, e_17⟩ => ?_
   subst e_17
   refine W.ok (ok_indexAddr (i := i) sl41 ty120 (h_l.mono hG12) rfl rfl ⟨by omega, by omega⟩) (W.ok (ok_fieldE fd120_1 rfl he16.form) (W.ok (ok_loadE (vs := [.string _]) ty9 he16 rfl rfl rfl (by simp)) (W.as (W.as (W.nil (thn_n (WC.ret (blk_r (thn_r (thn_r (blk_r (thn_r ?_))))))))))))
   refine ⟨.inr rfl, [_, _], ⟨rfl, rfl, trivial⟩, [], sn9, ?_⟩
   show Value.tuple #[Value.string _, Value.bool _] = _
   have e1 : l[i].key = k := Str.ext' p19
   have e := getN_at (by omega : i < l.length) (fun j h hji => by rw [e1]; exact hj j h hji)
   rw [e1] at e
   rw [e]; rfl
  have p19 := of_decide_eq_false h19
  refine WC.skip (blk_n (thn_n (WC.region (W.mv (W.ok (ok_add rfl rfl (by omega)) (W.as (W.nil (thn_n ?_))))))))
  exact ⟨Le.rfl, i + 1, ⟨eqv, eqv, eqv, trivial⟩, ⟨rfl, by omega, fun j h hji e => by
      by_cases e2 : j = i
      · subst e2; exact p19 (congrArg Str.b e)
      · exact hj j h (by omega) e⟩, by omega⟩
 have p10 := of_decide_eq_false h10
 refine WC.exit (thn_x (thn_x (blk_h (thn_n (WC.seq (WC.region (W.as (W.as (W.nil (thn_n (WC.ret ?_)))))))))))
 refine ⟨.inr rfl, [_, _], ⟨rfl, rfl, trivial⟩, [], sn9, ?_⟩
 show Value.tuple #[Value.string _, Value.bool _] = _
 rw [getN_no (fun j h => hj j h (by omega))]; rfl

theorem cmp_fc {G : GH} (a : Str) (b : Str) :
    Fc Tryz.prog 243 [.string a.b, .string b.b] G [] (fun v _ _ => v = .int .i64 (cmpN a b)) := by
 refine Fc.intro (rs := [.tmp 4]) cl243 Tryz.func243 rfl Tryz.ntmps243 rfl rfl (fun w0 => ?_)
 refine WC.seq (WC.region (W.as (W.nil (thn_n (WC.seq (WC.region (W.mv (W.qcall (isnan_fc _) rfl (W.as (W.nil (thn_n (WC.seq (WC.region (W.mv (W.qcall (isnan_fc _) rfl ?_)))))))))))))))
 refine W.as (W.nil (thn_n (WC.seq (WC.seq (WC.region (W.mv (W.nil (thn_n ?_))))))))
 refine WC.cond (b := _) rfl (fun h8 => ?_) (fun h8 => ?_)
 ·cases h8
 refine WC.skip (thn_n (WC.seq (WC.seq (WC.region (W.mv (W.nil (thn_n ?_)))))))
 refine WC.cond (b := _) rfl (fun h10 => ?_) (fun h10 => ?_)
 ·cases h10
 refine WC.skip (thn_n (WC.seq (WC.seq (WC.region (W.mv (W.mv (W.ok (ok_lssS rfl rfl) (W.nil (thn_n ?_)))))))))
 refine WC.cond (b := _) rfl (fun h16 => ?_) (fun h16 => ?_)
 ·refine WC.seq (WC.region (W.as (W.nil (thn_n (WC.ret (thn_r ?_))))))
  refine ⟨.inr rfl, [_], ⟨rfl, trivial⟩, [], sn9, ?_⟩
  refine congrArg (Value.int .i64) ?_
  simp_all [cmpN, Str.lt]
 refine WC.skip (thn_n (WC.seq (WC.seq (WC.region (W.mv (W.mv (W.ok (ok_gtrS rfl rfl) (W.nil (thn_n ?_)))))))))
 refine WC.cond (b := _) rfl (fun h19 => ?_) (fun h19 => ?_)
 ·refine WC.seq (WC.region (W.as (W.nil (thn_n (WC.ret (thn_r ?_))))))
  refine ⟨.inr rfl, [_], ⟨rfl, trivial⟩, [], sn9, ?_⟩
  refine congrArg (Value.int .i64) ?_
  simp_all [cmpN, Str.lt]
 refine WC.skip (thn_n (WC.seq (WC.region (W.as (W.nil (thn_n (WC.ret ?_)))))))
 refine ⟨.inr rfl, [_], ⟨rfl, trivial⟩, [], sn9, ?_⟩
 refine congrArg (Value.int .i64) ?_
 simp_all [cmpN, Str.lt]

theorem kcmp_fc {G : GH} (a : Str) (b : Str) :
    Fc Tryz.prog 233 [.string a.b, .string b.b] G [] (fun v _ _ => v = .int .i64 (cmpN a b)) := by
 refine Fc.intro (rs := [.tmp 4]) cl233 Tryz.func233 rfl Tryz.ntmps233 rfl rfl (fun w0 => ?_)
 refine WC.seq (WC.region (W.as (W.nil (thn_n (WC.seq (WC.region (W.mv (W.mv (W.qcall (cmp_fc _ _) rfl (W.as (W.nil (thn_n (WC.ret ?_)))))))))))))
 refine ⟨.inr rfl, [_], ⟨rfl, trivial⟩, [], sn9, ?_⟩
 rfl

theorem cl_m_fc {G : GH} (pk : Str) (pv : Str) (k : Str) :
    Fc Tryz.prog 232 [.agg #[.string pk.b, .string pv.b], .string k.b] G [] (fun v _ _ => v = .int .i64 (cmpN pk k)) := by
 refine Fc.intro (rs := [.tmp 4]) cl232 Tryz.func232 rfl Tryz.ntmps232 rfl rfl (fun w0 => ?_)
 refine WC.seq (WC.region (W.box (L := [.string _, .string _]) rfl rfl (fun b19 => (W.as (W.nil (thn_n (WC.seq (WC.region (W.ok (ok_fieldB fd120_0 rfl) (W.ok (ok_loadB (i := 0) (vs := [.string _]) ty9 rfl rfl rfl rfl (by simp)) (W.mv (W.qcall (kcmp_fc _ _) rfl (W.as (W.nil (thn_n (WC.ret ?_))))))))))))))))
 refine ⟨.inr rfl, [_], ⟨rfl, trivial⟩, [], sn9, ?_⟩
 rfl

theorem cl_r_fc {G : GH} (pk : Str) (pv : Str) (k : Str) :
    Fc Tryz.prog 244 [.agg #[.string pk.b, .string pv.b], .string k.b] G [] (fun v _ _ => v = .int .i64 (cmpN pk k)) := by
 refine Fc.intro (rs := [.tmp 4]) cl244 Tryz.func244 rfl Tryz.ntmps244 rfl rfl (fun w0 => ?_)
 refine WC.seq (WC.region (W.box (L := [.string _, .string _]) rfl rfl (fun b20 => (W.as (W.nil (thn_n (WC.seq (WC.region (W.ok (ok_fieldB fd120_0 rfl) (W.ok (ok_loadB (i := 0) (vs := [.string _]) ty9 rfl rfl rfl rfl (by simp)) (W.mv (W.qcall (kcmp_fc _ _) rfl (W.as (W.nil (thn_n (WC.ret ?_))))))))))))))))
 refine ⟨.inr rfl, [_], ⟨rfl, trivial⟩, [], sn9, ?_⟩
 rfl

theorem bsfm_fc {G : GH} {v_l : Value} {l : List Pair} (h_l : SlR ePair G v_l l) (k : Str) (hr : Srt l) :
    Fc Tryz.prog 231 [v_l, .string k.b, .func (.func 232) #[] #[]] G [] (fun v _ _ => v = .tuple #[.int .i64 ((fndN l k : Nat) : Int), .bool ((getN l k).isSome)]) := by
 obtain ⟨sa_l, sc_l, rfl⟩ := h_l.form
 have hlen := h_l.len47
 refine Fc.intro (rs := [.tmp 6, .tmp 7]) cl231 Tryz.func231 rfl Tryz.ntmps231 rfl rfl (fun w0 => ?_)
 refine WC.seq (WC.region (W.as (W.as (W.nil (thn_n (WC.seq (WC.region (W.mv (W.ok (ok_len sl41 h_l rfl) (W.as (W.nil (thn_n (WC.seq (WC.region (W.mv ?_)))))))))))))))
 refine W.as (W.as (W.nil (thn_n (WC.seq (WC.block ?_)))))
 refine WC.loop (X := Nat × Nat) (fun x => [(9, .int .i64 ((x.1 : Nat) : Int)), (10, .int .i64 ((x.2 : Nat) : Int)), (0, .slice sa_l l.length sc_l), (1, .string k.b), (2, .func (.func 232) #[] #[]), (8, .int .i64 (((l).length : Nat) : Int))]) (fun x _ Ml => Ml = [] ∧ x.1 ≤ x.2 ∧ x.2 ≤ l.length ∧ (∀ q (h : q < l.length), q < x.1 → l[q].key.lt k = true) ∧ (∀ q (h : q < l.length), x.2 ≤ q → l[q].key.lt k = false)) (fun x => x.2 - x.1) (0, l.length) ⟨eqv, eqv, eqv, eqv, eqv, eqv, trivial⟩ ?_ ?_
 ·exact ⟨rfl, by simp, by simp, (fun q _ h => by simp at h), (fun q h h' => by simp at h'; omega)⟩
 rintro ⟨i, j⟩ gG21 G21 _ hG21 ⟨rfl, hi, hj, h1, h2⟩
 dsimp only at hi hj h1 h2
 refine WC.seq (WC.seq (WC.region (W.mv (W.mv (W.ok (ok_lss rfl rfl) (W.nil (thn_n ?_)))))))
 refine WC.cond (b := _) rfl (fun h17 => ?_) (fun h17 => ?_)
 ·have p17 := of_decide_eq_true h17
  refine WC.skip (thn_n (WC.block (WC.seq (WC.region (W.mv (W.mv (W.ok (ok_add rfl rfl (by omega)) (W.ok (ok_convU un3 un31 rfl (by omega)) (W.ok (ok_shr1 rfl rfl (by omega)) (W.ok (ok_convI un31 un3 rfl (by omega)) (W.as (W.nil (thn_n (WC.seq (WC.region ?_)))))))))))))))
  refine W.mv (W.mv (W.mv ?_))
  have q24 := (h_l.mono hG21).at (i := (i + j) / 2) (by omega)
  refine match q24 with | ⟨_, he22, e_23⟩ => ?_
  subst e_23
  refine W.ok (ok_indexAddr (i := (i + j) / 2) sl41 ty120 (h_l.mono hG21) rfl rfl ⟨by dsimp only; omega, by omega⟩) (W.ok (ok_loadE (vs := [.string _, .string _]) ty120 he22 rfl rfl rfl (by simp)) (W.mv (W.qcallV (fst := []) (caps := []) rfl (cl_m_fc _ _ _) rfl (W.ok (ok_lss rfl rfl) (W.nil (thn_n ?_))))))
  refine WC.cond (b := _) rfl (fun h31 => ?_) (fun h31 => ?_)
  ·have p31 := of_decide_eq_true h31
   refine WC.region (W.mv (W.ok (ok_add rfl rfl (by omega)) (W.as (W.nil (blk_n (thn_n ?_))))))
   exact ⟨Le.rfl, ((i + j) / 2 + 1, j), ⟨eqv, eqv, eqv, eqv, eqv, eqv, trivial⟩, ⟨rfl, by dsimp only; omega, by dsimp only; omega, (fun q h hq => hr.below (by omega) (cmpN_neg.1 p31) q h (by dsimp only at hq; omega)), h2⟩, by dsimp only; omega⟩
  have p31 := of_decide_eq_false h31
  refine WC.region (W.mv (W.as (W.nil (blk_n (thn_n ?_)))))
  exact ⟨Le.rfl, (i, (i + j) / 2), ⟨eqv, eqv, eqv, eqv, eqv, eqv, trivial⟩, ⟨rfl, by dsimp only; omega, by dsimp only; omega, h1, (fun q h hq => hr.above (by omega) (cmpN_nn p31) q h (by dsimp only at hq; omega))⟩, by dsimp only; omega⟩
 have p17 := of_decide_eq_false h17
 refine WC.exit (thn_x (thn_x (blk_h (thn_n (WC.seq (WC.region (W.mv (W.mv (W.mv (W.ok (ok_lss rfl rfl) (W.mv ?_)))))))))))
 refine W.sp 39 rfl (fun h38 => ?_) (fun h38 => ?_)
 ·have p38 := of_decide_eq_true h38
  refine W.yes (dj := 39) rfl rfl h38 (W.mv (W.yes (dj := 39) rfl rfl h38 (W.mv (W.yes (dj := 39) rfl rfl h38 (W.mv (W.yes (dj := 39) rfl rfl h38 ?_))))))
  have q27 := (h_l.mono hG21).at (i := i) (by omega)
  refine match q27 with | ⟨_, he25, e_26⟩ => ?_
  subst e_26
  refine W.ok (ok_indexAddr (i := i) sl41 ty120 (h_l.mono hG21) rfl rfl ⟨by dsimp only, by omega⟩) (W.yes (dj := 39) rfl rfl h38 (W.ok (ok_loadE (vs := [.string _, .string _]) ty120 he25 rfl rfl rfl (by simp)) (W.yes (dj := 39) rfl rfl h38 (W.mv (W.yes (dj := 39) rfl rfl h38 (W.qcallV (fst := []) (caps := []) rfl (cl_m_fc _ _ _) rfl (W.yes (dj := 39) rfl rfl h38 (W.ok (ok_eql rfl rfl) (W.ok (ok_pick_t rfl h38) (W.as (W.as (W.nil (thn_n (WC.ret ?_))))))))))))))
  refine ⟨.inr rfl, [_, _], ⟨rfl, rfl, trivial⟩, [], sn9, ?_⟩
  have hlow : fndN l k = i := fnd_eq (by omega) h1 (fun q h hq => h2 q h (by omega))
  refine tup2 (by rw [hlow]) ?_
  rw [hr.has]
  rw [cmpN_zero_d]
  exact decide_eq_decide.2 ⟨fun e => ⟨by omega, by simp only [hlow]; exact e⟩, fun ⟨_, e⟩ => by simp only [hlow] at e; exact e⟩
 have p38 := of_decide_eq_false h38
 refine W.no (dj := 39) rfl rfl h38 (W.no (dj := 39) rfl rfl h38 (W.no (dj := 39) rfl rfl h38 (W.no (dj := 39) rfl rfl h38 (W.no (dj := 39) rfl rfl h38 (W.no (dj := 39) rfl rfl h38 (W.no (dj := 39) rfl rfl h38 (W.no (dj := 39) rfl rfl h38 (W.ok (ok_pick_f rfl h38) (W.as (W.as (W.nil (thn_n (WC.ret ?_)))))))))))))
 refine ⟨.inr rfl, [_, _], ⟨rfl, rfl, trivial⟩, [], sn9, ?_⟩
 have hlow : fndN l k = i := fnd_eq (by omega) h1 (fun q h hq => h2 q h (by omega))
 refine tup2 (by rw [hlow]) ?_
 rw [hr.has]
 exact (decide_eq_false (by rintro ⟨h, _⟩; omega)).symm

theorem bsfr_fc {G : GH} {v_l : Value} {l : List Pair} (h_l : SlR ePair G v_l l) (k : Str) (hr : Srt l) :
    Fc Tryz.prog 231 [v_l, .string k.b, .func (.func 244) #[] #[]] G [] (fun v _ _ => v = .tuple #[.int .i64 ((fndN l k : Nat) : Int), .bool ((getN l k).isSome)]) := by
 obtain ⟨sa_l, sc_l, rfl⟩ := h_l.form
 have hlen := h_l.len47
 refine Fc.intro (rs := [.tmp 6, .tmp 7]) cl231 Tryz.func231 rfl Tryz.ntmps231 rfl rfl (fun w0 => ?_)
 refine WC.seq (WC.region (W.as (W.as (W.nil (thn_n (WC.seq (WC.region (W.mv (W.ok (ok_len sl41 h_l rfl) (W.as (W.nil (thn_n (WC.seq (WC.region (W.mv ?_)))))))))))))))
 refine W.as (W.as (W.nil (thn_n (WC.seq (WC.block ?_)))))
 refine WC.loop (X := Nat × Nat) (fun x => [(9, .int .i64 ((x.1 : Nat) : Int)), (10, .int .i64 ((x.2 : Nat) : Int)), (0, .slice sa_l l.length sc_l), (1, .string k.b), (2, .func (.func 244) #[] #[]), (8, .int .i64 (((l).length : Nat) : Int))]) (fun x _ Ml => Ml = [] ∧ x.1 ≤ x.2 ∧ x.2 ≤ l.length ∧ (∀ q (h : q < l.length), q < x.1 → l[q].key.lt k = true) ∧ (∀ q (h : q < l.length), x.2 ≤ q → l[q].key.lt k = false)) (fun x => x.2 - x.1) (0, l.length) ⟨eqv, eqv, eqv, eqv, eqv, eqv, trivial⟩ ?_ ?_
 ·exact ⟨rfl, by simp, by simp, (fun q _ h => by simp at h), (fun q h h' => by simp at h'; omega)⟩
 rintro ⟨i, j⟩ gG28 G28 _ hG28 ⟨rfl, hi, hj, h1, h2⟩
 dsimp only at hi hj h1 h2
 refine WC.seq (WC.seq (WC.region (W.mv (W.mv (W.ok (ok_lss rfl rfl) (W.nil (thn_n ?_)))))))
 refine WC.cond (b := _) rfl (fun h17 => ?_) (fun h17 => ?_)
 ·have p17 := of_decide_eq_true h17
  refine WC.skip (thn_n (WC.block (WC.seq (WC.region (W.mv (W.mv (W.ok (ok_add rfl rfl (by omega)) (W.ok (ok_convU un3 un31 rfl (by omega)) (W.ok (ok_shr1 rfl rfl (by omega)) (W.ok (ok_convI un31 un3 rfl (by omega)) (W.as (W.nil (thn_n (WC.seq (WC.region ?_)))))))))))))))
  refine W.mv (W.mv (W.mv ?_))
  have q31 := (h_l.mono hG28).at (i := (i + j) / 2) (by omega)
  refine match q31 with | ⟨_, he29, e_30⟩ => ?_
  subst e_30
  refine W.ok (ok_indexAddr (i := (i + j) / 2) sl41 ty120 (h_l.mono hG28) rfl rfl ⟨by dsimp only; omega, by omega⟩) (W.ok (ok_loadE (vs := [.string _, .string _]) ty120 he29 rfl rfl rfl (by simp)) (W.mv (W.qcallV (fst := []) (caps := []) rfl (cl_r_fc _ _ _) rfl (W.ok (ok_lss rfl rfl) (W.nil (thn_n ?_))))))
  refine WC.cond (b := _) rfl (fun h31 => ?_) (fun h31 => ?_)
  ·have p31 := of_decide_eq_true h31
   refine WC.region (W.mv (W.ok (ok_add rfl rfl (by omega)) (W.as (W.nil (blk_n (thn_n ?_))))))
   exact ⟨Le.rfl, ((i + j) / 2 + 1, j), ⟨eqv, eqv, eqv, eqv, eqv, eqv, trivial⟩, ⟨rfl, by dsimp only; omega, by dsimp only; omega, (fun q h hq => hr.below (by omega) (cmpN_neg.1 p31) q h (by dsimp only at hq; omega)), h2⟩, by dsimp only; omega⟩
  have p31 := of_decide_eq_false h31
  refine WC.region (W.mv (W.as (W.nil (blk_n (thn_n ?_)))))
  exact ⟨Le.rfl, (i, (i + j) / 2), ⟨eqv, eqv, eqv, eqv, eqv, eqv, trivial⟩, ⟨rfl, by dsimp only; omega, by dsimp only; omega, h1, (fun q h hq => hr.above (by omega) (cmpN_nn p31) q h (by dsimp only at hq; omega))⟩, by dsimp only; omega⟩
 have p17 := of_decide_eq_false h17
 refine WC.exit (thn_x (thn_x (blk_h (thn_n (WC.seq (WC.region (W.mv (W.mv (W.mv (W.ok (ok_lss rfl rfl) (W.mv ?_)))))))))))
 refine W.sp 39 rfl (fun h38 => ?_) (fun h38 => ?_)
 ·have p38 := of_decide_eq_true h38
  refine W.yes (dj := 39) rfl rfl h38 (W.mv (W.yes (dj := 39) rfl rfl h38 (W.mv (W.yes (dj := 39) rfl rfl h38 (W.mv (W.yes (dj := 39) rfl rfl h38 ?_))))))
  have q34 := (h_l.mono hG28).at (i := i) (by omega)
  refine match q34 with | ⟨_, he32, e_33⟩ => ?_
  subst e_33
  refine W.ok (ok_indexAddr (i := i) sl41 ty120 (h_l.mono hG28) rfl rfl ⟨by dsimp only, by omega⟩) (W.yes (dj := 39) rfl rfl h38 (W.ok (ok_loadE (vs := [.string _, .string _]) ty120 he32 rfl rfl rfl (by simp)) (W.yes (dj := 39) rfl rfl h38 (W.mv (W.yes (dj := 39) rfl rfl h38 (W.qcallV (fst := []) (caps := []) rfl (cl_r_fc _ _ _) rfl (W.yes (dj := 39) rfl rfl h38 (W.ok (ok_eql rfl rfl) (W.ok (ok_pick_t rfl h38) (W.as (W.as (W.nil (thn_n (WC.ret ?_))))))))))))))
  refine ⟨.inr rfl, [_, _], ⟨rfl, rfl, trivial⟩, [], sn9, ?_⟩
  have hlow : fndN l k = i := fnd_eq (by omega) h1 (fun q h hq => h2 q h (by omega))
  refine tup2 (by rw [hlow]) ?_
  rw [hr.has]
  rw [cmpN_zero_d]
  exact decide_eq_decide.2 ⟨fun e => ⟨by omega, by simp only [hlow]; exact e⟩, fun ⟨_, e⟩ => by simp only [hlow] at e; exact e⟩
 have p38 := of_decide_eq_false h38
 refine W.no (dj := 39) rfl rfl h38 (W.no (dj := 39) rfl rfl h38 (W.no (dj := 39) rfl rfl h38 (W.no (dj := 39) rfl rfl h38 (W.no (dj := 39) rfl rfl h38 (W.no (dj := 39) rfl rfl h38 (W.no (dj := 39) rfl rfl h38 (W.no (dj := 39) rfl rfl h38 (W.ok (ok_pick_f rfl h38) (W.as (W.as (W.nil (thn_n (WC.ret ?_)))))))))))))
 refine ⟨.inr rfl, [_, _], ⟨rfl, rfl, trivial⟩, [], sn9, ?_⟩
 have hlow : fndN l k = i := fnd_eq (by omega) h1 (fun q h hq => h2 q h (by omega))
 refine tup2 (by rw [hlow]) ?_
 rw [hr.has]
 exact (decide_eq_false (by rintro ⟨h, _⟩; omega)).symm

theorem find_fc {G : GH} {v_l : Value} {l : List Pair} (h_l : SlR ePair G v_l l) (k : Str) (hr : Srt l) :
    Fc Tryz.prog 219 [v_l, .string k.b] G [] (fun v _ _ => v = .tuple #[.int .i64 ((fndN l k : Nat) : Int), .bool ((getN l k).isSome)]) := by
 obtain ⟨sa_l, sc_l, rfl⟩ := h_l.form
 refine Fc.intro (rs := [.tmp 4, .tmp 5]) cl219 Tryz.func219 rfl Tryz.ntmps219 rfl rfl (fun w0 => ?_)
 refine WC.seq (WC.region (W.as (W.as (W.nil (thn_n (WC.seq (WC.region (W.mv (W.mv (W.qcall (bsfm_fc h_l k hr) rfl (W.ok (ok_extract rfl rfl) (W.ok (ok_extract rfl rfl) (W.as (W.as ?_))))))))))))))
 refine W.nil (thn_n (WC.ret ?_))
 refine ⟨.inr rfl, [_, _], ⟨rfl, rfl, trivial⟩, [], sn9, ?_⟩
 rfl

theorem rfind_fc {G : GH} {v_l : Value} {l : List Pair} (h_l : SlR ePair G v_l l) (k : Str) (hr : Srt l) :
    Fc Tryz.prog 235 [v_l, .string k.b] G [] (fun v _ _ => v = .tuple #[.int .i64 ((fndN l k : Nat) : Int), .bool ((getN l k).isSome)]) := by
 obtain ⟨sa_l, sc_l, rfl⟩ := h_l.form
 refine Fc.intro (rs := [.tmp 4, .tmp 5]) cl235 Tryz.func235 rfl Tryz.ntmps235 rfl rfl (fun w0 => ?_)
 refine WC.seq (WC.region (W.as (W.as (W.nil (thn_n (WC.seq (WC.region (W.mv (W.mv (W.qcall (bsfr_fc h_l k hr) rfl (W.ok (ok_extract rfl rfl) (W.ok (ok_extract rfl rfl) (W.as (W.as ?_))))))))))))))
 refine W.nil (thn_n (WC.ret ?_))
 refine ⟨.inr rfl, [_, _], ⟨rfl, rfl, trivial⟩, [], sn9, ?_⟩
 rfl

end Go.Proofs.YtmbafmifalppaaaGreat
