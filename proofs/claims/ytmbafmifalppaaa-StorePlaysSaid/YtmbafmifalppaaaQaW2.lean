/- Walks of comparisons and copies. -/
import Derived.Test.YtmbafmifalppaaaQaW1
set_option maxRecDepth 100000
set_option maxHeartbeats 1600000
set_option linter.unusedVariables false
set_option linter.unusedSimpArgs false
set_option linter.unnecessarySimpa false
namespace Go.Proofs.Ytmbafmifalppaaa
open Go Go.Fw Go.RowKit
theorem same_fc {G : GH} {v_a : Value} {a : List Str} (h_a : SlR eStr G v_a a) {v_b : Value} {b : List Str} (h_b : SlR eStr G v_b b) :
    Fc Try.prog 88 [v_a, v_b] G [] (fun v _ _ => v = .bool (decide (a = b))) := by
 obtain ⟨sa_a, sc_a, rfl⟩ := h_a.form
 obtain ⟨sa_b, sc_b, rfl⟩ := h_b.form
 have ha := h_a.len47
 have hb := h_b.len47
 refine Fc.intro (rs := [.tmp 4]) cl88 Try.func88 rfl Try.ntmps88 rfl rfl (fun w0 => ?_)
 refine WC.seq (WC.region (W.as (W.nil (thn_n (WC.seq (WC.seq (WC.region (W.mv (W.ok (ok_len sl32 h_a rfl) (W.mv (W.ok (ok_len sl32 h_b rfl) (W.ok (ok_neq rfl rfl) (W.nil (thn_n ?_))))))))))))))
 refine WC.cond (b := _) rfl (fun h10 => ?_) (fun h10 => ?_)
 ·have p10 := nd_t h10
  refine WC.seq (WC.region (W.as (W.nil (thn_n (WC.ret (thn_r ?_))))))
  refine ⟨.inr rfl, [_], ⟨rfl, trivial⟩, [], sn9, ?_⟩
  refine congrArg Value.bool ?_
  exact (decide_eq_false fun e => by subst e; omega).symm
 have p10 := nd_f h10
 have hab : a.length = b.length := by omega
 refine WC.skip (thn_n (WC.seq (WC.seq (WC.region (W.as (W.nil (thn_n (WC.block ?_))))))))
 refine WC.loop (X := Nat) (fun k => [(5, .int .i64 ((k : Nat) : Int)), (0, .slice sa_a a.length sc_a), (1, .slice sa_b b.length sc_b)]) (fun k _ Ml => Ml = [] ∧ k ≤ a.length ∧ ∀ i (h : i < a.length) (h2 : i < b.length), i < k → a[i] = b[i]) (fun k => a.length - k) 0 ⟨eqv, eqv, eqv, trivial⟩ ?_ ?_
 ·exact ⟨rfl, by omega, fun i _ _ h => by omega⟩
 rintro k gG1 G1 _ hG1 ⟨rfl, hk0, hk⟩
 refine WC.seq (WC.seq (WC.region (W.mv (W.mv (W.ok (ok_len sl32 (h_a.mono hG1) rfl) (W.ok (ok_lss rfl rfl) (W.nil (thn_n ?_))))))))
 refine WC.cond (b := _) rfl (fun h14 => ?_) (fun h14 => ?_)
 ·have p14 := of_decide_eq_true h14
  refine WC.skip (thn_n (WC.seq (WC.block (WC.seq (WC.draw mix (by kernel_rfl) (W.mv (W.mv ?_)))))))
  have q4 := (h_a.mono hG1).at (i := k) (by omega)
  refine match q4 with | ⟨_, he2, e_3⟩ => ?_
  subst e_3
  refine W.ok (ok_indexAddr (i := k) sl32 ty9 (h_a.mono hG1) rfl rfl ⟨by omega, by omega⟩) (W.ok (ok_loadE (vs := [.string _]) ty9 he2 rfl rfl rfl (by simp)) (W.mv (W.mv ?_)))
  have q7 := (h_b.mono hG1).at (i := k) (by omega)
  refine match q7 with | ⟨_, he5, e_6⟩ => ?_
  subst e_6
  refine W.ok (ok_indexAddr (i := k) sl32 ty9 (h_b.mono hG1) rfl rfl ⟨by omega, by omega⟩) (W.ok (ok_loadE (vs := [.string _]) ty9 he5 rfl rfl rfl (by simp)) (W.ok (ok_neqS rfl rfl) (W.nil (thn_n ?_))))
  refine WC.cond (b := _) rfl (fun h25 => ?_) (fun h25 => ?_)
  ·have p25 := nd_t h25
   refine WC.seq (WC.region (W.as (W.nil (thn_n (WC.ret (blk_r (thn_r (thn_r (blk_r (thn_r ?_))))))))))
   refine ⟨.inr rfl, [_], ⟨rfl, trivial⟩, [], sn9, ?_⟩
   refine congrArg Value.bool ?_
   exact (decide_eq_false fun e => by subst e; exact p25 rfl).symm
  have p25 := nd_f h25
  refine WC.skip (blk_n (thn_n (WC.region (W.mv (W.ok (ok_add rfl rfl (by omega)) (W.as (W.nil (thn_n ?_))))))))
  exact ⟨Le.rfl, k + 1, ⟨eqv, eqv, eqv, trivial⟩, ⟨rfl, by omega, fun i h h2 hi => by
      by_cases e : i = k
      · subst e; first | exact Decidable.not_not.1 p25 | exact Str.ext' p25 | omega
      · exact hk i h h2 (by omega)⟩, by omega⟩
 have p14 := of_decide_eq_false h14
 refine WC.exit (thn_x (thn_x (blk_h (thn_n (WC.seq (WC.region (W.as (W.nil (thn_n (WC.ret ?_))))))))))
 refine ⟨.inr rfl, [_], ⟨rfl, trivial⟩, [], sn9, ?_⟩
 refine congrArg Value.bool ?_
 exact (decide_eq_true (List.ext_getElem (by omega) fun i h h2 => hk i h h2 (by omega))).symm

theorem ints_fc {G : GH} {v_a : Value} {a : List Int} (h_a : SlR eInt G v_a a) {v_b : Value} {b : List Int} (h_b : SlR eInt G v_b b) :
    Fc Try.prog 13 [v_a, v_b] G [] (fun v _ _ => v = .bool (decide (a = b))) := by
 obtain ⟨sa_a, sc_a, rfl⟩ := h_a.form
 obtain ⟨sa_b, sc_b, rfl⟩ := h_b.form
 have ha := h_a.len47
 have hb := h_b.len47
 refine Fc.intro (rs := [.tmp 4]) cl13 Try.func13 rfl Try.ntmps13 rfl rfl (fun w0 => ?_)
 refine WC.seq (WC.region (W.as (W.nil (thn_n (WC.seq (WC.seq (WC.region (W.mv (W.ok (ok_len sl30 h_a rfl) (W.mv (W.ok (ok_len sl30 h_b rfl) (W.ok (ok_neq rfl rfl) (W.nil (thn_n ?_))))))))))))))
 refine WC.cond (b := _) rfl (fun h10 => ?_) (fun h10 => ?_)
 ·have p10 := nd_t h10
  refine WC.seq (WC.region (W.as (W.nil (thn_n (WC.ret (thn_r ?_))))))
  refine ⟨.inr rfl, [_], ⟨rfl, trivial⟩, [], sn9, ?_⟩
  refine congrArg Value.bool ?_
  exact (decide_eq_false fun e => by subst e; omega).symm
 have p10 := nd_f h10
 have hab : a.length = b.length := by omega
 refine WC.skip (thn_n (WC.seq (WC.seq (WC.region (W.as (W.nil (thn_n (WC.block ?_))))))))
 refine WC.loop (X := Nat) (fun k => [(5, .int .i64 ((k : Nat) : Int)), (0, .slice sa_a a.length sc_a), (1, .slice sa_b b.length sc_b)]) (fun k _ Ml => Ml = [] ∧ k ≤ a.length ∧ ∀ i (h : i < a.length) (h2 : i < b.length), i < k → a[i] = b[i]) (fun k => a.length - k) 0 ⟨eqv, eqv, eqv, trivial⟩ ?_ ?_
 ·exact ⟨rfl, by omega, fun i _ _ h => by omega⟩
 rintro k gG8 G8 _ hG8 ⟨rfl, hk0, hk⟩
 refine WC.seq (WC.seq (WC.region (W.mv (W.mv (W.ok (ok_len sl30 (h_a.mono hG8) rfl) (W.ok (ok_lss rfl rfl) (W.nil (thn_n ?_))))))))
 refine WC.cond (b := _) rfl (fun h14 => ?_) (fun h14 => ?_)
 ·have p14 := of_decide_eq_true h14
  refine WC.skip (thn_n (WC.seq (WC.block (WC.seq (WC.draw mix (by kernel_rfl) (W.mv (W.mv ?_)))))))
  have q12 := (h_a.mono hG8).at (i := k) (by omega)
  refine match q12 with | ⟨_, he9, ⟨e_11, hi10⟩⟩ => ?_
  subst e_11
  refine W.ok (ok_indexAddr (i := k) sl30 ty3 (h_a.mono hG8) rfl rfl ⟨by omega, by omega⟩) (W.ok (ok_loadE (vs := [.int .i64 _]) ty3 he9 rfl rfl rfl (by simp)) (W.mv (W.mv ?_)))
  have q16 := (h_b.mono hG8).at (i := k) (by omega)
  refine match q16 with | ⟨_, he13, ⟨e_15, hi14⟩⟩ => ?_
  subst e_15
  refine W.ok (ok_indexAddr (i := k) sl30 ty3 (h_b.mono hG8) rfl rfl ⟨by omega, by omega⟩) (W.ok (ok_loadE (vs := [.int .i64 _]) ty3 he13 rfl rfl rfl (by simp)) (W.ok (ok_neq rfl rfl) (W.nil (thn_n ?_))))
  refine WC.cond (b := _) rfl (fun h25 => ?_) (fun h25 => ?_)
  ·have p25 := nd_t h25
   refine WC.seq (WC.region (W.as (W.nil (thn_n (WC.ret (blk_r (thn_r (thn_r (blk_r (thn_r ?_))))))))))
   refine ⟨.inr rfl, [_], ⟨rfl, trivial⟩, [], sn9, ?_⟩
   refine congrArg Value.bool ?_
   exact (decide_eq_false fun e => by subst e; exact p25 rfl).symm
  have p25 := nd_f h25
  refine WC.skip (blk_n (thn_n (WC.region (W.mv (W.ok (ok_add rfl rfl (by omega)) (W.as (W.nil (thn_n ?_))))))))
  exact ⟨Le.rfl, k + 1, ⟨eqv, eqv, eqv, trivial⟩, ⟨rfl, by omega, fun i h h2 hi => by
      by_cases e : i = k
      · subst e; first | exact Decidable.not_not.1 p25 | exact Str.ext' p25 | omega
      · exact hk i h h2 (by omega)⟩, by omega⟩
 have p14 := of_decide_eq_false h14
 refine WC.exit (thn_x (thn_x (blk_h (thn_n (WC.seq (WC.region (W.as (W.nil (thn_n (WC.ret ?_))))))))))
 refine ⟨.inr rfl, [_], ⟨rfl, trivial⟩, [], sn9, ?_⟩
 refine congrArg Value.bool ?_
 exact (decide_eq_true (List.ext_getElem (by omega) fun i h h2 => hk i h h2 (by omega))).symm

theorem samep_fc {G : GH} {v_a : Value} {a : List Pair} (h_a : SlR ePair G v_a a) {v_b : Value} {b : List Pair} (h_b : SlR ePair G v_b b) :
    Fc Try.prog 15 [v_a, v_b] G [] (fun v _ _ => v = .bool (decide (a = b))) := by
 obtain ⟨sa_a, sc_a, rfl⟩ := h_a.form
 obtain ⟨sa_b, sc_b, rfl⟩ := h_b.form
 have ha := h_a.len47
 have hb := h_b.len47
 refine Fc.intro (rs := [.tmp 4]) cl15 Try.func15 rfl Try.ntmps15 rfl rfl (fun w0 => ?_)
 refine WC.seq (WC.region (W.as (W.nil (thn_n (WC.seq (WC.seq (WC.region (W.mv (W.ok (ok_len sl31 h_a rfl) (W.mv (W.ok (ok_len sl31 h_b rfl) (W.ok (ok_neq rfl rfl) (W.nil (thn_n ?_))))))))))))))
 refine WC.cond (b := _) rfl (fun h10 => ?_) (fun h10 => ?_)
 ·have p10 := nd_t h10
  refine WC.seq (WC.region (W.as (W.nil (thn_n (WC.ret (thn_r ?_))))))
  refine ⟨.inr rfl, [_], ⟨rfl, trivial⟩, [], sn9, ?_⟩
  refine congrArg Value.bool ?_
  exact (decide_eq_false fun e => by subst e; omega).symm
 have p10 := nd_f h10
 have hab : a.length = b.length := by omega
 refine WC.skip (thn_n (WC.seq (WC.seq (WC.region (W.as (W.nil (thn_n (WC.block ?_))))))))
 refine WC.loop (X := Nat) (fun k => [(5, .int .i64 ((k : Nat) : Int)), (0, .slice sa_a a.length sc_a), (1, .slice sa_b b.length sc_b)]) (fun k _ Ml => Ml = [] ∧ k ≤ a.length ∧ ∀ i (h : i < a.length) (h2 : i < b.length), i < k → a[i] = b[i]) (fun k => a.length - k) 0 ⟨eqv, eqv, eqv, trivial⟩ ?_ ?_
 ·exact ⟨rfl, by omega, fun i _ _ h => by omega⟩
 rintro k gG17 G17 _ hG17 ⟨rfl, hk0, hk⟩
 refine WC.seq (WC.seq (WC.region (W.mv (W.mv (W.ok (ok_len sl31 (h_a.mono hG17) rfl) (W.ok (ok_lss rfl rfl) (W.nil (thn_n ?_))))))))
 refine WC.cond (b := _) rfl (fun h14 => ?_) (fun h14 => ?_)
 ·have p14 := of_decide_eq_true h14
  refine WC.skip (thn_n (WC.seq (WC.block (WC.seq (WC.draw mix (by kernel_rfl) (W.mv (W.mv ?_)))))))
  have q20 := (h_a.mono hG17).at (i := k) (by omega)
  refine match q20 with | ⟨_, he18, e_19⟩ => ?_
  subst e_19
  refine W.ok (ok_indexAddr (i := k) sl31 ty71 (h_a.mono hG17) rfl rfl ⟨by omega, by omega⟩) (W.ok (ok_loadE (vs := [.string _, .string _]) ty71 he18 rfl rfl rfl (by simp)) (W.mv (W.mv ?_)))
  have q23 := (h_b.mono hG17).at (i := k) (by omega)
  refine match q23 with | ⟨_, he21, e_22⟩ => ?_
  subst e_22
  refine W.ok (ok_indexAddr (i := k) sl31 ty71 (h_b.mono hG17) rfl rfl ⟨by omega, by omega⟩) (W.ok (ok_loadE (vs := [.string _, .string _]) ty71 he21 rfl rfl rfl (by simp)) (W.ok (ok_neqA (L1 := [.string _, .string _]) (L2 := [.string _, .string _]) eq71 rfl rfl rfl rfl) (W.nil (thn_n ?_))))
  refine WC.cond (b := _) rfl (fun h25 => ?_) (fun h25 => ?_)
  ·refine WC.seq (WC.region (W.as (W.nil (thn_n (WC.ret (blk_r (thn_r (thn_r (blk_r (thn_r ?_))))))))))
   refine ⟨.inr rfl, [_], ⟨rfl, trivial⟩, [], sn9, ?_⟩
   refine congrArg Value.bool ?_
   exact (decide_eq_false fun e => by subst e; exact Pair.ne_of h25 rfl).symm
  refine WC.skip (blk_n (thn_n (WC.region (W.mv (W.ok (ok_add rfl rfl (by omega)) (W.as (W.nil (thn_n ?_))))))))
  exact ⟨Le.rfl, k + 1, ⟨eqv, eqv, eqv, trivial⟩, ⟨rfl, by omega, fun i h h2 hi => by
      by_cases e : i = k
      · subst e; exact Pair.eq_of h25
      · exact hk i h h2 (by omega)⟩, by omega⟩
 have p14 := of_decide_eq_false h14
 refine WC.exit (thn_x (thn_x (blk_h (thn_n (WC.seq (WC.region (W.as (W.nil (thn_n (WC.ret ?_))))))))))
 refine ⟨.inr rfl, [_], ⟨rfl, trivial⟩, [], sn9, ?_⟩
 refine congrArg Value.bool ?_
 exact (decide_eq_true (List.ext_getElem (by omega) fun i h h2 => hk i h h2 (by omega))).symm

theorem samem_fc {G : GH} {v_a : Value} {a : List Msg} (h_a : SlR eMsg G v_a a) {v_b : Value} {b : List Msg} (h_b : SlR eMsg G v_b b) :
    Fc Try.prog 89 [v_a, v_b] G [] (fun v _ _ => v = .bool (decide (a = b))) := by
 obtain ⟨sa_a, sc_a, rfl⟩ := h_a.form
 obtain ⟨sa_b, sc_b, rfl⟩ := h_b.form
 have ha := h_a.len47
 have hb := h_b.len47
 refine Fc.intro (rs := [.tmp 4]) cl89 Try.func89 rfl Try.ntmps89 rfl rfl (fun w0 => ?_)
 refine WC.seq (WC.region (W.as (W.nil (thn_n (WC.seq (WC.seq (WC.region (W.mv (W.ok (ok_len sl33 h_a rfl) (W.mv (W.ok (ok_len sl33 h_b rfl) (W.ok (ok_neq rfl rfl) (W.nil (thn_n ?_))))))))))))))
 refine WC.cond (b := _) rfl (fun h10 => ?_) (fun h10 => ?_)
 ·have p10 := nd_t h10
  refine WC.seq (WC.region (W.as (W.nil (thn_n (WC.ret (thn_r ?_))))))
  refine ⟨.inr rfl, [_], ⟨rfl, trivial⟩, [], sn9, ?_⟩
  refine congrArg Value.bool ?_
  exact (decide_eq_false fun e => by subst e; omega).symm
 have p10 := nd_f h10
 have hab : a.length = b.length := by omega
 refine WC.skip (thn_n (WC.seq (WC.seq (WC.region (W.as (W.nil (thn_n (WC.block ?_))))))))
 refine WC.loop (X := Nat) (fun k => [(5, .int .i64 ((k : Nat) : Int)), (0, .slice sa_a a.length sc_a), (1, .slice sa_b b.length sc_b)]) (fun k _ Ml => Ml = [] ∧ k ≤ a.length ∧ ∀ i (h : i < a.length) (h2 : i < b.length), i < k → a[i] = b[i]) (fun k => a.length - k) 0 ⟨eqv, eqv, eqv, trivial⟩ ?_ ?_
 ·exact ⟨rfl, by omega, fun i _ _ h => by omega⟩
 rintro k gG24 G24 _ hG24 ⟨rfl, hk0, hk⟩
 refine WC.seq (WC.seq (WC.region (W.mv (W.mv (W.ok (ok_len sl33 (h_a.mono hG24) rfl) (W.ok (ok_lss rfl rfl) (W.nil (thn_n ?_))))))))
 refine WC.cond (b := _) rfl (fun h14 => ?_) (fun h14 => ?_)
 ·have p14 := of_decide_eq_true h14
  refine WC.skip (thn_n (WC.seq (WC.block (WC.seq (WC.draw mix (by kernel_rfl) (W.mv (W.mv ?_)))))))
  have q29 := (h_a.mono hG24).at (i := k) (by omega)
  refine match q29 with | ⟨_, he25, ⟨e_28, hm26⟩⟩ => ?_
  subst e_28
  refine W.ok (ok_indexAddr (i := k) sl33 ty141 (h_a.mono hG24) rfl rfl ⟨by omega, by omega⟩) (W.ok (ok_loadE (vs := [.int .i64 _, .int .i64 _, .string _, .string _, .bool _, .string _]) ty141 he25 rfl rfl rfl (by simp)) (W.mv (W.mv ?_)))
  have q34 := (h_b.mono hG24).at (i := k) (by omega)
  refine match q34 with | ⟨_, he30, ⟨e_33, hm31⟩⟩ => ?_
  subst e_33
  refine W.ok (ok_indexAddr (i := k) sl33 ty141 (h_b.mono hG24) rfl rfl ⟨by omega, by omega⟩) (W.ok (ok_loadE (vs := [.int .i64 _, .int .i64 _, .string _, .string _, .bool _, .string _]) ty141 he30 rfl rfl rfl (by simp)) (W.ok (ok_neqA (L1 := [.int .i64 _, .int .i64 _, .string _, .string _, .bool _, .string _]) (L2 := [.int .i64 _, .int .i64 _, .string _, .string _, .bool _, .string _]) eq141 rfl rfl rfl rfl) (W.nil (thn_n ?_))))
  refine WC.cond (b := _) rfl (fun h25 => ?_) (fun h25 => ?_)
  ·refine WC.seq (WC.region (W.as (W.nil (thn_n (WC.ret (blk_r (thn_r (thn_r (blk_r (thn_r ?_))))))))))
   refine ⟨.inr rfl, [_], ⟨rfl, trivial⟩, [], sn9, ?_⟩
   refine congrArg Value.bool ?_
   exact (decide_eq_false fun e => by subst e; exact Msg.ne_of h25 rfl).symm
  refine WC.skip (blk_n (thn_n (WC.region (W.mv (W.ok (ok_add rfl rfl (by omega)) (W.as (W.nil (thn_n ?_))))))))
  exact ⟨Le.rfl, k + 1, ⟨eqv, eqv, eqv, trivial⟩, ⟨rfl, by omega, fun i h h2 hi => by
      by_cases e : i = k
      · subst e; exact Msg.eq_of h25
      · exact hk i h h2 (by omega)⟩, by omega⟩
 have p14 := of_decide_eq_false h14
 refine WC.exit (thn_x (thn_x (blk_h (thn_n (WC.seq (WC.region (W.as (W.nil (thn_n (WC.ret ?_))))))))))
 refine ⟨.inr rfl, [_], ⟨rfl, trivial⟩, [], sn9, ?_⟩
 refine congrArg Value.bool ?_
 exact (decide_eq_true (List.ext_getElem (by omega) fun i h h2 => hk i h h2 (by omega))).symm

theorem longp_fc {G : GH} {v_l : Value} {l : List Pair} (h_l : SlR ePair G v_l l) (m : Int) (hm : 0 ≤ m ∧ m ≤ 1073741824) :
    Fc Try.prog 73 [v_l, .int .i64 m] G [] (fun v _ _ => v = .bool (decide (longG Pair.w l 0 m ≤ m))) := by
 obtain ⟨sa_l, sc_l, rfl⟩ := h_l.form
 have hl := h_l.len47
 refine Fc.intro (rs := [.tmp 4]) cl73 Try.func73 rfl Try.ntmps73 rfl rfl (fun w0 => ?_)
 refine WC.seq (WC.region (W.as (W.nil (thn_n (WC.seq (WC.region (W.as (W.nil (thn_n (WC.seq (WC.seq (WC.region (W.as (W.nil (thn_n (WC.block ?_))))))))))))))))
 refine WC.loop (X := Nat × Int) (fun x => [(5, .int .i64 x.2), (6, .int .i64 ((x.1 : Nat) : Int)), (0, .slice sa_l l.length sc_l), (1, .int .i64 m)]) (fun x _ Ml => Ml = [] ∧ x.1 ≤ l.length ∧ 0 ≤ x.2 ∧ x.2 ≤ 1125899906842624 ∧ longG Pair.w (l.drop x.1) x.2 m = longG Pair.w l 0 m) (fun x => l.length - x.1) (0, 0) ⟨eqv, eqv, eqv, eqv, trivial⟩ ?_ ?_
 ·exact ⟨rfl, by simp, by simp, by simp, by simp⟩
 rintro ⟨k, n⟩ gG35 G35 _ hG35 ⟨rfl, hk, hn, hn2, hlg⟩
 dsimp only at hk hn hn2 hlg
 refine WC.seq (WC.seq (WC.region (W.mv (W.mv (W.ok (ok_len sl31 (h_l.mono hG35) rfl) (W.ok (ok_lss rfl rfl) (W.mv ?_)))))))
 refine W.sp 11 rfl (fun h10 => ?_) (fun h10 => ?_)
 ·have p10 := of_decide_eq_true h10
  refine W.yes (dj := 11) rfl rfl h10 (W.mv (W.yes (dj := 11) rfl rfl h10 (W.mv (W.yes (dj := 11) rfl rfl h10 (W.ok (ok_leq rfl rfl) (W.ok (ok_pick_t rfl h10) (W.nil (thn_n ?_))))))))
  refine WC.cond (b := _) rfl (fun h14 => ?_) (fun h14 => ?_)
  ·have p14 := of_decide_eq_true h14
   refine WC.skip (thn_n (WC.seq (WC.block (WC.draw mix (by kernel_rfl) (W.mv (W.mv (W.mv ?_)))))))
   have q38 := (h_l.mono hG35).at (i := k) (by omega)
   refine match q38 with | ⟨_, he36, e_37⟩ => ?_
   subst e_37
   refine W.ok (ok_indexAddr (i := k) sl31 ty71 (h_l.mono hG35) rfl rfl ⟨by dsimp only, by omega⟩) (W.ok (ok_fieldE fd71_0 rfl he36.form) (W.ok (ok_loadE (vs := [.string _]) ty9 he36 rfl rfl rfl (by simp)) (W.ok (ok_lenS st9 rfl) (W.ok (ok_add rfl rfl (by have := (l[k]).key.le; have := (l[k]).val.le; omega)) (W.mv (W.mv ?_))))))
   have q41 := (h_l.mono hG35).at (i := k) (by omega)
   refine match q41 with | ⟨_, he39, e_40⟩ => ?_
   subst e_40
   refine W.ok (ok_indexAddr (i := k) sl31 ty71 (h_l.mono hG35) rfl rfl ⟨by dsimp only, by omega⟩) (W.ok (ok_fieldE fd71_1 rfl he39.form) (W.ok (ok_loadE (vs := [.string _]) ty9 he39 rfl rfl rfl (by simp)) (W.ok (ok_lenS st9 rfl) (W.ok (ok_add rfl rfl (by have := (l[k]).key.le; have := (l[k]).val.le; omega)) (W.ok (ok_add rfl rfl (by have := (l[k]).key.le; have := (l[k]).val.le; dsimp only; omega)) (W.as (W.nil (blk_n (thn_n (WC.region (W.mv (W.ok (ok_add rfl rfl (by dsimp only; omega)) (W.as (W.nil (thn_n ?_)))))))))))))))
   exact ⟨Le.rfl, (k + 1, n + Pair.w l[k]), ⟨(by first | rfl | exact iv (by dsimp only [Pair.w]) | exact iv (by dsimp only [Pair.w]; omega)), eqv, eqv, eqv, trivial⟩, ⟨rfl, by dsimp only; omega, by have := Pair.w_pos l[k]; dsimp only; omega, by have := Pair.w_le l[k]; dsimp only; omega, (longG_step (by omega) p14).symm.trans hlg⟩, by dsimp only; omega⟩
  have p14 := of_decide_eq_false h14
  refine WC.exit (thn_x (thn_x (blk_h (thn_n (WC.seq (WC.region (W.mv (W.mv (W.ok (ok_leq rfl rfl) (W.as (W.nil (thn_n (WC.ret ?_)))))))))))))
  refine ⟨.inr rfl, [_], ⟨rfl, trivial⟩, [], sn9, ?_⟩
  refine congrArg Value.bool ?_
  rw [← hlg]
  rw [longG_stop (by omega)]
 have p10 := of_decide_eq_false h10
 refine W.no (dj := 11) rfl rfl h10 (W.no (dj := 11) rfl rfl h10 (W.no (dj := 11) rfl rfl h10 (W.ok (ok_pick_f rfl h10) (W.nil (thn_n (WC.cond_f rfl rfl (WC.exit (thn_x (thn_x (blk_h (thn_n (WC.seq (WC.region (W.mv (W.mv (W.ok (ok_leq rfl rfl) (W.as (W.nil (thn_n ?_)))))))))))))))))))
 refine WC.ret ?_
 refine ⟨.inr rfl, [_], ⟨rfl, trivial⟩, [], sn9, ?_⟩
 refine congrArg Value.bool ?_
 rw [← hlg]
 rw [longG_end (by omega)]

theorem few_fc {G : GH} {v_l : Value} {l : List Msg} (h_l : SlR eMsg G v_l l) (m : Int) (hm : 0 ≤ m ∧ m ≤ 1073741824) :
    Fc Try.prog 75 [v_l, .int .i64 m] G [] (fun v _ _ => v = .bool (decide (longG Msg.w l 0 m ≤ m))) := by
 obtain ⟨sa_l, sc_l, rfl⟩ := h_l.form
 have hl := h_l.len47
 refine Fc.intro (rs := [.tmp 4]) cl75 Try.func75 rfl Try.ntmps75 rfl rfl (fun w0 => ?_)
 refine WC.seq (WC.region (W.as (W.nil (thn_n (WC.seq (WC.region (W.as (W.nil (thn_n (WC.seq (WC.seq (WC.region (W.as (W.nil (thn_n (WC.block ?_))))))))))))))))
 refine WC.loop (X := Nat × Int) (fun x => [(5, .int .i64 x.2), (6, .int .i64 ((x.1 : Nat) : Int)), (0, .slice sa_l l.length sc_l), (1, .int .i64 m)]) (fun x _ Ml => Ml = [] ∧ x.1 ≤ l.length ∧ 0 ≤ x.2 ∧ x.2 ≤ 1125899906842624 ∧ longG Msg.w (l.drop x.1) x.2 m = longG Msg.w l 0 m) (fun x => l.length - x.1) (0, 0) ⟨eqv, eqv, eqv, eqv, trivial⟩ ?_ ?_
 ·exact ⟨rfl, by simp, by simp, by simp, by simp⟩
 rintro ⟨k, n⟩ gG42 G42 _ hG42 ⟨rfl, hk, hn, hn2, hlg⟩
 dsimp only at hk hn hn2 hlg
 refine WC.seq (WC.seq (WC.region (W.mv (W.mv (W.ok (ok_len sl33 (h_l.mono hG42) rfl) (W.ok (ok_lss rfl rfl) (W.mv ?_)))))))
 refine W.sp 11 rfl (fun h10 => ?_) (fun h10 => ?_)
 ·have p10 := of_decide_eq_true h10
  refine W.yes (dj := 11) rfl rfl h10 (W.mv (W.yes (dj := 11) rfl rfl h10 (W.mv (W.yes (dj := 11) rfl rfl h10 (W.ok (ok_leq rfl rfl) (W.ok (ok_pick_t rfl h10) (W.nil (thn_n ?_))))))))
  refine WC.cond (b := _) rfl (fun h14 => ?_) (fun h14 => ?_)
  ·have p14 := of_decide_eq_true h14
   refine WC.skip (thn_n (WC.seq (WC.block (WC.draw mix (by kernel_rfl) (W.mv (W.mv (W.mv ?_)))))))
   have q47 := (h_l.mono hG42).at (i := k) (by omega)
   refine match q47 with | ⟨_, he43, ⟨e_46, hm44⟩⟩ => ?_
   subst e_46
   refine W.ok (ok_indexAddr (i := k) sl33 ty141 (h_l.mono hG42) rfl rfl ⟨by dsimp only, by omega⟩) (W.ok (ok_fieldE fd141_2 rfl he43.form) (W.ok (ok_loadE (vs := [.string _]) ty9 he43 rfl rfl rfl (by simp)) (W.ok (ok_lenS st9 rfl) (W.ok (ok_add rfl rfl (by have := (l[k]).key.le; have := (l[k]).val.le; have := (l[k]).hi.le; omega)) (W.mv (W.mv ?_))))))
   have q52 := (h_l.mono hG42).at (i := k) (by omega)
   refine match q52 with | ⟨_, he48, ⟨e_51, hm49⟩⟩ => ?_
   subst e_51
   refine W.ok (ok_indexAddr (i := k) sl33 ty141 (h_l.mono hG42) rfl rfl ⟨by dsimp only, by omega⟩) (W.ok (ok_fieldE fd141_3 rfl he48.form) (W.ok (ok_loadE (vs := [.string _]) ty9 he48 rfl rfl rfl (by simp)) (W.ok (ok_lenS st9 rfl) (W.ok (ok_add rfl rfl (by have := (l[k]).key.le; have := (l[k]).val.le; have := (l[k]).hi.le; omega)) (W.mv (W.mv ?_))))))
   have q57 := (h_l.mono hG42).at (i := k) (by omega)
   refine match q57 with | ⟨_, he53, ⟨e_56, hm54⟩⟩ => ?_
   subst e_56
   refine W.ok (ok_indexAddr (i := k) sl33 ty141 (h_l.mono hG42) rfl rfl ⟨by dsimp only, by omega⟩) (W.ok (ok_fieldE fd141_5 rfl he53.form) (W.ok (ok_loadE (vs := [.string _]) ty9 he53 rfl rfl rfl (by simp)) (W.ok (ok_lenS st9 rfl) (W.ok (ok_add rfl rfl (by have := (l[k]).key.le; have := (l[k]).val.le; have := (l[k]).hi.le; omega)) (W.ok (ok_add rfl rfl (by have := (l[k]).key.le; have := (l[k]).val.le; have := (l[k]).hi.le; dsimp only; omega)) (W.as (W.nil (blk_n (thn_n (WC.region (W.mv (W.ok (ok_add rfl rfl (by dsimp only; omega)) (W.as (W.nil (thn_n ?_)))))))))))))))
   exact ⟨Le.rfl, (k + 1, n + Msg.w l[k]), ⟨(by first | rfl | exact iv (by dsimp only [Msg.w]) | exact iv (by dsimp only [Msg.w]; omega)), eqv, eqv, eqv, trivial⟩, ⟨rfl, by dsimp only; omega, by have := Msg.w_pos l[k]; dsimp only; omega, by have := Msg.w_le l[k]; dsimp only; omega, (longG_step (by omega) p14).symm.trans hlg⟩, by dsimp only; omega⟩
  have p14 := of_decide_eq_false h14
  refine WC.exit (thn_x (thn_x (blk_h (thn_n (WC.seq (WC.region (W.mv (W.mv (W.ok (ok_leq rfl rfl) (W.as (W.nil (thn_n (WC.ret ?_)))))))))))))
  refine ⟨.inr rfl, [_], ⟨rfl, trivial⟩, [], sn9, ?_⟩
  refine congrArg Value.bool ?_
  rw [← hlg]
  rw [longG_stop (by omega)]
 have p10 := of_decide_eq_false h10
 refine W.no (dj := 11) rfl rfl h10 (W.no (dj := 11) rfl rfl h10 (W.no (dj := 11) rfl rfl h10 (W.ok (ok_pick_f rfl h10) (W.nil (thn_n (WC.cond_f rfl rfl (WC.exit (thn_x (thn_x (blk_h (thn_n (WC.seq (WC.region (W.mv (W.mv (W.ok (ok_leq rfl rfl) (W.as (W.nil (thn_n ?_)))))))))))))))))))
 refine WC.ret ?_
 refine ⟨.inr rfl, [_], ⟨rfl, trivial⟩, [], sn9, ?_⟩
 refine congrArg Value.bool ?_
 rw [← hlg]
 rw [longG_end (by omega)]

theorem clonep_fc {G : GH} {v_a : Value} {a : List Pair} (h_a : SlR ePair G v_a a) :
    Fc Try.prog 132 [v_a] G [] (fun v G' M' => M' = [] ∧ ∃ u0, v = u0 ∧ SlR ePair G' u0 (a)) := by
 obtain ⟨sa_a, sc_a, rfl⟩ := h_a.form
 have ha := h_a.bytes
 refine Fc.intro (rs := [.tmp 2]) cl132 Try.func132 rfl Try.ntmps132 rfl rfl (fun w0 => ?_)
 refine WC.seq (WC.region (W.as (W.nil (thn_n (WC.seq (WC.seq (WC.region (W.mv (W.ok (ok_eqlNil sl31 rfl rfl) (W.nil (thn_n ?_)))))))))))
 refine WC.cond (b := _) rfl (fun h4 => ?_) (fun h4 => ?_)
 ·have hn := SlR.isNone h_a h4
  subst hn
  refine WC.seq (WC.region (W.as (W.nil (thn_n (WC.ret (thn_r ?_))))))
  refine ⟨.inr rfl, [_], ⟨rfl, trivial⟩, [], sn9, ?_⟩
  refine ⟨rfl, _, rfl, ?_⟩
  · exact SlR.nil
 refine WC.skip (thn_n (WC.seq (WC.region (W.lit0 (e := ePair) sl31 ty71 zr71 rfl (fun v71 Ms72 ho73 => (W.mv (W.app (e := ePair) sl31 ty71 zr71 rfl by71 rfl rfl (ho73) (h_a) pr9 (by simpa using ha) (fun v74 Ms75 ho76 => (W.as (W.nil (thn_n (WC.giveO ho76 pr9 (fun G77 hG77 hv77 => (WC.ret ?_))))))))))))))
 refine ⟨.inr rfl, [_], ⟨rfl, trivial⟩, [], sn9, ?_⟩
 refine ⟨rfl, _, rfl, ?_⟩
 · exact hv77

theorem clonem_fc {G : GH} {v_a : Value} {a : List Msg} (h_a : SlR eMsg G v_a a) :
    Fc Try.prog 131 [v_a] G [] (fun v G' M' => M' = [] ∧ ∃ u0, v = u0 ∧ SlR eMsg G' u0 (a)) := by
 obtain ⟨sa_a, sc_a, rfl⟩ := h_a.form
 have ha := h_a.bytes
 refine Fc.intro (rs := [.tmp 2]) cl131 Try.func131 rfl Try.ntmps131 rfl rfl (fun w0 => ?_)
 refine WC.seq (WC.region (W.as (W.nil (thn_n (WC.seq (WC.seq (WC.region (W.mv (W.ok (ok_eqlNil sl33 rfl rfl) (W.nil (thn_n ?_)))))))))))
 refine WC.cond (b := _) rfl (fun h4 => ?_) (fun h4 => ?_)
 ·have hn := SlR.isNone h_a h4
  subst hn
  refine WC.seq (WC.region (W.as (W.nil (thn_n (WC.ret (thn_r ?_))))))
  refine ⟨.inr rfl, [_], ⟨rfl, trivial⟩, [], sn9, ?_⟩
  refine ⟨rfl, _, rfl, ?_⟩
  · exact SlR.nil
 refine WC.skip (thn_n (WC.seq (WC.region (W.lit0 (e := eMsg) sl33 ty141 zr141 rfl (fun v78 Ms79 ho80 => (W.mv (W.app (e := eMsg) sl33 ty141 zr141 rfl by141 rfl rfl (ho80) (h_a) pr9 (by simpa using ha) (fun v81 Ms82 ho83 => (W.as (W.nil (thn_n (WC.giveO ho83 pr9 (fun G84 hG84 hv84 => (WC.ret ?_))))))))))))))
 refine ⟨.inr rfl, [_], ⟨rfl, trivial⟩, [], sn9, ?_⟩
 refine ⟨rfl, _, rfl, ?_⟩
 · exact hv84

end Go.Proofs.Ytmbafmifalppaaa
