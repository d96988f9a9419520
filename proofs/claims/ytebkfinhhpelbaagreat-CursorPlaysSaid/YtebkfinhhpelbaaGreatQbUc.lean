/- Walks of functions that tell whether nodes are a sound tree. -/
import Derived.Test.YtebkfinhhpelbaaGreatQbUb
set_option maxRecDepth 100000
set_option maxHeartbeats 1600000
set_option linter.unusedVariables false
set_option linter.unusedSimpArgs false
set_option linter.unnecessarySimpa false
namespace Go.Proofs.YtebkfinhhpelbaaGreat
open Go Go.Fw Go.RowKit
theorem linked_fc {G : GH} {v_ss : Value} {ss : List Seat} (h_ss : SlR eSeat G v_ss ss) :
    Fc Tryz.prog 66 [v_ss] G [] (fun v _ _ => v = .bool (decide (LinkedP ss))) := by
 obtain ⟨sa_ss, sc_ss, rfl⟩ := h_ss.form
 have hl := h_ss.len47
 refine Fc.intro (rs := [.tmp 2]) cl66 Tryz.func66 rfl Tryz.ntmps66 rfl rfl (fun w0 => ?_)
 refine WC.seq (WC.region (W.as (W.nil (thn_n (WC.seq (WC.seq (WC.region (W.as (W.nil (thn_n (WC.block ?_)))))))))))
 refine WC.loop (X := Nat) (fun i => [(3, .int .i64 ((i : Nat) : Int)), (0, .slice sa_ss ss.length sc_ss)]) (fun i _ Ml => Ml = [] ∧ i ≤ ss.length ∧ ∀ j (h : j < ss.length), j < i → ss[j].n.right = wantN ss j) (fun i => ss.length - i) 0 ⟨eqv, eqv, trivial⟩ ?_ ?_
 ·exact ⟨rfl, by omega, fun j _ h => by omega⟩
 rintro i gG1 G1 _ hG1 ⟨rfl, hi, hi2⟩
 refine WC.seq (WC.seq (WC.region (W.mv (W.mv (W.ok (ok_len sl105 (h_ss.mono hG1) rfl) (W.ok (ok_lss rfl rfl) (W.nil (thn_n ?_))))))))
 refine WC.cond (b := _) rfl (fun h8 => ?_) (fun h8 => ?_)
 ·have p8 := of_decide_eq_true h8
  refine WC.skip (thn_n (WC.seq (WC.block (WC.seq (WC.region (W.as (W.nil (thn_n (WC.seq (WC.seq (WC.draw mix (by kernel_rfl) (W.mv (W.ok (ok_add rfl rfl (by omega)) (W.mv (W.ok (ok_len sl105 (h_ss.mono hG1) rfl) ?_)))))))))))))))
  refine W.ok (ok_lss rfl rfl) (W.mv ?_)
  refine W.sp 16 rfl (fun h15 => ?_) (fun h15 => ?_)
  ·have p15 := of_decide_eq_true h15
   refine W.yes (dj := 16) rfl rfl h15 (W.mv (W.yes (dj := 16) rfl rfl h15 (W.mv (W.yes (dj := 16) rfl rfl h15 (W.ok (ok_add rfl rfl (by omega)) (W.yes (dj := 16) rfl rfl h15 ?_))))))
   have q5 := (h_ss.mono hG1).at (i := i + 1) (by omega)
   refine match q5 with | ⟨_, he2, ⟨pa_t3, pc_t3, ka_t3, kc_t3, ma_t3, mc_t3, ra_t3, rc_t3, qa_t3, qc_t3, e_4, hp_t3, hk_t3, hm_t3, hr_t3, hq_t3, hok_t3⟩⟩ => ?_
   subst e_4
   refine W.ok (ok_indexAddr (i := i + 1) sl105 ty111 (h_ss.mono hG1) rfl rfl ⟨by omega, by omega⟩) (W.yes (dj := 16) rfl rfl h15 (W.ok (ok_fieldE fd111_0 rfl he2.form) (W.yes (dj := 16) rfl rfl h15 (W.ok (ok_fieldE fd47_1 rfl he2.form) (W.yes (dj := 16) rfl rfl h15 (W.ok (ok_loadE (vs := [.int .i64 _]) ty3 he2 rfl rfl rfl (by simp)) (W.yes (dj := 16) rfl rfl h15 (W.mv (W.yes (dj := 16) rfl rfl h15 (W.mv (W.yes (dj := 16) rfl rfl h15 ?_)))))))))))
   have q9 := (h_ss.mono hG1).at (i := i) (by omega)
   refine match q9 with | ⟨_, he6, ⟨pa_t7, pc_t7, ka_t7, kc_t7, ma_t7, mc_t7, ra_t7, rc_t7, qa_t7, qc_t7, e_8, hp_t7, hk_t7, hm_t7, hr_t7, hq_t7, hok_t7⟩⟩ => ?_
   subst e_8
   refine W.ok (ok_indexAddr (i := i) sl105 ty111 (h_ss.mono hG1) rfl rfl ⟨by omega, by omega⟩) (W.yes (dj := 16) rfl rfl h15 (W.ok (ok_fieldE fd111_0 rfl he6.form) (W.yes (dj := 16) rfl rfl h15 (W.ok (ok_fieldE fd47_1 rfl he6.form) (W.yes (dj := 16) rfl rfl h15 (W.ok (ok_loadE (vs := [.int .i64 _]) ty3 he6 rfl rfl rfl (by simp)) (W.yes (dj := 16) rfl rfl h15 (W.ok (ok_eql rfl rfl) (W.ok (ok_pick_t rfl h15) (W.nil (thn_n ?_)))))))))))
   refine WC.cond (b := _) rfl (fun h30 => ?_) (fun h30 => ?_)
   ·have p30 := of_decide_eq_true h30
    refine WC.region (W.mv (W.mv (W.ok (ok_add rfl rfl (by omega)) ?_)))
    have q13 := (h_ss.mono hG1).at (i := i + 1) (by omega)
    refine match q13 with | ⟨_, he10, ⟨pa_t11, pc_t11, ka_t11, kc_t11, ma_t11, mc_t11, ra_t11, rc_t11, qa_t11, qc_t11, e_12, hp_t11, hk_t11, hm_t11, hr_t11, hq_t11, hok_t11⟩⟩ => ?_
    subst e_12
    refine W.ok (ok_indexAddr (i := i + 1) sl105 ty111 (h_ss.mono hG1) rfl rfl ⟨by omega, by omega⟩) (W.ok (ok_fieldE fd111_0 rfl he10.form) (W.ok (ok_fieldE fd47_0 rfl he10.form) (W.ok (ok_loadE (vs := [.int .i64 _]) ty3 he10 rfl rfl rfl (by simp)) (W.as (W.nil (thn_n (WC.seq (WC.region (W.mv (W.mv ?_))))))))))
    have q17 := (h_ss.mono hG1).at (i := i) (by omega)
    refine match q17 with | ⟨_, he14, ⟨pa_t15, pc_t15, ka_t15, kc_t15, ma_t15, mc_t15, ra_t15, rc_t15, qa_t15, qc_t15, e_16, hp_t15, hk_t15, hm_t15, hr_t15, hq_t15, hok_t15⟩⟩ => ?_
    subst e_16
    refine W.ok (ok_indexAddr (i := i) sl105 ty111 (h_ss.mono hG1) rfl rfl ⟨by omega, by omega⟩) (W.ok (ok_fieldE fd111_0 rfl he14.form) (W.ok (ok_fieldE fd47_6 rfl he14.form) (W.ok (ok_loadE (vs := [.int .i64 _]) ty3 he14 rfl rfl rfl (by simp)) (W.mv (W.ok (ok_neq rfl rfl) (W.nil (thn_n ?_)))))))
    refine WC.cond (b := _) rfl (fun h46 => ?_) (fun h46 => ?_)
    ·have p46 := nd_t h46
     refine WC.seq (WC.region (W.as (W.nil (thn_n (WC.ret (blk_r (thn_r (thn_r (blk_r (thn_r ?_))))))))))
     refine ⟨.inr rfl, [_], ⟨rfl, trivial⟩, [], sn9, ?_⟩
     refine congrArg Value.bool ?_
     exact (decide_eq_false fun h => by have h := h i (by omega); rw [wantN_t (by omega) p30] at h; exact p46 h).symm
    have p46 := nd_f h46
    refine WC.skip (blk_n (thn_n (WC.region (W.mv (W.ok (ok_add rfl rfl (by omega)) (W.as (W.nil (thn_n ?_))))))))
    exact ⟨Le.rfl, i + 1, ⟨eqv, eqv, trivial⟩, ⟨rfl, by omega, fun j h hj => by
      by_cases e : j = i
      · subst e; rw [wantN_t (by omega) p30]; exact p46
      · exact hi2 j h (by omega)⟩, by omega⟩
   have p30 := of_decide_eq_false h30
   refine WC.skip (thn_n (WC.seq (WC.region (W.mv (W.mv ?_)))))
   have q21 := (h_ss.mono hG1).at (i := i) (by omega)
   refine match q21 with | ⟨_, he18, ⟨pa_t19, pc_t19, ka_t19, kc_t19, ma_t19, mc_t19, ra_t19, rc_t19, qa_t19, qc_t19, e_20, hp_t19, hk_t19, hm_t19, hr_t19, hq_t19, hok_t19⟩⟩ => ?_
   subst e_20
   refine W.ok (ok_indexAddr (i := i) sl105 ty111 (h_ss.mono hG1) rfl rfl ⟨by omega, by omega⟩) (W.ok (ok_fieldE fd111_0 rfl he18.form) (W.ok (ok_fieldE fd47_6 rfl he18.form) (W.ok (ok_loadE (vs := [.int .i64 _]) ty3 he18 rfl rfl rfl (by simp)) (W.mv (W.ok (ok_neq rfl rfl) (W.nil (thn_n ?_)))))))
   refine WC.cond (b := _) rfl (fun h46 => ?_) (fun h46 => ?_)
   ·have p46 := nd_t h46
    refine WC.seq (WC.region (W.as (W.nil (thn_n (WC.ret (blk_r (thn_r (thn_r (blk_r (thn_r ?_))))))))))
    refine ⟨.inr rfl, [_], ⟨rfl, trivial⟩, [], sn9, ?_⟩
    refine congrArg Value.bool ?_
    exact (decide_eq_false fun h => by have h := h i (by omega); rw [wantN_g (by omega) p30] at h; exact p46 h).symm
   have p46 := nd_f h46
   refine WC.skip (blk_n (thn_n (WC.region (W.mv (W.ok (ok_add rfl rfl (by omega)) (W.as (W.nil (thn_n ?_))))))))
   exact ⟨Le.rfl, i + 1, ⟨eqv, eqv, trivial⟩, ⟨rfl, by omega, fun j h hj => by
      by_cases e : j = i
      · subst e; rw [wantN_g (by omega) p30]; exact p46
      · exact hi2 j h (by omega)⟩, by omega⟩
  have p15 := of_decide_eq_false h15
  refine W.no (dj := 16) rfl rfl h15 (W.no (dj := 16) rfl rfl h15 (W.no (dj := 16) rfl rfl h15 (W.no (dj := 16) rfl rfl h15 (W.no (dj := 16) rfl rfl h15 (W.no (dj := 16) rfl rfl h15 (W.no (dj := 16) rfl rfl h15 (W.no (dj := 16) rfl rfl h15 (W.no (dj := 16) rfl rfl h15 (W.no (dj := 16) rfl rfl h15 (W.no (dj := 16) rfl rfl h15 (W.no (dj := 16) rfl rfl h15 (W.no (dj := 16) rfl rfl h15 (W.no (dj := 16) rfl rfl h15 ?_)))))))))))))
  refine W.ok (ok_pick_f rfl h15) (W.nil (thn_n (WC.cond_f rfl rfl (WC.skip (thn_n (WC.seq (WC.region (W.mv (W.mv ?_)))))))))
  have q25 := (h_ss.mono hG1).at (i := i) (by omega)
  refine match q25 with | ⟨_, he22, ⟨pa_t23, pc_t23, ka_t23, kc_t23, ma_t23, mc_t23, ra_t23, rc_t23, qa_t23, qc_t23, e_24, hp_t23, hk_t23, hm_t23, hr_t23, hq_t23, hok_t23⟩⟩ => ?_
  subst e_24
  refine W.ok (ok_indexAddr (i := i) sl105 ty111 (h_ss.mono hG1) rfl rfl ⟨by omega, by omega⟩) (W.ok (ok_fieldE fd111_0 rfl he22.form) (W.ok (ok_fieldE fd47_6 rfl he22.form) (W.ok (ok_loadE (vs := [.int .i64 _]) ty3 he22 rfl rfl rfl (by simp)) (W.mv (W.ok (ok_neq rfl rfl) (W.nil (thn_n ?_)))))))
  refine WC.cond (b := _) rfl (fun h46 => ?_) (fun h46 => ?_)
  ·have p46 := nd_t h46
   refine WC.seq (WC.region (W.as (W.nil (thn_n (WC.ret (blk_r (thn_r (thn_r (blk_r (thn_r ?_))))))))))
   refine ⟨.inr rfl, [_], ⟨rfl, trivial⟩, [], sn9, ?_⟩
   refine congrArg Value.bool ?_
   exact (decide_eq_false fun h => by have h := h i (by omega); rw [wantN_f (by omega)] at h; exact p46 h).symm
  have p46 := nd_f h46
  refine WC.skip (blk_n (thn_n (WC.region (W.mv (W.ok (ok_add rfl rfl (by omega)) (W.as (W.nil (thn_n ?_))))))))
  exact ⟨Le.rfl, i + 1, ⟨eqv, eqv, trivial⟩, ⟨rfl, by omega, fun j h hj => by
      by_cases e : j = i
      · subst e; rw [wantN_f (by omega)]; exact p46
      · exact hi2 j h (by omega)⟩, by omega⟩
 have p8 := of_decide_eq_false h8
 refine WC.exit (thn_x (thn_x (blk_h (thn_n (WC.seq (WC.region (W.as (W.nil (thn_n (WC.ret ?_))))))))))
 refine ⟨.inr rfl, [_], ⟨rfl, trivial⟩, [], sn9, ?_⟩
 refine congrArg Value.bool ?_
 exact (decide_eq_true (fun j h => hi2 j h (by omega))).symm

theorem once_fc {G : GH} {v_l : Value} {l : List Nd} (h_l : SlR eNode G v_l l) {v_ss : Value} {ss : List Seat} (h_ss : SlR eSeat G v_ss ss) :
    Fc Tryz.prog 65 [v_l, v_ss] G [] (fun v _ _ => v = .bool (decide (OnceP l ss))) := by
 obtain ⟨sa_l, sc_l, rfl⟩ := h_l.form
 obtain ⟨sa_ss, sc_ss, rfl⟩ := h_ss.form
 have hl := h_l.len47
 have hl2 := h_ss.len47
 refine Fc.intro (rs := [.tmp 4]) cl65 Tryz.func65 rfl Tryz.ntmps65 rfl rfl (fun w0 => ?_)
 refine WC.seq (WC.region (W.as (W.nil (thn_n (WC.seq (WC.seq (WC.region (W.mv (W.ok (ok_len sl24 h_l rfl) (W.mv (W.ok (ok_len sl105 h_ss rfl) (W.ok (ok_neq rfl rfl) (W.nil (thn_n ?_))))))))))))))
 refine WC.cond (b := _) rfl (fun h12 => ?_) (fun h12 => ?_)
 ·have p12 := nd_t h12
  refine WC.seq (WC.region (W.as (W.nil (thn_n (WC.ret (thn_r ?_))))))
  refine ⟨.inr rfl, [_], ⟨rfl, trivial⟩, [], sn9, ?_⟩
  refine congrArg Value.bool ?_
  exact (decide_eq_false fun h => by have := h.1; omega).symm
 have p12 := nd_f h12
 refine WC.skip (thn_n (WC.seq (WC.seq (WC.region (W.as (W.nil (thn_n (WC.block ?_))))))))
 refine WC.loop (X := Nat) (fun i => [(5, .int .i64 ((i : Nat) : Int)), (0, .slice sa_l l.length sc_l), (1, .slice sa_ss ss.length sc_ss)]) (fun i _ Ml => Ml = [] ∧ i ≤ l.length ∧ ∀ j (h : j < l.length), j < i → (slotS ss l[j].slot).length = 1) (fun i => l.length - i) 0 ⟨eqv, eqv, eqv, trivial⟩ ?_ ?_
 ·exact ⟨rfl, by omega, fun j _ h => by omega⟩
 rintro i gG26 G26 _ hG26 ⟨rfl, hi, hi2⟩
 refine WC.seq (WC.seq (WC.region (W.mv (W.mv (W.ok (ok_len sl24 (h_l.mono hG26) rfl) (W.ok (ok_lss rfl rfl) (W.nil (thn_n ?_))))))))
 refine WC.cond (b := _) rfl (fun h16 => ?_) (fun h16 => ?_)
 ·have p16 := of_decide_eq_true h16
  refine WC.skip (thn_n (WC.seq (WC.block (WC.seq (WC.region (W.as (W.nil (thn_n (WC.seq (WC.seq (WC.region (W.as (W.nil (thn_n (WC.block ?_)))))))))))))))
  refine WC.loop (X := Nat) (fun j => [(6, .int .i64 (((slotS (ss.take j) (l[i]'(by omega)).slot).length : Nat) : Int)), (7, .int .i64 ((j : Nat) : Int)), (0, .slice sa_l l.length sc_l), (1, .slice sa_ss ss.length sc_ss), (5, .int .i64 ((i : Nat) : Int))]) (fun j _ Ml => Ml = [] ∧ j ≤ ss.length) (fun j => ss.length - j) 0 ⟨eqv, eqv, eqv, eqv, eqv, trivial⟩ ?_ ?_
  ·exact ⟨rfl, by omega⟩
  rintro j gG27 G27 _ hG27 ⟨rfl, hj⟩
  have hsl := slotS_len ss (l[i]'(by omega)).slot j
  refine WC.seq (WC.seq (WC.region (W.mv (W.mv (W.ok (ok_len sl105 (h_ss.mono (hG26.trans hG27)) rfl) (W.ok (ok_lss rfl rfl) (W.nil (thn_n ?_))))))))
  refine WC.cond (b := _) rfl (fun h22 => ?_) (fun h22 => ?_)
  ·have p22 := of_decide_eq_true h22
   refine WC.skip (thn_n (WC.seq (WC.block (WC.seq (WC.draw mix (by kernel_rfl) (W.mv (W.mv ?_)))))))
   have q31 := (h_ss.mono (hG26.trans hG27)).at (i := j) (by omega)
   refine match q31 with | ⟨_, he28, ⟨pa_t29, pc_t29, ka_t29, kc_t29, ma_t29, mc_t29, ra_t29, rc_t29, qa_t29, qc_t29, e_30, hp_t29, hk_t29, hm_t29, hr_t29, hq_t29, hok_t29⟩⟩ => ?_
   subst e_30
   refine W.ok (ok_indexAddr (i := j) sl105 ty111 (h_ss.mono (hG26.trans hG27)) rfl rfl ⟨by omega, by omega⟩) (W.ok (ok_fieldE fd111_0 rfl he28.form) (W.ok (ok_fieldE fd47_0 rfl he28.form) (W.ok (ok_loadE (vs := [.int .i64 _]) ty3 he28 rfl rfl rfl (by simp)) (W.mv (W.mv ?_)))))
   have q35 := (h_l.mono (hG26.trans hG27)).at (i := i) (by omega)
   refine match q35 with | ⟨_, he32, ⟨pa_n33, pc_n33, ka_n33, kc_n33, ma_n33, mc_n33, ra_n33, rc_n33, e_34, hp_n33, hk_n33, hm_n33, hr_n33, hok_n33⟩⟩ => ?_
   subst e_34
   refine W.ok (ok_indexAddr (i := i) sl24 ty47 (h_l.mono (hG26.trans hG27)) rfl rfl ⟨by omega, by omega⟩) (W.ok (ok_fieldE fd47_0 rfl he32.form) (W.ok (ok_loadE (vs := [.int .i64 _]) ty3 he32 rfl rfl rfl (by simp)) (W.ok (ok_eql rfl rfl) (W.nil (thn_n ?_)))))
   refine WC.cond (b := _) rfl (fun h36 => ?_) (fun h36 => ?_)
   ·have p36 := of_decide_eq_true h36
    refine WC.region (W.mv (W.ok (ok_add rfl rfl (by omega)) (W.as (W.nil (blk_n (thn_n (WC.region (W.mv (W.ok (ok_add rfl rfl (by omega)) (W.as (W.nil (thn_n ?_))))))))))))
    exact ⟨Le.rfl, j + 1, ⟨(congrArg (fun n : Nat => Value.int .i64 (n : Int)) (by rw [slotS_t (by omega) p36]; simp)), eqv, eqv, eqv, eqv, trivial⟩, ⟨rfl, by omega⟩, by omega⟩
   have p36 := of_decide_eq_false h36
   refine WC.skip (blk_n (thn_n (WC.region (W.mv (W.ok (ok_add rfl rfl (by omega)) (W.as (W.nil (thn_n ?_))))))))
   exact ⟨Le.rfl, j + 1, ⟨(congrArg (fun n : Nat => Value.int .i64 (n : Int)) (by rw [slotS_f (by omega) p36])), eqv, eqv, eqv, eqv, trivial⟩, ⟨rfl, by omega⟩, by omega⟩
  have p22 := of_decide_eq_false h22
  refine WC.exit (thn_x (thn_x (blk_h (thn_n (WC.seq (WC.region (W.mv (W.ok (ok_neq rfl rfl) (W.nil (thn_n ?_))))))))))
  refine WC.cond (b := _) rfl (fun h40 => ?_) (fun h40 => ?_)
  ·have p40 := nd_t h40
   refine WC.seq (WC.region (W.as (W.nil (thn_n (WC.ret (blk_r (thn_r (thn_r (blk_r (thn_r ?_))))))))))
   refine ⟨.inr rfl, [_], ⟨rfl, trivial⟩, [], sn9, ?_⟩
   refine congrArg Value.bool ?_
   exact (decide_eq_false fun h => (by have h0 := h.2 i (by omega); have h1 := p40; rw [List.take_of_length_le (by omega)] at h1; omega)).symm
  have p40 := nd_f h40
  refine WC.skip (blk_n (thn_n (WC.region (W.mv (W.ok (ok_add rfl rfl (by omega)) (W.as (W.nil (thn_n ?_))))))))
  exact ⟨hG27, i + 1, ⟨eqv, eqv, eqv, trivial⟩, ⟨rfl, by omega, fun j h hj => by
      by_cases e : j = i
      · subst e; have h0 := p40; rw [List.take_of_length_le (by omega)] at h0; omega
      · exact hi2 j h (by omega)⟩, by omega⟩
 have p16 := of_decide_eq_false h16
 refine WC.exit (thn_x (thn_x (blk_h (thn_n (WC.seq (WC.region (W.as (W.nil (thn_n (WC.ret ?_))))))))))
 refine ⟨.inr rfl, [_], ⟨rfl, trivial⟩, [], sn9, ?_⟩
 refine congrArg Value.bool ?_
 exact (decide_eq_true ⟨by omega, fun j h => hi2 j h (by omega)⟩).symm

theorem placed_fc {G : GH} {cs_x : List Value} {x : Seat} (h_x : SeatC G cs_x x) (hks : ∀ m ∈ x.n.msgs, m.key.b.size < 140737488355328) :
    Fc Tryz.prog 68 [.agg (List.toArray cs_x)] G [] (fun v _ _ => v = .bool (decide (PlacedP x))) := by
 obtain ⟨pa_x, pc_x, ka_x, kc_x, ma_x, mc_x, ra_x, rc_x, qa_x, qc_x, rfl, hp_x, hk_x, hm_x, hr_x, hq_x, hok_x⟩ := h_x
 have h1 := hp_x.len47
 have h2 := hk_x.len47
 have h3 := hm_x.len47
 have h4 := hr_x.len47
 refine Fc.intro (rs := [.tmp 2]) cl68 Tryz.func68 rfl Tryz.ntmps68 rfl rfl (fun w0 => ?_)
 refine WC.seq (WC.region (W.box (L := [.int .i64 _, .int .i64 _, .slice _ _ _, .slice _ _ _, .string _, .bool _, .int .i64 _, .int .i64 _, .slice _ _ _, .slice _ _ _, .string _, .string _, .bool _, .slice _ _ _]) rfl rfl (fun b36 => (W.as (W.nil (thn_n (WC.seq (WC.seq (WC.region (W.ok (ok_fieldB fd111_0 rfl) (W.ok (ok_fieldB fd47_5 rfl) (W.ok (ok_loadB (i := 0) (vs := [.bool _]) ty4 rfl rfl rfl rfl (by simp)) (W.ok (ok_fieldB fd111_1 rfl) (W.ok (ok_fieldB fd52_2 rfl) (W.ok (ok_loadB (i := 0) (vs := [.bool _]) ty4 rfl rfl rfl rfl (by simp)) ?_)))))))))))))))
 refine W.ok (ok_neqB bo4 rfl rfl) (W.mv ?_)
 refine W.sp 14 rfl (fun h13 => ?_) (fun h13 => ?_)
 ·refine W.no (dj := 14) rfl rfl h13 (W.no (dj := 14) rfl rfl h13 (W.no (dj := 14) rfl rfl h13 (W.no (dj := 14) rfl rfl h13 (W.no (dj := 14) rfl rfl h13 (W.no (dj := 14) rfl rfl h13 (W.no (dj := 14) rfl rfl h13 (W.ok (ok_pick_t rfl h13) (W.nil (thn_n (WC.cond_t rfl rfl (WC.seq (WC.region (W.as (W.nil (thn_n ?_)))))))))))))))
  refine WC.ret (thn_r ?_)
  refine ⟨.inr rfl, [_], ⟨rfl, trivial⟩, [], sn9, ?_⟩
  refine congrArg Value.bool ?_
  exact (decide_eq_false fun h => by have h1 := h.1.1; rw [h1] at h13; simp at h13).symm
 refine W.yes (dj := 14) rfl rfl h13 (W.ok (ok_fieldB fd111_0 rfl) (W.yes (dj := 14) rfl rfl h13 (W.ok (ok_fieldB fd47_4 rfl) (W.yes (dj := 14) rfl rfl h13 (W.ok (ok_loadB (i := 0) (vs := [.string _]) ty9 rfl rfl rfl rfl (by simp)) (W.yes (dj := 14) rfl rfl h13 (W.ok (ok_fieldB fd111_1 rfl) (W.yes (dj := 14) rfl rfl h13 (W.ok (ok_fieldB fd52_1 rfl) (W.yes (dj := 14) rfl rfl h13 (W.ok (ok_loadB (i := 0) (vs := [.string _]) ty9 rfl rfl rfl rfl (by simp)) (W.yes (dj := 14) rfl rfl h13 (W.ok (ok_neqS rfl rfl) ?_)))))))))))))
 refine W.ok (ok_pick_f rfl h13) (W.nil (thn_n ?_))
 refine WC.cond (b := _) rfl (fun h21 => ?_) (fun h21 => ?_)
 ·have p21 := nd_t h21
  refine WC.seq (WC.region (W.as (W.nil (thn_n (WC.ret (thn_r ?_))))))
  refine ⟨.inr rfl, [_], ⟨rfl, trivial⟩, [], sn9, ?_⟩
  refine congrArg Value.bool ?_
  exact (decide_eq_false fun h => by have h1 := h.1.2; rw [h1] at h21; simp at h21).symm
 have p21 := nd_f h21
 refine WC.skip (thn_n (WC.seq (WC.seq (WC.region (W.as (W.nil (thn_n (WC.block ?_))))))))
 refine WC.loop (X := Nat) (fun k => [(3, .int .i64 ((k : Nat) : Int)), (1, .pointer (some ⟨b36, 0, none⟩))]) (fun k _ Ml => Ml = [(b36, .cells (List.toArray [.int .i64 x.n.slot, .int .i64 x.n.level, .slice pa_x (x.n.pivots).length pc_x, .slice ka_x (x.n.kids).length kc_x, .string x.n.high.b, .bool x.n.top, .int .i64 x.n.right, .int .i64 x.n.seen, .slice ma_x (x.n.msgs).length mc_x, .slice ra_x (x.n.rows).length rc_x, .string (x.s).lo.b, .string (x.s).hi.b, .bool (x.s).opn, .slice qa_x (x.ms).length qc_x]) 111 (0, 0))] ∧ ∀ i (h : i < x.n.rows.length), i < k → x.s.has x.n.rows[i].key = true) (fun k => x.n.rows.length - k) 0 ⟨eqv, eqv, trivial⟩ ?_ ?_
 ·exact ⟨rfl, fun i _ h => by omega⟩
 rintro k gG37 G37 _ hG37 ⟨rfl, hk1⟩
 refine WC.seq (WC.seq (WC.region (W.mv (W.ok (ok_fieldB fd111_0 rfl) (W.ok (ok_fieldB fd47_9 rfl) (W.ok (ok_loadB (i := 0) (vs := [.slice _ _ _]) ty41 rfl rfl rfl rfl (by simp)) (W.ok (ok_len sl41 (hr_x.mono hG37) rfl) (W.ok (ok_lss rfl rfl) (W.nil (thn_n ?_))))))))))
 refine WC.cond (b := _) rfl (fun h28 => ?_) (fun h28 => ?_)
 ·have p28 := of_decide_eq_true h28
  refine WC.skip (thn_n (WC.seq (WC.block (WC.seq (WC.draw mix (by kernel_rfl) (W.ok (ok_fieldB fd111_1 rfl) (W.ok (ok_loadB (i := 0) (vs := [.string _, .string _, .bool _]) ty52 rfl rfl rfl rfl (by simp)) (W.ok (ok_fieldB fd111_0 rfl) (W.ok (ok_fieldB fd47_9 rfl) (W.ok (ok_loadB (i := 0) (vs := [.slice _ _ _]) ty41 rfl rfl rfl rfl (by simp)) (W.mv ?_)))))))))))
  have q40 := (hr_x.mono hG37).at (i := k) (by omega)
  refine match q40 with | ⟨_, he38, e_39⟩ => ?_
  subst e_39
  refine W.ok (ok_indexAddr (i := k) sl41 ty69 (hr_x.mono hG37) rfl rfl ⟨by omega, by omega⟩) (W.ok (ok_fieldE fd69_0 rfl he38.form) (W.ok (ok_loadE (vs := [.string _]) ty9 he38 rfl rfl rfl (by simp)) (W.qcall (has_fc _ _ _ _) rfl (W.ok (ok_not rfl) (W.nil (thn_n ?_))))))
  refine WC.cond (b := _) rfl (fun h41 => ?_) (fun h41 => ?_)
  ·refine WC.seq (WC.region (W.as (W.nil (thn_n (WC.ret (blk_r (thn_r (thn_r (blk_r (thn_r ?_))))))))))
   refine ⟨.inr rfl, [_], ⟨rfl, trivial⟩, [], sn9, ?_⟩
   refine congrArg Value.bool ?_
   exact (decide_eq_false fun h => by have h1 := h.2.1 k (by omega); rw [h1] at h41; simp at h41).symm
  refine WC.skip (blk_n (thn_n (WC.region (W.mv (W.ok (ok_add rfl rfl (by omega)) (W.as (W.nil (thn_n ?_))))))))
  exact ⟨Le.rfl, k + 1, ⟨eqv, eqv, trivial⟩, ⟨rfl, fun i h hi => by
      by_cases e : i = k
      · subst e; simpa using h41
      · exact hk1 i h (by omega)⟩, by omega⟩
 have p28 := of_decide_eq_false h28
 refine WC.exit (thn_x (thn_x (blk_h (thn_n (WC.seq (WC.seq (WC.region (W.as (W.nil (thn_n (WC.block ?_)))))))))))
 refine WC.loop (X := Nat) (fun k => [(4, .int .i64 ((k : Nat) : Int)), (1, .pointer (some ⟨b36, 0, none⟩))]) (fun k _ Ml => Ml = [(b36, .cells (List.toArray [.int .i64 x.n.slot, .int .i64 x.n.level, .slice pa_x (x.n.pivots).length pc_x, .slice ka_x (x.n.kids).length kc_x, .string x.n.high.b, .bool x.n.top, .int .i64 x.n.right, .int .i64 x.n.seen, .slice ma_x (x.n.msgs).length mc_x, .slice ra_x (x.n.rows).length rc_x, .string (x.s).lo.b, .string (x.s).hi.b, .bool (x.s).opn, .slice qa_x (x.ms).length qc_x]) 111 (0, 0))] ∧ ∀ i (h : i < x.n.pivots.length), i < k → x.s.has x.n.pivots[i] = true ∧ x.n.pivots[i] ≠ x.s.lo) (fun k => x.n.pivots.length - k) 0 ⟨eqv, eqv, trivial⟩ ?_ ?_
 ·exact ⟨rfl, fun i _ h => by omega⟩
 rintro k gG41 G41 _ hG41 ⟨rfl, hk2⟩
 refine WC.seq (WC.seq (WC.region (W.mv (W.ok (ok_fieldB fd111_0 rfl) (W.ok (ok_fieldB fd47_2 rfl) (W.ok (ok_loadB (i := 0) (vs := [.slice _ _ _]) ty43 rfl rfl rfl rfl (by simp)) (W.ok (ok_len sl43 (hp_x.mono (hG37.trans hG41)) rfl) (W.ok (ok_lss rfl rfl) (W.nil (thn_n ?_))))))))))
 refine WC.cond (b := _) rfl (fun h47 => ?_) (fun h47 => ?_)
 ·have p47 := of_decide_eq_true h47
  refine WC.skip (thn_n (WC.seq (WC.block (WC.seq (WC.draw mix (by kernel_rfl) (W.ok (ok_fieldB fd111_1 rfl) (W.ok (ok_loadB (i := 0) (vs := [.string _, .string _, .bool _]) ty52 rfl rfl rfl rfl (by simp)) (W.ok (ok_fieldB fd111_0 rfl) (W.ok (ok_fieldB fd47_2 rfl) (W.ok (ok_loadB (i := 0) (vs := [.slice _ _ _]) ty43 rfl rfl rfl rfl (by simp)) (W.mv ?_)))))))))))
  have q44 := (hp_x.mono (hG37.trans hG41)).at (i := k) (by omega)
  refine match q44 with | ⟨_, he42, e_43⟩ => ?_
  subst e_43
  refine W.ok (ok_indexAddr (i := k) sl43 ty9 (hp_x.mono (hG37.trans hG41)) rfl rfl ⟨by omega, by omega⟩) (W.ok (ok_loadE (vs := [.string _]) ty9 he42 rfl rfl rfl (by simp)) (W.qcall (has_fc _ _ _ _) rfl (W.ok (ok_not rfl) (W.mv ?_))))
  refine W.sp 60 rfl (fun h59 => ?_) (fun h59 => ?_)
  ·refine W.no (dj := 60) rfl rfl h59 (W.no (dj := 60) rfl rfl h59 (W.no (dj := 60) rfl rfl h59 (W.no (dj := 60) rfl rfl h59 (W.no (dj := 60) rfl rfl h59 (W.no (dj := 60) rfl rfl h59 (W.no (dj := 60) rfl rfl h59 (W.no (dj := 60) rfl rfl h59 (W.no (dj := 60) rfl rfl h59 (W.no (dj := 60) rfl rfl h59 (W.ok (ok_pick_t rfl h59) (W.nil (thn_n (WC.cond_t rfl rfl (WC.seq ?_))))))))))))))
   refine WC.region (W.as (W.nil (thn_n (WC.ret (blk_r (thn_r (thn_r (blk_r (thn_r ?_)))))))))
   refine ⟨.inr rfl, [_], ⟨rfl, trivial⟩, [], sn9, ?_⟩
   refine congrArg Value.bool ?_
   exact (decide_eq_false fun h => by have h1 := (h.2.2.1 k (by omega)).1; rw [h1] at h59; simp at h59).symm
  refine W.yes (dj := 60) rfl rfl h59 (W.ok (ok_fieldB fd111_0 rfl) (W.yes (dj := 60) rfl rfl h59 (W.ok (ok_fieldB fd47_2 rfl) (W.yes (dj := 60) rfl rfl h59 (W.ok (ok_loadB (i := 0) (vs := [.slice _ _ _]) ty43 rfl rfl rfl rfl (by simp)) (W.yes (dj := 60) rfl rfl h59 (W.mv (W.yes (dj := 60) rfl rfl h59 ?_))))))))
  have q47 := (hp_x.mono (hG37.trans hG41)).at (i := k) (by omega)
  refine match q47 with | ⟨_, he45, e_46⟩ => ?_
  subst e_46
  refine W.ok (ok_indexAddr (i := k) sl43 ty9 (hp_x.mono (hG37.trans hG41)) rfl rfl ⟨by omega, by omega⟩) (W.yes (dj := 60) rfl rfl h59 (W.ok (ok_loadE (vs := [.string _]) ty9 he45 rfl rfl rfl (by simp)) (W.yes (dj := 60) rfl rfl h59 (W.ok (ok_fieldB fd111_1 rfl) (W.yes (dj := 60) rfl rfl h59 (W.ok (ok_fieldB fd52_0 rfl) (W.yes (dj := 60) rfl rfl h59 (W.ok (ok_loadB (i := 0) (vs := [.string _]) ty9 rfl rfl rfl rfl (by simp)) (W.yes (dj := 60) rfl rfl h59 (W.ok (ok_eqlS rfl rfl) (W.ok (ok_pick_f rfl h59) (W.nil (thn_n ?_)))))))))))))
  refine WC.cond (b := _) rfl (fun h70 => ?_) (fun h70 => ?_)
  ·have p70 := of_decide_eq_true h70
   refine WC.seq (WC.region (W.as (W.nil (thn_n (WC.ret (blk_r (thn_r (thn_r (blk_r (thn_r ?_))))))))))
   refine ⟨.inr rfl, [_], ⟨rfl, trivial⟩, [], sn9, ?_⟩
   refine congrArg Value.bool ?_
   exact (decide_eq_false fun h => by have h1 := (h.2.2.1 k (by omega)).2; exact h1 (Str.ext' p70)).symm
  have p70 := of_decide_eq_false h70
  refine WC.skip (blk_n (thn_n (WC.region (W.mv (W.ok (ok_add rfl rfl (by omega)) (W.as (W.nil (thn_n ?_))))))))
  exact ⟨Le.rfl, k + 1, ⟨eqv, eqv, trivial⟩, ⟨rfl, fun i h hi => by
      by_cases e : i = k
      · subst e; exact ⟨by simpa using h59, fun e => p70 (congrArg Str.b e)⟩
      · exact hk2 i h (by omega)⟩, by omega⟩
 have p47 := of_decide_eq_false h47
 refine WC.exit (thn_x (thn_x (blk_h (thn_n (WC.seq (WC.seq (WC.region (W.as (W.nil (thn_n (WC.block ?_)))))))))))
 refine WC.loop (X := Nat) (fun k => [(5, .int .i64 ((k : Nat) : Int)), (1, .pointer (some ⟨b36, 0, none⟩))]) (fun k _ Ml => Ml = [(b36, .cells (List.toArray [.int .i64 x.n.slot, .int .i64 x.n.level, .slice pa_x (x.n.pivots).length pc_x, .slice ka_x (x.n.kids).length kc_x, .string x.n.high.b, .bool x.n.top, .int .i64 x.n.right, .int .i64 x.n.seen, .slice ma_x (x.n.msgs).length mc_x, .slice ra_x (x.n.rows).length rc_x, .string (x.s).lo.b, .string (x.s).hi.b, .bool (x.s).opn, .slice qa_x (x.ms).length qc_x]) 111 (0, 0))] ∧ ∀ i (h : i < x.n.msgs.length), i < k → x.n.msgs[i].span.meet x.s = x.n.msgs[i].span.norm) (fun k => x.n.msgs.length - k) 0 ⟨eqv, eqv, trivial⟩ ?_ ?_
 ·exact ⟨rfl, fun i _ h => by omega⟩
 rintro k gG48 G48 _ hG48 ⟨rfl, hk3⟩
 refine WC.seq (WC.seq (WC.region (W.mv (W.ok (ok_fieldB fd111_0 rfl) (W.ok (ok_fieldB fd47_8 rfl) (W.ok (ok_loadB (i := 0) (vs := [.slice _ _ _]) ty45 rfl rfl rfl rfl (by simp)) (W.ok (ok_len sl45 (hm_x.mono ((hG37.trans hG41).trans hG48)) rfl) (W.ok (ok_lss rfl rfl) (W.nil (thn_n ?_))))))))))
 refine WC.cond (b := _) rfl (fun h77 => ?_) (fun h77 => ?_)
 ·have p77 := of_decide_eq_true h77
  refine WC.skip (thn_n (WC.seq (WC.block (WC.seq (WC.region (W.ok (ok_fieldB fd111_0 rfl) (W.ok (ok_fieldB fd47_8 rfl) (W.ok (ok_loadB (i := 0) (vs := [.slice _ _ _]) ty45 rfl rfl rfl rfl (by simp)) (W.mv ?_)))))))))
  have q53 := (hm_x.mono ((hG37.trans hG41).trans hG48)).at (i := k) (by omega)
  refine match q53 with | ⟨_, he49, ⟨e_52, hm50⟩⟩ => ?_
  subst e_52
  refine W.ok (ok_indexAddr (i := k) sl45 ty49 (hm_x.mono ((hG37.trans hG41).trans hG48)) rfl rfl ⟨by omega, by omega⟩) (W.ok (ok_loadE (vs := [.int .i64 _, .int .i64 _, .string _, .string _, .bool _, .string _]) ty49 he49 rfl rfl rfl (by simp)) (W.qcall (rspan_fc _ _ _ _ _ _ (hks _ (List.getElem_mem _))) rfl (W.alloc zr52 (fun b54 => (W.store (i := 0) (vs := [.string _, .string _, .bool _]) (L' := [.string _, .string _, .bool _]) ty52 rfl rfl rfl rfl rfl rfl rfl rfl (W.nil (thn_n (WC.seq (WC.draw mix (by kernel_rfl) (W.ok (ok_loadB (i := 0) (vs := [.string _, .string _, .bool _]) ty52 rfl rfl rfl rfl (by simp)) (W.ok (ok_fieldB fd111_1 rfl) (W.ok (ok_loadB (i := 1) (vs := [.string _, .string _, .bool _]) ty52 rfl rfl rfl rfl (by simp)) (W.qcall (rmeet_fc _ _ _ _ _ _) rfl (W.ok (ok_loadB (i := 0) (vs := [.string _, .string _, .bool _]) ty52 rfl rfl rfl rfl (by simp)) (W.qcall (norm_fc _ _ _) rfl ?_)))))))))))))))
  refine W.ok (ok_neqA (L1 := [.string _, .string _, .bool _]) (L2 := [.string _, .string _, .bool _]) eq52 rfl rfl rfl rfl) (W.nil (thn_n ?_))
  refine WC.cond (b := _) rfl (fun h93 => ?_) (fun h93 => ?_)
  ·refine WC.seq (WC.region (W.as (W.nil (thn_n (WC.ret (blk_r (thn_r (thn_r (blk_r (thn_r ?_))))))))))
   refine ⟨.inr rfl, [_], ⟨rfl, trivial⟩, [], sn9, ?_⟩
   refine congrArg Value.bool ?_
   exact (decide_eq_false fun h => by have h1 := h.2.2.2 k (by omega); have h0 : (!eqCells (((x.n.msgs[k]).span.meet x.s).cells) ((x.n.msgs[k]).span.norm.cells)) = true := h93; rw [Span.eqC, h1] at h0; simp at h0).symm
  refine WC.skip (blk_n (thn_n (WC.region (W.mv (W.ok (ok_add rfl rfl (by omega)) (W.as (W.sub (sr9.cons _) (W.nil (thn_n ?_)))))))))
  exact ⟨Le.rfl, k + 1, ⟨eqv, eqv, trivial⟩, ⟨rfl, fun i h hi => by
      by_cases e : i = k
      · subst e; have h0 : (!eqCells (((x.n.msgs[i]).span.meet x.s).cells) ((x.n.msgs[i]).span.norm.cells)) = false := h93; rw [Span.eqC] at h0; simpa using h0
      · exact hk3 i h (by omega)⟩, by omega⟩
 have p77 := of_decide_eq_false h77
 refine WC.exit (thn_x (thn_x (blk_h (thn_n (WC.seq (WC.region (W.as (W.nil (thn_n (WC.ret ?_))))))))))
 refine ⟨.inr rfl, [_], ⟨rfl, trivial⟩, [], sn9, ?_⟩
 refine congrArg Value.bool ?_
 exact (decide_eq_true ⟨⟨by simpa using h13, Str.ext' p21⟩, (fun i h => hk1 i h (by omega)), (fun i h => hk2 i h (by omega)), fun i h => hk3 i h (by omega)⟩).symm

theorem sound_fc {G : GH} (cfan : Int) (cleaf : Int) (cbud : Int) (cslots : Int) (crest : Int) {v_l : Value} {l : List Nd} (h_l : SlR eNode G v_l l) (hS : Sml l) :
    Fc Tryz.prog 19 [.agg #[.int .i64 cfan, .int .i64 cleaf, .int .i64 cbud, .int .i64 cslots, .int .i64 crest], v_l] G [] (fun v _ _ => v = .bool (soundN (⟨cfan, cleaf, cbud, cslots, crest⟩ : Cfg) l)) := by
 obtain ⟨sa_l, sc_l, rfl⟩ := h_l.form
 have hl := h_l.len47
 have hl100 := hS.1
 refine Fc.intro (rs := [.tmp 4]) cl19 Tryz.func19 rfl Tryz.ntmps19 rfl rfl (fun w0 => ?_)
 refine WC.seq (WC.region (W.box (L := [.int .i64 _, .int .i64 _, .int .i64 _, .int .i64 _, .int .i64 _]) rfl rfl (fun b55 => (W.as (W.nil (thn_n (WC.seq (WC.region (W.mv (W.call (Mp := []) (seats_fc h_l _ (by assumption)) rfl pr9 ?_))))))))))
 intro v58 G56 _ hG56 q57
 have q59 := q57.1
 subst q59
 have q60 := q57.2
 refine Or.elim q60 (fun q61 => ?_) (fun q62 => ?_)
 ·refine match q61 with | ⟨u_s63, ss, hss, e_64, hv_s63, hqs⟩ => ?_
  subst e_64
  have q66 := hv_s63.form
  refine match q66 with | ⟨sa_s63, sc_s63, e_65⟩ => ?_
  subst e_65
  have hss47 := hv_s63.len47
  refine W.mv (W.ok (ok_extract rfl rfl) (W.ok (ok_extract rfl rfl) (W.as (W.as (W.nil (thn_n (WC.seq (WC.seq (WC.region (W.mv (W.ok (ok_not rfl) (W.mv (W.yes (dj := 17) rfl rfl rfl (W.mv ?_))))))))))))))
  refine W.yes (dj := 17) rfl rfl rfl (W.mv (W.yes (dj := 17) rfl rfl rfl (W.qcall (once_fc (h_l.mono hG56) hv_s63) rfl (W.yes (dj := 17) rfl rfl rfl (W.ok (ok_not rfl) (W.ok (ok_pick_f rfl rfl) (W.mv ?_)))))))
  refine W.sp 23 rfl (fun h21 => ?_) (fun h21 => ?_)
  ·refine W.no (dj := 23) rfl rfl h21 (W.no (dj := 23) rfl rfl h21 (W.no (dj := 23) rfl rfl h21 (W.ok (ok_pick_t rfl h21) (W.mv (W.no (dj := 28) rfl rfl rfl (W.no (dj := 28) rfl rfl rfl (W.no (dj := 28) rfl rfl rfl (W.no (dj := 28) rfl rfl rfl (W.no (dj := 28) rfl rfl rfl (W.ok (ok_pick_t rfl rfl) (W.nil (thn_n (WC.cond_t rfl rfl (WC.seq ?_))))))))))))))
   refine WC.region (W.as (W.nil (thn_n (WC.ret (thn_r ?_)))))
   refine ⟨.inr rfl, [_], ⟨rfl, trivial⟩, [], sn9, ?_⟩
   refine congrArg Value.bool ?_
   rw [soundN_t hss]
   exact (decide_eq_false fun h => by have h1 := h.1.1; simp [h1] at h21).symm
  refine W.yes (dj := 23) rfl rfl h21 (W.mv (W.yes (dj := 23) rfl rfl h21 (W.qcall (linked_fc hv_s63) rfl (W.yes (dj := 23) rfl rfl h21 (W.ok (ok_not rfl) (W.ok (ok_pick_f rfl h21) (W.mv ?_)))))))
  refine W.sp 28 rfl (fun h26 => ?_) (fun h26 => ?_)
  ·refine W.no (dj := 28) rfl rfl h26 (W.no (dj := 28) rfl rfl h26 (W.no (dj := 28) rfl rfl h26 (W.no (dj := 28) rfl rfl h26 (W.no (dj := 28) rfl rfl h26 (W.ok (ok_pick_t rfl h26) (W.nil (thn_n (WC.cond_t rfl rfl (WC.seq (WC.region (W.as (W.nil (thn_n (WC.ret (thn_r ?_)))))))))))))))
   refine ⟨.inr rfl, [_], ⟨rfl, trivial⟩, [], sn9, ?_⟩
   refine congrArg Value.bool ?_
   rw [soundN_t hss]
   exact (decide_eq_false fun h => by have h1 := h.1.2.1; simp [h1] at h26).symm
  refine W.yes (dj := 28) rfl rfl h26 (W.mv (W.yes (dj := 28) rfl rfl h26 (W.ok (ok_len sl24 (h_l.mono hG56) rfl) (W.yes (dj := 28) rfl rfl h26 (W.ok (ok_fieldB fd23_3 rfl) (W.yes (dj := 28) rfl rfl h26 (W.ok (ok_loadB (i := 0) (vs := [.int .i64 _]) ty3 rfl rfl rfl rfl (by simp)) (W.yes (dj := 28) rfl rfl h26 (W.ok (ok_gtr rfl rfl) (W.ok (ok_pick_f rfl h26) (W.nil (thn_n ?_))))))))))))
  refine WC.cond (b := _) rfl (fun h33 => ?_) (fun h33 => ?_)
  ·have p33 := of_decide_eq_true h33
   refine WC.seq (WC.region (W.as (W.nil (thn_n (WC.ret (thn_r ?_))))))
   refine ⟨.inr rfl, [_], ⟨rfl, trivial⟩, [], sn9, ?_⟩
   refine congrArg Value.bool ?_
   rw [soundN_t hss]
   exact (decide_eq_false fun h => by have h1 := h.1.2.2; dsimp only at h1; omega).symm
  have p33 := of_decide_eq_false h33
  refine WC.skip (thn_n (WC.seq (WC.seq (WC.region (W.as (W.nil (thn_n (WC.block ?_))))))))
  refine WC.loop (X := Nat) (fun i => [(7, .int .i64 ((i : Nat) : Int)), (2, .pointer (some ⟨b55, 0, none⟩)), (5, .slice sa_s63 ss.length sc_s63)]) (fun i _ Ml => Ml = [(b55, .cells (List.toArray [.int .i64 cfan, .int .i64 cleaf, .int .i64 cbud, .int .i64 cslots, .int .i64 crest]) 23 (0, 0))] ∧ i ≤ ss.length ∧ ∀ j (h : j < ss.length), j < i → SeatP (⟨cfan, cleaf, cbud, cslots, crest⟩ : Cfg) ss[j]) (fun i => ss.length - i) 0 ⟨eqv, eqv, eqv, trivial⟩ ?_ ?_
  ·exact ⟨rfl, by omega, fun j _ h => by omega⟩
  rintro i gG67 G67 _ hG67 ⟨rfl, hi, hi2⟩
  refine WC.seq (WC.seq (WC.region (W.mv (W.mv (W.ok (ok_len sl105 (hv_s63.mono hG67) rfl) (W.ok (ok_lss rfl rfl) (W.nil (thn_n ?_))))))))
  refine WC.cond (b := _) rfl (fun h38 => ?_) (fun h38 => ?_)
  ·have p38 := of_decide_eq_true h38
   refine WC.skip (thn_n (WC.seq (WC.block (WC.seq (WC.region (W.mv (W.mv ?_)))))))
   have q71 := (hv_s63.mono hG67).at (i := i) (by omega)
   refine match q71 with | ⟨_, he68, ⟨pa_t69, pc_t69, ka_t69, kc_t69, ma_t69, mc_t69, ra_t69, rc_t69, qa_t69, qc_t69, e_70, hp_t69, hk_t69, hm_t69, hr_t69, hq_t69, hok_t69⟩⟩ => ?_
   subst e_70
   obtain ⟨sx, hssx⟩ : ∃ y, y = ((ss)[i]) := ⟨_, rfl⟩
   rw [← hssx] at he68 hp_t69 hk_t69 hm_t69 hr_t69 hq_t69 hok_t69
   refine W.ok (ok_indexAddr (i := i) sl105 ty111 (hv_s63.mono hG67) rfl rfl ⟨by omega, by omega⟩) (W.ok (ok_loadE (vs := [.int .i64 _, .int .i64 _, .slice _ _ _, .slice _ _ _, .string _, .bool _, .int .i64 _, .int .i64 _, .slice _ _ _, .slice _ _ _, .string _, .string _, .bool _, .slice _ _ _]) ty111 he68 rfl rfl rfl (by simp)) (W.alloc zr111 (fun b72 => (W.store (i := 0) (vs := [.int .i64 _, .int .i64 _, .slice _ _ _, .slice _ _ _, .string _, .bool _, .int .i64 _, .int .i64 _, .slice _ _ _, .slice _ _ _, .string _, .string _, .bool _, .slice _ _ _]) (L' := [.int .i64 _, .int .i64 _, .slice _ _ _, .slice _ _ _, .string _, .bool _, .int .i64 _, .int .i64 _, .slice _ _ _, .slice _ _ _, .string _, .string _, .bool _, .slice _ _ _]) ty111 rfl rfl rfl rfl rfl rfl rfl rfl (W.nil (thn_n (WC.seq (WC.seq ?_))))))))
   have hsx := hqs i (by omega)
   rw [← hssx] at hsx
   have hms := hsx.ms
   have hnd := hS.at hsx.nd
   have hk1 : ∀ m ∈ sx.n.msgs, m.key.b.size < 140737488355328 := fun m hm => by have := hnd.2.2.2.2.2.1 m hm; omega
   refine WC.region (W.ok (ok_loadB (i := 1) (vs := [.int .i64 _, .int .i64 _, .int .i64 _, .int .i64 _, .int .i64 _]) ty23 rfl rfl rfl rfl (by simp)) (W.ok (ok_fieldB fd111_0 rfl) (W.ok (ok_loadB (i := 0) (vs := (nd9 _ _ _ _ _ _ _ _ _ _ _ _ _ _ _ _ _ _)) ty47 rfl rfl rfl rfl (by simp)) (W.qcall (nright_fc _ _ _ _ _ ⟨_, _, _, _, _, _, _, _, rfl, hp_t69, hk_t69, hm_t69, hr_t69, hok_t69⟩) rfl (W.ok (ok_not rfl) (W.mv ?_))))))
   refine W.sp 50 rfl (fun h49 => ?_) (fun h49 => ?_)
   ·refine W.no (dj := 50) rfl rfl h49 (W.no (dj := 50) rfl rfl h49 (W.no (dj := 50) rfl rfl h49 (W.ok (ok_pick_t rfl h49) (W.mv (W.no (dj := 55) rfl rfl rfl (W.no (dj := 55) rfl rfl rfl (W.no (dj := 55) rfl rfl rfl (W.no (dj := 55) rfl rfl rfl (W.no (dj := 55) rfl rfl rfl (W.no (dj := 55) rfl rfl rfl (W.ok (ok_pick_t rfl rfl) (W.nil (thn_n (WC.cond_t rfl rfl ?_))))))))))))))
    refine WC.seq (WC.region (W.as (W.nil (thn_n (WC.ret (thn_r (blk_r (thn_r (thn_r (blk_r (thn_r ?_)))))))))))
    refine ⟨.inr rfl, [_], ⟨rfl, trivial⟩, [], sn9, ?_⟩
    refine congrArg Value.bool ?_
    rw [soundN_t hss]
    exact (decide_eq_false fun h => by have h1 := (h.2 i (by omega)).1; rw [← hssx] at h1; dsimp only at h1; simp [h1] at h49).symm
   refine W.yes (dj := 50) rfl rfl h49 (W.ok (ok_loadB (i := 0) (vs := [.int .i64 _, .int .i64 _, .slice _ _ _, .slice _ _ _, .string _, .bool _, .int .i64 _, .int .i64 _, .slice _ _ _, .slice _ _ _, .string _, .string _, .bool _, .slice _ _ _]) ty111 rfl rfl rfl rfl (by simp)) (W.yes (dj := 50) rfl rfl h49 (W.qcall (placed_fc ⟨_, _, _, _, _, _, _, _, _, _, rfl, hp_t69, hk_t69, hm_t69, hr_t69, hq_t69, hok_t69⟩ hk1) rfl (W.yes (dj := 50) rfl rfl h49 (W.ok (ok_not rfl) (W.ok (ok_pick_f rfl h49) (W.mv ?_)))))))
   refine W.sp 55 rfl (fun h53 => ?_) (fun h53 => ?_)
   ·refine W.no (dj := 55) rfl rfl h53 (W.no (dj := 55) rfl rfl h53 (W.no (dj := 55) rfl rfl h53 (W.no (dj := 55) rfl rfl h53 (W.no (dj := 55) rfl rfl h53 (W.no (dj := 55) rfl rfl h53 (W.ok (ok_pick_t rfl h53) (W.nil (thn_n (WC.cond_t rfl rfl (WC.seq (WC.region (W.as (W.nil (thn_n (WC.ret (thn_r (blk_r (thn_r (thn_r (blk_r (thn_r ?_)))))))))))))))))))))
    refine ⟨.inr rfl, [_], ⟨rfl, trivial⟩, [], sn9, ?_⟩
    refine congrArg Value.bool ?_
    rw [soundN_t hss]
    exact (decide_eq_false fun h => by have h1 := (h.2 i (by omega)).2.1; rw [← hssx] at h1; simp [h1] at h53).symm
   refine W.yes (dj := 55) rfl rfl h53 (W.ok (ok_fieldB fd111_0 rfl) (W.yes (dj := 55) rfl rfl h53 (W.ok (ok_fieldB fd47_0 rfl) (W.yes (dj := 55) rfl rfl h53 (W.ok (ok_loadB (i := 0) (vs := [.int .i64 _]) ty3 rfl rfl rfl rfl (by simp)) (W.yes (dj := 55) rfl rfl h53 (W.ok (ok_fieldB fd23_3 rfl) (W.yes (dj := 55) rfl rfl h53 (W.ok (ok_loadB (i := 1) (vs := [.int .i64 _]) ty3 rfl rfl rfl rfl (by simp)) (W.yes (dj := 55) rfl rfl h53 (W.ok (ok_geq rfl rfl) (W.ok (ok_pick_f rfl h53) (W.nil (thn_n ?_))))))))))))))
   refine WC.cond (b := _) rfl (fun h61 => ?_) (fun h61 => ?_)
   ·have p61 := of_decide_eq_true h61
    refine WC.seq (WC.region (W.as (W.nil (thn_n (WC.ret (thn_r (blk_r (thn_r (thn_r (blk_r (thn_r ?_)))))))))))
    refine ⟨.inr rfl, [_], ⟨rfl, trivial⟩, [], sn9, ?_⟩
    refine congrArg Value.bool ?_
    rw [soundN_t hss]
    exact (decide_eq_false fun h => by have h1 := (h.2 i (by omega)).2.2.1; rw [← hssx] at h1; dsimp only at h1; omega).symm
   have p61 := of_decide_eq_false h61
   refine WC.skip (thn_n (WC.seq (WC.region (W.as (W.nil (thn_n (WC.block ?_)))))))
   refine WC.loop (X := Nat) (fun j => [(9, .int .i64 ((j : Nat) : Int)), (2, .pointer (some ⟨b55, 0, none⟩)), (8, .pointer (some ⟨b72, 0, none⟩)), (5, .slice sa_s63 ss.length sc_s63), (7, .int .i64 ((i : Nat) : Int))]) (fun j _ Ml => Ml = [(b72, .cells (List.toArray [.int .i64 sx.n.slot, .int .i64 sx.n.level, .slice pa_t69 (sx.n.pivots).length pc_t69, .slice ka_t69 (sx.n.kids).length kc_t69, .string sx.n.high.b, .bool sx.n.top, .int .i64 sx.n.right, .int .i64 sx.n.seen, .slice ma_t69 (sx.n.msgs).length mc_t69, .slice ra_t69 (sx.n.rows).length rc_t69, .string (sx.s).lo.b, .string (sx.s).hi.b, .bool (sx.s).opn, .slice qa_t69 (sx.ms).length qc_t69]) 111 (0, 0)), (b55, .cells (List.toArray [.int .i64 cfan, .int .i64 cleaf, .int .i64 cbud, .int .i64 cslots, .int .i64 crest]) 23 (0, 0))] ∧ ∀ j2 (h : j2 < sx.ms.length), j2 < j → sx.n.seen < sx.ms[j2].stamp) (fun j => sx.ms.length - j) 0 ⟨eqv, eqv, eqv, eqv, eqv, trivial⟩ ?_ ?_
   ·exact ⟨rfl, fun i _ h => by omega⟩
   rintro j gG73 G73 _ hG73 ⟨rfl, hj2'⟩
   refine WC.seq (WC.seq (WC.region (W.mv (W.ok (ok_fieldB fd111_2 rfl) (W.ok (ok_loadB (i := 0) (vs := [.slice _ _ _]) ty45 rfl rfl rfl rfl (by simp)) (W.ok (ok_len sl45 (hq_t69.mono hG73) rfl) (W.ok (ok_lss rfl rfl) (W.nil (thn_n ?_)))))))))
   refine WC.cond (b := _) rfl (fun h67 => ?_) (fun h67 => ?_)
   ·have p67 := of_decide_eq_true h67
    refine WC.skip (thn_n (WC.seq (WC.block (WC.seq (WC.draw mix (by kernel_rfl) (W.ok (ok_fieldB fd111_2 rfl) (W.ok (ok_loadB (i := 0) (vs := [.slice _ _ _]) ty45 rfl rfl rfl rfl (by simp)) (W.mv ?_))))))))
    have q78 := (hq_t69.mono hG73).at (i := j) (by omega)
    refine match q78 with | ⟨_, he74, ⟨e_77, hm75⟩⟩ => ?_
    subst e_77
    refine W.ok (ok_indexAddr (i := j) sl45 ty49 (hq_t69.mono hG73) rfl rfl ⟨by omega, by omega⟩) (W.ok (ok_fieldE fd49_0 rfl he74.form) (W.ok (ok_loadE (vs := [.int .i64 _]) ty3 he74 rfl rfl rfl (by simp)) (W.ok (ok_fieldB fd111_0 rfl) (W.ok (ok_fieldB fd47_7 rfl) (W.ok (ok_loadB (i := 0) (vs := [.int .i64 _]) ty3 rfl rfl rfl rfl (by simp)) (W.ok (ok_leq rfl rfl) (W.nil (thn_n ?_))))))))
    refine WC.cond (b := _) rfl (fun h79 => ?_) (fun h79 => ?_)
    ·have p79 := of_decide_eq_true h79
     refine WC.seq (WC.region (W.as (W.nil (thn_n (WC.ret (blk_r (thn_r (thn_r (blk_r (blk_r (thn_r (thn_r (blk_r (thn_r ?_))))))))))))))
     refine ⟨.inr rfl, [_], ⟨rfl, trivial⟩, [], sn9, ?_⟩
     refine congrArg Value.bool ?_
     rw [soundN_t hss]
     exact (decide_eq_false fun h => by have h1 := (h.2 i (by omega)).2.2.2; rw [← hssx] at h1; have := h1 j (by omega); omega).symm
    have p79 := of_decide_eq_false h79
    refine WC.skip (blk_n (thn_n (WC.region (W.mv (W.ok (ok_add rfl rfl (by omega)) (W.as (W.nil (thn_n ?_))))))))
    exact ⟨Le.rfl, j + 1, ⟨eqv, eqv, eqv, eqv, eqv, trivial⟩, ⟨rfl, fun i2 h hi3 => by
      by_cases e : i2 = j
      · subst e; omega
      · exact hj2' i2 h (by omega)⟩, by omega⟩
   have p67 := of_decide_eq_false h67
   refine WC.exit (thn_x (thn_x (blk_h (blk_n (thn_n (WC.region (W.mv (W.ok (ok_add rfl rfl (by omega)) (W.as (W.sub (sr9.cons _) (W.nil (thn_n ?_))))))))))))
   exact ⟨hG73, i + 1, ⟨eqv, eqv, eqv, trivial⟩, ⟨rfl, by omega, fun j2 h hj2 => by
      by_cases e : j2 = i
      · subst e; rw [← hssx]; exact ⟨by simpa using h49, by simpa using h53, by dsimp only; omega, fun j2 h2 => hj2' j2 h2 (by omega)⟩
      · exact hi2 j2 h (by omega)⟩, by omega⟩
  have p38 := of_decide_eq_false h38
  refine WC.exit (thn_x (thn_x (blk_h (thn_n (WC.seq (WC.region (W.as (W.nil (thn_n (WC.ret ?_))))))))))
  refine ⟨.inr rfl, [_], ⟨rfl, trivial⟩, [], sn9, ?_⟩
  refine congrArg Value.bool ?_
  rw [soundN_t hss]
  exact (decide_eq_true ⟨⟨by simpa using h21, by simpa using h26, by dsimp only; omega⟩, fun j h => hi2 j h (by omega)⟩).symm
 refine match q62 with | ⟨u_s79, sxs79, hsn, e_80, hv_s79⟩ => ?_
 subst e_80
 refine W.mv (W.ok (ok_extract rfl rfl) (W.ok (ok_extract rfl rfl) (W.as (W.as (W.nil (thn_n (WC.seq (WC.seq (WC.region (W.mv (W.ok (ok_not rfl) (W.mv (W.no (dj := 17) rfl rfl rfl (W.no (dj := 17) rfl rfl rfl ?_))))))))))))))
 refine W.no (dj := 17) rfl rfl rfl (W.no (dj := 17) rfl rfl rfl (W.ok (ok_pick_t rfl rfl) (W.mv (W.no (dj := 23) rfl rfl rfl (W.no (dj := 23) rfl rfl rfl (W.no (dj := 23) rfl rfl rfl (W.ok (ok_pick_t rfl rfl) (W.mv (W.no (dj := 28) rfl rfl rfl (W.no (dj := 28) rfl rfl rfl (W.no (dj := 28) rfl rfl rfl (W.no (dj := 28) rfl rfl rfl (W.no (dj := 28) rfl rfl rfl ?_)))))))))))))
 refine W.ok (ok_pick_t rfl rfl) (W.nil (thn_n (WC.cond_t rfl rfl (WC.seq (WC.region (W.as (W.nil (thn_n (WC.ret (thn_r ?_))))))))))
 refine ⟨.inr rfl, [_], ⟨rfl, trivial⟩, [], sn9, ?_⟩
 refine congrArg Value.bool ?_
 exact (soundN_f hsn).symm

theorem tree_fc {G : GH} (cfan : Int) (cleaf : Int) (cbud : Int) (cslots : Int) (crest : Int) {v_l : Value} {l : List Nd} (h_l : SlR eNode G v_l l) (most : Int) (hm : 0 ≤ most ∧ most ≤ 60) :
    Fc Tryz.prog 11 [.agg #[.int .i64 cfan, .int .i64 cleaf, .int .i64 cbud, .int .i64 cslots, .int .i64 crest], v_l, .int .i64 most] G [] (fun v _ _ => v = .bool (treeN (⟨cfan, cleaf, cbud, cslots, crest⟩ : Cfg) l most)) := by
 obtain ⟨sa_l, sc_l, rfl⟩ := h_l.form
 have hl := h_l.len47
 refine Fc.intro (rs := [.tmp 6]) cl11 Tryz.func11 rfl Tryz.ntmps11 rfl rfl (fun w0 => ?_)
 refine WC.seq (WC.region (W.box (L := [.int .i64 _, .int .i64 _, .int .i64 _, .int .i64 _, .int .i64 _]) rfl rfl (fun b81 => (W.as (W.nil (thn_n (WC.seq (WC.seq (WC.region (W.ok (ok_loadB (i := 0) (vs := [.int .i64 _, .int .i64 _, .int .i64 _, .int .i64 _, .int .i64 _]) ty23 rfl rfl rfl rfl (by simp)) (W.qcall (rright25_fc _ _ _ _ _) rfl (W.ok (ok_not rfl) (W.mv ?_)))))))))))))
 refine W.sp 11 rfl (fun h10 => ?_) (fun h10 => ?_)
 ·refine W.no (dj := 11) rfl rfl h10 (W.no (dj := 11) rfl rfl h10 (W.no (dj := 11) rfl rfl h10 (W.ok (ok_pick_t rfl h10) (W.mv (W.no (dj := 16) rfl rfl rfl (W.no (dj := 16) rfl rfl rfl (W.no (dj := 16) rfl rfl rfl (W.no (dj := 16) rfl rfl rfl (W.ok (ok_pick_t rfl rfl) (W.nil (thn_n (WC.cond_t rfl rfl (WC.seq (WC.region ?_))))))))))))))
  refine W.as (W.nil (thn_n (WC.ret (thn_r ?_))))
  refine ⟨.inr rfl, [_], ⟨rfl, trivial⟩, [], sn9, ?_⟩
  refine congrArg Value.bool ?_
  exact (treeN_f fun h => by have h1 := h.1; simp [h1] at h10).symm
 refine W.yes (dj := 11) rfl rfl h10 (W.mv (W.yes (dj := 11) rfl rfl h10 (W.ok (ok_len sl24 h_l rfl) (W.yes (dj := 11) rfl rfl h10 (W.ok (ok_eql rfl rfl) (W.ok (ok_pick_f rfl h10) (W.mv ?_)))))))
 refine W.sp 16 rfl (fun h14 => ?_) (fun h14 => ?_)
 ·have p14 := of_decide_eq_true h14
  refine W.no (dj := 16) rfl rfl h14 (W.no (dj := 16) rfl rfl h14 (W.no (dj := 16) rfl rfl h14 (W.no (dj := 16) rfl rfl h14 (W.ok (ok_pick_t rfl h14) (W.nil (thn_n (WC.cond_t rfl rfl (WC.seq (WC.region (W.as (W.nil (thn_n (WC.ret (thn_r ?_))))))))))))))
  refine ⟨.inr rfl, [_], ⟨rfl, trivial⟩, [], sn9, ?_⟩
  refine congrArg Value.bool ?_
  exact (treeN_f fun h => by have h1 := h.2.1; omega).symm
 have p14 := of_decide_eq_false h14
 refine W.yes (dj := 16) rfl rfl h14 (W.mv (W.yes (dj := 16) rfl rfl h14 (W.mv (W.yes (dj := 16) rfl rfl h14 (W.qcall (light_fc h_l _ _ (by omega)) rfl (W.yes (dj := 16) rfl rfl h14 (W.ok (ok_not rfl) (W.ok (ok_pick_f rfl h14) (W.nil (thn_n ?_))))))))))
 refine WC.cond (b := _) rfl (fun h20 => ?_) (fun h20 => ?_)
 ·refine WC.seq (WC.region (W.as (W.nil (thn_n (WC.ret (thn_r ?_))))))
  refine ⟨.inr rfl, [_], ⟨rfl, trivial⟩, [], sn9, ?_⟩
  refine congrArg Value.bool ?_
  exact (treeN_f fun h => by have h1 := h.2.2.1; simp [h1] at h20).symm
 have hS : Sml l := sml_light (by simpa using h20) (by omega)
 refine WC.skip (thn_n (WC.seq (WC.seq (WC.region (W.as (W.nil (thn_n (WC.block ?_))))))))
 refine WC.loop (X := Nat) (fun i => [(7, .int .i64 ((i : Nat) : Int)), (3, .pointer (some ⟨b81, 0, none⟩)), (1, .slice sa_l l.length sc_l)]) (fun i _ Ml => Ml = [(b81, .cells (List.toArray [.int .i64 cfan, .int .i64 cleaf, .int .i64 cbud, .int .i64 cslots, .int .i64 crest]) 23 (0, 0))] ∧ i ≤ l.length ∧ ∀ j (h : j < l.length), j < i → l[j].slot = (j : Int) ∧ l[j].seen ≤ 1099511627776) (fun i => l.length - i) 0 ⟨eqv, eqv, eqv, trivial⟩ ?_ ?_
 ·exact ⟨rfl, by omega, fun j _ h => by omega⟩
 rintro i gG82 G82 _ hG82 ⟨rfl, hi, hi2⟩
 refine WC.seq (WC.seq (WC.region (W.mv (W.mv (W.ok (ok_len sl24 (h_l.mono hG82) rfl) (W.ok (ok_lss rfl rfl) (W.nil (thn_n ?_))))))))
 refine WC.cond (b := _) rfl (fun h25 => ?_) (fun h25 => ?_)
 ·have p25 := of_decide_eq_true h25
  refine WC.skip (thn_n (WC.seq (WC.block (WC.seq (WC.region (W.mv (W.mv ?_)))))))
  have q86 := (h_l.mono hG82).at (i := i) (by omega)
  refine match q86 with | ⟨_, he83, ⟨pa_n84, pc_n84, ka_n84, kc_n84, ma_n84, mc_n84, ra_n84, rc_n84, e_85, hp_n84, hk_n84, hm_n84, hr_n84, hok_n84⟩⟩ => ?_
  subst e_85
  refine W.ok (ok_indexAddr (i := i) sl24 ty47 (h_l.mono hG82) rfl rfl ⟨by omega, by omega⟩) (W.ok (ok_fieldE fd47_0 rfl he83.form) (W.ok (ok_loadE (vs := [.int .i64 _]) ty3 he83 rfl rfl rfl (by simp)) (W.mv (W.ok (ok_neq rfl rfl) (W.mv ?_)))))
  refine W.sp 35 rfl (fun h34 => ?_) (fun h34 => ?_)
  ·have p34 := nd_t h34
   refine W.no (dj := 35) rfl rfl h34 (W.no (dj := 35) rfl rfl h34 (W.no (dj := 35) rfl rfl h34 (W.no (dj := 35) rfl rfl h34 (W.no (dj := 35) rfl rfl h34 (W.no (dj := 35) rfl rfl h34 (W.ok (ok_pick_t rfl h34) (W.nil (thn_n (WC.cond_t rfl rfl (WC.seq (WC.region (W.as (W.nil (thn_n (WC.ret (blk_r (thn_r (thn_r (blk_r (thn_r ?_))))))))))))))))))))
   refine ⟨.inr rfl, [_], ⟨rfl, trivial⟩, [], sn9, ?_⟩
   refine congrArg Value.bool ?_
   exact (treeN_f fun h => by have h1 := (h.2.2.2 i (by omega)).1; omega).symm
  have p34 := nd_f h34
  refine W.yes (dj := 35) rfl rfl h34 (W.mv (W.yes (dj := 35) rfl rfl h34 (W.mv (W.yes (dj := 35) rfl rfl h34 ?_))))
  have q90 := (h_l.mono hG82).at (i := i) (by omega)
  refine match q90 with | ⟨_, he87, ⟨pa_n88, pc_n88, ka_n88, kc_n88, ma_n88, mc_n88, ra_n88, rc_n88, e_89, hp_n88, hk_n88, hm_n88, hr_n88, hok_n88⟩⟩ => ?_
  subst e_89
  refine W.ok (ok_indexAddr (i := i) sl24 ty47 (h_l.mono hG82) rfl rfl ⟨by omega, by omega⟩) (W.yes (dj := 35) rfl rfl h34 (W.ok (ok_fieldE fd47_7 rfl he87.form) (W.yes (dj := 35) rfl rfl h34 (W.ok (ok_loadE (vs := [.int .i64 _]) ty3 he87 rfl rfl rfl (by simp)) (W.yes (dj := 35) rfl rfl h34 (W.ok (ok_gtr rfl rfl) (W.ok (ok_pick_f rfl h34) (W.nil (thn_n ?_)))))))))
  refine WC.cond (b := _) rfl (fun h41 => ?_) (fun h41 => ?_)
  ·have p41 := of_decide_eq_true h41
   refine WC.seq (WC.region (W.as (W.nil (thn_n (WC.ret (blk_r (thn_r (thn_r (blk_r (thn_r ?_))))))))))
   refine ⟨.inr rfl, [_], ⟨rfl, trivial⟩, [], sn9, ?_⟩
   refine congrArg Value.bool ?_
   exact (treeN_f fun h => by have h1 := (h.2.2.2 i (by omega)).2; omega).symm
  have p41 := of_decide_eq_false h41
  refine WC.skip (blk_n (thn_n (WC.region (W.mv (W.ok (ok_add rfl rfl (by omega)) (W.as (W.nil (thn_n ?_))))))))
  exact ⟨Le.rfl, i + 1, ⟨eqv, eqv, eqv, trivial⟩, ⟨rfl, by omega, fun j h hj => by
      by_cases e : j = i
      · subst e; omega
      · exact hi2 j h (by omega)⟩, by omega⟩
 have p25 := of_decide_eq_false h25
 refine WC.exit (thn_x (thn_x (blk_h (thn_n (WC.seq (WC.region (W.ok (ok_loadB (i := 0) (vs := [.int .i64 _, .int .i64 _, .int .i64 _, .int .i64 _, .int .i64 _]) ty23 rfl rfl rfl rfl (by simp)) (W.mv (W.qcall (sound_fc _ _ _ _ _ (h_l.mono hG82) hS) rfl (W.as (W.nil (thn_n (WC.ret ?_)))))))))))))
 refine ⟨.inr rfl, [_], ⟨rfl, trivial⟩, [], sn9, ?_⟩
 refine congrArg Value.bool ?_
 exact (treeN_t (by simpa using h10) (by omega) (by simpa using h20) fun j h => hi2 j h (by omega)).symm

end Go.Proofs.YtebkfinhhpelbaaGreat
