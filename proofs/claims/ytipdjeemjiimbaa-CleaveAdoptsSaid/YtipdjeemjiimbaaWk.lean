/- Walks of functions on nodes. -/
import Derived.Test.YtipdjeemjiimbaaWj
import Derived.Test.YtipdjeemjiimbaaMk
namespace Go.Proofs.Ytipdjeemjiimbaa
open Go Go.Fw Go.RowKit
set_option maxRecDepth 100000
set_option maxHeartbeats 1600000
set_option linter.unusedVariables false
set_option linter.unusedSimpArgs false
set_option linter.unnecessarySimpa false
theorem light_fc {G : GH} {v_l : Value} {l : List Nd} (h_l : SlR eNode G v_l l) (n : Int) (m : Int) (hm : 0 ≤ m ∧ m ≤ 1073741824) :
    Fc Try.prog 112 [v_l, .int .i64 n, .int .i64 m] G [] (fun v _ _ => v = .bool (decide (Light l n m))) := by
  obtain ⟨sa_l, sc_l, rfl⟩ := h_l.form
  have hl := h_l.len47
  refine Fc.intro (rs := [.tmp 6]) cl112 Try.func112 rfl Try.ntmps112 rfl rfl (fun w0 => ?_)
  refine WC.seq ?_
  refine WC.region ?_
  refine W.as ?_
  refine W.nil (thn_n ?_)
  refine WC.seq ?_
  refine WC.seq ?_
  refine WC.region ?_
  refine W.mv ?_
  refine W.ok (ok_len sl148 h_l rfl) ?_
  refine W.mv ?_
  refine W.ok (ok_gtr rfl rfl) ?_
  refine W.nil (thn_n ?_)
  refine WC.cond (b := _) rfl (fun h11 => ?_) (fun h11 => ?_)
  · have p11 := of_decide_eq_true h11
    refine WC.seq ?_
    refine WC.region ?_
    refine W.as ?_
    refine W.nil (thn_n ?_)
    refine WC.ret (thn_r ?_)
    refine ⟨.inr rfl, [_], ⟨rfl, trivial⟩, [], List.nil_sublist _, ?_⟩
    refine congrArg Value.bool ?_
    exact (decide_eq_false fun h => by have := h.1; omega).symm
  · have p11 := of_decide_eq_false h11
    refine WC.skip (thn_n ?_)
    refine WC.seq ?_
    refine WC.seq ?_
    refine WC.region ?_
    refine W.as ?_
    refine W.nil (thn_n ?_)
    refine WC.block ?_
    refine WC.loop (X := Nat) (fun k => [(7, .int .i64 ((k : Nat) : Int)), (0, .slice sa_l l.length sc_l), (1, .int .i64 n), (2, .int .i64 m)]) (fun k _ Ml => Ml = [] ∧ ∀ i (h : i < l.length), i < k → l[i].light m) (fun k => l.length - k) 0 ⟨(by first | rfl | exact iv (by dsimp only; omega) | exact iv (by omega)), (by first | rfl | exact iv (by dsimp only; omega) | exact iv (by omega)), (by first | rfl | exact iv (by dsimp only; omega) | exact iv (by omega)), (by first | rfl | exact iv (by dsimp only; omega) | exact iv (by omega)), trivial⟩ ?_ ?_
    · exact ⟨rfl, fun i _ h => by omega⟩
    · rintro k gG1 G1 _ hG1 ⟨rfl, hk⟩
      refine WC.seq ?_
      refine WC.seq ?_
      refine WC.region ?_
      refine W.mv ?_
      refine W.mv ?_
      refine W.ok (ok_len sl148 (h_l.mono hG1) rfl) ?_
      refine W.ok (ok_lss rfl rfl) ?_
      refine W.nil (thn_n ?_)
      refine WC.cond (b := _) rfl (fun h15 => ?_) (fun h15 => ?_)
      · have p15 := of_decide_eq_true h15
        refine WC.skip (thn_n ?_)
        refine WC.seq ?_
        refine WC.block ?_
        refine WC.seq ?_
        refine WC.region ?_
        refine W.mv ?_
        refine W.mv ?_
        have q6 := (h_l.mono hG1).at (i := k) (by omega)
        refine match q6 with | ⟨_, he2, ⟨_, _, _, _, _, _, _, _, e_5, hp_n3, hk_n3, hm_n3, hr_n3, hok_n3⟩⟩ => ?_
        subst e_5
        refine W.ok (ok_indexAddr (i := k) sl148 ty101 (h_l.mono hG1) rfl rfl ⟨by omega, by omega⟩) ?_
        refine W.ok (ok_fieldE fd101_9 rfl he2.form) ?_
        refine W.ok (ok_loadE (vs := [.slice _ _ _]) ty22 he2 rfl rfl rfl (by simp)) ?_
        refine W.mv ?_
        refine W.qcall (longp_fc hr_n3 _ (by omega)) rfl ?_
        refine W.ok (ok_not rfl) ?_
        refine W.mv ?_
        refine W.sp 26 rfl (fun h25 => ?_) (fun h25 => ?_)
        · refine W.no (dj := 26) rfl rfl h25 ?_
          refine W.no (dj := 26) rfl rfl h25 ?_
          refine W.no (dj := 26) rfl rfl h25 ?_
          refine W.no (dj := 26) rfl rfl h25 ?_
          refine W.no (dj := 26) rfl rfl h25 ?_
          refine W.no (dj := 26) rfl rfl h25 ?_
          refine W.no (dj := 26) rfl rfl h25 ?_
          refine W.no (dj := 26) rfl rfl h25 ?_
          refine W.no (dj := 26) rfl rfl h25 ?_
          refine W.ok (ok_pick_t rfl h25) ?_
          refine W.mv ?_
          refine W.no (dj := 37) rfl rfl rfl ?_
          refine W.no (dj := 37) rfl rfl rfl ?_
          refine W.no (dj := 37) rfl rfl rfl ?_
          refine W.no (dj := 37) rfl rfl rfl ?_
          refine W.no (dj := 37) rfl rfl rfl ?_
          refine W.no (dj := 37) rfl rfl rfl ?_
          refine W.no (dj := 37) rfl rfl rfl ?_
          refine W.no (dj := 37) rfl rfl rfl ?_
          refine W.ok (ok_pick_t rfl rfl) ?_
          refine W.mv ?_
          refine W.no (dj := 47) rfl rfl rfl ?_
          refine W.no (dj := 47) rfl rfl rfl ?_
          refine W.no (dj := 47) rfl rfl rfl ?_
          refine W.no (dj := 47) rfl rfl rfl ?_
          refine W.no (dj := 47) rfl rfl rfl ?_
          refine W.no (dj := 47) rfl rfl rfl ?_
          refine W.no (dj := 47) rfl rfl rfl ?_
          refine W.no (dj := 47) rfl rfl rfl ?_
          refine W.ok (ok_pick_t rfl rfl) ?_
          refine W.mv ?_
          refine W.no (dj := 57) rfl rfl rfl ?_
          refine W.no (dj := 57) rfl rfl rfl ?_
          refine W.no (dj := 57) rfl rfl rfl ?_
          refine W.no (dj := 57) rfl rfl rfl ?_
          refine W.no (dj := 57) rfl rfl rfl ?_
          refine W.no (dj := 57) rfl rfl rfl ?_
          refine W.no (dj := 57) rfl rfl rfl ?_
          refine W.no (dj := 57) rfl rfl rfl ?_
          refine W.ok (ok_pick_t rfl rfl) ?_
          refine W.nil (thn_n ?_)
          refine WC.cond_t rfl rfl ?_
          refine WC.seq ?_
          refine WC.region ?_
          refine W.as ?_
          refine W.nil (thn_n ?_)
          refine WC.ret (blk_r (thn_r (thn_r (blk_r (thn_r ?_)))))
          refine ⟨.inr rfl, [_], ⟨rfl, trivial⟩, [], List.nil_sublist _, ?_⟩
          refine congrArg Value.bool ?_
          exact (decide_eq_false fun h => by obtain ⟨q1, q2, q3, q4, q5⟩ := h.2 k (by omega); first | omega | (simp at h25; omega) | (simp at h55; omega)).symm
        · refine W.yes (dj := 26) rfl rfl h25 ?_
          refine W.mv ?_
          refine W.yes (dj := 26) rfl rfl h25 ?_
          refine W.mv ?_
          refine W.yes (dj := 26) rfl rfl h25 ?_
          have q11 := (h_l.mono hG1).at (i := k) (by omega)
          refine match q11 with | ⟨_, he7, ⟨_, _, _, _, _, _, _, _, e_10, hp_n8, hk_n8, hm_n8, hr_n8, hok_n8⟩⟩ => ?_
          subst e_10
          refine W.ok (ok_indexAddr (i := k) sl148 ty101 (h_l.mono hG1) rfl rfl ⟨by omega, by omega⟩) ?_
          refine W.yes (dj := 26) rfl rfl h25 ?_
          refine W.ok (ok_fieldE fd101_2 rfl he7.form) ?_
          refine W.yes (dj := 26) rfl rfl h25 ?_
          refine W.ok (ok_loadE (vs := [.slice _ _ _]) ty61 he7 rfl rfl rfl (by simp)) ?_
          refine W.yes (dj := 26) rfl rfl h25 ?_
          refine W.mv ?_
          refine W.yes (dj := 26) rfl rfl h25 ?_
          refine W.qcall (rlong_fc hp_n8 _ (by omega)) rfl ?_
          refine W.yes (dj := 26) rfl rfl h25 ?_
          refine W.mv ?_
          refine W.yes (dj := 26) rfl rfl h25 ?_
          refine W.ok (ok_gtr rfl rfl) ?_
          refine W.ok (ok_pick_f rfl h25) ?_
          refine W.mv ?_
          refine W.sp 37 rfl (fun h35 => ?_) (fun h35 => ?_)
          · have p35 := of_decide_eq_true h35
            refine W.no (dj := 37) rfl rfl h35 ?_
            refine W.no (dj := 37) rfl rfl h35 ?_
            refine W.no (dj := 37) rfl rfl h35 ?_
            refine W.no (dj := 37) rfl rfl h35 ?_
            refine W.no (dj := 37) rfl rfl h35 ?_
            refine W.no (dj := 37) rfl rfl h35 ?_
            refine W.no (dj := 37) rfl rfl h35 ?_
            refine W.no (dj := 37) rfl rfl h35 ?_
            refine W.ok (ok_pick_t rfl h35) ?_
            refine W.mv ?_
            refine W.no (dj := 47) rfl rfl rfl ?_
            refine W.no (dj := 47) rfl rfl rfl ?_
            refine W.no (dj := 47) rfl rfl rfl ?_
            refine W.no (dj := 47) rfl rfl rfl ?_
            refine W.no (dj := 47) rfl rfl rfl ?_
            refine W.no (dj := 47) rfl rfl rfl ?_
            refine W.no (dj := 47) rfl rfl rfl ?_
            refine W.no (dj := 47) rfl rfl rfl ?_
            refine W.ok (ok_pick_t rfl rfl) ?_
            refine W.mv ?_
            refine W.no (dj := 57) rfl rfl rfl ?_
            refine W.no (dj := 57) rfl rfl rfl ?_
            refine W.no (dj := 57) rfl rfl rfl ?_
            refine W.no (dj := 57) rfl rfl rfl ?_
            refine W.no (dj := 57) rfl rfl rfl ?_
            refine W.no (dj := 57) rfl rfl rfl ?_
            refine W.no (dj := 57) rfl rfl rfl ?_
            refine W.no (dj := 57) rfl rfl rfl ?_
            refine W.ok (ok_pick_t rfl rfl) ?_
            refine W.nil (thn_n ?_)
            refine WC.cond_t rfl rfl ?_
            refine WC.seq ?_
            refine WC.region ?_
            refine W.as ?_
            refine W.nil (thn_n ?_)
            refine WC.ret (blk_r (thn_r (thn_r (blk_r (thn_r ?_)))))
            refine ⟨.inr rfl, [_], ⟨rfl, trivial⟩, [], List.nil_sublist _, ?_⟩
            refine congrArg Value.bool ?_
            exact (decide_eq_false fun h => by obtain ⟨q1, q2, q3, q4, q5⟩ := h.2 k (by omega); first | omega | (simp at h25; omega) | (simp at h55; omega)).symm
          · have p35 := of_decide_eq_false h35
            refine W.yes (dj := 37) rfl rfl h35 ?_
            refine W.mv ?_
            refine W.yes (dj := 37) rfl rfl h35 ?_
            refine W.mv ?_
            refine W.yes (dj := 37) rfl rfl h35 ?_
            have q16 := (h_l.mono hG1).at (i := k) (by omega)
            refine match q16 with | ⟨_, he12, ⟨_, _, _, _, _, _, _, _, e_15, hp_n13, hk_n13, hm_n13, hr_n13, hok_n13⟩⟩ => ?_
            subst e_15
            refine W.ok (ok_indexAddr (i := k) sl148 ty101 (h_l.mono hG1) rfl rfl ⟨by omega, by omega⟩) ?_
            refine W.yes (dj := 37) rfl rfl h35 ?_
            refine W.ok (ok_fieldE fd101_3 rfl he12.form) ?_
            refine W.yes (dj := 37) rfl rfl h35 ?_
            refine W.ok (ok_loadE (vs := [.slice _ _ _]) ty47 he12 rfl rfl rfl (by simp)) ?_
            refine W.yes (dj := 37) rfl rfl h35 ?_
            refine W.ok (ok_len sl47 hk_n13 rfl) ?_
            refine W.yes (dj := 37) rfl rfl h35 ?_
            refine W.mv ?_
            refine W.yes (dj := 37) rfl rfl h35 ?_
            refine W.ok (ok_gtr rfl rfl) ?_
            refine W.ok (ok_pick_f rfl h35) ?_
            refine W.mv ?_
            refine W.sp 47 rfl (fun h45 => ?_) (fun h45 => ?_)
            · have p45 := of_decide_eq_true h45
              refine W.no (dj := 47) rfl rfl h45 ?_
              refine W.no (dj := 47) rfl rfl h45 ?_
              refine W.no (dj := 47) rfl rfl h45 ?_
              refine W.no (dj := 47) rfl rfl h45 ?_
              refine W.no (dj := 47) rfl rfl h45 ?_
              refine W.no (dj := 47) rfl rfl h45 ?_
              refine W.no (dj := 47) rfl rfl h45 ?_
              refine W.no (dj := 47) rfl rfl h45 ?_
              refine W.ok (ok_pick_t rfl h45) ?_
              refine W.mv ?_
              refine W.no (dj := 57) rfl rfl rfl ?_
              refine W.no (dj := 57) rfl rfl rfl ?_
              refine W.no (dj := 57) rfl rfl rfl ?_
              refine W.no (dj := 57) rfl rfl rfl ?_
              refine W.no (dj := 57) rfl rfl rfl ?_
              refine W.no (dj := 57) rfl rfl rfl ?_
              refine W.no (dj := 57) rfl rfl rfl ?_
              refine W.no (dj := 57) rfl rfl rfl ?_
              refine W.ok (ok_pick_t rfl rfl) ?_
              refine W.nil (thn_n ?_)
              refine WC.cond_t rfl rfl ?_
              refine WC.seq ?_
              refine WC.region ?_
              refine W.as ?_
              refine W.nil (thn_n ?_)
              refine WC.ret (blk_r (thn_r (thn_r (blk_r (thn_r ?_)))))
              refine ⟨.inr rfl, [_], ⟨rfl, trivial⟩, [], List.nil_sublist _, ?_⟩
              refine congrArg Value.bool ?_
              exact (decide_eq_false fun h => by obtain ⟨q1, q2, q3, q4, q5⟩ := h.2 k (by omega); first | omega | (simp at h25; omega) | (simp at h55; omega)).symm
            · have p45 := of_decide_eq_false h45
              refine W.yes (dj := 47) rfl rfl h45 ?_
              refine W.mv ?_
              refine W.yes (dj := 47) rfl rfl h45 ?_
              refine W.mv ?_
              refine W.yes (dj := 47) rfl rfl h45 ?_
              have q21 := (h_l.mono hG1).at (i := k) (by omega)
              refine match q21 with | ⟨_, he17, ⟨_, _, _, _, _, _, _, _, e_20, hp_n18, hk_n18, hm_n18, hr_n18, hok_n18⟩⟩ => ?_
              subst e_20
              refine W.ok (ok_indexAddr (i := k) sl148 ty101 (h_l.mono hG1) rfl rfl ⟨by omega, by omega⟩) ?_
              refine W.yes (dj := 47) rfl rfl h45 ?_
              refine W.ok (ok_fieldE fd101_8 rfl he17.form) ?_
              refine W.yes (dj := 47) rfl rfl h45 ?_
              refine W.ok (ok_loadE (vs := [.slice _ _ _]) ty23 he17 rfl rfl rfl (by simp)) ?_
              refine W.yes (dj := 47) rfl rfl h45 ?_
              refine W.mv ?_
              refine W.yes (dj := 47) rfl rfl h45 ?_
              refine W.qcall (few_fc hm_n18 _ (by omega)) rfl ?_
              refine W.yes (dj := 47) rfl rfl h45 ?_
              refine W.ok (ok_not rfl) ?_
              refine W.ok (ok_pick_f rfl h45) ?_
              refine W.mv ?_
              refine W.sp 57 rfl (fun h55 => ?_) (fun h55 => ?_)
              · refine W.no (dj := 57) rfl rfl h55 ?_
                refine W.no (dj := 57) rfl rfl h55 ?_
                refine W.no (dj := 57) rfl rfl h55 ?_
                refine W.no (dj := 57) rfl rfl h55 ?_
                refine W.no (dj := 57) rfl rfl h55 ?_
                refine W.no (dj := 57) rfl rfl h55 ?_
                refine W.no (dj := 57) rfl rfl h55 ?_
                refine W.no (dj := 57) rfl rfl h55 ?_
                refine W.ok (ok_pick_t rfl h55) ?_
                refine W.nil (thn_n ?_)
                refine WC.cond_t rfl rfl ?_
                refine WC.seq ?_
                refine WC.region ?_
                refine W.as ?_
                refine W.nil (thn_n ?_)
                refine WC.ret (blk_r (thn_r (thn_r (blk_r (thn_r ?_)))))
                refine ⟨.inr rfl, [_], ⟨rfl, trivial⟩, [], List.nil_sublist _, ?_⟩
                refine congrArg Value.bool ?_
                exact (decide_eq_false fun h => by obtain ⟨q1, q2, q3, q4, q5⟩ := h.2 k (by omega); first | omega | (simp at h25; omega) | (simp at h55; omega)).symm
              · refine W.yes (dj := 57) rfl rfl h55 ?_
                refine W.mv ?_
                refine W.yes (dj := 57) rfl rfl h55 ?_
                refine W.mv ?_
                refine W.yes (dj := 57) rfl rfl h55 ?_
                have q26 := (h_l.mono hG1).at (i := k) (by omega)
                refine match q26 with | ⟨_, he22, ⟨_, _, _, _, _, _, _, _, e_25, hp_n23, hk_n23, hm_n23, hr_n23, hok_n23⟩⟩ => ?_
                subst e_25
                refine W.ok (ok_indexAddr (i := k) sl148 ty101 (h_l.mono hG1) rfl rfl ⟨by omega, by omega⟩) ?_
                refine W.yes (dj := 57) rfl rfl h55 ?_
                refine W.ok (ok_fieldE fd101_4 rfl he22.form) ?_
                refine W.yes (dj := 57) rfl rfl h55 ?_
                refine W.ok (ok_loadE (vs := [.string _]) ty9 he22 rfl rfl rfl (by simp)) ?_
                refine W.yes (dj := 57) rfl rfl h55 ?_
                refine W.ok (ok_lenS st9 rfl) ?_
                refine W.yes (dj := 57) rfl rfl h55 ?_
                refine W.mv ?_
                refine W.yes (dj := 57) rfl rfl h55 ?_
                refine W.ok (ok_gtr rfl rfl) ?_
                refine W.ok (ok_pick_f rfl h55) ?_
                refine W.nil (thn_n ?_)
                refine WC.cond (b := _) rfl (fun h65 => ?_) (fun h65 => ?_)
                · have p65 := of_decide_eq_true h65
                  refine WC.seq ?_
                  refine WC.region ?_
                  refine W.as ?_
                  refine W.nil (thn_n ?_)
                  refine WC.ret (blk_r (thn_r (thn_r (blk_r (thn_r ?_)))))
                  refine ⟨.inr rfl, [_], ⟨rfl, trivial⟩, [], List.nil_sublist _, ?_⟩
                  refine congrArg Value.bool ?_
                  exact (decide_eq_false fun h => by obtain ⟨q1, q2, q3, q4, q5⟩ := h.2 k (by omega); first | omega | (simp at h25; omega) | (simp at h55; omega)).symm
                · have p65 := of_decide_eq_false h65
                  refine WC.skip (blk_n (thn_n ?_))
                  refine WC.region ?_
                  refine W.mv ?_
                  refine W.ok (ok_add rfl rfl (by omega)) ?_
                  refine W.as ?_
                  refine W.nil (thn_n ?_)
                  exact ⟨Le.rfl, k + 1, ⟨(by first | rfl | exact iv (by dsimp only; omega) | exact iv (by omega)), (by first | rfl | exact iv (by dsimp only; omega) | exact iv (by omega)), (by first | rfl | exact iv (by dsimp only; omega) | exact iv (by omega)), (by first | rfl | exact iv (by dsimp only; omega) | exact iv (by omega)), trivial⟩, ⟨rfl, fun i h hi => by
      by_cases e : i = k
      · subst e; exact ⟨by simpa using h25, by omega, by omega, by simpa using h55, by omega⟩
      · exact hk i h (by omega)⟩, by omega⟩
      · have p15 := of_decide_eq_false h15
        refine WC.exit (thn_x (thn_x (blk_h (thn_n ?_))))
        refine WC.seq ?_
        refine WC.region ?_
        refine W.as ?_
        refine W.nil (thn_n ?_)
        refine WC.ret ?_
        refine ⟨.inr rfl, [_], ⟨rfl, trivial⟩, [], List.nil_sublist _, ?_⟩
        refine congrArg Value.bool ?_
        exact (decide_eq_true ⟨by omega, fun i h => hk i h (by omega)⟩).symm

theorem nsame_fc {G : GH} {cs_a : List Value} {a : Nd} (h_a : NodeC G cs_a a) {cs_b : List Value} {b : Nd} (h_b : NodeC G cs_b b) :
    Fc Try.prog 80 [.agg (List.toArray cs_a), .agg (List.toArray cs_b)] G [] (fun v _ _ => v = .bool (decide (a = b))) := by
  obtain ⟨pa_a, pc_a, ka_a, kc_a, ma_a, mc_a, ra_a, rc_a, rfl, hp_a, hk_a, hm_a, hr_a, hok_a⟩ := h_a
  obtain ⟨pa_b, pc_b, ka_b, kc_b, ma_b, mc_b, ra_b, rc_b, rfl, hp_b, hk_b, hm_b, hr_b, hok_b⟩ := h_b
  refine Fc.intro (rs := [.tmp 4]) cl80 Try.func80 rfl Try.ntmps80 rfl rfl (fun w0 => ?_)
  refine WC.seq ?_
  refine WC.region ?_
  refine W.box (L := [.int .i64 _, .int .i64 _, .slice _ _ _, .slice _ _ _, .string _, .bool _, .int .i64 _, .int .i64 _, .slice _ _ _, .slice _ _ _]) rfl rfl (fun b27 => ?_)
  refine W.box (L := [.int .i64 _, .int .i64 _, .slice _ _ _, .slice _ _ _, .string _, .bool _, .int .i64 _, .int .i64 _, .slice _ _ _, .slice _ _ _]) rfl rfl (fun b28 => ?_)
  refine W.as ?_
  refine W.nil (thn_n ?_)
  refine WC.seq ?_
  refine WC.seq ?_
  refine WC.region ?_
  refine W.ok (ok_fieldB fd101_0 rfl) ?_
  refine W.ok (ok_loadB (i := 1) (vs := [.int .i64 _]) ty3 rfl rfl rfl rfl (by simp)) ?_
  refine W.ok (ok_fieldB fd101_0 rfl) ?_
  refine W.ok (ok_loadB (i := 0) (vs := [.int .i64 _]) ty3 rfl rfl rfl rfl (by simp)) ?_
  refine W.ok (ok_neq rfl rfl) ?_
  refine W.mv ?_
  refine W.sp 10 rfl (fun h9 => ?_) (fun h9 => ?_)
  · have p9 := nd_t h9
    refine W.no (dj := 10) rfl rfl h9 ?_
    refine W.no (dj := 10) rfl rfl h9 ?_
    refine W.no (dj := 10) rfl rfl h9 ?_
    refine W.no (dj := 10) rfl rfl h9 ?_
    refine W.no (dj := 10) rfl rfl h9 ?_
    refine W.ok (ok_pick_t rfl h9) ?_
    refine W.mv ?_
    refine W.no (dj := 17) rfl rfl rfl ?_
    refine W.no (dj := 17) rfl rfl rfl ?_
    refine W.no (dj := 17) rfl rfl rfl ?_
    refine W.no (dj := 17) rfl rfl rfl ?_
    refine W.no (dj := 17) rfl rfl rfl ?_
    refine W.ok (ok_pick_t rfl rfl) ?_
    refine W.mv ?_
    refine W.no (dj := 24) rfl rfl rfl ?_
    refine W.no (dj := 24) rfl rfl rfl ?_
    refine W.no (dj := 24) rfl rfl rfl ?_
    refine W.no (dj := 24) rfl rfl rfl ?_
    refine W.no (dj := 24) rfl rfl rfl ?_
    refine W.ok (ok_pick_t rfl rfl) ?_
    refine W.mv ?_
    refine W.no (dj := 31) rfl rfl rfl ?_
    refine W.no (dj := 31) rfl rfl rfl ?_
    refine W.no (dj := 31) rfl rfl rfl ?_
    refine W.no (dj := 31) rfl rfl rfl ?_
    refine W.no (dj := 31) rfl rfl rfl ?_
    refine W.ok (ok_pick_t rfl rfl) ?_
    refine W.mv ?_
    refine W.no (dj := 38) rfl rfl rfl ?_
    refine W.no (dj := 38) rfl rfl rfl ?_
    refine W.no (dj := 38) rfl rfl rfl ?_
    refine W.no (dj := 38) rfl rfl rfl ?_
    refine W.no (dj := 38) rfl rfl rfl ?_
    refine W.ok (ok_pick_t rfl rfl) ?_
    refine W.nil (thn_n ?_)
    refine WC.cond_t rfl rfl ?_
    refine WC.seq ?_
    refine WC.region ?_
    refine W.as ?_
    refine W.nil (thn_n ?_)
    refine WC.ret (thn_r ?_)
    refine ⟨.inr rfl, [_], ⟨rfl, trivial⟩, [], List.nil_sublist _, ?_⟩
    refine congrArg Value.bool ?_
    rw [Bool.eq_iff_iff, decide_eq_true_iff]
    clear hp_a hk_a hm_a hr_a hok_a hp_b hk_b hm_b hr_b hok_b
    cases a; cases b
    simp_all [Str.b_inj]
  · have p9 := nd_f h9
    refine W.yes (dj := 10) rfl rfl h9 ?_
    refine W.ok (ok_fieldB fd101_1 rfl) ?_
    refine W.yes (dj := 10) rfl rfl h9 ?_
    refine W.ok (ok_loadB (i := 1) (vs := [.int .i64 _]) ty3 rfl rfl rfl rfl (by simp)) ?_
    refine W.yes (dj := 10) rfl rfl h9 ?_
    refine W.ok (ok_fieldB fd101_1 rfl) ?_
    refine W.yes (dj := 10) rfl rfl h9 ?_
    refine W.ok (ok_loadB (i := 0) (vs := [.int .i64 _]) ty3 rfl rfl rfl rfl (by simp)) ?_
    refine W.yes (dj := 10) rfl rfl h9 ?_
    refine W.ok (ok_neq rfl rfl) ?_
    refine W.ok (ok_pick_f rfl h9) ?_
    refine W.mv ?_
    refine W.sp 17 rfl (fun h15 => ?_) (fun h15 => ?_)
    · have p15 := nd_t h15
      refine W.no (dj := 17) rfl rfl h15 ?_
      refine W.no (dj := 17) rfl rfl h15 ?_
      refine W.no (dj := 17) rfl rfl h15 ?_
      refine W.no (dj := 17) rfl rfl h15 ?_
      refine W.no (dj := 17) rfl rfl h15 ?_
      refine W.ok (ok_pick_t rfl h15) ?_
      refine W.mv ?_
      refine W.no (dj := 24) rfl rfl rfl ?_
      refine W.no (dj := 24) rfl rfl rfl ?_
      refine W.no (dj := 24) rfl rfl rfl ?_
      refine W.no (dj := 24) rfl rfl rfl ?_
      refine W.no (dj := 24) rfl rfl rfl ?_
      refine W.ok (ok_pick_t rfl rfl) ?_
      refine W.mv ?_
      refine W.no (dj := 31) rfl rfl rfl ?_
      refine W.no (dj := 31) rfl rfl rfl ?_
      refine W.no (dj := 31) rfl rfl rfl ?_
      refine W.no (dj := 31) rfl rfl rfl ?_
      refine W.no (dj := 31) rfl rfl rfl ?_
      refine W.ok (ok_pick_t rfl rfl) ?_
      refine W.mv ?_
      refine W.no (dj := 38) rfl rfl rfl ?_
      refine W.no (dj := 38) rfl rfl rfl ?_
      refine W.no (dj := 38) rfl rfl rfl ?_
      refine W.no (dj := 38) rfl rfl rfl ?_
      refine W.no (dj := 38) rfl rfl rfl ?_
      refine W.ok (ok_pick_t rfl rfl) ?_
      refine W.nil (thn_n ?_)
      refine WC.cond_t rfl rfl ?_
      refine WC.seq ?_
      refine WC.region ?_
      refine W.as ?_
      refine W.nil (thn_n ?_)
      refine WC.ret (thn_r ?_)
      refine ⟨.inr rfl, [_], ⟨rfl, trivial⟩, [], List.nil_sublist _, ?_⟩
      refine congrArg Value.bool ?_
      rw [Bool.eq_iff_iff, decide_eq_true_iff]
      clear hp_a hk_a hm_a hr_a hok_a hp_b hk_b hm_b hr_b hok_b
      cases a; cases b
      simp_all [Str.b_inj]
    · have p15 := nd_f h15
      refine W.yes (dj := 17) rfl rfl h15 ?_
      refine W.ok (ok_fieldB fd101_4 rfl) ?_
      refine W.yes (dj := 17) rfl rfl h15 ?_
      refine W.ok (ok_loadB (i := 1) (vs := [.string _]) ty9 rfl rfl rfl rfl (by simp)) ?_
      refine W.yes (dj := 17) rfl rfl h15 ?_
      refine W.ok (ok_fieldB fd101_4 rfl) ?_
      refine W.yes (dj := 17) rfl rfl h15 ?_
      refine W.ok (ok_loadB (i := 0) (vs := [.string _]) ty9 rfl rfl rfl rfl (by simp)) ?_
      refine W.yes (dj := 17) rfl rfl h15 ?_
      refine W.ok (ok_neqS rfl rfl) ?_
      refine W.ok (ok_pick_f rfl h15) ?_
      refine W.mv ?_
      refine W.sp 24 rfl (fun h22 => ?_) (fun h22 => ?_)
      · have p22 := nd_t h22
        refine W.no (dj := 24) rfl rfl h22 ?_
        refine W.no (dj := 24) rfl rfl h22 ?_
        refine W.no (dj := 24) rfl rfl h22 ?_
        refine W.no (dj := 24) rfl rfl h22 ?_
        refine W.no (dj := 24) rfl rfl h22 ?_
        refine W.ok (ok_pick_t rfl h22) ?_
        refine W.mv ?_
        refine W.no (dj := 31) rfl rfl rfl ?_
        refine W.no (dj := 31) rfl rfl rfl ?_
        refine W.no (dj := 31) rfl rfl rfl ?_
        refine W.no (dj := 31) rfl rfl rfl ?_
        refine W.no (dj := 31) rfl rfl rfl ?_
        refine W.ok (ok_pick_t rfl rfl) ?_
        refine W.mv ?_
        refine W.no (dj := 38) rfl rfl rfl ?_
        refine W.no (dj := 38) rfl rfl rfl ?_
        refine W.no (dj := 38) rfl rfl rfl ?_
        refine W.no (dj := 38) rfl rfl rfl ?_
        refine W.no (dj := 38) rfl rfl rfl ?_
        refine W.ok (ok_pick_t rfl rfl) ?_
        refine W.nil (thn_n ?_)
        refine WC.cond_t rfl rfl ?_
        refine WC.seq ?_
        refine WC.region ?_
        refine W.as ?_
        refine W.nil (thn_n ?_)
        refine WC.ret (thn_r ?_)
        refine ⟨.inr rfl, [_], ⟨rfl, trivial⟩, [], List.nil_sublist _, ?_⟩
        refine congrArg Value.bool ?_
        rw [Bool.eq_iff_iff, decide_eq_true_iff]
        clear hp_a hk_a hm_a hr_a hok_a hp_b hk_b hm_b hr_b hok_b
        cases a; cases b
        simp_all [Str.b_inj]
      · have p22 := nd_f h22
        refine W.yes (dj := 24) rfl rfl h22 ?_
        refine W.ok (ok_fieldB fd101_5 rfl) ?_
        refine W.yes (dj := 24) rfl rfl h22 ?_
        refine W.ok (ok_loadB (i := 1) (vs := [.bool _]) ty4 rfl rfl rfl rfl (by simp)) ?_
        refine W.yes (dj := 24) rfl rfl h22 ?_
        refine W.ok (ok_fieldB fd101_5 rfl) ?_
        refine W.yes (dj := 24) rfl rfl h22 ?_
        refine W.ok (ok_loadB (i := 0) (vs := [.bool _]) ty4 rfl rfl rfl rfl (by simp)) ?_
        refine W.yes (dj := 24) rfl rfl h22 ?_
        refine W.ok (ok_neqB bo4 rfl rfl) ?_
        refine W.ok (ok_pick_f rfl h22) ?_
        refine W.mv ?_
        refine W.sp 31 rfl (fun h29 => ?_) (fun h29 => ?_)
        · refine W.no (dj := 31) rfl rfl h29 ?_
          refine W.no (dj := 31) rfl rfl h29 ?_
          refine W.no (dj := 31) rfl rfl h29 ?_
          refine W.no (dj := 31) rfl rfl h29 ?_
          refine W.no (dj := 31) rfl rfl h29 ?_
          refine W.ok (ok_pick_t rfl h29) ?_
          refine W.mv ?_
          refine W.no (dj := 38) rfl rfl rfl ?_
          refine W.no (dj := 38) rfl rfl rfl ?_
          refine W.no (dj := 38) rfl rfl rfl ?_
          refine W.no (dj := 38) rfl rfl rfl ?_
          refine W.no (dj := 38) rfl rfl rfl ?_
          refine W.ok (ok_pick_t rfl rfl) ?_
          refine W.nil (thn_n ?_)
          refine WC.cond_t rfl rfl ?_
          refine WC.seq ?_
          refine WC.region ?_
          refine W.as ?_
          refine W.nil (thn_n ?_)
          refine WC.ret (thn_r ?_)
          refine ⟨.inr rfl, [_], ⟨rfl, trivial⟩, [], List.nil_sublist _, ?_⟩
          refine congrArg Value.bool ?_
          rw [Bool.eq_iff_iff, decide_eq_true_iff]
          clear hp_a hk_a hm_a hr_a hok_a hp_b hk_b hm_b hr_b hok_b
          cases a; cases b
          simp_all [Str.b_inj]
        · refine W.yes (dj := 31) rfl rfl h29 ?_
          refine W.ok (ok_fieldB fd101_6 rfl) ?_
          refine W.yes (dj := 31) rfl rfl h29 ?_
          refine W.ok (ok_loadB (i := 1) (vs := [.int .i64 _]) ty3 rfl rfl rfl rfl (by simp)) ?_
          refine W.yes (dj := 31) rfl rfl h29 ?_
          refine W.ok (ok_fieldB fd101_6 rfl) ?_
          refine W.yes (dj := 31) rfl rfl h29 ?_
          refine W.ok (ok_loadB (i := 0) (vs := [.int .i64 _]) ty3 rfl rfl rfl rfl (by simp)) ?_
          refine W.yes (dj := 31) rfl rfl h29 ?_
          refine W.ok (ok_neq rfl rfl) ?_
          refine W.ok (ok_pick_f rfl h29) ?_
          refine W.mv ?_
          refine W.sp 38 rfl (fun h36 => ?_) (fun h36 => ?_)
          · have p36 := nd_t h36
            refine W.no (dj := 38) rfl rfl h36 ?_
            refine W.no (dj := 38) rfl rfl h36 ?_
            refine W.no (dj := 38) rfl rfl h36 ?_
            refine W.no (dj := 38) rfl rfl h36 ?_
            refine W.no (dj := 38) rfl rfl h36 ?_
            refine W.ok (ok_pick_t rfl h36) ?_
            refine W.nil (thn_n ?_)
            refine WC.cond_t rfl rfl ?_
            refine WC.seq ?_
            refine WC.region ?_
            refine W.as ?_
            refine W.nil (thn_n ?_)
            refine WC.ret (thn_r ?_)
            refine ⟨.inr rfl, [_], ⟨rfl, trivial⟩, [], List.nil_sublist _, ?_⟩
            refine congrArg Value.bool ?_
            rw [Bool.eq_iff_iff, decide_eq_true_iff]
            clear hp_a hk_a hm_a hr_a hok_a hp_b hk_b hm_b hr_b hok_b
            cases a; cases b
            simp_all [Str.b_inj]
          · have p36 := nd_f h36
            refine W.yes (dj := 38) rfl rfl h36 ?_
            refine W.ok (ok_fieldB fd101_7 rfl) ?_
            refine W.yes (dj := 38) rfl rfl h36 ?_
            refine W.ok (ok_loadB (i := 1) (vs := [.int .i64 _]) ty3 rfl rfl rfl rfl (by simp)) ?_
            refine W.yes (dj := 38) rfl rfl h36 ?_
            refine W.ok (ok_fieldB fd101_7 rfl) ?_
            refine W.yes (dj := 38) rfl rfl h36 ?_
            refine W.ok (ok_loadB (i := 0) (vs := [.int .i64 _]) ty3 rfl rfl rfl rfl (by simp)) ?_
            refine W.yes (dj := 38) rfl rfl h36 ?_
            refine W.ok (ok_neq rfl rfl) ?_
            refine W.ok (ok_pick_f rfl h36) ?_
            refine W.nil (thn_n ?_)
            refine WC.cond (b := _) rfl (fun h43 => ?_) (fun h43 => ?_)
            · have p43 := nd_t h43
              refine WC.seq ?_
              refine WC.region ?_
              refine W.as ?_
              refine W.nil (thn_n ?_)
              refine WC.ret (thn_r ?_)
              refine ⟨.inr rfl, [_], ⟨rfl, trivial⟩, [], List.nil_sublist _, ?_⟩
              refine congrArg Value.bool ?_
              rw [Bool.eq_iff_iff, decide_eq_true_iff]
              clear hp_a hk_a hm_a hr_a hok_a hp_b hk_b hm_b hr_b hok_b
              cases a; cases b
              simp_all [Str.b_inj]
            · have p43 := nd_f h43
              refine WC.skip (thn_n ?_)
              refine WC.seq ?_
              refine WC.region ?_
              refine W.ok (ok_fieldB fd101_2 rfl) ?_
              refine W.ok (ok_loadB (i := 1) (vs := [.slice _ _ _]) ty61 rfl rfl rfl rfl (by simp)) ?_
              refine W.ok (ok_fieldB fd101_2 rfl) ?_
              refine W.ok (ok_loadB (i := 0) (vs := [.slice _ _ _]) ty61 rfl rfl rfl rfl (by simp)) ?_
              refine W.qcall (same_fc hp_a hp_b) rfl ?_
              refine W.mv ?_
              refine W.sp 50 rfl (fun h49 => ?_) (fun h49 => ?_)
              · refine W.yes (dj := 50) rfl rfl h49 ?_
                refine W.ok (ok_fieldB fd101_3 rfl) ?_
                refine W.yes (dj := 50) rfl rfl h49 ?_
                refine W.ok (ok_loadB (i := 1) (vs := [.slice _ _ _]) ty47 rfl rfl rfl rfl (by simp)) ?_
                refine W.yes (dj := 50) rfl rfl h49 ?_
                refine W.ok (ok_fieldB fd101_3 rfl) ?_
                refine W.yes (dj := 50) rfl rfl h49 ?_
                refine W.ok (ok_loadB (i := 0) (vs := [.slice _ _ _]) ty47 rfl rfl rfl rfl (by simp)) ?_
                refine W.yes (dj := 50) rfl rfl h49 ?_
                refine W.qcall (ints_fc hk_a hk_b) rfl ?_
                refine W.ok (ok_pick_t rfl h49) ?_
                refine W.mv ?_
                refine W.sp 57 rfl (fun h55 => ?_) (fun h55 => ?_)
                · refine W.yes (dj := 57) rfl rfl h55 ?_
                  refine W.ok (ok_fieldB fd101_8 rfl) ?_
                  refine W.yes (dj := 57) rfl rfl h55 ?_
                  refine W.ok (ok_loadB (i := 1) (vs := [.slice _ _ _]) ty23 rfl rfl rfl rfl (by simp)) ?_
                  refine W.yes (dj := 57) rfl rfl h55 ?_
                  refine W.ok (ok_fieldB fd101_8 rfl) ?_
                  refine W.yes (dj := 57) rfl rfl h55 ?_
                  refine W.ok (ok_loadB (i := 0) (vs := [.slice _ _ _]) ty23 rfl rfl rfl rfl (by simp)) ?_
                  refine W.yes (dj := 57) rfl rfl h55 ?_
                  refine W.qcall (samem_fc hm_a hm_b) rfl ?_
                  refine W.ok (ok_pick_t rfl h55) ?_
                  refine W.mv ?_
                  refine W.sp 64 rfl (fun h62 => ?_) (fun h62 => ?_)
                  · refine W.yes (dj := 64) rfl rfl h62 ?_
                    refine W.ok (ok_fieldB fd101_9 rfl) ?_
                    refine W.yes (dj := 64) rfl rfl h62 ?_
                    refine W.ok (ok_loadB (i := 1) (vs := [.slice _ _ _]) ty22 rfl rfl rfl rfl (by simp)) ?_
                    refine W.yes (dj := 64) rfl rfl h62 ?_
                    refine W.ok (ok_fieldB fd101_9 rfl) ?_
                    refine W.yes (dj := 64) rfl rfl h62 ?_
                    refine W.ok (ok_loadB (i := 0) (vs := [.slice _ _ _]) ty22 rfl rfl rfl rfl (by simp)) ?_
                    refine W.yes (dj := 64) rfl rfl h62 ?_
                    refine W.qcall (samep_fc hr_a hr_b) rfl ?_
                    refine W.ok (ok_pick_t rfl h62) ?_
                    refine W.as ?_
                    refine W.nil (thn_n ?_)
                    refine WC.ret ?_
                    refine ⟨.inr rfl, [_], ⟨rfl, trivial⟩, [], List.nil_sublist _, ?_⟩
                    refine congrArg Value.bool ?_
                    rw [Bool.eq_iff_iff, decide_eq_true_iff]
                    clear hp_a hk_a hm_a hr_a hok_a hp_b hk_b hm_b hr_b hok_b
                    cases a; cases b
                    simp_all [Str.b_inj]
                  · refine W.no (dj := 64) rfl rfl h62 ?_
                    refine W.no (dj := 64) rfl rfl h62 ?_
                    refine W.no (dj := 64) rfl rfl h62 ?_
                    refine W.no (dj := 64) rfl rfl h62 ?_
                    refine W.no (dj := 64) rfl rfl h62 ?_
                    refine W.ok (ok_pick_f rfl h62) ?_
                    refine W.as ?_
                    refine W.nil (thn_n ?_)
                    refine WC.ret ?_
                    refine ⟨.inr rfl, [_], ⟨rfl, trivial⟩, [], List.nil_sublist _, ?_⟩
                    refine congrArg Value.bool ?_
                    rw [Bool.eq_iff_iff, decide_eq_true_iff]
                    clear hp_a hk_a hm_a hr_a hok_a hp_b hk_b hm_b hr_b hok_b
                    cases a; cases b
                    simp_all [Str.b_inj]
                · refine W.no (dj := 57) rfl rfl h55 ?_
                  refine W.no (dj := 57) rfl rfl h55 ?_
                  refine W.no (dj := 57) rfl rfl h55 ?_
                  refine W.no (dj := 57) rfl rfl h55 ?_
                  refine W.no (dj := 57) rfl rfl h55 ?_
                  refine W.ok (ok_pick_f rfl h55) ?_
                  refine W.mv ?_
                  refine W.no (dj := 64) rfl rfl rfl ?_
                  refine W.no (dj := 64) rfl rfl rfl ?_
                  refine W.no (dj := 64) rfl rfl rfl ?_
                  refine W.no (dj := 64) rfl rfl rfl ?_
                  refine W.no (dj := 64) rfl rfl rfl ?_
                  refine W.ok (ok_pick_f rfl rfl) ?_
                  refine W.as ?_
                  refine W.nil (thn_n ?_)
                  refine WC.ret ?_
                  refine ⟨.inr rfl, [_], ⟨rfl, trivial⟩, [], List.nil_sublist _, ?_⟩
                  refine congrArg Value.bool ?_
                  rw [Bool.eq_iff_iff, decide_eq_true_iff]
                  clear hp_a hk_a hm_a hr_a hok_a hp_b hk_b hm_b hr_b hok_b
                  cases a; cases b
                  simp_all [Str.b_inj]
              · refine W.no (dj := 50) rfl rfl h49 ?_
                refine W.no (dj := 50) rfl rfl h49 ?_
                refine W.no (dj := 50) rfl rfl h49 ?_
                refine W.no (dj := 50) rfl rfl h49 ?_
                refine W.no (dj := 50) rfl rfl h49 ?_
                refine W.ok (ok_pick_f rfl h49) ?_
                refine W.mv ?_
                refine W.no (dj := 57) rfl rfl rfl ?_
                refine W.no (dj := 57) rfl rfl rfl ?_
                refine W.no (dj := 57) rfl rfl rfl ?_
                refine W.no (dj := 57) rfl rfl rfl ?_
                refine W.no (dj := 57) rfl rfl rfl ?_
                refine W.ok (ok_pick_f rfl rfl) ?_
                refine W.mv ?_
                refine W.no (dj := 64) rfl rfl rfl ?_
                refine W.no (dj := 64) rfl rfl rfl ?_
                refine W.no (dj := 64) rfl rfl rfl ?_
                refine W.no (dj := 64) rfl rfl rfl ?_
                refine W.no (dj := 64) rfl rfl rfl ?_
                refine W.ok (ok_pick_f rfl rfl) ?_
                refine W.as ?_
                refine W.nil (thn_n ?_)
                refine WC.ret ?_
                refine ⟨.inr rfl, [_], ⟨rfl, trivial⟩, [], List.nil_sublist _, ?_⟩
                refine congrArg Value.bool ?_
                rw [Bool.eq_iff_iff, decide_eq_true_iff]
                clear hp_a hk_a hm_a hr_a hok_a hp_b hk_b hm_b hr_b hok_b
                cases a; cases b
                simp_all [Str.b_inj]

theorem clones_fc {G : GH} {v_a : Value} {a : List Str} (h_a : SlR eStr G v_a a) :
    Fc Try.prog 137 [v_a] G [] (fun v G' M' => M' = [] ∧ ∃ u0, v = u0 ∧ SlR eStr G' u0 (a)) := by
  obtain ⟨sa_a, sc_a, rfl⟩ := h_a.form
  have ha := h_a.bytes
  refine Fc.intro (rs := [.tmp 2]) cl137 Try.func137 rfl Try.ntmps137 rfl rfl (fun w0 => ?_)
  refine WC.seq ?_
  refine WC.region ?_
  refine W.as ?_
  refine W.nil (thn_n ?_)
  refine WC.seq ?_
  refine WC.seq ?_
  refine WC.region ?_
  refine W.mv ?_
  refine W.ok (ok_eqlNil sl61 rfl rfl) ?_
  refine W.nil (thn_n ?_)
  refine WC.cond (b := _) rfl (fun h4 => ?_) (fun h4 => ?_)
  · have hn := SlR.isNone h_a h4
    subst hn
    refine WC.seq ?_
    refine WC.region ?_
    refine W.as ?_
    refine W.nil (thn_n ?_)
    refine WC.ret (thn_r ?_)
    refine ⟨.inr rfl, [_], ⟨rfl, trivial⟩, [], List.nil_sublist _, ?_⟩
    refine ⟨rfl, _, rfl, ?_⟩
    · exact SlR.nil
  · refine WC.skip (thn_n ?_)
    refine WC.seq ?_
    refine WC.region ?_
    refine W.lit0 (e := eStr) sl61 ty9 zr9 rfl (fun v29 Ms30 ho31 => ?_)
    refine W.mv ?_
    refine W.app (e := eStr) sl61 ty9 zr9 rfl by9 rfl rfl (ho31) (h_a) (List.Perm.refl _) (by simpa using ha) (fun v32 Ms33 ho34 => ?_)
    refine W.as ?_
    refine W.nil (thn_n ?_)
    refine WC.giveO ho34 (List.Perm.refl _) (fun G35 hG35 hv35 => ?_)
    refine WC.ret ?_
    refine ⟨.inr rfl, [_], ⟨rfl, trivial⟩, [], List.nil_sublist _, ?_⟩
    refine ⟨rfl, _, rfl, ?_⟩
    · exact hv35

theorem clonei_fc {G : GH} {v_a : Value} {a : List Int} (h_a : SlR eInt G v_a a) :
    Fc Try.prog 139 [v_a] G [] (fun v G' M' => M' = [] ∧ ∃ u0, v = u0 ∧ SlR eInt G' u0 (a)) := by
  obtain ⟨sa_a, sc_a, rfl⟩ := h_a.form
  have ha := h_a.bytes
  refine Fc.intro (rs := [.tmp 2]) cl139 Try.func139 rfl Try.ntmps139 rfl rfl (fun w0 => ?_)
  refine WC.seq ?_
  refine WC.region ?_
  refine W.as ?_
  refine W.nil (thn_n ?_)
  refine WC.seq ?_
  refine WC.seq ?_
  refine WC.region ?_
  refine W.mv ?_
  refine W.ok (ok_eqlNil sl47 rfl rfl) ?_
  refine W.nil (thn_n ?_)
  refine WC.cond (b := _) rfl (fun h4 => ?_) (fun h4 => ?_)
  · have hn := SlR.isNone h_a h4
    subst hn
    refine WC.seq ?_
    refine WC.region ?_
    refine W.as ?_
    refine W.nil (thn_n ?_)
    refine WC.ret (thn_r ?_)
    refine ⟨.inr rfl, [_], ⟨rfl, trivial⟩, [], List.nil_sublist _, ?_⟩
    refine ⟨rfl, _, rfl, ?_⟩
    · exact SlR.nil
  · refine WC.skip (thn_n ?_)
    refine WC.seq ?_
    refine WC.region ?_
    refine W.lit0 (e := eInt) sl47 ty3 zr3 rfl (fun v36 Ms37 ho38 => ?_)
    refine W.mv ?_
    refine W.app (e := eInt) sl47 ty3 zr3 rfl by3 rfl rfl (ho38) (h_a) (List.Perm.refl _) (by simpa using ha) (fun v39 Ms40 ho41 => ?_)
    refine W.as ?_
    refine W.nil (thn_n ?_)
    refine WC.giveO ho41 (List.Perm.refl _) (fun G42 hG42 hv42 => ?_)
    refine WC.ret ?_
    refine ⟨.inr rfl, [_], ⟨rfl, trivial⟩, [], List.nil_sublist _, ?_⟩
    refine ⟨rfl, _, rfl, ?_⟩
    · exact hv42

theorem ncopy_fc {G : GH} {cs_a : List Value} {a : Nd} (h_a : NodeC G cs_a a) :
    Fc Try.prog 161 [.agg (List.toArray cs_a)] G [] (fun v G' M' => M' = [] ∧ ∃ u0, v = .agg (List.toArray u0) ∧ NodeC G' u0 (a)) := by
  obtain ⟨pa_a, pc_a, ka_a, kc_a, ma_a, mc_a, ra_a, rc_a, rfl, hp_a, hk_a, hm_a, hr_a, hok_a⟩ := h_a
  refine Fc.intro (rs := [.cell 2 101]) cl161 Try.func161 rfl Try.ntmps161 rfl rfl (fun w0 => ?_)
  refine WC.seq ?_
  refine WC.region ?_
  refine W.box (L := [.int .i64 _, .int .i64 _, .slice _ _ _, .slice _ _ _, .string _, .bool _, .int .i64 _, .int .i64 _, .slice _ _ _, .slice _ _ _]) rfl rfl (fun b43 => ?_)
  refine W.alloc zr101 (fun b44 => ?_)
  refine W.nil (thn_n ?_)
  refine WC.seq ?_
  refine WC.drawW _ (((List.Sublist.refl _).cons _).cons_cons _) mix (by rintro _ _ _ _ ⟨h | h, _⟩ <;> cases h) ?_
  refine WD.take 0 rfl rfl rfl (by kernel_rfl) (by kernel_rfl) (by kernel_rfl) (ok_fieldB fd101_2 rfl) ?_
  refine WD.take 3 rfl rfl rfl (by kernel_rfl) (by kernel_rfl) (by kernel_rfl) (ok_fieldB fd101_3 rfl) ?_
  refine WD.any [1, 4] (by kernel_rfl) rfl ⟨⟨_, rfl, rfl, ?_⟩, ⟨_, rfl, rfl, ?_⟩, trivial⟩
  · refine W.ok (ok_loadB (i := 1) (vs := [.slice _ _ _]) ty61 rfl rfl rfl rfl (by simp)) ?_
    refine W.nil ⟨Le.rfl, ((List.Sublist.refl _).cons _).cons_cons _, _, ((List.Sublist.refl _).cons _).cons_cons _, List.Sublist.refl _, ?_⟩
    refine WD.any [2, 4] (by kernel_rfl) rfl ⟨⟨_, rfl, rfl, ?_⟩, ⟨_, rfl, rfl, ?_⟩, trivial⟩
    · refine W.call (Mp := []) (clones_fc hp_a) rfl (List.Perm.refl _) ?_
      intro _ G45 _ hG45 q47
      refine match q47 with | ⟨e_48, _, e_49, hv46⟩ => ?_
      subst e_48
      subst e_49
      have q51 := hv46.form
      refine match q51 with | ⟨sa_hv46, sc_hv46, e_50⟩ => ?_
      subst e_50
      refine W.nil ⟨hG45, ((List.Sublist.refl _).cons _).cons_cons _, _, ((List.Sublist.refl _).cons _).cons_cons _, List.Sublist.refl _, ?_⟩
      refine WD.any [4] (by kernel_rfl) rfl ⟨⟨_, rfl, rfl, ?_⟩, trivial⟩
      refine W.ok (ok_loadB (i := 1) (vs := [.slice _ _ _]) ty47 rfl rfl rfl rfl (by simp)) ?_
      refine W.nil ⟨Le.rfl, ((List.Sublist.refl _).cons _).cons_cons _, _, ((List.Sublist.refl _).cons _).cons_cons _, List.Sublist.refl _, ?_⟩
      refine WD.take 6 rfl rfl rfl (by kernel_rfl) (by kernel_rfl) (by kernel_rfl) (ok_fieldB fd101_2 rfl) ?_
      refine WD.any [5] (by kernel_rfl) rfl ⟨⟨_, rfl, rfl, ?_⟩, trivial⟩
      refine W.call (Mp := []) (clonei_fc (hk_a.mono hG45)) rfl (List.Perm.refl _) ?_
      intro _ G52 _ hG52 q54
      refine match q54 with | ⟨e_55, _, e_56, hv53⟩ => ?_
      subst e_55
      subst e_56
      have q58 := hv53.form
      refine match q58 with | ⟨sa_hv53, sc_hv53, e_57⟩ => ?_
      subst e_57
      refine W.nil ⟨hG52, ((List.Sublist.refl _).cons _).cons_cons _, _, ((List.Sublist.refl _).cons _).cons_cons _, List.Sublist.refl _, ?_⟩
      refine WD.any [7] (by kernel_rfl) rfl ⟨⟨_, rfl, rfl, ?_⟩, trivial⟩
      refine W.store (i := 1) (vs := [.slice _ _ _]) (L' := [.int .i64 _, .int .i64 _, .slice _ _ _, .slice _ _ _, .string _, .bool _, .int .i64 _, .int .i64 _, .slice _ _ _, .slice _ _ _]) ty61 rfl rfl rfl rfl rfl rfl rfl rfl ?_
      refine W.nil ⟨Le.rfl, ((List.Sublist.refl _).cons _).cons_cons _, _, ((List.Sublist.refl _).cons _).cons_cons _, List.Sublist.refl _, ?_⟩
      refine WD.take 8 rfl rfl rfl (by kernel_rfl) (by kernel_rfl) (by kernel_rfl) (ok_fieldB fd101_3 rfl) ?_
      refine WD.any [9] (by kernel_rfl) rfl ⟨⟨_, rfl, rfl, ?_⟩, trivial⟩
      refine W.store (i := 1) (vs := [.slice _ _ _]) (L' := [.int .i64 _, .int .i64 _, .slice _ _ _, .slice _ _ _, .string _, .bool _, .int .i64 _, .int .i64 _, .slice _ _ _, .slice _ _ _]) ty47 rfl rfl rfl rfl rfl rfl rfl rfl ?_
      refine W.nil ⟨Le.rfl, ((List.Sublist.refl _).cons _).cons_cons _, _, ((List.Sublist.refl _).cons _).cons_cons _, List.Sublist.refl _, ?_⟩
      refine WD.done (by kernel_rfl) (thn_n ?_)
      refine WC.seq ?_
      refine WC.drawW _ (((List.Sublist.refl _).cons _).cons_cons _) mix (by rintro _ _ _ _ ⟨h | h, _⟩ <;> cases h) ?_
      refine WD.take 0 rfl rfl rfl (by kernel_rfl) (by kernel_rfl) (by kernel_rfl) (ok_fieldB fd101_8 rfl) ?_
      refine WD.take 3 rfl rfl rfl (by kernel_rfl) (by kernel_rfl) (by kernel_rfl) (ok_fieldB fd101_9 rfl) ?_
      refine WD.any [1, 4] (by kernel_rfl) rfl ⟨⟨_, rfl, rfl, ?_⟩, ⟨_, rfl, rfl, ?_⟩, trivial⟩
      · refine W.ok (ok_loadB (i := 1) (vs := [.slice _ _ _]) ty23 rfl rfl rfl rfl (by simp)) ?_
        refine W.nil ⟨Le.rfl, ((List.Sublist.refl _).cons _).cons_cons _, _, ((List.Sublist.refl _).cons _).cons_cons _, List.Sublist.refl _, ?_⟩
        refine WD.any [2, 4] (by kernel_rfl) rfl ⟨⟨_, rfl, rfl, ?_⟩, ⟨_, rfl, rfl, ?_⟩, trivial⟩
        · refine W.call (Mp := []) (clonem_fc (hm_a.mono (hG45.trans hG52))) rfl (List.Perm.refl _) ?_
          intro _ G59 _ hG59 q61
          refine match q61 with | ⟨e_62, _, e_63, hv60⟩ => ?_
          subst e_62
          subst e_63
          have q65 := hv60.form
          refine match q65 with | ⟨sa_hv60, sc_hv60, e_64⟩ => ?_
          subst e_64
          refine W.nil ⟨hG59, ((List.Sublist.refl _).cons _).cons_cons _, _, ((List.Sublist.refl _).cons _).cons_cons _, List.Sublist.refl _, ?_⟩
          refine WD.any [4] (by kernel_rfl) rfl ⟨⟨_, rfl, rfl, ?_⟩, trivial⟩
          refine W.ok (ok_loadB (i := 1) (vs := [.slice _ _ _]) ty22 rfl rfl rfl rfl (by simp)) ?_
          refine W.nil ⟨Le.rfl, ((List.Sublist.refl _).cons _).cons_cons _, _, ((List.Sublist.refl _).cons _).cons_cons _, List.Sublist.refl _, ?_⟩
          refine WD.take 6 rfl rfl rfl (by kernel_rfl) (by kernel_rfl) (by kernel_rfl) (ok_fieldB fd101_8 rfl) ?_
          refine WD.any [5] (by kernel_rfl) rfl ⟨⟨_, rfl, rfl, ?_⟩, trivial⟩
          refine W.call (Mp := []) (clonep_fc (hr_a.mono ((hG45.trans hG52).trans hG59))) rfl (List.Perm.refl _) ?_
          intro _ G66 _ hG66 q68
          refine match q68 with | ⟨e_69, _, e_70, hv67⟩ => ?_
          subst e_69
          subst e_70
          have q72 := hv67.form
          refine match q72 with | ⟨sa_hv67, sc_hv67, e_71⟩ => ?_
          subst e_71
          refine W.nil ⟨hG66, ((List.Sublist.refl _).cons _).cons_cons _, _, ((List.Sublist.refl _).cons _).cons_cons _, List.Sublist.refl _, ?_⟩
          refine WD.any [7] (by kernel_rfl) rfl ⟨⟨_, rfl, rfl, ?_⟩, trivial⟩
          refine W.store (i := 1) (vs := [.slice _ _ _]) (L' := [.int .i64 _, .int .i64 _, .slice _ _ _, .slice _ _ _, .string _, .bool _, .int .i64 _, .int .i64 _, .slice _ _ _, .slice _ _ _]) ty23 rfl rfl rfl rfl rfl rfl rfl rfl ?_
          refine W.nil ⟨Le.rfl, ((List.Sublist.refl _).cons _).cons_cons _, _, ((List.Sublist.refl _).cons _).cons_cons _, List.Sublist.refl _, ?_⟩
          refine WD.take 8 rfl rfl rfl (by kernel_rfl) (by kernel_rfl) (by kernel_rfl) (ok_fieldB fd101_9 rfl) ?_
          refine WD.any [9] (by kernel_rfl) rfl ⟨⟨_, rfl, rfl, ?_⟩, trivial⟩
          refine W.store (i := 1) (vs := [.slice _ _ _]) (L' := [.int .i64 _, .int .i64 _, .slice _ _ _, .slice _ _ _, .string _, .bool _, .int .i64 _, .int .i64 _, .slice _ _ _, .slice _ _ _]) ty22 rfl rfl rfl rfl rfl rfl rfl rfl ?_
          refine W.nil ⟨Le.rfl, ((List.Sublist.refl _).cons _).cons_cons _, _, ((List.Sublist.refl _).cons _).cons_cons _, List.Sublist.refl _, ?_⟩
          refine WD.done (by kernel_rfl) (thn_n ?_)
          refine WC.seq ?_
          refine WC.region ?_
          refine W.ok (ok_loadB (i := 1) (vs := [.int .i64 _, .int .i64 _, .slice _ _ _, .slice _ _ _, .string _, .bool _, .int .i64 _, .int .i64 _, .slice _ _ _, .slice _ _ _]) ty101 rfl rfl rfl rfl (by simp)) ?_
          refine W.store (i := 0) (vs := [.int .i64 _, .int .i64 _, .slice _ _ _, .slice _ _ _, .string _, .bool _, .int .i64 _, .int .i64 _, .slice _ _ _, .slice _ _ _]) (L' := [.int .i64 _, .int .i64 _, .slice _ _ _, .slice _ _ _, .string _, .bool _, .int .i64 _, .int .i64 _, .slice _ _ _, .slice _ _ _]) ty101 rfl rfl rfl rfl rfl rfl rfl rfl ?_
          refine W.nil (thn_n ?_)
          refine WC.ret ?_
          refine ⟨.inr rfl, [_], ⟨⟨_, _, _, _, _, rfl, nthM_mem (i := 0) rfl, ty101, (by simp), rfl, rfl⟩, trivial⟩, [], List.nil_sublist _, ?_⟩
          refine ⟨rfl, _, rfl, ?_⟩
          · exact ⟨_, _, _, _, _, _, _, _, rfl, (hv46.mono ((hG52.trans hG59).trans hG66)), (hv53.mono (hG59.trans hG66)), (hv60.mono hG66), hv67, (by assumption)⟩
        · refine W.ok (ok_loadB (i := 1) (vs := [.slice _ _ _]) ty22 rfl rfl rfl rfl (by simp)) ?_
          refine W.nil ⟨Le.rfl, ((List.Sublist.refl _).cons _).cons_cons _, _, ((List.Sublist.refl _).cons _).cons_cons _, List.Sublist.refl _, ?_⟩
          refine WD.any [2] (by kernel_rfl) rfl ⟨⟨_, rfl, rfl, ?_⟩, trivial⟩
          refine W.call (Mp := []) (clonem_fc (hm_a.mono (hG45.trans hG52))) rfl (List.Perm.refl _) ?_
          intro _ G73 _ hG73 q75
          refine match q75 with | ⟨e_76, _, e_77, hv74⟩ => ?_
          subst e_76
          subst e_77
          have q79 := hv74.form
          refine match q79 with | ⟨sa_hv74, sc_hv74, e_78⟩ => ?_
          subst e_78
          refine W.nil ⟨hG73, ((List.Sublist.refl _).cons _).cons_cons _, _, ((List.Sublist.refl _).cons _).cons_cons _, List.Sublist.refl _, ?_⟩
          refine WD.take 6 rfl rfl rfl (by kernel_rfl) (by kernel_rfl) (by kernel_rfl) (ok_fieldB fd101_8 rfl) ?_
          refine WD.any [5] (by kernel_rfl) rfl ⟨⟨_, rfl, rfl, ?_⟩, trivial⟩
          refine W.call (Mp := []) (clonep_fc (hr_a.mono ((hG45.trans hG52).trans hG73))) rfl (List.Perm.refl _) ?_
          intro _ G80 _ hG80 q82
          refine match q82 with | ⟨e_83, _, e_84, hv81⟩ => ?_
          subst e_83
          subst e_84
          have q86 := hv81.form
          refine match q86 with | ⟨sa_hv81, sc_hv81, e_85⟩ => ?_
          subst e_85
          refine W.nil ⟨hG80, ((List.Sublist.refl _).cons _).cons_cons _, _, ((List.Sublist.refl _).cons _).cons_cons _, List.Sublist.refl _, ?_⟩
          refine WD.any [7] (by kernel_rfl) rfl ⟨⟨_, rfl, rfl, ?_⟩, trivial⟩
          refine W.store (i := 1) (vs := [.slice _ _ _]) (L' := [.int .i64 _, .int .i64 _, .slice _ _ _, .slice _ _ _, .string _, .bool _, .int .i64 _, .int .i64 _, .slice _ _ _, .slice _ _ _]) ty23 rfl rfl rfl rfl rfl rfl rfl rfl ?_
          refine W.nil ⟨Le.rfl, ((List.Sublist.refl _).cons _).cons_cons _, _, ((List.Sublist.refl _).cons _).cons_cons _, List.Sublist.refl _, ?_⟩
          refine WD.take 8 rfl rfl rfl (by kernel_rfl) (by kernel_rfl) (by kernel_rfl) (ok_fieldB fd101_9 rfl) ?_
          refine WD.any [9] (by kernel_rfl) rfl ⟨⟨_, rfl, rfl, ?_⟩, trivial⟩
          refine W.store (i := 1) (vs := [.slice _ _ _]) (L' := [.int .i64 _, .int .i64 _, .slice _ _ _, .slice _ _ _, .string _, .bool _, .int .i64 _, .int .i64 _, .slice _ _ _, .slice _ _ _]) ty22 rfl rfl rfl rfl rfl rfl rfl rfl ?_
          refine W.nil ⟨Le.rfl, ((List.Sublist.refl _).cons _).cons_cons _, _, ((List.Sublist.refl _).cons _).cons_cons _, List.Sublist.refl _, ?_⟩
          refine WD.done (by kernel_rfl) (thn_n ?_)
          refine WC.seq ?_
          refine WC.region ?_
          refine W.ok (ok_loadB (i := 1) (vs := [.int .i64 _, .int .i64 _, .slice _ _ _, .slice _ _ _, .string _, .bool _, .int .i64 _, .int .i64 _, .slice _ _ _, .slice _ _ _]) ty101 rfl rfl rfl rfl (by simp)) ?_
          refine W.store (i := 0) (vs := [.int .i64 _, .int .i64 _, .slice _ _ _, .slice _ _ _, .string _, .bool _, .int .i64 _, .int .i64 _, .slice _ _ _, .slice _ _ _]) (L' := [.int .i64 _, .int .i64 _, .slice _ _ _, .slice _ _ _, .string _, .bool _, .int .i64 _, .int .i64 _, .slice _ _ _, .slice _ _ _]) ty101 rfl rfl rfl rfl rfl rfl rfl rfl ?_
          refine W.nil (thn_n ?_)
          refine WC.ret ?_
          refine ⟨.inr rfl, [_], ⟨⟨_, _, _, _, _, rfl, nthM_mem (i := 0) rfl, ty101, (by simp), rfl, rfl⟩, trivial⟩, [], List.nil_sublist _, ?_⟩
          refine ⟨rfl, _, rfl, ?_⟩
          · exact ⟨_, _, _, _, _, _, _, _, rfl, (hv46.mono ((hG52.trans hG73).trans hG80)), (hv53.mono (hG73.trans hG80)), (hv74.mono hG80), hv81, (by assumption)⟩
      · refine W.ok (ok_loadB (i := 1) (vs := [.slice _ _ _]) ty22 rfl rfl rfl rfl (by simp)) ?_
        refine W.nil ⟨Le.rfl, ((List.Sublist.refl _).cons _).cons_cons _, _, ((List.Sublist.refl _).cons _).cons_cons _, List.Sublist.refl _, ?_⟩
        refine WD.any [1] (by kernel_rfl) rfl ⟨⟨_, rfl, rfl, ?_⟩, trivial⟩
        refine W.ok (ok_loadB (i := 1) (vs := [.slice _ _ _]) ty23 rfl rfl rfl rfl (by simp)) ?_
        refine W.nil ⟨Le.rfl, ((List.Sublist.refl _).cons _).cons_cons _, _, ((List.Sublist.refl _).cons _).cons_cons _, List.Sublist.refl _, ?_⟩
        refine WD.any [2] (by kernel_rfl) rfl ⟨⟨_, rfl, rfl, ?_⟩, trivial⟩
        refine W.call (Mp := []) (clonem_fc (hm_a.mono (hG45.trans hG52))) rfl (List.Perm.refl _) ?_
        intro _ G87 _ hG87 q89
        refine match q89 with | ⟨e_90, _, e_91, hv88⟩ => ?_
        subst e_90
        subst e_91
        have q93 := hv88.form
        refine match q93 with | ⟨sa_hv88, sc_hv88, e_92⟩ => ?_
        subst e_92
        refine W.nil ⟨hG87, ((List.Sublist.refl _).cons _).cons_cons _, _, ((List.Sublist.refl _).cons _).cons_cons _, List.Sublist.refl _, ?_⟩
        refine WD.take 6 rfl rfl rfl (by kernel_rfl) (by kernel_rfl) (by kernel_rfl) (ok_fieldB fd101_8 rfl) ?_
        refine WD.any [5] (by kernel_rfl) rfl ⟨⟨_, rfl, rfl, ?_⟩, trivial⟩
        refine W.call (Mp := []) (clonep_fc (hr_a.mono ((hG45.trans hG52).trans hG87))) rfl (List.Perm.refl _) ?_
        intro _ G94 _ hG94 q96
        refine match q96 with | ⟨e_97, _, e_98, hv95⟩ => ?_
        subst e_97
        subst e_98
        have q100 := hv95.form
        refine match q100 with | ⟨sa_hv95, sc_hv95, e_99⟩ => ?_
        subst e_99
        refine W.nil ⟨hG94, ((List.Sublist.refl _).cons _).cons_cons _, _, ((List.Sublist.refl _).cons _).cons_cons _, List.Sublist.refl _, ?_⟩
        refine WD.any [7] (by kernel_rfl) rfl ⟨⟨_, rfl, rfl, ?_⟩, trivial⟩
        refine W.store (i := 1) (vs := [.slice _ _ _]) (L' := [.int .i64 _, .int .i64 _, .slice _ _ _, .slice _ _ _, .string _, .bool _, .int .i64 _, .int .i64 _, .slice _ _ _, .slice _ _ _]) ty23 rfl rfl rfl rfl rfl rfl rfl rfl ?_
        refine W.nil ⟨Le.rfl, ((List.Sublist.refl _).cons _).cons_cons _, _, ((List.Sublist.refl _).cons _).cons_cons _, List.Sublist.refl _, ?_⟩
        refine WD.take 8 rfl rfl rfl (by kernel_rfl) (by kernel_rfl) (by kernel_rfl) (ok_fieldB fd101_9 rfl) ?_
        refine WD.any [9] (by kernel_rfl) rfl ⟨⟨_, rfl, rfl, ?_⟩, trivial⟩
        refine W.store (i := 1) (vs := [.slice _ _ _]) (L' := [.int .i64 _, .int .i64 _, .slice _ _ _, .slice _ _ _, .string _, .bool _, .int .i64 _, .int .i64 _, .slice _ _ _, .slice _ _ _]) ty22 rfl rfl rfl rfl rfl rfl rfl rfl ?_
        refine W.nil ⟨Le.rfl, ((List.Sublist.refl _).cons _).cons_cons _, _, ((List.Sublist.refl _).cons _).cons_cons _, List.Sublist.refl _, ?_⟩
        refine WD.done (by kernel_rfl) (thn_n ?_)
        refine WC.seq ?_
        refine WC.region ?_
        refine W.ok (ok_loadB (i := 1) (vs := [.int .i64 _, .int .i64 _, .slice _ _ _, .slice _ _ _, .string _, .bool _, .int .i64 _, .int .i64 _, .slice _ _ _, .slice _ _ _]) ty101 rfl rfl rfl rfl (by simp)) ?_
        refine W.store (i := 0) (vs := [.int .i64 _, .int .i64 _, .slice _ _ _, .slice _ _ _, .string _, .bool _, .int .i64 _, .int .i64 _, .slice _ _ _, .slice _ _ _]) (L' := [.int .i64 _, .int .i64 _, .slice _ _ _, .slice _ _ _, .string _, .bool _, .int .i64 _, .int .i64 _, .slice _ _ _, .slice _ _ _]) ty101 rfl rfl rfl rfl rfl rfl rfl rfl ?_
        refine W.nil (thn_n ?_)
        refine WC.ret ?_
        refine ⟨.inr rfl, [_], ⟨⟨_, _, _, _, _, rfl, nthM_mem (i := 0) rfl, ty101, (by simp), rfl, rfl⟩, trivial⟩, [], List.nil_sublist _, ?_⟩
        refine ⟨rfl, _, rfl, ?_⟩
        · exact ⟨_, _, _, _, _, _, _, _, rfl, (hv46.mono ((hG52.trans hG87).trans hG94)), (hv53.mono (hG87.trans hG94)), (hv88.mono hG94), hv95, (by assumption)⟩
    · refine W.ok (ok_loadB (i := 1) (vs := [.slice _ _ _]) ty47 rfl rfl rfl rfl (by simp)) ?_
      refine W.nil ⟨Le.rfl, ((List.Sublist.refl _).cons _).cons_cons _, _, ((List.Sublist.refl _).cons _).cons_cons _, List.Sublist.refl _, ?_⟩
      refine WD.any [2] (by kernel_rfl) rfl ⟨⟨_, rfl, rfl, ?_⟩, trivial⟩
      refine W.call (Mp := []) (clones_fc hp_a) rfl (List.Perm.refl _) ?_
      intro _ G101 _ hG101 q103
      refine match q103 with | ⟨e_104, _, e_105, hv102⟩ => ?_
      subst e_104
      subst e_105
      have q107 := hv102.form
      refine match q107 with | ⟨sa_hv102, sc_hv102, e_106⟩ => ?_
      subst e_106
      refine W.nil ⟨hG101, ((List.Sublist.refl _).cons _).cons_cons _, _, ((List.Sublist.refl _).cons _).cons_cons _, List.Sublist.refl _, ?_⟩
      refine WD.take 6 rfl rfl rfl (by kernel_rfl) (by kernel_rfl) (by kernel_rfl) (ok_fieldB fd101_2 rfl) ?_
      refine WD.any [5] (by kernel_rfl) rfl ⟨⟨_, rfl, rfl, ?_⟩, trivial⟩
      refine W.call (Mp := []) (clonei_fc (hk_a.mono hG101)) rfl (List.Perm.refl _) ?_
      intro _ G108 _ hG108 q110
      refine match q110 with | ⟨e_111, _, e_112, hv109⟩ => ?_
      subst e_111
      subst e_112
      have q114 := hv109.form
      refine match q114 with | ⟨sa_hv109, sc_hv109, e_113⟩ => ?_
      subst e_113
      refine W.nil ⟨hG108, ((List.Sublist.refl _).cons _).cons_cons _, _, ((List.Sublist.refl _).cons _).cons_cons _, List.Sublist.refl _, ?_⟩
      refine WD.any [7] (by kernel_rfl) rfl ⟨⟨_, rfl, rfl, ?_⟩, trivial⟩
      refine W.store (i := 1) (vs := [.slice _ _ _]) (L' := [.int .i64 _, .int .i64 _, .slice _ _ _, .slice _ _ _, .string _, .bool _, .int .i64 _, .int .i64 _, .slice _ _ _, .slice _ _ _]) ty61 rfl rfl rfl rfl rfl rfl rfl rfl ?_
      refine W.nil ⟨Le.rfl, ((List.Sublist.refl _).cons _).cons_cons _, _, ((List.Sublist.refl _).cons _).cons_cons _, List.Sublist.refl _, ?_⟩
      refine WD.take 8 rfl rfl rfl (by kernel_rfl) (by kernel_rfl) (by kernel_rfl) (ok_fieldB fd101_3 rfl) ?_
      refine WD.any [9] (by kernel_rfl) rfl ⟨⟨_, rfl, rfl, ?_⟩, trivial⟩
      refine W.store (i := 1) (vs := [.slice _ _ _]) (L' := [.int .i64 _, .int .i64 _, .slice _ _ _, .slice _ _ _, .string _, .bool _, .int .i64 _, .int .i64 _, .slice _ _ _, .slice _ _ _]) ty47 rfl rfl rfl rfl rfl rfl rfl rfl ?_
      refine W.nil ⟨Le.rfl, ((List.Sublist.refl _).cons _).cons_cons _, _, ((List.Sublist.refl _).cons _).cons_cons _, List.Sublist.refl _, ?_⟩
      refine WD.done (by kernel_rfl) (thn_n ?_)
      refine WC.seq ?_
      refine WC.drawW _ (((List.Sublist.refl _).cons _).cons_cons _) mix (by rintro _ _ _ _ ⟨h | h, _⟩ <;> cases h) ?_
      refine WD.take 0 rfl rfl rfl (by kernel_rfl) (by kernel_rfl) (by kernel_rfl) (ok_fieldB fd101_8 rfl) ?_
      refine WD.take 3 rfl rfl rfl (by kernel_rfl) (by kernel_rfl) (by kernel_rfl) (ok_fieldB fd101_9 rfl) ?_
      refine WD.any [1, 4] (by kernel_rfl) rfl ⟨⟨_, rfl, rfl, ?_⟩, ⟨_, rfl, rfl, ?_⟩, trivial⟩
      · refine W.ok (ok_loadB (i := 1) (vs := [.slice _ _ _]) ty23 rfl rfl rfl rfl (by simp)) ?_
        refine W.nil ⟨Le.rfl, ((List.Sublist.refl _).cons _).cons_cons _, _, ((List.Sublist.refl _).cons _).cons_cons _, List.Sublist.refl _, ?_⟩
        refine WD.any [2, 4] (by kernel_rfl) rfl ⟨⟨_, rfl, rfl, ?_⟩, ⟨_, rfl, rfl, ?_⟩, trivial⟩
        · refine W.call (Mp := []) (clonem_fc (hm_a.mono (hG101.trans hG108))) rfl (List.Perm.refl _) ?_
          intro _ G115 _ hG115 q117
          refine match q117 with | ⟨e_118, _, e_119, hv116⟩ => ?_
          subst e_118
          subst e_119
          have q121 := hv116.form
          refine match q121 with | ⟨sa_hv116, sc_hv116, e_120⟩ => ?_
          subst e_120
          refine W.nil ⟨hG115, ((List.Sublist.refl _).cons _).cons_cons _, _, ((List.Sublist.refl _).cons _).cons_cons _, List.Sublist.refl _, ?_⟩
          refine WD.any [4] (by kernel_rfl) rfl ⟨⟨_, rfl, rfl, ?_⟩, trivial⟩
          refine W.ok (ok_loadB (i := 1) (vs := [.slice _ _ _]) ty22 rfl rfl rfl rfl (by simp)) ?_
          refine W.nil ⟨Le.rfl, ((List.Sublist.refl _).cons _).cons_cons _, _, ((List.Sublist.refl _).cons _).cons_cons _, List.Sublist.refl _, ?_⟩
          refine WD.take 6 rfl rfl rfl (by kernel_rfl) (by kernel_rfl) (by kernel_rfl) (ok_fieldB fd101_8 rfl) ?_
          refine WD.any [5] (by kernel_rfl) rfl ⟨⟨_, rfl, rfl, ?_⟩, trivial⟩
          refine W.call (Mp := []) (clonep_fc (hr_a.mono ((hG101.trans hG108).trans hG115))) rfl (List.Perm.refl _) ?_
          intro _ G122 _ hG122 q124
          refine match q124 with | ⟨e_125, _, e_126, hv123⟩ => ?_
          subst e_125
          subst e_126
          have q128 := hv123.form
          refine match q128 with | ⟨sa_hv123, sc_hv123, e_127⟩ => ?_
          subst e_127
          refine W.nil ⟨hG122, ((List.Sublist.refl _).cons _).cons_cons _, _, ((List.Sublist.refl _).cons _).cons_cons _, List.Sublist.refl _, ?_⟩
          refine WD.any [7] (by kernel_rfl) rfl ⟨⟨_, rfl, rfl, ?_⟩, trivial⟩
          refine W.store (i := 1) (vs := [.slice _ _ _]) (L' := [.int .i64 _, .int .i64 _, .slice _ _ _, .slice _ _ _, .string _, .bool _, .int .i64 _, .int .i64 _, .slice _ _ _, .slice _ _ _]) ty23 rfl rfl rfl rfl rfl rfl rfl rfl ?_
          refine W.nil ⟨Le.rfl, ((List.Sublist.refl _).cons _).cons_cons _, _, ((List.Sublist.refl _).cons _).cons_cons _, List.Sublist.refl _, ?_⟩
          refine WD.take 8 rfl rfl rfl (by kernel_rfl) (by kernel_rfl) (by kernel_rfl) (ok_fieldB fd101_9 rfl) ?_
          refine WD.any [9] (by kernel_rfl) rfl ⟨⟨_, rfl, rfl, ?_⟩, trivial⟩
          refine W.store (i := 1) (vs := [.slice _ _ _]) (L' := [.int .i64 _, .int .i64 _, .slice _ _ _, .slice _ _ _, .string _, .bool _, .int .i64 _, .int .i64 _, .slice _ _ _, .slice _ _ _]) ty22 rfl rfl rfl rfl rfl rfl rfl rfl ?_
          refine W.nil ⟨Le.rfl, ((List.Sublist.refl _).cons _).cons_cons _, _, ((List.Sublist.refl _).cons _).cons_cons _, List.Sublist.refl _, ?_⟩
          refine WD.done (by kernel_rfl) (thn_n ?_)
          refine WC.seq ?_
          refine WC.region ?_
          refine W.ok (ok_loadB (i := 1) (vs := [.int .i64 _, .int .i64 _, .slice _ _ _, .slice _ _ _, .string _, .bool _, .int .i64 _, .int .i64 _, .slice _ _ _, .slice _ _ _]) ty101 rfl rfl rfl rfl (by simp)) ?_
          refine W.store (i := 0) (vs := [.int .i64 _, .int .i64 _, .slice _ _ _, .slice _ _ _, .string _, .bool _, .int .i64 _, .int .i64 _, .slice _ _ _, .slice _ _ _]) (L' := [.int .i64 _, .int .i64 _, .slice _ _ _, .slice _ _ _, .string _, .bool _, .int .i64 _, .int .i64 _, .slice _ _ _, .slice _ _ _]) ty101 rfl rfl rfl rfl rfl rfl rfl rfl ?_
          refine W.nil (thn_n ?_)
          refine WC.ret ?_
          refine ⟨.inr rfl, [_], ⟨⟨_, _, _, _, _, rfl, nthM_mem (i := 0) rfl, ty101, (by simp), rfl, rfl⟩, trivial⟩, [], List.nil_sublist _, ?_⟩
          refine ⟨rfl, _, rfl, ?_⟩
          · exact ⟨_, _, _, _, _, _, _, _, rfl, (hv102.mono ((hG108.trans hG115).trans hG122)), (hv109.mono (hG115.trans hG122)), (hv116.mono hG122), hv123, (by assumption)⟩
        · refine W.ok (ok_loadB (i := 1) (vs := [.slice _ _ _]) ty22 rfl rfl rfl rfl (by simp)) ?_
          refine W.nil ⟨Le.rfl, ((List.Sublist.refl _).cons _).cons_cons _, _, ((List.Sublist.refl _).cons _).cons_cons _, List.Sublist.refl _, ?_⟩
          refine WD.any [2] (by kernel_rfl) rfl ⟨⟨_, rfl, rfl, ?_⟩, trivial⟩
          refine W.call (Mp := []) (clonem_fc (hm_a.mono (hG101.trans hG108))) rfl (List.Perm.refl _) ?_
          intro _ G129 _ hG129 q131
          refine match q131 with | ⟨e_132, _, e_133, hv130⟩ => ?_
          subst e_132
          subst e_133
          have q135 := hv130.form
          refine match q135 with | ⟨sa_hv130, sc_hv130, e_134⟩ => ?_
          subst e_134
          refine W.nil ⟨hG129, ((List.Sublist.refl _).cons _).cons_cons _, _, ((List.Sublist.refl _).cons _).cons_cons _, List.Sublist.refl _, ?_⟩
          refine WD.take 6 rfl rfl rfl (by kernel_rfl) (by kernel_rfl) (by kernel_rfl) (ok_fieldB fd101_8 rfl) ?_
          refine WD.any [5] (by kernel_rfl) rfl ⟨⟨_, rfl, rfl, ?_⟩, trivial⟩
          refine W.call (Mp := []) (clonep_fc (hr_a.mono ((hG101.trans hG108).trans hG129))) rfl (List.Perm.refl _) ?_
          intro _ G136 _ hG136 q138
          refine match q138 with | ⟨e_139, _, e_140, hv137⟩ => ?_
          subst e_139
          subst e_140
          have q142 := hv137.form
          refine match q142 with | ⟨sa_hv137, sc_hv137, e_141⟩ => ?_
          subst e_141
          refine W.nil ⟨hG136, ((List.Sublist.refl _).cons _).cons_cons _, _, ((List.Sublist.refl _).cons _).cons_cons _, List.Sublist.refl _, ?_⟩
          refine WD.any [7] (by kernel_rfl) rfl ⟨⟨_, rfl, rfl, ?_⟩, trivial⟩
          refine W.store (i := 1) (vs := [.slice _ _ _]) (L' := [.int .i64 _, .int .i64 _, .slice _ _ _, .slice _ _ _, .string _, .bool _, .int .i64 _, .int .i64 _, .slice _ _ _, .slice _ _ _]) ty23 rfl rfl rfl rfl rfl rfl rfl rfl ?_
          refine W.nil ⟨Le.rfl, ((List.Sublist.refl _).cons _).cons_cons _, _, ((List.Sublist.refl _).cons _).cons_cons _, List.Sublist.refl _, ?_⟩
          refine WD.take 8 rfl rfl rfl (by kernel_rfl) (by kernel_rfl) (by kernel_rfl) (ok_fieldB fd101_9 rfl) ?_
          refine WD.any [9] (by kernel_rfl) rfl ⟨⟨_, rfl, rfl, ?_⟩, trivial⟩
          refine W.store (i := 1) (vs := [.slice _ _ _]) (L' := [.int .i64 _, .int .i64 _, .slice _ _ _, .slice _ _ _, .string _, .bool _, .int .i64 _, .int .i64 _, .slice _ _ _, .slice _ _ _]) ty22 rfl rfl rfl rfl rfl rfl rfl rfl ?_
          refine W.nil ⟨Le.rfl, ((List.Sublist.refl _).cons _).cons_cons _, _, ((List.Sublist.refl _).cons _).cons_cons _, List.Sublist.refl _, ?_⟩
          refine WD.done (by kernel_rfl) (thn_n ?_)
          refine WC.seq ?_
          refine WC.region ?_
          refine W.ok (ok_loadB (i := 1) (vs := [.int .i64 _, .int .i64 _, .slice _ _ _, .slice _ _ _, .string _, .bool _, .int .i64 _, .int .i64 _, .slice _ _ _, .slice _ _ _]) ty101 rfl rfl rfl rfl (by simp)) ?_
          refine W.store (i := 0) (vs := [.int .i64 _, .int .i64 _, .slice _ _ _, .slice _ _ _, .string _, .bool _, .int .i64 _, .int .i64 _, .slice _ _ _, .slice _ _ _]) (L' := [.int .i64 _, .int .i64 _, .slice _ _ _, .slice _ _ _, .string _, .bool _, .int .i64 _, .int .i64 _, .slice _ _ _, .slice _ _ _]) ty101 rfl rfl rfl rfl rfl rfl rfl rfl ?_
          refine W.nil (thn_n ?_)
          refine WC.ret ?_
          refine ⟨.inr rfl, [_], ⟨⟨_, _, _, _, _, rfl, nthM_mem (i := 0) rfl, ty101, (by simp), rfl, rfl⟩, trivial⟩, [], List.nil_sublist _, ?_⟩
          refine ⟨rfl, _, rfl, ?_⟩
          · exact ⟨_, _, _, _, _, _, _, _, rfl, (hv102.mono ((hG108.trans hG129).trans hG136)), (hv109.mono (hG129.trans hG136)), (hv130.mono hG136), hv137, (by assumption)⟩
      · refine W.ok (ok_loadB (i := 1) (vs := [.slice _ _ _]) ty22 rfl rfl rfl rfl (by simp)) ?_
        refine W.nil ⟨Le.rfl, ((List.Sublist.refl _).cons _).cons_cons _, _, ((List.Sublist.refl _).cons _).cons_cons _, List.Sublist.refl _, ?_⟩
        refine WD.any [1] (by kernel_rfl) rfl ⟨⟨_, rfl, rfl, ?_⟩, trivial⟩
        refine W.ok (ok_loadB (i := 1) (vs := [.slice _ _ _]) ty23 rfl rfl rfl rfl (by simp)) ?_
        refine W.nil ⟨Le.rfl, ((List.Sublist.refl _).cons _).cons_cons _, _, ((List.Sublist.refl _).cons _).cons_cons _, List.Sublist.refl _, ?_⟩
        refine WD.any [2] (by kernel_rfl) rfl ⟨⟨_, rfl, rfl, ?_⟩, trivial⟩
        refine W.call (Mp := []) (clonem_fc (hm_a.mono (hG101.trans hG108))) rfl (List.Perm.refl _) ?_
        intro _ G143 _ hG143 q145
        refine match q145 with | ⟨e_146, _, e_147, hv144⟩ => ?_
        subst e_146
        subst e_147
        have q149 := hv144.form
        refine match q149 with | ⟨sa_hv144, sc_hv144, e_148⟩ => ?_
        subst e_148
        refine W.nil ⟨hG143, ((List.Sublist.refl _).cons _).cons_cons _, _, ((List.Sublist.refl _).cons _).cons_cons _, List.Sublist.refl _, ?_⟩
        refine WD.take 6 rfl rfl rfl (by kernel_rfl) (by kernel_rfl) (by kernel_rfl) (ok_fieldB fd101_8 rfl) ?_
        refine WD.any [5] (by kernel_rfl) rfl ⟨⟨_, rfl, rfl, ?_⟩, trivial⟩
        refine W.call (Mp := []) (clonep_fc (hr_a.mono ((hG101.trans hG108).trans hG143))) rfl (List.Perm.refl _) ?_
        intro _ G150 _ hG150 q152
        refine match q152 with | ⟨e_153, _, e_154, hv151⟩ => ?_
        subst e_153
        subst e_154
        have q156 := hv151.form
        refine match q156 with | ⟨sa_hv151, sc_hv151, e_155⟩ => ?_
        subst e_155
        refine W.nil ⟨hG150, ((List.Sublist.refl _).cons _).cons_cons _, _, ((List.Sublist.refl _).cons _).cons_cons _, List.Sublist.refl _, ?_⟩
        refine WD.any [7] (by kernel_rfl) rfl ⟨⟨_, rfl, rfl, ?_⟩, trivial⟩
        refine W.store (i := 1) (vs := [.slice _ _ _]) (L' := [.int .i64 _, .int .i64 _, .slice _ _ _, .slice _ _ _, .string _, .bool _, .int .i64 _, .int .i64 _, .slice _ _ _, .slice _ _ _]) ty23 rfl rfl rfl rfl rfl rfl rfl rfl ?_
        refine W.nil ⟨Le.rfl, ((List.Sublist.refl _).cons _).cons_cons _, _, ((List.Sublist.refl _).cons _).cons_cons _, List.Sublist.refl _, ?_⟩
        refine WD.take 8 rfl rfl rfl (by kernel_rfl) (by kernel_rfl) (by kernel_rfl) (ok_fieldB fd101_9 rfl) ?_
        refine WD.any [9] (by kernel_rfl) rfl ⟨⟨_, rfl, rfl, ?_⟩, trivial⟩
        refine W.store (i := 1) (vs := [.slice _ _ _]) (L' := [.int .i64 _, .int .i64 _, .slice _ _ _, .slice _ _ _, .string _, .bool _, .int .i64 _, .int .i64 _, .slice _ _ _, .slice _ _ _]) ty22 rfl rfl rfl rfl rfl rfl rfl rfl ?_
        refine W.nil ⟨Le.rfl, ((List.Sublist.refl _).cons _).cons_cons _, _, ((List.Sublist.refl _).cons _).cons_cons _, List.Sublist.refl _, ?_⟩
        refine WD.done (by kernel_rfl) (thn_n ?_)
        refine WC.seq ?_
        refine WC.region ?_
        refine W.ok (ok_loadB (i := 1) (vs := [.int .i64 _, .int .i64 _, .slice _ _ _, .slice _ _ _, .string _, .bool _, .int .i64 _, .int .i64 _, .slice _ _ _, .slice _ _ _]) ty101 rfl rfl rfl rfl (by simp)) ?_
        refine W.store (i := 0) (vs := [.int .i64 _, .int .i64 _, .slice _ _ _, .slice _ _ _, .string _, .bool _, .int .i64 _, .int .i64 _, .slice _ _ _, .slice _ _ _]) (L' := [.int .i64 _, .int .i64 _, .slice _ _ _, .slice _ _ _, .string _, .bool _, .int .i64 _, .int .i64 _, .slice _ _ _, .slice _ _ _]) ty101 rfl rfl rfl rfl rfl rfl rfl rfl ?_
        refine W.nil (thn_n ?_)
        refine WC.ret ?_
        refine ⟨.inr rfl, [_], ⟨⟨_, _, _, _, _, rfl, nthM_mem (i := 0) rfl, ty101, (by simp), rfl, rfl⟩, trivial⟩, [], List.nil_sublist _, ?_⟩
        refine ⟨rfl, _, rfl, ?_⟩
        · exact ⟨_, _, _, _, _, _, _, _, rfl, (hv102.mono ((hG108.trans hG143).trans hG150)), (hv109.mono (hG143.trans hG150)), (hv144.mono hG150), hv151, (by assumption)⟩
  · refine W.ok (ok_loadB (i := 1) (vs := [.slice _ _ _]) ty47 rfl rfl rfl rfl (by simp)) ?_
    refine W.nil ⟨Le.rfl, ((List.Sublist.refl _).cons _).cons_cons _, _, ((List.Sublist.refl _).cons _).cons_cons _, List.Sublist.refl _, ?_⟩
    refine WD.any [1] (by kernel_rfl) rfl ⟨⟨_, rfl, rfl, ?_⟩, trivial⟩
    refine W.ok (ok_loadB (i := 1) (vs := [.slice _ _ _]) ty61 rfl rfl rfl rfl (by simp)) ?_
    refine W.nil ⟨Le.rfl, ((List.Sublist.refl _).cons _).cons_cons _, _, ((List.Sublist.refl _).cons _).cons_cons _, List.Sublist.refl _, ?_⟩
    refine WD.any [2] (by kernel_rfl) rfl ⟨⟨_, rfl, rfl, ?_⟩, trivial⟩
    refine W.call (Mp := []) (clones_fc hp_a) rfl (List.Perm.refl _) ?_
    intro _ G157 _ hG157 q159
    refine match q159 with | ⟨e_160, _, e_161, hv158⟩ => ?_
    subst e_160
    subst e_161
    have q163 := hv158.form
    refine match q163 with | ⟨sa_hv158, sc_hv158, e_162⟩ => ?_
    subst e_162
    refine W.nil ⟨hG157, ((List.Sublist.refl _).cons _).cons_cons _, _, ((List.Sublist.refl _).cons _).cons_cons _, List.Sublist.refl _, ?_⟩
    refine WD.take 6 rfl rfl rfl (by kernel_rfl) (by kernel_rfl) (by kernel_rfl) (ok_fieldB fd101_2 rfl) ?_
    refine WD.any [5] (by kernel_rfl) rfl ⟨⟨_, rfl, rfl, ?_⟩, trivial⟩
    refine W.call (Mp := []) (clonei_fc (hk_a.mono hG157)) rfl (List.Perm.refl _) ?_
    intro _ G164 _ hG164 q166
    refine match q166 with | ⟨e_167, _, e_168, hv165⟩ => ?_
    subst e_167
    subst e_168
    have q170 := hv165.form
    refine match q170 with | ⟨sa_hv165, sc_hv165, e_169⟩ => ?_
    subst e_169
    refine W.nil ⟨hG164, ((List.Sublist.refl _).cons _).cons_cons _, _, ((List.Sublist.refl _).cons _).cons_cons _, List.Sublist.refl _, ?_⟩
    refine WD.any [7] (by kernel_rfl) rfl ⟨⟨_, rfl, rfl, ?_⟩, trivial⟩
    refine W.store (i := 1) (vs := [.slice _ _ _]) (L' := [.int .i64 _, .int .i64 _, .slice _ _ _, .slice _ _ _, .string _, .bool _, .int .i64 _, .int .i64 _, .slice _ _ _, .slice _ _ _]) ty61 rfl rfl rfl rfl rfl rfl rfl rfl ?_
    refine W.nil ⟨Le.rfl, ((List.Sublist.refl _).cons _).cons_cons _, _, ((List.Sublist.refl _).cons _).cons_cons _, List.Sublist.refl _, ?_⟩
    refine WD.take 8 rfl rfl rfl (by kernel_rfl) (by kernel_rfl) (by kernel_rfl) (ok_fieldB fd101_3 rfl) ?_
    refine WD.any [9] (by kernel_rfl) rfl ⟨⟨_, rfl, rfl, ?_⟩, trivial⟩
    refine W.store (i := 1) (vs := [.slice _ _ _]) (L' := [.int .i64 _, .int .i64 _, .slice _ _ _, .slice _ _ _, .string _, .bool _, .int .i64 _, .int .i64 _, .slice _ _ _, .slice _ _ _]) ty47 rfl rfl rfl rfl rfl rfl rfl rfl ?_
    refine W.nil ⟨Le.rfl, ((List.Sublist.refl _).cons _).cons_cons _, _, ((List.Sublist.refl _).cons _).cons_cons _, List.Sublist.refl _, ?_⟩
    refine WD.done (by kernel_rfl) (thn_n ?_)
    refine WC.seq ?_
    refine WC.drawW _ (((List.Sublist.refl _).cons _).cons_cons _) mix (by rintro _ _ _ _ ⟨h | h, _⟩ <;> cases h) ?_
    refine WD.take 0 rfl rfl rfl (by kernel_rfl) (by kernel_rfl) (by kernel_rfl) (ok_fieldB fd101_8 rfl) ?_
    refine WD.take 3 rfl rfl rfl (by kernel_rfl) (by kernel_rfl) (by kernel_rfl) (ok_fieldB fd101_9 rfl) ?_
    refine WD.any [1, 4] (by kernel_rfl) rfl ⟨⟨_, rfl, rfl, ?_⟩, ⟨_, rfl, rfl, ?_⟩, trivial⟩
    · refine W.ok (ok_loadB (i := 1) (vs := [.slice _ _ _]) ty23 rfl rfl rfl rfl (by simp)) ?_
      refine W.nil ⟨Le.rfl, ((List.Sublist.refl _).cons _).cons_cons _, _, ((List.Sublist.refl _).cons _).cons_cons _, List.Sublist.refl _, ?_⟩
      refine WD.any [2, 4] (by kernel_rfl) rfl ⟨⟨_, rfl, rfl, ?_⟩, ⟨_, rfl, rfl, ?_⟩, trivial⟩
      · refine W.call (Mp := []) (clonem_fc (hm_a.mono (hG157.trans hG164))) rfl (List.Perm.refl _) ?_
        intro _ G171 _ hG171 q173
        refine match q173 with | ⟨e_174, _, e_175, hv172⟩ => ?_
        subst e_174
        subst e_175
        have q177 := hv172.form
        refine match q177 with | ⟨sa_hv172, sc_hv172, e_176⟩ => ?_
        subst e_176
        refine W.nil ⟨hG171, ((List.Sublist.refl _).cons _).cons_cons _, _, ((List.Sublist.refl _).cons _).cons_cons _, List.Sublist.refl _, ?_⟩
        refine WD.any [4] (by kernel_rfl) rfl ⟨⟨_, rfl, rfl, ?_⟩, trivial⟩
        refine W.ok (ok_loadB (i := 1) (vs := [.slice _ _ _]) ty22 rfl rfl rfl rfl (by simp)) ?_
        refine W.nil ⟨Le.rfl, ((List.Sublist.refl _).cons _).cons_cons _, _, ((List.Sublist.refl _).cons _).cons_cons _, List.Sublist.refl _, ?_⟩
        refine WD.take 6 rfl rfl rfl (by kernel_rfl) (by kernel_rfl) (by kernel_rfl) (ok_fieldB fd101_8 rfl) ?_
        refine WD.any [5] (by kernel_rfl) rfl ⟨⟨_, rfl, rfl, ?_⟩, trivial⟩
        refine W.call (Mp := []) (clonep_fc (hr_a.mono ((hG157.trans hG164).trans hG171))) rfl (List.Perm.refl _) ?_
        intro _ G178 _ hG178 q180
        refine match q180 with | ⟨e_181, _, e_182, hv179⟩ => ?_
        subst e_181
        subst e_182
        have q184 := hv179.form
        refine match q184 with | ⟨sa_hv179, sc_hv179, e_183⟩ => ?_
        subst e_183
        refine W.nil ⟨hG178, ((List.Sublist.refl _).cons _).cons_cons _, _, ((List.Sublist.refl _).cons _).cons_cons _, List.Sublist.refl _, ?_⟩
        refine WD.any [7] (by kernel_rfl) rfl ⟨⟨_, rfl, rfl, ?_⟩, trivial⟩
        refine W.store (i := 1) (vs := [.slice _ _ _]) (L' := [.int .i64 _, .int .i64 _, .slice _ _ _, .slice _ _ _, .string _, .bool _, .int .i64 _, .int .i64 _, .slice _ _ _, .slice _ _ _]) ty23 rfl rfl rfl rfl rfl rfl rfl rfl ?_
        refine W.nil ⟨Le.rfl, ((List.Sublist.refl _).cons _).cons_cons _, _, ((List.Sublist.refl _).cons _).cons_cons _, List.Sublist.refl _, ?_⟩
        refine WD.take 8 rfl rfl rfl (by kernel_rfl) (by kernel_rfl) (by kernel_rfl) (ok_fieldB fd101_9 rfl) ?_
        refine WD.any [9] (by kernel_rfl) rfl ⟨⟨_, rfl, rfl, ?_⟩, trivial⟩
        refine W.store (i := 1) (vs := [.slice _ _ _]) (L' := [.int .i64 _, .int .i64 _, .slice _ _ _, .slice _ _ _, .string _, .bool _, .int .i64 _, .int .i64 _, .slice _ _ _, .slice _ _ _]) ty22 rfl rfl rfl rfl rfl rfl rfl rfl ?_
        refine W.nil ⟨Le.rfl, ((List.Sublist.refl _).cons _).cons_cons _, _, ((List.Sublist.refl _).cons _).cons_cons _, List.Sublist.refl _, ?_⟩
        refine WD.done (by kernel_rfl) (thn_n ?_)
        refine WC.seq ?_
        refine WC.region ?_
        refine W.ok (ok_loadB (i := 1) (vs := [.int .i64 _, .int .i64 _, .slice _ _ _, .slice _ _ _, .string _, .bool _, .int .i64 _, .int .i64 _, .slice _ _ _, .slice _ _ _]) ty101 rfl rfl rfl rfl (by simp)) ?_
        refine W.store (i := 0) (vs := [.int .i64 _, .int .i64 _, .slice _ _ _, .slice _ _ _, .string _, .bool _, .int .i64 _, .int .i64 _, .slice _ _ _, .slice _ _ _]) (L' := [.int .i64 _, .int .i64 _, .slice _ _ _, .slice _ _ _, .string _, .bool _, .int .i64 _, .int .i64 _, .slice _ _ _, .slice _ _ _]) ty101 rfl rfl rfl rfl rfl rfl rfl rfl ?_
        refine W.nil (thn_n ?_)
        refine WC.ret ?_
        refine ⟨.inr rfl, [_], ⟨⟨_, _, _, _, _, rfl, nthM_mem (i := 0) rfl, ty101, (by simp), rfl, rfl⟩, trivial⟩, [], List.nil_sublist _, ?_⟩
        refine ⟨rfl, _, rfl, ?_⟩
        · exact ⟨_, _, _, _, _, _, _, _, rfl, (hv158.mono ((hG164.trans hG171).trans hG178)), (hv165.mono (hG171.trans hG178)), (hv172.mono hG178), hv179, (by assumption)⟩
      · refine W.ok (ok_loadB (i := 1) (vs := [.slice _ _ _]) ty22 rfl rfl rfl rfl (by simp)) ?_
        refine W.nil ⟨Le.rfl, ((List.Sublist.refl _).cons _).cons_cons _, _, ((List.Sublist.refl _).cons _).cons_cons _, List.Sublist.refl _, ?_⟩
        refine WD.any [2] (by kernel_rfl) rfl ⟨⟨_, rfl, rfl, ?_⟩, trivial⟩
        refine W.call (Mp := []) (clonem_fc (hm_a.mono (hG157.trans hG164))) rfl (List.Perm.refl _) ?_
        intro _ G185 _ hG185 q187
        refine match q187 with | ⟨e_188, _, e_189, hv186⟩ => ?_
        subst e_188
        subst e_189
        have q191 := hv186.form
        refine match q191 with | ⟨sa_hv186, sc_hv186, e_190⟩ => ?_
        subst e_190
        refine W.nil ⟨hG185, ((List.Sublist.refl _).cons _).cons_cons _, _, ((List.Sublist.refl _).cons _).cons_cons _, List.Sublist.refl _, ?_⟩
        refine WD.take 6 rfl rfl rfl (by kernel_rfl) (by kernel_rfl) (by kernel_rfl) (ok_fieldB fd101_8 rfl) ?_
        refine WD.any [5] (by kernel_rfl) rfl ⟨⟨_, rfl, rfl, ?_⟩, trivial⟩
        refine W.call (Mp := []) (clonep_fc (hr_a.mono ((hG157.trans hG164).trans hG185))) rfl (List.Perm.refl _) ?_
        intro _ G192 _ hG192 q194
        refine match q194 with | ⟨e_195, _, e_196, hv193⟩ => ?_
        subst e_195
        subst e_196
        have q198 := hv193.form
        refine match q198 with | ⟨sa_hv193, sc_hv193, e_197⟩ => ?_
        subst e_197
        refine W.nil ⟨hG192, ((List.Sublist.refl _).cons _).cons_cons _, _, ((List.Sublist.refl _).cons _).cons_cons _, List.Sublist.refl _, ?_⟩
        refine WD.any [7] (by kernel_rfl) rfl ⟨⟨_, rfl, rfl, ?_⟩, trivial⟩
        refine W.store (i := 1) (vs := [.slice _ _ _]) (L' := [.int .i64 _, .int .i64 _, .slice _ _ _, .slice _ _ _, .string _, .bool _, .int .i64 _, .int .i64 _, .slice _ _ _, .slice _ _ _]) ty23 rfl rfl rfl rfl rfl rfl rfl rfl ?_
        refine W.nil ⟨Le.rfl, ((List.Sublist.refl _).cons _).cons_cons _, _, ((List.Sublist.refl _).cons _).cons_cons _, List.Sublist.refl _, ?_⟩
        refine WD.take 8 rfl rfl rfl (by kernel_rfl) (by kernel_rfl) (by kernel_rfl) (ok_fieldB fd101_9 rfl) ?_
        refine WD.any [9] (by kernel_rfl) rfl ⟨⟨_, rfl, rfl, ?_⟩, trivial⟩
        refine W.store (i := 1) (vs := [.slice _ _ _]) (L' := [.int .i64 _, .int .i64 _, .slice _ _ _, .slice _ _ _, .string _, .bool _, .int .i64 _, .int .i64 _, .slice _ _ _, .slice _ _ _]) ty22 rfl rfl rfl rfl rfl rfl rfl rfl ?_
        refine W.nil ⟨Le.rfl, ((List.Sublist.refl _).cons _).cons_cons _, _, ((List.Sublist.refl _).cons _).cons_cons _, List.Sublist.refl _, ?_⟩
        refine WD.done (by kernel_rfl) (thn_n ?_)
        refine WC.seq ?_
        refine WC.region ?_
        refine W.ok (ok_loadB (i := 1) (vs := [.int .i64 _, .int .i64 _, .slice _ _ _, .slice _ _ _, .string _, .bool _, .int .i64 _, .int .i64 _, .slice _ _ _, .slice _ _ _]) ty101 rfl rfl rfl rfl (by simp)) ?_
        refine W.store (i := 0) (vs := [.int .i64 _, .int .i64 _, .slice _ _ _, .slice _ _ _, .string _, .bool _, .int .i64 _, .int .i64 _, .slice _ _ _, .slice _ _ _]) (L' := [.int .i64 _, .int .i64 _, .slice _ _ _, .slice _ _ _, .string _, .bool _, .int .i64 _, .int .i64 _, .slice _ _ _, .slice _ _ _]) ty101 rfl rfl rfl rfl rfl rfl rfl rfl ?_
        refine W.nil (thn_n ?_)
        refine WC.ret ?_
        refine ⟨.inr rfl, [_], ⟨⟨_, _, _, _, _, rfl, nthM_mem (i := 0) rfl, ty101, (by simp), rfl, rfl⟩, trivial⟩, [], List.nil_sublist _, ?_⟩
        refine ⟨rfl, _, rfl, ?_⟩
        · exact ⟨_, _, _, _, _, _, _, _, rfl, (hv158.mono ((hG164.trans hG185).trans hG192)), (hv165.mono (hG185.trans hG192)), (hv186.mono hG192), hv193, (by assumption)⟩
    · refine W.ok (ok_loadB (i := 1) (vs := [.slice _ _ _]) ty22 rfl rfl rfl rfl (by simp)) ?_
      refine W.nil ⟨Le.rfl, ((List.Sublist.refl _).cons _).cons_cons _, _, ((List.Sublist.refl _).cons _).cons_cons _, List.Sublist.refl _, ?_⟩
      refine WD.any [1] (by kernel_rfl) rfl ⟨⟨_, rfl, rfl, ?_⟩, trivial⟩
      refine W.ok (ok_loadB (i := 1) (vs := [.slice _ _ _]) ty23 rfl rfl rfl rfl (by simp)) ?_
      refine W.nil ⟨Le.rfl, ((List.Sublist.refl _).cons _).cons_cons _, _, ((List.Sublist.refl _).cons _).cons_cons _, List.Sublist.refl _, ?_⟩
      refine WD.any [2] (by kernel_rfl) rfl ⟨⟨_, rfl, rfl, ?_⟩, trivial⟩
      refine W.call (Mp := []) (clonem_fc (hm_a.mono (hG157.trans hG164))) rfl (List.Perm.refl _) ?_
      intro _ G199 _ hG199 q201
      refine match q201 with | ⟨e_202, _, e_203, hv200⟩ => ?_
      subst e_202
      subst e_203
      have q205 := hv200.form
      refine match q205 with | ⟨sa_hv200, sc_hv200, e_204⟩ => ?_
      subst e_204
      refine W.nil ⟨hG199, ((List.Sublist.refl _).cons _).cons_cons _, _, ((List.Sublist.refl _).cons _).cons_cons _, List.Sublist.refl _, ?_⟩
      refine WD.take 6 rfl rfl rfl (by kernel_rfl) (by kernel_rfl) (by kernel_rfl) (ok_fieldB fd101_8 rfl) ?_
      refine WD.any [5] (by kernel_rfl) rfl ⟨⟨_, rfl, rfl, ?_⟩, trivial⟩
      refine W.call (Mp := []) (clonep_fc (hr_a.mono ((hG157.trans hG164).trans hG199))) rfl (List.Perm.refl _) ?_
      intro _ G206 _ hG206 q208
      refine match q208 with | ⟨e_209, _, e_210, hv207⟩ => ?_
      subst e_209
      subst e_210
      have q212 := hv207.form
      refine match q212 with | ⟨sa_hv207, sc_hv207, e_211⟩ => ?_
      subst e_211
      refine W.nil ⟨hG206, ((List.Sublist.refl _).cons _).cons_cons _, _, ((List.Sublist.refl _).cons _).cons_cons _, List.Sublist.refl _, ?_⟩
      refine WD.any [7] (by kernel_rfl) rfl ⟨⟨_, rfl, rfl, ?_⟩, trivial⟩
      refine W.store (i := 1) (vs := [.slice _ _ _]) (L' := [.int .i64 _, .int .i64 _, .slice _ _ _, .slice _ _ _, .string _, .bool _, .int .i64 _, .int .i64 _, .slice _ _ _, .slice _ _ _]) ty23 rfl rfl rfl rfl rfl rfl rfl rfl ?_
      refine W.nil ⟨Le.rfl, ((List.Sublist.refl _).cons _).cons_cons _, _, ((List.Sublist.refl _).cons _).cons_cons _, List.Sublist.refl _, ?_⟩
      refine WD.take 8 rfl rfl rfl (by kernel_rfl) (by kernel_rfl) (by kernel_rfl) (ok_fieldB fd101_9 rfl) ?_
      refine WD.any [9] (by kernel_rfl) rfl ⟨⟨_, rfl, rfl, ?_⟩, trivial⟩
      refine W.store (i := 1) (vs := [.slice _ _ _]) (L' := [.int .i64 _, .int .i64 _, .slice _ _ _, .slice _ _ _, .string _, .bool _, .int .i64 _, .int .i64 _, .slice _ _ _, .slice _ _ _]) ty22 rfl rfl rfl rfl rfl rfl rfl rfl ?_
      refine W.nil ⟨Le.rfl, ((List.Sublist.refl _).cons _).cons_cons _, _, ((List.Sublist.refl _).cons _).cons_cons _, List.Sublist.refl _, ?_⟩
      refine WD.done (by kernel_rfl) (thn_n ?_)
      refine WC.seq ?_
      refine WC.region ?_
      refine W.ok (ok_loadB (i := 1) (vs := [.int .i64 _, .int .i64 _, .slice _ _ _, .slice _ _ _, .string _, .bool _, .int .i64 _, .int .i64 _, .slice _ _ _, .slice _ _ _]) ty101 rfl rfl rfl rfl (by simp)) ?_
      refine W.store (i := 0) (vs := [.int .i64 _, .int .i64 _, .slice _ _ _, .slice _ _ _, .string _, .bool _, .int .i64 _, .int .i64 _, .slice _ _ _, .slice _ _ _]) (L' := [.int .i64 _, .int .i64 _, .slice _ _ _, .slice _ _ _, .string _, .bool _, .int .i64 _, .int .i64 _, .slice _ _ _, .slice _ _ _]) ty101 rfl rfl rfl rfl rfl rfl rfl rfl ?_
      refine W.nil (thn_n ?_)
      refine WC.ret ?_
      refine ⟨.inr rfl, [_], ⟨⟨_, _, _, _, _, rfl, nthM_mem (i := 0) rfl, ty101, (by simp), rfl, rfl⟩, trivial⟩, [], List.nil_sublist _, ?_⟩
      refine ⟨rfl, _, rfl, ?_⟩
      · exact ⟨_, _, _, _, _, _, _, _, rfl, (hv158.mono ((hG164.trans hG199).trans hG206)), (hv165.mono (hG199.trans hG206)), (hv200.mono hG206), hv207, (by assumption)⟩

theorem sound22_fc {G : GH} {cs_n : List Value} {n : Nd} (h_n : NodeC G cs_n n) :
    Fc Try.prog 76 [.agg (List.toArray cs_n)] G [] (fun v _ _ => v = .bool (decide n.sound)) := by
  obtain ⟨pa_n, pc_n, ka_n, kc_n, ma_n, mc_n, ra_n, rc_n, rfl, hp_n, hk_n, hm_n, hr_n, hok_n⟩ := h_n
  have h1 := hp_n.len47
  have h2 := hk_n.len47
  have h3 := hm_n.len47
  have h4 := hr_n.len47
  refine Fc.intro (rs := [.tmp 2]) cl76 Try.func76 rfl Try.ntmps76 rfl rfl (fun w0 => ?_)
  refine WC.seq ?_
  refine WC.region ?_
  refine W.box (L := [.int .i64 _, .int .i64 _, .slice _ _ _, .slice _ _ _, .string _, .bool _, .int .i64 _, .int .i64 _, .slice _ _ _, .slice _ _ _]) rfl rfl (fun b213 => ?_)
  refine W.as ?_
  refine W.nil (thn_n ?_)
  refine WC.seq ?_
  refine WC.seq ?_
  refine WC.region ?_
  refine W.ok (ok_loadB (i := 0) (vs := [.int .i64 _, .int .i64 _, .slice _ _ _, .slice _ _ _, .string _, .bool _, .int .i64 _, .int .i64 _, .slice _ _ _, .slice _ _ _]) ty101 rfl rfl rfl rfl (by simp)) ?_
  refine W.lit (e := eNode) (l := [_]) (css := [[.int .i64 _, .int .i64 _, .slice _ _ _, .slice _ _ _, .string _, .bool _, .int .i64 _, .int .i64 _, .slice _ _ _, .slice _ _ _]]) sl148 ty101 zr101 rfl rfl rfl rfl rfl rfl ⟨⟨_, _, _, _, _, _, _, _, rfl, hp_n, hk_n, hm_n, hr_n, hok_n⟩, trivial⟩ (fun bl214 G214 hG214 hv214 => ?_)
  refine W.qcall (light_fc hv214 _ _ (by omega)) rfl ?_
  refine W.ok (ok_not rfl) ?_
  refine W.nil (thn_n ?_)
  refine WC.cond (b := _) rfl (fun h6 => ?_) (fun h6 => ?_)
  · refine WC.seq ?_
    refine WC.region ?_
    refine W.as ?_
    refine W.nil (thn_n ?_)
    refine WC.ret (thn_r ?_)
    refine ⟨.inr rfl, [_], ⟨rfl, trivial⟩, [], List.nil_sublist _, ?_⟩
    refine congrArg Value.bool ?_
    exact (decide_eq_false fun h => by simp [h.1] at h6).symm
  · refine WC.skip (thn_n ?_)
    refine WC.seq ?_
    refine WC.seq ?_
    refine WC.region ?_
    refine W.ok (ok_fieldB fd101_1 rfl) ?_
    refine W.ok (ok_loadB (i := 0) (vs := [.int .i64 _]) ty3 rfl rfl rfl rfl (by simp)) ?_
    refine W.ok (ok_eql rfl rfl) ?_
    refine W.nil (thn_n ?_)
    refine WC.cond (b := _) rfl (fun h9 => ?_) (fun h9 => ?_)
    · have p9 := of_decide_eq_true h9
      refine WC.seq ?_
      refine WC.region ?_
      refine W.ok (ok_fieldB fd101_9 rfl) ?_
      refine W.ok (ok_loadB (i := 0) (vs := [.slice _ _ _]) ty22 rfl rfl rfl rfl (by simp)) ?_
      refine W.qcall (rightp_fc (hr_n.mono hG214)) rfl ?_
      refine W.as ?_
      refine W.nil (thn_n ?_)
      refine WC.ret (thn_r ?_)
      refine ⟨.inr rfl, [_], ⟨rfl, trivial⟩, [], List.nil_sublist _, ?_⟩
      refine congrArg Value.bool ?_
      exact decide_eq_decide.2 ⟨fun q => ⟨by simpa using h6, by rw [if_pos p9]; exact q⟩, fun h => by have h := h.2; rw [if_pos p9] at h; exact h⟩
    · have p9 := of_decide_eq_false h9
      refine WC.skip (thn_n ?_)
      refine WC.seq ?_
      refine WC.region ?_
      refine W.ok (ok_fieldB fd101_8 rfl) ?_
      refine W.ok (ok_loadB (i := 0) (vs := [.slice _ _ _]) ty23 rfl rfl rfl rfl (by simp)) ?_
      refine W.qcall (mall_fc (hm_n.mono hG214)) rfl ?_
      refine W.as ?_
      refine W.nil (thn_n ?_)
      refine WC.ret ?_
      refine ⟨.inr rfl, [_], ⟨rfl, trivial⟩, [], List.nil_sublist _, ?_⟩
      refine congrArg Value.bool ?_
      exact decide_eq_decide.2 ⟨fun q => ⟨by simpa using h6, by rw [if_neg p9]; exact q⟩, fun h => by have h := h.2; rw [if_neg p9] at h; exact h⟩

theorem canegfc {G : GH} {cs_n : List Value} {n : Nd} (h_n : NodeC G cs_n n) (i : Int) (k : Str) (nv : Int) (hz : n.pivots.length ≤ 1000000 ∧ n.kids.length ≤ 1000000) (hi : i64 i) (hv : i64 nv) (hn : i < 0) :
    Fc Try.prog 78 [.agg (List.toArray cs_n), .int .i64 i, .string k.b, .int .i64 nv] G [] (fun v G' M' => M' = [] ∧ ∃ r : Nd × Bool, r = ((Nd.zero, false) : Nd × Bool) ∧ ∃ u0, v = .tuple #[.agg (List.toArray u0), .bool (r.2)] ∧ NodeC G' u0 (r.1)) := by
  obtain ⟨pa_n, pc_n, ka_n, kc_n, ma_n, mc_n, ra_n, rc_n, rfl, hp_n, hk_n, hm_n, hr_n, hok_n⟩ := h_n
  have h1 := hp_n.len47
  have h2 := hk_n.len47
  have h3 := hm_n.len47
  have h4 := hr_n.len47
  obtain ⟨hz1, hz2⟩ := hz
  have hv1 := hv.1
  have hv2 := hv.2
  have hi1 := hi.1
  have hi2 := hi.2
  have b1 : n.pivots.length * 16 ≤ 140737488355328 := hp_n.bytes
  have b2 : n.kids.length * 8 ≤ 140737488355328 := hk_n.bytes
  refine Fc.intro (rs := [.cell 8 101, .tmp 9]) cl78 Try.func78 rfl Try.ntmps78 rfl rfl (fun w0 => ?_)
  refine WC.seq ?_
  refine WC.region ?_
  refine W.box (L := [.int .i64 _, .int .i64 _, .slice _ _ _, .slice _ _ _, .string _, .bool _, .int .i64 _, .int .i64 _, .slice _ _ _, .slice _ _ _]) rfl rfl (fun b215 => ?_)
  refine W.alloc zr101 (fun b216 => ?_)
  refine W.as ?_
  refine W.nil (thn_n ?_)
  refine WC.seq ?_
  refine WC.seq ?_
  refine WC.region ?_
  refine W.ok (ok_fieldB fd101_1 rfl) ?_
  refine W.ok (ok_loadB (i := 1) (vs := [.int .i64 _]) ty3 rfl rfl rfl rfl (by simp)) ?_
  refine W.ok (ok_eql rfl rfl) ?_
  refine W.nil (thn_n ?_)
  refine WC.cond (b := _) rfl (fun h15 => ?_) (fun h15 => ?_)
  · have p15 := of_decide_eq_true h15
    refine WC.seq ?_
    refine WC.region ?_
    refine W.ok (ok_build (L := [.int .i64 _, .int .i64 _, .slice _ _ _, .slice _ _ _, .string _, .bool _, .int .i64 _, .int .i64 _, .slice _ _ _, .slice _ _ _]) pl101 zr101 rfl rfl rfl) ?_
    refine W.store (i := 0) (vs := [.int .i64 _, .int .i64 _, .slice _ _ _, .slice _ _ _, .string _, .bool _, .int .i64 _, .int .i64 _, .slice _ _ _, .slice _ _ _]) (L' := [.int .i64 _, .int .i64 _, .slice _ _ _, .slice _ _ _, .string _, .bool _, .int .i64 _, .int .i64 _, .slice _ _ _, .slice _ _ _]) ty101 rfl rfl rfl rfl rfl rfl rfl rfl ?_
    refine W.as ?_
    refine W.nil (thn_n ?_)
    refine WC.ret (thn_r ?_)
    refine ⟨.inr rfl, [_, _], ⟨⟨_, _, _, _, _, rfl, nthM_mem (i := 0) rfl, ty101, (by simp), rfl, rfl⟩, rfl, trivial⟩, [], List.nil_sublist _, ?_⟩
    refine ⟨rfl, _, rfl, _, rfl, ?_⟩
    · exact ⟨_, _, _, _, _, _, _, _, rfl, SlR.nil, SlR.nil, SlR.nil, SlR.nil, Nd.zero_ok⟩
  · have p15 := of_decide_eq_false h15
    refine WC.skip (thn_n ?_)
    refine WC.seq ?_
    refine WC.region ?_
    refine W.ok (ok_fieldB fd101_2 rfl) ?_
    refine W.ok (ok_loadB (i := 1) (vs := [.slice _ _ _]) ty61 rfl rfl rfl rfl (by simp)) ?_
    refine W.ok (ok_fieldB fd101_3 rfl) ?_
    refine W.ok (ok_loadB (i := 1) (vs := [.slice _ _ _]) ty47 rfl rfl rfl rfl (by simp)) ?_
    refine W.mv ?_
    refine W.mv ?_
    refine W.mv ?_
    refine W.call (Mp := []) (binsn_fc hp_n hk_n _ _ _ (by assumption) (by assumption)) rfl (List.Perm.refl _) ?_
    intro _ G217 _ hG217 q220
    refine match q220 with | ⟨e_221, _, _, e_222, hv218, hv219⟩ => ?_
    subst e_221
    subst e_222
    have q224 := hv218.form
    refine match q224 with | ⟨sa_hv218, sc_hv218, e_223⟩ => ?_
    subst e_223
    have q226 := hv219.form
    refine match q226 with | ⟨sa_hv219, sc_hv219, e_225⟩ => ?_
    subst e_225
    refine W.mv ?_
    refine W.ok (ok_extract rfl rfl) ?_
    refine W.ok (ok_extract rfl rfl) ?_
    refine W.as ?_
    refine W.as ?_
    refine W.nil (thn_n ?_)
    refine WC.seq ?_
    refine WC.seq ?_
    refine WC.region ?_
    refine W.mv ?_
    refine W.ok (ok_len sl47 hv219 rfl) ?_
    refine W.ok (ok_eql rfl rfl) ?_
    refine W.nil (thn_n ?_)
    refine WC.cond (b := _) rfl (fun h30 => ?_) (fun h30 => ?_)
    · have p30 := of_decide_eq_true h30
      refine WC.seq ?_
      refine WC.region ?_
      refine W.ok (ok_build (L := [.int .i64 _, .int .i64 _, .slice _ _ _, .slice _ _ _, .string _, .bool _, .int .i64 _, .int .i64 _, .slice _ _ _, .slice _ _ _]) pl101 zr101 rfl rfl rfl) ?_
      refine W.store (i := 0) (vs := [.int .i64 _, .int .i64 _, .slice _ _ _, .slice _ _ _, .string _, .bool _, .int .i64 _, .int .i64 _, .slice _ _ _, .slice _ _ _]) (L' := [.int .i64 _, .int .i64 _, .slice _ _ _, .slice _ _ _, .string _, .bool _, .int .i64 _, .int .i64 _, .slice _ _ _, .slice _ _ _]) ty101 rfl rfl rfl rfl rfl rfl rfl rfl ?_
      refine W.as ?_
      refine W.nil (thn_n ?_)
      refine WC.ret (thn_r ?_)
      refine ⟨.inr rfl, [_, _], ⟨⟨_, _, _, _, _, rfl, nthM_mem (i := 0) rfl, ty101, (by simp), rfl, rfl⟩, rfl, trivial⟩, [], List.nil_sublist _, ?_⟩
      refine ⟨rfl, _, rfl, _, rfl, ?_⟩
      · exact ⟨_, _, _, _, _, _, _, _, rfl, SlR.nil, SlR.nil, SlR.nil, SlR.nil, Nd.zero_ok⟩
    · have p30 := of_decide_eq_false h30
      simp at p30

theorem ranegfc {G : GH} {cs_n : List Value} {n : Nd} (h_n : NodeC G cs_n n) (i : Int) (k : Str) (nv : Int) (hz : n.pivots.length ≤ 1000000 ∧ n.kids.length ≤ 1000000) (hi : i64 i) (hv : i64 nv) (hn : i < 0) :
    Fc Try.prog 79 [.agg (List.toArray cs_n), .int .i64 i, .string k.b, .int .i64 nv] G [] (fun v G' M' => M' = [] ∧ ∃ r : Nd × Bool, r = ((Nd.zero, false) : Nd × Bool) ∧ ∃ u0, v = .tuple #[.agg (List.toArray u0), .bool (r.2)] ∧ NodeC G' u0 (r.1)) := by
  obtain ⟨pa_n, pc_n, ka_n, kc_n, ma_n, mc_n, ra_n, rc_n, rfl, hp_n, hk_n, hm_n, hr_n, hok_n⟩ := h_n
  have h1 := hp_n.len47
  have h2 := hk_n.len47
  have h3 := hm_n.len47
  have h4 := hr_n.len47
  obtain ⟨hz1, hz2⟩ := hz
  have hv1 := hv.1
  have hv2 := hv.2
  have hi1 := hi.1
  have hi2 := hi.2
  have b1 : n.pivots.length * 16 ≤ 140737488355328 := hp_n.bytes
  have b2 : n.kids.length * 8 ≤ 140737488355328 := hk_n.bytes
  refine Fc.intro (rs := [.cell 8 101, .tmp 9]) cl79 Try.func79 rfl Try.ntmps79 rfl rfl (fun w0 => ?_)
  refine WC.seq ?_
  refine WC.region ?_
  refine W.box (L := [.int .i64 _, .int .i64 _, .slice _ _ _, .slice _ _ _, .string _, .bool _, .int .i64 _, .int .i64 _, .slice _ _ _, .slice _ _ _]) rfl rfl (fun b227 => ?_)
  refine W.alloc zr101 (fun b228 => ?_)
  refine W.as ?_
  refine W.nil (thn_n ?_)
  refine WC.seq ?_
  refine WC.region ?_
  refine W.ok (ok_fieldB fd101_2 rfl) ?_
  refine W.ok (ok_loadB (i := 1) (vs := [.slice _ _ _]) ty61 rfl rfl rfl rfl (by simp)) ?_
  refine W.mv ?_
  refine W.qcall (rrange_fc hp_n _ (by first | assumption | exact ⟨by omega, by omega⟩)) rfl ?_
  refine W.alloc zr68 (fun b229 => ?_)
  refine W.store (i := 0) (vs := [.string _, .string _, .bool _]) (L' := [.string _, .string _, .bool _]) ty68 rfl rfl rfl rfl rfl rfl rfl rfl ?_
  refine W.nil (thn_n ?_)
  refine WC.seq ?_
  refine WC.seq ?_
  refine WC.region ?_
  refine W.ok (ok_fieldB fd101_1 rfl) ?_
  refine W.ok (ok_loadB (i := 2) (vs := [.int .i64 _]) ty3 rfl rfl rfl rfl (by simp)) ?_
  refine W.ok (ok_eql rfl rfl) ?_
  refine W.mv ?_
  refine W.sp 19 rfl (fun h18 => ?_) (fun h18 => ?_)
  · have p18 := of_decide_eq_true h18
    refine W.no (dj := 19) rfl rfl h18 ?_
    refine W.no (dj := 19) rfl rfl h18 ?_
    refine W.ok (ok_pick_t rfl h18) ?_
    refine W.mv ?_
    refine W.no (dj := 23) rfl rfl rfl ?_
    refine W.no (dj := 23) rfl rfl rfl ?_
    refine W.no (dj := 23) rfl rfl rfl ?_
    refine W.no (dj := 23) rfl rfl rfl ?_
    refine W.no (dj := 23) rfl rfl rfl ?_
    refine W.ok (ok_pick_t rfl rfl) ?_
    refine W.mv ?_
    refine W.no (dj := 30) rfl rfl rfl ?_
    refine W.no (dj := 30) rfl rfl rfl ?_
    refine W.no (dj := 30) rfl rfl rfl ?_
    refine W.no (dj := 30) rfl rfl rfl ?_
    refine W.no (dj := 30) rfl rfl rfl ?_
    refine W.ok (ok_pick_t rfl rfl) ?_
    refine W.mv ?_
    refine W.no (dj := 37) rfl rfl rfl ?_
    refine W.no (dj := 37) rfl rfl rfl ?_
    refine W.no (dj := 37) rfl rfl rfl ?_
    refine W.no (dj := 37) rfl rfl rfl ?_
    refine W.ok (ok_pick_t rfl rfl) ?_
    refine W.mv ?_
    refine W.no (dj := 43) rfl rfl rfl ?_
    refine W.no (dj := 43) rfl rfl rfl ?_
    refine W.no (dj := 43) rfl rfl rfl ?_
    refine W.no (dj := 43) rfl rfl rfl ?_
    refine W.ok (ok_pick_t rfl rfl) ?_
    refine W.nil (thn_n ?_)
    refine WC.cond_t rfl rfl ?_
    refine WC.seq ?_
    refine WC.region ?_
    refine W.ok (ok_build (L := [.int .i64 _, .int .i64 _, .slice _ _ _, .slice _ _ _, .string _, .bool _, .int .i64 _, .int .i64 _, .slice _ _ _, .slice _ _ _]) pl101 zr101 rfl rfl rfl) ?_
    refine W.store (i := 1) (vs := [.int .i64 _, .int .i64 _, .slice _ _ _, .slice _ _ _, .string _, .bool _, .int .i64 _, .int .i64 _, .slice _ _ _, .slice _ _ _]) (L' := [.int .i64 _, .int .i64 _, .slice _ _ _, .slice _ _ _, .string _, .bool _, .int .i64 _, .int .i64 _, .slice _ _ _, .slice _ _ _]) ty101 rfl rfl rfl rfl rfl rfl rfl rfl ?_
    refine W.as ?_
    refine W.nil (thn_n ?_)
    refine WC.ret (thn_r ?_)
    refine ⟨.inr rfl, [_, _], ⟨⟨_, _, _, _, _, rfl, nthM_mem (i := 1) rfl, ty101, (by simp), rfl, rfl⟩, rfl, trivial⟩, [], List.nil_sublist _, ?_⟩
    refine ⟨rfl, _, rfl, _, rfl, ?_⟩
    · exact ⟨_, _, _, _, _, _, _, _, rfl, SlR.nil, SlR.nil, SlR.nil, SlR.nil, Nd.zero_ok⟩
  · have p18 := of_decide_eq_false h18
    refine W.yes (dj := 19) rfl rfl h18 ?_
    refine W.mv ?_
    refine W.yes (dj := 19) rfl rfl h18 ?_
    refine W.ok (ok_lss rfl rfl) ?_
    refine W.ok (ok_pick_f rfl h18) ?_
    refine W.mv ?_
    refine W.sp 23 rfl (fun h21 => ?_) (fun h21 => ?_)
    · have p21 := of_decide_eq_true h21
      refine W.no (dj := 23) rfl rfl h21 ?_
      refine W.no (dj := 23) rfl rfl h21 ?_
      refine W.no (dj := 23) rfl rfl h21 ?_
      refine W.no (dj := 23) rfl rfl h21 ?_
      refine W.no (dj := 23) rfl rfl h21 ?_
      refine W.ok (ok_pick_t rfl h21) ?_
      refine W.mv ?_
      refine W.no (dj := 30) rfl rfl rfl ?_
      refine W.no (dj := 30) rfl rfl rfl ?_
      refine W.no (dj := 30) rfl rfl rfl ?_
      refine W.no (dj := 30) rfl rfl rfl ?_
      refine W.no (dj := 30) rfl rfl rfl ?_
      refine W.ok (ok_pick_t rfl rfl) ?_
      refine W.mv ?_
      refine W.no (dj := 37) rfl rfl rfl ?_
      refine W.no (dj := 37) rfl rfl rfl ?_
      refine W.no (dj := 37) rfl rfl rfl ?_
      refine W.no (dj := 37) rfl rfl rfl ?_
      refine W.ok (ok_pick_t rfl rfl) ?_
      refine W.mv ?_
      refine W.no (dj := 43) rfl rfl rfl ?_
      refine W.no (dj := 43) rfl rfl rfl ?_
      refine W.no (dj := 43) rfl rfl rfl ?_
      refine W.no (dj := 43) rfl rfl rfl ?_
      refine W.ok (ok_pick_t rfl rfl) ?_
      refine W.nil (thn_n ?_)
      refine WC.cond_t rfl rfl ?_
      refine WC.seq ?_
      refine WC.region ?_
      refine W.ok (ok_build (L := [.int .i64 _, .int .i64 _, .slice _ _ _, .slice _ _ _, .string _, .bool _, .int .i64 _, .int .i64 _, .slice _ _ _, .slice _ _ _]) pl101 zr101 rfl rfl rfl) ?_
      refine W.store (i := 1) (vs := [.int .i64 _, .int .i64 _, .slice _ _ _, .slice _ _ _, .string _, .bool _, .int .i64 _, .int .i64 _, .slice _ _ _, .slice _ _ _]) (L' := [.int .i64 _, .int .i64 _, .slice _ _ _, .slice _ _ _, .string _, .bool _, .int .i64 _, .int .i64 _, .slice _ _ _, .slice _ _ _]) ty101 rfl rfl rfl rfl rfl rfl rfl rfl ?_
      refine W.as ?_
      refine W.nil (thn_n ?_)
      refine WC.ret (thn_r ?_)
      refine ⟨.inr rfl, [_, _], ⟨⟨_, _, _, _, _, rfl, nthM_mem (i := 1) rfl, ty101, (by simp), rfl, rfl⟩, rfl, trivial⟩, [], List.nil_sublist _, ?_⟩
      refine ⟨rfl, _, rfl, _, rfl, ?_⟩
      · exact ⟨_, _, _, _, _, _, _, _, rfl, SlR.nil, SlR.nil, SlR.nil, SlR.nil, Nd.zero_ok⟩
    · have p21 := of_decide_eq_false h21
      exact absurd hn p21

theorem canat_fc {G : GH} {cs_n : List Value} {n : Nd} (h_n : NodeC G cs_n n) (i : Nat) (k : Str) (nv : Int) (hz : n.pivots.length ≤ 1000000 ∧ n.kids.length ≤ 1000000) (hi : i64 ((i : Nat) : Int)) (hv : i64 nv) :
    Fc Try.prog 78 [.agg (List.toArray cs_n), .int .i64 ((i : Nat) : Int), .string k.b, .int .i64 nv] G [] (fun v G' M' => M' = [] ∧ ∃ r : Nd × Bool, r = adoptN n i k nv ∧ ∃ u0, v = .tuple #[.agg (List.toArray u0), .bool (r.2)] ∧ NodeC G' u0 (r.1)) := by
  obtain ⟨pa_n, pc_n, ka_n, kc_n, ma_n, mc_n, ra_n, rc_n, rfl, hp_n, hk_n, hm_n, hr_n, hok_n⟩ := h_n
  have h1 := hp_n.len47
  have h2 := hk_n.len47
  have h3 := hm_n.len47
  have h4 := hr_n.len47
  obtain ⟨hz1, hz2⟩ := hz
  have hv1 := hv.1
  have hv2 := hv.2
  have hi1 := hi.1
  have hi2 := hi.2
  have b1 : n.pivots.length * 16 ≤ 140737488355328 := hp_n.bytes
  have b2 : n.kids.length * 8 ≤ 140737488355328 := hk_n.bytes
  refine Fc.intro (rs := [.cell 8 101, .tmp 9]) cl78 Try.func78 rfl Try.ntmps78 rfl rfl (fun w0 => ?_)
  refine WC.seq ?_
  refine WC.region ?_
  refine W.box (L := [.int .i64 _, .int .i64 _, .slice _ _ _, .slice _ _ _, .string _, .bool _, .int .i64 _, .int .i64 _, .slice _ _ _, .slice _ _ _]) rfl rfl (fun b230 => ?_)
  refine W.alloc zr101 (fun b231 => ?_)
  refine W.as ?_
  refine W.nil (thn_n ?_)
  refine WC.seq ?_
  refine WC.seq ?_
  refine WC.region ?_
  refine W.ok (ok_fieldB fd101_1 rfl) ?_
  refine W.ok (ok_loadB (i := 1) (vs := [.int .i64 _]) ty3 rfl rfl rfl rfl (by simp)) ?_
  refine W.ok (ok_eql rfl rfl) ?_
  refine W.nil (thn_n ?_)
  refine WC.cond (b := _) rfl (fun h15 => ?_) (fun h15 => ?_)
  · have p15 := of_decide_eq_true h15
    refine WC.seq ?_
    refine WC.region ?_
    refine W.ok (ok_build (L := [.int .i64 _, .int .i64 _, .slice _ _ _, .slice _ _ _, .string _, .bool _, .int .i64 _, .int .i64 _, .slice _ _ _, .slice _ _ _]) pl101 zr101 rfl rfl rfl) ?_
    refine W.store (i := 0) (vs := [.int .i64 _, .int .i64 _, .slice _ _ _, .slice _ _ _, .string _, .bool _, .int .i64 _, .int .i64 _, .slice _ _ _, .slice _ _ _]) (L' := [.int .i64 _, .int .i64 _, .slice _ _ _, .slice _ _ _, .string _, .bool _, .int .i64 _, .int .i64 _, .slice _ _ _, .slice _ _ _]) ty101 rfl rfl rfl rfl rfl rfl rfl rfl ?_
    refine W.as ?_
    refine W.nil (thn_n ?_)
    refine WC.ret (thn_r ?_)
    refine ⟨.inr rfl, [_, _], ⟨⟨_, _, _, _, _, rfl, nthM_mem (i := 0) rfl, ty101, (by simp), rfl, rfl⟩, rfl, trivial⟩, [], List.nil_sublist _, ?_⟩
    refine ⟨rfl, _, (adoptN_0 (.inl p15)).symm, _, rfl, ?_⟩
    · exact ⟨_, _, _, _, _, _, _, _, rfl, SlR.nil, SlR.nil, SlR.nil, SlR.nil, Nd.zero_ok⟩
  · have p15 := of_decide_eq_false h15
    refine WC.skip (thn_n ?_)
    refine WC.seq ?_
    refine WC.region ?_
    refine W.ok (ok_fieldB fd101_2 rfl) ?_
    refine W.ok (ok_loadB (i := 1) (vs := [.slice _ _ _]) ty61 rfl rfl rfl rfl (by simp)) ?_
    refine W.ok (ok_fieldB fd101_3 rfl) ?_
    refine W.ok (ok_loadB (i := 1) (vs := [.slice _ _ _]) ty47 rfl rfl rfl rfl (by simp)) ?_
    refine W.mv ?_
    refine W.mv ?_
    refine W.mv ?_
    refine W.call (Mp := []) (bins_fc hp_n hk_n _ _ _ (by first | assumption | omega | (simp; omega)) (by first | assumption | omega | (simp; omega)) (by first | assumption | exact ⟨by omega, by omega⟩) (by assumption)) rfl (List.Perm.refl _) ?_
    intro _ G232 _ hG232 q235
    refine match q235 with | ⟨e_236, _, e_237, _, _, e_238, hv233, hv234⟩ => ?_
    subst e_236
    subst e_237
    subst e_238
    have q240 := hv233.form
    refine match q240 with | ⟨sa_hv233, sc_hv233, e_239⟩ => ?_
    subst e_239
    have q242 := hv234.form
    refine match q242 with | ⟨sa_hv234, sc_hv234, e_241⟩ => ?_
    subst e_241
    refine W.mv ?_
    refine W.ok (ok_extract rfl rfl) ?_
    refine W.ok (ok_extract rfl rfl) ?_
    refine W.as ?_
    refine W.as ?_
    refine W.nil (thn_n ?_)
    refine WC.seq ?_
    refine WC.seq ?_
    refine WC.region ?_
    refine W.mv ?_
    refine W.ok (ok_len sl47 hv234 rfl) ?_
    refine W.ok (ok_eql rfl rfl) ?_
    refine W.nil (thn_n ?_)
    refine WC.cond (b := _) rfl (fun h30 => ?_) (fun h30 => ?_)
    · have p30 := of_decide_eq_true h30
      refine WC.seq ?_
      refine WC.region ?_
      refine W.ok (ok_build (L := [.int .i64 _, .int .i64 _, .slice _ _ _, .slice _ _ _, .string _, .bool _, .int .i64 _, .int .i64 _, .slice _ _ _, .slice _ _ _]) pl101 zr101 rfl rfl rfl) ?_
      refine W.store (i := 0) (vs := [.int .i64 _, .int .i64 _, .slice _ _ _, .slice _ _ _, .string _, .bool _, .int .i64 _, .int .i64 _, .slice _ _ _, .slice _ _ _]) (L' := [.int .i64 _, .int .i64 _, .slice _ _ _, .slice _ _ _, .string _, .bool _, .int .i64 _, .int .i64 _, .slice _ _ _, .slice _ _ _]) ty101 rfl rfl rfl rfl rfl rfl rfl rfl ?_
      refine W.as ?_
      refine W.nil (thn_n ?_)
      refine WC.ret (thn_r ?_)
      refine ⟨.inr rfl, [_, _], ⟨⟨_, _, _, _, _, rfl, nthM_mem (i := 0) rfl, ty101, (by simp), rfl, rfl⟩, rfl, trivial⟩, [], List.nil_sublist _, ?_⟩
      refine ⟨rfl, _, (adoptN_0 (.inr (by omega))).symm, _, rfl, ?_⟩
      · exact ⟨_, _, _, _, _, _, _, _, rfl, SlR.nil, SlR.nil, SlR.nil, SlR.nil, Nd.zero_ok⟩
    · have p30 := of_decide_eq_false h30
      refine WC.skip (thn_n ?_)
      refine WC.seq ?_
      refine WC.region ?_
      refine W.ok (ok_loadB (i := 1) (vs := [.int .i64 _, .int .i64 _, .slice _ _ _, .slice _ _ _, .string _, .bool _, .int .i64 _, .int .i64 _, .slice _ _ _, .slice _ _ _]) ty101 rfl rfl rfl rfl (by simp)) ?_
      refine W.call (Mp := []) (ncopy_fc ⟨_, _, _, _, _, _, _, _, rfl, (hp_n.mono hG232), (hk_n.mono hG232), (hm_n.mono hG232), (hr_n.mono hG232), hok_n⟩) rfl (List.Perm.refl _) ?_
      intro _ G243 _ hG243 q245
      refine match q245 with | ⟨e_246, _, e_247, hv244⟩ => ?_
      subst e_246
      subst e_247
      refine match hv244 with | ⟨_, _, _, _, _, _, _, _, e_248, hp_hv244, hk_hv244, hm_hv244, hr_hv244, hok_hv244⟩ => ?_
      subst e_248
      refine W.alloc zr101 (fun b249 => ?_)
      refine W.store (i := 0) (vs := [.int .i64 _, .int .i64 _, .slice _ _ _, .slice _ _ _, .string _, .bool _, .int .i64 _, .int .i64 _, .slice _ _ _, .slice _ _ _]) (L' := [.int .i64 _, .int .i64 _, .slice _ _ _, .slice _ _ _, .string _, .bool _, .int .i64 _, .int .i64 _, .slice _ _ _, .slice _ _ _]) ty101 rfl rfl rfl rfl rfl rfl rfl rfl ?_
      refine W.nil (thn_n ?_)
      refine WC.seq ?_
      refine WC.region ?_
      refine W.mv ?_
      refine W.mv ?_
      refine W.ok (ok_fieldB fd101_2 rfl) ?_
      refine W.store (i := 0) (vs := [.slice _ _ _]) (L' := [.int .i64 _, .int .i64 _, .slice _ _ _, .slice _ _ _, .string _, .bool _, .int .i64 _, .int .i64 _, .slice _ _ _, .slice _ _ _]) ty61 rfl rfl rfl rfl rfl rfl rfl rfl ?_
      refine W.ok (ok_fieldB fd101_3 rfl) ?_
      refine W.store (i := 0) (vs := [.slice _ _ _]) (L' := [.int .i64 _, .int .i64 _, .slice _ _ _, .slice _ _ _, .string _, .bool _, .int .i64 _, .int .i64 _, .slice _ _ _, .slice _ _ _]) ty47 rfl rfl rfl rfl rfl rfl rfl rfl ?_
      refine W.nil (thn_n ?_)
      refine WC.seq ?_
      refine WC.region ?_
      refine W.ok (ok_loadB (i := 0) (vs := [.int .i64 _, .int .i64 _, .slice _ _ _, .slice _ _ _, .string _, .bool _, .int .i64 _, .int .i64 _, .slice _ _ _, .slice _ _ _]) ty101 rfl rfl rfl rfl (by simp)) ?_
      refine W.store (i := 1) (vs := [.int .i64 _, .int .i64 _, .slice _ _ _, .slice _ _ _, .string _, .bool _, .int .i64 _, .int .i64 _, .slice _ _ _, .slice _ _ _]) (L' := [.int .i64 _, .int .i64 _, .slice _ _ _, .slice _ _ _, .string _, .bool _, .int .i64 _, .int .i64 _, .slice _ _ _, .slice _ _ _]) ty101 rfl rfl rfl rfl rfl rfl rfl rfl ?_
      refine W.as ?_
      refine W.nil (thn_n ?_)
      refine WC.ret ?_
      refine ⟨.inr rfl, [_, _], ⟨⟨_, _, _, _, _, rfl, nthM_mem (i := 1) rfl, ty101, (by simp), rfl, rfl⟩, rfl, trivial⟩, [], List.nil_sublist _, ?_⟩
      refine ⟨rfl, _, (adoptN_2 p15 (by omega)).symm, _, rfl, ?_⟩
      · exact ⟨_, _, _, _, _, _, _, _, rfl, (hv233.mono hG243), (hv234.mono hG243), hm_hv244, hr_hv244, hok_n⟩

theorem ranat_fc {G : GH} {cs_n : List Value} {n : Nd} (h_n : NodeC G cs_n n) (i : Nat) (k : Str) (nv : Int) (hz : n.pivots.length ≤ 1000000 ∧ n.kids.length ≤ 1000000) (hi : i64 ((i : Nat) : Int)) (hv : i64 nv) :
    Fc Try.prog 79 [.agg (List.toArray cs_n), .int .i64 ((i : Nat) : Int), .string k.b, .int .i64 nv] G [] (fun v G' M' => M' = [] ∧ ∃ r : Nd × Bool, r = adoptN n i k nv ∧ ∃ u0, v = .tuple #[.agg (List.toArray u0), .bool (r.2)] ∧ NodeC G' u0 (r.1)) := by
  obtain ⟨pa_n, pc_n, ka_n, kc_n, ma_n, mc_n, ra_n, rc_n, rfl, hp_n, hk_n, hm_n, hr_n, hok_n⟩ := h_n
  have h1 := hp_n.len47
  have h2 := hk_n.len47
  have h3 := hm_n.len47
  have h4 := hr_n.len47
  obtain ⟨hz1, hz2⟩ := hz
  have hv1 := hv.1
  have hv2 := hv.2
  have hi1 := hi.1
  have hi2 := hi.2
  have b1 : n.pivots.length * 16 ≤ 140737488355328 := hp_n.bytes
  have b2 : n.kids.length * 8 ≤ 140737488355328 := hk_n.bytes
  refine Fc.intro (rs := [.cell 8 101, .tmp 9]) cl79 Try.func79 rfl Try.ntmps79 rfl rfl (fun w0 => ?_)
  refine WC.seq ?_
  refine WC.region ?_
  refine W.box (L := [.int .i64 _, .int .i64 _, .slice _ _ _, .slice _ _ _, .string _, .bool _, .int .i64 _, .int .i64 _, .slice _ _ _, .slice _ _ _]) rfl rfl (fun b250 => ?_)
  refine W.alloc zr101 (fun b251 => ?_)
  refine W.as ?_
  refine W.nil (thn_n ?_)
  refine WC.seq ?_
  refine WC.region ?_
  refine W.ok (ok_fieldB fd101_2 rfl) ?_
  refine W.ok (ok_loadB (i := 1) (vs := [.slice _ _ _]) ty61 rfl rfl rfl rfl (by simp)) ?_
  refine W.mv ?_
  refine W.qcall (rrange_fc hp_n _ (by first | assumption | exact ⟨by omega, by omega⟩)) rfl ?_
  refine W.alloc zr68 (fun b252 => ?_)
  refine W.store (i := 0) (vs := [.string _, .string _, .bool _]) (L' := [.string _, .string _, .bool _]) ty68 rfl rfl rfl rfl rfl rfl rfl rfl ?_
  refine W.nil (thn_n ?_)
  refine WC.seq ?_
  refine WC.seq ?_
  refine WC.region ?_
  refine W.ok (ok_fieldB fd101_1 rfl) ?_
  refine W.ok (ok_loadB (i := 2) (vs := [.int .i64 _]) ty3 rfl rfl rfl rfl (by simp)) ?_
  refine W.ok (ok_eql rfl rfl) ?_
  refine W.mv ?_
  refine W.sp 19 rfl (fun h18 => ?_) (fun h18 => ?_)
  · have p18 := of_decide_eq_true h18
    refine W.no (dj := 19) rfl rfl h18 ?_
    refine W.no (dj := 19) rfl rfl h18 ?_
    refine W.ok (ok_pick_t rfl h18) ?_
    refine W.mv ?_
    refine W.no (dj := 23) rfl rfl rfl ?_
    refine W.no (dj := 23) rfl rfl rfl ?_
    refine W.no (dj := 23) rfl rfl rfl ?_
    refine W.no (dj := 23) rfl rfl rfl ?_
    refine W.no (dj := 23) rfl rfl rfl ?_
    refine W.ok (ok_pick_t rfl rfl) ?_
    refine W.mv ?_
    refine W.no (dj := 30) rfl rfl rfl ?_
    refine W.no (dj := 30) rfl rfl rfl ?_
    refine W.no (dj := 30) rfl rfl rfl ?_
    refine W.no (dj := 30) rfl rfl rfl ?_
    refine W.no (dj := 30) rfl rfl rfl ?_
    refine W.ok (ok_pick_t rfl rfl) ?_
    refine W.mv ?_
    refine W.no (dj := 37) rfl rfl rfl ?_
    refine W.no (dj := 37) rfl rfl rfl ?_
    refine W.no (dj := 37) rfl rfl rfl ?_
    refine W.no (dj := 37) rfl rfl rfl ?_
    refine W.ok (ok_pick_t rfl rfl) ?_
    refine W.mv ?_
    refine W.no (dj := 43) rfl rfl rfl ?_
    refine W.no (dj := 43) rfl rfl rfl ?_
    refine W.no (dj := 43) rfl rfl rfl ?_
    refine W.no (dj := 43) rfl rfl rfl ?_
    refine W.ok (ok_pick_t rfl rfl) ?_
    refine W.nil (thn_n ?_)
    refine WC.cond_t rfl rfl ?_
    refine WC.seq ?_
    refine WC.region ?_
    refine W.ok (ok_build (L := [.int .i64 _, .int .i64 _, .slice _ _ _, .slice _ _ _, .string _, .bool _, .int .i64 _, .int .i64 _, .slice _ _ _, .slice _ _ _]) pl101 zr101 rfl rfl rfl) ?_
    refine W.store (i := 1) (vs := [.int .i64 _, .int .i64 _, .slice _ _ _, .slice _ _ _, .string _, .bool _, .int .i64 _, .int .i64 _, .slice _ _ _, .slice _ _ _]) (L' := [.int .i64 _, .int .i64 _, .slice _ _ _, .slice _ _ _, .string _, .bool _, .int .i64 _, .int .i64 _, .slice _ _ _, .slice _ _ _]) ty101 rfl rfl rfl rfl rfl rfl rfl rfl ?_
    refine W.as ?_
    refine W.nil (thn_n ?_)
    refine WC.ret (thn_r ?_)
    refine ⟨.inr rfl, [_, _], ⟨⟨_, _, _, _, _, rfl, nthM_mem (i := 1) rfl, ty101, (by simp), rfl, rfl⟩, rfl, trivial⟩, [], List.nil_sublist _, ?_⟩
    refine ⟨rfl, _, (adoptN_0 (.inl p18)).symm, _, rfl, ?_⟩
    · exact ⟨_, _, _, _, _, _, _, _, rfl, SlR.nil, SlR.nil, SlR.nil, SlR.nil, Nd.zero_ok⟩
  · have p18 := of_decide_eq_false h18
    refine W.yes (dj := 19) rfl rfl h18 ?_
    refine W.mv ?_
    refine W.yes (dj := 19) rfl rfl h18 ?_
    refine W.ok (ok_lss rfl rfl) ?_
    refine W.ok (ok_pick_f rfl h18) ?_
    refine W.mv ?_
    refine W.sp 23 rfl (fun h21 => ?_) (fun h21 => ?_)
    · have p21 := of_decide_eq_true h21
      exfalso; omega
    · have p21 := of_decide_eq_false h21
      refine W.yes (dj := 23) rfl rfl h21 ?_
      refine W.mv ?_
      refine W.yes (dj := 23) rfl rfl h21 ?_
      refine W.ok (ok_fieldB fd101_3 rfl) ?_
      refine W.yes (dj := 23) rfl rfl h21 ?_
      refine W.ok (ok_loadB (i := 2) (vs := [.slice _ _ _]) ty47 rfl rfl rfl rfl (by simp)) ?_
      refine W.yes (dj := 23) rfl rfl h21 ?_
      refine W.ok (ok_len sl47 hk_n rfl) ?_
      refine W.yes (dj := 23) rfl rfl h21 ?_
      refine W.ok (ok_geq rfl rfl) ?_
      refine W.ok (ok_pick_f rfl h21) ?_
      refine W.mv ?_
      refine W.sp 30 rfl (fun h28 => ?_) (fun h28 => ?_)
      · have p28 := of_decide_eq_true h28
        refine W.no (dj := 30) rfl rfl h28 ?_
        refine W.no (dj := 30) rfl rfl h28 ?_
        refine W.no (dj := 30) rfl rfl h28 ?_
        refine W.no (dj := 30) rfl rfl h28 ?_
        refine W.no (dj := 30) rfl rfl h28 ?_
        refine W.ok (ok_pick_t rfl h28) ?_
        refine W.mv ?_
        refine W.no (dj := 37) rfl rfl rfl ?_
        refine W.no (dj := 37) rfl rfl rfl ?_
        refine W.no (dj := 37) rfl rfl rfl ?_
        refine W.no (dj := 37) rfl rfl rfl ?_
        refine W.ok (ok_pick_t rfl rfl) ?_
        refine W.mv ?_
        refine W.no (dj := 43) rfl rfl rfl ?_
        refine W.no (dj := 43) rfl rfl rfl ?_
        refine W.no (dj := 43) rfl rfl rfl ?_
        refine W.no (dj := 43) rfl rfl rfl ?_
        refine W.ok (ok_pick_t rfl rfl) ?_
        refine W.nil (thn_n ?_)
        refine WC.cond_t rfl rfl ?_
        refine WC.seq ?_
        refine WC.region ?_
        refine W.ok (ok_build (L := [.int .i64 _, .int .i64 _, .slice _ _ _, .slice _ _ _, .string _, .bool _, .int .i64 _, .int .i64 _, .slice _ _ _, .slice _ _ _]) pl101 zr101 rfl rfl rfl) ?_
        refine W.store (i := 1) (vs := [.int .i64 _, .int .i64 _, .slice _ _ _, .slice _ _ _, .string _, .bool _, .int .i64 _, .int .i64 _, .slice _ _ _, .slice _ _ _]) (L' := [.int .i64 _, .int .i64 _, .slice _ _ _, .slice _ _ _, .string _, .bool _, .int .i64 _, .int .i64 _, .slice _ _ _, .slice _ _ _]) ty101 rfl rfl rfl rfl rfl rfl rfl rfl ?_
        refine W.as ?_
        refine W.nil (thn_n ?_)
        refine WC.ret (thn_r ?_)
        refine ⟨.inr rfl, [_, _], ⟨⟨_, _, _, _, _, rfl, nthM_mem (i := 1) rfl, ty101, (by simp), rfl, rfl⟩, rfl, trivial⟩, [], List.nil_sublist _, ?_⟩
        refine ⟨rfl, _, (adoptN_0 (.inr (bins_0 (.inl (by omega))))).symm, _, rfl, ?_⟩
        · exact ⟨_, _, _, _, _, _, _, _, rfl, SlR.nil, SlR.nil, SlR.nil, SlR.nil, Nd.zero_ok⟩
      · have p28 := of_decide_eq_false h28
        refine W.yes (dj := 30) rfl rfl h28 ?_
        refine W.mv ?_
        refine W.yes (dj := 30) rfl rfl h28 ?_
        refine W.ok (ok_fieldB fd101_2 rfl) ?_
        refine W.yes (dj := 30) rfl rfl h28 ?_
        refine W.ok (ok_loadB (i := 2) (vs := [.slice _ _ _]) ty61 rfl rfl rfl rfl (by simp)) ?_
        refine W.yes (dj := 30) rfl rfl h28 ?_
        refine W.ok (ok_len sl61 hp_n rfl) ?_
        refine W.yes (dj := 30) rfl rfl h28 ?_
        refine W.ok (ok_gtr rfl rfl) ?_
        refine W.ok (ok_pick_f rfl h28) ?_
        refine W.mv ?_
        refine W.sp 37 rfl (fun h35 => ?_) (fun h35 => ?_)
        · have p35 := of_decide_eq_true h35
          refine W.no (dj := 37) rfl rfl h35 ?_
          refine W.no (dj := 37) rfl rfl h35 ?_
          refine W.no (dj := 37) rfl rfl h35 ?_
          refine W.no (dj := 37) rfl rfl h35 ?_
          refine W.ok (ok_pick_t rfl h35) ?_
          refine W.mv ?_
          refine W.no (dj := 43) rfl rfl rfl ?_
          refine W.no (dj := 43) rfl rfl rfl ?_
          refine W.no (dj := 43) rfl rfl rfl ?_
          refine W.no (dj := 43) rfl rfl rfl ?_
          refine W.ok (ok_pick_t rfl rfl) ?_
          refine W.nil (thn_n ?_)
          refine WC.cond_t rfl rfl ?_
          refine WC.seq ?_
          refine WC.region ?_
          refine W.ok (ok_build (L := [.int .i64 _, .int .i64 _, .slice _ _ _, .slice _ _ _, .string _, .bool _, .int .i64 _, .int .i64 _, .slice _ _ _, .slice _ _ _]) pl101 zr101 rfl rfl rfl) ?_
          refine W.store (i := 1) (vs := [.int .i64 _, .int .i64 _, .slice _ _ _, .slice _ _ _, .string _, .bool _, .int .i64 _, .int .i64 _, .slice _ _ _, .slice _ _ _]) (L' := [.int .i64 _, .int .i64 _, .slice _ _ _, .slice _ _ _, .string _, .bool _, .int .i64 _, .int .i64 _, .slice _ _ _, .slice _ _ _]) ty101 rfl rfl rfl rfl rfl rfl rfl rfl ?_
          refine W.as ?_
          refine W.nil (thn_n ?_)
          refine WC.ret (thn_r ?_)
          refine ⟨.inr rfl, [_, _], ⟨⟨_, _, _, _, _, rfl, nthM_mem (i := 1) rfl, ty101, (by simp), rfl, rfl⟩, rfl, trivial⟩, [], List.nil_sublist _, ?_⟩
          refine ⟨rfl, _, (adoptN_0 (.inr (bins_0 (.inr (.inl (has_out (by omega))))))).symm, _, rfl, ?_⟩
          · exact ⟨_, _, _, _, _, _, _, _, rfl, SlR.nil, SlR.nil, SlR.nil, SlR.nil, Nd.zero_ok⟩
        · have p35 := of_decide_eq_false h35
          refine W.yes (dj := 37) rfl rfl h35 ?_
          refine W.ok (ok_loadB (i := 0) (vs := [.string _, .string _, .bool _]) ty68 rfl rfl rfl rfl (by simp)) ?_
          refine W.yes (dj := 37) rfl rfl h35 ?_
          refine W.mv ?_
          refine W.yes (dj := 37) rfl rfl h35 ?_
          refine W.qcall (has_fc _ _ _ _) rfl ?_
          refine W.yes (dj := 37) rfl rfl h35 ?_
          refine W.ok (ok_not rfl) ?_
          refine W.ok (ok_pick_f rfl h35) ?_
          refine W.mv ?_
          refine W.sp 43 rfl (fun h41 => ?_) (fun h41 => ?_)
          · refine W.no (dj := 43) rfl rfl h41 ?_
            refine W.no (dj := 43) rfl rfl h41 ?_
            refine W.no (dj := 43) rfl rfl h41 ?_
            refine W.no (dj := 43) rfl rfl h41 ?_
            refine W.ok (ok_pick_t rfl h41) ?_
            refine W.nil (thn_n ?_)
            refine WC.cond_t rfl rfl ?_
            refine WC.seq ?_
            refine WC.region ?_
            refine W.ok (ok_build (L := [.int .i64 _, .int .i64 _, .slice _ _ _, .slice _ _ _, .string _, .bool _, .int .i64 _, .int .i64 _, .slice _ _ _, .slice _ _ _]) pl101 zr101 rfl rfl rfl) ?_
            refine W.store (i := 1) (vs := [.int .i64 _, .int .i64 _, .slice _ _ _, .slice _ _ _, .string _, .bool _, .int .i64 _, .int .i64 _, .slice _ _ _, .slice _ _ _]) (L' := [.int .i64 _, .int .i64 _, .slice _ _ _, .slice _ _ _, .string _, .bool _, .int .i64 _, .int .i64 _, .slice _ _ _, .slice _ _ _]) ty101 rfl rfl rfl rfl rfl rfl rfl rfl ?_
            refine W.as ?_
            refine W.nil (thn_n ?_)
            refine WC.ret (thn_r ?_)
            refine ⟨.inr rfl, [_, _], ⟨⟨_, _, _, _, _, rfl, nthM_mem (i := 1) rfl, ty101, (by simp), rfl, rfl⟩, rfl, trivial⟩, [], List.nil_sublist _, ?_⟩
            refine ⟨rfl, _, (adoptN_0 (.inr (bins_0 (.inr (.inl (by simpa using h41)))))).symm, _, rfl, ?_⟩
            · exact ⟨_, _, _, _, _, _, _, _, rfl, SlR.nil, SlR.nil, SlR.nil, SlR.nil, Nd.zero_ok⟩
          · refine W.yes (dj := 43) rfl rfl h41 ?_
            refine W.mv ?_
            refine W.yes (dj := 43) rfl rfl h41 ?_
            refine W.ok (ok_fieldB fd68_0 rfl) ?_
            refine W.yes (dj := 43) rfl rfl h41 ?_
            refine W.ok (ok_loadB (i := 0) (vs := [.string _]) ty9 rfl rfl rfl rfl (by simp)) ?_
            refine W.yes (dj := 43) rfl rfl h41 ?_
            refine W.ok (ok_eqlS rfl rfl) ?_
            refine W.ok (ok_pick_f rfl h41) ?_
            refine W.nil (thn_n ?_)
            refine WC.cond (b := _) rfl (fun h47 => ?_) (fun h47 => ?_)
            · have p47 := of_decide_eq_true h47
              refine WC.seq ?_
              refine WC.region ?_
              refine W.ok (ok_build (L := [.int .i64 _, .int .i64 _, .slice _ _ _, .slice _ _ _, .string _, .bool _, .int .i64 _, .int .i64 _, .slice _ _ _, .slice _ _ _]) pl101 zr101 rfl rfl rfl) ?_
              refine W.store (i := 1) (vs := [.int .i64 _, .int .i64 _, .slice _ _ _, .slice _ _ _, .string _, .bool _, .int .i64 _, .int .i64 _, .slice _ _ _, .slice _ _ _]) (L' := [.int .i64 _, .int .i64 _, .slice _ _ _, .slice _ _ _, .string _, .bool _, .int .i64 _, .int .i64 _, .slice _ _ _, .slice _ _ _]) ty101 rfl rfl rfl rfl rfl rfl rfl rfl ?_
              refine W.as ?_
              refine W.nil (thn_n ?_)
              refine WC.ret (thn_r ?_)
              refine ⟨.inr rfl, [_, _], ⟨⟨_, _, _, _, _, rfl, nthM_mem (i := 1) rfl, ty101, (by simp), rfl, rfl⟩, rfl, trivial⟩, [], List.nil_sublist _, ?_⟩
              refine ⟨rfl, _, (adoptN_0 (.inr (bins_0 (.inr (.inr (Str.ext' p47)))))).symm, _, rfl, ?_⟩
              · exact ⟨_, _, _, _, _, _, _, _, rfl, SlR.nil, SlR.nil, SlR.nil, SlR.nil, Nd.zero_ok⟩
            · have p47 := of_decide_eq_false h47
              refine WC.skip (thn_n ?_)
              refine WC.seq ?_
              refine WC.region ?_
              refine W.ok (ok_loadB (i := 2) (vs := [.int .i64 _, .int .i64 _, .slice _ _ _, .slice _ _ _, .string _, .bool _, .int .i64 _, .int .i64 _, .slice _ _ _, .slice _ _ _]) ty101 rfl rfl rfl rfl (by simp)) ?_
              refine W.alloc zr101 (fun b253 => ?_)
              refine W.store (i := 0) (vs := [.int .i64 _, .int .i64 _, .slice _ _ _, .slice _ _ _, .string _, .bool _, .int .i64 _, .int .i64 _, .slice _ _ _, .slice _ _ _]) (L' := [.int .i64 _, .int .i64 _, .slice _ _ _, .slice _ _ _, .string _, .bool _, .int .i64 _, .int .i64 _, .slice _ _ _, .slice _ _ _]) ty101 rfl rfl rfl rfl rfl rfl rfl rfl ?_
              refine W.nil (thn_n ?_)
              refine WC.seq ?_
              refine WC.drawW _ (((((List.Sublist.refl _).cons_cons _).cons_cons _).cons_cons _).cons _) mix (by rintro _ _ _ _ ⟨h | h, _⟩ <;> cases h) ?_
              refine WD.take 0 rfl rfl rfl (by kernel_rfl) (by kernel_rfl) (by kernel_rfl) (ok_fieldB fd101_2 rfl) ?_
              refine WD.take 1 rfl rfl rfl (by kernel_rfl) (by kernel_rfl) (by kernel_rfl) (ok_loadB (i := 2) (vs := [.slice _ _ _]) ty61 rfl rfl rfl rfl (by simp)) ?_
              refine WD.take 2 rfl rfl rfl (by kernel_rfl) (by kernel_rfl) (by kernel_rfl) (ok_mv) ?_
              refine WD.take 4 rfl rfl rfl (by kernel_rfl) (by kernel_rfl) (by kernel_rfl) (ok_mv) ?_
              refine WD.take 7 rfl rfl rfl (by kernel_rfl) (by kernel_rfl) (by kernel_rfl) (ok_fieldB fd101_2 rfl) ?_
              refine WD.take 8 rfl rfl rfl (by kernel_rfl) (by kernel_rfl) (by kernel_rfl) (ok_loadB (i := 2) (vs := [.slice _ _ _]) ty61 rfl rfl rfl rfl (by simp)) ?_
              refine WD.take 9 rfl rfl rfl (by kernel_rfl) (by kernel_rfl) (by kernel_rfl) (ok_mv) ?_
              have hs254 := SlR.slice hp_n (lo := i) (hi := n.pivots.length) (by omega) (by omega)
              refine WD.take 10 rfl rfl rfl (by kernel_rfl) (by kernel_rfl) (by kernel_rfl) (ok_slice (i) (n.pivots.length) sl61 ty9 hp_n rfl ⟨_, _, rfl, by omega⟩ rfl ⟨by omega, by omega⟩) ?_
              refine WD.any [3, 5] (by kernel_rfl) rfl ⟨⟨_, rfl, rfl, ?_⟩, ⟨_, rfl, rfl, ?_⟩, trivial⟩
              · refine W.call (Mp := []) (cutO_fc hp_n 0 _ ⟨by omega, by omega⟩) rfl (List.Perm.refl _) ?_
                rintro v256 G255 Ms257 hG255 ho258
                refine W.perm (pmC (pmC (pmC (pmC (List.Perm.refl _))))).symm ?_
                refine W.nil ⟨hG255, ((((List.nil_sublist _).cons_cons _).cons_cons _).cons_cons _).cons _, _, ((((List.nil_sublist _).cons_cons _).cons_cons _).cons_cons _).cons _, List.Sublist.refl _, ?_⟩
                refine WD.any [5] (by kernel_rfl) rfl ⟨⟨_, rfl, rfl, ?_⟩, trivial⟩
                refine W.lit (e := eStr) (l := [_]) (css := [[.string _]]) sl61 ty9 zr9 rfl rfl rfl rfl rfl rfl ⟨rfl, trivial⟩ (fun bl259 G259 hG259 hv259 => ?_)
                refine W.nil ⟨hG259, ((((List.nil_sublist _).cons_cons _).cons_cons _).cons_cons _).cons _, _, ((((List.nil_sublist _).cons_cons _).cons_cons _).cons_cons _).cons _, List.Sublist.refl _, ?_⟩
                refine WD.any [6] (by kernel_rfl) rfl ⟨⟨_, rfl, rfl, ?_⟩, trivial⟩
                refine W.app (e := eStr) sl61 ty9 zr9 rfl by9 rfl rfl ((ho258.mono hG259)) (hv259) (pmC (pmC (pmC (pmC (List.Perm.refl _))))) (by simp only [List.length_append, List.length_drop, List.length_take, List.length_cons, List.length_nil] at *; show (_ + _) * 16 ≤ _; first | omega | (simp; done) | (simp; omega)) (fun v260 Ms261 ho262 => ?_)
                refine W.perm (pmC (pmC (pmC (pmC (List.Perm.refl _))))).symm ?_
                refine W.nil ⟨Le.rfl, ((((List.nil_sublist _).cons_cons _).cons_cons _).cons_cons _).cons _, _, ((((List.nil_sublist _).cons_cons _).cons_cons _).cons_cons _).cons _, List.Sublist.refl _, ?_⟩
                refine WD.any [11] (by kernel_rfl) rfl ⟨⟨_, rfl, rfl, ?_⟩, trivial⟩
                refine W.app (e := eStr) sl61 ty9 zr9 rfl by9 rfl rfl (ho262) ((hs254.mono (hG255.trans hG259))) (pmC (pmC (pmC (pmC (List.Perm.refl _))))) (by simp only [List.length_append, List.length_drop, List.length_take, List.length_cons, List.length_nil] at *; show (_ + _) * 16 ≤ _; first | omega | (simp; done) | (simp; omega)) (fun v263 Ms264 ho265 => ?_)
                refine W.perm (pmC (pmC (pmC (pmC (List.Perm.refl _))))).symm ?_
                refine W.nil ⟨Le.rfl, ((((List.nil_sublist _).cons_cons _).cons_cons _).cons_cons _).cons _, _, ((((List.nil_sublist _).cons_cons _).cons_cons _).cons_cons _).cons _, List.Sublist.refl _, ?_⟩
                refine WD.take 12 rfl rfl rfl (by kernel_rfl) (by kernel_rfl) (by kernel_rfl) (ok_fieldB fd101_2 rfl) ?_
                refine WD.any [13] (by kernel_rfl) rfl ⟨⟨_, rfl, rfl, ?_⟩, trivial⟩
                refine W.giveO ho265 (pmC (pmC (pmC (pmC (List.Perm.refl _))))) (fun G266 hG266 hv266 => ?_)
                have hc267 := SlR.cast hv266 (l' := (n.pivots.take i ++ [k]) ++ n.pivots.drop i) (by simp)
                have q269 := hc267.form
                refine match q269 with | ⟨_, _, e_268⟩ => ?_
                subst e_268
                refine W.store (i := 0) (vs := [.slice _ _ _]) (L' := [.int .i64 _, .int .i64 _, .slice _ _ _, .slice _ _ _, .string _, .bool _, .int .i64 _, .int .i64 _, .slice _ _ _, .slice _ _ _]) ty61 rfl rfl rfl rfl rfl rfl rfl rfl ?_
                refine W.nil ⟨hG266, ((((List.Sublist.refl _).cons_cons _).cons_cons _).cons_cons _).cons _, _, ((((List.Sublist.refl _).cons_cons _).cons_cons _).cons_cons _).cons _, List.Sublist.refl _, ?_⟩
                refine WD.done (by kernel_rfl) (thn_n ?_)
                refine WC.seq ?_
                refine WC.drawW _ (((((List.Sublist.refl _).cons_cons _).cons_cons _).cons_cons _).cons _) mix (by rintro _ _ _ _ ⟨h | h, _⟩ <;> cases h) ?_
                refine WD.take 0 rfl rfl rfl (by kernel_rfl) (by kernel_rfl) (by kernel_rfl) (ok_fieldB fd101_3 rfl) ?_
                refine WD.take 1 rfl rfl rfl (by kernel_rfl) (by kernel_rfl) (by kernel_rfl) (ok_loadB (i := 2) (vs := [.slice _ _ _]) ty47 rfl rfl rfl rfl (by simp)) ?_
                refine WD.take 2 rfl rfl rfl (by kernel_rfl) (by kernel_rfl) (by kernel_rfl) (ok_mv) ?_
                refine WD.take 3 rfl rfl rfl (by kernel_rfl) (by kernel_rfl) (by kernel_rfl) (Ok.int (n := ((i + 1 : Nat) : Int)) (ok_add rfl rfl (by omega)) (by omega)) ?_
                refine WD.take 5 rfl rfl rfl (by kernel_rfl) (by kernel_rfl) (by kernel_rfl) (ok_mv) ?_
                refine WD.take 8 rfl rfl rfl (by kernel_rfl) (by kernel_rfl) (by kernel_rfl) (ok_fieldB fd101_3 rfl) ?_
                refine WD.take 9 rfl rfl rfl (by kernel_rfl) (by kernel_rfl) (by kernel_rfl) (ok_loadB (i := 2) (vs := [.slice _ _ _]) ty47 rfl rfl rfl rfl (by simp)) ?_
                refine WD.take 10 rfl rfl rfl (by kernel_rfl) (by kernel_rfl) (by kernel_rfl) (ok_mv) ?_
                refine WD.take 11 rfl rfl rfl (by kernel_rfl) (by kernel_rfl) (by kernel_rfl) (Ok.int (n := ((i + 1 : Nat) : Int)) (ok_add rfl rfl (by omega)) (by omega)) ?_
                have hs270 := SlR.slice (hk_n.mono ((hG255.trans hG259).trans hG266)) (lo := i + 1) (hi := n.kids.length) (by omega) (by omega)
                refine WD.take 12 rfl rfl rfl (by kernel_rfl) (by kernel_rfl) (by kernel_rfl) (ok_slice (i + 1) (n.kids.length) sl47 ty3 (hk_n.mono ((hG255.trans hG259).trans hG266)) rfl ⟨_, _, rfl, by omega⟩ rfl ⟨by omega, by omega⟩) ?_
                refine WD.any [4, 6] (by kernel_rfl) rfl ⟨⟨_, rfl, rfl, ?_⟩, ⟨_, rfl, rfl, ?_⟩, trivial⟩
                · refine W.call (Mp := []) (partO_fc (hk_n.mono ((hG255.trans hG259).trans hG266)) 0 _ ⟨by omega, by omega⟩) rfl (List.Perm.refl _) ?_
                  rintro v272 G271 Ms273 hG271 ho274
                  refine W.perm (pmC (pmC (pmC (pmC (List.Perm.refl _))))).symm ?_
                  refine W.nil ⟨hG271, ((((List.nil_sublist _).cons_cons _).cons_cons _).cons_cons _).cons _, _, ((((List.nil_sublist _).cons_cons _).cons_cons _).cons_cons _).cons _, List.Sublist.refl _, ?_⟩
                  refine WD.any [6] (by kernel_rfl) rfl ⟨⟨_, rfl, rfl, ?_⟩, trivial⟩
                  refine W.lit (e := eInt) (l := [_]) (css := [[.int .i64 _]]) sl47 ty3 zr3 rfl rfl rfl rfl rfl rfl ⟨⟨rfl, by omega, by omega⟩, trivial⟩ (fun bl275 G275 hG275 hv275 => ?_)
                  refine W.nil ⟨hG275, ((((List.nil_sublist _).cons_cons _).cons_cons _).cons_cons _).cons _, _, ((((List.nil_sublist _).cons_cons _).cons_cons _).cons_cons _).cons _, List.Sublist.refl _, ?_⟩
                  refine WD.any [7] (by kernel_rfl) rfl ⟨⟨_, rfl, rfl, ?_⟩, trivial⟩
                  refine W.app (e := eInt) sl47 ty3 zr3 rfl by3 rfl rfl ((ho274.mono hG275)) (hv275) (pmC (pmC (pmC (pmC (List.Perm.refl _))))) (by simp only [List.length_append, List.length_drop, List.length_take, List.length_cons, List.length_nil] at *; show (_ + _) * 8 ≤ _; first | omega | (simp; done) | (simp; omega)) (fun v276 Ms277 ho278 => ?_)
                  refine W.perm (pmC (pmC (pmC (pmC (List.Perm.refl _))))).symm ?_
                  refine W.nil ⟨Le.rfl, ((((List.nil_sublist _).cons_cons _).cons_cons _).cons_cons _).cons _, _, ((((List.nil_sublist _).cons_cons _).cons_cons _).cons_cons _).cons _, List.Sublist.refl _, ?_⟩
                  refine WD.any [13] (by kernel_rfl) rfl ⟨⟨_, rfl, rfl, ?_⟩, trivial⟩
                  refine W.app (e := eInt) sl47 ty3 zr3 rfl by3 rfl rfl (ho278) ((hs270.mono (hG271.trans hG275))) (pmC (pmC (pmC (pmC (List.Perm.refl _))))) (by simp only [List.length_append, List.length_drop, List.length_take, List.length_cons, List.length_nil] at *; show (_ + _) * 8 ≤ _; first | omega | (simp; done) | (simp; omega)) (fun v279 Ms280 ho281 => ?_)
                  refine W.perm (pmC (pmC (pmC (pmC (List.Perm.refl _))))).symm ?_
                  refine W.nil ⟨Le.rfl, ((((List.nil_sublist _).cons_cons _).cons_cons _).cons_cons _).cons _, _, ((((List.nil_sublist _).cons_cons _).cons_cons _).cons_cons _).cons _, List.Sublist.refl _, ?_⟩
                  refine WD.take 14 rfl rfl rfl (by kernel_rfl) (by kernel_rfl) (by kernel_rfl) (ok_fieldB fd101_3 rfl) ?_
                  refine WD.any [15] (by kernel_rfl) rfl ⟨⟨_, rfl, rfl, ?_⟩, trivial⟩
                  refine W.giveO ho281 (pmC (pmC (pmC (pmC (List.Perm.refl _))))) (fun G282 hG282 hv282 => ?_)
                  have hc283 := SlR.cast hv282 (l' := (n.kids.take (i + 1) ++ [nv]) ++ n.kids.drop (i + 1)) (by simp)
                  have q285 := hc283.form
                  refine match q285 with | ⟨_, _, e_284⟩ => ?_
                  subst e_284
                  refine W.store (i := 0) (vs := [.slice _ _ _]) (L' := [.int .i64 _, .int .i64 _, .slice _ _ _, .slice _ _ _, .string _, .bool _, .int .i64 _, .int .i64 _, .slice _ _ _, .slice _ _ _]) ty47 rfl rfl rfl rfl rfl rfl rfl rfl ?_
                  refine W.nil ⟨hG282, ((((List.Sublist.refl _).cons_cons _).cons_cons _).cons_cons _).cons _, _, ((((List.Sublist.refl _).cons_cons _).cons_cons _).cons_cons _).cons _, List.Sublist.refl _, ?_⟩
                  refine WD.done (by kernel_rfl) (thn_n ?_)
                  refine WC.seq ?_
                  refine WC.region ?_
                  refine W.ok (ok_loadB (i := 0) (vs := [.int .i64 _, .int .i64 _, .slice _ _ _, .slice _ _ _, .string _, .bool _, .int .i64 _, .int .i64 _, .slice _ _ _, .slice _ _ _]) ty101 rfl rfl rfl rfl (by simp)) ?_
                  refine W.store (i := 2) (vs := [.int .i64 _, .int .i64 _, .slice _ _ _, .slice _ _ _, .string _, .bool _, .int .i64 _, .int .i64 _, .slice _ _ _, .slice _ _ _]) (L' := [.int .i64 _, .int .i64 _, .slice _ _ _, .slice _ _ _, .string _, .bool _, .int .i64 _, .int .i64 _, .slice _ _ _, .slice _ _ _]) ty101 rfl rfl rfl rfl rfl rfl rfl rfl ?_
                  refine W.as ?_
                  refine W.nil (thn_n ?_)
                  refine WC.ret ?_
                  refine ⟨.inr rfl, [_, _], ⟨⟨_, _, _, _, _, rfl, nthM_mem (i := 2) rfl, ty101, (by simp), rfl, rfl⟩, rfl, trivial⟩, [], List.nil_sublist _, ?_⟩
                  refine ⟨rfl, _, (adoptN_1 p18 (by omega) (by simpa using h41) (fun e => p47 (congrArg Str.b e))).symm, _, rfl, ?_⟩
                  · exact ⟨_, _, _, _, _, _, _, _, rfl, (hc267.mono ((hG271.trans hG275).trans hG282)), hc283, (hm_n.mono (((((hG255.trans hG259).trans hG266).trans hG271).trans hG275).trans hG282)), (hr_n.mono (((((hG255.trans hG259).trans hG266).trans hG271).trans hG275).trans hG282)), hok_n⟩
                · refine W.lit (e := eInt) (l := [_]) (css := [[.int .i64 _]]) sl47 ty3 zr3 rfl rfl rfl rfl rfl rfl ⟨⟨rfl, by omega, by omega⟩, trivial⟩ (fun bl286 G286 hG286 hv286 => ?_)
                  refine W.nil ⟨hG286, ((((List.Sublist.refl _).cons_cons _).cons_cons _).cons_cons _).cons _, _, ((((List.Sublist.refl _).cons_cons _).cons_cons _).cons_cons _).cons _, List.Sublist.refl _, ?_⟩
                  refine WD.any [4] (by kernel_rfl) rfl ⟨⟨_, rfl, rfl, ?_⟩, trivial⟩
                  refine W.call (Mp := []) (partO_fc (hk_n.mono (((hG255.trans hG259).trans hG266).trans hG286)) 0 _ ⟨by omega, by omega⟩) rfl (List.Perm.refl _) ?_
                  rintro v288 G287 Ms289 hG287 ho290
                  refine W.perm (pmC (pmC (pmC (pmC (List.Perm.refl _))))).symm ?_
                  refine W.nil ⟨hG287, ((((List.nil_sublist _).cons_cons _).cons_cons _).cons_cons _).cons _, _, ((((List.nil_sublist _).cons_cons _).cons_cons _).cons_cons _).cons _, List.Sublist.refl _, ?_⟩
                  refine WD.any [7] (by kernel_rfl) rfl ⟨⟨_, rfl, rfl, ?_⟩, trivial⟩
                  refine W.app (e := eInt) sl47 ty3 zr3 rfl by3 rfl rfl (ho290) ((hv286.mono hG287)) (pmC (pmC (pmC (pmC (List.Perm.refl _))))) (by simp only [List.length_append, List.length_drop, List.length_take, List.length_cons, List.length_nil] at *; show (_ + _) * 8 ≤ _; first | omega | (simp; done) | (simp; omega)) (fun v291 Ms292 ho293 => ?_)
                  refine W.perm (pmC (pmC (pmC (pmC (List.Perm.refl _))))).symm ?_
                  refine W.nil ⟨Le.rfl, ((((List.nil_sublist _).cons_cons _).cons_cons _).cons_cons _).cons _, _, ((((List.nil_sublist _).cons_cons _).cons_cons _).cons_cons _).cons _, List.Sublist.refl _, ?_⟩
                  refine WD.any [13] (by kernel_rfl) rfl ⟨⟨_, rfl, rfl, ?_⟩, trivial⟩
                  refine W.app (e := eInt) sl47 ty3 zr3 rfl by3 rfl rfl (ho293) ((hs270.mono (hG286.trans hG287))) (pmC (pmC (pmC (pmC (List.Perm.refl _))))) (by simp only [List.length_append, List.length_drop, List.length_take, List.length_cons, List.length_nil] at *; show (_ + _) * 8 ≤ _; first | omega | (simp; done) | (simp; omega)) (fun v294 Ms295 ho296 => ?_)
                  refine W.perm (pmC (pmC (pmC (pmC (List.Perm.refl _))))).symm ?_
                  refine W.nil ⟨Le.rfl, ((((List.nil_sublist _).cons_cons _).cons_cons _).cons_cons _).cons _, _, ((((List.nil_sublist _).cons_cons _).cons_cons _).cons_cons _).cons _, List.Sublist.refl _, ?_⟩
                  refine WD.take 14 rfl rfl rfl (by kernel_rfl) (by kernel_rfl) (by kernel_rfl) (ok_fieldB fd101_3 rfl) ?_
                  refine WD.any [15] (by kernel_rfl) rfl ⟨⟨_, rfl, rfl, ?_⟩, trivial⟩
                  refine W.giveO ho296 (pmC (pmC (pmC (pmC (List.Perm.refl _))))) (fun G297 hG297 hv297 => ?_)
                  have hc298 := SlR.cast hv297 (l' := (n.kids.take (i + 1) ++ [nv]) ++ n.kids.drop (i + 1)) (by simp)
                  have q300 := hc298.form
                  refine match q300 with | ⟨_, _, e_299⟩ => ?_
                  subst e_299
                  refine W.store (i := 0) (vs := [.slice _ _ _]) (L' := [.int .i64 _, .int .i64 _, .slice _ _ _, .slice _ _ _, .string _, .bool _, .int .i64 _, .int .i64 _, .slice _ _ _, .slice _ _ _]) ty47 rfl rfl rfl rfl rfl rfl rfl rfl ?_
                  refine W.nil ⟨hG297, ((((List.Sublist.refl _).cons_cons _).cons_cons _).cons_cons _).cons _, _, ((((List.Sublist.refl _).cons_cons _).cons_cons _).cons_cons _).cons _, List.Sublist.refl _, ?_⟩
                  refine WD.done (by kernel_rfl) (thn_n ?_)
                  refine WC.seq ?_
                  refine WC.region ?_
                  refine W.ok (ok_loadB (i := 0) (vs := [.int .i64 _, .int .i64 _, .slice _ _ _, .slice _ _ _, .string _, .bool _, .int .i64 _, .int .i64 _, .slice _ _ _, .slice _ _ _]) ty101 rfl rfl rfl rfl (by simp)) ?_
                  refine W.store (i := 2) (vs := [.int .i64 _, .int .i64 _, .slice _ _ _, .slice _ _ _, .string _, .bool _, .int .i64 _, .int .i64 _, .slice _ _ _, .slice _ _ _]) (L' := [.int .i64 _, .int .i64 _, .slice _ _ _, .slice _ _ _, .string _, .bool _, .int .i64 _, .int .i64 _, .slice _ _ _, .slice _ _ _]) ty101 rfl rfl rfl rfl rfl rfl rfl rfl ?_
                  refine W.as ?_
                  refine W.nil (thn_n ?_)
                  refine WC.ret ?_
                  refine ⟨.inr rfl, [_, _], ⟨⟨_, _, _, _, _, rfl, nthM_mem (i := 2) rfl, ty101, (by simp), rfl, rfl⟩, rfl, trivial⟩, [], List.nil_sublist _, ?_⟩
                  refine ⟨rfl, _, (adoptN_1 p18 (by omega) (by simpa using h41) (fun e => p47 (congrArg Str.b e))).symm, _, rfl, ?_⟩
                  · exact ⟨_, _, _, _, _, _, _, _, rfl, (hc267.mono ((hG286.trans hG287).trans hG297)), hc298, (hm_n.mono (((((hG255.trans hG259).trans hG266).trans hG286).trans hG287).trans hG297)), (hr_n.mono (((((hG255.trans hG259).trans hG266).trans hG286).trans hG287).trans hG297)), hok_n⟩
              · refine W.lit (e := eStr) (l := [_]) (css := [[.string _]]) sl61 ty9 zr9 rfl rfl rfl rfl rfl rfl ⟨rfl, trivial⟩ (fun bl301 G301 hG301 hv301 => ?_)
                refine W.nil ⟨hG301, ((((List.Sublist.refl _).cons_cons _).cons_cons _).cons_cons _).cons _, _, ((((List.Sublist.refl _).cons_cons _).cons_cons _).cons_cons _).cons _, List.Sublist.refl _, ?_⟩
                refine WD.any [3] (by kernel_rfl) rfl ⟨⟨_, rfl, rfl, ?_⟩, trivial⟩
                refine W.call (Mp := []) (cutO_fc (hp_n.mono hG301) 0 _ ⟨by omega, by omega⟩) rfl (List.Perm.refl _) ?_
                rintro v303 G302 Ms304 hG302 ho305
                refine W.perm (pmC (pmC (pmC (pmC (List.Perm.refl _))))).symm ?_
                refine W.nil ⟨hG302, ((((List.nil_sublist _).cons_cons _).cons_cons _).cons_cons _).cons _, _, ((((List.nil_sublist _).cons_cons _).cons_cons _).cons_cons _).cons _, List.Sublist.refl _, ?_⟩
                refine WD.any [6] (by kernel_rfl) rfl ⟨⟨_, rfl, rfl, ?_⟩, trivial⟩
                refine W.app (e := eStr) sl61 ty9 zr9 rfl by9 rfl rfl (ho305) ((hv301.mono hG302)) (pmC (pmC (pmC (pmC (List.Perm.refl _))))) (by simp only [List.length_append, List.length_drop, List.length_take, List.length_cons, List.length_nil] at *; show (_ + _) * 16 ≤ _; first | omega | (simp; done) | (simp; omega)) (fun v306 Ms307 ho308 => ?_)
                refine W.perm (pmC (pmC (pmC (pmC (List.Perm.refl _))))).symm ?_
                refine W.nil ⟨Le.rfl, ((((List.nil_sublist _).cons_cons _).cons_cons _).cons_cons _).cons _, _, ((((List.nil_sublist _).cons_cons _).cons_cons _).cons_cons _).cons _, List.Sublist.refl _, ?_⟩
                refine WD.any [11] (by kernel_rfl) rfl ⟨⟨_, rfl, rfl, ?_⟩, trivial⟩
                refine W.app (e := eStr) sl61 ty9 zr9 rfl by9 rfl rfl (ho308) ((hs254.mono (hG301.trans hG302))) (pmC (pmC (pmC (pmC (List.Perm.refl _))))) (by simp only [List.length_append, List.length_drop, List.length_take, List.length_cons, List.length_nil] at *; show (_ + _) * 16 ≤ _; first | omega | (simp; done) | (simp; omega)) (fun v309 Ms310 ho311 => ?_)
                refine W.perm (pmC (pmC (pmC (pmC (List.Perm.refl _))))).symm ?_
                refine W.nil ⟨Le.rfl, ((((List.nil_sublist _).cons_cons _).cons_cons _).cons_cons _).cons _, _, ((((List.nil_sublist _).cons_cons _).cons_cons _).cons_cons _).cons _, List.Sublist.refl _, ?_⟩
                refine WD.take 12 rfl rfl rfl (by kernel_rfl) (by kernel_rfl) (by kernel_rfl) (ok_fieldB fd101_2 rfl) ?_
                refine WD.any [13] (by kernel_rfl) rfl ⟨⟨_, rfl, rfl, ?_⟩, trivial⟩
                refine W.giveO ho311 (pmC (pmC (pmC (pmC (List.Perm.refl _))))) (fun G312 hG312 hv312 => ?_)
                have hc313 := SlR.cast hv312 (l' := (n.pivots.take i ++ [k]) ++ n.pivots.drop i) (by simp)
                have q315 := hc313.form
                refine match q315 with | ⟨_, _, e_314⟩ => ?_
                subst e_314
                refine W.store (i := 0) (vs := [.slice _ _ _]) (L' := [.int .i64 _, .int .i64 _, .slice _ _ _, .slice _ _ _, .string _, .bool _, .int .i64 _, .int .i64 _, .slice _ _ _, .slice _ _ _]) ty61 rfl rfl rfl rfl rfl rfl rfl rfl ?_
                refine W.nil ⟨hG312, ((((List.Sublist.refl _).cons_cons _).cons_cons _).cons_cons _).cons _, _, ((((List.Sublist.refl _).cons_cons _).cons_cons _).cons_cons _).cons _, List.Sublist.refl _, ?_⟩
                refine WD.done (by kernel_rfl) (thn_n ?_)
                refine WC.seq ?_
                refine WC.drawW _ (((((List.Sublist.refl _).cons_cons _).cons_cons _).cons_cons _).cons _) mix (by rintro _ _ _ _ ⟨h | h, _⟩ <;> cases h) ?_
                refine WD.take 0 rfl rfl rfl (by kernel_rfl) (by kernel_rfl) (by kernel_rfl) (ok_fieldB fd101_3 rfl) ?_
                refine WD.take 1 rfl rfl rfl (by kernel_rfl) (by kernel_rfl) (by kernel_rfl) (ok_loadB (i := 2) (vs := [.slice _ _ _]) ty47 rfl rfl rfl rfl (by simp)) ?_
                refine WD.take 2 rfl rfl rfl (by kernel_rfl) (by kernel_rfl) (by kernel_rfl) (ok_mv) ?_
                refine WD.take 3 rfl rfl rfl (by kernel_rfl) (by kernel_rfl) (by kernel_rfl) (Ok.int (n := ((i + 1 : Nat) : Int)) (ok_add rfl rfl (by omega)) (by omega)) ?_
                refine WD.take 5 rfl rfl rfl (by kernel_rfl) (by kernel_rfl) (by kernel_rfl) (ok_mv) ?_
                refine WD.take 8 rfl rfl rfl (by kernel_rfl) (by kernel_rfl) (by kernel_rfl) (ok_fieldB fd101_3 rfl) ?_
                refine WD.take 9 rfl rfl rfl (by kernel_rfl) (by kernel_rfl) (by kernel_rfl) (ok_loadB (i := 2) (vs := [.slice _ _ _]) ty47 rfl rfl rfl rfl (by simp)) ?_
                refine WD.take 10 rfl rfl rfl (by kernel_rfl) (by kernel_rfl) (by kernel_rfl) (ok_mv) ?_
                refine WD.take 11 rfl rfl rfl (by kernel_rfl) (by kernel_rfl) (by kernel_rfl) (Ok.int (n := ((i + 1 : Nat) : Int)) (ok_add rfl rfl (by omega)) (by omega)) ?_
                have hs316 := SlR.slice (hk_n.mono ((hG301.trans hG302).trans hG312)) (lo := i + 1) (hi := n.kids.length) (by omega) (by omega)
                refine WD.take 12 rfl rfl rfl (by kernel_rfl) (by kernel_rfl) (by kernel_rfl) (ok_slice (i + 1) (n.kids.length) sl47 ty3 (hk_n.mono ((hG301.trans hG302).trans hG312)) rfl ⟨_, _, rfl, by omega⟩ rfl ⟨by omega, by omega⟩) ?_
                refine WD.any [4, 6] (by kernel_rfl) rfl ⟨⟨_, rfl, rfl, ?_⟩, ⟨_, rfl, rfl, ?_⟩, trivial⟩
                · refine W.call (Mp := []) (partO_fc (hk_n.mono ((hG301.trans hG302).trans hG312)) 0 _ ⟨by omega, by omega⟩) rfl (List.Perm.refl _) ?_
                  rintro v318 G317 Ms319 hG317 ho320
                  refine W.perm (pmC (pmC (pmC (pmC (List.Perm.refl _))))).symm ?_
                  refine W.nil ⟨hG317, ((((List.nil_sublist _).cons_cons _).cons_cons _).cons_cons _).cons _, _, ((((List.nil_sublist _).cons_cons _).cons_cons _).cons_cons _).cons _, List.Sublist.refl _, ?_⟩
                  refine WD.any [6] (by kernel_rfl) rfl ⟨⟨_, rfl, rfl, ?_⟩, trivial⟩
                  refine W.lit (e := eInt) (l := [_]) (css := [[.int .i64 _]]) sl47 ty3 zr3 rfl rfl rfl rfl rfl rfl ⟨⟨rfl, by omega, by omega⟩, trivial⟩ (fun bl321 G321 hG321 hv321 => ?_)
                  refine W.nil ⟨hG321, ((((List.nil_sublist _).cons_cons _).cons_cons _).cons_cons _).cons _, _, ((((List.nil_sublist _).cons_cons _).cons_cons _).cons_cons _).cons _, List.Sublist.refl _, ?_⟩
                  refine WD.any [7] (by kernel_rfl) rfl ⟨⟨_, rfl, rfl, ?_⟩, trivial⟩
                  refine W.app (e := eInt) sl47 ty3 zr3 rfl by3 rfl rfl ((ho320.mono hG321)) (hv321) (pmC (pmC (pmC (pmC (List.Perm.refl _))))) (by simp only [List.length_append, List.length_drop, List.length_take, List.length_cons, List.length_nil] at *; show (_ + _) * 8 ≤ _; first | omega | (simp; done) | (simp; omega)) (fun v322 Ms323 ho324 => ?_)
                  refine W.perm (pmC (pmC (pmC (pmC (List.Perm.refl _))))).symm ?_
                  refine W.nil ⟨Le.rfl, ((((List.nil_sublist _).cons_cons _).cons_cons _).cons_cons _).cons _, _, ((((List.nil_sublist _).cons_cons _).cons_cons _).cons_cons _).cons _, List.Sublist.refl _, ?_⟩
                  refine WD.any [13] (by kernel_rfl) rfl ⟨⟨_, rfl, rfl, ?_⟩, trivial⟩
                  refine W.app (e := eInt) sl47 ty3 zr3 rfl by3 rfl rfl (ho324) ((hs316.mono (hG317.trans hG321))) (pmC (pmC (pmC (pmC (List.Perm.refl _))))) (by simp only [List.length_append, List.length_drop, List.length_take, List.length_cons, List.length_nil] at *; show (_ + _) * 8 ≤ _; first | omega | (simp; done) | (simp; omega)) (fun v325 Ms326 ho327 => ?_)
                  refine W.perm (pmC (pmC (pmC (pmC (List.Perm.refl _))))).symm ?_
                  refine W.nil ⟨Le.rfl, ((((List.nil_sublist _).cons_cons _).cons_cons _).cons_cons _).cons _, _, ((((List.nil_sublist _).cons_cons _).cons_cons _).cons_cons _).cons _, List.Sublist.refl _, ?_⟩
                  refine WD.take 14 rfl rfl rfl (by kernel_rfl) (by kernel_rfl) (by kernel_rfl) (ok_fieldB fd101_3 rfl) ?_
                  refine WD.any [15] (by kernel_rfl) rfl ⟨⟨_, rfl, rfl, ?_⟩, trivial⟩
                  refine W.giveO ho327 (pmC (pmC (pmC (pmC (List.Perm.refl _))))) (fun G328 hG328 hv328 => ?_)
                  have hc329 := SlR.cast hv328 (l' := (n.kids.take (i + 1) ++ [nv]) ++ n.kids.drop (i + 1)) (by simp)
                  have q331 := hc329.form
                  refine match q331 with | ⟨_, _, e_330⟩ => ?_
                  subst e_330
                  refine W.store (i := 0) (vs := [.slice _ _ _]) (L' := [.int .i64 _, .int .i64 _, .slice _ _ _, .slice _ _ _, .string _, .bool _, .int .i64 _, .int .i64 _, .slice _ _ _, .slice _ _ _]) ty47 rfl rfl rfl rfl rfl rfl rfl rfl ?_
                  refine W.nil ⟨hG328, ((((List.Sublist.refl _).cons_cons _).cons_cons _).cons_cons _).cons _, _, ((((List.Sublist.refl _).cons_cons _).cons_cons _).cons_cons _).cons _, List.Sublist.refl _, ?_⟩
                  refine WD.done (by kernel_rfl) (thn_n ?_)
                  refine WC.seq ?_
                  refine WC.region ?_
                  refine W.ok (ok_loadB (i := 0) (vs := [.int .i64 _, .int .i64 _, .slice _ _ _, .slice _ _ _, .string _, .bool _, .int .i64 _, .int .i64 _, .slice _ _ _, .slice _ _ _]) ty101 rfl rfl rfl rfl (by simp)) ?_
                  refine W.store (i := 2) (vs := [.int .i64 _, .int .i64 _, .slice _ _ _, .slice _ _ _, .string _, .bool _, .int .i64 _, .int .i64 _, .slice _ _ _, .slice _ _ _]) (L' := [.int .i64 _, .int .i64 _, .slice _ _ _, .slice _ _ _, .string _, .bool _, .int .i64 _, .int .i64 _, .slice _ _ _, .slice _ _ _]) ty101 rfl rfl rfl rfl rfl rfl rfl rfl ?_
                  refine W.as ?_
                  refine W.nil (thn_n ?_)
                  refine WC.ret ?_
                  refine ⟨.inr rfl, [_, _], ⟨⟨_, _, _, _, _, rfl, nthM_mem (i := 2) rfl, ty101, (by simp), rfl, rfl⟩, rfl, trivial⟩, [], List.nil_sublist _, ?_⟩
                  refine ⟨rfl, _, (adoptN_1 p18 (by omega) (by simpa using h41) (fun e => p47 (congrArg Str.b e))).symm, _, rfl, ?_⟩
                  · exact ⟨_, _, _, _, _, _, _, _, rfl, (hc313.mono ((hG317.trans hG321).trans hG328)), hc329, (hm_n.mono (((((hG301.trans hG302).trans hG312).trans hG317).trans hG321).trans hG328)), (hr_n.mono (((((hG301.trans hG302).trans hG312).trans hG317).trans hG321).trans hG328)), hok_n⟩
                · refine W.lit (e := eInt) (l := [_]) (css := [[.int .i64 _]]) sl47 ty3 zr3 rfl rfl rfl rfl rfl rfl ⟨⟨rfl, by omega, by omega⟩, trivial⟩ (fun bl332 G332 hG332 hv332 => ?_)
                  refine W.nil ⟨hG332, ((((List.Sublist.refl _).cons_cons _).cons_cons _).cons_cons _).cons _, _, ((((List.Sublist.refl _).cons_cons _).cons_cons _).cons_cons _).cons _, List.Sublist.refl _, ?_⟩
                  refine WD.any [4] (by kernel_rfl) rfl ⟨⟨_, rfl, rfl, ?_⟩, trivial⟩
                  refine W.call (Mp := []) (partO_fc (hk_n.mono (((hG301.trans hG302).trans hG312).trans hG332)) 0 _ ⟨by omega, by omega⟩) rfl (List.Perm.refl _) ?_
                  rintro v334 G333 Ms335 hG333 ho336
                  refine W.perm (pmC (pmC (pmC (pmC (List.Perm.refl _))))).symm ?_
                  refine W.nil ⟨hG333, ((((List.nil_sublist _).cons_cons _).cons_cons _).cons_cons _).cons _, _, ((((List.nil_sublist _).cons_cons _).cons_cons _).cons_cons _).cons _, List.Sublist.refl _, ?_⟩
                  refine WD.any [7] (by kernel_rfl) rfl ⟨⟨_, rfl, rfl, ?_⟩, trivial⟩
                  refine W.app (e := eInt) sl47 ty3 zr3 rfl by3 rfl rfl (ho336) ((hv332.mono hG333)) (pmC (pmC (pmC (pmC (List.Perm.refl _))))) (by simp only [List.length_append, List.length_drop, List.length_take, List.length_cons, List.length_nil] at *; show (_ + _) * 8 ≤ _; first | omega | (simp; done) | (simp; omega)) (fun v337 Ms338 ho339 => ?_)
                  refine W.perm (pmC (pmC (pmC (pmC (List.Perm.refl _))))).symm ?_
                  refine W.nil ⟨Le.rfl, ((((List.nil_sublist _).cons_cons _).cons_cons _).cons_cons _).cons _, _, ((((List.nil_sublist _).cons_cons _).cons_cons _).cons_cons _).cons _, List.Sublist.refl _, ?_⟩
                  refine WD.any [13] (by kernel_rfl) rfl ⟨⟨_, rfl, rfl, ?_⟩, trivial⟩
                  refine W.app (e := eInt) sl47 ty3 zr3 rfl by3 rfl rfl (ho339) ((hs316.mono (hG332.trans hG333))) (pmC (pmC (pmC (pmC (List.Perm.refl _))))) (by simp only [List.length_append, List.length_drop, List.length_take, List.length_cons, List.length_nil] at *; show (_ + _) * 8 ≤ _; first | omega | (simp; done) | (simp; omega)) (fun v340 Ms341 ho342 => ?_)
                  refine W.perm (pmC (pmC (pmC (pmC (List.Perm.refl _))))).symm ?_
                  refine W.nil ⟨Le.rfl, ((((List.nil_sublist _).cons_cons _).cons_cons _).cons_cons _).cons _, _, ((((List.nil_sublist _).cons_cons _).cons_cons _).cons_cons _).cons _, List.Sublist.refl _, ?_⟩
                  refine WD.take 14 rfl rfl rfl (by kernel_rfl) (by kernel_rfl) (by kernel_rfl) (ok_fieldB fd101_3 rfl) ?_
                  refine WD.any [15] (by kernel_rfl) rfl ⟨⟨_, rfl, rfl, ?_⟩, trivial⟩
                  refine W.giveO ho342 (pmC (pmC (pmC (pmC (List.Perm.refl _))))) (fun G343 hG343 hv343 => ?_)
                  have hc344 := SlR.cast hv343 (l' := (n.kids.take (i + 1) ++ [nv]) ++ n.kids.drop (i + 1)) (by simp)
                  have q346 := hc344.form
                  refine match q346 with | ⟨_, _, e_345⟩ => ?_
                  subst e_345
                  refine W.store (i := 0) (vs := [.slice _ _ _]) (L' := [.int .i64 _, .int .i64 _, .slice _ _ _, .slice _ _ _, .string _, .bool _, .int .i64 _, .int .i64 _, .slice _ _ _, .slice _ _ _]) ty47 rfl rfl rfl rfl rfl rfl rfl rfl ?_
                  refine W.nil ⟨hG343, ((((List.Sublist.refl _).cons_cons _).cons_cons _).cons_cons _).cons _, _, ((((List.Sublist.refl _).cons_cons _).cons_cons _).cons_cons _).cons _, List.Sublist.refl _, ?_⟩
                  refine WD.done (by kernel_rfl) (thn_n ?_)
                  refine WC.seq ?_
                  refine WC.region ?_
                  refine W.ok (ok_loadB (i := 0) (vs := [.int .i64 _, .int .i64 _, .slice _ _ _, .slice _ _ _, .string _, .bool _, .int .i64 _, .int .i64 _, .slice _ _ _, .slice _ _ _]) ty101 rfl rfl rfl rfl (by simp)) ?_
                  refine W.store (i := 2) (vs := [.int .i64 _, .int .i64 _, .slice _ _ _, .slice _ _ _, .string _, .bool _, .int .i64 _, .int .i64 _, .slice _ _ _, .slice _ _ _]) (L' := [.int .i64 _, .int .i64 _, .slice _ _ _, .slice _ _ _, .string _, .bool _, .int .i64 _, .int .i64 _, .slice _ _ _, .slice _ _ _]) ty101 rfl rfl rfl rfl rfl rfl rfl rfl ?_
                  refine W.as ?_
                  refine W.nil (thn_n ?_)
                  refine WC.ret ?_
                  refine ⟨.inr rfl, [_, _], ⟨⟨_, _, _, _, _, rfl, nthM_mem (i := 2) rfl, ty101, (by simp), rfl, rfl⟩, rfl, trivial⟩, [], List.nil_sublist _, ?_⟩
                  refine ⟨rfl, _, (adoptN_1 p18 (by omega) (by simpa using h41) (fun e => p47 (congrArg Str.b e))).symm, _, rfl, ?_⟩
                  · exact ⟨_, _, _, _, _, _, _, _, rfl, (hc313.mono ((hG332.trans hG333).trans hG343)), hc344, (hm_n.mono (((((hG301.trans hG302).trans hG312).trans hG332).trans hG333).trans hG343)), (hr_n.mono (((((hG301.trans hG302).trans hG312).trans hG332).trans hG333).trans hG343)), hok_n⟩

end Go.Proofs.Ytipdjeemjiimbaa
