/- Walks of functions on nodes. -/
import Derived.Test.YtmadhgdplocfbaaWg
import Derived.Test.YtmadhgdplocfbaaMn
namespace Go.Proofs.Ytmadhgdplocfbaa
open Go Go.Fw Go.RowKit
set_option maxRecDepth 100000
set_option maxHeartbeats 1600000
set_option linter.unusedVariables false
theorem light_fc {G : GH} {v_l : Value} {l : List Nd} (h_l : SlR eNode G v_l l) (n : Int) (m : Int) (hm : 0 ≤ m ∧ m ≤ 1073741824) :
    Fc Try.prog 77 [v_l, .int .i64 n, .int .i64 m] G [] (fun v _ _ => v = .bool (decide (Light l n m))) := by
  obtain ⟨sa_l, sc_l, rfl⟩ := h_l.form
  have hl := h_l.len47
  refine Fc.intro (rs := [.tmp 6]) cl77 Try.func77 rfl Try.ntmps77 rfl rfl (fun w0 => ?_)
  refine WC.seq ?_
  refine WC.region ?_
  refine W.as ?_
  refine W.nil (thn_n ?_)
  refine WC.seq ?_
  refine WC.seq ?_
  refine WC.region ?_
  refine W.mv ?_
  refine W.ok (ok_len sl37 h_l rfl) ?_
  refine W.mv ?_
  refine W.ok (ok_gtr rfl rfl) ?_
  refine W.nil (thn_n ?_)
  refine WC.cond (b := _) rfl (fun h11 => ?_) (fun h11 => ?_)
  · have p11 := of_decide_eq_true h11
    refine WC.seq ?_
    refine WC.region ?_
    refine W.as ?_
    refine W.nil (thn_n ?_)
    refine WC.ret (thn_r ?_)
    refine ⟨.inr rfl, [_], ⟨rfl, trivial⟩, [], List.nil_sublist _, ?_⟩
    refine congrArg Value.bool ?_
    exact (decide_eq_false fun h => by have := h.1; omega).symm
  · have p11 := of_decide_eq_false h11
    refine WC.skip (thn_n ?_)
    refine WC.seq ?_
    refine WC.seq ?_
    refine WC.region ?_
    refine W.as ?_
    refine W.nil (thn_n ?_)
    refine WC.block ?_
    refine WC.loop (X := Nat) (fun k => [(7, .int .i64 ((k : Nat) : Int)), (0, .slice sa_l l.length sc_l), (1, .int .i64 n), (2, .int .i64 m)]) (fun k _ Ml => Ml = [] ∧ ∀ i (h : i < l.length), i < k → l[i].light m) (fun k => l.length - k) 0 ⟨(by first | rfl | exact iv (by dsimp only; omega) | exact iv (by omega)), (by first | rfl | exact iv (by dsimp only; omega) | exact iv (by omega)), (by first | rfl | exact iv (by dsimp only; omega) | exact iv (by omega)), (by first | rfl | exact iv (by dsimp only; omega) | exact iv (by omega)), trivial⟩ ?_ ?_
    · exact ⟨rfl, fun i _ h => by omega⟩
    · rintro k gG252 G252 _ hG252 ⟨rfl, hk⟩
      refine WC.seq ?_
      refine WC.seq ?_
      refine WC.region ?_
      refine W.mv ?_
      refine W.mv ?_
      refine W.ok (ok_len sl37 (h_l.mono hG252) rfl) ?_
      refine W.ok (ok_lss rfl rfl) ?_
      refine W.nil (thn_n ?_)
      refine WC.cond (b := _) rfl (fun h15 => ?_) (fun h15 => ?_)
      · have p15 := of_decide_eq_true h15
        refine WC.skip (thn_n ?_)
        refine WC.seq ?_
        refine WC.block ?_
        refine WC.seq ?_
        refine WC.region ?_
        refine W.mv ?_
        refine W.mv ?_
        have q257 := (h_l.mono hG252).at (i := k) (by omega)
        refine match q257 with | ⟨_, he253, ⟨_, _, _, _, _, _, _, _, e_256, hp_n254, hk_n254, hm_n254, hr_n254, hok_n254⟩⟩ => ?_
        subst e_256
        refine W.ok (ok_indexAddr (i := k) sl37 ty45 (h_l.mono hG252) rfl rfl ⟨by omega, by omega⟩) ?_
        refine W.ok (ok_fieldE fd45_9 rfl he253.form) ?_
        refine W.ok (ok_loadE (vs := [.slice _ _ _]) ty42 he253 rfl rfl rfl (by simp)) ?_
        refine W.mv ?_
        refine W.qcall (longp_fc hr_n254 _ (by omega)) rfl ?_
        refine W.ok (ok_not rfl) ?_
        refine W.mv ?_
        refine W.sp 26 rfl (fun h25 => ?_) (fun h25 => ?_)
        · refine W.no (dj := 26) rfl rfl h25 ?_
          refine W.no (dj := 26) rfl rfl h25 ?_
          refine W.no (dj := 26) rfl rfl h25 ?_
          refine W.no (dj := 26) rfl rfl h25 ?_
          refine W.no (dj := 26) rfl rfl h25 ?_
          refine W.no (dj := 26) rfl rfl h25 ?_
          refine W.no (dj := 26) rfl rfl h25 ?_
          refine W.no (dj := 26) rfl rfl h25 ?_
          refine W.no (dj := 26) rfl rfl h25 ?_
          refine W.ok (ok_pick_t rfl h25) ?_
          refine W.mv ?_
          refine W.no (dj := 37) rfl rfl rfl ?_
          refine W.no (dj := 37) rfl rfl rfl ?_
          refine W.no (dj := 37) rfl rfl rfl ?_
          refine W.no (dj := 37) rfl rfl rfl ?_
          refine W.no (dj := 37) rfl rfl rfl ?_
          refine W.no (dj := 37) rfl rfl rfl ?_
          refine W.no (dj := 37) rfl rfl rfl ?_
          refine W.no (dj := 37) rfl rfl rfl ?_
          refine W.ok (ok_pick_t rfl rfl) ?_
          refine W.mv ?_
          refine W.no (dj := 47) rfl rfl rfl ?_
          refine W.no (dj := 47) rfl rfl rfl ?_
          refine W.no (dj := 47) rfl rfl rfl ?_
          refine W.no (dj := 47) rfl rfl rfl ?_
          refine W.no (dj := 47) rfl rfl rfl ?_
          refine W.no (dj := 47) rfl rfl rfl ?_
          refine W.no (dj := 47) rfl rfl rfl ?_
          refine W.no (dj := 47) rfl rfl rfl ?_
          refine W.ok (ok_pick_t rfl rfl) ?_
          refine W.mv ?_
          refine W.no (dj := 57) rfl rfl rfl ?_
          refine W.no (dj := 57) rfl rfl rfl ?_
          refine W.no (dj := 57) rfl rfl rfl ?_
          refine W.no (dj := 57) rfl rfl rfl ?_
          refine W.no (dj := 57) rfl rfl rfl ?_
          refine W.no (dj := 57) rfl rfl rfl ?_
          refine W.no (dj := 57) rfl rfl rfl ?_
          refine W.no (dj := 57) rfl rfl rfl ?_
          refine W.ok (ok_pick_t rfl rfl) ?_
          refine W.nil (thn_n ?_)
          refine WC.cond_t rfl rfl ?_
          refine WC.seq ?_
          refine WC.region ?_
          refine W.as ?_
          refine W.nil (thn_n ?_)
          refine WC.ret (blk_r (thn_r (thn_r (blk_r (thn_r ?_)))))
          refine ⟨.inr rfl, [_], ⟨rfl, trivial⟩, [], List.nil_sublist _, ?_⟩
          refine congrArg Value.bool ?_
          exact (decide_eq_false fun h => by obtain ⟨q1, q2, q3, q4, q5⟩ := h.2 k (by omega); first | omega | (simp at h25; omega) | (simp at h55; omega)).symm
        · refine W.yes (dj := 26) rfl rfl h25 ?_
          refine W.mv ?_
          refine W.yes (dj := 26) rfl rfl h25 ?_
          refine W.mv ?_
          refine W.yes (dj := 26) rfl rfl h25 ?_
          have q262 := (h_l.mono hG252).at (i := k) (by omega)
          refine match q262 with | ⟨_, he258, ⟨_, _, _, _, _, _, _, _, e_261, hp_n259, hk_n259, hm_n259, hr_n259, hok_n259⟩⟩ => ?_
          subst e_261
          refine W.ok (ok_indexAddr (i := k) sl37 ty45 (h_l.mono hG252) rfl rfl ⟨by omega, by omega⟩) ?_
          refine W.yes (dj := 26) rfl rfl h25 ?_
          refine W.ok (ok_fieldE fd45_2 rfl he258.form) ?_
          refine W.yes (dj := 26) rfl rfl h25 ?_
          refine W.ok (ok_loadE (vs := [.slice _ _ _]) ty25 he258 rfl rfl rfl (by simp)) ?_
          refine W.yes (dj := 26) rfl rfl h25 ?_
          refine W.mv ?_
          refine W.yes (dj := 26) rfl rfl h25 ?_
          refine W.qcall (rlong_fc hp_n259 _ (by omega)) rfl ?_
          refine W.yes (dj := 26) rfl rfl h25 ?_
          refine W.mv ?_
          refine W.yes (dj := 26) rfl rfl h25 ?_
          refine W.ok (ok_gtr rfl rfl) ?_
          refine W.ok (ok_pick_f rfl h25) ?_
          refine W.mv ?_
          refine W.sp 37 rfl (fun h35 => ?_) (fun h35 => ?_)
          · have p35 := of_decide_eq_true h35
            refine W.no (dj := 37) rfl rfl h35 ?_
            refine W.no (dj := 37) rfl rfl h35 ?_
            refine W.no (dj := 37) rfl rfl h35 ?_
            refine W.no (dj := 37) rfl rfl h35 ?_
            refine W.no (dj := 37) rfl rfl h35 ?_
            refine W.no (dj := 37) rfl rfl h35 ?_
            refine W.no (dj := 37) rfl rfl h35 ?_
            refine W.no (dj := 37) rfl rfl h35 ?_
            refine W.ok (ok_pick_t rfl h35) ?_
            refine W.mv ?_
            refine W.no (dj := 47) rfl rfl rfl ?_
            refine W.no (dj := 47) rfl rfl rfl ?_
            refine W.no (dj := 47) rfl rfl rfl ?_
            refine W.no (dj := 47) rfl rfl rfl ?_
            refine W.no (dj := 47) rfl rfl rfl ?_
            refine W.no (dj := 47) rfl rfl rfl ?_
            refine W.no (dj := 47) rfl rfl rfl ?_
            refine W.no (dj := 47) rfl rfl rfl ?_
            refine W.ok (ok_pick_t rfl rfl) ?_
            refine W.mv ?_
            refine W.no (dj := 57) rfl rfl rfl ?_
            refine W.no (dj := 57) rfl rfl rfl ?_
            refine W.no (dj := 57) rfl rfl rfl ?_
            refine W.no (dj := 57) rfl rfl rfl ?_
            refine W.no (dj := 57) rfl rfl rfl ?_
            refine W.no (dj := 57) rfl rfl rfl ?_
            refine W.no (dj := 57) rfl rfl rfl ?_
            refine W.no (dj := 57) rfl rfl rfl ?_
            refine W.ok (ok_pick_t rfl rfl) ?_
            refine W.nil (thn_n ?_)
            refine WC.cond_t rfl rfl ?_
            refine WC.seq ?_
            refine WC.region ?_
            refine W.as ?_
            refine W.nil (thn_n ?_)
            refine WC.ret (blk_r (thn_r (thn_r (blk_r (thn_r ?_)))))
            refine ⟨.inr rfl, [_], ⟨rfl, trivial⟩, [], List.nil_sublist _, ?_⟩
            refine congrArg Value.bool ?_
            exact (decide_eq_false fun h => by obtain ⟨q1, q2, q3, q4, q5⟩ := h.2 k (by omega); first | omega | (simp at h25; omega) | (simp at h55; omega)).symm
          · have p35 := of_decide_eq_false h35
            refine W.yes (dj := 37) rfl rfl h35 ?_
            refine W.mv ?_
            refine W.yes (dj := 37) rfl rfl h35 ?_
            refine W.mv ?_
            refine W.yes (dj := 37) rfl rfl h35 ?_
            have q267 := (h_l.mono hG252).at (i := k) (by omega)
            refine match q267 with | ⟨_, he263, ⟨_, _, _, _, _, _, _, _, e_266, hp_n264, hk_n264, hm_n264, hr_n264, hok_n264⟩⟩ => ?_
            subst e_266
            refine W.ok (ok_indexAddr (i := k) sl37 ty45 (h_l.mono hG252) rfl rfl ⟨by omega, by omega⟩) ?_
            refine W.yes (dj := 37) rfl rfl h35 ?_
            refine W.ok (ok_fieldE fd45_3 rfl he263.form) ?_
            refine W.yes (dj := 37) rfl rfl h35 ?_
            refine W.ok (ok_loadE (vs := [.slice _ _ _]) ty26 he263 rfl rfl rfl (by simp)) ?_
            refine W.yes (dj := 37) rfl rfl h35 ?_
            refine W.ok (ok_len sl26 hk_n264 rfl) ?_
            refine W.yes (dj := 37) rfl rfl h35 ?_
            refine W.mv ?_
            refine W.yes (dj := 37) rfl rfl h35 ?_
            refine W.ok (ok_gtr rfl rfl) ?_
            refine W.ok (ok_pick_f rfl h35) ?_
            refine W.mv ?_
            refine W.sp 47 rfl (fun h45 => ?_) (fun h45 => ?_)
            · have p45 := of_decide_eq_true h45
              refine W.no (dj := 47) rfl rfl h45 ?_
              refine W.no (dj := 47) rfl rfl h45 ?_
              refine W.no (dj := 47) rfl rfl h45 ?_
              refine W.no (dj := 47) rfl rfl h45 ?_
              refine W.no (dj := 47) rfl rfl h45 ?_
              refine W.no (dj := 47) rfl rfl h45 ?_
              refine W.no (dj := 47) rfl rfl h45 ?_
              refine W.no (dj := 47) rfl rfl h45 ?_
              refine W.ok (ok_pick_t rfl h45) ?_
              refine W.mv ?_
              refine W.no (dj := 57) rfl rfl rfl ?_
              refine W.no (dj := 57) rfl rfl rfl ?_
              refine W.no (dj := 57) rfl rfl rfl ?_
              refine W.no (dj := 57) rfl rfl rfl ?_
              refine W.no (dj := 57) rfl rfl rfl ?_
              refine W.no (dj := 57) rfl rfl rfl ?_
              refine W.no (dj := 57) rfl rfl rfl ?_
              refine W.no (dj := 57) rfl rfl rfl ?_
              refine W.ok (ok_pick_t rfl rfl) ?_
              refine W.nil (thn_n ?_)
              refine WC.cond_t rfl rfl ?_
              refine WC.seq ?_
              refine WC.region ?_
              refine W.as ?_
              refine W.nil (thn_n ?_)
              refine WC.ret (blk_r (thn_r (thn_r (blk_r (thn_r ?_)))))
              refine ⟨.inr rfl, [_], ⟨rfl, trivial⟩, [], List.nil_sublist _, ?_⟩
              refine congrArg Value.bool ?_
              exact (decide_eq_false fun h => by obtain ⟨q1, q2, q3, q4, q5⟩ := h.2 k (by omega); first | omega | (simp at h25; omega) | (simp at h55; omega)).symm
            · have p45 := of_decide_eq_false h45
              refine W.yes (dj := 47) rfl rfl h45 ?_
              refine W.mv ?_
              refine W.yes (dj := 47) rfl rfl h45 ?_
              refine W.mv ?_
              refine W.yes (dj := 47) rfl rfl h45 ?_
              have q272 := (h_l.mono hG252).at (i := k) (by omega)
              refine match q272 with | ⟨_, he268, ⟨_, _, _, _, _, _, _, _, e_271, hp_n269, hk_n269, hm_n269, hr_n269, hok_n269⟩⟩ => ?_
              subst e_271
              refine W.ok (ok_indexAddr (i := k) sl37 ty45 (h_l.mono hG252) rfl rfl ⟨by omega, by omega⟩) ?_
              refine W.yes (dj := 47) rfl rfl h45 ?_
              refine W.ok (ok_fieldE fd45_8 rfl he268.form) ?_
              refine W.yes (dj := 47) rfl rfl h45 ?_
              refine W.ok (ok_loadE (vs := [.slice _ _ _]) ty43 he268 rfl rfl rfl (by simp)) ?_
              refine W.yes (dj := 47) rfl rfl h45 ?_
              refine W.mv ?_
              refine W.yes (dj := 47) rfl rfl h45 ?_
              refine W.qcall (few_fc hm_n269 _ (by omega)) rfl ?_
              refine W.yes (dj := 47) rfl rfl h45 ?_
              refine W.ok (ok_not rfl) ?_
              refine W.ok (ok_pick_f rfl h45) ?_
              refine W.mv ?_
              refine W.sp 57 rfl (fun h55 => ?_) (fun h55 => ?_)
              · refine W.no (dj := 57) rfl rfl h55 ?_
                refine W.no (dj := 57) rfl rfl h55 ?_
                refine W.no (dj := 57) rfl rfl h55 ?_
                refine W.no (dj := 57) rfl rfl h55 ?_
                refine W.no (dj := 57) rfl rfl h55 ?_
                refine W.no (dj := 57) rfl rfl h55 ?_
                refine W.no (dj := 57) rfl rfl h55 ?_
                refine W.no (dj := 57) rfl rfl h55 ?_
                refine W.ok (ok_pick_t rfl h55) ?_
                refine W.nil (thn_n ?_)
                refine WC.cond_t rfl rfl ?_
                refine WC.seq ?_
                refine WC.region ?_
                refine W.as ?_
                refine W.nil (thn_n ?_)
                refine WC.ret (blk_r (thn_r (thn_r (blk_r (thn_r ?_)))))
                refine ⟨.inr rfl, [_], ⟨rfl, trivial⟩, [], List.nil_sublist _, ?_⟩
                refine congrArg Value.bool ?_
                exact (decide_eq_false fun h => by obtain ⟨q1, q2, q3, q4, q5⟩ := h.2 k (by omega); first | omega | (simp at h25; omega) | (simp at h55; omega)).symm
              · refine W.yes (dj := 57) rfl rfl h55 ?_
                refine W.mv ?_
                refine W.yes (dj := 57) rfl rfl h55 ?_
                refine W.mv ?_
                refine W.yes (dj := 57) rfl rfl h55 ?_
                have q277 := (h_l.mono hG252).at (i := k) (by omega)
                refine match q277 with | ⟨_, he273, ⟨_, _, _, _, _, _, _, _, e_276, hp_n274, hk_n274, hm_n274, hr_n274, hok_n274⟩⟩ => ?_
                subst e_276
                refine W.ok (ok_indexAddr (i := k) sl37 ty45 (h_l.mono hG252) rfl rfl ⟨by omega, by omega⟩) ?_
                refine W.yes (dj := 57) rfl rfl h55 ?_
                refine W.ok (ok_fieldE fd45_4 rfl he273.form) ?_
                refine W.yes (dj := 57) rfl rfl h55 ?_
                refine W.ok (ok_loadE (vs := [.string _]) ty9 he273 rfl rfl rfl (by simp)) ?_
                refine W.yes (dj := 57) rfl rfl h55 ?_
                refine W.ok (ok_lenS st9 rfl) ?_
                refine W.yes (dj := 57) rfl rfl h55 ?_
                refine W.mv ?_
                refine W.yes (dj := 57) rfl rfl h55 ?_
                refine W.ok (ok_gtr rfl rfl) ?_
                refine W.ok (ok_pick_f rfl h55) ?_
                refine W.nil (thn_n ?_)
                refine WC.cond (b := _) rfl (fun h65 => ?_) (fun h65 => ?_)
                · have p65 := of_decide_eq_true h65
                  refine WC.seq ?_
                  refine WC.region ?_
                  refine W.as ?_
                  refine W.nil (thn_n ?_)
                  refine WC.ret (blk_r (thn_r (thn_r (blk_r (thn_r ?_)))))
                  refine ⟨.inr rfl, [_], ⟨rfl, trivial⟩, [], List.nil_sublist _, ?_⟩
                  refine congrArg Value.bool ?_
                  exact (decide_eq_false fun h => by obtain ⟨q1, q2, q3, q4, q5⟩ := h.2 k (by omega); first | omega | (simp at h25; omega) | (simp at h55; omega)).symm
                · have p65 := of_decide_eq_false h65
                  refine WC.skip (blk_n (thn_n ?_))
                  refine WC.region ?_
                  refine W.mv ?_
                  refine W.ok (ok_add rfl rfl (by omega)) ?_
                  refine W.as ?_
                  refine W.nil (thn_n ?_)
                  exact ⟨Le.rfl, k + 1, ⟨(by first | rfl | exact iv (by dsimp only; omega) | exact iv (by omega)), (by first | rfl | exact iv (by dsimp only; omega) | exact iv (by omega)), (by first | rfl | exact iv (by dsimp only; omega) | exact iv (by omega)), (by first | rfl | exact iv (by dsimp only; omega) | exact iv (by omega)), trivial⟩, ⟨rfl, fun i h hi => by
      by_cases e : i = k
      · subst e; exact ⟨by simpa using h25, by omega, by omega, by simpa using h55, by omega⟩
      · exact hk i h (by omega)⟩, by omega⟩
      · have p15 := of_decide_eq_false h15
        refine WC.exit (thn_x (thn_x (blk_h (thn_n ?_))))
        refine WC.seq ?_
        refine WC.region ?_
        refine W.as ?_
        refine W.nil (thn_n ?_)
        refine WC.ret ?_
        refine ⟨.inr rfl, [_], ⟨rfl, trivial⟩, [], List.nil_sublist _, ?_⟩
        refine congrArg Value.bool ?_
        exact (decide_eq_true ⟨by omega, fun i h => hk i h (by omega)⟩).symm

end Go.Proofs.Ytmadhgdplocfbaa
