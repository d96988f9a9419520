/- Walks of functions that tell whether a node may be. -/
import Derived.Test.YtfmigmijckdldaaGreatQgV6
import Derived.Test.YtfmigmijckdldaaGreatQgOn
set_option maxRecDepth 100000
set_option maxHeartbeats 1600000
set_option linter.unusedVariables false
set_option linter.unusedSimpArgs false
set_option linter.unnecessarySimpa false
namespace Go.Proofs.YtfmigmijckdldaaGreat
open Go Go.Fw Go.RowKit
attribute [local irreducible] Ok W WC
theorem nhas_fc {G : GH} {cs_a : List Value} {a : Nd} (h_a : NodeC G cs_a a) (k : Str) :
    Fc Tryz.prog 119 [.agg (List.toArray cs_a), sV k.b] G [] (fun v _ _ => v = .bool (a.top || k.lt a.high)) := by
 obtain ⟨_, _, _, _, _, _, _, _, rfl, hp_a, hk_a, hm_a, hr_a, hok_a⟩ := h_a
 refine Fc.go [.tmp 4] Tryz.func119 Tryz.ntmps119 rfl (fun w0 => (g9 2 ?_))
 refine W.box (L := [iV _, iV _, lV _ _ _, lV _ _ _, sV _, .bool _, iV _, iV _, lV _ _ _, lV _ _ _]) rfl rfl (fun b1 => (g9 8 ?_))
 refine W.sp 7 rfl (fun hb_top_a => ?_) (fun hb_top_a => ?_)
 ·refine g9 10 ?_
  refine congrArg Value.bool ?_
  simp_all
 refine g9 7 ?_
 refine W.qcall (less_fc _ _) rfl (g9 6 ?_)
 refine congrArg Value.bool ?_
 simp_all

theorem nleaf_fc {G : GH} (cf : Int) (cl : Int) (cb : Int) (cs : Int) (cr : Int) {cs_n : List Value} {n : Nd} (h_n : NodeC G cs_n n) :
    Fc Tryz.prog 82 [.agg #[iV cf, iV cl, iV cb, iV cs, iV cr], .agg (List.toArray cs_n)] G [] (fun v _ _ => v = .bool (decide (n.leafR cl))) := by
 obtain ⟨pa_n, pc_n, ka_n, kc_n, ma_n, mc_n, ra_n, rc_n, rfl, hp_n, hk_n, hm_n, hr_n, hok_n⟩ := h_n
 have h1 := hp_n.len47
 have h2 := hk_n.len47
 have h3 := hm_n.len47
 have h4 := hr_n.len47
 refine Fc.go [.tmp 4] Tryz.func82 Tryz.ntmps82 rfl (fun w0 => (g9 2 ?_))
 refine W.box (L := [iV _, iV _, iV _, iV _, iV _]) rfl rfl (fun b2 => (W.box (L := [iV _, iV _, lV _ _ _, lV _ _ _, sV _, .bool _, iV _, iV _, lV _ _ _, lV _ _ _]) rfl rfl (fun b3 => (g9 19 ?_))))
 refine W.sd 18 (fun h17 p17 => ?_) (fun h17 p17 => ?_)
 ·refine g9 24 ?_
  refine congrArg Value.bool ?_
  exact (decide_eq_false fun h => by obtain ⟨q1, q2, q3, q4⟩ := h; omega).symm
 refine g9 14 ?_
 refine W.sd 26 (fun h24 p24 => ?_) (fun h24 p24 => ?_)
 ·refine g9 16 ?_
  refine congrArg Value.bool ?_
  exact (decide_eq_false fun h => by obtain ⟨q1, q2, q3, q4⟩ := h; omega).symm
 refine g9 5 ?_
 refine W.qcall (rightp_fc hr_n) rfl (g9 5 ?_)
 refine WC.cond rfl (fun h30 => ?_) (fun h30 => ?_)
 ·refine g9 8 ?_
  refine congrArg Value.bool ?_
  exact (decide_eq_false fun h => by obtain ⟨q1, q2, q3, q4⟩ := h; simp [q3] at h30).symm
 refine g9 9 ?_
 refine WC.loop (X := Nat) (fun k => [(5, nt9 k), (2, pt9 b2), (3, pt9 b3)]) (fun k _ Ml => Ml = [(b3, ce9 53 (ndl n pa_n pc_n ka_n kc_n ma_n mc_n ra_n rc_n)), (b2, ce9 23 [iV cf, iV cl, iV cb, iV cs, iV cr])] ∧ ∀ i (h : i < n.rows.length), i < k → n.has n.rows[i].key = true) (fun k => n.rows.length - k) 0 hs9 ?_ ?_
 ·exact ⟨rfl, fun i _ h => by omega⟩
 rintro k gG4 G4 _ hG4 ⟨rfl, hk⟩
 refine g9 10 ?_
 refine WC.cd (fun h36 p36 => ?_) (fun h36 p36 => ?_)
 ·refine g9 10 ?_
  refine (hr_n.mono hG4).a1 (i := k) om9 (fun he5 => (g9 3 ?_))
  refine W.qcall (nhas_fc (nm9 hG4 hp_n hk_n hm_n hr_n hok_n) _) rfl (g9 3 ?_)
  refine WC.cond rfl (fun h47 => ?_) (fun h47 => ?_)
  ·refine g9 12 ?_
   refine congrArg Value.bool ?_
   exact (decide_eq_false fun h => by obtain ⟨q1, q2, q3, q4⟩ := h; have := q4 k om9; simp_all [Nd.has]).symm
  refine g9 9 ?_
  exact ⟨Le.rfl, k + 1, hs9, ⟨rfl, fun i h hi => by
      by_cases e : i = k
      · subst e; have h1 := h47; show (n.top || _) = true; cases ht : n.top <;> simp_all
      · exact hk i h om9⟩, om9⟩
 refine g9 12 ?_
 refine congrArg Value.bool ?_
 exact (decide_eq_true ⟨om9, om9, by simpa using h30, fun i h => hk i h om9⟩).symm

theorem ninner_fc {G : GH} (cf : Int) (cl : Int) (cb : Int) (cs : Int) (cr : Int) {cs_n : List Value} {n : Nd} (h_n : NodeC G cs_n n) :
    Fc Tryz.prog 83 [.agg #[iV cf, iV cl, iV cb, iV cs, iV cr], .agg (List.toArray cs_n)] G [] (fun v _ _ => v = .bool (decide (n.innerR cf cb))) := by
 obtain ⟨pa_n, pc_n, ka_n, kc_n, ma_n, mc_n, ra_n, rc_n, rfl, hp_n, hk_n, hm_n, hr_n, hok_n⟩ := h_n
 have h1 := hp_n.len47
 have h2 := hk_n.len47
 have h3 := hm_n.len47
 have h4 := hr_n.len47
 refine Fc.go [.tmp 4] Tryz.func83 Tryz.ntmps83 rfl (fun w0 => (g9 2 ?_))
 refine W.box (L := [iV _, iV _, iV _, iV _, iV _]) rfl rfl (fun b8 => (W.box (L := [iV _, iV _, lV _ _ _, lV _ _ _, sV _, .bool _, iV _, iV _, lV _ _ _, lV _ _ _]) rfl rfl (fun b9 => (g9 11 ?_))))
 refine W.sd 13 (fun h12 p12 => ?_) (fun h12 p12 => ?_)
 ·refine g9 46 ?_
  refine congrArg Value.bool ?_
  exact (decide_eq_false fun h => by obtain ⟨⟨q1, q2, q3⟩, q4, q5, q6, q7, q8, q9⟩ := h; omega).symm
 refine g9 10 ?_
 refine W.sd 19 (fun h17 p17 => ?_) (fun h17 p17 => ?_)
 ·refine g9 40 ?_
  refine congrArg Value.bool ?_
  exact (decide_eq_false fun h => by obtain ⟨⟨q1, q2, q3⟩, q4, q5, q6, q7, q8, q9⟩ := h; omega).symm
 refine g9 14 ?_
 refine W.sd 27 (fun h25 p25 => ?_) (fun h25 p25 => ?_)
 ·refine g9 32 ?_
  refine congrArg Value.bool ?_
  exact (decide_eq_false fun h => by obtain ⟨⟨q1, q2, q3⟩, q4, q5, q6, q7, q8, q9⟩ := h; omega).symm
 refine g9 9 ?_
 refine W.qcall (rright_fc hp_n hk_n) rfl (g9 4 ?_)
 refine W.sp 35 rfl (fun h33 => ?_) (fun h33 => ?_)
 ·refine g9 24 ?_
  refine congrArg Value.bool ?_
  exact (decide_eq_false fun h => by obtain ⟨⟨q1, q2, q3⟩, q4, q5, q6, q7, q8, q9⟩ := h; simp [q4] at h33).symm
 refine g9 5 ?_
 refine W.qcall (mall_fc hm_n) rfl (g9 4 ?_)
 refine W.sp 41 rfl (fun h39 => ?_) (fun h39 => ?_)
 ·refine g9 18 ?_
  refine congrArg Value.bool ?_
  exact (decide_eq_false fun h => by obtain ⟨⟨q1, q2, q3⟩, q4, q5, q6, q7, q8, q9⟩ := h; simp [q5] at h39).symm
 have hms : MsgsR n.msgs := by simpa using h39
 have hs := hms.sizes
 refine g9 5 ?_
 refine W.qcall (msizes_fc hm_n (by assumption)) rfl (g9 9 ?_)
 refine WC.cd (fun h47 p47 => ?_) (fun h47 p47 => ?_)
 ·refine g9 8 ?_
  refine congrArg Value.bool ?_
  exact (decide_eq_false fun h => by obtain ⟨⟨q1, q2, q3⟩, q4, q5, q6, q7, q8, q9⟩ := h; omega).symm
 refine g9 9 ?_
 refine WC.loop (X := Nat) (fun k => [(5, nt9 k), (2, pt9 b8), (3, pt9 b9)]) (fun k _ Ml => Ml = [(b9, ce9 53 (ndl n pa_n pc_n ka_n kc_n ma_n mc_n ra_n rc_n)), (b8, ce9 23 [iV cf, iV cl, iV cb, iV cs, iV cr])] ∧ ∀ i (h : i < n.kids.length), i < k → 0 ≤ n.kids[i]) (fun k => n.kids.length - k) 0 hs9 ?_ ?_
 ·exact ⟨rfl, fun i _ h => by omega⟩
 rintro k gG10 G10 _ hG10 ⟨rfl, hk1⟩
 refine g9 10 ?_
 refine WC.cond rfl (fun h53 => ?_) (fun h53 => ?_)
 ·have p53 := odt h53
  refine g9 9 ?_
  refine (hk_n.mono hG10).a2 (i := k) om9 (fun he11 hi12 => (g9 5 ?_))
  refine WC.cd (fun h61 p61 => ?_) (fun h61 p61 => ?_)
  ·refine g9 12 ?_
   refine congrArg Value.bool ?_
   exact (decide_eq_false fun h => by obtain ⟨⟨q1, q2, q3⟩, q4, q5, q6, q7, q8, q9⟩ := h; have := q7 k om9; omega).symm
  refine g9 9 ?_
  exact ⟨Le.rfl, k + 1, hs9, ⟨rfl, fun i h hi => by
      by_cases e : i = k
      · subst e; omega
      · exact hk1 i h om9⟩, om9⟩
 have p53 := odf h53
 refine g9 12 ?_
 refine WC.loop (X := Nat) (fun k => [(6, nt9 k), (2, pt9 b8), (3, pt9 b9)]) (fun k _ Ml => Ml = [(b9, ce9 53 (ndl n pa_n pc_n ka_n kc_n ma_n mc_n ra_n rc_n)), (b8, ce9 23 [iV cf, iV cl, iV cb, iV cs, iV cr])] ∧ ∀ i (h : i < n.pivots.length), i < k → n.parts n.pivots[i]) (fun k => n.pivots.length - k) 0 hs9 ?_ ?_
 ·exact ⟨rfl, fun i _ h => by omega⟩
 rintro k gG15 G15 _ hG15 ⟨rfl, hk2⟩
 refine g9 10 ?_
 refine WC.cond rfl (fun h66 => ?_) (fun h66 => ?_)
 ·have p66 := odt h66
  refine g9 9 ?_
  refine (hp_n.mono (hG10.trans hG15)).a1 (i := k) om9 (fun he16 => (g9 4 ?_))
  refine W.sd 75 (fun h74 p74 => ?_) (fun h74 p74 => ?_)
  ·refine g9 33 ?_
   refine congrArg Value.bool ?_
   exact (decide_eq_false fun h => by obtain ⟨⟨q1, q2, q3⟩, q4, q5, q6, q7, q8, q9⟩ := h; exact (q8 k om9).1 (Str.ext' p74)).symm
  refine g9 7 ?_
  refine (hp_n.mono (hG10.trans hG15)).a1 (i := k) om9 (fun he19 => (g9 9 ?_))
  refine W.sd 84 (fun h82 p82 => ?_) (fun h82 p82 => ?_)
  ·refine g9 24 ?_
   refine congrArg Value.bool ?_
   exact (decide_eq_false fun h => by obtain ⟨⟨q1, q2, q3⟩, q4, q5, q6, q7, q8, q9⟩ := h; have := (q8 k om9).2.1; omega).symm
  refine g9 9 ?_
  refine (hp_n.mono (hG10.trans hG15)).a1 (i := k) om9 (fun he22 => (g9 4 ?_))
  refine W.qcall (nhas_fc (nm9 lec hp_n hk_n hm_n hr_n hok_n) _) rfl (g9 5 ?_)
  refine WC.cond rfl (fun h92 => ?_) (fun h92 => ?_)
  ·refine g9 12 ?_
   refine congrArg Value.bool ?_
   exact (decide_eq_false fun h => by obtain ⟨⟨q1, q2, q3⟩, q4, q5, q6, q7, q8, q9⟩ := h; have := (q8 k om9).2.2; simp_all [Nd.has]).symm
  refine g9 9 ?_
  exact ⟨Le.rfl, k + 1, hs9, ⟨rfl, fun i h hi => by
      by_cases e : i = k
      · subst e; exact ⟨fun e => p74 (congrArg Str.b e), om9, by show (n.top || _) = true; cases ht : n.top <;> simp_all⟩
      · exact hk2 i h om9⟩, om9⟩
 have p66 := odf h66
 refine g9 12 ?_
 refine WC.loop (X := Nat) (fun k => [(7, nt9 k), (2, pt9 b8), (3, pt9 b9)]) (fun k _ Ml => Ml = [(b9, ce9 53 (ndl n pa_n pc_n ka_n kc_n ma_n mc_n ra_n rc_n)), (b8, ce9 23 [iV cf, iV cl, iV cb, iV cs, iV cr])] ∧ ∀ i (h : i < n.msgs.length), i < k → n.fits n.msgs[i]) (fun k => n.msgs.length - k) 0 hs9 ?_ ?_
 ·exact ⟨rfl, fun i _ h => by omega⟩
 rintro k gG25 G25 _ hG25 ⟨rfl, hk3⟩
 refine g9 10 ?_
 refine WC.cond rfl (fun h98 => ?_) (fun h98 => ?_)
 ·have p98 := odt h98
  have hkk : n.msgs[k].key.b.size < 140737488355328 := by have := (hs _ (List.getElem_mem (by omega : k < n.msgs.length))).1; omega
  refine g9 9 ?_
  refine (hm_n.mono ((hG10.trans hG15).trans hG25)).a2 (i := k) om9 (fun he26 hm27 => (g9 2 ?_))
  refine W.qcall (rspan_fc _ _ _ _ _ _ (by first | assumption | omega | (dsimp only; omega))) rfl (W.alloc zr55 (fun b31 => (g9 8 ?_)))
  refine (hm_n.mono ((hG10.trans hG15).trans hG25)).a2 (i := k) om9 (fun he32 hm33 => (g9 7 ?_))
  refine W.sd 116 (fun h115 p115 => ?_) (fun h115 p115 => ?_)
  ·refine g9 30 ?_
   refine congrArg Value.bool ?_
   exact (decide_eq_false fun h => by obtain ⟨⟨q1, q2, q3⟩, q4, q5, q6, q7, q8, q9⟩ := h; have := (q9 k om9).1; omega).symm
  refine g9 8 ?_
  refine W.sp 120 rfl (fun h119 => ?_) (fun h119 => ?_)
  ·refine g9 6 ?_
   refine W.sp 123 rfl (fun h106_2 => ?_) (fun h106_2 => ?_)
   ·refine g9 25 ?_
    refine congrArg Value.bool ?_
    exact (decide_eq_false fun h => by obtain ⟨⟨q1, q2, q3⟩, q4, q5, q6, q7, q8, q9⟩ := h; have := (q9 k om9).2; simp_all).symm
   refine g9 9 ?_
   refine W.qcall (less_fc _ _) rfl (g9 7 ?_)
   refine WC.cond rfl (fun h128 => ?_) (fun h128 => ?_)
   ·refine g9 12 ?_
    refine congrArg Value.bool ?_
    exact (decide_eq_false fun h => by obtain ⟨⟨q1, q2, q3⟩, q4, q5, q6, q7, q8, q9⟩ := h; have := (q9 k om9).2; simp_all).symm
   refine g9 7 ?_
   refine W.sub (sr9.cons _) (g9 2 ?_)
   exact ⟨Le.rfl, k + 1, hs9, ⟨rfl, fun i h hi => by
      by_cases e : i = k
      · subst e; exact ⟨om9, by cases ht : n.top <;> simp_all⟩
      · exact hk3 i h om9⟩, om9⟩
  refine g9 22 ?_
  refine W.sub (sr9.cons _) (g9 2 ?_)
  exact ⟨Le.rfl, k + 1, hs9, ⟨rfl, fun i h hi => by
      by_cases e : i = k
      · subst e; exact ⟨om9, by cases ht : n.top <;> simp_all⟩
      · exact hk3 i h om9⟩, om9⟩
 have p98 := odf h98
 refine g9 12 ?_
 refine congrArg Value.bool ?_
 exact (decide_eq_true ⟨⟨om9, om9, om9⟩, by simpa using h33, hms, om9, fun i h => hk1 i h om9, fun i h => hk2 i h om9, fun i h => hk3 i h om9⟩).symm

theorem nright_fc {G : GH} (cf : Int) (cl : Int) (cb : Int) (cs : Int) (cr : Int) {cs_n : List Value} {n : Nd} (h_n : NodeC G cs_n n) :
    Fc Tryz.prog 40 [.agg #[iV cf, iV cl, iV cb, iV cs, iV cr], .agg (List.toArray cs_n)] G [] (fun v _ _ => v = .bool (decide (n.R cf cl cb))) := by
 obtain ⟨_, _, _, _, _, _, _, _, rfl, hp_n, hk_n, hm_n, hr_n, hok_n⟩ := h_n
 have h1 := hp_n.len47
 have h2 := hk_n.len47
 have h3 := hm_n.len47
 have h4 := hr_n.len47
 refine Fc.go [.tmp 4] Tryz.func40 Tryz.ntmps40 rfl (fun w0 => (g9 2 ?_))
 refine W.box (L := [iV _, iV _, iV _, iV _, iV _]) rfl rfl (fun b37 => (W.box (L := [iV _, iV _, lV _ _ _, lV _ _ _, sV _, .bool _, iV _, iV _, lV _ _ _, lV _ _ _]) rfl rfl (fun b38 => (g9 10 ?_))))
 refine W.sd 8 (fun h7 p7 => ?_) (fun h7 p7 => ?_)
 ·refine g9 34 ?_
  refine congrArg Value.bool ?_
  exact (decide_eq_false fun h => by obtain ⟨⟨q1, q2, q3⟩, q4, q5, q6⟩ := h; omega).symm
 refine g9 8 ?_
 refine W.sd 13 (fun h11 p11 => ?_) (fun h11 p11 => ?_)
 ·refine g9 29 ?_
  refine congrArg Value.bool ?_
  exact (decide_eq_false fun h => by obtain ⟨⟨q1, q2, q3⟩, q4, q5, q6⟩ := h; omega).symm
 refine g9 8 ?_
 refine W.sd 18 (fun h16 p16 => ?_) (fun h16 p16 => ?_)
 ·refine g9 24 ?_
  refine congrArg Value.bool ?_
  exact (decide_eq_false fun h => by obtain ⟨⟨q1, q2, q3⟩, q4, q5, q6⟩ := h; omega).symm
 refine g9 6 ?_
 refine W.sp 21 rfl (fun hb_top_n => ?_) (fun hb_top_n => ?_)
 ·refine g9 8 ?_
  refine W.sm 25 (fun h24 p24 => ?_) (fun h24 p24 => ?_)
  ·refine g9 19 ?_
   refine congrArg Value.bool ?_
   exact (decide_eq_false fun h => by obtain ⟨⟨q1, q2, q3⟩, q4, q5, q6⟩ := h; exact p24 (congrArg Str.b (q4 (by assumption)).1)).symm
  refine g9 13 ?_
  refine WC.cn (fun h28 p28 => ?_) (fun h28 p28 => ?_)
  ·refine g9 8 ?_
   refine congrArg Value.bool ?_
   exact (decide_eq_false fun h => by obtain ⟨⟨q1, q2, q3⟩, q4, q5, q6⟩ := h; have := (q4 (by assumption)).2; omega).symm
  refine g9 37 ?_
  refine WC.cd (fun h53 p53 => ?_) (fun h53 p53 => ?_)
  ·refine g9 4 ?_
   refine W.qcall (nleaf_fc _ _ _ _ _ (nk9 hp_n hk_n hm_n hr_n hok_n)) rfl (g9 6 ?_)
   refine congrArg Value.bool ?_
   exact decide_eq_decide.2 ⟨fun q => ⟨⟨om9, om9, om9⟩, fun _ => ⟨Str.ext' p24, p28⟩, fun h => absurd (hb_top_n.symm.trans h) (by decide), by rw [if_pos p53]; exact q⟩, fun h => by have h := h.2.2.2; rw [if_pos p53] at h; exact h⟩
  refine g9 6 ?_
  refine W.qcall (ninner_fc _ _ _ _ _ (nk9 hp_n hk_n hm_n hr_n hok_n)) rfl (g9 5 ?_)
  refine congrArg Value.bool ?_
  exact decide_eq_decide.2 ⟨fun q => ⟨⟨om9, om9, om9⟩, fun _ => ⟨Str.ext' p24, p28⟩, fun h => absurd (hb_top_n.symm.trans h) (by decide), by rw [if_neg p53]; exact q⟩, fun h => by have h := h.2.2.2; rw [if_neg p53] at h; exact h⟩
 refine g9 31 ?_
 refine W.sd 39 (fun h38 p38 => ?_) (fun h38 p38 => ?_)
 ·refine g9 25 ?_
  refine congrArg Value.bool ?_
  exact (decide_eq_false fun h => by obtain ⟨⟨q1, q2, q3⟩, q4, q5, q6⟩ := h; exact (q5 (by assumption)).1 (Str.ext' p38)).symm
 refine g9 12 ?_
 refine W.sd 45 (fun h43 p43 => ?_) (fun h43 p43 => ?_)
 ·refine g9 17 ?_
  refine congrArg Value.bool ?_
  exact (decide_eq_false fun h => by obtain ⟨⟨q1, q2, q3⟩, q4, q5, q6⟩ := h; have := (q5 (by assumption)).2.1; omega).symm
 refine g9 11 ?_
 refine WC.cd (fun h48 p48 => ?_) (fun h48 p48 => ?_)
 ·refine g9 8 ?_
  refine congrArg Value.bool ?_
  exact (decide_eq_false fun h => by obtain ⟨⟨q1, q2, q3⟩, q4, q5, q6⟩ := h; have := (q5 (by assumption)).2.2; omega).symm
 refine g9 10 ?_
 refine WC.cd (fun h53 p53 => ?_) (fun h53 p53 => ?_)
 ·refine g9 4 ?_
  refine W.qcall (nleaf_fc _ _ _ _ _ (nk9 hp_n hk_n hm_n hr_n hok_n)) rfl (g9 6 ?_)
  refine congrArg Value.bool ?_
  exact decide_eq_decide.2 ⟨fun q => ⟨⟨om9, om9, om9⟩, fun h => absurd (hb_top_n.symm.trans h) (by decide), fun _ => ⟨fun e => p38 (congrArg Str.b e), om9, om9⟩, by rw [if_pos p53]; exact q⟩, fun h => by have h := h.2.2.2; rw [if_pos p53] at h; exact h⟩
 refine g9 6 ?_
 refine W.qcall (ninner_fc _ _ _ _ _ (nk9 hp_n hk_n hm_n hr_n hok_n)) rfl (g9 5 ?_)
 refine congrArg Value.bool ?_
 exact decide_eq_decide.2 ⟨fun q => ⟨⟨om9, om9, om9⟩, fun h => absurd (hb_top_n.symm.trans h) (by decide), fun _ => ⟨fun e => p38 (congrArg Str.b e), om9, om9⟩, by rw [if_neg p53]; exact q⟩, fun h => by have h := h.2.2.2; rw [if_neg p53] at h; exact h⟩

end Go.Proofs.YtfmigmijckdldaaGreat
namespace Go.Proofs.YtfmigmijckdldaaGreat
open Go Go.Fw Go.RowKit
attribute [local irreducible] Ok W WC
theorem pright_fc {G : GH} {cs_p : List Value} {p : Nd} (h_p : NodeC G cs_p p) {cs_k : List Value} {k : Nd} (h_k : NodeC G cs_k k) (i : Int) :
    Fc Tryz.prog 106 [.agg (List.toArray cs_p), .agg (List.toArray cs_k), iV i] G [] (fun v _ _ => v = .bool (decide (KidOf p k i))) := by
 obtain ⟨_, _, _, _, _, _, _, _, rfl, hp_p, hk_p, hm_p, hr_p, hok_p⟩ := h_p
 obtain ⟨_, _, _, _, _, _, _, _, rfl, hp_k, hk_k, hm_k, hr_k, hok_k⟩ := h_k
 have hlk := hk_p.len47
 obtain ⟨hlv1, hlv2⟩ := hok_p.2.1
 refine Fc.go [.tmp 6] Tryz.func106 Tryz.ntmps106 rfl (fun w0 => (g9 2 ?_))
 refine W.box (L := [iV _, iV _, lV _ _ _, lV _ _ _, sV _, .bool _, iV _, iV _, lV _ _ _, lV _ _ _]) rfl rfl (fun b1 => (W.box (L := [iV _, iV _, lV _ _ _, lV _ _ _, sV _, .bool _, iV _, iV _, lV _ _ _, lV _ _ _]) rfl rfl (fun b2 => (g9 9 ?_))))
 refine W.sd 10 (fun h9 p9 => ?_) (fun h9 p9 => ?_)
 ·refine g9 14 ?_
  refine W.sd 18 (fun h16 p16 => ?_) (fun h16 p16 => ?_)
  ·refine g9 6 ?_
   refine W.sd 22 (fun h20 p20 => ?_) (fun h20 p20 => ?_)
   ·refine g9 16 ?_
    refine congrArg Value.bool ?_
    exact decide_eq_decide.2 ⟨fun h => ⟨om9, p16, om9, h⟩, fun h => h.2.2.2⟩
   refine g9 11 ?_
   refine congrArg Value.bool ?_
   exact (decide_eq_false fun h => by unfold KidOf at h; omega).symm
  refine g9 15 ?_
  refine congrArg Value.bool ?_
  exact (decide_eq_false fun h => by unfold KidOf at h; omega).symm
 refine g9 23 ?_
 refine congrArg Value.bool ?_
 exact (decide_eq_false fun h => by unfold KidOf at h; omega).symm

theorem moved_fc {G : GH} (cf : Int) (cl : Int) (cb : Int) (cs : Int) (cr : Int) {cs_p : List Value} {p : Nd} (h_p : NodeC G cs_p p) {cs_k : List Value} {k : Nd} (h_k : NodeC G cs_k k) (i : Int) (hb : 0 ≤ cb ∧ cb ≤ 9223372036854775807) (hr : rising p.pivots = true) (hpv : ∀ q ∈ p.pivots, q.b.size ≤ 16) (hpm : ∀ m ∈ p.msgs, m.R) (hkm : ∀ m ∈ k.msgs, m.key.b.size ≤ 16 ∧ m.val.b.size ≤ 16) (hkr : PairsR k.rows) (hi : i64 i) (hsz : k.msgs.length + p.msgs.length ≤ 100000 ∧ k.rows.length ≤ 100000) :
    Fc Tryz.prog 107 [.agg #[iV cf, iV cl, iV cb, iV cs, iV cr], .agg (List.toArray cs_p), .agg (List.toArray cs_k), iV i] G [] (fun v G' M' => M' = [] ∧ ∃ r : Nd × Nat, r = movedN cl cb k (forN p.pivots p.msgs i) ∧ ∃ u0 u1, v = .tuple #[.agg (List.toArray u0), u1] ∧ NodeC G' u0 (r.1) ∧ SlR eMsg G' u1 ((forN p.pivots p.msgs i).take r.2)) := by
 obtain ⟨pa_p, pc_p, ka_p, kc_p, ma_p, mc_p, ra_p, rc_p, rfl, hp_p, hk_p, hm_p, hr_p, hok_p⟩ := h_p
 obtain ⟨_, _, _, _, _, _, _, _, rfl, hp_k, hk_k, hm_k, hr_k, hok_k⟩ := h_k
 have hfR : ∀ m ∈ (forN p.pivots p.msgs i), m.R := for_R hpv hpm
 have hfl := for_len p.pivots p.msgs i
 have hpk : ∀ m ∈ p.msgs, m.key.b.size < 140737488355328 := fun m h => by have := (msgR_key (hpm m h)).1; omega
 have hdl := drain_le cl (forN p.pivots p.msgs i) k.rows
 refine Fc.go [.cell 8 53, .tmp 9] Tryz.func107 Tryz.ntmps107 rfl (fun w0 => (g9 2 ?_))
 refine W.box (L := [iV _, iV _, iV _, iV _, iV _]) rfl rfl (fun b3 => (W.box (L := [iV _, iV _, lV _ _ _, lV _ _ _, sV _, .bool _, iV _, iV _, lV _ _ _, lV _ _ _]) rfl rfl (fun b4 => (W.box (L := [iV _, iV _, lV _ _ _, lV _ _ _, sV _, .bool _, iV _, iV _, lV _ _ _, lV _ _ _]) rfl rfl (fun b5 => (W.alloc zr53 (fun b6 => (g9 10 ?_))))))))
 refine W.cS (for_fc hp_p hm_p i hpk hr hi) rfl (fun sa_hv8 sc_hv8 G7 hG7 hv8 => (g9 6 ?_))
 refine W.cN (ncopy_fc (a := k) (nm9 hG7 hp_k hk_k hm_k hr_k hok_k)) rfl (fun pa_hv15 pc_hv15 ka_hv15 kc_hv15 ma_hv15 mc_hv15 ra_hv15 rc_hv15 G14 hG14 hp_hv15 hk_hv15 hm_hv15 hr_hv15 hok_hv15 => (g9 11 ?_))
 refine WC.cd (fun h26 p26 => ?_) (fun h26 p26 => ?_)
 ·refine g9 12 ?_
  refine W.call (Mp := []) (ldrain_fc hr_hv15 (hv8.mono hG14) cl hkr om9 hfR) rfl pr9 ?_
  intro _ G20 _ hG20 q22
  refine match q22 with | ⟨e_23, _, e_24, _, e_25, hv21⟩ => ?_
  subst e_23
  subst e_24
  subst e_25
  have q27 := hv21.form
  refine match q27 with | ⟨sa_hv21, sc_hv21, e_26⟩ => ?_
  subst e_26
  refine g9 9 ?_
  refine WC.dw (((sr9.k9.k9).k9).cons _) (d9 [0, 1, 2] ?_)
  have hs28 := SlR.slice (hv8.mono (hG14.trans hG20)) (lo := 0) (hi := (drainN cl k.rows (forN p.pivots p.msgs i)).2) om9 om9
  refine WD.tk 3 rfl (ok_slice (0) ((drainN cl k.rows (forN p.pivots p.msgs i)).2) sl51 ty90 (hv8.mono lec) rfl rfl ⟨_, _, rfl, om9⟩ ⟨om9, om9⟩) (d9 [4, 5] ?_)
  refine g9 5 ?_
  refine ⟨rfl, _, (moved_0 p26).symm, _, _, rfl, ?_, ?_⟩
  · exact ⟨_, _, _, _, _, _, _, _, rfl, (hp_hv15.mono hG20), (hk_hv15.mono hG20), (hm_hv15.mono hG20), hv21, hok_k⟩
  exact SlR.cast hs28 (by rw [List.drop_zero])
 refine g9 11 ?_
 refine WC.loop (X := (Nat) × List Value) (fun j => [(43, nt9 j.1), (4, pt9 b3), (6, pt9 b5), (8, pt9 b6), (10, lV sa_hv8 ((forN p.pivots p.msgs i)).length sc_hv8), (41, lV sa_hv8 ((forN p.pivots p.msgs i)).length sc_hv8), (42, nt9 (((forN p.pivots p.msgs i)).length))]) (fun j G Ml => Ml = [(b6, ce9 53 nz9), (b5, .cells (List.toArray j.2) 53 (0, 0)), (b4, ce9 53 (ndl p pa_p pc_p ka_p kc_p ma_p mc_p ra_p rc_p)), (b3, ce9 23 [iV cf, iV cl, iV cb, iV cs, iV cr])] ∧ NodeC G j.2 ({ k with msgs := (k.msgs ++ (forN p.pivots p.msgs i).take j.1) }) ∧ j.1 ≤ (forN p.pivots p.msgs i).length ∧ AddsAt cb k.msgs (forN p.pivots p.msgs i) j.1) (fun j => (forN p.pivots p.msgs i).length - j.1) (0, ((ndl (k) pa_hv15 pc_hv15 ka_hv15 kc_hv15 ma_hv15 mc_hv15 ra_hv15 rc_hv15) : List Value)) hs9 ?_ ?_
 ·exact ⟨rfl, (by dsimp only; rw [List.take_zero, List.append_nil]; exact (nk9 hp_hv15 hk_hv15 hm_hv15 hr_hv15 hok_hv15)), om9, AddsAt.zero _ _ _⟩
 rintro ⟨j, C_6⟩ gG29 G29 _ hG29 ⟨rfl, ho_6, hj, hd⟩
 try dsimp only at ho_6 hj hd
 have hsj : ∀ m ∈ (k.msgs ++ (forN p.pivots p.msgs i).take j), m.key.b.size ≤ 16 ∧ m.val.b.size ≤ 16 := fun m h => by
   rcases List.mem_append.1 h with h | h
   · exact hkm m h
   exact msgR_key (hfR m (List.mem_of_mem_take h))
 have hlj : (k.msgs ++ (forN p.pivots p.msgs i).take j).length ≤ 100000 := by rw [List.length_append, List.length_take]; omega
 refine match ho_6 with | ⟨pa_nb30, pc_nb30, ka_nb30, kc_nb30, _, _, ra_nb30, rc_nb30, e_31, hp_nb30, hk_nb30, hm_nb30, hr_nb30, hok_nb30⟩ => ?_
 subst e_31
 refine WC.fr (f := setL gG29 [(43, nt9 j), (4, pt9 b3), (6, pt9 b5), (8, pt9 b6), (10, lV sa_hv8 ((forN p.pivots p.msgs i)).length sc_hv8), (41, lV sa_hv8 ((forN p.pivots p.msgs i)).length sc_hv8), (42, nt9 (((forN p.pivots p.msgs i)).length))]) rfl (g9 6 ?_)
 refine WC.cd (fun h44 p44 => ?_) (fun h44 p44 => ?_)
 ·refine g9 7 ?_
  refine (hv8.mono (hG14.trans hG29)).a2 (i := j) om9 (fun he32 hm33 => (g9 2 ?_))
  refine W.alloc zr90 (fun b37 => (g9 11 ?_))
  refine W.call (Mp := []) (badd_fc hm_nb30 ((forN p.pivots p.msgs i)[j]'om9).stamp ((forN p.pivots p.msgs i)[j]'om9).kind ((forN p.pivots p.msgs i)[j]'om9).key ((forN p.pivots p.msgs i)[j]'om9).hi ((forN p.pivots p.msgs i)[j]'om9).opn ((forN p.pivots p.msgs i)[j]'om9).val cb hsj hb (by assumption) (by show List.length (k.msgs ++ (forN p.pivots p.msgs i).take j) ≤ _; omega)) rfl pr9 ?_
  intro _ G38 _ hG38 q40
  refine match q40 with | ⟨e_41, _, e_42, _, e_43, hv39⟩ => ?_
  subst e_41
  subst e_42
  subst e_43
  have q45 := hv39.form
  refine match q45 with | ⟨sa_hv39, sc_hv39, e_44⟩ => ?_
  subst e_44
  refine g9 14 ?_
  refine WC.cond rfl (fun h58 => ?_) (fun h58 => ?_)
  ·have hro : roomB cb (k.msgs ++ (forN p.pivots p.msgs i).take j) ((forN p.pivots p.msgs i)[j]'om9) = false := by rw [← add_snd]; simpa using h58
   have hst := hd.stop om9 hro
   refine WC.seq (WC.dw ((((sr9.k9.k9).k9).cons _).k9) (d9 [0, 1, 2] ?_))
   have hs46 := SlR.slice (hv8.mono ((hG14.trans hG29).trans hG38)) (lo := 0) (hi := j) om9 om9
   refine WD.tk 3 rfl (ok_slice (0) (j) sl51 ty90 (hv8.mono lec) rfl rfl ⟨_, _, rfl, om9⟩ ⟨om9, om9⟩) (d9 [4, 5] ?_)
   refine g9 10 ?_
   refine ⟨rfl, _, (moved_n p26 hst).symm, _, _, rfl, ?_, ?_⟩
   · exact (nm9 hG38 hp_nb30 hk_nb30 hm_nb30 hr_nb30 hok_k)
   exact SlR.cast hs46 (by rw [List.drop_zero])
  have hro : roomB cb (k.msgs ++ (forN p.pivots p.msgs i).take j) ((forN p.pivots p.msgs i)[j]'om9) = true := by rw [← add_snd]; simpa using h58
  have hnx : k.msgs ++ (forN p.pivots p.msgs i).take (j + 1) = (addN cb (k.msgs ++ (forN p.pivots p.msgs i).take j) ((forN p.pivots p.msgs i)[j]'om9)).1 := by rw [addN_t hro, List.take_succ_eq_append_getElem om9, List.append_assoc]
  refine g9 12 ?_
  refine W.sub (sr9.cons _) (g9 2 ?_)
  exact ⟨hG38, (j + 1, [iV ({ k with msgs := (k.msgs ++ (forN p.pivots p.msgs i).take j) }).slot, iV ({ k with msgs := (k.msgs ++ (forN p.pivots p.msgs i).take j) }).level, lV pa_nb30 (({ k with msgs := (k.msgs ++ (forN p.pivots p.msgs i).take j) }).pivots).length pc_nb30, lV ka_nb30 (({ k with msgs := (k.msgs ++ (forN p.pivots p.msgs i).take j) }).kids).length kc_nb30, sV ({ k with msgs := (k.msgs ++ (forN p.pivots p.msgs i).take j) }).high.b, .bool ({ k with msgs := (k.msgs ++ (forN p.pivots p.msgs i).take j) }).top, iV ({ k with msgs := (k.msgs ++ (forN p.pivots p.msgs i).take j) }).right, iV ({ k with msgs := (k.msgs ++ (forN p.pivots p.msgs i).take j) }).seen, lV sa_hv39 ((addN cb (k.msgs ++ (forN p.pivots p.msgs i).take j) ((forN p.pivots p.msgs i)[j]'om9)).1).length sc_hv39, lV ra_nb30 (({ k with msgs := (k.msgs ++ (forN p.pivots p.msgs i).take j) }).rows).length rc_nb30]), hs9, ⟨rfl, (by dsimp only; rw [hnx]; exact ⟨_, _, _, _, _, _, _, _, rfl, (hp_nb30.mono hG38), (hk_nb30.mono hG38), hv39, (hr_nb30.mono hG38), hok_nb30⟩), om9, hd.succ om9 hro⟩, om9⟩
 refine g9 15 ?_
 refine ⟨rfl, _, (moved_n p26 (hd.all om9)).symm, _, _, rfl, ?_, ?_⟩
 · exact (nk9 hp_nb30 hk_nb30 hm_nb30 hr_nb30 hok_k)
 exact SlR.cast (hv8.mono lec) (List.take_of_length_le om9).symm

theorem pcount_fc {G : GH} (cf : Int) (cl : Int) (cb : Int) (cs : Int) (cr : Int) {cs_p : List Value} {p : Nd} (h_p : NodeC G cs_p p) {cs_k : List Value} {k : Nd} (h_k : NodeC G cs_k k) (i : Int) (hb : 0 ≤ cb ∧ cb ≤ 9223372036854775807) (hr : rising p.pivots = true) (hpv : ∀ q ∈ p.pivots, q.b.size ≤ 16) (hpm : ∀ m ∈ p.msgs, m.R) (hkm : ∀ m ∈ k.msgs, m.key.b.size ≤ 16 ∧ m.val.b.size ≤ 16) (hkr : PairsR k.rows) (hi : i64 i) (hsz : k.msgs.length + p.msgs.length ≤ 100000 ∧ k.rows.length ≤ 100000) :
    Fc Tryz.prog 103 [.agg #[iV cf, iV cl, iV cb, iV cs, iV cr], .agg (List.toArray cs_p), .agg (List.toArray cs_k), iV i] G [] (fun v _ _ => v = nt9 (countN cl cb p k i)) := by
 obtain ⟨_, _, _, _, _, _, _, _, rfl, hp_p, hk_p, hm_p, hr_p, hok_p⟩ := h_p
 obtain ⟨_, _, _, _, _, _, _, _, rfl, hp_k, hk_k, hm_k, hr_k, hok_k⟩ := h_k
 refine Fc.go [.tmp 8] Tryz.func103 Tryz.ntmps103 rfl (fun w0 => (g9 2 ?_))
 refine W.box (L := [iV _, iV _, iV _, iV _, iV _]) rfl rfl (fun b47 => (W.box (L := [iV _, iV _, lV _ _ _, lV _ _ _, sV _, .bool _, iV _, iV _, lV _ _ _, lV _ _ _]) rfl rfl (fun b48 => (W.box (L := [iV _, iV _, lV _ _ _, lV _ _ _, sV _, .bool _, iV _, iV _, lV _ _ _, lV _ _ _]) rfl rfl (fun b49 => (g9 9 ?_))))))
 refine W.qcall (pright_fc (p := p) (k := k) (nk9 hp_p hk_p hm_p hr_p hok_p) (nk9 hp_k hk_k hm_k hr_k hok_k) i) rfl (g9 3 ?_)
 refine WC.cond rfl (fun h15 => ?_) (fun h15 => ?_)
 ·refine g9 8 ?_
  refine congrArg (Value.int .i64) (congrArg Nat.cast ?_)
  exact (count_f (by simpa using h15)).symm
 refine g9 8 ?_
 refine W.call (Mp := []) (moved_fc cf cl cb cs cr (p := p) (k := k) (nk9 hp_p hk_p hm_p hr_p hok_p) (nk9 hp_k hk_k hm_k hr_k hok_k) i hb hr hpv hpm hkm hkr hi hsz) rfl pr9 ?_
 intro _ G50 _ hG50 q53
 refine match q53 with | ⟨e_54, _, e_55, _, _, e_56, hv51, hv52⟩ => ?_
 subst e_54
 subst e_55
 subst e_56
 refine match hv51 with | ⟨_, _, _, _, _, _, _, _, e_57, hp_hv51, hk_hv51, hm_hv51, hr_hv51, hok_hv51⟩ => ?_
 subst e_57
 have q59 := hv52.form
 refine match q59 with | ⟨sa_hv52, sc_hv52, e_58⟩ => ?_
 subst e_58
 refine g9 3 ?_
 refine W.alloc zr53 (fun b60 => (g9 13 ?_))
 refine congrArg (Value.int .i64) (congrArg Nat.cast ?_)
 rw [count_t (by simpa using h15), moved_len]

theorem without_fc {G : GH} (ms : Int) (mk : Int) (mkey : Str) (mhi : Str) (mo : Bool) (mv : Str) (slo : Str) (shi : Str) (so : Bool) (hk : mkey.b.size < 140737488355328) :
    Fc Tryz.prog 108 [.agg #[iV ms, iV mk, sV mkey.b, sV mhi.b, .bool mo, sV mv.b], .agg #[sV slo.b, sV shi.b, .bool so]] G [] (fun v _ _ => v = .tuple #[.agg (List.toArray ((withoutN (⟨ms, mk, mkey, mhi, mo, mv⟩ : Msg) ⟨slo, shi, so⟩).1.cells)), .bool ((withoutN (⟨ms, mk, mkey, mhi, mo, mv⟩ : Msg) ⟨slo, shi, so⟩).2)]) := by
 refine Fc.go [.cell 4 90, .tmp 5] Tryz.func108 Tryz.ntmps108 rfl (fun w0 => (g9 2 ?_))
 refine W.box (L := [iV _, iV _, sV _, sV _, .bool _, sV _]) rfl rfl (fun b61 => (W.box (L := [sV _, sV _, .bool _]) rfl rfl (fun b62 => (W.alloc zr90 (fun b63 => (g9 10 ?_))))))
 refine WC.cond rfl (fun ha_so => ?_) (fun ha_so => ?_)
 ·refine g9 2 ?_
  refine W.ok (ok_build (L := [iV _, iV _, sV _, sV _, .bool _, sV _]) pl90 zr90 rfl rfl rfl) (g9 7 ?_)
  show Value.tuple #[Value.agg (List.toArray [_, _, _, _, _, _]), Value.bool _] = _
  rw [withoutN, if_pos (by assumption)]; rfl
 refine g9 7 ?_
 refine W.ok (ok_build (L := [sV _, sV _, .bool _]) pl55 zr55 rfl rfl rfl) (W.qcall (mclip_fc _ _ _ _ _ _ _ Str.nil _ (by first | assumption | omega | (dsimp only; omega))) rfl (g9 8 ?_))
 show Value.tuple #[Value.agg (List.toArray [_, _, _, _, _, _]), Value.bool _] = _
 rw [withoutN, if_neg (by simp_all)]; rfl

theorem needs_fc {G : GH} (cf : Int) (cl : Int) (cb : Int) (cs : Int) (cr : Int) {cs_p : List Value} {p : Nd} (h_p : NodeC G cs_p p) {cs_k : List Value} {k : Nd} (h_k : NodeC G cs_k k) (i : Int) (hb : 0 ≤ cb ∧ cb ≤ 9223372036854775807) (hr : rising p.pivots = true) (hpv : ∀ q ∈ p.pivots, q.b.size ≤ 16) (hpm : ∀ m ∈ p.msgs, m.R) (hkm : ∀ m ∈ k.msgs, m.key.b.size ≤ 16 ∧ m.val.b.size ≤ 16) (hkr : PairsR k.rows) (hi : i64 i) (hsz : k.msgs.length + p.msgs.length ≤ 100000 ∧ k.rows.length ≤ 100000) :
    Fc Tryz.prog 104 [.agg #[iV cf, iV cl, iV cb, iV cs, iV cr], .agg (List.toArray cs_p), .agg (List.toArray cs_k), iV i] G [] (fun v _ _ => v = .bool (decide (KidOf p k i ∧ 0 < (forN p.pivots p.msgs i).length ∧ countN cl cb p k i = 0))) := by
 obtain ⟨_, _, _, _, _, _, _, _, rfl, hp_p, hk_p, hm_p, hr_p, hok_p⟩ := h_p
 obtain ⟨_, _, _, _, _, _, _, _, rfl, hp_k, hk_k, hm_k, hr_k, hok_k⟩ := h_k
 have hpk : ∀ m ∈ p.msgs, m.key.b.size < 140737488355328 := fun m h => by have := (msgR_key (hpm m h)).1; omega
 refine Fc.go [.tmp 8] Tryz.func104 Tryz.ntmps104 rfl (fun w0 => (g9 2 ?_))
 refine W.box (L := [iV _, iV _, iV _, iV _, iV _]) rfl rfl (fun b64 => (W.box (L := [iV _, iV _, lV _ _ _, lV _ _ _, sV _, .bool _, iV _, iV _, lV _ _ _, lV _ _ _]) rfl rfl (fun b65 => (W.box (L := [iV _, iV _, lV _ _ _, lV _ _ _, sV _, .bool _, iV _, iV _, lV _ _ _, lV _ _ _]) rfl rfl (fun b66 => (g9 8 ?_))))))
 refine W.qcall (pright_fc (p := p) (k := k) (nk9 hp_p hk_p hm_p hr_p hok_p) (nk9 hp_k hk_k hm_k hr_k hok_k) i) rfl (W.mv ?_)
 refine W.sp 13 rfl (fun h12 => ?_) (fun h12 => ?_)
 ·refine g9 11 ?_
  refine W.cS (for_fc hp_p hm_p i hpk hr hi) rfl (fun sa_hv68 sc_hv68 G67 hG67 hv68 => (g9 6 ?_))
  refine W.sd 23 (fun h21 p21 => ?_) (fun h21 p21 => ?_)
  ·refine g9 9 ?_
   refine W.qcall (pcount_fc cf cl cb cs cr (p := p) (k := k) (nm9 hG67 hp_p hk_p hm_p hr_p hok_p) (nm9 hG67 hp_k hk_k hm_k hr_k hok_k) i hb hr hpv hpm hkm hkr hi hsz) rfl (g9 8 ?_)
   refine congrArg Value.bool ?_
   first | (simp_all; done) | (simp_all; omega)
  refine g9 12 ?_
  refine congrArg Value.bool ?_
  first | (simp_all; done) | (simp_all; omega)
 refine g9 22 ?_
 refine congrArg Value.bool ?_
 first | (simp_all; done) | (simp_all; omega)

end Go.Proofs.YtfmigmijckdldaaGreat
