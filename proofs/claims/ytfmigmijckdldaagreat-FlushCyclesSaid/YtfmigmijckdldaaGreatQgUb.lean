/- Walks of functions that tell whether a node may be. -/
import Derived.Test.YtfmigmijckdldaaGreatQgWf
import Derived.Test.YtfmigmijckdldaaGreatQgNu
set_option maxRecDepth 100000
set_option maxHeartbeats 1600000
set_option linter.unusedVariables false
set_option linter.unusedSimpArgs false
set_option linter.unnecessarySimpa false
namespace Go.Proofs.YtfmigmijckdldaaGreat
open Go Go.Fw Go.RowKit
attribute [local irreducible] Ok W WC
theorem nhas_fc {G : GH} {cs_a : List Value} {a : Nd} (h_a : NodeC G cs_a a) (k : Str) :
    Fc Tryz.prog 119 [.agg (List.toArray cs_a), sV k.b] G [] (fun v _ _ => v = .bool (a.top || k.lt a.high)) := by
 obtain ⟨_, _, _, _, _, _, _, _, rfl, hp_a, hk_a, hm_a, hr_a, hok_a⟩ := h_a
 refine Fc.go [.tmp 4] Tryz.func119 Tryz.ntmps119 rfl (fun w0 => (g9 2 ?_))
 refine W.box (L := [iV _, iV _, lV _ _ _, lV _ _ _, sV _, .bool _, iV _, iV _, lV _ _ _, lV _ _ _]) rfl rfl (fun b1 => (g9 8 ?_))
 refine W.sp 7 rfl (fun hb_top_a => ?_) (fun hb_top_a => ?_)
 ·refine g9 10 ?_
  refine congrArg Value.bool ?_
  simp_all
 refine g9 7 ?_
 refine W.qcall (less_fc _ _) rfl (g9 6 ?_)
 refine congrArg Value.bool ?_
 simp_all

theorem nleaf_fc {G : GH} (cf : Int) (cl : Int) (cb : Int) (cs : Int) (cr : Int) {cs_n : List Value} {n : Nd} (h_n : NodeC G cs_n n) :
    Fc Tryz.prog 82 [.agg #[iV cf, iV cl, iV cb, iV cs, iV cr], .agg (List.toArray cs_n)] G [] (fun v _ _ => v = .bool (decide (n.leafR cl))) := by
 obtain ⟨pa_n, pc_n, ka_n, kc_n, ma_n, mc_n, ra_n, rc_n, rfl, hp_n, hk_n, hm_n, hr_n, hok_n⟩ := h_n
 have h1 := hp_n.len47
 have h2 := hk_n.len47
 have h3 := hm_n.len47
 have h4 := hr_n.len47
 refine Fc.go [.tmp 4] Tryz.func82 Tryz.ntmps82 rfl (fun w0 => (g9 2 ?_))
 refine W.box (L := [iV _, iV _, iV _, iV _, iV _]) rfl rfl (fun b2 => (W.box (L := [iV _, iV _, lV _ _ _, lV _ _ _, sV _, .bool _, iV _, iV _, lV _ _ _, lV _ _ _]) rfl rfl (fun b3 => (g9 19 ?_))))
 refine W.sd 18 (fun h17 p17 => ?_) (fun h17 p17 => ?_)
 ·refine g9 24 ?_
  refine congrArg Value.bool ?_
  exact (decide_eq_false fun h => by obtain ⟨q1, q2, q3, q4⟩ := h; omega).symm
 refine g9 14 ?_
 refine W.sd 26 (fun h24 p24 => ?_) (fun h24 p24 => ?_)
 ·refine g9 16 ?_
  refine congrArg Value.bool ?_
  exact (decide_eq_false fun h => by obtain ⟨q1, q2, q3, q4⟩ := h; omega).symm
 refine g9 5 ?_
 refine W.qcall (rightp_fc hr_n) rfl (g9 5 ?_)
 refine WC.cond rfl (fun h30 => ?_) (fun h30 => ?_)
 ·refine g9 8 ?_
  refine congrArg Value.bool ?_
  exact (decide_eq_false fun h => by obtain ⟨q1, q2, q3, q4⟩ := h; simp [q3] at h30).symm
 refine g9 9 ?_
 refine WC.loop (X := Nat) (fun k => [(5, nt9 k), (2, pt9 b2), (3, pt9 b3)]) (fun k _ Ml => Ml = [(b3, ce9 53 (ndl n pa_n pc_n ka_n kc_n ma_n mc_n ra_n rc_n)), (b2, ce9 23 [iV cf, iV cl, iV cb, iV cs, iV cr])] ∧ ∀ i (h : i < n.rows.length), i < k → n.has n.rows[i].key = true) (fun k => n.rows.length - k) 0 hs9 ?_ ?_
 ·exact ⟨rfl, fun i _ h => by omega⟩
 rintro k gG4 G4 _ hG4 ⟨rfl, hk⟩
 refine g9 10 ?_
 refine WC.cd (fun h36 p36 => ?_) (fun h36 p36 => ?_)
 ·refine g9 10 ?_
  refine (hr_n.mono hG4).a1 (i := k) om9 (fun he5 => (g9 3 ?_))
  refine W.qcall (nhas_fc (nm9 hG4 hp_n hk_n hm_n hr_n hok_n) _) rfl (g9 3 ?_)
  refine WC.cond rfl (fun h47 => ?_) (fun h47 => ?_)
  ·refine g9 12 ?_
   refine congrArg Value.bool ?_
   exact (decide_eq_false fun h => by obtain ⟨q1, q2, q3, q4⟩ := h; have := q4 k om9; simp_all [Nd.has]).symm
  refine g9 9 ?_
  exact ⟨Le.rfl, k + 1, hs9, ⟨rfl, fun i h hi => by
      by_cases e : i = k
      · subst e; have h1 := h47; show (n.top || _) = true; cases ht : n.top <;> simp_all
      · exact hk i h om9⟩, om9⟩
 refine g9 12 ?_
 refine congrArg Value.bool ?_
 exact (decide_eq_true ⟨om9, om9, by simpa using h30, fun i h => hk i h om9⟩).symm

theorem ninner_fc {G : GH} (cf : Int) (cl : Int) (cb : Int) (cs : Int) (cr : Int) {cs_n : List Value} {n : Nd} (h_n : NodeC G cs_n n) :
    Fc Tryz.prog 83 [.agg #[iV cf, iV cl, iV cb, iV cs, iV cr], .agg (List.toArray cs_n)] G [] (fun v _ _ => v = .bool (decide (n.innerR cf cb))) := by
 obtain ⟨pa_n, pc_n, ka_n, kc_n, ma_n, mc_n, ra_n, rc_n, rfl, hp_n, hk_n, hm_n, hr_n, hok_n⟩ := h_n
 have h1 := hp_n.len47
 have h2 := hk_n.len47
 have h3 := hm_n.len47
 have h4 := hr_n.len47
 refine Fc.go [.tmp 4] Tryz.func83 Tryz.ntmps83 rfl (fun w0 => (g9 2 ?_))
 refine W.box (L := [iV _, iV _, iV _, iV _, iV _]) rfl rfl (fun b8 => (W.box (L := [iV _, iV _, lV _ _ _, lV _ _ _, sV _, .bool _, iV _, iV _, lV _ _ _, lV _ _ _]) rfl rfl (fun b9 => (g9 11 ?_))))
 refine W.sd 13 (fun h12 p12 => ?_) (fun h12 p12 => ?_)
 ·refine g9 46 ?_
  refine congrArg Value.bool ?_
  exact (decide_eq_false fun h => by obtain ⟨⟨q1, q2, q3⟩, q4, q5, q6, q7, q8, q9⟩ := h; omega).symm
 refine g9 10 ?_
 refine W.sd 19 (fun h17 p17 => ?_) (fun h17 p17 => ?_)
 ·refine g9 40 ?_
  refine congrArg Value.bool ?_
  exact (decide_eq_false fun h => by obtain ⟨⟨q1, q2, q3⟩, q4, q5, q6, q7, q8, q9⟩ := h; omega).symm
 refine g9 14 ?_
 refine W.sd 27 (fun h25 p25 => ?_) (fun h25 p25 => ?_)
 ·refine g9 32 ?_
  refine congrArg Value.bool ?_
  exact (decide_eq_false fun h => by obtain ⟨⟨q1, q2, q3⟩, q4, q5, q6, q7, q8, q9⟩ := h; omega).symm
 refine g9 9 ?_
 refine W.qcall (rright_fc hp_n hk_n) rfl (g9 4 ?_)
 refine W.sp 35 rfl (fun h33 => ?_) (fun h33 => ?_)
 ·refine g9 24 ?_
  refine congrArg Value.bool ?_
  exact (decide_eq_false fun h => by obtain ⟨⟨q1, q2, q3⟩, q4, q5, q6, q7, q8, q9⟩ := h; simp [q4] at h33).symm
 refine g9 5 ?_
 refine W.qcall (mall_fc hm_n) rfl (g9 4 ?_)
 refine W.sp 41 rfl (fun h39 => ?_) (fun h39 => ?_)
 ·refine g9 18 ?_
  refine congrArg Value.bool ?_
  exact (decide_eq_false fun h => by obtain ⟨⟨q1, q2, q3⟩, q4, q5, q6, q7, q8, q9⟩ := h; simp [q5] at h39).symm
 have hms : MsgsR n.msgs := by simpa using h39
 have hs := hms.sizes
 refine g9 5 ?_
 refine W.qcall (msizes_fc hm_n (by assumption)) rfl (g9 9 ?_)
 refine WC.cd (fun h47 p47 => ?_) (fun h47 p47 => ?_)
 ·refine g9 8 ?_
  refine congrArg Value.bool ?_
  exact (decide_eq_false fun h => by obtain ⟨⟨q1, q2, q3⟩, q4, q5, q6, q7, q8, q9⟩ := h; omega).symm
 refine g9 9 ?_
 refine WC.loop (X := Nat) (fun k => [(5, nt9 k), (2, pt9 b8), (3, pt9 b9)]) (fun k _ Ml => Ml = [(b9, ce9 53 (ndl n pa_n pc_n ka_n kc_n ma_n mc_n ra_n rc_n)), (b8, ce9 23 [iV cf, iV cl, iV cb, iV cs, iV cr])] ∧ ∀ i (h : i < n.kids.length), i < k → 0 ≤ n.kids[i]) (fun k => n.kids.length - k) 0 hs9 ?_ ?_
 ·exact ⟨rfl, fun i _ h => by omega⟩
 rintro k gG10 G10 _ hG10 ⟨rfl, hk1⟩
 refine g9 10 ?_
 refine WC.cond rfl (fun h53 => ?_) (fun h53 => ?_)
 ·have p53 := odt h53
  refine g9 9 ?_
  refine (hk_n.mono hG10).a2 (i := k) om9 (fun he11 hi12 => (g9 5 ?_))
  refine WC.cd (fun h61 p61 => ?_) (fun h61 p61 => ?_)
  ·refine g9 12 ?_
   refine congrArg Value.bool ?_
   exact (decide_eq_false fun h => by obtain ⟨⟨q1, q2, q3⟩, q4, q5, q6, q7, q8, q9⟩ := h; have := q7 k om9; omega).symm
  refine g9 9 ?_
  exact ⟨Le.rfl, k + 1, hs9, ⟨rfl, fun i h hi => by
      by_cases e : i = k
      · subst e; omega
      · exact hk1 i h om9⟩, om9⟩
 have p53 := odf h53
 refine g9 12 ?_
 refine WC.loop (X := Nat) (fun k => [(6, nt9 k), (2, pt9 b8), (3, pt9 b9)]) (fun k _ Ml => Ml = [(b9, ce9 53 (ndl n pa_n pc_n ka_n kc_n ma_n mc_n ra_n rc_n)), (b8, ce9 23 [iV cf, iV cl, iV cb, iV cs, iV cr])] ∧ ∀ i (h : i < n.pivots.length), i < k → n.parts n.pivots[i]) (fun k => n.pivots.length - k) 0 hs9 ?_ ?_
 ·exact ⟨rfl, fun i _ h => by omega⟩
 rintro k gG15 G15 _ hG15 ⟨rfl, hk2⟩
 refine g9 10 ?_
 refine WC.cond rfl (fun h66 => ?_) (fun h66 => ?_)
 ·have p66 := odt h66
  refine g9 9 ?_
  refine (hp_n.mono (hG10.trans hG15)).a1 (i := k) om9 (fun he16 => (g9 4 ?_))
  refine W.sd 75 (fun h74 p74 => ?_) (fun h74 p74 => ?_)
  ·refine g9 33 ?_
   refine congrArg Value.bool ?_
   exact (decide_eq_false fun h => by obtain ⟨⟨q1, q2, q3⟩, q4, q5, q6, q7, q8, q9⟩ := h; exact (q8 k om9).1 (Str.ext' p74)).symm
  refine g9 7 ?_
  refine (hp_n.mono (hG10.trans hG15)).a1 (i := k) om9 (fun he19 => (g9 9 ?_))
  refine W.sd 84 (fun h82 p82 => ?_) (fun h82 p82 => ?_)
  ·refine g9 24 ?_
   refine congrArg Value.bool ?_
   exact (decide_eq_false fun h => by obtain ⟨⟨q1, q2, q3⟩, q4, q5, q6, q7, q8, q9⟩ := h; have := (q8 k om9).2.1; omega).symm
  refine g9 9 ?_
  refine (hp_n.mono (hG10.trans hG15)).a1 (i := k) om9 (fun he22 => (g9 4 ?_))
  refine W.qcall (nhas_fc (nm9 lec hp_n hk_n hm_n hr_n hok_n) _) rfl (g9 5 ?_)
  refine WC.cond rfl (fun h92 => ?_) (fun h92 => ?_)
  ·refine g9 12 ?_
   refine congrArg Value.bool ?_
   exact (decide_eq_false fun h => by obtain ⟨⟨q1, q2, q3⟩, q4, q5, q6, q7, q8, q9⟩ := h; have := (q8 k om9).2.2; simp_all [Nd.has]).symm
  refine g9 9 ?_
  exact ⟨Le.rfl, k + 1, hs9, ⟨rfl, fun i h hi => by
      by_cases e : i = k
      · subst e; exact ⟨fun e => p74 (congrArg Str.b e), om9, by show (n.top || _) = true; cases ht : n.top <;> simp_all⟩
      · exact hk2 i h om9⟩, om9⟩
 have p66 := odf h66
 refine g9 12 ?_
 refine WC.loop (X := Nat) (fun k => [(7, nt9 k), (2, pt9 b8), (3, pt9 b9)]) (fun k _ Ml => Ml = [(b9, ce9 53 (ndl n pa_n pc_n ka_n kc_n ma_n mc_n ra_n rc_n)), (b8, ce9 23 [iV cf, iV cl, iV cb, iV cs, iV cr])] ∧ ∀ i (h : i < n.msgs.length), i < k → n.fits n.msgs[i]) (fun k => n.msgs.length - k) 0 hs9 ?_ ?_
 ·exact ⟨rfl, fun i _ h => by omega⟩
 rintro k gG25 G25 _ hG25 ⟨rfl, hk3⟩
 refine g9 10 ?_
 refine WC.cond rfl (fun h98 => ?_) (fun h98 => ?_)
 ·have p98 := odt h98
  have hkk : n.msgs[k].key.b.size < 140737488355328 := by have := (hs _ (List.getElem_mem (by omega : k < n.msgs.length))).1; omega
  refine g9 9 ?_
  refine (hm_n.mono ((hG10.trans hG15).trans hG25)).a2 (i := k) om9 (fun he26 hm27 => (g9 2 ?_))
  refine W.qcall (rspan_fc _ _ _ _ _ _ (by first | assumption | omega | (dsimp only; omega))) rfl (W.alloc zr55 (fun b31 => (g9 8 ?_)))
  refine (hm_n.mono ((hG10.trans hG15).trans hG25)).a2 (i := k) om9 (fun he32 hm33 => (g9 7 ?_))
  refine W.sd 116 (fun h115 p115 => ?_) (fun h115 p115 => ?_)
  ·refine g9 30 ?_
   refine congrArg Value.bool ?_
   exact (decide_eq_false fun h => by obtain ⟨⟨q1, q2, q3⟩, q4, q5, q6, q7, q8, q9⟩ := h; have := (q9 k om9).1; omega).symm
  refine g9 8 ?_
  refine W.sp 120 rfl (fun h119 => ?_) (fun h119 => ?_)
  ·refine g9 6 ?_
   refine W.sp 123 rfl (fun h106_2 => ?_) (fun h106_2 => ?_)
   ·refine g9 25 ?_
    refine congrArg Value.bool ?_
    exact (decide_eq_false fun h => by obtain ⟨⟨q1, q2, q3⟩, q4, q5, q6, q7, q8, q9⟩ := h; have := (q9 k om9).2; simp_all).symm
   refine g9 9 ?_
   refine W.qcall (less_fc _ _) rfl (g9 7 ?_)
   refine WC.cond rfl (fun h128 => ?_) (fun h128 => ?_)
   ·refine g9 12 ?_
    refine congrArg Value.bool ?_
    exact (decide_eq_false fun h => by obtain ⟨⟨q1, q2, q3⟩, q4, q5, q6, q7, q8, q9⟩ := h; have := (q9 k om9).2; simp_all).symm
   refine g9 7 ?_
   refine W.sub (sr9.cons _) (g9 2 ?_)
   exact ⟨Le.rfl, k + 1, hs9, ⟨rfl, fun i h hi => by
      by_cases e : i = k
      · subst e; exact ⟨om9, by cases ht : n.top <;> simp_all⟩
      · exact hk3 i h om9⟩, om9⟩
  refine g9 22 ?_
  refine W.sub (sr9.cons _) (g9 2 ?_)
  exact ⟨Le.rfl, k + 1, hs9, ⟨rfl, fun i h hi => by
      by_cases e : i = k
      · subst e; exact ⟨om9, by cases ht : n.top <;> simp_all⟩
      · exact hk3 i h om9⟩, om9⟩
 have p98 := odf h98
 refine g9 12 ?_
 refine congrArg Value.bool ?_
 exact (decide_eq_true ⟨⟨om9, om9, om9⟩, by simpa using h33, hms, om9, fun i h => hk1 i h om9, fun i h => hk2 i h om9, fun i h => hk3 i h om9⟩).symm

theorem nright_fc {G : GH} (cf : Int) (cl : Int) (cb : Int) (cs : Int) (cr : Int) {cs_n : List Value} {n : Nd} (h_n : NodeC G cs_n n) :
    Fc Tryz.prog 40 [.agg #[iV cf, iV cl, iV cb, iV cs, iV cr], .agg (List.toArray cs_n)] G [] (fun v _ _ => v = .bool (decide (n.R cf cl cb))) := by
 obtain ⟨_, _, _, _, _, _, _, _, rfl, hp_n, hk_n, hm_n, hr_n, hok_n⟩ := h_n
 have h1 := hp_n.len47
 have h2 := hk_n.len47
 have h3 := hm_n.len47
 have h4 := hr_n.len47
 refine Fc.go [.tmp 4] Tryz.func40 Tryz.ntmps40 rfl (fun w0 => (g9 2 ?_))
 refine W.box (L := [iV _, iV _, iV _, iV _, iV _]) rfl rfl (fun b37 => (W.box (L := [iV _, iV _, lV _ _ _, lV _ _ _, sV _, .bool _, iV _, iV _, lV _ _ _, lV _ _ _]) rfl rfl (fun b38 => (g9 10 ?_))))
 refine W.sd 8 (fun h7 p7 => ?_) (fun h7 p7 => ?_)
 ·refine g9 34 ?_
  refine congrArg Value.bool ?_
  exact (decide_eq_false fun h => by obtain ⟨⟨q1, q2, q3⟩, q4, q5, q6⟩ := h; omega).symm
 refine g9 8 ?_
 refine W.sd 13 (fun h11 p11 => ?_) (fun h11 p11 => ?_)
 ·refine g9 29 ?_
  refine congrArg Value.bool ?_
  exact (decide_eq_false fun h => by obtain ⟨⟨q1, q2, q3⟩, q4, q5, q6⟩ := h; omega).symm
 refine g9 8 ?_
 refine W.sd 18 (fun h16 p16 => ?_) (fun h16 p16 => ?_)
 ·refine g9 24 ?_
  refine congrArg Value.bool ?_
  exact (decide_eq_false fun h => by obtain ⟨⟨q1, q2, q3⟩, q4, q5, q6⟩ := h; omega).symm
 refine g9 6 ?_
 refine W.sp 21 rfl (fun hb_top_n => ?_) (fun hb_top_n => ?_)
 ·refine g9 8 ?_
  refine W.sm 25 (fun h24 p24 => ?_) (fun h24 p24 => ?_)
  ·refine g9 19 ?_
   refine congrArg Value.bool ?_
   exact (decide_eq_false fun h => by obtain ⟨⟨q1, q2, q3⟩, q4, q5, q6⟩ := h; exact p24 (congrArg Str.b (q4 (by assumption)).1)).symm
  refine g9 13 ?_
  refine WC.cn (fun h28 p28 => ?_) (fun h28 p28 => ?_)
  ·refine g9 8 ?_
   refine congrArg Value.bool ?_
   exact (decide_eq_false fun h => by obtain ⟨⟨q1, q2, q3⟩, q4, q5, q6⟩ := h; have := (q4 (by assumption)).2; omega).symm
  refine g9 37 ?_
  refine WC.cd (fun h53 p53 => ?_) (fun h53 p53 => ?_)
  ·refine g9 4 ?_
   refine W.qcall (nleaf_fc _ _ _ _ _ (nk9 hp_n hk_n hm_n hr_n hok_n)) rfl (g9 6 ?_)
   refine congrArg Value.bool ?_
   exact decide_eq_decide.2 ⟨fun q => ⟨⟨om9, om9, om9⟩, fun _ => ⟨Str.ext' p24, p28⟩, fun h => absurd (hb_top_n.symm.trans h) (by decide), by rw [if_pos p53]; exact q⟩, fun h => by have h := h.2.2.2; rw [if_pos p53] at h; exact h⟩
  refine g9 6 ?_
  refine W.qcall (ninner_fc _ _ _ _ _ (nk9 hp_n hk_n hm_n hr_n hok_n)) rfl (g9 5 ?_)
  refine congrArg Value.bool ?_
  exact decide_eq_decide.2 ⟨fun q => ⟨⟨om9, om9, om9⟩, fun _ => ⟨Str.ext' p24, p28⟩, fun h => absurd (hb_top_n.symm.trans h) (by decide), by rw [if_neg p53]; exact q⟩, fun h => by have h := h.2.2.2; rw [if_neg p53] at h; exact h⟩
 refine g9 31 ?_
 refine W.sd 39 (fun h38 p38 => ?_) (fun h38 p38 => ?_)
 ·refine g9 25 ?_
  refine congrArg Value.bool ?_
  exact (decide_eq_false fun h => by obtain ⟨⟨q1, q2, q3⟩, q4, q5, q6⟩ := h; exact (q5 (by assumption)).1 (Str.ext' p38)).symm
 refine g9 12 ?_
 refine W.sd 45 (fun h43 p43 => ?_) (fun h43 p43 => ?_)
 ·refine g9 17 ?_
  refine congrArg Value.bool ?_
  exact (decide_eq_false fun h => by obtain ⟨⟨q1, q2, q3⟩, q4, q5, q6⟩ := h; have := (q5 (by assumption)).2.1; omega).symm
 refine g9 11 ?_
 refine WC.cd (fun h48 p48 => ?_) (fun h48 p48 => ?_)
 ·refine g9 8 ?_
  refine congrArg Value.bool ?_
  exact (decide_eq_false fun h => by obtain ⟨⟨q1, q2, q3⟩, q4, q5, q6⟩ := h; have := (q5 (by assumption)).2.2; omega).symm
 refine g9 10 ?_
 refine WC.cd (fun h53 p53 => ?_) (fun h53 p53 => ?_)
 ·refine g9 4 ?_
  refine W.qcall (nleaf_fc _ _ _ _ _ (nk9 hp_n hk_n hm_n hr_n hok_n)) rfl (g9 6 ?_)
  refine congrArg Value.bool ?_
  exact decide_eq_decide.2 ⟨fun q => ⟨⟨om9, om9, om9⟩, fun h => absurd (hb_top_n.symm.trans h) (by decide), fun _ => ⟨fun e => p38 (congrArg Str.b e), om9, om9⟩, by rw [if_pos p53]; exact q⟩, fun h => by have h := h.2.2.2; rw [if_pos p53] at h; exact h⟩
 refine g9 6 ?_
 refine W.qcall (ninner_fc _ _ _ _ _ (nk9 hp_n hk_n hm_n hr_n hok_n)) rfl (g9 5 ?_)
 refine congrArg Value.bool ?_
 exact decide_eq_decide.2 ⟨fun q => ⟨⟨om9, om9, om9⟩, fun h => absurd (hb_top_n.symm.trans h) (by decide), fun _ => ⟨fun e => p38 (congrArg Str.b e), om9, om9⟩, by rw [if_neg p53]; exact q⟩, fun h => by have h := h.2.2.2; rw [if_neg p53] at h; exact h⟩

theorem pright_fc {G : GH} {cs_p : List Value} {p : Nd} (h_p : NodeC G cs_p p) {cs_k : List Value} {k : Nd} (h_k : NodeC G cs_k k) (i : Int) :
    Fc Tryz.prog 106 [.agg (List.toArray cs_p), .agg (List.toArray cs_k), iV i] G [] (fun v _ _ => v = .bool (decide (KidOf p k i))) := by
 obtain ⟨_, _, _, _, _, _, _, _, rfl, hp_p, hk_p, hm_p, hr_p, hok_p⟩ := h_p
 obtain ⟨_, _, _, _, _, _, _, _, rfl, hp_k, hk_k, hm_k, hr_k, hok_k⟩ := h_k
 have hlk := hk_p.len47
 obtain ⟨hlv1, hlv2⟩ := hok_p.2.1
 refine Fc.go [.tmp 6] Tryz.func106 Tryz.ntmps106 rfl (fun w0 => (g9 2 ?_))
 refine W.box (L := [iV _, iV _, lV _ _ _, lV _ _ _, sV _, .bool _, iV _, iV _, lV _ _ _, lV _ _ _]) rfl rfl (fun b1 => (W.box (L := [iV _, iV _, lV _ _ _, lV _ _ _, sV _, .bool _, iV _, iV _, lV _ _ _, lV _ _ _]) rfl rfl (fun b2 => (g9 9 ?_))))
 refine W.sd 10 (fun h9 p9 => ?_) (fun h9 p9 => ?_)
 ·refine g9 14 ?_
  refine W.sd 18 (fun h16 p16 => ?_) (fun h16 p16 => ?_)
  ·refine g9 6 ?_
   refine W.sd 22 (fun h20 p20 => ?_) (fun h20 p20 => ?_)
   ·refine g9 16 ?_
    refine congrArg Value.bool ?_
    exact decide_eq_decide.2 ⟨fun h => ⟨om9, p16, om9, h⟩, fun h => h.2.2.2⟩
   refine g9 11 ?_
   refine congrArg Value.bool ?_
   exact (decide_eq_false fun h => by unfold KidOf at h; omega).symm
  refine g9 15 ?_
  refine congrArg Value.bool ?_
  exact (decide_eq_false fun h => by unfold KidOf at h; omega).symm
 refine g9 23 ?_
 refine congrArg Value.bool ?_
 exact (decide_eq_false fun h => by unfold KidOf at h; omega).symm

theorem moved_fc {G : GH} (cf : Int) (cl : Int) (cb : Int) (cs : Int) (cr : Int) {cs_p : List Value} {p : Nd} (h_p : NodeC G cs_p p) {cs_k : List Value} {k : Nd} (h_k : NodeC G cs_k k) (i : Int) (hb : 0 ≤ cb ∧ cb ≤ 9223372036854775807) (hr : rising p.pivots = true) (hpv : ∀ q ∈ p.pivots, q.b.size ≤ 16) (hpm : ∀ m ∈ p.msgs, m.R) (hkm : ∀ m ∈ k.msgs, m.key.b.size ≤ 16 ∧ m.val.b.size ≤ 16) (hkr : PairsR k.rows) (hi : i64 i) (hsz : k.msgs.length + p.msgs.length ≤ 100000 ∧ k.rows.length ≤ 100000) :
    Fc Tryz.prog 107 [.agg #[iV cf, iV cl, iV cb, iV cs, iV cr], .agg (List.toArray cs_p), .agg (List.toArray cs_k), iV i] G [] (fun v G' M' => M' = [] ∧ ∃ r : Nd × Nat, r = movedN cl cb k (forN p.pivots p.msgs i) ∧ ∃ u0 u1, v = .tuple #[.agg (List.toArray u0), u1] ∧ NodeC G' u0 (r.1) ∧ SlR eMsg G' u1 ((forN p.pivots p.msgs i).take r.2)) := by
 obtain ⟨pa_p, pc_p, ka_p, kc_p, ma_p, mc_p, ra_p, rc_p, rfl, hp_p, hk_p, hm_p, hr_p, hok_p⟩ := h_p
 obtain ⟨_, _, _, _, _, _, _, _, rfl, hp_k, hk_k, hm_k, hr_k, hok_k⟩ := h_k
 have hfR : ∀ m ∈ (forN p.pivots p.msgs i), m.R := for_R hpv hpm
 have hfl := for_len p.pivots p.msgs i
 have hpk : ∀ m ∈ p.msgs, m.key.b.size < 140737488355328 := fun m h => by have := (msgR_key (hpm m h)).1; omega
 have hdl := drain_le cl (forN p.pivots p.msgs i) k.rows
 refine Fc.go [.cell 8 53, .tmp 9] Tryz.func107 Tryz.ntmps107 rfl (fun w0 => (g9 2 ?_))
 refine W.box (L := [iV _, iV _, iV _, iV _, iV _]) rfl rfl (fun b3 => (W.box (L := [iV _, iV _, lV _ _ _, lV _ _ _, sV _, .bool _, iV _, iV _, lV _ _ _, lV _ _ _]) rfl rfl (fun b4 => (W.box (L := [iV _, iV _, lV _ _ _, lV _ _ _, sV _, .bool _, iV _, iV _, lV _ _ _, lV _ _ _]) rfl rfl (fun b5 => (W.alloc zr53 (fun b6 => (g9 10 ?_))))))))
 refine W.cS (for_fc hp_p hm_p i hpk hr hi) rfl (fun sa_hv8 sc_hv8 G7 hG7 hv8 => (g9 6 ?_))
 refine W.cN (ncopy_fc (a := k) (nm9 hG7 hp_k hk_k hm_k hr_k hok_k)) rfl (fun pa_hv15 pc_hv15 ka_hv15 kc_hv15 ma_hv15 mc_hv15 ra_hv15 rc_hv15 G14 hG14 hp_hv15 hk_hv15 hm_hv15 hr_hv15 hok_hv15 => (g9 11 ?_))
 refine WC.cd (fun h26 p26 => ?_) (fun h26 p26 => ?_)
 ·refine g9 12 ?_
  refine W.call (Mp := []) (ldrain_fc hr_hv15 (hv8.mono hG14) cl hkr om9 hfR) rfl pr9 ?_
  intro _ G20 _ hG20 q22
  refine match q22 with | ⟨e_23, _, e_24, _, e_25, hv21⟩ => ?_
  subst e_23
  subst e_24
  subst e_25
  have q27 := hv21.form
  refine match q27 with | ⟨sa_hv21, sc_hv21, e_26⟩ => ?_
  subst e_26
  refine g9 9 ?_
  refine WC.dw (((sr9.k9.k9).k9).cons _) (d9 [0, 1, 2] ?_)
  have hs28 := SlR.slice (hv8.mono (hG14.trans hG20)) (lo := 0) (hi := (drainN cl k.rows (forN p.pivots p.msgs i)).2) om9 om9
  refine WD.tk 3 rfl (ok_slice (0) ((drainN cl k.rows (forN p.pivots p.msgs i)).2) sl51 ty90 (hv8.mono lec) rfl rfl ⟨_, _, rfl, om9⟩ ⟨om9, om9⟩) (d9 [4, 5] ?_)
  refine g9 5 ?_
  refine ⟨rfl, _, (moved_0 p26).symm, _, _, rfl, ?_, ?_⟩
  · exact ⟨_, _, _, _, _, _, _, _, rfl, (hp_hv15.mono hG20), (hk_hv15.mono hG20), (hm_hv15.mono hG20), hv21, hok_k⟩
  exact SlR.cast hs28 (by rw [List.drop_zero])
 refine g9 11 ?_
 refine WC.loop (X := (Nat) × List Value) (fun j => [(43, nt9 j.1), (4, pt9 b3), (6, pt9 b5), (8, pt9 b6), (10, lV sa_hv8 ((forN p.pivots p.msgs i)).length sc_hv8), (41, lV sa_hv8 ((forN p.pivots p.msgs i)).length sc_hv8), (42, nt9 (((forN p.pivots p.msgs i)).length))]) (fun j G Ml => Ml = [(b6, ce9 53 nz9), (b5, .cells (List.toArray j.2) 53 (0, 0)), (b4, ce9 53 (ndl p pa_p pc_p ka_p kc_p ma_p mc_p ra_p rc_p)), (b3, ce9 23 [iV cf, iV cl, iV cb, iV cs, iV cr])] ∧ NodeC G j.2 ({ k with msgs := (k.msgs ++ (forN p.pivots p.msgs i).take j.1) }) ∧ j.1 ≤ (forN p.pivots p.msgs i).length ∧ AddsAt cb k.msgs (forN p.pivots p.msgs i) j.1) (fun j => (forN p.pivots p.msgs i).length - j.1) (0, ((ndl (k) pa_hv15 pc_hv15 ka_hv15 kc_hv15 ma_hv15 mc_hv15 ra_hv15 rc_hv15) : List Value)) hs9 ?_ ?_
 ·exact ⟨rfl, (by dsimp only; rw [List.take_zero, List.append_nil]; exact (nk9 hp_hv15 hk_hv15 hm_hv15 hr_hv15 hok_hv15)), om9, AddsAt.zero _ _ _⟩
 rintro ⟨j, C_6⟩ gG29 G29 _ hG29 ⟨rfl, ho_6, hj, hd⟩
 try dsimp only at ho_6 hj hd
 have hsj : ∀ m ∈ (k.msgs ++ (forN p.pivots p.msgs i).take j), m.key.b.size ≤ 16 ∧ m.val.b.size ≤ 16 := fun m h => by
   rcases List.mem_append.1 h with h | h
   · exact hkm m h
   exact msgR_key (hfR m (List.mem_of_mem_take h))
 have hlj : (k.msgs ++ (forN p.pivots p.msgs i).take j).length ≤ 100000 := by rw [List.length_append, List.length_take]; omega
 refine match ho_6 with | ⟨pa_nb30, pc_nb30, ka_nb30, kc_nb30, _, _, ra_nb30, rc_nb30, e_31, hp_nb30, hk_nb30, hm_nb30, hr_nb30, hok_nb30⟩ => ?_
 subst e_31
 refine WC.fr (f := setL gG29 [(43, nt9 j), (4, pt9 b3), (6, pt9 b5), (8, pt9 b6), (10, lV sa_hv8 ((forN p.pivots p.msgs i)).length sc_hv8), (41, lV sa_hv8 ((forN p.pivots p.msgs i)).length sc_hv8), (42, nt9 (((forN p.pivots p.msgs i)).length))]) rfl (g9 6 ?_)
 refine WC.cd (fun h44 p44 => ?_) (fun h44 p44 => ?_)
 ·refine g9 7 ?_
  refine (hv8.mono (hG14.trans hG29)).a2 (i := j) om9 (fun he32 hm33 => (g9 2 ?_))
  refine W.alloc zr90 (fun b37 => (g9 11 ?_))
  refine W.call (Mp := []) (badd_fc hm_nb30 ((forN p.pivots p.msgs i)[j]'om9).stamp ((forN p.pivots p.msgs i)[j]'om9).kind ((forN p.pivots p.msgs i)[j]'om9).key ((forN p.pivots p.msgs i)[j]'om9).hi ((forN p.pivots p.msgs i)[j]'om9).opn ((forN p.pivots p.msgs i)[j]'om9).val cb hsj hb (by assumption) (by show List.length (k.msgs ++ (forN p.pivots p.msgs i).take j) ≤ _; omega)) rfl pr9 ?_
  intro _ G38 _ hG38 q40
  refine match q40 with | ⟨e_41, _, e_42, _, e_43, hv39⟩ => ?_
  subst e_41
  subst e_42
  subst e_43
  have q45 := hv39.form
  refine match q45 with | ⟨sa_hv39, sc_hv39, e_44⟩ => ?_
  subst e_44
  refine g9 14 ?_
  refine WC.cond rfl (fun h58 => ?_) (fun h58 => ?_)
  ·have hro : roomB cb (k.msgs ++ (forN p.pivots p.msgs i).take j) ((forN p.pivots p.msgs i)[j]'om9) = false := by rw [← add_snd]; simpa using h58
   have hst := hd.stop om9 hro
   refine WC.seq (WC.dw ((((sr9.k9.k9).k9).cons _).k9) (d9 [0, 1, 2] ?_))
   have hs46 := SlR.slice (hv8.mono ((hG14.trans hG29).trans hG38)) (lo := 0) (hi := j) om9 om9
   refine WD.tk 3 rfl (ok_slice (0) (j) sl51 ty90 (hv8.mono lec) rfl rfl ⟨_, _, rfl, om9⟩ ⟨om9, om9⟩) (d9 [4, 5] ?_)
   refine g9 10 ?_
   refine ⟨rfl, _, (moved_n p26 hst).symm, _, _, rfl, ?_, ?_⟩
   · exact (nm9 hG38 hp_nb30 hk_nb30 hm_nb30 hr_nb30 hok_k)
   exact SlR.cast hs46 (by rw [List.drop_zero])
  have hro : roomB cb (k.msgs ++ (forN p.pivots p.msgs i).take j) ((forN p.pivots p.msgs i)[j]'om9) = true := by rw [← add_snd]; simpa using h58
  have hnx : k.msgs ++ (forN p.pivots p.msgs i).take (j + 1) = (addN cb (k.msgs ++ (forN p.pivots p.msgs i).take j) ((forN p.pivots p.msgs i)[j]'om9)).1 := by rw [addN_t hro, List.take_succ_eq_append_getElem om9, List.append_assoc]
  refine g9 12 ?_
  refine W.sub (sr9.cons _) (g9 2 ?_)
  exact ⟨hG38, (j + 1, [iV ({ k with msgs := (k.msgs ++ (forN p.pivots p.msgs i).take j) }).slot, iV ({ k with msgs := (k.msgs ++ (forN p.pivots p.msgs i).take j) }).level, lV pa_nb30 (({ k with msgs := (k.msgs ++ (forN p.pivots p.msgs i).take j) }).pivots).length pc_nb30, lV ka_nb30 (({ k with msgs := (k.msgs ++ (forN p.pivots p.msgs i).take j) }).kids).length kc_nb30, sV ({ k with msgs := (k.msgs ++ (forN p.pivots p.msgs i).take j) }).high.b, .bool ({ k with msgs := (k.msgs ++ (forN p.pivots p.msgs i).take j) }).top, iV ({ k with msgs := (k.msgs ++ (forN p.pivots p.msgs i).take j) }).right, iV ({ k with msgs := (k.msgs ++ (forN p.pivots p.msgs i).take j) }).seen, lV sa_hv39 ((addN cb (k.msgs ++ (forN p.pivots p.msgs i).take j) ((forN p.pivots p.msgs i)[j]'om9)).1).length sc_hv39, lV ra_nb30 (({ k with msgs := (k.msgs ++ (forN p.pivots p.msgs i).take j) }).rows).length rc_nb30]), hs9, ⟨rfl, (by dsimp only; rw [hnx]; exact ⟨_, _, _, _, _, _, _, _, rfl, (hp_nb30.mono hG38), (hk_nb30.mono hG38), hv39, (hr_nb30.mono hG38), hok_nb30⟩), om9, hd.succ om9 hro⟩, om9⟩
 refine g9 15 ?_
 refine ⟨rfl, _, (moved_n p26 (hd.all om9)).symm, _, _, rfl, ?_, ?_⟩
 · exact (nk9 hp_nb30 hk_nb30 hm_nb30 hr_nb30 hok_k)
 exact SlR.cast (hv8.mono lec) (List.take_of_length_le om9).symm

theorem pcount_fc {G : GH} (cf : Int) (cl : Int) (cb : Int) (cs : Int) (cr : Int) {cs_p : List Value} {p : Nd} (h_p : NodeC G cs_p p) {cs_k : List Value} {k : Nd} (h_k : NodeC G cs_k k) (i : Int) (hb : 0 ≤ cb ∧ cb ≤ 9223372036854775807) (hr : rising p.pivots = true) (hpv : ∀ q ∈ p.pivots, q.b.size ≤ 16) (hpm : ∀ m ∈ p.msgs, m.R) (hkm : ∀ m ∈ k.msgs, m.key.b.size ≤ 16 ∧ m.val.b.size ≤ 16) (hkr : PairsR k.rows) (hi : i64 i) (hsz : k.msgs.length + p.msgs.length ≤ 100000 ∧ k.rows.length ≤ 100000) :
    Fc Tryz.prog 103 [.agg #[iV cf, iV cl, iV cb, iV cs, iV cr], .agg (List.toArray cs_p), .agg (List.toArray cs_k), iV i] G [] (fun v _ _ => v = nt9 (countN cl cb p k i)) := by
 obtain ⟨_, _, _, _, _, _, _, _, rfl, hp_p, hk_p, hm_p, hr_p, hok_p⟩ := h_p
 obtain ⟨_, _, _, _, _, _, _, _, rfl, hp_k, hk_k, hm_k, hr_k, hok_k⟩ := h_k
 refine Fc.go [.tmp 8] Tryz.func103 Tryz.ntmps103 rfl (fun w0 => (g9 2 ?_))
 refine W.box (L := [iV _, iV _, iV _, iV _, iV _]) rfl rfl (fun b47 => (W.box (L := [iV _, iV _, lV _ _ _, lV _ _ _, sV _, .bool _, iV _, iV _, lV _ _ _, lV _ _ _]) rfl rfl (fun b48 => (W.box (L := [iV _, iV _, lV _ _ _, lV _ _ _, sV _, .bool _, iV _, iV _, lV _ _ _, lV _ _ _]) rfl rfl (fun b49 => (g9 9 ?_))))))
 refine W.qcall (pright_fc (p := p) (k := k) (nk9 hp_p hk_p hm_p hr_p hok_p) (nk9 hp_k hk_k hm_k hr_k hok_k) i) rfl (g9 3 ?_)
 refine WC.cond rfl (fun h15 => ?_) (fun h15 => ?_)
 ·refine g9 8 ?_
  refine congrArg (Value.int .i64) (congrArg Nat.cast ?_)
  exact (count_f (by simpa using h15)).symm
 refine g9 8 ?_
 refine W.call (Mp := []) (moved_fc cf cl cb cs cr (p := p) (k := k) (nk9 hp_p hk_p hm_p hr_p hok_p) (nk9 hp_k hk_k hm_k hr_k hok_k) i hb hr hpv hpm hkm hkr hi hsz) rfl pr9 ?_
 intro _ G50 _ hG50 q53
 refine match q53 with | ⟨e_54, _, e_55, _, _, e_56, hv51, hv52⟩ => ?_
 subst e_54
 subst e_55
 subst e_56
 refine match hv51 with | ⟨_, _, _, _, _, _, _, _, e_57, hp_hv51, hk_hv51, hm_hv51, hr_hv51, hok_hv51⟩ => ?_
 subst e_57
 have q59 := hv52.form
 refine match q59 with | ⟨sa_hv52, sc_hv52, e_58⟩ => ?_
 subst e_58
 refine g9 3 ?_
 refine W.alloc zr53 (fun b60 => (g9 13 ?_))
 refine congrArg (Value.int .i64) (congrArg Nat.cast ?_)
 rw [count_t (by simpa using h15), moved_len]

theorem without_fc {G : GH} (ms : Int) (mk : Int) (mkey : Str) (mhi : Str) (mo : Bool) (mv : Str) (slo : Str) (shi : Str) (so : Bool) (hk : mkey.b.size < 140737488355328) :
    Fc Tryz.prog 108 [.agg #[iV ms, iV mk, sV mkey.b, sV mhi.b, .bool mo, sV mv.b], .agg #[sV slo.b, sV shi.b, .bool so]] G [] (fun v _ _ => v = .tuple #[.agg (List.toArray ((withoutN (⟨ms, mk, mkey, mhi, mo, mv⟩ : Msg) ⟨slo, shi, so⟩).1.cells)), .bool ((withoutN (⟨ms, mk, mkey, mhi, mo, mv⟩ : Msg) ⟨slo, shi, so⟩).2)]) := by
 refine Fc.go [.cell 4 90, .tmp 5] Tryz.func108 Tryz.ntmps108 rfl (fun w0 => (g9 2 ?_))
 refine W.box (L := [iV _, iV _, sV _, sV _, .bool _, sV _]) rfl rfl (fun b61 => (W.box (L := [sV _, sV _, .bool _]) rfl rfl (fun b62 => (W.alloc zr90 (fun b63 => (g9 10 ?_))))))
 refine WC.cond rfl (fun ha_so => ?_) (fun ha_so => ?_)
 ·refine g9 2 ?_
  refine W.ok (ok_build (L := [iV _, iV _, sV _, sV _, .bool _, sV _]) pl90 zr90 rfl rfl rfl) (g9 7 ?_)
  show Value.tuple #[Value.agg (List.toArray [_, _, _, _, _, _]), Value.bool _] = _
  rw [withoutN, if_pos (by assumption)]; rfl
 refine g9 7 ?_
 refine W.ok (ok_build (L := [sV _, sV _, .bool _]) pl55 zr55 rfl rfl rfl) (W.qcall (mclip_fc _ _ _ _ _ _ _ Str.nil _ (by first | assumption | omega | (dsimp only; omega))) rfl (g9 8 ?_))
 show Value.tuple #[Value.agg (List.toArray [_, _, _, _, _, _]), Value.bool _] = _
 rw [withoutN, if_neg (by simp_all)]; rfl

theorem needs_fc {G : GH} (cf : Int) (cl : Int) (cb : Int) (cs : Int) (cr : Int) {cs_p : List Value} {p : Nd} (h_p : NodeC G cs_p p) {cs_k : List Value} {k : Nd} (h_k : NodeC G cs_k k) (i : Int) (hb : 0 ≤ cb ∧ cb ≤ 9223372036854775807) (hr : rising p.pivots = true) (hpv : ∀ q ∈ p.pivots, q.b.size ≤ 16) (hpm : ∀ m ∈ p.msgs, m.R) (hkm : ∀ m ∈ k.msgs, m.key.b.size ≤ 16 ∧ m.val.b.size ≤ 16) (hkr : PairsR k.rows) (hi : i64 i) (hsz : k.msgs.length + p.msgs.length ≤ 100000 ∧ k.rows.length ≤ 100000) :
    Fc Tryz.prog 104 [.agg #[iV cf, iV cl, iV cb, iV cs, iV cr], .agg (List.toArray cs_p), .agg (List.toArray cs_k), iV i] G [] (fun v _ _ => v = .bool (decide (KidOf p k i ∧ 0 < (forN p.pivots p.msgs i).length ∧ countN cl cb p k i = 0))) := by
 obtain ⟨_, _, _, _, _, _, _, _, rfl, hp_p, hk_p, hm_p, hr_p, hok_p⟩ := h_p
 obtain ⟨_, _, _, _, _, _, _, _, rfl, hp_k, hk_k, hm_k, hr_k, hok_k⟩ := h_k
 have hpk : ∀ m ∈ p.msgs, m.key.b.size < 140737488355328 := fun m h => by have := (msgR_key (hpm m h)).1; omega
 refine Fc.go [.tmp 8] Tryz.func104 Tryz.ntmps104 rfl (fun w0 => (g9 2 ?_))
 refine W.box (L := [iV _, iV _, iV _, iV _, iV _]) rfl rfl (fun b64 => (W.box (L := [iV _, iV _, lV _ _ _, lV _ _ _, sV _, .bool _, iV _, iV _, lV _ _ _, lV _ _ _]) rfl rfl (fun b65 => (W.box (L := [iV _, iV _, lV _ _ _, lV _ _ _, sV _, .bool _, iV _, iV _, lV _ _ _, lV _ _ _]) rfl rfl (fun b66 => (g9 8 ?_))))))
 refine W.qcall (pright_fc (p := p) (k := k) (nk9 hp_p hk_p hm_p hr_p hok_p) (nk9 hp_k hk_k hm_k hr_k hok_k) i) rfl (W.mv ?_)
 refine W.sp 13 rfl (fun h12 => ?_) (fun h12 => ?_)
 ·refine g9 11 ?_
  refine W.cS (for_fc hp_p hm_p i hpk hr hi) rfl (fun sa_hv68 sc_hv68 G67 hG67 hv68 => (g9 6 ?_))
  refine W.sd 23 (fun h21 p21 => ?_) (fun h21 p21 => ?_)
  ·refine g9 9 ?_
   refine W.qcall (pcount_fc cf cl cb cs cr (p := p) (k := k) (nm9 hG67 hp_p hk_p hm_p hr_p hok_p) (nm9 hG67 hp_k hk_k hm_k hr_k hok_k) i hb hr hpv hpm hkm hkr hi hsz) rfl (g9 8 ?_)
   refine congrArg Value.bool ?_
   first | (simp_all; done) | (simp_all; omega)
  refine g9 12 ?_
  refine congrArg Value.bool ?_
  first | (simp_all; done) | (simp_all; omega)
 refine g9 22 ?_
 refine congrArg Value.bool ?_
 first | (simp_all; done) | (simp_all; omega)

end Go.Proofs.YtfmigmijckdldaaGreat

namespace Go.Fw
open Go Go.RowKit
structure PourPre (cb : Int) (p k : Nd) : Prop where
 hb : 0 ≤ cb ∧ cb ≤ 9223372036854775807
 hr : rising p.pivots = true
 hpv : ∀ q ∈ p.pivots, q.b.size ≤ 16
 hpm : ∀ m ∈ p.msgs, m.R
 hkm : ∀ m ∈ k.msgs, m.key.b.size ≤ 16 ∧ m.val.b.size ≤ 16
 hkr : PairsR k.rows
 hsz : k.msgs.length + p.msgs.length ≤ 100000 ∧ k.rows.length ≤ 100000
theorem pairsR_nil : PairsR [] := fun i h => absurd h (Nat.not_lt_zero i)
theorem nd_msgsR {c : Cfg} {n : Nd} (h : n.R c.fan c.leaf c.bud) : ∀ m ∈ n.msgs, m.R := fun m hm => by
 have h4 := h.2.2.2
 by_cases h0 : n.level = 0
 ·rw [if_pos h0] at h4
  have e : n.msgs = [] := List.eq_nil_of_length_eq_zero (by have := h4.1; omega)
  rw [e] at hm; cases hm
 ·rw [if_neg h0] at h4
  exact (MsgsR.iff.1 h4.2.2.1).1 m hm
theorem nd_rowsR {c : Cfg} {n : Nd} (h : n.R c.fan c.leaf c.bud) : PairsR n.rows := by
 have h4 := h.2.2.2
 by_cases h0 : n.level = 0
 ·rw [if_pos h0] at h4; exact h4.2.2.1
 ·rw [if_neg h0] at h4
  have e : n.rows = [] := List.eq_nil_of_length_eq_zero h4.1.1
  rw [e]; exact pairsR_nil
theorem pre_of {c : Cfg} {p k : Nd} (hp : p.R c.fan c.leaf c.bud) (hk : k.R c.fan c.leaf c.bud) (h1 : ¬ p.level = 0) (sp : NdS p) (sk : NdS k) (hb : c.bud ≤ 9223372036854775807) : PourPre c.bud p k := by
 have hin : p.innerR c.fan c.bud := by have h4 := hp.2.2.2; rwa [if_neg h1] at h4
 have hm := nd_msgsR hp
 have hs := sizes_bound fun m h => msgR_key (hm m h)
 have hs2 := hin.2.2.2.1
 obtain ⟨_, _, s3, s4, _⟩ := sp
 obtain ⟨_, _, k3, k4, _⟩ := sk
 exact ⟨⟨om9, hb⟩, (rightN_spec hin.2.1).1, nd_pivots hp, hm, fun m h => msgR_key (nd_msgsR hk m h), nd_rowsR hk, om9, om9⟩
variable {c : Cfg} {l : List Nd} {ss : List Seat}
structure Halves (n a b : Nd) (k : Str) (h : Nat) : Prop where
 la : a.level = n.level
 lb : b.level = n.level
 aend : a.high = k ∧ a.top = false
 bend : b.high = n.high ∧ b.top = n.top ∧ b.right = n.right
 aright : a.right = b.slot
 leaf : n.level = 0 → 1 ≤ h ∧ h < n.rows.length ∧ a.rows = n.rows.take h ∧ b.rows = n.rows.drop h ∧ a.pivots = n.pivots ∧ b.pivots = n.pivots ∧ (∀ i (hi : i < n.rows.length), i < h → n.rows[i].key.lt k = true) ∧ ∀ i (hi : i < n.rows.length), h ≤ i → n.rows[i].key.lt k = false
 inner : ¬ n.level = 0 → a.rows = n.rows ∧ b.rows = n.rows ∧ ∃ hh : h < n.pivots.length, k = n.pivots[h] ∧ a.pivots = n.pivots.take h ∧ a.kids = n.kids.take (h + 1) ∧ b.pivots = n.pivots.drop (h + 1) ∧ b.kids = n.kids.drop (h + 1)
 size : k ≠ Str.nil ∧ k.b.size ≤ 16
theorem cleave_halves {n : Nd} {fan leaf bud y : Int} (hR : n.R fan leaf bud) (hok : (cleaveN n y).2.2.2 = true) :
  ∃ a b k h, cleaveN n y = (a, b, k, true) ∧ Halves n a b k h ∧ a.slot = n.slot ∧ b.slot = y ∧ a.seen = n.seen ∧ b.seen = n.seen ∧ (n.level = 0 → a.msgs = n.msgs ∧ b.msgs = n.msgs) ∧
   (¬ n.level = 0 → a.msgs = clips ⟨Str.nil, k, false⟩ n.msgs ∧ b.msgs = clips ⟨k, Str.nil, true⟩ n.msgs) ∧ n.has k = true := by
 obtain ⟨⟨q1, q2, q3⟩, q4, q5, q6⟩ := hR
 by_cases h0 : n.level = 0
 ·rw [if_pos h0] at q6
  obtain ⟨r1, r2, r3, r4⟩ := q6
  by_cases hl : n.rows.length < 2
  ·rw [cleave_lf h0 hl] at hok; cases hok
  ·have hlt := PairsR.lt r3 ((n.rows.length + 1) / 2) ((n.rows.length + 1) / 2 - 1) om9 om9
   obtain ⟨b1, b2, b3, b4⟩ := between_props hlt (r3 ((n.rows.length + 1) / 2) om9).1.1
   refine ⟨_, _, _, (n.rows.length + 1) / 2, cleave_lt h0 hl, ⟨rfl, rfl, ⟨rfl, rfl⟩, ⟨rfl, rfl, rfl⟩, rfl, fun _ => ⟨om9, om9, rfl, rfl, rfl, rfl, ?_, ?_⟩, fun h => absurd h0 h, b1, b2⟩, rfl, rfl, rfl, rfl, fun _ => ⟨rfl, rfl⟩, fun h => absurd h0 h, ?_⟩
   ·intro i hi hih
    by_cases e : i = (n.rows.length + 1) / 2 - 1
    ·subst e; exact b3
    ·exact Str.lt_trans (PairsR.lt r3 ((n.rows.length + 1) / 2 - 1) i om9 om9) b3
   ·intro i hi hih
    by_cases e : i = (n.rows.length + 1) / 2
    ·subst e; exact b4
    ·cases h9 : n.rows[i].key.lt (betweenN (n.rows[(n.rows.length + 1) / 2 - 1]'om9).key (n.rows[(n.rows.length + 1) / 2]'om9).key).1
     ·rfl
     ·have := Str.lt_trans (PairsR.lt r3 i ((n.rows.length + 1) / 2) om9 hi) h9
      rw [b4] at this; cases this
   ·have h5 := r4 ((n.rows.length + 1) / 2) om9
    unfold Nd.has at h5 ⊢
    rw [Bool.or_eq_true] at h5 ⊢
    rcases h5 with h5 | h5
    ·exact .inl h5
    ·exact .inr (Str.lt_of_le_of_lt b4 h5)
 ·rw [if_neg h0] at q6
  obtain ⟨⟨r1, r2, r3⟩, r4, r5, r6, r7, r8, r9⟩ := q6
  by_cases hl : n.kids.length < 4
  ·rw [cleave_if h0 (.inl hl)] at hok; cases hok
  ·obtain ⟨hr, hc⟩ := rightN_spec r4
   have hk := r8 ((n.kids.length + 1) / 2 - 1) om9
   have e9 : (n.kids.length + 1) / 2 - 1 + 1 = (n.kids.length + 1) / 2 := om9
   refine ⟨_, _, _, (n.kids.length + 1) / 2 - 1, cleave_it h0 hl r4 hc, ⟨rfl, rfl, ⟨rfl, rfl⟩, ⟨rfl, rfl, rfl⟩, rfl, fun h => absurd h h0, fun _ => ⟨rfl, rfl, om9, rfl, rfl, ?_, ?_, ?_⟩, hk.1, hk.2.1⟩, rfl, rfl, rfl, rfl, fun h => absurd h h0, fun _ => ⟨rfl, rfl⟩, hk.2.2⟩
   ·rw [e9]
   ·rw [e9]
   ·rw [e9]
theorem slots_set {l : List Nd} (hs : SlotsP l) {x : Nd} (hx : 0 ≤ x.slot ∧ x.slot < l.length) (hseen : x.seen ≤ 1099511627776) : SlotsP (l.set x.slot.toNat x) := fun i h => by
 rw [List.length_set] at h
 rw [List.getElem_set]
 split
 ·exact ⟨om9, hseen⟩
 ·exact hs i h
theorem slots_snoc {l : List Nd} (hs : SlotsP l) {x : Nd} (hx : x.slot = l.length) (hseen : x.seen ≤ 1099511627776) : SlotsP (l ++ [x]) := fun i h => by
 rw [List.length_append] at h
 by_cases e : i < l.length
 ·rw [List.getElem_append_left e]; exact hs i e
 ·rw [List.getElem_append_right om9]
  have : i = l.length := by simp at h; omega
  subst this
  simp [hx, hseen]
theorem getL_set {l : List Nd} {x : Nd} (hx : 0 ≤ x.slot ∧ x.slot < l.length) (i : Int) : getL (l.set x.slot.toNat x) i = if i = x.slot then x else getL l i := by
 by_cases e : i = x.slot
 ·rw [if_pos e, e]
  have := getL_at (l := l.set x.slot.toNat x) (k := x.slot.toNat) (by rw [List.length_set]; omega)
  rw [show ((x.slot.toNat : Nat) : Int) = x.slot by omega] at this
  rw [this, List.getElem_set_self]
 ·rw [if_neg e]
  unfold getL
  split
  ·rw [List.getD_eq_getElem?_getD, List.getD_eq_getElem?_getD, List.getElem?_set_ne om9]
  ·rfl
theorem getL_snoc {l : List Nd} {x : Nd} (i : Int) : getL (l ++ [x]) i = if i = l.length then x else getL l i := by
 by_cases e : i = l.length
 ·rw [if_pos e, e, getL_at (by simp)]
  simp
 ·rw [if_neg e]
  unfold getL
  split
  ·rename_i h0
   rw [List.getD_eq_getElem?_getD, List.getD_eq_getElem?_getD]
   by_cases h1 : i.toNat < l.length
   ·rw [List.getElem?_append_left h1]
   ·rw [List.getElem?_eq_none (by simp; omega), List.getElem?_eq_none om9]
  ·rfl
structure HSeat (K A B : Seat) (k : Str) (h : Nat) : Prop where
 hv : Halves K.n A.n B.n k h
 ha : ∀ q, A.s.has q = (K.s.has q && q.lt k)
 hb : ∀ q, B.s.has q = (K.s.has q && !q.lt k)
 na : A.s.norm = A.s
 nb : B.s.norm = B.s
 ma : ∀ s : Span, (∀ q, s.has q = true → A.s.has q = true) → mergeN [clips s A.n.msgs, clips s A.ms] = mergeN [clips s K.n.msgs, clips s K.ms]
 mb : ∀ s : Span, (∀ q, s.has q = true → B.s.has q = true) → mergeN [clips s B.n.msgs, clips s B.ms] = mergeN [clips s K.n.msgs, clips s K.ms]
theorem Tree.k_in (t : Tree c l ss) {K : Seat} (hK : K ∈ ss) {a b : Nd} {k : Str} {h : Nat} (hv : Halves K.n a b k h) (hk : K.n.has k = true) : K.s.has k = true ∧ k ≠ K.s.lo := by
 obtain ⟨⟨p1, p2⟩, p3, p4, p5⟩ := (t.seat hK).2.1
 have hend : K.s.opn = true ∨ k.lt K.s.hi = true := by
  unfold Nd.has at hk
  rw [p1, p2, Bool.or_eq_true] at hk
  exact hk
 by_cases h0 : K.n.level = 0
 ·obtain ⟨g1, g2, _, _, _, _, g3, g4⟩ := hv.leaf h0
  have e1 := (span_has.1 (p3 (h - 1) om9)).1
  have e2 := Str.lt_of_le_of_lt e1 (g3 (h - 1) om9 om9)
  exact ⟨span_has.2 ⟨Str.lt_asymm e2, hend⟩, fun e => by rw [← e, Str.lt_irrefl] at e2; cases e2⟩
 ·obtain ⟨_, _, hh, e, _⟩ := hv.inner h0
  have := p4 h hh
  rw [← e] at this
  exact this
theorem HSeat.placedA (t : Tree c l ss) {K A B : Seat} {k : Str} {h : Nat} (hK : K ∈ ss) (H : HSeat K A B k h) (hs : K.s.norm = K.s) (hk : K.n.has k = true)
  (hm : ∀ m ∈ A.n.msgs, ∃ m' ∈ K.n.msgs, (m'.clip ⟨Str.nil, k, false⟩).2 = true ∧ (m'.clip ⟨Str.nil, k, false⟩).1 = m) : PlacedP A := by
 obtain ⟨⟨p1, p2⟩, p3, p4, p5⟩ := (t.seat hK).2.1
 obtain ⟨k1, k2⟩ := t.k_in hK H.hv hk
 obtain ⟨e, hlo⟩ := left_span hs H.na k1 k2 H.ha
 have eo : A.s.opn = false := by rw [e]
 have eh : A.s.hi = k := by rw [e]
 have el : A.s.lo = K.s.lo := by rw [e]
 refine ⟨⟨by rw [eo]; exact H.hv.aend.2, by rw [eh]; exact H.hv.aend.1⟩, fun i hi => ?_, fun i hi => ?_, fun i hi => ?_⟩
 ·by_cases h0 : K.n.level = 0
  ·obtain ⟨g1, g2, ga, _, _, _, g3, g4⟩ := H.hv.leaf h0
   have hi2 := hi
   rw [ga, List.length_take] at hi2
   simp only [ga, List.getElem_take]
   rw [H.ha, p3 i om9, g3 i om9 om9]; rfl
  ·have ga := (H.hv.inner h0).1
   have gb := (t.inner hK h0).1.1
   rw [ga] at hi
   exact absurd hi om9
 ·by_cases h0 : K.n.level = 0
  ·have ga := (H.hv.leaf h0).2.2.2.2.1
   have gb := (t.leaf hK h0).1
   rw [ga] at hi
   exact absurd hi om9
  ·obtain ⟨_, _, hh, ek, ga, _, _, _⟩ := H.hv.inner h0
   have hi2 := hi
   rw [ga, List.length_take] at hi2
   simp only [ga, List.getElem_take]
   have hr := (rightN_spec (kids_all (t.kids hK) h0).2.2.1).1
   have := p4 i om9
   refine ⟨?_, by rw [el]; exact this.2⟩
   rw [H.ha, this.1, ek, rising_lt hr h i om9 hh]; rfl
 ·obtain ⟨m', hm', hc, e9⟩ := hm _ (List.getElem_mem hi)
  obtain ⟨j, hj, rfl⟩ := List.getElem_of_mem hm'
  refine meet_sub fun q hq => ?_
  rw [← e9] at hq
  have g := clip_in ((t.msgs hK).2.1 _ (List.getElem_mem hj)) hc hq
  rw [H.ha, sub_meet (p5 j hj) g.1]
  have := (span_has.1 g.2).2
  rcases this with h | h
  ·cases h
  ·rw [show q.lt k = true from h]; rfl
theorem HSeat.placedB (t : Tree c l ss) {K A B : Seat} {k : Str} {h : Nat} (hK : K ∈ ss) (H : HSeat K A B k h) (hs : K.s.norm = K.s) (hk : K.n.has k = true)
  (hm : ∀ m ∈ B.n.msgs, ∃ m' ∈ K.n.msgs, (m'.clip ⟨k, Str.nil, true⟩).2 = true ∧ (m'.clip ⟨k, Str.nil, true⟩).1 = m) : PlacedP B := by
 obtain ⟨⟨p1, p2⟩, p3, p4, p5⟩ := (t.seat hK).2.1
 obtain ⟨k1, k2⟩ := t.k_in hK H.hv hk
 have e := right_span hs H.nb k1 H.hb
 have eo : B.s.opn = K.s.opn := by rw [e]
 have eh : B.s.hi = K.s.hi := by rw [e]
 have el : B.s.lo = k := by rw [e]
 refine ⟨⟨by rw [eo, H.hv.bend.2.1]; exact p1, by rw [eh, H.hv.bend.1]; exact p2⟩, fun i hi => ?_, fun i hi => ?_, fun i hi => ?_⟩
 ·by_cases h0 : K.n.level = 0
  ·obtain ⟨g1, g2, _, ga, _, _, g3, g4⟩ := H.hv.leaf h0
   have hi2 := hi
   rw [ga, List.length_drop] at hi2
   simp only [ga, List.getElem_drop]
   rw [H.hb, p3 (h + i) om9, g4 (h + i) om9 om9]; rfl
  ·have ga := (H.hv.inner h0).2.1
   have gb := (t.inner hK h0).1.1
   rw [ga] at hi
   exact absurd hi om9
 ·by_cases h0 : K.n.level = 0
  ·have ga := (H.hv.leaf h0).2.2.2.2.2.1
   have gb := (t.leaf hK h0).1
   rw [ga] at hi
   exact absurd hi om9
  ·obtain ⟨_, _, hh, ek, _, _, ga, _⟩ := H.hv.inner h0
   have hi2 := hi
   rw [ga, List.length_drop] at hi2
   simp only [ga, List.getElem_drop]
   have hr := (rightN_spec (kids_all (t.kids hK) h0).2.2.1).1
   have := p4 (h + 1 + i) om9
   have hl := rising_lt hr (h + 1 + i) h om9 om9
   refine ⟨?_, ?_⟩
   ·rw [H.hb, this.1, ek, Str.lt_asymm hl]; rfl
   ·rw [el, ek]
    intro e2
    rw [e2, Str.lt_irrefl] at hl; cases hl
 ·obtain ⟨m', hm', hc, e9⟩ := hm _ (List.getElem_mem hi)
  obtain ⟨j, hj, rfl⟩ := List.getElem_of_mem hm'
  refine meet_sub fun q hq => ?_
  rw [← e9] at hq
  have g := clip_in ((t.msgs hK).2.1 _ (List.getElem_mem hj)) hc hq
  rw [H.hb, sub_meet (p5 j hj) g.1]
  have := (span_has.1 g.2).1
  rw [show q.lt k = false from this]; rfl
theorem HSeat.kids (t : Tree c l ss) {K A B : Seat} {k : Str} {h : Nat} {l' : List Nd} (hK : K ∈ ss) (H : HSeat K A B k h)
  (hf : ∀ j, j < K.n.kids.length → findN l' (K.n.kids.getD j 0) = findN l (K.n.kids.getD j 0)) : (kidsO l' A).isSome = true ∧ (kidsO l' B).isSome = true ∧ kidsD l' A ++ kidsD l' B = kidsD l K := by
 by_cases h0 : K.n.level = 0
 ·have ea : A.n.level = 0 := by rw [H.hv.la, h0]
  have eb : B.n.level = 0 := by rw [H.hv.lb, h0]
  rw [kidsO_0 ea, kidsO_0 eb, kids_leaf ea, kids_leaf eb, kids_leaf h0]
  exact ⟨rfl, rfl, rfl⟩
 ·obtain ⟨_, _, hh, ek, g1, g2, g3, g4⟩ := H.hv.inner h0
  have a1 := left_kids (l' := l') (t.kids hK) h0 hh g1 g2 H.hv.la (fun q => by rw [H.ha, ek]) H.ma hf
  have b1 := right_kids (l' := l') (t.kids hK) h0 hh g3 g4 H.hv.lb (fun q => by rw [H.hb, ek]) H.mb hf
  exact ⟨a1.1, b1.1, by rw [a1.2, b1.2, List.take_append_drop]⟩
theorem HSeat.view (t : Tree c l ss) {K A B : Seat} {k : Str} {h : Nat} (hK : K ∈ ss) (H : HSeat K A B k h) (ca : K.n.level = 0 → clips A.s A.ms = clips A.s K.ms) (cb : K.n.level = 0 → clips B.s B.ms = clips B.s K.ms) :
  (leavesS [A, B]).flatMap viewS = (leavesS [K]).flatMap viewS := by
 by_cases h0 : K.n.level = 0
 ·have ea : A.n.level = 0 := by rw [H.hv.la, h0]
  have eb : B.n.level = 0 := by rw [H.hv.lb, h0]
  obtain ⟨g1, g2, ga, gb, _, _, g3, g4⟩ := H.hv.leaf h0
  have := view_halves (t.rows hK) (t.fits K hK).2 ga gb H.ha H.hb g3 g4 (ca h0) (cb h0)
  simp only [leavesS, List.filter_cons, ea, eb, h0, decide_true, if_true, List.filter_nil, List.flatMap_cons, List.flatMap_nil, List.append_nil]
  exact this
 ·have ea : ¬ A.n.level = 0 := by rw [H.hv.la]; exact h0
  have eb : ¬ B.n.level = 0 := by rw [H.hv.lb]; exact h0
  simp [leavesS, List.filter_cons, ea, eb, h0]
theorem nds_R {c : Cfg} {n : Nd} (hc : CfgR c) (hR : n.R c.fan c.leaf c.bud) : NdS n := by
 obtain ⟨⟨q1, q2, q3⟩, q4, q5, q6⟩ := hR
 obtain ⟨c1, c2, c3, c4, c5⟩ := hc
 have hh : n.high.b.size ≤ 4000 := by
  cases e : n.top
  ·have := (q5 e).2.1; omega
  ·rw [(q4 e).1]; decide
 by_cases h0 : n.level = 0
 ·rw [if_pos h0] at q6
  obtain ⟨r1, r2, r3, r4⟩ := q6
  have e1 : n.msgs = [] := List.eq_nil_of_length_eq_zero om9
  have e2 : n.pivots = [] := List.eq_nil_of_length_eq_zero om9
  refine ⟨om9, om9, om9, om9, hh, (by rw [e1]; intro m hm; cases hm), (by rw [e2]; intro m hm; cases hm), fun p hp => ?_⟩
  have := (pairsR_iff.1 r3).1 p hp
  exact ⟨by have := this.1; omega, by have := this.2; omega⟩
 ·rw [if_neg h0] at q6
  obtain ⟨⟨r1, r2, r3⟩, r4, r5, r6, r7, r8, r9⟩ := q6
  have e1 : n.rows = [] := List.eq_nil_of_length_eq_zero r1
  have hp := (rightN_spec r4).2
  have hm : ∀ m ∈ n.msgs, m.R := (MsgsR.iff.1 r5).1
  have hl := sizes_len hm
  refine ⟨om9, om9, om9, om9, hh, fun m h => ?_, fun p h => ?_, (by rw [e1]; intro m hm; cases hm)⟩
  ·have := (hm m h).1
   exact ⟨om9, om9, om9⟩
  ·obtain ⟨i, hi, rfl⟩ := List.getElem_of_mem h
   have := (r8 i hi).2.1; omega
theorem sml_R {c : Cfg} {l : List Nd} (hc : CfgR c) (hl : l.length ≤ 4096) (h : ∀ n ∈ l, n.R c.fan c.leaf c.bud) : Sml l := ⟨hl, fun n hn => nds_R hc (h n hn)⟩
theorem slots_range {l : List Nd} (hs : SlotsP l) : (l.map fun n : Nd => n.slot) = (List.range l.length).map fun i : Nat => (i : Int) := by
 refine List.ext_getElem (by simp) fun i hi hj => ?_
 simp only [List.getElem_map, List.getElem_range]
 exact (hs i (by simpa using hi)).1
theorem flat_id {f : Seat → List Seat} : ∀ {L : List Seat}, (∀ y ∈ L, f y = [y]) → L.flatMap f = L
 | [], _ => rfl
 | y :: L, h => by rw [List.flatMap_cons, h y (by simp), flat_id fun z hz => h z (List.mem_cons_of_mem _ hz)]; rfl
theorem leaves_flat {f : Seat → List Seat} : ∀ {L : List Seat}, (∀ x ∈ L, (leavesS (f x)).flatMap viewS = (leavesS [x]).flatMap viewS) → (leavesS (L.flatMap f)).flatMap viewS = (leavesS L).flatMap viewS
 | [], _ => rfl
 | x :: L, h => by
  have ih := leaves_flat (f := f) (L := L) fun z hz => h z (List.mem_cons_of_mem _ hz)
  have e1 : leavesS ((x :: L).flatMap f) = leavesS (f x) ++ leavesS (L.flatMap f) := by unfold leavesS; rw [List.flatMap_cons, List.filter_append]
  have e2 : leavesS (x :: L) = leavesS [x] ++ leavesS L := by unfold leavesS; rw [← List.filter_append]; rfl
  rw [e1, e2, List.flatMap_append, List.flatMap_append, h x (by simp), ih]
theorem flat_fix {f K K' : Seat → List Seat} : ∀ {L : List Seat}, (∀ x ∈ L, (f x).flatMap K' = (K x).flatMap f) → (L.flatMap f).flatMap K' = (L.flatMap K).flatMap f
 | [], _ => rfl
 | x :: L, h => by
  rw [List.flatMap_cons, List.flatMap_cons, List.flatMap_append, List.flatMap_append, h x (by simp), flat_fix fun z hz => h z (List.mem_cons_of_mem _ hz)]
def adoptNd (n : Nd) (i : Nat) (k : Str) (v : Int) : Nd := { n with pivots := (n.pivots.take i ++ [k]) ++ n.pivots.drop i, kids := (n.kids.take (i + 1) ++ [v]) ++ n.kids.drop (i + 1) }
def partL (l : List Nd) (P : Nd) (i : Nat) (a b : Nd) (k : Str) : List Nd := ((l.set a.slot.toNat a).set P.slot.toNat (adoptNd P i k l.length)) ++ [b]
structure PartOf (c : Cfg) (l : List Nd) (ss : List Seat) (P : Seat) (i : Nat) (a b : Nd) (k : Str) (h : Nat) : Prop where
 t : Tree c l ss
 mem : P ∈ ss
 h0 : ¬ P.n.level = 0
 hi : i < P.n.kids.length
 hv : Halves (kidSt l P i).n a b k h
 sa : a.slot = (kidSt l P i).n.slot
 sb : b.slot = l.length
 ea : a.seen = (kidSt l P i).n.seen
 eb : b.seen = (kidSt l P i).n.seen
 m0 : (kidSt l P i).n.level = 0 → a.msgs = (kidSt l P i).n.msgs ∧ b.msgs = (kidSt l P i).n.msgs
 m1 : ¬ (kidSt l P i).n.level = 0 → a.msgs = clips ⟨Str.nil, k, false⟩ (kidSt l P i).n.msgs ∧ b.msgs = clips ⟨k, Str.nil, true⟩ (kidSt l P i).n.msgs
 nk : (kidSt l P i).n.has k = true
 aR : a.R c.fan c.leaf c.bud
 bR : b.R c.fan c.leaf c.bud
 kin : (rangeN P.n.pivots (i : Int)).has k = true
 klo : ¬ k = (rangeN P.n.pivots (i : Int)).lo
 full : (P.n.kids.length : Int) < c.fan
 room : (l.length : Int) < c.slots
 few : l.length < 4096
namespace PartOf
variable {c : Cfg} {l : List Nd} {ss : List Seat} {P : Seat} {i : Nat} {a b : Nd} {k : Str} {h : Nat}
theorem km (p : PartOf c l ss P i a b k h) : kidSt l P i ∈ ss ∧ (kidSt l P i).n.level = P.n.level - 1 := by
 have := p.t.at p.mem p.h0 p.hi
 exact ⟨this.1, this.2.2.2⟩
theorem ne (p : PartOf c l ss P i a b k h) {x y : Seat} (hx : x ∈ ss) (hy : y ∈ ss) (hl : x.n.level ≠ y.n.level) : x.n.slot ≠ y.n.slot := fun e => hl (by rw [p.t.uniq hx hy e])
theorem ksl (p : PartOf c l ss P i a b k h) : (kidSt l P i).n.slot ≠ P.n.slot := p.ne p.km.1 p.mem (by have := p.km.2; omega)
theorem sin (p : PartOf c l ss P i a b k h) {x : Seat} (hx : x ∈ ss) : 0 ≤ x.n.slot ∧ x.n.slot < l.length := (p.t.nd hx).1
theorem lseen (p : PartOf c l ss P i a b k h) {x : Seat} (hx : x ∈ ss) : x.n.seen ≤ 1099511627776 := by
 obtain ⟨j, hj, e⟩ := List.getElem_of_mem (p.t.nd hx).2.2
 rw [← e]; exact (p.t.slot j hj).2
theorem slots (p : PartOf c l ss P i a b k h) : SlotsP (partL l P.n i a b k) := by
 have hk := p.sin p.km.1
 have hp := p.sin p.mem
 have h1 := slots_set p.t.slot (x := a) (by rw [p.sa]; exact hk) (by rw [p.ea]; exact p.lseen p.km.1)
 have h2 := slots_set h1 (x := adoptNd P.n i k l.length) (by rw [List.length_set]; exact hp) (p.lseen p.mem)
 exact slots_snoc h2 (by rw [List.length_set, List.length_set]; exact p.sb) (by rw [p.eb]; exact p.lseen p.km.1)
theorem len (p : PartOf c l ss P i a b k h) : (partL l P.n i a b k).length = l.length + 1 := by
 unfold partL; rw [List.length_append, List.length_set, List.length_set]; rfl
theorem get (p : PartOf c l ss P i a b k h) (s : Int) : getL (partL l P.n i a b k) s = if s = l.length then b else if s = P.n.slot then adoptNd P.n i k l.length else if s = (kidSt l P i).n.slot then a else getL l s := by
 have hk := p.sin p.km.1
 have hp := p.sin p.mem
 unfold partL
 rw [getL_snoc, List.length_set, List.length_set]
 split
 ·rfl
 ·have e := getL_set (l := l.set a.slot.toNat a) (x := adoptNd P.n i k l.length) (by rw [List.length_set]; exact hp) s
  rw [show (adoptNd P.n i k l.length).slot = P.n.slot from rfl] at e
  rw [e]
  split
  ·rfl
  ·rw [getL_set (by rw [p.sa]; exact hk), p.sa]
theorem find (p : PartOf c l ss P i a b k h) (s : Int) : findN (partL l P.n i a b k) s = (if s = l.length then b else if s = P.n.slot then adoptNd P.n i k l.length else if s = (kidSt l P i).n.slot then a else getL l s, decide (0 ≤ s ∧ s < (l.length : Int) + 1)) := by
 rw [find_eq p.slots, p.get, p.len]
 congr 1
theorem find_x (p : PartOf c l ss P i a b k h) {x : Seat} (hx : x ∈ ss) (h1 : x.n.slot ≠ P.n.slot) (h2 : x.n.slot ≠ (kidSt l P i).n.slot) : findN (partL l P.n i a b k) x.n.slot = findN l x.n.slot := by
 have := p.sin hx
 rw [p.find, if_neg om9, if_neg h1, if_neg h2, find_eq p.t.slot, decide_eq_true om9, decide_eq_true om9]
theorem find_p (p : PartOf c l ss P i a b k h) : findN (partL l P.n i a b k) P.n.slot = (adoptNd P.n i k l.length, true) := by
 have := p.sin p.mem
 rw [p.find, if_neg om9, if_pos rfl, decide_eq_true om9]
theorem find_k (p : PartOf c l ss P i a b k h) : findN (partL l P.n i a b k) (kidSt l P i).n.slot = (a, true) := by
 have := p.sin p.km.1
 rw [p.find, if_neg om9, if_neg p.ksl, if_pos rfl, decide_eq_true om9]
theorem find_y (p : PartOf c l ss P i a b k h) : findN (partL l P.n i a b k) (l.length : Int) = (b, true) := by
 rw [p.find, if_pos rfl, decide_eq_true om9]
noncomputable def nP (l : List Nd) (P : Seat) (i : Nat) (k : Str) : Seat := ⟨adoptNd P.n i k l.length, P.s, P.ms⟩
noncomputable def nA (l : List Nd) (P : Seat) (i : Nat) (a b : Nd) (k : Str) : Seat := kidSt (partL l P.n i a b k) (nP l P i k) i
noncomputable def nB (l : List Nd) (P : Seat) (i : Nat) (a b : Nd) (k : Str) : Seat := kidSt (partL l P.n i a b k) (nP l P i k) (i + 1)
theorem slot_at (p : PartOf c l ss P i a b k h) {x : Seat} (hx : x ∈ ss) (h0 : ¬ x.n.level = 0) {j : Nat} (hj : j < x.n.kids.length) : x.n.kids.getD j 0 = (kidSt l x j).n.slot := by
 have e := (p.t.at hx h0 hj)
 rw [List.getD_eq_getElem?_getD, List.getElem?_eq_getElem hj, e.2.2.1, (getL_slot p.t.slot e.2.1).1]; rfl
theorem kid_j (p : PartOf c l ss P i a b k h) (j : Nat) : (nP l P i k).n.kids.getD j 0 = if j ≤ i then P.n.kids.getD j 0 else if j = i + 1 then (l.length : Int) else P.n.kids.getD (j - 1) 0 := by
 have hi := p.hi
 show ((P.n.kids.take (i + 1) ++ [(l.length : Int)]) ++ P.n.kids.drop (i + 1)).getD j 0 = _
 rw [List.getD_eq_getElem?_getD, List.getD_eq_getElem?_getD, List.getD_eq_getElem?_getD]
 have l1 : (P.n.kids.take (i + 1)).length = i + 1 := by rw [List.length_take]; omega
 by_cases h1 : j ≤ i
 ·rw [if_pos h1, List.getElem?_append_left (by rw [List.length_append, l1]; omega), List.getElem?_append_left om9, List.getElem?_take, if_pos om9]
 ·rw [if_neg h1]
  by_cases h2 : j = i + 1
  ·rw [if_pos h2, h2, List.getElem?_append_left (by rw [List.length_append, l1]; simp), List.getElem?_append_right om9, l1]; simp
  ·rw [if_neg h2, List.getElem?_append_right (by rw [List.length_append, l1]; simp; omega), List.getElem?_drop, List.length_append, l1]
   congr 2
   simp; omega
theorem rt (p : PartOf c l ss P i a b k h) : rising P.n.pivots = true ∧ P.n.kids.length = P.n.pivots.length + 1 := rightN_spec (kids_all (p.t.kids p.mem) p.h0).2.2.1
theorem rt' (p : PartOf c l ss P i a b k h) : rightN (nP l P i k).n.pivots (nP l P i k).n.kids.length = true := bins_right (kids_all (p.t.kids p.mem) p.h0).2.2.1 p.hi p.kin p.klo
theorem klen (p : PartOf c l ss P i a b k h) : (nP l P i k).n.kids.length = P.n.kids.length + 1 := by
 have := p.hi
 show ((P.n.kids.take (i + 1) ++ [(l.length : Int)]) ++ P.n.kids.drop (i + 1)).length = _
 simp; omega
theorem kroute (p : PartOf c l ss P i a b k h) : routeN P.n.pivots k = i := by
 have h1 := p.rt
 have h2 := p.kin
 rw [range_has h1.1 k (by have := p.hi; omega), decide_eq_true_eq] at h2
 exact h2.symm
theorem route (p : PartOf c l ss P i a b k h) (q : Str) : (q.lt k = true → routeN (nP l P i k).n.pivots q = routeN P.n.pivots q ∧ routeN P.n.pivots q ≤ i) ∧ (q.lt k = false → routeN (nP l P i k).n.pivots q = routeN P.n.pivots q + 1 ∧ i ≤ routeN P.n.pivots q) := by
 have e := route_ins P.n.pivots i k q
 have hk := p.kroute
 constructor
 ·intro hq
  rw [if_pos hq] at e
  have := route_mono (P := P.n.pivots) (p := k) (q := q) (Str.lt_asymm hq)
  exact ⟨by rw [← Nat.add_zero (routeN P.n.pivots q)]; exact e, om9⟩
 ·intro hq
  rw [if_neg (by simp [hq])] at e
  have := route_mono (P := P.n.pivots) (p := q) (q := k) hq
  exact ⟨e, om9⟩
theorem shas (p : PartOf c l ss P i a b k h) {j : Nat} (hj : j ≤ P.n.kids.length) (q : Str) : ((nP l P i k).s.meet (rangeN (nP l P i k).n.pivots (j : Int))).has q = (P.s.has q && decide (j = routeN (nP l P i k).n.pivots q)) := by
 obtain ⟨h1, h2⟩ := rightN_spec p.rt'
 have := p.klen
 rw [meet_has, range_has h1 q om9]; rfl
theorem khas (p : PartOf c l ss P i a b k h) {j : Nat} (hj : j < P.n.kids.length) (q : Str) : (kidSt l P j).s.has q = (P.s.has q && decide (j = routeN P.n.pivots q)) := kidSt_has (kids_all (p.t.kids p.mem) p.h0).2.2.1 hj q
theorem ha (p : PartOf c l ss P i a b k h) (q : Str) : (nA l P i a b k).s.has q = ((kidSt l P i).s.has q && q.lt k) := by
 have h1 := p.shas (j := i) (by have := p.hi; omega) q
 have h2 := p.khas p.hi q
 show ((nP l P i k).s.meet _).has q = _
 rw [h1, h2]
 cases hq : q.lt k
 ·have := (p.route q).2 hq
  rw [decide_eq_false om9]; simp
 ·have := (p.route q).1 hq
  rw [this.1]; simp
theorem hb (p : PartOf c l ss P i a b k h) (q : Str) : (nB l P i a b k).s.has q = ((kidSt l P i).s.has q && !q.lt k) := by
 have h1 := p.shas (j := i + 1) (by have := p.hi; omega) q
 have h2 := p.khas p.hi q
 show ((nP l P i k).s.meet (rangeN _ ((i + 1 : Nat) : Int))).has q = _
 rw [h1, h2]
 cases hq : q.lt k
 ·have := (p.route q).2 hq
  rw [this.1]; simp
 ·have := (p.route q).1 hq
  rw [decide_eq_false (show ¬ i + 1 = routeN (nP l P i k).n.pivots q by omega)]; simp
theorem ams (p : PartOf c l ss P i a b k h) : (nA l P i a b k).ms = clips (nA l P i a b k).s (kidSt l P i).ms := by
 have h1 := (p.t.two p.mem (nA l P i a b k).s).1
 have h2 := (p.t.kid_ms p.mem (p.t.rst P p.mem) i).1
 rw [h2, clips_append, clips_clips (fun q hq => by rw [p.ha, Bool.and_eq_true] at hq; exact hq.1), clips_clips (fun q hq => by rw [p.ha, Bool.and_eq_true] at hq; exact hq.1), ← h1]
 rfl
theorem bms (p : PartOf c l ss P i a b k h) : (nB l P i a b k).ms = clips (nB l P i a b k).s (kidSt l P i).ms := by
 have h1 := (p.t.two p.mem (nB l P i a b k).s).1
 have h2 := (p.t.kid_ms p.mem (p.t.rst P p.mem) i).1
 rw [h2, clips_append, clips_clips (fun q hq => by rw [p.hb, Bool.and_eq_true] at hq; exact hq.1), clips_clips (fun q hq => by rw [p.hb, Bool.and_eq_true] at hq; exact hq.1), ← h1]
 rfl
theorem an (p : PartOf c l ss P i a b k h) : (nA l P i a b k).n = a := by
 show (findN _ ((nP l P i k).n.kids.getD i 0)).1 = a
 rw [p.kid_j, if_pos (Nat.le_refl i), p.slot_at p.mem p.h0 p.hi, p.find_k]
theorem bn (p : PartOf c l ss P i a b k h) : (nB l P i a b k).n = b := by
 show (findN _ ((nP l P i k).n.kids.getD (i + 1) 0)).1 = b
 rw [p.kid_j, if_neg om9, if_pos rfl, p.find_y]
theorem hs (p : PartOf c l ss P i a b k h) : HSeat (kidSt l P i) (nA l P i a b k) (nB l P i a b k) k h := by
 refine ⟨by rw [p.an, p.bn]; exact p.hv, p.ha, p.hb, meet_norm _ _, meet_norm _ _, fun s hs => ?_, fun s hs => ?_⟩
 ·rw [p.an, p.ams, clips_clips hs]
  by_cases h0 : (kidSt l P i).n.level = 0
  ·rw [(p.m0 h0).1]
  ·rw [(p.m1 h0).1, clips_clips fun q hq => ?_]
   have := hs q hq
   rw [p.ha, Bool.and_eq_true] at this
   exact span_has.2 ⟨Str.nil_le q, .inr this.2⟩
 ·rw [p.bn, p.bms, clips_clips hs]
  by_cases h0 : (kidSt l P i).n.level = 0
  ·rw [(p.m0 h0).2]
  ·rw [(p.m1 h0).2, clips_clips fun q hq => ?_]
   have := hs q hq
   rw [p.hb, Bool.and_eq_true] at this
   exact span_has.2 ⟨by simpa using this.2, .inl rfl⟩
end PartOf
end Go.Fw
