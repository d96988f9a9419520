/- Walks of functions that tell whether a node may be. -/
import Derived.Test.YtcngningbcaggaaQkV4
set_option maxRecDepth 100000
set_option maxHeartbeats 1600000
set_option linter.unusedVariables false
set_option linter.unusedSimpArgs false
set_option linter.unnecessarySimpa false
namespace Go.Proofs.Ytcngningbcaggaa
open Go Go.Fw Go.RowKit
attribute [local irreducible] Ok W WC
theorem nhas_fc {G : GH} {cs_a : List Value} {a : Nd} (h_a : NodeC G cs_a a) (k : Str) :
    Fc Try.prog 109 [.agg (List.toArray cs_a), sV k.b] G [] (fun v _ _ => v = .bool (a.top || k.lt a.high)) := by
 obtain ⟨_, _, _, _, _, _, _, _, rfl, hp_a, hk_a, hm_a, hr_a, hok_a⟩ := h_a
 refine Fc.go [.tmp 4] Try.func109 Try.ntmps109 rfl (fun w0 => (g9 2 ?_))
 refine W.box (L := [iV _, iV _, lV _ _ _, lV _ _ _, sV _, .bool _, iV _, iV _, lV _ _ _, lV _ _ _]) rfl rfl (fun b1 => (g9 8 ?_))
 refine W.sp 7 rfl (fun hb_top_a => ?_) (fun hb_top_a => ?_)
 ·refine g9 10 ?_
  refine congrArg Value.bool ?_
  simp_all
 refine g9 7 ?_
 refine W.qcall (less_fc _ _) rfl (g9 6 ?_)
 refine congrArg Value.bool ?_
 simp_all

theorem nleaf_fc {G : GH} (cf : Int) (cl : Int) (cb : Int) (cs : Int) (cr : Int) {cs_n : List Value} {n : Nd} (h_n : NodeC G cs_n n) :
    Fc Try.prog 89 [.agg #[iV cf, iV cl, iV cb, iV cs, iV cr], .agg (List.toArray cs_n)] G [] (fun v _ _ => v = .bool (decide (n.leafR cl))) := by
 obtain ⟨pa_n, pc_n, ka_n, kc_n, ma_n, mc_n, ra_n, rc_n, rfl, hp_n, hk_n, hm_n, hr_n, hok_n⟩ := h_n
 have h1 := hp_n.len47
 have h2 := hk_n.len47
 have h3 := hm_n.len47
 have h4 := hr_n.len47
 refine Fc.go [.tmp 4] Try.func89 Try.ntmps89 rfl (fun w0 => (g9 2 ?_))
 refine W.box (L := [iV _, iV _, iV _, iV _, iV _]) rfl rfl (fun b2 => (W.box (L := [iV _, iV _, lV _ _ _, lV _ _ _, sV _, .bool _, iV _, iV _, lV _ _ _, lV _ _ _]) rfl rfl (fun b3 => (g9 19 ?_))))
 refine W.sd 18 (fun h17 p17 => ?_) (fun h17 p17 => ?_)
 ·refine g9 24 ?_
  refine congrArg Value.bool ?_
  exact (decide_eq_false fun h => by obtain ⟨q1, q2, q3, q4⟩ := h; omega).symm
 refine g9 14 ?_
 refine W.sd 26 (fun h24 p24 => ?_) (fun h24 p24 => ?_)
 ·refine g9 16 ?_
  refine congrArg Value.bool ?_
  exact (decide_eq_false fun h => by obtain ⟨q1, q2, q3, q4⟩ := h; omega).symm
 refine g9 5 ?_
 refine W.qcall (rightp_fc hr_n) rfl (g9 5 ?_)
 refine WC.cond rfl (fun h30 => ?_) (fun h30 => ?_)
 ·refine g9 8 ?_
  refine congrArg Value.bool ?_
  exact (decide_eq_false fun h => by obtain ⟨q1, q2, q3, q4⟩ := h; simp [q3] at h30).symm
 refine g9 9 ?_
 refine WC.loop (X := Nat) (fun k => [(5, nt9 k), (2, pt9 b2), (3, pt9 b3)]) (fun k _ Ml => Ml = [(b3, ce9 35 (ndl n pa_n pc_n ka_n kc_n ma_n mc_n ra_n rc_n)), (b2, ce9 23 [iV cf, iV cl, iV cb, iV cs, iV cr])] ∧ ∀ i (h : i < n.rows.length), i < k → n.has n.rows[i].key = true) (fun k => n.rows.length - k) 0 hs9 ?_ ?_
 ·exact ⟨rfl, fun i _ h => by omega⟩
 rintro k gG4 G4 _ hG4 ⟨rfl, hk⟩
 refine g9 10 ?_
 refine WC.cd (fun h36 p36 => ?_) (fun h36 p36 => ?_)
 ·refine g9 10 ?_
  refine (hr_n.mono hG4).a1 (i := k) om9 (fun he5 => (g9 3 ?_))
  refine W.qcall (nhas_fc (nm9 hG4 hp_n hk_n hm_n hr_n hok_n) _) rfl (g9 3 ?_)
  refine WC.cond rfl (fun h47 => ?_) (fun h47 => ?_)
  ·refine g9 12 ?_
   refine congrArg Value.bool ?_
   exact (decide_eq_false fun h => by obtain ⟨q1, q2, q3, q4⟩ := h; have := q4 k om9; simp_all [Nd.has]).symm
  refine g9 9 ?_
  exact ⟨Le.rfl, k + 1, hs9, ⟨rfl, fun i h hi => by
      by_cases e : i = k
      · subst e; have h1 := h47; show (n.top || _) = true; cases ht : n.top <;> simp_all
      · exact hk i h om9⟩, om9⟩
 refine g9 12 ?_
 refine congrArg Value.bool ?_
 exact (decide_eq_true ⟨om9, om9, by simpa using h30, fun i h => hk i h om9⟩).symm

theorem ninner_fc {G : GH} (cf : Int) (cl : Int) (cb : Int) (cs : Int) (cr : Int) {cs_n : List Value} {n : Nd} (h_n : NodeC G cs_n n) :
    Fc Try.prog 90 [.agg #[iV cf, iV cl, iV cb, iV cs, iV cr], .agg (List.toArray cs_n)] G [] (fun v _ _ => v = .bool (decide (n.innerR cf cb))) := by
 obtain ⟨pa_n, pc_n, ka_n, kc_n, ma_n, mc_n, ra_n, rc_n, rfl, hp_n, hk_n, hm_n, hr_n, hok_n⟩ := h_n
 have h1 := hp_n.len47
 have h2 := hk_n.len47
 have h3 := hm_n.len47
 have h4 := hr_n.len47
 refine Fc.go [.tmp 4] Try.func90 Try.ntmps90 rfl (fun w0 => (g9 2 ?_))
 refine W.box (L := [iV _, iV _, iV _, iV _, iV _]) rfl rfl (fun b8 => (W.box (L := [iV _, iV _, lV _ _ _, lV _ _ _, sV _, .bool _, iV _, iV _, lV _ _ _, lV _ _ _]) rfl rfl (fun b9 => (g9 11 ?_))))
 refine W.sd 13 (fun h12 p12 => ?_) (fun h12 p12 => ?_)
 ·refine g9 46 ?_
  refine congrArg Value.bool ?_
  exact (decide_eq_false fun h => by obtain ⟨⟨q1, q2, q3⟩, q4, q5, q6, q7, q8, q9⟩ := h; omega).symm
 refine g9 10 ?_
 refine W.sd 19 (fun h17 p17 => ?_) (fun h17 p17 => ?_)
 ·refine g9 40 ?_
  refine congrArg Value.bool ?_
  exact (decide_eq_false fun h => by obtain ⟨⟨q1, q2, q3⟩, q4, q5, q6, q7, q8, q9⟩ := h; omega).symm
 refine g9 14 ?_
 refine W.sd 27 (fun h25 p25 => ?_) (fun h25 p25 => ?_)
 ·refine g9 32 ?_
  refine congrArg Value.bool ?_
  exact (decide_eq_false fun h => by obtain ⟨⟨q1, q2, q3⟩, q4, q5, q6, q7, q8, q9⟩ := h; omega).symm
 refine g9 9 ?_
 refine W.qcall (rright_fc hp_n hk_n) rfl (g9 4 ?_)
 refine W.sp 35 rfl (fun h33 => ?_) (fun h33 => ?_)
 ·refine g9 24 ?_
  refine congrArg Value.bool ?_
  exact (decide_eq_false fun h => by obtain ⟨⟨q1, q2, q3⟩, q4, q5, q6, q7, q8, q9⟩ := h; simp [q4] at h33).symm
 refine g9 5 ?_
 refine W.qcall (mall_fc hm_n) rfl (g9 4 ?_)
 refine W.sp 41 rfl (fun h39 => ?_) (fun h39 => ?_)
 ·refine g9 18 ?_
  refine congrArg Value.bool ?_
  exact (decide_eq_false fun h => by obtain ⟨⟨q1, q2, q3⟩, q4, q5, q6, q7, q8, q9⟩ := h; simp [q5] at h39).symm
 have hms : MsgsR n.msgs := by simpa using h39
 have hs := hms.sizes
 refine g9 5 ?_
 refine W.qcall (msizes_fc hm_n (by assumption)) rfl (g9 9 ?_)
 refine WC.cd (fun h47 p47 => ?_) (fun h47 p47 => ?_)
 ·refine g9 8 ?_
  refine congrArg Value.bool ?_
  exact (decide_eq_false fun h => by obtain ⟨⟨q1, q2, q3⟩, q4, q5, q6, q7, q8, q9⟩ := h; omega).symm
 refine g9 9 ?_
 refine WC.loop (X := Nat) (fun k => [(5, nt9 k), (2, pt9 b8), (3, pt9 b9)]) (fun k _ Ml => Ml = [(b9, ce9 35 (ndl n pa_n pc_n ka_n kc_n ma_n mc_n ra_n rc_n)), (b8, ce9 23 [iV cf, iV cl, iV cb, iV cs, iV cr])] ∧ ∀ i (h : i < n.kids.length), i < k → 0 ≤ n.kids[i]) (fun k => n.kids.length - k) 0 hs9 ?_ ?_
 ·exact ⟨rfl, fun i _ h => by omega⟩
 rintro k gG10 G10 _ hG10 ⟨rfl, hk1⟩
 refine g9 10 ?_
 refine WC.cond rfl (fun h53 => ?_) (fun h53 => ?_)
 ·have p53 := odt h53
  refine g9 9 ?_
  refine (hk_n.mono hG10).a2 (i := k) om9 (fun he11 hi12 => (g9 5 ?_))
  refine WC.cd (fun h61 p61 => ?_) (fun h61 p61 => ?_)
  ·refine g9 12 ?_
   refine congrArg Value.bool ?_
   exact (decide_eq_false fun h => by obtain ⟨⟨q1, q2, q3⟩, q4, q5, q6, q7, q8, q9⟩ := h; have := q7 k om9; omega).symm
  refine g9 9 ?_
  exact ⟨Le.rfl, k + 1, hs9, ⟨rfl, fun i h hi => by
      by_cases e : i = k
      · subst e; omega
      · exact hk1 i h om9⟩, om9⟩
 have p53 := odf h53
 refine g9 12 ?_
 refine WC.loop (X := Nat) (fun k => [(6, nt9 k), (2, pt9 b8), (3, pt9 b9)]) (fun k _ Ml => Ml = [(b9, ce9 35 (ndl n pa_n pc_n ka_n kc_n ma_n mc_n ra_n rc_n)), (b8, ce9 23 [iV cf, iV cl, iV cb, iV cs, iV cr])] ∧ ∀ i (h : i < n.pivots.length), i < k → n.parts n.pivots[i]) (fun k => n.pivots.length - k) 0 hs9 ?_ ?_
 ·exact ⟨rfl, fun i _ h => by omega⟩
 rintro k gG15 G15 _ hG15 ⟨rfl, hk2⟩
 refine g9 10 ?_
 refine WC.cond rfl (fun h66 => ?_) (fun h66 => ?_)
 ·have p66 := odt h66
  refine g9 9 ?_
  refine (hp_n.mono (hG10.trans hG15)).a1 (i := k) om9 (fun he16 => (g9 4 ?_))
  refine W.sd 75 (fun h74 p74 => ?_) (fun h74 p74 => ?_)
  ·refine g9 33 ?_
   refine congrArg Value.bool ?_
   exact (decide_eq_false fun h => by obtain ⟨⟨q1, q2, q3⟩, q4, q5, q6, q7, q8, q9⟩ := h; exact (q8 k om9).1 (Str.ext' p74)).symm
  refine g9 7 ?_
  refine (hp_n.mono (hG10.trans hG15)).a1 (i := k) om9 (fun he19 => (g9 9 ?_))
  refine W.sd 84 (fun h82 p82 => ?_) (fun h82 p82 => ?_)
  ·refine g9 24 ?_
   refine congrArg Value.bool ?_
   exact (decide_eq_false fun h => by obtain ⟨⟨q1, q2, q3⟩, q4, q5, q6, q7, q8, q9⟩ := h; have := (q8 k om9).2.1; omega).symm
  refine g9 9 ?_
  refine (hp_n.mono (hG10.trans hG15)).a1 (i := k) om9 (fun he22 => (g9 4 ?_))
  refine W.qcall (nhas_fc (nm9 lec hp_n hk_n hm_n hr_n hok_n) _) rfl (g9 5 ?_)
  refine WC.cond rfl (fun h92 => ?_) (fun h92 => ?_)
  ·refine g9 12 ?_
   refine congrArg Value.bool ?_
   exact (decide_eq_false fun h => by obtain ⟨⟨q1, q2, q3⟩, q4, q5, q6, q7, q8, q9⟩ := h; have := (q8 k om9).2.2; simp_all [Nd.has]).symm
  refine g9 9 ?_
  exact ⟨Le.rfl, k + 1, hs9, ⟨rfl, fun i h hi => by
      by_cases e : i = k
      · subst e; exact ⟨fun e => p74 (congrArg Str.b e), om9, by show (n.top || _) = true; cases ht : n.top <;> simp_all⟩
      · exact hk2 i h om9⟩, om9⟩
 have p66 := odf h66
 refine g9 12 ?_
 refine WC.loop (X := Nat) (fun k => [(7, nt9 k), (2, pt9 b8), (3, pt9 b9)]) (fun k _ Ml => Ml = [(b9, ce9 35 (ndl n pa_n pc_n ka_n kc_n ma_n mc_n ra_n rc_n)), (b8, ce9 23 [iV cf, iV cl, iV cb, iV cs, iV cr])] ∧ ∀ i (h : i < n.msgs.length), i < k → n.fits n.msgs[i]) (fun k => n.msgs.length - k) 0 hs9 ?_ ?_
 ·exact ⟨rfl, fun i _ h => by omega⟩
 rintro k gG25 G25 _ hG25 ⟨rfl, hk3⟩
 refine g9 10 ?_
 refine WC.cond rfl (fun h98 => ?_) (fun h98 => ?_)
 ·have p98 := odt h98
  have hkk : n.msgs[k].key.b.size < 140737488355328 := by have := (hs _ (List.getElem_mem (by omega : k < n.msgs.length))).1; omega
  refine g9 9 ?_
  refine (hm_n.mono ((hG10.trans hG15).trans hG25)).a2 (i := k) om9 (fun he26 hm27 => (g9 2 ?_))
  refine W.qcall (rspan_fc _ _ _ _ _ _ (by first | assumption | omega | (dsimp only; omega))) rfl (W.alloc zr37 (fun b31 => (g9 8 ?_)))
  refine (hm_n.mono ((hG10.trans hG15).trans hG25)).a2 (i := k) om9 (fun he32 hm33 => (g9 7 ?_))
  refine W.sd 116 (fun h115 p115 => ?_) (fun h115 p115 => ?_)
  ·refine g9 30 ?_
   refine congrArg Value.bool ?_
   exact (decide_eq_false fun h => by obtain ⟨⟨q1, q2, q3⟩, q4, q5, q6, q7, q8, q9⟩ := h; have := (q9 k om9).1; omega).symm
  refine g9 8 ?_
  refine W.sp 120 rfl (fun h119 => ?_) (fun h119 => ?_)
  ·refine g9 6 ?_
   refine W.sp 123 rfl (fun h106_2 => ?_) (fun h106_2 => ?_)
   ·refine g9 25 ?_
    refine congrArg Value.bool ?_
    exact (decide_eq_false fun h => by obtain ⟨⟨q1, q2, q3⟩, q4, q5, q6, q7, q8, q9⟩ := h; have := (q9 k om9).2; simp_all).symm
   refine g9 9 ?_
   refine W.qcall (less_fc _ _) rfl (g9 7 ?_)
   refine WC.cond rfl (fun h128 => ?_) (fun h128 => ?_)
   ·refine g9 12 ?_
    refine congrArg Value.bool ?_
    exact (decide_eq_false fun h => by obtain ⟨⟨q1, q2, q3⟩, q4, q5, q6, q7, q8, q9⟩ := h; have := (q9 k om9).2; simp_all).symm
   refine g9 7 ?_
   refine W.sub (sr9.cons _) (g9 2 ?_)
   exact ⟨Le.rfl, k + 1, hs9, ⟨rfl, fun i h hi => by
      by_cases e : i = k
      · subst e; exact ⟨om9, by cases ht : n.top <;> simp_all⟩
      · exact hk3 i h om9⟩, om9⟩
  refine g9 22 ?_
  refine W.sub (sr9.cons _) (g9 2 ?_)
  exact ⟨Le.rfl, k + 1, hs9, ⟨rfl, fun i h hi => by
      by_cases e : i = k
      · subst e; exact ⟨om9, by cases ht : n.top <;> simp_all⟩
      · exact hk3 i h om9⟩, om9⟩
 have p98 := odf h98
 refine g9 12 ?_
 refine congrArg Value.bool ?_
 exact (decide_eq_true ⟨⟨om9, om9, om9⟩, by simpa using h33, hms, om9, fun i h => hk1 i h om9, fun i h => hk2 i h om9, fun i h => hk3 i h om9⟩).symm

theorem nright_fc {G : GH} (cf : Int) (cl : Int) (cb : Int) (cs : Int) (cr : Int) {cs_n : List Value} {n : Nd} (h_n : NodeC G cs_n n) :
    Fc Try.prog 62 [.agg #[iV cf, iV cl, iV cb, iV cs, iV cr], .agg (List.toArray cs_n)] G [] (fun v _ _ => v = .bool (decide (n.R cf cl cb))) := by
 obtain ⟨_, _, _, _, _, _, _, _, rfl, hp_n, hk_n, hm_n, hr_n, hok_n⟩ := h_n
 have h1 := hp_n.len47
 have h2 := hk_n.len47
 have h3 := hm_n.len47
 have h4 := hr_n.len47
 refine Fc.go [.tmp 4] Try.func62 Try.ntmps62 rfl (fun w0 => (g9 2 ?_))
 refine W.box (L := [iV _, iV _, iV _, iV _, iV _]) rfl rfl (fun b37 => (W.box (L := [iV _, iV _, lV _ _ _, lV _ _ _, sV _, .bool _, iV _, iV _, lV _ _ _, lV _ _ _]) rfl rfl (fun b38 => (g9 10 ?_))))
 refine W.sd 8 (fun h7 p7 => ?_) (fun h7 p7 => ?_)
 ·refine g9 34 ?_
  refine congrArg Value.bool ?_
  exact (decide_eq_false fun h => by obtain ⟨⟨q1, q2, q3⟩, q4, q5, q6⟩ := h; omega).symm
 refine g9 8 ?_
 refine W.sd 13 (fun h11 p11 => ?_) (fun h11 p11 => ?_)
 ·refine g9 29 ?_
  refine congrArg Value.bool ?_
  exact (decide_eq_false fun h => by obtain ⟨⟨q1, q2, q3⟩, q4, q5, q6⟩ := h; omega).symm
 refine g9 8 ?_
 refine W.sd 18 (fun h16 p16 => ?_) (fun h16 p16 => ?_)
 ·refine g9 24 ?_
  refine congrArg Value.bool ?_
  exact (decide_eq_false fun h => by obtain ⟨⟨q1, q2, q3⟩, q4, q5, q6⟩ := h; omega).symm
 refine g9 6 ?_
 refine W.sp 21 rfl (fun hb_top_n => ?_) (fun hb_top_n => ?_)
 ·refine g9 8 ?_
  refine W.sm 25 (fun h24 p24 => ?_) (fun h24 p24 => ?_)
  ·refine g9 19 ?_
   refine congrArg Value.bool ?_
   exact (decide_eq_false fun h => by obtain ⟨⟨q1, q2, q3⟩, q4, q5, q6⟩ := h; exact p24 (congrArg Str.b (q4 (by assumption)).1)).symm
  refine g9 13 ?_
  refine WC.cn (fun h28 p28 => ?_) (fun h28 p28 => ?_)
  ·refine g9 8 ?_
   refine congrArg Value.bool ?_
   exact (decide_eq_false fun h => by obtain ⟨⟨q1, q2, q3⟩, q4, q5, q6⟩ := h; have := (q4 (by assumption)).2; omega).symm
  refine g9 37 ?_
  refine WC.cd (fun h53 p53 => ?_) (fun h53 p53 => ?_)
  ·refine g9 4 ?_
   refine W.qcall (nleaf_fc _ _ _ _ _ (nk9 hp_n hk_n hm_n hr_n hok_n)) rfl (g9 6 ?_)
   refine congrArg Value.bool ?_
   exact decide_eq_decide.2 ⟨fun q => ⟨⟨om9, om9, om9⟩, fun _ => ⟨Str.ext' p24, p28⟩, fun h => absurd (hb_top_n.symm.trans h) (by decide), by rw [if_pos p53]; exact q⟩, fun h => by have h := h.2.2.2; rw [if_pos p53] at h; exact h⟩
  refine g9 6 ?_
  refine W.qcall (ninner_fc _ _ _ _ _ (nk9 hp_n hk_n hm_n hr_n hok_n)) rfl (g9 5 ?_)
  refine congrArg Value.bool ?_
  exact decide_eq_decide.2 ⟨fun q => ⟨⟨om9, om9, om9⟩, fun _ => ⟨Str.ext' p24, p28⟩, fun h => absurd (hb_top_n.symm.trans h) (by decide), by rw [if_neg p53]; exact q⟩, fun h => by have h := h.2.2.2; rw [if_neg p53] at h; exact h⟩
 refine g9 31 ?_
 refine W.sd 39 (fun h38 p38 => ?_) (fun h38 p38 => ?_)
 ·refine g9 25 ?_
  refine congrArg Value.bool ?_
  exact (decide_eq_false fun h => by obtain ⟨⟨q1, q2, q3⟩, q4, q5, q6⟩ := h; exact (q5 (by assumption)).1 (Str.ext' p38)).symm
 refine g9 12 ?_
 refine W.sd 45 (fun h43 p43 => ?_) (fun h43 p43 => ?_)
 ·refine g9 17 ?_
  refine congrArg Value.bool ?_
  exact (decide_eq_false fun h => by obtain ⟨⟨q1, q2, q3⟩, q4, q5, q6⟩ := h; have := (q5 (by assumption)).2.1; omega).symm
 refine g9 11 ?_
 refine WC.cd (fun h48 p48 => ?_) (fun h48 p48 => ?_)
 ·refine g9 8 ?_
  refine congrArg Value.bool ?_
  exact (decide_eq_false fun h => by obtain ⟨⟨q1, q2, q3⟩, q4, q5, q6⟩ := h; have := (q5 (by assumption)).2.2; omega).symm
 refine g9 10 ?_
 refine WC.cd (fun h53 p53 => ?_) (fun h53 p53 => ?_)
 ·refine g9 4 ?_
  refine W.qcall (nleaf_fc _ _ _ _ _ (nk9 hp_n hk_n hm_n hr_n hok_n)) rfl (g9 6 ?_)
  refine congrArg Value.bool ?_
  exact decide_eq_decide.2 ⟨fun q => ⟨⟨om9, om9, om9⟩, fun h => absurd (hb_top_n.symm.trans h) (by decide), fun _ => ⟨fun e => p38 (congrArg Str.b e), om9, om9⟩, by rw [if_pos p53]; exact q⟩, fun h => by have h := h.2.2.2; rw [if_pos p53] at h; exact h⟩
 refine g9 6 ?_
 refine W.qcall (ninner_fc _ _ _ _ _ (nk9 hp_n hk_n hm_n hr_n hok_n)) rfl (g9 5 ?_)
 refine congrArg Value.bool ?_
 exact decide_eq_decide.2 ⟨fun q => ⟨⟨om9, om9, om9⟩, fun h => absurd (hb_top_n.symm.trans h) (by decide), fun _ => ⟨fun e => p38 (congrArg Str.b e), om9, om9⟩, by rw [if_neg p53]; exact q⟩, fun h => by have h := h.2.2.2; rw [if_neg p53] at h; exact h⟩

end Go.Proofs.Ytcngningbcaggaa
