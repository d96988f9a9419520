/- Walks of functions that tell whether a node may be. -/
import Derived.Test.YtgmnljhiojdigaaGreatQiZh
set_option maxRecDepth 100000
set_option maxHeartbeats 1600000
set_option linter.unusedVariables false
set_option linter.unusedSimpArgs false
set_option linter.unnecessarySimpa false
namespace Go.Proofs.YtgmnljhiojdigaaGreat
open Go Go.Fw Go.RowKit
attribute [local irreducible] Ok W WC
theorem nhas_fc {G : GH} {cs_a : List Value} {a : Nd} (h_a : NodeC G cs_a a) (k : Str) :
    Fc Tryz.prog 109 [.agg (List.toArray cs_a), sV k.b] G [] (fun v _ _ => v = .bool (a.top || k.lt a.high)) := by
 obtain ⟨_, _, _, _, _, _, _, _, rfl, hp_a, hk_a, hm_a, hr_a, hok_a⟩ := h_a
 refine Fc.go [.tmp 4] Tryz.func109 Tryz.ntmps109 rfl (fun w0 => (g9 2 ?_))
 refine W.box (L := [iV _, iV _, lV _ _ _, lV _ _ _, sV _, .bool _, iV _, iV _, lV _ _ _, lV _ _ _]) rfl rfl (fun b1 => (g9 8 ?_))
 refine W.sp 7 rfl (fun hb_top_a => ?_) (fun hb_top_a => ?_)
 ·refine g9 10 ?_
  refine congrArg Value.bool ?_
  simp_all
 refine g9 7 ?_
 refine W.qcall (less_fc _ _) rfl (g9 6 ?_)
 refine congrArg Value.bool ?_
 simp_all

theorem nleaf_fc {G : GH} (cf : Int) (cl : Int) (cb : Int) (cs : Int) (cr : Int) {cs_n : List Value} {n : Nd} (h_n : NodeC G cs_n n) :
    Fc Tryz.prog 82 [.agg #[iV cf, iV cl, iV cb, iV cs, iV cr], .agg (List.toArray cs_n)] G [] (fun v _ _ => v = .bool (decide (n.leafR cl))) := by
 obtain ⟨pa_n, pc_n, ka_n, kc_n, ma_n, mc_n, ra_n, rc_n, rfl, hp_n, hk_n, hm_n, hr_n, hok_n⟩ := h_n
 have h1 := hp_n.len47
 have h2 := hk_n.len47
 have h3 := hm_n.len47
 have h4 := hr_n.len47
 refine Fc.go [.tmp 4] Tryz.func82 Tryz.ntmps82 rfl (fun w0 => (g9 2 ?_))
 refine W.box (L := [iV _, iV _, iV _, iV _, iV _]) rfl rfl (fun b2 => (W.box (L := [iV _, iV _, lV _ _ _, lV _ _ _, sV _, .bool _, iV _, iV _, lV _ _ _, lV _ _ _]) rfl rfl (fun b3 => (g9 19 ?_))))
 refine W.sd 18 (fun h17 p17 => ?_) (fun h17 p17 => ?_)
 ·refine g9 24 ?_
  refine congrArg Value.bool ?_
  exact (decide_eq_false fun h => by obtain ⟨q1, q2, q3, q4⟩ := h; omega).symm
 refine g9 14 ?_
 refine W.sd 26 (fun h24 p24 => ?_) (fun h24 p24 => ?_)
 ·refine g9 16 ?_
  refine congrArg Value.bool ?_
  exact (decide_eq_false fun h => by obtain ⟨q1, q2, q3, q4⟩ := h; omega).symm
 refine g9 5 ?_
 refine W.qcall (rightp_fc hr_n) rfl (g9 5 ?_)
 refine WC.cond rfl (fun h30 => ?_) (fun h30 => ?_)
 ·refine g9 8 ?_
  refine congrArg Value.bool ?_
  exact (decide_eq_false fun h => by obtain ⟨q1, q2, q3, q4⟩ := h; simp [q3] at h30).symm
 refine g9 9 ?_
 refine WC.loop (X := Nat) (fun k => [(5, nt9 k), (2, pt9 b2), (3, pt9 b3)]) (fun k _ Ml => Ml = [(b3, ce9 43 (ndl n pa_n pc_n ka_n kc_n ma_n mc_n ra_n rc_n)), (b2, ce9 23 [iV cf, iV cl, iV cb, iV cs, iV cr])] ∧ ∀ i (h : i < n.rows.length), i < k → n.has n.rows[i].key = true) (fun k => n.rows.length - k) 0 hs9 ?_ ?_
 ·exact ⟨rfl, fun i _ h => by omega⟩
 rintro k gG4 G4 _ hG4 ⟨rfl, hk⟩
 refine g9 10 ?_
 refine WC.cd (fun h36 p36 => ?_) (fun h36 p36 => ?_)
 ·refine g9 10 ?_
  refine (hr_n.mono hG4).a1 (i := k) om9 (fun he5 => (g9 3 ?_))
  refine W.qcall (nhas_fc (nm9 hG4 hp_n hk_n hm_n hr_n hok_n) _) rfl (g9 3 ?_)
  refine WC.cond rfl (fun h47 => ?_) (fun h47 => ?_)
  ·refine g9 12 ?_
   refine congrArg Value.bool ?_
   exact (decide_eq_false fun h => by obtain ⟨q1, q2, q3, q4⟩ := h; have := q4 k om9; simp_all [Nd.has]).symm
  refine g9 9 ?_
  exact ⟨Le.rfl, k + 1, hs9, ⟨rfl, fun i h hi => by
      by_cases e : i = k
      · subst e; have h1 := h47; show (n.top || _) = true; cases ht : n.top <;> simp_all
      · exact hk i h om9⟩, om9⟩
 refine g9 12 ?_
 refine congrArg Value.bool ?_
 exact (decide_eq_true ⟨om9, om9, by simpa using h30, fun i h => hk i h om9⟩).symm

theorem ninner_fc {G : GH} (cf : Int) (cl : Int) (cb : Int) (cs : Int) (cr : Int) {cs_n : List Value} {n : Nd} (h_n : NodeC G cs_n n) :
    Fc Tryz.prog 83 [.agg #[iV cf, iV cl, iV cb, iV cs, iV cr], .agg (List.toArray cs_n)] G [] (fun v _ _ => v = .bool (decide (n.innerR cf cb))) := by
 obtain ⟨pa_n, pc_n, ka_n, kc_n, ma_n, mc_n, ra_n, rc_n, rfl, hp_n, hk_n, hm_n, hr_n, hok_n⟩ := h_n
 have h1 := hp_n.len47
 have h2 := hk_n.len47
 have h3 := hm_n.len47
 have h4 := hr_n.len47
 refine Fc.go [.tmp 4] Tryz.func83 Tryz.ntmps83 rfl (fun w0 => (g9 2 ?_))
 refine W.box (L := [iV _, iV _, iV _, iV _, iV _]) rfl rfl (fun b8 => (W.box (L := [iV _, iV _, lV _ _ _, lV _ _ _, sV _, .bool _, iV _, iV _, lV _ _ _, lV _ _ _]) rfl rfl (fun b9 => (g9 11 ?_))))
 refine W.sd 13 (fun h12 p12 => ?_) (fun h12 p12 => ?_)
 ·refine g9 46 ?_
  refine congrArg Value.bool ?_
  exact (decide_eq_false fun h => by obtain ⟨⟨q1, q2, q3⟩, q4, q5, q6, q7, q8, q9⟩ := h; omega).symm
 refine g9 10 ?_
 refine W.sd 19 (fun h17 p17 => ?_) (fun h17 p17 => ?_)
 ·refine g9 40 ?_
  refine congrArg Value.bool ?_
  exact (decide_eq_false fun h => by obtain ⟨⟨q1, q2, q3⟩, q4, q5, q6, q7, q8, q9⟩ := h; omega).symm
 refine g9 14 ?_
 refine W.sd 27 (fun h25 p25 => ?_) (fun h25 p25 => ?_)
 ·refine g9 32 ?_
  refine congrArg Value.bool ?_
  exact (decide_eq_false fun h => by obtain ⟨⟨q1, q2, q3⟩, q4, q5, q6, q7, q8, q9⟩ := h; omega).symm
 refine g9 9 ?_
 refine W.qcall (rright_fc hp_n hk_n) rfl (g9 4 ?_)
 refine W.sp 35 rfl (fun h33 => ?_) (fun h33 => ?_)
 ·refine g9 24 ?_
  refine congrArg Value.bool ?_
  exact (decide_eq_false fun h => by obtain ⟨⟨q1, q2, q3⟩, q4, q5, q6, q7, q8, q9⟩ := h; simp [q4] at h33).symm
 refine g9 5 ?_
 refine W.qcall (mall_fc hm_n) rfl (g9 4 ?_)
 refine W.sp 41 rfl (fun h39 => ?_) (fun h39 => ?_)
 ·refine g9 18 ?_
  refine congrArg Value.bool ?_
  exact (decide_eq_false fun h => by obtain ⟨⟨q1, q2, q3⟩, q4, q5, q6, q7, q8, q9⟩ := h; simp [q5] at h39).symm
 have hms : MsgsR n.msgs := by simpa using h39
 have hs := hms.sizes
 refine g9 5 ?_
 refine W.qcall (msizes_fc hm_n (by assumption)) rfl (g9 9 ?_)
 refine WC.cd (fun h47 p47 => ?_) (fun h47 p47 => ?_)
 ·refine g9 8 ?_
  refine congrArg Value.bool ?_
  exact (decide_eq_false fun h => by obtain ⟨⟨q1, q2, q3⟩, q4, q5, q6, q7, q8, q9⟩ := h; omega).symm
 refine g9 9 ?_
 refine WC.loop (X := Nat) (fun k => [(5, nt9 k), (2, pt9 b8), (3, pt9 b9)]) (fun k _ Ml => Ml = [(b9, ce9 43 (ndl n pa_n pc_n ka_n kc_n ma_n mc_n ra_n rc_n)), (b8, ce9 23 [iV cf, iV cl, iV cb, iV cs, iV cr])] ∧ ∀ i (h : i < n.kids.length), i < k → 0 ≤ n.kids[i]) (fun k => n.kids.length - k) 0 hs9 ?_ ?_
 ·exact ⟨rfl, fun i _ h => by omega⟩
 rintro k gG10 G10 _ hG10 ⟨rfl, hk1⟩
 refine g9 10 ?_
 refine WC.cond rfl (fun h53 => ?_) (fun h53 => ?_)
 ·have p53 := odt h53
  refine g9 9 ?_
  refine (hk_n.mono hG10).a2 (i := k) om9 (fun he11 hi12 => (g9 5 ?_))
  refine WC.cd (fun h61 p61 => ?_) (fun h61 p61 => ?_)
  ·refine g9 12 ?_
   refine congrArg Value.bool ?_
   exact (decide_eq_false fun h => by obtain ⟨⟨q1, q2, q3⟩, q4, q5, q6, q7, q8, q9⟩ := h; have := q7 k om9; omega).symm
  refine g9 9 ?_
  exact ⟨Le.rfl, k + 1, hs9, ⟨rfl, fun i h hi => by
      by_cases e : i = k
      · subst e; omega
      · exact hk1 i h om9⟩, om9⟩
 have p53 := odf h53
 refine g9 12 ?_
 refine WC.loop (X := Nat) (fun k => [(6, nt9 k), (2, pt9 b8), (3, pt9 b9)]) (fun k _ Ml => Ml = [(b9, ce9 43 (ndl n pa_n pc_n ka_n kc_n ma_n mc_n ra_n rc_n)), (b8, ce9 23 [iV cf, iV cl, iV cb, iV cs, iV cr])] ∧ ∀ i (h : i < n.pivots.length), i < k → n.parts n.pivots[i]) (fun k => n.pivots.length - k) 0 hs9 ?_ ?_
 ·exact ⟨rfl, fun i _ h => by omega⟩
 rintro k gG15 G15 _ hG15 ⟨rfl, hk2⟩
 refine g9 10 ?_
 refine WC.cond rfl (fun h66 => ?_) (fun h66 => ?_)
 ·have p66 := odt h66
  refine g9 9 ?_
  refine (hp_n.mono (hG10.trans hG15)).a1 (i := k) om9 (fun he16 => (g9 4 ?_))
  refine W.sd 75 (fun h74 p74 => ?_) (fun h74 p74 => ?_)
  ·refine g9 33 ?_
   refine congrArg Value.bool ?_
   exact (decide_eq_false fun h => by obtain ⟨⟨q1, q2, q3⟩, q4, q5, q6, q7, q8, q9⟩ := h; exact (q8 k om9).1 (Str.ext' p74)).symm
  refine g9 7 ?_
  refine (hp_n.mono (hG10.trans hG15)).a1 (i := k) om9 (fun he19 => (g9 9 ?_))
  refine W.sd 84 (fun h82 p82 => ?_) (fun h82 p82 => ?_)
  ·refine g9 24 ?_
   refine congrArg Value.bool ?_
   exact (decide_eq_false fun h => by obtain ⟨⟨q1, q2, q3⟩, q4, q5, q6, q7, q8, q9⟩ := h; have := (q8 k om9).2.1; omega).symm
  refine g9 9 ?_
  refine (hp_n.mono (hG10.trans hG15)).a1 (i := k) om9 (fun he22 => (g9 4 ?_))
  refine W.qcall (nhas_fc (nm9 lec hp_n hk_n hm_n hr_n hok_n) _) rfl (g9 5 ?_)
  refine WC.cond rfl (fun h92 => ?_) (fun h92 => ?_)
  ·refine g9 12 ?_
   refine congrArg Value.bool ?_
   exact (decide_eq_false fun h => by obtain ⟨⟨q1, q2, q3⟩, q4, q5, q6, q7, q8, q9⟩ := h; have := (q8 k om9).2.2; simp_all [Nd.has]).symm
  refine g9 9 ?_
  exact ⟨Le.rfl, k + 1, hs9, ⟨rfl, fun i h hi => by
      by_cases e : i = k
      · subst e; exact ⟨fun e => p74 (congrArg Str.b e), om9, by show (n.top || _) = true; cases ht : n.top <;> simp_all⟩
      · exact hk2 i h om9⟩, om9⟩
 have p66 := odf h66
 refine g9 12 ?_
 refine WC.loop (X := Nat) (fun k => [(7, nt9 k), (2, pt9 b8), (3, pt9 b9)]) (fun k _ Ml => Ml = [(b9, ce9 43 (ndl n pa_n pc_n ka_n kc_n ma_n mc_n ra_n rc_n)), (b8, ce9 23 [iV cf, iV cl, iV cb, iV cs, iV cr])] ∧ ∀ i (h : i < n.msgs.length), i < k → n.fits n.msgs[i]) (fun k => n.msgs.length - k) 0 hs9 ?_ ?_
 ·exact ⟨rfl, fun i _ h => by omega⟩
 rintro k gG25 G25 _ hG25 ⟨rfl, hk3⟩
 refine g9 10 ?_
 refine WC.cond rfl (fun h98 => ?_) (fun h98 => ?_)
 ·have p98 := odt h98
  have hkk : n.msgs[k].key.b.size < 140737488355328 := by have := (hs _ (List.getElem_mem (by omega : k < n.msgs.length))).1; omega
  refine g9 9 ?_
  refine (hm_n.mono ((hG10.trans hG15).trans hG25)).a2 (i := k) om9 (fun he26 hm27 => (g9 2 ?_))
  refine W.qcall (rspan_fc _ _ _ _ _ _ (by first | assumption | omega | (dsimp only; omega))) rfl (W.alloc zr45 (fun b31 => (g9 8 ?_)))
  refine (hm_n.mono ((hG10.trans hG15).trans hG25)).a2 (i := k) om9 (fun he32 hm33 => (g9 7 ?_))
  refine W.sd 116 (fun h115 p115 => ?_) (fun h115 p115 => ?_)
  ·refine g9 30 ?_
   refine congrArg Value.bool ?_
   exact (decide_eq_false fun h => by obtain ⟨⟨q1, q2, q3⟩, q4, q5, q6, q7, q8, q9⟩ := h; have := (q9 k om9).1; omega).symm
  refine g9 8 ?_
  refine W.sp 120 rfl (fun h119 => ?_) (fun h119 => ?_)
  ·refine g9 6 ?_
   refine W.sp 123 rfl (fun h106_2 => ?_) (fun h106_2 => ?_)
   ·refine g9 25 ?_
    refine congrArg Value.bool ?_
    exact (decide_eq_false fun h => by obtain ⟨⟨q1, q2, q3⟩, q4, q5, q6, q7, q8, q9⟩ := h; have := (q9 k om9).2; simp_all).symm
   refine g9 9 ?_
   refine W.qcall (less_fc _ _) rfl (g9 7 ?_)
   refine WC.cond rfl (fun h128 => ?_) (fun h128 => ?_)
   ·refine g9 12 ?_
    refine congrArg Value.bool ?_
    exact (decide_eq_false fun h => by obtain ⟨⟨q1, q2, q3⟩, q4, q5, q6, q7, q8, q9⟩ := h; have := (q9 k om9).2; simp_all).symm
   refine g9 7 ?_
   refine W.sub (sr9.cons _) (g9 2 ?_)
   exact ⟨Le.rfl, k + 1, hs9, ⟨rfl, fun i h hi => by
      by_cases e : i = k
      · subst e; exact ⟨om9, by cases ht : n.top <;> simp_all⟩
      · exact hk3 i h om9⟩, om9⟩
  refine g9 22 ?_
  refine W.sub (sr9.cons _) (g9 2 ?_)
  exact ⟨Le.rfl, k + 1, hs9, ⟨rfl, fun i h hi => by
      by_cases e : i = k
      · subst e; exact ⟨om9, by cases ht : n.top <;> simp_all⟩
      · exact hk3 i h om9⟩, om9⟩
 have p98 := odf h98
 refine g9 12 ?_
 refine congrArg Value.bool ?_
 exact (decide_eq_true ⟨⟨om9, om9, om9⟩, by simpa using h33, hms, om9, fun i h => hk1 i h om9, fun i h => hk2 i h om9, fun i h => hk3 i h om9⟩).symm

theorem nright_fc {G : GH} (cf : Int) (cl : Int) (cb : Int) (cs : Int) (cr : Int) {cs_n : List Value} {n : Nd} (h_n : NodeC G cs_n n) :
    Fc Tryz.prog 57 [.agg #[iV cf, iV cl, iV cb, iV cs, iV cr], .agg (List.toArray cs_n)] G [] (fun v _ _ => v = .bool (decide (n.R cf cl cb))) := by
 obtain ⟨_, _, _, _, _, _, _, _, rfl, hp_n, hk_n, hm_n, hr_n, hok_n⟩ := h_n
 have h1 := hp_n.len47
 have h2 := hk_n.len47
 have h3 := hm_n.len47
 have h4 := hr_n.len47
 refine Fc.go [.tmp 4] Tryz.func57 Tryz.ntmps57 rfl (fun w0 => (g9 2 ?_))
 refine W.box (L := [iV _, iV _, iV _, iV _, iV _]) rfl rfl (fun b37 => (W.box (L := [iV _, iV _, lV _ _ _, lV _ _ _, sV _, .bool _, iV _, iV _, lV _ _ _, lV _ _ _]) rfl rfl (fun b38 => (g9 10 ?_))))
 refine W.sd 8 (fun h7 p7 => ?_) (fun h7 p7 => ?_)
 ·refine g9 34 ?_
  refine congrArg Value.bool ?_
  exact (decide_eq_false fun h => by obtain ⟨⟨q1, q2, q3⟩, q4, q5, q6⟩ := h; omega).symm
 refine g9 8 ?_
 refine W.sd 13 (fun h11 p11 => ?_) (fun h11 p11 => ?_)
 ·refine g9 29 ?_
  refine congrArg Value.bool ?_
  exact (decide_eq_false fun h => by obtain ⟨⟨q1, q2, q3⟩, q4, q5, q6⟩ := h; omega).symm
 refine g9 8 ?_
 refine W.sd 18 (fun h16 p16 => ?_) (fun h16 p16 => ?_)
 ·refine g9 24 ?_
  refine congrArg Value.bool ?_
  exact (decide_eq_false fun h => by obtain ⟨⟨q1, q2, q3⟩, q4, q5, q6⟩ := h; omega).symm
 refine g9 6 ?_
 refine W.sp 21 rfl (fun hb_top_n => ?_) (fun hb_top_n => ?_)
 ·refine g9 8 ?_
  refine W.sm 25 (fun h24 p24 => ?_) (fun h24 p24 => ?_)
  ·refine g9 19 ?_
   refine congrArg Value.bool ?_
   exact (decide_eq_false fun h => by obtain ⟨⟨q1, q2, q3⟩, q4, q5, q6⟩ := h; exact p24 (congrArg Str.b (q4 (by assumption)).1)).symm
  refine g9 13 ?_
  refine WC.cn (fun h28 p28 => ?_) (fun h28 p28 => ?_)
  ·refine g9 8 ?_
   refine congrArg Value.bool ?_
   exact (decide_eq_false fun h => by obtain ⟨⟨q1, q2, q3⟩, q4, q5, q6⟩ := h; have := (q4 (by assumption)).2; omega).symm
  refine g9 37 ?_
  refine WC.cd (fun h53 p53 => ?_) (fun h53 p53 => ?_)
  ·refine g9 4 ?_
   refine W.qcall (nleaf_fc _ _ _ _ _ (nk9 hp_n hk_n hm_n hr_n hok_n)) rfl (g9 6 ?_)
   refine congrArg Value.bool ?_
   exact decide_eq_decide.2 ⟨fun q => ⟨⟨om9, om9, om9⟩, fun _ => ⟨Str.ext' p24, p28⟩, fun h => absurd (hb_top_n.symm.trans h) (by decide), by rw [if_pos p53]; exact q⟩, fun h => by have h := h.2.2.2; rw [if_pos p53] at h; exact h⟩
  refine g9 6 ?_
  refine W.qcall (ninner_fc _ _ _ _ _ (nk9 hp_n hk_n hm_n hr_n hok_n)) rfl (g9 5 ?_)
  refine congrArg Value.bool ?_
  exact decide_eq_decide.2 ⟨fun q => ⟨⟨om9, om9, om9⟩, fun _ => ⟨Str.ext' p24, p28⟩, fun h => absurd (hb_top_n.symm.trans h) (by decide), by rw [if_neg p53]; exact q⟩, fun h => by have h := h.2.2.2; rw [if_neg p53] at h; exact h⟩
 refine g9 31 ?_
 refine W.sd 39 (fun h38 p38 => ?_) (fun h38 p38 => ?_)
 ·refine g9 25 ?_
  refine congrArg Value.bool ?_
  exact (decide_eq_false fun h => by obtain ⟨⟨q1, q2, q3⟩, q4, q5, q6⟩ := h; exact (q5 (by assumption)).1 (Str.ext' p38)).symm
 refine g9 12 ?_
 refine W.sd 45 (fun h43 p43 => ?_) (fun h43 p43 => ?_)
 ·refine g9 17 ?_
  refine congrArg Value.bool ?_
  exact (decide_eq_false fun h => by obtain ⟨⟨q1, q2, q3⟩, q4, q5, q6⟩ := h; have := (q5 (by assumption)).2.1; omega).symm
 refine g9 11 ?_
 refine WC.cd (fun h48 p48 => ?_) (fun h48 p48 => ?_)
 ·refine g9 8 ?_
  refine congrArg Value.bool ?_
  exact (decide_eq_false fun h => by obtain ⟨⟨q1, q2, q3⟩, q4, q5, q6⟩ := h; have := (q5 (by assumption)).2.2; omega).symm
 refine g9 10 ?_
 refine WC.cd (fun h53 p53 => ?_) (fun h53 p53 => ?_)
 ·refine g9 4 ?_
  refine W.qcall (nleaf_fc _ _ _ _ _ (nk9 hp_n hk_n hm_n hr_n hok_n)) rfl (g9 6 ?_)
  refine congrArg Value.bool ?_
  exact decide_eq_decide.2 ⟨fun q => ⟨⟨om9, om9, om9⟩, fun h => absurd (hb_top_n.symm.trans h) (by decide), fun _ => ⟨fun e => p38 (congrArg Str.b e), om9, om9⟩, by rw [if_pos p53]; exact q⟩, fun h => by have h := h.2.2.2; rw [if_pos p53] at h; exact h⟩
 refine g9 6 ?_
 refine W.qcall (ninner_fc _ _ _ _ _ (nk9 hp_n hk_n hm_n hr_n hok_n)) rfl (g9 5 ?_)
 refine congrArg Value.bool ?_
 exact decide_eq_decide.2 ⟨fun q => ⟨⟨om9, om9, om9⟩, fun h => absurd (hb_top_n.symm.trans h) (by decide), fun _ => ⟨fun e => p38 (congrArg Str.b e), om9, om9⟩, by rw [if_neg p53]; exact q⟩, fun h => by have h := h.2.2.2; rw [if_neg p53] at h; exact h⟩

theorem linked_fc {G : GH} {v_ss : Value} {ss : List Seat} (h_ss : SlR eSeat G v_ss ss) :
    Fc Tryz.prog 56 [v_ss] G [] (fun v _ _ => v = .bool (decide (LinkedP ss))) := by
 obtain ⟨sa_ss, sc_ss, rfl⟩ := h_ss.form
 have hl := h_ss.len47
 refine Fc.go [.tmp 2] Tryz.func56 Tryz.ntmps56 rfl (fun w0 => (g9 12 ?_))
 refine WC.loop (X := Nat) (fun i => [(3, nt9 i), (0, lV sa_ss ss.length sc_ss)]) (fun i _ Ml => Ml = [] ∧ i ≤ ss.length ∧ ∀ j (h : j < ss.length), j < i → ss[j].n.right = wantN ss j) (fun i => ss.length - i) 0 hs9 ?_ ?_
 ·exact ⟨rfl, om9, fun j _ h => by omega⟩
 rintro i gG1 G1 _ hG1 ⟨rfl, hi, hi2⟩
 refine g9 9 ?_
 refine WC.cd (fun h8 p8 => ?_) (fun h8 p8 => ?_)
 ·refine g9 18 ?_
  refine W.sd 16 (fun h15 p15 => ?_) (fun h15 p15 => ?_)
  ·refine g9 7 ?_
   have q5 := (h_ss.mono hG1).at (i := i + 1) om9
   refine match q5 with | ⟨_, he2, ⟨_, _, _, _, _, _, _, _, qa_t3, qc_t3, e_4, hp_t3, hk_t3, hm_t3, hr_t3, hq_t3, hok_t3⟩⟩ => ?_
   subst e_4
   refine W.ok (ok_indexAddr (i := i + 1) sl35 ty47 (h_ss.mono hG1) rfl rfl ⟨om9, om9⟩) (g9 11 ?_)
   have q9 := (h_ss.mono hG1).at (i := i) om9
   refine match q9 with | ⟨_, he6, ⟨_, _, _, _, _, _, _, _, qa_t7, qc_t7, e_8, hp_t7, hk_t7, hm_t7, hr_t7, hq_t7, hok_t7⟩⟩ => ?_
   subst e_8
   refine g9 12 ?_
   refine WC.cd (fun h30 p30 => ?_) (fun h30 p30 => ?_)
   ·refine g9 4 ?_
    have q13 := (h_ss.mono hG1).at (i := i + 1) om9
    refine match q13 with | ⟨_, he10, ⟨_, _, _, _, _, _, _, _, qa_t11, qc_t11, e_12, hp_t11, hk_t11, hm_t11, hr_t11, hq_t11, hok_t11⟩⟩ => ?_
    subst e_12
    refine W.ok (ok_indexAddr (i := i + 1) sl35 ty47 (h_ss.mono hG1) rfl rfl ⟨om9, om9⟩) (g9 10 ?_)
    have q17 := (h_ss.mono hG1).at (i := i) om9
    refine match q17 with | ⟨_, he14, ⟨_, _, _, _, _, _, _, _, qa_t15, qc_t15, e_16, hp_t15, hk_t15, hm_t15, hr_t15, hq_t15, hok_t15⟩⟩ => ?_
    subst e_16
    refine g9 8 ?_
    refine WC.cn (fun h46 p46 => ?_) (fun h46 p46 => ?_)
    ·refine g9 12 ?_
     refine congrArg Value.bool ?_
     exact (decide_eq_false fun h => by have h := h i om9; rw [wantN_t om9 p30] at h; exact p46 h).symm
    refine g9 9 ?_
    exact ⟨Le.rfl, i + 1, hs9, ⟨rfl, om9, fun j h hj => by
      by_cases e : j = i
      · subst e; rw [wantN_t om9 p30]; exact p46
      · exact hi2 j h om9⟩, om9⟩
   refine g9 6 ?_
   have q21 := (h_ss.mono hG1).at (i := i) om9
   refine match q21 with | ⟨_, he18, ⟨_, _, _, _, _, _, _, _, qa_t19, qc_t19, e_20, hp_t19, hk_t19, hm_t19, hr_t19, hq_t19, hok_t19⟩⟩ => ?_
   subst e_20
   refine g9 8 ?_
   refine WC.cn (fun h46 p46 => ?_) (fun h46 p46 => ?_)
   ·refine g9 12 ?_
    refine congrArg Value.bool ?_
    exact (decide_eq_false fun h => by have h := h i om9; rw [wantN_g om9 p30] at h; exact p46 h).symm
   refine g9 9 ?_
   exact ⟨Le.rfl, i + 1, hs9, ⟨rfl, om9, fun j h hj => by
      by_cases e : j = i
      · subst e; rw [wantN_g om9 p30]; exact p46
      · exact hi2 j h om9⟩, om9⟩
  refine g9 24 ?_
  have q25 := (h_ss.mono hG1).at (i := i) om9
  refine match q25 with | ⟨_, he22, ⟨_, _, _, _, _, _, _, _, qa_t23, qc_t23, e_24, hp_t23, hk_t23, hm_t23, hr_t23, hq_t23, hok_t23⟩⟩ => ?_
  subst e_24
  refine g9 8 ?_
  refine WC.cn (fun h46 p46 => ?_) (fun h46 p46 => ?_)
  ·refine g9 12 ?_
   refine congrArg Value.bool ?_
   exact (decide_eq_false fun h => by have h := h i om9; rw [wantN_f om9] at h; exact p46 h).symm
  refine g9 9 ?_
  exact ⟨Le.rfl, i + 1, hs9, ⟨rfl, om9, fun j h hj => by
      by_cases e : j = i
      · subst e; rw [wantN_f om9]; exact p46
      · exact hi2 j h om9⟩, om9⟩
 refine g9 12 ?_
 refine congrArg Value.bool ?_
 exact (decide_eq_true (fun j h => hi2 j h om9)).symm

theorem once_fc {G : GH} {v_l : Value} {l : List Nd} (h_l : SlR eNode G v_l l) {v_ss : Value} {ss : List Seat} (h_ss : SlR eSeat G v_ss ss) :
    Fc Tryz.prog 55 [v_l, v_ss] G [] (fun v _ _ => v = .bool (decide (OnceP l ss))) := by
 obtain ⟨sa_l, sc_l, rfl⟩ := h_l.form
 obtain ⟨sa_ss, sc_ss, rfl⟩ := h_ss.form
 have hl := h_l.len47
 have hl2 := h_ss.len47
 refine Fc.go [.tmp 4] Tryz.func55 Tryz.ntmps55 rfl (fun w0 => (g9 15 ?_))
 refine WC.cn (fun h12 p12 => ?_) (fun h12 p12 => ?_)
 ·refine g9 8 ?_
  refine congrArg Value.bool ?_
  exact (decide_eq_false fun h => by have := h.1; omega).symm
 refine g9 9 ?_
 refine WC.loop (X := Nat) (fun i => [(5, nt9 i), (0, lV sa_l l.length sc_l), (1, lV sa_ss ss.length sc_ss)]) (fun i _ Ml => Ml = [] ∧ i ≤ l.length ∧ ∀ j (h : j < l.length), j < i → (slotS ss l[j].slot).length = 1) (fun i => l.length - i) 0 hs9 ?_ ?_
 ·exact ⟨rfl, om9, fun j _ h => by omega⟩
 rintro i gG26 G26 _ hG26 ⟨rfl, hi, hi2⟩
 refine g9 9 ?_
 refine WC.cd (fun h16 p16 => ?_) (fun h16 p16 => ?_)
 ·refine g9 16 ?_
  refine WC.loop (X := Nat) (fun j => [(6, nt9 ((slotS (ss.take j) (l[i]'om9).slot).length)), (7, nt9 j), (0, lV sa_l l.length sc_l), (1, lV sa_ss ss.length sc_ss), (5, nt9 i)]) (fun j _ Ml => Ml = [] ∧ j ≤ ss.length) (fun j => ss.length - j) 0 hs9 ?_ ?_
  ·exact ⟨rfl, om9⟩
  rintro j gG27 G27 _ hG27 ⟨rfl, hj⟩
  have hsl := slotS_len ss (l[i]'om9).slot j
  refine g9 9 ?_
  refine WC.cd (fun h22 p22 => ?_) (fun h22 p22 => ?_)
  ·refine g9 8 ?_
   have q31 := (h_ss.mono (hG26.trans hG27)).at (i := j) om9
   refine match q31 with | ⟨_, he28, ⟨_, _, _, _, _, _, _, _, qa_t29, qc_t29, e_30, hp_t29, hk_t29, hm_t29, hr_t29, hq_t29, hok_t29⟩⟩ => ?_
   subst e_30
   refine g9 6 ?_
   refine (h_l.mono (hG26.trans hG27)).aN (i := i) om9 (fun _ _ _ _ _ _ _ _ he32 hp_n33 hk_n33 hm_n33 hr_n33 hok_n33 => (g9 6 ?_))
   refine WC.cd (fun h36 p36 => ?_) (fun h36 p36 => ?_)
   ·refine g9 13 ?_
    exact ⟨Le.rfl, j + 1, ⟨(congrArg (fun n : Nat => Value.int .i64 (n : Int)) (by rw [slotS_t om9 p36]; simp)), eqv, eqv, eqv, eqv, trivial⟩, ⟨rfl, om9⟩, om9⟩
   refine g9 9 ?_
   exact ⟨Le.rfl, j + 1, ⟨(congrArg (fun n : Nat => Value.int .i64 (n : Int)) (by rw [slotS_f om9 p36])), eqv, eqv, eqv, eqv, trivial⟩, ⟨rfl, om9⟩, om9⟩
  refine g9 11 ?_
  refine WC.cn (fun h40 p40 => ?_) (fun h40 p40 => ?_)
  ·refine g9 12 ?_
   refine congrArg Value.bool ?_
   exact (decide_eq_false fun h => (by have h0 := h.2 i om9; have h1 := p40; rw [List.take_of_length_le om9] at h1; omega)).symm
  refine g9 9 ?_
  exact ⟨hG27, i + 1, hs9, ⟨rfl, om9, fun j h hj => by
      by_cases e : j = i
      · subst e; have h0 := p40; rw [List.take_of_length_le om9] at h0; omega
      · exact hi2 j h om9⟩, om9⟩
 refine g9 12 ?_
 refine congrArg Value.bool ?_
 exact (decide_eq_true ⟨om9, fun j h => hi2 j h om9⟩).symm

theorem placed_fc {G : GH} {cs_x : List Value} {x : Seat} (h_x : SeatC G cs_x x) (hks : ∀ m ∈ x.n.msgs, m.key.b.size < 140737488355328) :
    Fc Tryz.prog 58 [.agg (List.toArray cs_x)] G [] (fun v _ _ => v = .bool (decide (PlacedP x))) := by
 obtain ⟨pa_x, pc_x, ka_x, kc_x, ma_x, mc_x, ra_x, rc_x, qa_x, qc_x, rfl, hp_x, hk_x, hm_x, hr_x, hq_x, hok_x⟩ := h_x
 have h1 := hp_x.len47
 have h2 := hk_x.len47
 have h3 := hm_x.len47
 have h4 := hr_x.len47
 refine Fc.go [.tmp 2] Tryz.func58 Tryz.ntmps58 rfl (fun w0 => (g9 2 ?_))
 refine W.box (L := [iV _, iV _, lV _ _ _, lV _ _ _, sV _, .bool _, iV _, iV _, lV _ _ _, lV _ _ _, sV _, sV _, .bool _, lV _ _ _]) rfl rfl (fun b36 => (g9 12 ?_))
 refine W.ok (ok_neqB bo4 rfl rfl) (W.mv ?_)
 refine W.sp 14 rfl (fun h13 => ?_) (fun h13 => ?_)
 ·refine g9 19 ?_
  refine congrArg Value.bool ?_
  exact (decide_eq_false fun h => by have h1 := h.1.1; rw [h1] at h13; simp at h13).symm
 refine g9 17 ?_
 refine WC.cn (fun h21 p21 => ?_) (fun h21 p21 => ?_)
 ·refine g9 8 ?_
  refine congrArg Value.bool ?_
  exact (decide_eq_false fun h => by have h1 := h.1.2; rw [h1] at h21; simp at h21).symm
 refine g9 9 ?_
 refine WC.loop (X := Nat) (fun k => [(3, nt9 k), (1, pt9 b36)]) (fun k _ Ml => Ml = [(b36, ce9 47 [iV x.n.slot, iV x.n.level, lV pa_x (x.n.pivots).length pc_x, lV ka_x (x.n.kids).length kc_x, sV x.n.high.b, .bool x.n.top, iV x.n.right, iV x.n.seen, lV ma_x (x.n.msgs).length mc_x, lV ra_x (x.n.rows).length rc_x, sV (x.s).lo.b, sV (x.s).hi.b, .bool (x.s).opn, lV qa_x (x.ms).length qc_x])] ∧ ∀ i (h : i < x.n.rows.length), i < k → x.s.has x.n.rows[i].key = true) (fun k => x.n.rows.length - k) 0 hs9 ?_ ?_
 ·exact ⟨rfl, fun i _ h => by omega⟩
 rintro k gG37 G37 _ hG37 ⟨rfl, hk1⟩
 refine g9 11 ?_
 refine WC.cd (fun h28 p28 => ?_) (fun h28 p28 => ?_)
 ·refine g9 12 ?_
  refine (hr_x.mono hG37).a1 (i := k) om9 (fun he38 => (g9 3 ?_))
  refine W.qcall (has_fc _ _ _ _) rfl (g9 3 ?_)
  refine WC.cond rfl (fun h41 => ?_) (fun h41 => ?_)
  ·refine g9 12 ?_
   refine congrArg Value.bool ?_
   exact (decide_eq_false fun h => by have h1 := h.2.1 k om9; rw [h1] at h41; simp at h41).symm
  refine g9 9 ?_
  exact ⟨Le.rfl, k + 1, hs9, ⟨rfl, fun i h hi => by
      by_cases e : i = k
      · subst e; simpa using h41
      · exact hk1 i h om9⟩, om9⟩
 refine g9 12 ?_
 refine WC.loop (X := Nat) (fun k => [(4, nt9 k), (1, pt9 b36)]) (fun k _ Ml => Ml = [(b36, ce9 47 [iV x.n.slot, iV x.n.level, lV pa_x (x.n.pivots).length pc_x, lV ka_x (x.n.kids).length kc_x, sV x.n.high.b, .bool x.n.top, iV x.n.right, iV x.n.seen, lV ma_x (x.n.msgs).length mc_x, lV ra_x (x.n.rows).length rc_x, sV (x.s).lo.b, sV (x.s).hi.b, .bool (x.s).opn, lV qa_x (x.ms).length qc_x])] ∧ ∀ i (h : i < x.n.pivots.length), i < k → x.s.has x.n.pivots[i] = true ∧ x.n.pivots[i] ≠ x.s.lo) (fun k => x.n.pivots.length - k) 0 hs9 ?_ ?_
 ·exact ⟨rfl, fun i _ h => by omega⟩
 rintro k gG41 G41 _ hG41 ⟨rfl, hk2⟩
 refine g9 11 ?_
 refine WC.cond rfl (fun h47 => ?_) (fun h47 => ?_)
 ·have p47 := odt h47
  refine g9 12 ?_
  refine (hp_x.mono (hG37.trans hG41)).a1 (i := k) om9 (fun he42 => (g9 2 ?_))
  refine W.qcall (has_fc _ _ _ _) rfl (g9 2 ?_)
  refine W.sp 60 rfl (fun h59 => ?_) (fun h59 => ?_)
  ·refine g9 26 ?_
   refine congrArg Value.bool ?_
   exact (decide_eq_false fun h => by have h1 := (h.2.2.1 k om9).1; rw [h1] at h59; simp at h59).symm
  refine g9 9 ?_
  refine (hp_x.mono (hG37.trans hG41)).a1 (i := k) om9 (fun he45 => (g9 14 ?_))
  refine WC.cd (fun h70 p70 => ?_) (fun h70 p70 => ?_)
  ·refine g9 12 ?_
   refine congrArg Value.bool ?_
   exact (decide_eq_false fun h => by have h1 := (h.2.2.1 k om9).2; exact h1 (Str.ext' p70)).symm
  refine g9 9 ?_
  exact ⟨Le.rfl, k + 1, hs9, ⟨rfl, fun i h hi => by
      by_cases e : i = k
      · subst e; exact ⟨by simpa using h59, fun e => p70 (congrArg Str.b e)⟩
      · exact hk2 i h om9⟩, om9⟩
 have p47 := odf h47
 refine g9 12 ?_
 refine WC.loop (X := Nat) (fun k => [(5, nt9 k), (1, pt9 b36)]) (fun k _ Ml => Ml = [(b36, ce9 47 [iV x.n.slot, iV x.n.level, lV pa_x (x.n.pivots).length pc_x, lV ka_x (x.n.kids).length kc_x, sV x.n.high.b, .bool x.n.top, iV x.n.right, iV x.n.seen, lV ma_x (x.n.msgs).length mc_x, lV ra_x (x.n.rows).length rc_x, sV (x.s).lo.b, sV (x.s).hi.b, .bool (x.s).opn, lV qa_x (x.ms).length qc_x])] ∧ ∀ i (h : i < x.n.msgs.length), i < k → x.n.msgs[i].span.meet x.s = x.n.msgs[i].span.norm) (fun k => x.n.msgs.length - k) 0 hs9 ?_ ?_
 ·exact ⟨rfl, fun i _ h => by omega⟩
 rintro k gG48 G48 _ hG48 ⟨rfl, hk3⟩
 refine g9 11 ?_
 refine WC.cond rfl (fun h77 => ?_) (fun h77 => ?_)
 ·have p77 := odt h77
  refine g9 10 ?_
  refine (hm_x.mono ((hG37.trans hG41).trans hG48)).a2 (i := k) om9 (fun he49 hm50 => (g9 2 ?_))
  refine W.qcall (rspan_fc _ _ _ _ _ _ (hks _ (List.getElem_mem _))) rfl (W.alloc zr45 (fun b54 => (g9 8 ?_)))
  refine W.qcall (rmeet_fc _ _ _ _ _ _) rfl (g9 1 ?_)
  refine W.qcall (norm_fc _ _ _) rfl (W.ok (ok_neqA (L1 := [sV _, sV _, .bool _]) (L2 := [sV _, sV _, .bool _]) eq45 rfl rfl rfl rfl) (g9 2 ?_))
  refine WC.cond rfl (fun h93 => ?_) (fun h93 => ?_)
  ·refine g9 12 ?_
   refine congrArg Value.bool ?_
   exact (decide_eq_false fun h => by have h1 := h.2.2.2 k om9; have h0 : (!eqCells (((x.n.msgs[k]).span.meet x.s).cells) ((x.n.msgs[k]).span.norm.cells)) = true := h93; rw [Span.eqC, h1] at h0; simp at h0).symm
  refine g9 7 ?_
  refine W.sub (sr9.cons _) (g9 2 ?_)
  exact ⟨Le.rfl, k + 1, hs9, ⟨rfl, fun i h hi => by
      by_cases e : i = k
      · subst e; have h0 : (!eqCells (((x.n.msgs[i]).span.meet x.s).cells) ((x.n.msgs[i]).span.norm.cells)) = false := h93; rw [Span.eqC] at h0; simpa using h0
      · exact hk3 i h om9⟩, om9⟩
 have p77 := odf h77
 refine g9 12 ?_
 refine congrArg Value.bool ?_
 exact (decide_eq_true ⟨⟨by simpa using h13, Str.ext' p21⟩, (fun i h => hk1 i h om9), (fun i h => hk2 i h om9), fun i h => hk3 i h om9⟩).symm

theorem sound_fc {G : GH} (cfan : Int) (cleaf : Int) (cbud : Int) (cslots : Int) (crest : Int) {v_l : Value} {l : List Nd} (h_l : SlR eNode G v_l l) (hS : Sml l) :
    Fc Tryz.prog 28 [.agg #[iV cfan, iV cleaf, iV cbud, iV cslots, iV crest], v_l] G [] (fun v _ _ => v = .bool (soundN (⟨cfan, cleaf, cbud, cslots, crest⟩ : Cfg) l)) := by
 obtain ⟨sa_l, sc_l, rfl⟩ := h_l.form
 have hl := h_l.len47
 have hl100 := hS.1
 refine Fc.go [.tmp 4] Tryz.func28 Tryz.ntmps28 rfl (fun w0 => (g9 2 ?_))
 refine W.box (L := [iV _, iV _, iV _, iV _, iV _]) rfl rfl (fun b55 => (g9 6 ?_))
 refine W.call (Mp := []) (seats_fc h_l _ (by assumption)) rfl pr9 ?_
 intro v58 G56 _ hG56 q57
 have q59 := q57.1
 subst q59
 have q60 := q57.2
 refine Or.elim q60 (fun q61 => ?_) (fun q62 => ?_)
 ·refine match q61 with | ⟨u_s63, ss, hss, e_64, hv_s63, hqs⟩ => ?_
  subst e_64
  have q66 := hv_s63.form
  refine match q66 with | ⟨sa_s63, sc_s63, e_65⟩ => ?_
  subst e_65
  have hss47 := hv_s63.len47
  refine g9 18 ?_
  refine W.qcall (once_fc (h_l.mono hG56) hv_s63) rfl (g9 4 ?_)
  refine W.sp 23 rfl (fun h21 => ?_) (fun h21 => ?_)
  ·refine g9 22 ?_
   refine congrArg Value.bool ?_
   rw [soundN_t hss]
   exact (decide_eq_false fun h => by have h1 := h.1.1; simp [h1] at h21).symm
  refine g9 3 ?_
  refine W.qcall (linked_fc hv_s63) rfl (g9 4 ?_)
  refine W.sp 28 rfl (fun h26 => ?_) (fun h26 => ?_)
  ·refine g9 17 ?_
   refine congrArg Value.bool ?_
   rw [soundN_t hss]
   exact (decide_eq_false fun h => by have h1 := h.1.2.1; simp [h1] at h26).symm
  refine g9 13 ?_
  refine WC.cd (fun h33 p33 => ?_) (fun h33 p33 => ?_)
  ·refine g9 8 ?_
   refine congrArg Value.bool ?_
   rw [soundN_t hss]
   exact (decide_eq_false fun h => by have h1 := h.1.2.2; dsimp only at h1; omega).symm
  refine g9 9 ?_
  refine WC.loop (X := Nat) (fun i => [(7, nt9 i), (2, pt9 b55), (5, lV sa_s63 ss.length sc_s63)]) (fun i _ Ml => Ml = [(b55, ce9 23 [iV cfan, iV cleaf, iV cbud, iV cslots, iV crest])] ∧ i ≤ ss.length ∧ ∀ j (h : j < ss.length), j < i → SeatP (⟨cfan, cleaf, cbud, cslots, crest⟩ : Cfg) ss[j]) (fun i => ss.length - i) 0 hs9 ?_ ?_
  ·exact ⟨rfl, om9, fun j _ h => by omega⟩
  rintro i gG67 G67 _ hG67 ⟨rfl, hi, hi2⟩
  refine g9 9 ?_
  refine WC.cond rfl (fun h38 => ?_) (fun h38 => ?_)
  ·have p38 := odt h38
   refine g9 8 ?_
   have q71 := (hv_s63.mono hG67).at (i := i) om9
   refine match q71 with | ⟨_, he68, ⟨pa_t69, pc_t69, ka_t69, kc_t69, ma_t69, mc_t69, ra_t69, rc_t69, qa_t69, qc_t69, e_70, hp_t69, hk_t69, hm_t69, hr_t69, hq_t69, hok_t69⟩⟩ => ?_
   subst e_70
   obtain ⟨sx, hssx⟩ : ∃ y, y = ((ss)[i]) := ⟨_, rfl⟩
   rw [← hssx] at he68 hp_t69 hk_t69 hm_t69 hr_t69 hq_t69 hok_t69
   refine g9 2 ?_
   refine W.alloc zr47 (fun b72 => (g9 5 ?_))
   have hsx := hqs i om9
   rw [← hssx] at hsx
   have hms := hsx.ms
   have hnd := hS.at hsx.nd
   have hk1 : ∀ m ∈ sx.n.msgs, m.key.b.size < 140737488355328 := fun m hm => by have := hnd.2.2.2.2.2.1 m hm; omega
   refine g9 4 ?_
   refine W.qcall (nright_fc _ _ _ _ _ (nk9 hp_t69 hk_t69 hm_t69 hr_t69 hok_t69)) rfl (g9 2 ?_)
   refine W.sp 50 rfl (fun h49 => ?_) (fun h49 => ?_)
   ·refine g9 28 ?_
    refine congrArg Value.bool ?_
    rw [soundN_t hss]
    exact (decide_eq_false fun h => by have h1 := (h.2 i om9).1; rw [← hssx] at h1; dsimp only at h1; simp [h1] at h49).symm
   refine g9 3 ?_
   refine W.qcall (placed_fc ⟨_, _, _, _, _, _, _, _, _, _, rfl, hp_t69, hk_t69, hm_t69, hr_t69, hq_t69, hok_t69⟩ hk1) rfl (g9 4 ?_)
   refine W.sp 55 rfl (fun h53 => ?_) (fun h53 => ?_)
   ·refine g9 23 ?_
    refine congrArg Value.bool ?_
    rw [soundN_t hss]
    exact (decide_eq_false fun h => by have h1 := (h.2 i om9).2.1; rw [← hssx] at h1; simp [h1] at h53).symm
   refine g9 15 ?_
   refine WC.cd (fun h61 p61 => ?_) (fun h61 p61 => ?_)
   ·refine g9 13 ?_
    refine congrArg Value.bool ?_
    rw [soundN_t hss]
    exact (decide_eq_false fun h => by have h1 := (h.2 i om9).2.2.1; rw [← hssx] at h1; dsimp only at h1; omega).symm
   refine g9 8 ?_
   refine WC.loop (X := Nat) (fun j => [(9, nt9 j), (2, pt9 b55), (8, pt9 b72), (5, lV sa_s63 ss.length sc_s63), (7, nt9 i)]) (fun j _ Ml => Ml = [(b72, ce9 47 [iV sx.n.slot, iV sx.n.level, lV pa_t69 (sx.n.pivots).length pc_t69, lV ka_t69 (sx.n.kids).length kc_t69, sV sx.n.high.b, .bool sx.n.top, iV sx.n.right, iV sx.n.seen, lV ma_t69 (sx.n.msgs).length mc_t69, lV ra_t69 (sx.n.rows).length rc_t69, sV (sx.s).lo.b, sV (sx.s).hi.b, .bool (sx.s).opn, lV qa_t69 (sx.ms).length qc_t69]), (b55, ce9 23 [iV cfan, iV cleaf, iV cbud, iV cslots, iV crest])] ∧ ∀ j2 (h : j2 < sx.ms.length), j2 < j → sx.n.seen < sx.ms[j2].stamp) (fun j => sx.ms.length - j) 0 hs9 ?_ ?_
   ·exact ⟨rfl, fun i _ h => by omega⟩
   rintro j gG73 G73 _ hG73 ⟨rfl, hj2'⟩
   refine g9 10 ?_
   refine WC.cond rfl (fun h67 => ?_) (fun h67 => ?_)
   ·have p67 := odt h67
    refine g9 9 ?_
    refine (hq_t69.mono hG73).a2 (i := j) om9 (fun he74 hm75 => (g9 9 ?_))
    refine WC.cd (fun h79 p79 => ?_) (fun h79 p79 => ?_)
    ·refine g9 16 ?_
     refine congrArg Value.bool ?_
     rw [soundN_t hss]
     exact (decide_eq_false fun h => by have h1 := (h.2 i om9).2.2.2; rw [← hssx] at h1; have := h1 j om9; omega).symm
    refine g9 9 ?_
    exact ⟨Le.rfl, j + 1, hs9, ⟨rfl, fun i2 h hi3 => by
      by_cases e : i2 = j
      · subst e; omega
      · exact hj2' i2 h om9⟩, om9⟩
   have p67 := odf h67
   refine g9 10 ?_
   refine W.sub (sr9.cons _) (g9 2 ?_)
   exact ⟨hG73, i + 1, hs9, ⟨rfl, om9, fun j2 h hj2 => by
      by_cases e : j2 = i
      · subst e; rw [← hssx]; exact ⟨by simpa using h49, by simpa using h53, by dsimp only; omega, fun j2 h2 => hj2' j2 h2 om9⟩
      · exact hi2 j2 h om9⟩, om9⟩
  have p38 := odf h38
  refine g9 12 ?_
  refine congrArg Value.bool ?_
  rw [soundN_t hss]
  exact (decide_eq_true ⟨⟨by simpa using h21, by simpa using h26, by dsimp only; omega⟩, fun j h => hi2 j h om9⟩).symm
 refine match q62 with | ⟨u_s79, sxs79, hsn, e_80, hv_s79⟩ => ?_
 subst e_80
 refine g9 41 ?_
 refine congrArg Value.bool ?_
 exact (soundN_f hsn).symm

theorem tree_fc {G : GH} (cfan : Int) (cleaf : Int) (cbud : Int) (cslots : Int) (crest : Int) {v_l : Value} {l : List Nd} (h_l : SlR eNode G v_l l) (most : Int) (hm : 0 ≤ most ∧ most ≤ 60) :
    Fc Tryz.prog 5 [.agg #[iV cfan, iV cleaf, iV cbud, iV cslots, iV crest], v_l, iV most] G [] (fun v _ _ => v = .bool (treeN (⟨cfan, cleaf, cbud, cslots, crest⟩ : Cfg) l most)) := by
 obtain ⟨sa_l, sc_l, rfl⟩ := h_l.form
 have hl := h_l.len47
 refine Fc.go [.tmp 6] Tryz.func5 Tryz.ntmps5 rfl (fun w0 => (g9 2 ?_))
 refine W.box (L := [iV _, iV _, iV _, iV _, iV _]) rfl rfl (fun b81 => (g9 7 ?_))
 refine W.qcall (rright25_fc _ _ _ _ _) rfl (g9 2 ?_)
 refine W.sp 11 rfl (fun h10 => ?_) (fun h10 => ?_)
 ·refine g9 21 ?_
  refine congrArg Value.bool ?_
  exact (treeN_f fun h => by have h1 := h.1; simp [h1] at h10).symm
 refine g9 8 ?_
 refine W.sd 16 (fun h14 p14 => ?_) (fun h14 p14 => ?_)
 ·refine g9 16 ?_
  refine congrArg Value.bool ?_
  exact (treeN_f fun h => by have h1 := h.2.1; omega).symm
 refine g9 5 ?_
 refine W.qcall (light_fc h_l _ _ om9) rfl (g9 5 ?_)
 refine WC.cond rfl (fun h20 => ?_) (fun h20 => ?_)
 ·refine g9 8 ?_
  refine congrArg Value.bool ?_
  exact (treeN_f fun h => by have h1 := h.2.2.1; simp [h1] at h20).symm
 have hS : Sml l := sml_light (by simpa using h20) om9
 refine g9 9 ?_
 refine WC.loop (X := Nat) (fun i => [(7, nt9 i), (3, pt9 b81), (1, lV sa_l l.length sc_l)]) (fun i _ Ml => Ml = [(b81, ce9 23 [iV cfan, iV cleaf, iV cbud, iV cslots, iV crest])] ∧ i ≤ l.length ∧ ∀ j (h : j < l.length), j < i → l[j].slot = (j : Int) ∧ l[j].seen ≤ 1099511627776) (fun i => l.length - i) 0 hs9 ?_ ?_
 ·exact ⟨rfl, om9, fun j _ h => by omega⟩
 rintro i gG82 G82 _ hG82 ⟨rfl, hi, hi2⟩
 refine g9 9 ?_
 refine WC.cd (fun h25 p25 => ?_) (fun h25 p25 => ?_)
 ·refine g9 8 ?_
  refine (h_l.mono hG82).aN (i := i) om9 (fun _ _ _ _ _ _ _ _ he83 hp_n84 hk_n84 hm_n84 hr_n84 hok_n84 => (g9 6 ?_))
  refine W.sm 35 (fun h34 p34 => ?_) (fun h34 p34 => ?_)
  ·refine g9 22 ?_
   refine congrArg Value.bool ?_
   exact (treeN_f fun h => by have h1 := (h.2.2.2 i om9).1; omega).symm
  refine g9 5 ?_
  refine (h_l.mono hG82).aN (i := i) om9 (fun _ _ _ _ _ _ _ _ he87 hp_n88 hk_n88 hm_n88 hr_n88 hok_n88 => (g9 10 ?_))
  refine WC.cd (fun h41 p41 => ?_) (fun h41 p41 => ?_)
  ·refine g9 12 ?_
   refine congrArg Value.bool ?_
   exact (treeN_f fun h => by have h1 := (h.2.2.2 i om9).2; omega).symm
  refine g9 9 ?_
  exact ⟨Le.rfl, i + 1, hs9, ⟨rfl, om9, fun j h hj => by
      by_cases e : j = i
      · subst e; omega
      · exact hi2 j h om9⟩, om9⟩
 refine g9 9 ?_
 refine W.qcall (sound_fc _ _ _ _ _ (h_l.mono hG82) hS) rfl (g9 5 ?_)
 refine congrArg Value.bool ?_
 exact (treeN_t (by simpa using h10) om9 (by simpa using h20) fun j h => hi2 j h om9).symm

theorem map27_fc {G : GH} {v_l : Value} {l : List Nd} (h_l : SlR eNode G v_l l) (c2 : Cfg) (ss : List Seat) (t : Tree c2 l ss) :
    Fc Tryz.prog 17 [v_l] G [] (fun v G' M' => M' = [] ∧ ∃ u0, v = u0 ∧ SlR ePair G' u0 (mapN l)) := by
 obtain ⟨sa_l, sc_l, rfl⟩ := h_l.form
 have hl := h_l.len47
 have hS := t.sml
 have hl100 := hS.1
 have hsl := t.len
 refine Fc.go [.tmp 2] Tryz.func17 Tryz.ntmps17 rfl (fun w0 => (g9 13 ?_))
 refine W.call (Mp := []) (seats_fc h_l _ (by assumption)) rfl pr9 ?_
 intro v3 G1 _ hG1 q2
 have q4 := q2.1
 subst q4
 have q5 := q2.2
 refine Or.elim q5 (fun q6 => ?_) (fun q7 => ?_)
 ·refine match q6 with | ⟨u_s8, ssq, hssq, e_9, hv_s8, hqsq⟩ => ?_
  subst e_9
  have q11 := hv_s8.form
  refine match q11 with | ⟨sa_s8, sc_s8, e_10⟩ => ?_
  subst e_10
  have e9 : ss = ssq := Option.some.inj (t.sts.symm.trans hssq)
  subst e9
  have hss47q := hv_s8.len47
  refine g9 24 ?_
  refine WC.loop (X := (Nat) × Value × MH) (fun i => [(6, nt9 i.1), (4, lV sa_s8 ss.length sc_s8), (3, i.2.1)]) (fun i G Ml => Ml = (i.2.2 ++ []) ∧ OwnR ePair 101 G i.2.1 ((leavesS (ss.take i.1)).flatMap viewS) i.2.2 ∧ i.1 ≤ ss.length) (fun i => ss.length - i.1) (0, lV none 0 0, ([] : MH)) hs9 ?_ ?_
  ·exact ⟨rfl, (by exact OwnR.nil), om9⟩
  rintro ⟨i, v_3, M_3⟩ gG12 G12 _ hG12 ⟨rfl, ho_3, hi⟩
  try dsimp only at ho_3 hi
  have hvl := t.views_len i
  refine WC.fr (f := setL gG12 [(6, nt9 i), (4, lV sa_s8 ss.length sc_s8), (3, v_3)]) rfl (g9 9 ?_)
  refine WC.cd (fun h17 p17 => ?_) (fun h17 p17 => ?_)
  ·refine g9 8 ?_
   have q16 := (hv_s8.mono hG12).at (i := i) om9
   refine match q16 with | ⟨_, he13, ⟨_, _, _, _, _, _, _, _, qa_t14, qc_t14, e_15, hp_t14, hk_t14, hm_t14, hr_t14, hq_t14, hok_t14⟩⟩ => ?_
   subst e_15
   refine g9 7 ?_
   refine WC.cd (fun h26 p26 => ?_) (fun h26 p26 => ?_)
   ·have hmem : (ss[i]'om9) ∈ ss := List.getElem_mem _
    have htf := t.fits _ hmem
    have hvx := t.view_len hmem
    have hrx : (ss[i]'om9).n.rows.length ≤ 4000 := (t.sml.at (.inr (t.nd hmem).2.2)).2.2.2.1
    have hmx : (ss[i]'om9).ms.length ≤ 102400 := by have := (t.ms_len _ hmem).1; omega
    refine WC.dw sn9 (d9 [0, 1, 2] ?_)
    have q20 := (hv_s8.mono hG12).at (i := i) om9
    refine match q20 with | ⟨_, he17, ⟨_, _, _, _, _, _, _, _, qa_t18, qc_t18, e_19, hp_t18, hk_t18, hm_t18, hr_t18, hq_t18, hok_t18⟩⟩ => ?_
    subst e_19
    refine d9 [3, 4, 5, 6, 7, 8] ?_
    have q24 := (hv_s8.mono hG12).at (i := i) om9
    refine match q24 with | ⟨_, he21, ⟨_, _, _, _, _, _, _, _, qa_t22, qc_t22, e_23, hp_t22, hk_t22, hm_t22, hr_t22, hq_t22, hok_t22⟩⟩ => ?_
    subst e_23
    refine d9 [9, 10, 11, 12, 13] ?_
    have q28 := (hv_s8.mono hG12).at (i := i) om9
    refine match q28 with | ⟨_, he25, ⟨_, _, _, _, _, _, _, _, qa_t26, qc_t26, e_27, hp_t26, hk_t26, hm_t26, hr_t26, hq_t26, hok_t26⟩⟩ => ?_
    subst e_27
    refine d9 [14, 15, 16] ?_
    refine WD.a1 17 rfl (W.call (Mp := []) (rview_fc hr_t18 (ss[i]'om9).s.lo (ss[i]'om9).s.hi (ss[i]'om9).s.opn hq_t26 (t.rows hmem) om9 (fun m hm => msgR_key (htf.2 m hm)) (by have := htf.1.1; omega)) rfl pr9 ?_)
    intro _ G29 _ hG29 q31
    refine match q31 with | ⟨e_32, _, e_33, hv30⟩ => ?_
    subst e_32
    subst e_33
    have hc34 := SlR.cast hv30 (l' := viewS (ss[i]'om9)) (rfl)
    have q36 := hc34.form
    refine match q36 with | ⟨sa_hc34, sc_hc34, e_35⟩ => ?_
    subst e_35
    refine W.nn (WD.a1 18 rfl (W.app (e := ePair) sl41 ty101 zr101 rfl by101 rfl rfl ((ho_3.mono hG29)) (hc34) pr9 (by show (List.length _ + List.length _) * 32 ≤ _; omega) (fun v37 Ms38 ho39 => (W.nn (d9 [19] ?_)))))
    refine WD.done (by kernel_rfl) (blk_n (thn_n (g9 6 ?_)))
    exact ⟨hG29, (i + 1, v37, Ms38), hs9, ⟨rfl, (by have h := ho39; rw [leaves_t om9 p26, List.flatMap_append, List.flatMap_singleton]; exact h), om9⟩, om9⟩
   refine g9 9 ?_
   exact ⟨Le.rfl, (i + 1, v_3, M_3), hs9, ⟨rfl, (by have h := ho_3; rw [leaves_f om9 p26]; exact h), om9⟩, om9⟩
  refine g9 11 ?_
  refine WC.giveO ho_3 pr9 (fun G40 hG40 hv40 => (g9 2 ?_))
  refine ⟨rfl, _, rfl, ?_⟩
  · exact SlR.cast hv40 (by rw [mapN_t t.sts, List.take_of_length_le om9])
 exact absurd (t.sts.symm.trans (by obtain ⟨_, _, h0, _⟩ := q7; exact h0)) (by simp)

theorem ranssame_fc {G : GH} {cs_a : List Value} {a : Ans} (h_a : AnsC G cs_a a) {cs_b : List Value} {b : Ans} (h_b : AnsC G cs_b b) :
    Fc Tryz.prog 18 [.agg (List.toArray cs_a), .agg (List.toArray cs_b)] G [] (fun v _ _ => v = .bool (decide (a = b))) := by
 obtain ⟨_, _, rfl, hw_a, hok_a⟩ := h_a
 obtain ⟨_, _, rfl, hw_b, hok_b⟩ := h_b
 refine Fc.go [.tmp 4] Tryz.func18 Tryz.ntmps18 rfl (fun w0 => (g9 2 ?_))
 refine W.box (L := [iV _, .bool _, sV _, lV _ _ _]) rfl rfl (fun b1 => (W.box (L := [iV _, .bool _, sV _, lV _ _ _]) rfl rfl (fun b2 => (g9 11 ?_))))
 refine W.sd 10 (fun h9 p9 => ?_) (fun h9 p9 => ?_)
 ·refine g9 9 ?_
  refine W.ok (ok_eqlB bo4 rfl rfl) (g9 2 ?_)
  refine W.sp 17 rfl (fun h15 => ?_) (fun h15 => ?_)
  ·refine g9 12 ?_
   refine W.sd 24 (fun h22 p22 => ?_) (fun h22 p22 => ?_)
   ·refine g9 9 ?_
    refine W.qcall (samep_fc hw_a hw_b) rfl (g9 6 ?_)
    refine congrArg Value.bool ?_
    rw [Bool.eq_iff_iff, decide_eq_true_iff]
    clear hw_a hok_a hw_b hok_b
    cases a; cases b
    simp_all [Str.b_inj]
   refine g9 11 ?_
   refine congrArg Value.bool ?_
   rw [Bool.eq_iff_iff, decide_eq_true_iff]
   clear hw_a hok_a hw_b hok_b
   cases a; cases b
   simp_all [Str.b_inj]
  refine g9 18 ?_
  refine congrArg Value.bool ?_
  rw [Bool.eq_iff_iff, decide_eq_true_iff]
  clear hw_a hok_a hw_b hok_b
  cases a; cases b
  simp_all [Str.b_inj]
 refine g9 25 ?_
 refine congrArg Value.bool ?_
 rw [Bool.eq_iff_iff, decide_eq_true_iff]
 clear hw_a hok_a hw_b hok_b
 cases a; cases b
 simp_all [Str.b_inj]

theorem readerAlone_fc {G : GH} (cfan : Int) (cleaf : Int) (cbud : Int) (cslots : Int) (crest : Int) {v_l : Value} {l : List Nd} (h_l : SlR eNode G v_l l) (k : Str) (th : Int) (hi9 : i64 th) :
    Fc Tryz.prog 4 [.agg #[iV cfan, iV cleaf, iV cbud, iV cslots, iV crest], v_l, sV k.b, iV th] G [] (fun v _ _ => v = .bool (true)) := by
 obtain ⟨sa_l, sc_l, rfl⟩ := h_l.form
 have hl := h_l.len47
 have hkle := k.le
 refine Fc.go [.tmp 8] Tryz.func4 Tryz.ntmps4 rfl (fun w0 => (g9 2 ?_))
 refine W.box (L := [iV _, iV _, iV _, iV _, iV _]) rfl rfl (fun b1 => (g9 8 ?_))
 refine W.qcall (tree_fc _ _ _ _ _ h_l _ om9) rfl (g9 2 ?_)
 refine W.sp 20 rfl (fun h19 => ?_) (fun h19 => ?_)
 ·refine g9 9 ?_
  refine W.qcall (awake34_fc) rfl (g9 6 ?_)
  rfl
 have q2 := tree_of (c := (⟨cfan, cleaf, cbud, cslots, crest⟩ : Cfg)) (by simpa using h19) om9
 refine match q2 with | ⟨ss, t⟩ => ?_
 have hS := t.sml
 have hl100 := hS.1
 refine g9 9 ?_
 refine WC.cd (fun h23 p23 => ?_) (fun h23 p23 => ?_)
 ·try dsimp only at p23
  refine g9 2 ?_
  refine W.qcall (awake34_fc) rfl (g9 6 ?_)
  rfl
 try dsimp only at p23
 refine g9 6 ?_
 refine W.call (Mp := []) (Mr := ((b1, ce9 23 [iV cfan, iV cleaf, iV cbud, iV cslots, iV crest]) :: [])) (kload_fc cfan cleaf cbud cslots crest h_l ss t [th] ⟨fun x hx => by rw [List.mem_singleton.1 hx]; exact hi9, by simp⟩) rfl pr9 ?_
 intro v6 G3 Ms5 hG3 q4
 refine match q4 with | ⟨b_c, b_s, b_t, b_m, wt, e_7, hK9⟩ => ?_
 subst e_7
 have hlc9 : l.length ≤ cslots.toNat := hK9.few
 have hto9 := t.top
 have hfa9 := far_eq t
 have hhe9 := t.height
 have hlz9 := t.lvl t.root
 have hpo9 := t.pos
 refine W.perm (M' := ((b1, ce9 23 [iV cfan, iV cleaf, iV cbud, iV cslots, iV crest]) :: (Ms5 ++ []))) (pmC pr9).symm (g9 12 ?_)
 refine W.call (Mp := Ms5) (knew_fc hK9 t th k rfl) rfl (pmC pr9) ?_
 intro v11 G8 Ms10 hG8 q9
 refine Or.elim q9 (fun q12 => ?_) (fun q13 => ?_)
 ·refine match q12 with | ⟨hneg9, e_14⟩ => ?_
  subst e_14
  refine W.perm (pmC pr9).symm (g9 12 ?_)
  refine W.ok (ok_eqlPN pp49 rfl rfl) (g9 5 ?_)
  refine W.ok (ok_neqB bo4 rfl rfl) (g9 3 ?_)
  refine WC.cond rfl (fun h43 => ?_) (fun h43 => ?_)
  ·exfalso; simp [hneg9] at h43
  refine g9 6 ?_
  refine W.ok (ok_eqlPN pp49 rfl rfl) (g9 6 ?_)
  refine W.qcall (rdstepn_fc.mono fun v _ _ _ hv => hv.1) rfl (g9 5 ?_)
  refine W.qcall (rddonen_fc.mono fun v _ _ _ hv => hv.1) rfl (g9 7 ?_)
  refine W.qcall (rdpointn_fc.mono fun v _ _ _ hv => hv.1) rfl (g9 7 ?_)
  refine W.qcall (rdanswn_fc.mono fun v _ _ _ hv => hv.1) rfl (g9 1 ?_)
  refine W.ok (ok_build (L := [iV _, .bool _, sV _, lV _ _ _]) pl56 zr56 rfl rfl rfl) (g9 1 ?_)
  refine W.qcall ((ranssame_fc (show AnsC _ _ (⟨0, ((none : Option Str)).isSome, ((none : Option Str)).getD Str.nil, []⟩ : Ans) from ⟨_, _, rfl, SlR.nil, (⟨by decide, by decide⟩ : i64 0)⟩) (show AnsC _ _ (⟨0, ((none : Option Str)).isSome, ((none : Option Str)).getD Str.nil, []⟩ : Ans) from ⟨_, _, rfl, SlR.nil, (⟨by decide, by decide⟩ : i64 0)⟩)).mono (fun v _ _ _ hv => hv.trans (congrArg Value.bool (decide_eq_true rfl)))) rfl (g9 3 ?_)
  refine W.qcall (awake34_fc) rfl (g9 7 ?_)
  rfl
 refine match q13 with | ⟨hpos9, b_r, b_h, e_15, hR9⟩ => ?_
 subst e_15
 refine W.perm (pmC pr9).symm (g9 12 ?_)
 refine W.ok (ok_eqlPN pp49 rfl rfl) (g9 5 ?_)
 refine W.ok (ok_neqB bo4 rfl rfl) (g9 3 ?_)
 refine WC.cond rfl (fun h43 => ?_) (fun h43 => ?_)
 ·exfalso; simp [hpos9] at h43
 refine g9 6 ?_
 refine W.ok (ok_eqlPN pp49 rfl rfl) (g9 17 ?_)
 refine WC.loop (X := (Nat × RSt × Nat) × MH) (fun x => [(12, nt9 x.1.2.2), (13, nt9 x.1.1), (1, lV sa_l l.length sc_l), (2, sV k.b), (3, iV th), (9, pt9 b_c), (11, pt9 b_r)]) (fun x G Ml => Ml = ((b1, ce9 23 [iV cfan, iV cleaf, iV cbud, iV cslots, iV crest]) :: (x.2 ++ [])) ∧ RdR 128 132 3 79 76 98 40 43 4 3 150 107 44 71 [th] (⟨cfan, cleaf, cbud, cslots, crest⟩ : Cfg) k th l ss b_r b_h b_c b_t b_s b_m (putM ([] : List (Int × Option Nat)) th (some b_h)) wt G (x.1.2.1) x.2 ∧ x.1.1 ≤ rfarN l ∧ ((RInv l ss k th (List.replicate cslots.toNat ([], 0)) x.1.1 x.1.2.1 ∧ x.1.2.2 = if x.1.1 = 0 then 0 else 1) ∨ (RDone l k (List.replicate cslots.toNat ([], 0)) x.1.2.1 ∧ x.1.1 = rfarN l ∧ x.1.2.2 = 1))) (fun x => rfarN l - x.1.1) (((0, (⟨-1, rootS l 0, false, [], false, false, 0, (List.replicate cslots.toNat ([], 0))⟩ : RSt), 0) : Nat × RSt × Nat), Ms10) hs9 ?_ ?_
 ·exact ⟨rfl, (by exact hR9), Nat.zero_le _, .inl ⟨RInv.init t, rfl⟩⟩
 rintro ⟨⟨i, st, n⟩, M_11⟩ gG16 G16 _ hG16 ⟨rfl, ho_11, hi, hI⟩
 try dsimp only at ho_11 hi hI
 refine WC.fr (f := setL gG16 [(12, nt9 n), (13, nt9 i), (1, lV sa_l l.length sc_l), (2, sV k.b), (3, iV th), (9, pt9 b_c), (11, pt9 b_r)]) rfl (g9 4 ?_)
 refine W.call (Mp := M_11) (rdone_fc ho_11) rfl (pmC pr9) ?_
 intro v20 G17 Ms19 hG17 q18
 refine match q18 with | ⟨e_22, hR21⟩ => ?_
 subst e_22
 refine W.perm (pmC pr9).symm (g9 3 ?_)
 refine WC.cond rfl (fun h71 => ?_) (fun h71 => ?_)
 ·have hdn9 : st.dn = false := by simpa using h71
  obtain ⟨hR7, hn7⟩ : RInv l ss k th (List.replicate cslots.toNat ([], 0)) i st ∧ n = if i = 0 then 0 else 1 := by rcases hI with h9 | h9; exact h9; exact absurd h9.1.dn (by rw [hdn9]; decide)
  have hif9 := hR7.few t
  have q23 := hR7.go t om9 hlc9 om9
  refine match q23 with | ⟨hs1, hs2, hs3⟩ => ?_
  refine g9 9 ?_
  refine (h_l.mono (((hG3.trans hG8).trans hG16).trans hG17)).aN (i := 0) om9 (fun _ _ _ _ _ _ _ _ he24 hp_n25 hk_n25 hm_n25 hr_n25 hok_n25 => (W.ok (ok_indexAddr (i := 0) sl24 ty43 (h_l.mono lec) rfl rfl ⟨om9, om9⟩) (g9 3 ?_)))
  refine W.ok (ok_mul rfl rfl om9) (g9 2 ?_)
  refine W.sd 82 (fun h81 p81 => ?_) (fun h81 p81 => ?_)
  ·try dsimp only at p81
   exfalso; omega
  try dsimp only at p81
  refine g9 3 ?_
  refine W.call (Mp := Ms19) (Fc.mono (by have h9 := ransw_fc hR21; rw [hdn9] at h9; exact h9) (fun _ _ _ _ h9 => h9)) rfl (pmC pr9) ?_
  intro v31 G28 Ms30 hG28 q29
  refine match q29 with | ⟨e_33, hR32⟩ => ?_
  subst e_33
  refine W.perm (pmC pr9).symm (g9 1 ?_)
  refine W.ok (ok_build (L := [iV _, .bool _, sV _, lV _ _ _]) pl56 zr56 rfl rfl rfl) (g9 1 ?_)
  refine W.qcall ((ranssame_fc (show AnsC _ _ (⟨0, ((ransN l k false)).isSome, ((ransN l k false)).getD Str.nil, []⟩ : Ans) from ⟨_, _, rfl, SlR.nil, (⟨by decide, by decide⟩ : i64 0)⟩) (show AnsC _ _ (⟨0, ((none : Option Str)).isSome, ((none : Option Str)).getD Str.nil, []⟩ : Ans) from ⟨_, _, rfl, SlR.nil, (⟨by decide, by decide⟩ : i64 0)⟩)).mono (fun v _ _ _ hv => hv.trans (congrArg Value.bool (decide_eq_true rfl)))) rfl (g9 7 ?_)
  refine W.call (Mp := Ms30) (rstep_fc hR32 t om9 (List.mem_singleton.2 rfl)) rfl (pmC pr9) ?_
  intro v37 G34 Ms36 hG34 q35
  refine match q35 with | ⟨e_39, hR38⟩ => ?_
  subst e_39
  refine W.perm (pmC pr9).symm (g9 5 ?_)
  refine WC.cond rfl (fun h92 => ?_) (fun h92 => ?_)
  ·rw [hs1] at h92; exact absurd h92 (by decide)
  refine g9 6 ?_
  refine W.call (Mp := Ms36) (rpoint_fc hR38) rfl (pmC pr9) ?_
  intro v43 G40 Ms42 hG40 q41
  refine match q41 with | ⟨e_45, hR44⟩ => ?_
  subst e_45
  refine W.perm (pmC pr9).symm (g9 2 ?_)
  refine WC.cond rfl (fun h95 => ?_) (fun h95 => ?_)
  ·have hi0 : i = 0 := by have h8 := hs2.symm.trans h95; simpa using h8
   have hn9 : n + 1 = 1 := by rw [hn7, if_pos hi0]
   refine g9 11 ?_
   refine W.call (Mp := Ms42) (rpoint_fc hR44) rfl (pmC pr9) ?_
   intro v49 G46 Ms48 hG46 q47
   refine match q47 with | ⟨e_51, hR50⟩ => ?_
   subst e_51
   refine W.perm (pmC pr9).symm (W.ok (ok_neqB bo4 rfl rfl) (g9 2 ?_))
   refine WC.cond rfl (fun h102 => ?_) (fun h102 => ?_)
   ·have h9 : decide ((i : Int) = 0) = (rstepN l k th st).2.pt := by rw [hs2]; exact decide_eq_decide.2 om9
    rw [h9] at h102
    simp at h102
   refine g9 9 ?_
   exact ⟨lec, (((i + 1, (rstepN l k th st).2, n + 1) : Nat × RSt × Nat), Ms48), hs9, ⟨rfl, (by exact hR50), by dsimp only; omega, hs3.elim (fun h9 => .inl ⟨h9, by dsimp only; rw [if_neg om9]; exact hn9⟩) (fun h9 => .inr ⟨h9.2, h9.1, hn9⟩)⟩, by dsimp only; omega⟩
  have hi0 : ¬ i = 0 := by have h8 := hs2.symm.trans h95; simpa using h8
  have hn9 : n = 1 := by rw [hn7, if_neg hi0]
  refine g9 7 ?_
  refine W.call (Mp := Ms42) (rpoint_fc hR44) rfl (pmC pr9) ?_
  intro v55 G52 Ms54 hG52 q53
  refine match q53 with | ⟨e_57, hR56⟩ => ?_
  subst e_57
  refine W.perm (pmC pr9).symm (W.ok (ok_neqB bo4 rfl rfl) (g9 2 ?_))
  refine WC.cond rfl (fun h102 => ?_) (fun h102 => ?_)
  ·have h9 : decide ((i : Int) = 0) = (rstepN l k th st).2.pt := by rw [hs2]; exact decide_eq_decide.2 om9
   rw [h9] at h102
   simp at h102
  refine g9 9 ?_
  exact ⟨lec, (((i + 1, (rstepN l k th st).2, n) : Nat × RSt × Nat), Ms54), hs9, ⟨rfl, (by exact hR56), by dsimp only; omega, hs3.elim (fun h9 => .inl ⟨h9, by dsimp only; rw [if_neg om9]; exact hn9⟩) (fun h9 => .inr ⟨h9.2, h9.1, hn9⟩)⟩, by dsimp only; omega⟩
 have hdn9 : st.dn = true := by simpa using h71
 obtain ⟨hD7, hi7, hn7⟩ : RDone l k (List.replicate cslots.toNat ([], 0)) st ∧ i = rfarN l ∧ n = 1 := by rcases hI with h9 | h9; exact absurd h9.1.dn (by rw [hdn9]; decide); exact h9
 refine g9 8 ?_
 refine W.cS (map27_fc (h_l.mono lec) _ _ t) rfl (fun sa_hv59 sc_hv59 G58 hG58 hv59 => (W.mv (W.qcall (rget_fc hv59 _) rfl (g9 12 ?_))))
 refine W.sd 112 (fun h111 p111 => ?_) (fun h111 p111 => ?_)
 ·try dsimp only at p111
  refine g9 3 ?_
  refine W.call (Mp := Ms19) (Fc.mono (by have h9 := ransw_fc (RdR.mono hG58 hR21); rw [hdn9] at h9; exact h9) (fun _ _ _ _ h9 => h9)) rfl (pmC pr9) ?_
  intro v68 G65 Ms67 hG65 q66
  refine match q66 with | ⟨e_70, hR69⟩ => ?_
  subst e_70
  refine W.perm (pmC pr9).symm (g9 5 ?_)
  refine W.ok (ok_build (L := [iV _, .bool _, sV _, lV _ _ _]) pl56 zr56 rfl rfl rfl) (g9 1 ?_)
  refine W.qcall ((ranssame_fc (show AnsC _ _ (⟨0, ((ransN l k true)).isSome, ((ransN l k true)).getD Str.nil, []⟩ : Ans) from ⟨_, _, rfl, SlR.nil, (⟨by decide, by decide⟩ : i64 0)⟩) (show AnsC _ _ (⟨0, ((getN (mapN l) k)).isSome, ((getN (mapN l) k)).getD Str.nil, []⟩ : Ans) from ⟨_, _, rfl, SlR.nil, (⟨by decide, by decide⟩ : i64 0)⟩)).mono (fun v _ _ _ hv => hv.trans (congrArg Value.bool (decide_eq_true rfl)))) rfl (g9 5 ?_)
  refine W.call (Mp := Ms67) (rholds_fc hR69) rfl (pmC pr9) ?_
  intro v74 G71 Ms73 hG71 q72
  refine match q72 with | ⟨hv_hR75, hR75⟩ => ?_
  refine W.perm (pmC pr9).symm ?_
  have hln_sa76 := hv_hR75.len47
  have q79 := hv_hR75.form
  refine match q79 with | ⟨sa76, sc77, e_78⟩ => ?_
  subst e_78
  refine g9 6 ?_
  refine W.sd 126 (fun h124 p124 => ?_) (fun h124 p124 => ?_)
  ·try dsimp only at p124
   refine g9 5 ?_
   refine W.call (Mp := Ms73) (rhand_fc hR75 th b_h hpos9 (by rw [getM_put, if_pos rfl])) rfl (pmC pr9) ?_
   intro v83 G80 Ms82 hG80 q81
   refine match q81 with | ⟨e_85, hR84⟩ => ?_
   subst e_85
   refine W.perm (pmC pr9).symm (g9 1 ?_)
   refine W.call (Mp := Ms82) (rmost_fc hR84) rfl (pmC pr9) ?_
   intro v89 G86 Ms88 hG86 q87
   refine match q87 with | ⟨e_91, hR90⟩ => ?_
   subst e_91
   refine W.perm (pmC pr9).symm (g9 4 ?_)
   refine W.sd 133 (fun h131 p131 => ?_) (fun h131 p131 => ?_)
   ·try dsimp only at p131
    refine g9 3 ?_
    refine W.call (Mp := Ms88) (rstore_fc hR90) rfl (pmC pr9) ?_
    intro v95 G92 Ms94 hG92 q93
    refine match q93 with | ⟨e_97, hR96⟩ => ?_
    subst e_97
    refine W.perm (pmC pr9).symm (g9 1 ?_)
    refine W.call (Mp := Ms94) (rnodes_fc hR96) rfl (pmC pr9) ?_
    intro v101 G98 Ms100 hG98 q99
    refine match q99 with | ⟨hv_hR102, hR102⟩ => ?_
    refine W.perm (pmC pr9).symm ?_
    have hln_sa103 := hv_hR102.len47
    have q106 := hv_hR102.form
    refine match q106 with | ⟨sa103, sc104, e_105⟩ => ?_
    subst e_105
    refine g9 3 ?_
    refine W.qcall (all21_fc hv_hR102 (h_l.mono lec)) rfl (g9 2 ?_)
    refine W.sp 140 rfl (fun h138 => ?_) (fun h138 => ?_)
    ·refine g9 3 ?_
     refine W.call (Mp := Ms100) (rstep_fc hR102 t om9 (List.mem_singleton.2 rfl)) rfl (pmC pr9) ?_
     intro v110 G107 Ms109 hG107 q108
     refine match q108 with | ⟨e_112, hR111⟩ => ?_
     subst e_112
     refine W.perm (pmC pr9).symm (g9 4 ?_)
     refine W.sp 145 rfl (fun h143 => ?_) (fun h143 => ?_)
     ·refine g9 1 ?_
      refine W.qcall (awake34_fc) rfl (g9 6 ?_)
      rfl
     rw [rstep_done hdn9] at h143; exact Bool.noConfusion h143
    simp at h138
   try dsimp only at p131
   exact absurd hD7.most p131
  try dsimp only at p124
  exact absurd (by rw [hD7.W, pick_free]; rfl) p124
 try dsimp only at p111
 exact absurd (by rw [hn7]; rfl) p111

end Go.Proofs.YtgmnljhiojdigaaGreat
namespace Go.Fw
open Go Go.RowKit
section
variable {c : Cfg} {l : List Nd} {ss : List Seat} {k : Str} {th : Int} {B : Lat} {i m : Nat} {st : RSt}
def RWait (l : List Nd) (ss : List Seat) (k : Str) (th : Int) (B : Lat) (m : Nat) (st : RSt) : Prop :=
  (∃ i, RInv l ss k th B i st ∧ (m ≤ i ∨ (st.look = false ∧ (atL B st.x.n.slot).2 = 2))) ∨ RDone l k B st
theorem RWait.init (t : Tree c l ss) : RWait l ss k th B 0 ⟨-1, rootS l 0, false, [], false, false, 0, B⟩ := .inl ⟨0, RInv.init t, .inl (Nat.le_refl _)⟩
theorem RWait.step (t : Tree c l ss) (hk : k.b.size < 140737488355328) (hB : BaseOk l th B) (h : RWait l ss k th B m st) : RWait l ss k th B (m + 1) (rstepN l k th st).2 := by
  rcases h with ⟨i, h, h1⟩ | h
  · rcases h.step t hk hB with ⟨_, _, h2, h3⟩ | ⟨h2, h3, _, h4, h5, h6⟩
    · rcases h2 with h2 | ⟨_, h2⟩
      · refine .inl ⟨i + 1, h2, .inl ?_⟩
        rcases h1 with h1 | ⟨h1, h9⟩
        · omega
        · rcases h3 with h3 | h3
          · rw [h1] at h3; cases h3
          · rw [h3] at h9; exact absurd h9 (by decide)
      · exact .inr h2
    · exact .inl ⟨i, h4, .inr ⟨h5, by rw [h6]; exact h3⟩⟩
  · rw [rstep_done h.dn]; exact .inr h
theorem RWait.end (t : Tree c l ss) (hm : rfarN l ≤ m) (h : RWait l ss k th B m st) : (∃ i, RInv l ss k th B i st ∧ st.look = false ∧ (atL B st.x.n.slot).2 = 2) ∨ RDone l k B st := by
  rcases h with ⟨i, h, h1 | h1⟩ | h
  · have := h.few t; omega
  · exact .inl ⟨i, h, h1⟩
  · exact .inr h
def onWay (k : Str) (s : Int) (ss : List Seat) : Bool := ss.any fun y => decide (y.n.slot = s) && y.s.has k
def shutN (n : Nat) (s : Int) : Lat := (List.replicate n ([], 0)).set s.toNat ([1], 2)
variable {n : Nat} {s : Int}
theorem shut_in (hn : l.length ≤ n) (hs : 0 ≤ s ∧ s < l.length) : inL (List.replicate n (([] : List Int), (0 : Int))) s := by
  unfold inL; rw [List.length_replicate]; omega
theorem shut_at (hn : l.length ≤ n) (hs : 0 ≤ s ∧ s < l.length) {a : Int} (ha : 0 ≤ a) : atL (shutN n s) a = if a = s then ([1], 2) else ([], 0) := by
  unfold shutN
  split
  · rename_i e; subst e; exact atL_set (shut_in hn hs)
  · rename_i e; rw [atL_ne ha hs.1 e]; exact free_at
theorem base_shut (hn : l.length ≤ n) (hs : 0 ≤ s ∧ s < l.length) : BaseOk l 0 (shutN n s) := by
  refine ⟨by unfold shutN; rw [List.length_set, List.length_replicate]; exact hn, by omega, fun p hp => ?_, fun a ha _ => ?_⟩
  · rcases List.mem_or_eq_of_mem_set hp with h9 | h9
    · rw [(List.mem_replicate.1 h9).2]; exact List.not_mem_nil
    · rw [h9]; decide
  · rw [shut_at hn hs ha]
    split
    · exact .inr ⟨rfl, by decide⟩
    · exact .inl rfl
theorem take_firstL (hn : l.length ≤ n) (hs : 0 ≤ s ∧ s < l.length) : htakeN (List.replicate n ([], 0)) 1 s true = (true, shutN n s) := by
  have hi := shut_in hn hs
  have h0 : (List.replicate n (([] : List Int), (0 : Int)))[s.toNat]'(inL_lt hi) = ([], 0) := List.getElem_replicate ..
  have h2 : lhasN (List.replicate n ([], 0)) 1 s = false := by rw [(lhas_at hi).1, h0]; simp
  rw [htake_f (by intro h9; rw [h2] at h9; exact absurd h9.1 (by decide)), if_pos rfl, take_0 (by omega) hi (by rw [h0]; simp) (by rw [h0]; simp), h0]
  rfl
theorem any_way (t : Tree c l ss) {y : Seat} (hy : y ∈ ss) (hk : y.s.has k = true) (hs : y.n.slot = s) : onWay k s ss = true :=
  List.any_eq_true.2 ⟨y, hy, by rw [hk, decide_eq_true hs]; rfl⟩
theorem RWait.both (t : Tree c l ss) (hn : l.length ≤ n) (hs : 0 ≤ s ∧ s < l.length) (hm : rfarN l ≤ m) (h : RWait l ss k 0 (shutN n s) m st) :
    (onWay k s ss = true ∧ st.dn = false ∧ st.look = false ∧ (atL (shutN n s) st.x.n.slot).2 = 2 ∧ ∃ i, RInv l ss k 0 (shutN n s) i st) ∨ (onWay k s ss = false ∧ st.dn = true ∧ RDone l k (shutN n s) st) := by
  rcases h.end t hm with ⟨i, h1, h2, h3⟩ | h1
  · refine .inl ⟨any_way t h1.rp.mem h1.rp.has ?_, h1.dn, h2, h3, i, h1⟩
    rw [shut_at hn hs (t.nd h1.rp.mem).1.1] at h3
    split at h3
    · assumption
    · exact absurd h3 (by decide)
  · refine .inr ⟨?_, h1.dn, h1⟩
    apply Bool.eq_false_iff.2
    intro h9
    obtain ⟨y, hy, h8⟩ := List.any_eq_true.1 h9
    rw [Bool.and_eq_true, decide_eq_true_eq] at h8
    have h7 := h1.way y (by rw [← t.way k]; exact List.mem_filter.2 ⟨hy, h8.2⟩)
    rw [h8.1, shut_at hn hs hs.1, if_pos rfl] at h7
    exact absurd h7 (by decide)
theorem RInv.stay (t : Tree c l ss) (hk : k.b.size < 140737488355328) (hB : BaseOk l th B) (h : RInv l ss k th B i st) (h1 : st.look = false) (h2 : (atL B st.x.n.slot).2 = 2) :
    (rstepN l k th st).1 = false ∧ RInv l ss k th B i (rstepN l k th st).2 ∧ (rstepN l k th st).2.look = false := by
  rcases h.step t hk hB with ⟨_, _, _, h3⟩ | ⟨_, _, h3, h4, h5, _⟩
  · rcases h3 with h3 | h3
    · rw [h1] at h3; cases h3
    · rw [h3] at h2; exact absurd h2 (by decide)
  · exact ⟨h3, h4, h5⟩
def letW (st : RSt) : RSt := ⟨st.fr, st.x, st.look, st.L, st.pt, st.dn, st.most, ldropN st.W 1⟩
theorem none1 {a : Int} : ∀ p ∈ (List.replicate n (([] : List Int), (0 : Int))).set a.toNat ([0], 1), (1 : Int) ∉ p.1 := fun p hp => by
  rcases List.mem_or_eq_of_mem_set hp with h9 | h9
  · rw [(List.mem_replicate.1 h9).2]; exact List.not_mem_nil
  · rw [h9]; decide
theorem drop_shut (hn : l.length ≤ n) (hs : 0 ≤ s ∧ s < l.length) : ldropN (shutN n s) 1 = List.replicate n ([], 0) :=
  drop_one (fun p hp => by rw [(List.mem_replicate.1 hp).2]; exact List.not_mem_nil) (shut_in hn hs) free_at
theorem RInv.free (t : Tree c l ss) (hn : l.length ≤ n) (hs : 0 ≤ s ∧ s < l.length) (h : RInv l ss k 0 (shutN n s) i st) (h1 : st.look = false) : RInv l ss k 0 (List.replicate n ([], 0)) i (letW st) := by
  obtain ⟨fr, x, look, L, pt, dn, most, W⟩ := st
  obtain ⟨hd, hm, hr, hi, ⟨P, lv, hA, hP⟩, hh⟩ := h
  dsimp only at h1 hd hm hr hi hA hh
  subst h1
  rw [if_neg (by decide)] at hh
  refine ⟨hd, hm, hr, hi, ⟨P, lv, hA, fun y _ => free_at⟩, ?_⟩
  show (fr = -1 ∧ L = [] ∧ ldropN W 1 = _) ∨ _ ∧ _ ∧ ldropN W 1 = _ ∧ _
  rcases hh with ⟨e1, e2, e3⟩ | ⟨e1, e2, e3, e4⟩
  · exact .inl ⟨e1, e2, by rw [e3]; exact drop_shut hn hs⟩
  · refine .inr ⟨e1, free_at, ?_, e4⟩
    have hne : fr ≠ s := by
      intro e9
      rw [shut_at hn hs e1.1, if_pos e9] at e2
      exact absurd e2 (by decide)
    rw [e3]
    unfold shutN
    rw [List.set_comm _ _ (by have := e1.1; omega)]
    exact drop_one none1 (inL_set.2 (shut_in hn hs)) ((atL_ne hs.1 e1.1 (Ne.symm hne)).trans free_at)
theorem RDone.free (hn : l.length ≤ n) (hs : 0 ≤ s ∧ s < l.length) (h : RDone l k (shutN n s) st) : RDone l k (List.replicate n ([], 0)) (letW st) :=
  ⟨h.dn, h.most, by show ldropN st.W 1 = _; rw [h.W]; exact drop_shut hn hs, fun y _ => free_at⟩
theorem RWait.done (t : Tree c l ss) (hm : rfarN l ≤ m) (h : RWait l ss k th (List.replicate n ([], 0)) m st) : RDone l k (List.replicate n ([], 0)) st := by
  rcases h.end t hm with ⟨i, _, _, h9⟩ | h1
  · rw [free_at] at h9; exact absurd h9 (by decide)
  · exact h1
theorem which9L {n : Nat} {m : Int} (hn : 1 ≤ n) : ∃ i : Int, Int.tmod (IntKind.u64.wrap m) (n : Int) = i ∧ 0 ≤ i ∧ i < n := by
  have h0 : 0 ≤ IntKind.u64.wrap m := by
    show 0 ≤ Int.emod m _
    exact Int.emod_nonneg _ (by decide)
  rw [Int.tmod_eq_emod_of_nonneg h0]
  have h1 := Int.emod_nonneg (IntKind.u64.wrap m) (b := (n : Int)) (by omega)
  have h2 := Int.emod_lt_of_pos (IntKind.u64.wrap m) (b := (n : Int)) (by omega)
  exact ⟨_, rfl, h1, h2⟩
theorem way_succ {j : Nat} (hj : j < ss.length) : onWay k s (ss.take (j + 1)) = (onWay k s (ss.take j) || (decide (ss[j].n.slot = s) && ss[j].s.has k)) := by
  unfold onWay
  rw [List.take_succ_eq_append_getElem hj, List.any_append]
  simp
end
end Go.Fw
namespace Go.Proofs.YtgmnljhiojdigaaGreat
open Go Go.Fw Go.RowKit
attribute [local irreducible] Ok W WC
theorem readerWaits_fc {G : GH} (cfan : Int) (cleaf : Int) (cbud : Int) (cslots : Int) (crest : Int) {v_l : Value} {l : List Nd} (h_l : SlR eNode G v_l l) (k : Str) (x : Int) :
    Fc Tryz.prog 3 [.agg #[iV cfan, iV cleaf, iV cbud, iV cslots, iV crest], v_l, sV k.b, iV x] G [] (fun v _ _ => v = .bool (true)) := by
 obtain ⟨sa_l, sc_l, rfl⟩ := h_l.form
 have hl := h_l.len47
 have hkle := k.le
 refine Fc.go [.tmp 8] Tryz.func3 Tryz.ntmps3 rfl (fun w0 => (g9 2 ?_))
 refine W.box (L := [iV _, iV _, iV _, iV _, iV _]) rfl rfl (fun b1 => (g9 8 ?_))
 refine W.qcall (tree_fc _ _ _ _ _ h_l _ om9) rfl (g9 2 ?_)
 refine W.sp 23 rfl (fun h22 => ?_) (fun h22 => ?_)
 ·refine g9 9 ?_
  refine W.qcall (awake34_fc) rfl (g9 6 ?_)
  rfl
 have q2 := tree_of (c := (⟨cfan, cleaf, cbud, cslots, crest⟩ : Cfg)) (by simpa using h22) om9
 refine match q2 with | ⟨ss, t⟩ => ?_
 have hS := t.sml
 have hl100 := hS.1
 refine g9 9 ?_
 refine WC.cd (fun h26 p26 => ?_) (fun h26 p26 => ?_)
 ·try dsimp only at p26
  refine g9 2 ?_
  refine W.qcall (awake34_fc) rfl (g9 6 ?_)
  rfl
 try dsimp only at p26
 refine g9 6 ?_
 refine W.call (Mp := []) (Mr := ((b1, ce9 23 [iV cfan, iV cleaf, iV cbud, iV cslots, iV crest]) :: [])) (kload_fc cfan cleaf cbud cslots crest h_l ss t [0, 1] ⟨fun x hx => by simp at hx; rcases hx with rfl | rfl <;> exact ⟨by decide, by decide⟩, by simp⟩) rfl pr9 ?_
 intro v6 G3 Ms5 hG3 q4
 refine match q4 with | ⟨b_c, b_s, b_t, b_m, wt, e_7, hK9⟩ => ?_
 subst e_7
 have hlc9 : l.length ≤ cslots.toNat := hK9.few
 have hto9 := t.top
 have hfa9 := far_eq t
 have hhe9 := t.height
 have hlz9 := t.lvl t.root
 have hpo9 := t.pos
 refine W.perm (M' := ((b1, ce9 23 [iV cfan, iV cleaf, iV cbud, iV cslots, iV crest]) :: (Ms5 ++ []))) (pmC pr9).symm (g9 10 ?_)
 refine W.ok (ok_convW un3 un31 rfl) (g9 2 ?_)
 refine W.ok (ok_convU un3 un31 rfl om9) (W.ok (ok_rem rfl rfl om9) ?_)
 have q8 := which9L (n := l.length) (m := x) om9
 refine match q8 with | ⟨s9, hI8, hsn9⟩ => ?_
 refine W.ok (Ok.to9 (v' := iV s9) (ok_convI un31 un3 rfl (by rw [hI8]; omega)) (congrArg (Value.int .i64) hI8)) (g9 12 ?_)
 refine W.call (Mp := Ms5) (Mr := ((b1, ce9 23 [iV cfan, iV cleaf, iV cbud, iV cslots, iV crest]) :: [])) (khand_fc hK9 1 (by decide) rfl) rfl (pmC pr9) ?_
 intro v13 G10 Ms12 hG10 q11
 refine match q11 with | ⟨b_1, Ms_u9, e_14, e_15, hK_u9⟩ => ?_
 subst e_14
 subst e_15
 refine W.perm (M' := ((b1, ce9 23 [iV cfan, iV cleaf, iV cbud, iV cslots, iV crest]) :: ((b_1, ce9 79 [pt9 b_c, iV 1, .pointer none, iV 0]) :: (Ms_u9 ++ [])))) (((pmC pr9).cons _).trans ((List.Perm.swap _ _ _).trans (pr9.cons _))).symm (g9 3 ?_)
 have hE9 := take_firstL (l := l) (s := s9) hlc9 hsn9
 refine W.call (Mp := ((b_1, ce9 79 [pt9 b_c, iV 1, .pointer none, iV 0]) :: Ms_u9)) (Mr := ((b1, ce9 23 [iV cfan, iV cleaf, iV cbud, iV cslots, iV crest]) :: [])) (ktake_fc hK_u9 s9 true (by simp)) rfl (((pmC pr9).cons _).trans ((List.Perm.swap _ _ _).trans (pr9.cons _))) ?_
 intro v20 G17 Ms19 hG17 q18
 refine match q18 with | ⟨w_u16, m_u16, Ms_u16, e_21, e_22, hK_u16⟩ => ?_
 subst e_21
 subst e_22
 rw [hE9] at hK_u16
 refine W.perm (M' := ((b1, ce9 23 [iV cfan, iV cleaf, iV cbud, iV cslots, iV crest]) :: ((b_1, ce9 79 [pt9 b_c, iV 1, .pointer w_u16, iV m_u16]) :: (Ms_u16 ++ [])))) (((pmC pr9).cons _).trans ((List.Perm.swap _ _ _).trans (pr9.cons _))).symm (g9 5 ?_)
 refine WC.cond rfl (fun h49 => ?_) (fun h49 => ?_)
 ·rw [hE9] at h49; exact Bool.noConfusion h49
 refine g9 10 ?_
 refine W.call (Mp := []) (seats_fc (h_l.mono lec) _ (by assumption)) rfl pr9 ?_
 intro v25 G23 _ hG23 q24
 have q26 := q24.1
 subst q26
 have q27 := q24.2
 refine Or.elim q27 (fun q28 => ?_) (fun q29 => ?_)
 ·refine match q28 with | ⟨u_s30, ssq, hssq, e_31, hv_s30, hqsq⟩ => ?_
  subst e_31
  have q33 := hv_s30.form
  refine match q33 with | ⟨sa_s30, sc_s30, e_32⟩ => ?_
  subst e_32
  have e9 : ss = ssq := Option.some.inj (t.sts.symm.trans hssq)
  subst e9
  have hss47q := hv_s30.len47
  refine g9 16 ?_
  refine WC.loop (X := Nat × Bool) (fun x => [(11, .bool x.2), (58, nt9 x.1), (9, pt9 b_c), (1, lV sa_l l.length sc_l), (2, sV k.b), (3, iV s9), (56, lV sa_s30 ss.length sc_s30), (57, nt9 ((ss).length))]) (fun x _ Ml => Ml = ((b1, ce9 23 [iV cfan, iV cleaf, iV cbud, iV cslots, iV crest]) :: ((b_1, ce9 79 [pt9 b_c, iV 1, .pointer w_u16, iV m_u16]) :: (Ms_u16 ++ []))) ∧ x.1 ≤ ss.length ∧ x.2 = onWay k s9 (ss.take x.1)) (fun x => ss.length - x.1) ((0, false) : Nat × Bool) hs9 ?_ ?_
  ·exact ⟨rfl, Nat.zero_le _, rfl⟩
  rintro ⟨j, b⟩ gG34 G34 _ hG34 ⟨rfl, hj, hb⟩
  refine WC.fr (f := setL gG34 [(11, .bool b), (58, nt9 j), (9, pt9 b_c), (1, lV sa_l l.length sc_l), (2, sV k.b), (3, iV s9), (56, lV sa_s30 ss.length sc_s30), (57, nt9 ((ss).length))]) rfl (g9 6 ?_)
  refine WC.cd (fun h59 p59 => ?_) (fun h59 p59 => ?_)
  ·try dsimp only at p59
   refine g9 6 ?_
   have q38 := (hv_s30.mono hG34).at (i := j) om9
   refine match q38 with | ⟨_, he35, ⟨_, _, _, _, _, _, _, _, qa_t36, qc_t36, e_37, hp_t36, hk_t36, hm_t36, hr_t36, hq_t36, hok_t36⟩⟩ => ?_
   subst e_37
   refine g9 2 ?_
   refine W.alloc zr47 (fun b39 => (g9 6 ?_))
   refine W.sp 63 rfl (fun hwy => ?_) (fun hwy => ?_)
   ·refine g9 16 ?_
    refine WC.sub (sr9.cons _) (g9 5 ?_)
    exact ⟨Le.rfl, ((j + 1, true) : Nat × Bool), hs9, ⟨rfl, by dsimp only; omega, by dsimp only; rw [way_succ om9, ← hb, hwy]; rfl⟩, by dsimp only; omega⟩
   refine g9 12 ?_
   refine W.sd 69 (fun h68 p68 => ?_) (fun h68 p68 => ?_)
   ·try dsimp only at p68
    refine g9 7 ?_
    refine W.qcall (has_fc _ _ _ _) rfl (g9 7 ?_)
    refine WC.sub (sr9.cons _) (g9 5 ?_)
    exact ⟨Le.rfl, ((j + 1, ((ss[j]'om9).s.has k)) : Nat × Bool), hs9, ⟨rfl, by dsimp only; omega, by dsimp only; rw [way_succ om9, ← hb, hwy, decide_eq_true p68]; rfl⟩, by dsimp only; omega⟩
   try dsimp only at p68
   refine g9 11 ?_
   refine WC.sub (sr9.cons _) (g9 5 ?_)
   exact ⟨Le.rfl, ((j + 1, false) : Nat × Bool), hs9, ⟨rfl, by dsimp only; omega, by dsimp only; rw [way_succ om9, ← hb, hwy, decide_eq_false p68]; rfl⟩, by dsimp only; omega⟩
  try dsimp only at p59
  refine g9 6 ?_
  have hb2 : b = onWay k s9 ss := by have h9 := hb; dsimp only at h9; rw [List.take_of_length_le om9] at h9; exact h9
  refine g9 3 ?_
  refine W.call (Mp := Ms_u16) (knew_fc (CoR.mono lec hK_u16) t 0 k (by rw [getM_put, if_neg (by decide)]; rfl)) rfl (pmC (pmC pr9)) ?_
  intro v43 G40 Ms42 hG40 q41
  refine Or.elim q41 (fun q44 => ?_) (fun q45 => ?_)
  ·exact absurd q44.1 (by decide)
  refine match q45 with | ⟨hpos9, b_r, b_h, e_46, hR9⟩ => ?_
  subst e_46
  refine W.perm (pmC (pmC pr9)).symm (g9 7 ?_)
  refine (h_l.mono (((((hG3.trans hG10).trans hG17).trans hG23).trans hG34).trans hG40)).aN (i := 0) om9 (fun _ _ _ _ _ _ _ _ he47 hp_n48 hk_n48 hm_n48 hr_n48 hok_n48 => (W.ok (ok_indexAddr (i := 0) sl24 ty43 (h_l.mono lec) rfl rfl ⟨om9, om9⟩) (g9 3 ?_)))
  refine W.ok (ok_mul rfl rfl om9) (g9 5 ?_)
  refine WC.loop (X := (Nat × RSt) × MH) (fun x => [(87, nt9 x.1.1), (1, lV sa_l l.length sc_l), (2, sV k.b), (9, pt9 b_c), (11, .bool b), (86, iV ((((2) * (((((l)[0]).level) + (1))))) + (3))), (16, pt9 b_r)]) (fun x G Ml => Ml = ((b1, ce9 23 [iV cfan, iV cleaf, iV cbud, iV cslots, iV crest]) :: ((b_1, ce9 79 [pt9 b_c, iV 1, .pointer w_u16, iV m_u16]) :: (x.2 ++ []))) ∧ RdR 128 132 3 79 76 98 40 43 4 3 150 107 44 71 [0, 1] (⟨cfan, cleaf, cbud, cslots, crest⟩ : Cfg) k 0 l ss b_r b_h b_c b_t b_s b_m (putM (putM ([] : List (Int × Option Nat)) 1 (some b_1)) 0 (some b_h)) wt G (x.1.2) x.2 ∧ (x.1.1 : Int) ≤ 2 * ((rootS l 0).n.level + 1) + 3 ∧ RWait l ss k 0 (shutN cslots.toNat s9) x.1.1 x.1.2) (fun x => rfarN l + 3 - x.1.1) (((0, (⟨-1, rootS l 0, false, [], false, false, 0, (shutN cslots.toNat s9)⟩ : RSt)) : Nat × RSt), Ms42) hs9 ?_ ?_
  ·exact ⟨rfl, (by exact hR9), by dsimp only; omega, RWait.init t⟩
  rintro ⟨⟨m, st⟩, M_16⟩ gG51 G51 _ hG51 ⟨rfl, ho_16, hm, hI⟩
  try dsimp only at ho_16 hm hI
  refine WC.fr (f := setL gG51 [(87, nt9 m), (1, lV sa_l l.length sc_l), (2, sV k.b), (9, pt9 b_c), (11, .bool b), (86, iV ((((2) * (((((l)[0]).level) + (1))))) + (3))), (16, pt9 b_r)]) rfl (g9 6 ?_)
  refine WC.cd (fun h88 p88 => ?_) (fun h88 p88 => ?_)
  ·try dsimp only at p88
   refine g9 6 ?_
   refine W.call (Mp := M_16) (rstep_fc ho_16 t om9 (by simp)) rfl (pmC (pmC pr9)) ?_
   intro v55 G52 Ms54 hG52 q53
   refine match q53 with | ⟨e_57, hR56⟩ => ?_
   subst e_57
   refine W.perm (pmC (pmC pr9)).symm (g9 8 ?_)
   exact ⟨hG52, (((m + 1, (rstepN l k 0 st).2) : Nat × RSt), Ms54), hs9, ⟨rfl, (by exact hR56), by dsimp only; omega, RWait.step t om9 (base_shut hlc9 hsn9) hI⟩, by dsimp only; omega⟩
  try dsimp only at p88
  refine g9 7 ?_
  have hbo := RWait.both t hlc9 hsn9 om9 hI
  rw [← hb2] at hbo
  refine g9 2 ?_
  refine W.call (Mp := M_16) (rdone_fc ho_16) rfl (pmC (pmC pr9)) ?_
  intro v61 G58 Ms60 hG58 q59
  refine match q59 with | ⟨e_63, hR62⟩ => ?_
  subst e_63
  refine W.perm (pmC (pmC pr9)).symm (W.mv (W.ok (ok_eqlB bo4 rfl rfl) (W.mv ?_)))
  refine W.sp 96 rfl (fun h95 => ?_) (fun h95 => ?_)
  ·exfalso
   rcases hbo with ⟨h1, h2, _⟩ | ⟨h1, h2, _⟩ <;> (rw [h1, h2] at h95; exact Bool.noConfusion h95)
  refine g9 4 ?_
  refine W.sp 98 rfl (fun hwy => ?_) (fun hwy => ?_)
  ·refine g9 3 ?_
   have q64 := hbo.resolve_right (fun h9 => by rw [h9.1] at hwy; cases hwy)
   refine match q64 with | ⟨_, hx1, hx2, hx3, i, hx4⟩ => ?_
   have q65 := hx4.stay t om9 (base_shut hlc9 hsn9) hx2 hx3
   refine match q65 with | ⟨hy1, hy2, hy3⟩ => ?_
   refine W.call (Mp := Ms60) (rstep_fc hR62 t om9 (by simp)) rfl (pmC (pmC pr9)) ?_
   intro v69 G66 Ms68 hG66 q67
   refine match q67 with | ⟨e_71, hR70⟩ => ?_
   subst e_71
   refine W.perm (pmC (pmC pr9)).symm (g9 5 ?_)
   refine WC.cond rfl (fun h100 => ?_) (fun h100 => ?_)
   ·rw [hy1] at h100; cases h100
   refine g9 3 ?_
   have hW0 : RWait l ss k 0 (List.replicate cslots.toNat ([], 0)) 0 (letW (rstepN l k 0 st).2) := .inl ⟨i, hy2.free t hlc9 hsn9 hy3, .inl (Nat.zero_le _)⟩
   refine g9 2 ?_
   refine W.call (Mp := Ms68) (rhand_fc hR70 1 b_1 (by decide) (by rw [getM_put, if_neg (by decide), getM_put, if_pos rfl])) rfl (pmC (pmC pr9)) ?_
   intro v75 G72 Ms74 hG72 q73
   refine match q73 with | ⟨e_77, hR76⟩ => ?_
   subst e_77
   refine W.perm (pmC (pmC pr9)).symm (W.call (Mp := ((b_1, ce9 79 [pt9 b_c, iV 1, .pointer w_u16, iV m_u16]) :: Ms74)) (Mr := ((b1, ce9 23 [iV cfan, iV cleaf, iV cbud, iV cslots, iV crest]) :: [])) (rlet1_fc hR76) rfl (((pmC pr9).cons _).trans ((List.Perm.swap _ _ _).trans (pr9.cons _))) ?_)
   intro v82 G79 Ms81 hG79 q80
   refine match q80 with | ⟨w_u78, Ms_u78, e_83, e_84, hK_u78⟩ => ?_
   subst e_83
   subst e_84
   replace hK_u78 := hK_u78.cast (st' := letW (rstepN l k 0 st).2) rfl
   refine W.perm (M' := ((b1, ce9 23 [iV cfan, iV cleaf, iV cbud, iV cslots, iV crest]) :: ((b_1, ce9 79 [pt9 b_c, iV 1, .pointer w_u78, iV m_u16]) :: (Ms_u78 ++ [])))) (((pmC pr9).cons _).trans ((List.Perm.swap _ _ _).trans (pr9.cons _))).symm (g9 6 ?_)
   refine (h_l.mono ((((((((((hG3.trans hG10).trans hG17).trans hG23).trans hG34).trans hG40).trans hG51).trans hG58).trans hG66).trans hG72).trans hG79)).aN (i := 0) om9 (fun _ _ _ _ _ _ _ _ he85 hp_n86 hk_n86 hm_n86 hr_n86 hok_n86 => (W.ok (ok_indexAddr (i := 0) sl24 ty43 (h_l.mono lec) rfl rfl ⟨om9, om9⟩) (g9 3 ?_)))
   refine W.ok (ok_mul rfl rfl om9) (g9 4 ?_)
   refine WC.loop (X := (Nat × RSt) × MH) (fun x => [(112, nt9 x.1.1), (1, lV sa_l l.length sc_l), (2, sV k.b), (9, pt9 b_c), (111, iV ((2) * (((((l)[0]).level) + (1))))), (16, pt9 b_r)]) (fun x G Ml => Ml = ((b1, ce9 23 [iV cfan, iV cleaf, iV cbud, iV cslots, iV crest]) :: ((b_1, ce9 79 [pt9 b_c, iV 1, .pointer w_u78, iV m_u16]) :: (x.2 ++ []))) ∧ RdR 128 132 3 79 76 98 40 43 4 3 150 107 44 71 [0, 1] (⟨cfan, cleaf, cbud, cslots, crest⟩ : Cfg) k 0 l ss b_r b_h b_c b_t b_s b_m (putM (putM ([] : List (Int × Option Nat)) 1 (some b_1)) 0 (some b_h)) wt G (x.1.2) x.2 ∧ (x.1.1 : Int) ≤ 2 * ((rootS l 0).n.level + 1) ∧ RWait l ss k 0 (List.replicate cslots.toNat ([], 0)) x.1.1 x.1.2) (fun x => rfarN l - x.1.1) (((0, letW (rstepN l k 0 st).2) : Nat × RSt), Ms_u78) hs9 ?_ ?_
   ·exact ⟨rfl, (by exact hK_u78), by dsimp only; omega, hW0⟩
   rintro ⟨⟨m, st⟩, M_16⟩ gG89 G89 _ hG89 ⟨rfl, ho_16, hm, hI⟩
   try dsimp only at ho_16 hm hI
   refine WC.fr (f := setL gG89 [(112, nt9 m), (1, lV sa_l l.length sc_l), (2, sV k.b), (9, pt9 b_c), (111, iV ((2) * (((((l)[0]).level) + (1))))), (16, pt9 b_r)]) rfl (g9 6 ?_)
   refine WC.cd (fun h113 p113 => ?_) (fun h113 p113 => ?_)
   ·try dsimp only at p113
    refine g9 6 ?_
    refine W.call (Mp := M_16) (rstep_fc ho_16 t om9 (by simp)) rfl (pmC (pmC pr9)) ?_
    intro v93 G90 Ms92 hG90 q91
    refine match q91 with | ⟨e_95, hR94⟩ => ?_
    subst e_95
    refine W.perm (pmC (pmC pr9)).symm (g9 8 ?_)
    exact ⟨hG90, (((m + 1, (rstepN l k 0 st).2) : Nat × RSt), Ms92), hs9, ⟨rfl, (by exact hR94), by dsimp only; omega, RWait.step t om9 (base_free hlc9 om9) hI⟩, by dsimp only; omega⟩
   try dsimp only at p113
   refine g9 6 ?_
   have hD7 := RWait.done t om9 hI
   have hdn9 := hD7.dn
   refine g9 2 ?_
   refine W.cS (map27_fc (h_l.mono lec) _ _ t) rfl (fun sa_hv97 sc_hv97 G96 hG96 hv97 => (W.mv (W.qcall (rget_fc hv97 _) rfl (g9 10 ?_))))
   refine W.call (Mp := M_16) (rdone_fc (RdR.mono hG96 ho_16)) rfl (pmC (pmC pr9)) ?_
   intro v106 G103 Ms105 hG103 q104
   refine match q104 with | ⟨e_108, hR107⟩ => ?_
   subst e_108
   refine W.perm (pmC (pmC pr9)).symm (W.mv ?_)
   refine W.sp 126 rfl (fun h125 => ?_) (fun h125 => ?_)
   ·refine g9 3 ?_
    refine W.call (Mp := Ms105) (Fc.mono (by have h9 := ransw_fc hR107; rw [hdn9] at h9; exact h9) (fun _ _ _ _ h9 => h9)) rfl (pmC (pmC pr9)) ?_
    intro v112 G109 Ms111 hG109 q110
    refine match q110 with | ⟨e_114, hR113⟩ => ?_
    subst e_114
    refine W.perm (pmC (pmC pr9)).symm (g9 5 ?_)
    refine W.ok (ok_build (L := [iV _, .bool _, sV _, lV _ _ _]) pl56 zr56 rfl rfl rfl) (g9 1 ?_)
    refine W.qcall ((ranssame_fc (show AnsC _ _ (⟨0, ((ransN l k true)).isSome, ((ransN l k true)).getD Str.nil, []⟩ : Ans) from ⟨_, _, rfl, SlR.nil, (⟨by decide, by decide⟩ : i64 0)⟩) (show AnsC _ _ (⟨0, ((getN (mapN l) k)).isSome, ((getN (mapN l) k)).getD Str.nil, []⟩ : Ans) from ⟨_, _, rfl, SlR.nil, (⟨by decide, by decide⟩ : i64 0)⟩)).mono (fun v _ _ _ hv => hv.trans (congrArg Value.bool (decide_eq_true rfl)))) rfl (g9 5 ?_)
    refine W.call (Mp := Ms111) (rholds_fc hR113) rfl (pmC (pmC pr9)) ?_
    intro v118 G115 Ms117 hG115 q116
    refine match q116 with | ⟨hv_hR119, hR119⟩ => ?_
    refine W.perm (pmC (pmC pr9)).symm ?_
    have hln_sa120 := hv_hR119.len47
    have q123 := hv_hR119.form
    refine match q123 with | ⟨sa120, sc121, e_122⟩ => ?_
    subst e_122
    refine g9 6 ?_
    refine W.sd 140 (fun h138 p138 => ?_) (fun h138 p138 => ?_)
    ·try dsimp only at p138
     refine g9 1 ?_
     refine W.qcall (awake34_fc) rfl (g9 6 ?_)
     rfl
    try dsimp only at p138
    exact absurd (by rw [hD7.W, pick_free]; rfl) p138
   rw [hdn9] at h125; cases h125
  refine g9 11 ?_
  have hW0 : RWait l ss k 0 (List.replicate cslots.toNat ([], 0)) 0 (letW st) := .inr ((hbo.resolve_left (fun h9 => by rw [h9.1] at hwy; cases hwy)).2.2.free hlc9 hsn9)
  refine g9 2 ?_
  refine W.call (Mp := Ms60) (rhand_fc hR62 1 b_1 (by decide) (by rw [getM_put, if_neg (by decide), getM_put, if_pos rfl])) rfl (pmC (pmC pr9)) ?_
  intro v127 G124 Ms126 hG124 q125
  refine match q125 with | ⟨e_129, hR128⟩ => ?_
  subst e_129
  refine W.perm (pmC (pmC pr9)).symm (W.call (Mp := ((b_1, ce9 79 [pt9 b_c, iV 1, .pointer w_u16, iV m_u16]) :: Ms126)) (Mr := ((b1, ce9 23 [iV cfan, iV cleaf, iV cbud, iV cslots, iV crest]) :: [])) (rlet1_fc hR128) rfl (((pmC pr9).cons _).trans ((List.Perm.swap _ _ _).trans (pr9.cons _))) ?_)
  intro v134 G131 Ms133 hG131 q132
  refine match q132 with | ⟨w_u130, Ms_u130, e_135, e_136, hK_u130⟩ => ?_
  subst e_135
  subst e_136
  replace hK_u130 := hK_u130.cast (st' := letW st) rfl
  refine W.perm (M' := ((b1, ce9 23 [iV cfan, iV cleaf, iV cbud, iV cslots, iV crest]) :: ((b_1, ce9 79 [pt9 b_c, iV 1, .pointer w_u130, iV m_u16]) :: (Ms_u130 ++ [])))) (((pmC pr9).cons _).trans ((List.Perm.swap _ _ _).trans (pr9.cons _))).symm (g9 6 ?_)
  refine (h_l.mono (((((((((hG3.trans hG10).trans hG17).trans hG23).trans hG34).trans hG40).trans hG51).trans hG58).trans hG124).trans hG131)).aN (i := 0) om9 (fun _ _ _ _ _ _ _ _ he137 hp_n138 hk_n138 hm_n138 hr_n138 hok_n138 => (W.ok (ok_indexAddr (i := 0) sl24 ty43 (h_l.mono lec) rfl rfl ⟨om9, om9⟩) (g9 3 ?_)))
  refine W.ok (ok_mul rfl rfl om9) (g9 4 ?_)
  refine WC.loop (X := (Nat × RSt) × MH) (fun x => [(112, nt9 x.1.1), (1, lV sa_l l.length sc_l), (2, sV k.b), (9, pt9 b_c), (111, iV ((2) * (((((l)[0]).level) + (1))))), (16, pt9 b_r)]) (fun x G Ml => Ml = ((b1, ce9 23 [iV cfan, iV cleaf, iV cbud, iV cslots, iV crest]) :: ((b_1, ce9 79 [pt9 b_c, iV 1, .pointer w_u130, iV m_u16]) :: (x.2 ++ []))) ∧ RdR 128 132 3 79 76 98 40 43 4 3 150 107 44 71 [0, 1] (⟨cfan, cleaf, cbud, cslots, crest⟩ : Cfg) k 0 l ss b_r b_h b_c b_t b_s b_m (putM (putM ([] : List (Int × Option Nat)) 1 (some b_1)) 0 (some b_h)) wt G (x.1.2) x.2 ∧ (x.1.1 : Int) ≤ 2 * ((rootS l 0).n.level + 1) ∧ RWait l ss k 0 (List.replicate cslots.toNat ([], 0)) x.1.1 x.1.2) (fun x => rfarN l - x.1.1) (((0, letW st) : Nat × RSt), Ms_u130) hs9 ?_ ?_
  ·exact ⟨rfl, (by exact hK_u130), by dsimp only; omega, hW0⟩
  rintro ⟨⟨m, st⟩, M_16⟩ gG141 G141 _ hG141 ⟨rfl, ho_16, hm, hI⟩
  try dsimp only at ho_16 hm hI
  refine WC.fr (f := setL gG141 [(112, nt9 m), (1, lV sa_l l.length sc_l), (2, sV k.b), (9, pt9 b_c), (111, iV ((2) * (((((l)[0]).level) + (1))))), (16, pt9 b_r)]) rfl (g9 6 ?_)
  refine WC.cd (fun h113 p113 => ?_) (fun h113 p113 => ?_)
  ·try dsimp only at p113
   refine g9 6 ?_
   refine W.call (Mp := M_16) (rstep_fc ho_16 t om9 (by simp)) rfl (pmC (pmC pr9)) ?_
   intro v145 G142 Ms144 hG142 q143
   refine match q143 with | ⟨e_147, hR146⟩ => ?_
   subst e_147
   refine W.perm (pmC (pmC pr9)).symm (g9 8 ?_)
   exact ⟨hG142, (((m + 1, (rstepN l k 0 st).2) : Nat × RSt), Ms144), hs9, ⟨rfl, (by exact hR146), by dsimp only; omega, RWait.step t om9 (base_free hlc9 om9) hI⟩, by dsimp only; omega⟩
  try dsimp only at p113
  refine g9 6 ?_
  have hD7 := RWait.done t om9 hI
  have hdn9 := hD7.dn
  refine g9 2 ?_
  refine W.cS (map27_fc (h_l.mono lec) _ _ t) rfl (fun sa_hv149 sc_hv149 G148 hG148 hv149 => (W.mv (W.qcall (rget_fc hv149 _) rfl (g9 10 ?_))))
  refine W.call (Mp := M_16) (rdone_fc (RdR.mono hG148 ho_16)) rfl (pmC (pmC pr9)) ?_
  intro v158 G155 Ms157 hG155 q156
  refine match q156 with | ⟨e_160, hR159⟩ => ?_
  subst e_160
  refine W.perm (pmC (pmC pr9)).symm (W.mv ?_)
  refine W.sp 126 rfl (fun h125 => ?_) (fun h125 => ?_)
  ·refine g9 3 ?_
   refine W.call (Mp := Ms157) (Fc.mono (by have h9 := ransw_fc hR159; rw [hdn9] at h9; exact h9) (fun _ _ _ _ h9 => h9)) rfl (pmC (pmC pr9)) ?_
   intro v164 G161 Ms163 hG161 q162
   refine match q162 with | ⟨e_166, hR165⟩ => ?_
   subst e_166
   refine W.perm (pmC (pmC pr9)).symm (g9 5 ?_)
   refine W.ok (ok_build (L := [iV _, .bool _, sV _, lV _ _ _]) pl56 zr56 rfl rfl rfl) (g9 1 ?_)
   refine W.qcall ((ranssame_fc (show AnsC _ _ (⟨0, ((ransN l k true)).isSome, ((ransN l k true)).getD Str.nil, []⟩ : Ans) from ⟨_, _, rfl, SlR.nil, (⟨by decide, by decide⟩ : i64 0)⟩) (show AnsC _ _ (⟨0, ((getN (mapN l) k)).isSome, ((getN (mapN l) k)).getD Str.nil, []⟩ : Ans) from ⟨_, _, rfl, SlR.nil, (⟨by decide, by decide⟩ : i64 0)⟩)).mono (fun v _ _ _ hv => hv.trans (congrArg Value.bool (decide_eq_true rfl)))) rfl (g9 5 ?_)
   refine W.call (Mp := Ms163) (rholds_fc hR165) rfl (pmC (pmC pr9)) ?_
   intro v170 G167 Ms169 hG167 q168
   refine match q168 with | ⟨hv_hR171, hR171⟩ => ?_
   refine W.perm (pmC (pmC pr9)).symm ?_
   have hln_sa172 := hv_hR171.len47
   have q175 := hv_hR171.form
   refine match q175 with | ⟨sa172, sc173, e_174⟩ => ?_
   subst e_174
   refine g9 6 ?_
   refine W.sd 140 (fun h138 p138 => ?_) (fun h138 p138 => ?_)
   ·try dsimp only at p138
    refine g9 1 ?_
    refine W.qcall (awake34_fc) rfl (g9 6 ?_)
    rfl
   try dsimp only at p138
   exact absurd (by rw [hD7.W, pick_free]; rfl) p138
  rw [hdn9] at h125; cases h125
 exact absurd (t.sts.symm.trans (by obtain ⟨_, _, h0, _⟩ := q29; exact h0)) (by simp)

end Go.Proofs.YtgmnljhiojdigaaGreat
