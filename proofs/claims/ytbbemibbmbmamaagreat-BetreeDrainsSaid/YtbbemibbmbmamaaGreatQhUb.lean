/- Walks of functions that tell whether a node may be. -/
import Derived.Test.YtbbemibbmbmamaaGreatQhOn
set_option maxRecDepth 100000
set_option maxHeartbeats 1600000
set_option linter.unusedVariables false
set_option linter.unusedSimpArgs false
set_option linter.unnecessarySimpa false
namespace Go.Proofs.YtbbemibbmbmamaaGreat
open Go Go.Fw Go.RowKit
attribute [local irreducible] Ok W WC
theorem Zj0 {G : GH} {cs_a : List Value} {a : Nd} (h_a : NodeC G cs_a a) (k : Str) :
    Fc Tryz.prog 154 [.agg (List.toArray cs_a), sV k.b] G [] (fun v _ _ => v = .bool (a.top || k.lt a.high)) := by
 obtain ⟨_, _, _, _, _, _, _, _, rfl, hp_a, hk_a, hm_a, hr_a, hok_a⟩ := h_a
 refine Fc.go [.tmp 4] Tryz.func154 Tryz.ntmps154 rfl (fun w0 => (g9 2 ?_))
 refine W.box (L := [iV _, iV _, lV _ _ _, lV _ _ _, sV _, .bool _, iV _, iV _, lV _ _ _, lV _ _ _]) rfl rfl (fun b1 => (g9 8 ?_))
 refine W.sp 7 rfl (fun hb_top_a => ?_) (fun hb_top_a => ?_)
 ·refine g9 10 ?_
  refine congrArg Value.bool ?_
  simp_all
 refine g9 7 ?_
 refine W.qcall (Zah _ _) rfl (g9 6 ?_)
 refine congrArg Value.bool ?_
 simp_all

theorem Zj1 {G : GH} (cf : Int) (cl : Int) (cb : Int) (cs : Int) (cr : Int) {cs_n : List Value} {n : Nd} (h_n : NodeC G cs_n n) :
    Fc Tryz.prog 108 [.agg #[iV cf, iV cl, iV cb, iV cs, iV cr], .agg (List.toArray cs_n)] G [] (fun v _ _ => v = .bool (decide (n.leafR cl))) := by
 obtain ⟨pa_n, pc_n, ka_n, kc_n, ma_n, mc_n, ra_n, rc_n, rfl, hp_n, hk_n, hm_n, hr_n, hok_n⟩ := h_n
 have h1 := hp_n.len47
 have h2 := hk_n.len47
 have h3 := hm_n.len47
 have h4 := hr_n.len47
 refine Fc.go [.tmp 4] Tryz.func108 Tryz.ntmps108 rfl (fun w0 => (g9 2 ?_))
 refine W.box (L := [iV _, iV _, iV _, iV _, iV _]) rfl rfl (fun b2 => (W.box (L := [iV _, iV _, lV _ _ _, lV _ _ _, sV _, .bool _, iV _, iV _, lV _ _ _, lV _ _ _]) rfl rfl (fun b3 => (g9 19 ?_))))
 refine W.sd 18 (fun h17 p17 => ?_) (fun h17 p17 => ?_)
 ·refine g9 24 ?_
  refine congrArg Value.bool ?_
  exact (decide_eq_false fun h => by obtain ⟨q1, q2, q3, q4⟩ := h; omega).symm
 refine g9 14 ?_
 refine W.sd 26 (fun h24 p24 => ?_) (fun h24 p24 => ?_)
 ·refine g9 16 ?_
  refine congrArg Value.bool ?_
  exact (decide_eq_false fun h => by obtain ⟨q1, q2, q3, q4⟩ := h; omega).symm
 refine g9 5 ?_
 refine W.qcall (ZoX hr_n) rfl (g9 5 ?_)
 refine WC.cond rfl (fun h30 => ?_) (fun h30 => ?_)
 ·refine g9 8 ?_
  refine congrArg Value.bool ?_
  exact (decide_eq_false fun h => by obtain ⟨q1, q2, q3, q4⟩ := h; simp [q3] at h30).symm
 refine g9 9 ?_
 refine WC.loop (X := Nat) (fun k => [(5, nt9 k), (2, pt9 b2), (3, pt9 b3)]) (fun k _ Ml => Ml = [(b3, ce9 60 (ndl n pa_n pc_n ka_n kc_n ma_n mc_n ra_n rc_n)), (b2, ce9 23 [iV cf, iV cl, iV cb, iV cs, iV cr])] ∧ ∀ i (h : i < n.rows.length), i < k → n.has n.rows[i].key = true) (fun k => n.rows.length - k) 0 hs9 ?_ ?_
 ·exact ⟨rfl, fun i _ h => by omega⟩
 rintro k gG4 G4 _ hG4 ⟨rfl, hk⟩
 refine g9 10 ?_
 refine WC.cd (fun h36 p36 => ?_) (fun h36 p36 => ?_)
 ·refine g9 10 ?_
  refine (hr_n.mono hG4).a1 (i := k) om9 (fun he5 => (g9 3 ?_))
  refine W.qcall (Zj0 (nm9 hG4 hp_n hk_n hm_n hr_n hok_n) _) rfl (g9 3 ?_)
  refine WC.cond rfl (fun h47 => ?_) (fun h47 => ?_)
  ·refine g9 12 ?_
   refine congrArg Value.bool ?_
   exact (decide_eq_false fun h => by obtain ⟨q1, q2, q3, q4⟩ := h; have := q4 k om9; simp_all [Nd.has]).symm
  refine g9 9 ?_
  exact ⟨Le.rfl, k + 1, hs9, ⟨rfl, fun i h hi => by
      by_cases e : i = k
      · subst e; have h1 := h47; show (n.top || _) = true; cases ht : n.top <;> simp_all
      · exact hk i h om9⟩, om9⟩
 refine g9 12 ?_
 refine congrArg Value.bool ?_
 exact (decide_eq_true ⟨om9, om9, by simpa using h30, fun i h => hk i h om9⟩).symm

theorem Zj2 {G : GH} (cf : Int) (cl : Int) (cb : Int) (cs : Int) (cr : Int) {cs_n : List Value} {n : Nd} (h_n : NodeC G cs_n n) :
    Fc Tryz.prog 109 [.agg #[iV cf, iV cl, iV cb, iV cs, iV cr], .agg (List.toArray cs_n)] G [] (fun v _ _ => v = .bool (decide (n.innerR cf cb))) := by
 obtain ⟨pa_n, pc_n, ka_n, kc_n, ma_n, mc_n, ra_n, rc_n, rfl, hp_n, hk_n, hm_n, hr_n, hok_n⟩ := h_n
 have h1 := hp_n.len47
 have h2 := hk_n.len47
 have h3 := hm_n.len47
 have h4 := hr_n.len47
 refine Fc.go [.tmp 4] Tryz.func109 Tryz.ntmps109 rfl (fun w0 => (g9 2 ?_))
 refine W.box (L := [iV _, iV _, iV _, iV _, iV _]) rfl rfl (fun b8 => (W.box (L := [iV _, iV _, lV _ _ _, lV _ _ _, sV _, .bool _, iV _, iV _, lV _ _ _, lV _ _ _]) rfl rfl (fun b9 => (g9 11 ?_))))
 refine W.sd 13 (fun h12 p12 => ?_) (fun h12 p12 => ?_)
 ·refine g9 46 ?_
  refine congrArg Value.bool ?_
  exact (decide_eq_false fun h => by obtain ⟨⟨q1, q2, q3⟩, q4, q5, q6, q7, q8, q9⟩ := h; omega).symm
 refine g9 10 ?_
 refine W.sd 19 (fun h17 p17 => ?_) (fun h17 p17 => ?_)
 ·refine g9 40 ?_
  refine congrArg Value.bool ?_
  exact (decide_eq_false fun h => by obtain ⟨⟨q1, q2, q3⟩, q4, q5, q6, q7, q8, q9⟩ := h; omega).symm
 refine g9 14 ?_
 refine W.sd 27 (fun h25 p25 => ?_) (fun h25 p25 => ?_)
 ·refine g9 32 ?_
  refine congrArg Value.bool ?_
  exact (decide_eq_false fun h => by obtain ⟨⟨q1, q2, q3⟩, q4, q5, q6, q7, q8, q9⟩ := h; omega).symm
 refine g9 9 ?_
 refine W.qcall (Zie hp_n hk_n) rfl (g9 4 ?_)
 refine W.sp 35 rfl (fun h33 => ?_) (fun h33 => ?_)
 ·refine g9 24 ?_
  refine congrArg Value.bool ?_
  exact (decide_eq_false fun h => by obtain ⟨⟨q1, q2, q3⟩, q4, q5, q6, q7, q8, q9⟩ := h; simp [q4] at h33).symm
 refine g9 5 ?_
 refine W.qcall (ZsJ hm_n) rfl (g9 4 ?_)
 refine W.sp 41 rfl (fun h39 => ?_) (fun h39 => ?_)
 ·refine g9 18 ?_
  refine congrArg Value.bool ?_
  exact (decide_eq_false fun h => by obtain ⟨⟨q1, q2, q3⟩, q4, q5, q6, q7, q8, q9⟩ := h; simp [q5] at h39).symm
 have hms : MsgsR n.msgs := by simpa using h39
 have hs := hms.sizes
 refine g9 5 ?_
 refine W.qcall (ZsK hm_n (by assumption)) rfl (g9 9 ?_)
 refine WC.cd (fun h47 p47 => ?_) (fun h47 p47 => ?_)
 ·refine g9 8 ?_
  refine congrArg Value.bool ?_
  exact (decide_eq_false fun h => by obtain ⟨⟨q1, q2, q3⟩, q4, q5, q6, q7, q8, q9⟩ := h; omega).symm
 refine g9 9 ?_
 refine WC.loop (X := Nat) (fun k => [(5, nt9 k), (2, pt9 b8), (3, pt9 b9)]) (fun k _ Ml => Ml = [(b9, ce9 60 (ndl n pa_n pc_n ka_n kc_n ma_n mc_n ra_n rc_n)), (b8, ce9 23 [iV cf, iV cl, iV cb, iV cs, iV cr])] ∧ ∀ i (h : i < n.kids.length), i < k → 0 ≤ n.kids[i]) (fun k => n.kids.length - k) 0 hs9 ?_ ?_
 ·exact ⟨rfl, fun i _ h => by omega⟩
 rintro k gG10 G10 _ hG10 ⟨rfl, hk1⟩
 refine g9 10 ?_
 refine WC.cond rfl (fun h53 => ?_) (fun h53 => ?_)
 ·have p53 := odt h53
  refine g9 9 ?_
  refine (hk_n.mono hG10).a2 (i := k) om9 (fun he11 hi12 => (g9 5 ?_))
  refine WC.cd (fun h61 p61 => ?_) (fun h61 p61 => ?_)
  ·refine g9 12 ?_
   refine congrArg Value.bool ?_
   exact (decide_eq_false fun h => by obtain ⟨⟨q1, q2, q3⟩, q4, q5, q6, q7, q8, q9⟩ := h; have := q7 k om9; omega).symm
  refine g9 9 ?_
  exact ⟨Le.rfl, k + 1, hs9, ⟨rfl, fun i h hi => by
      by_cases e : i = k
      · subst e; omega
      · exact hk1 i h om9⟩, om9⟩
 have p53 := odf h53
 refine g9 12 ?_
 refine WC.loop (X := Nat) (fun k => [(6, nt9 k), (2, pt9 b8), (3, pt9 b9)]) (fun k _ Ml => Ml = [(b9, ce9 60 (ndl n pa_n pc_n ka_n kc_n ma_n mc_n ra_n rc_n)), (b8, ce9 23 [iV cf, iV cl, iV cb, iV cs, iV cr])] ∧ ∀ i (h : i < n.pivots.length), i < k → n.parts n.pivots[i]) (fun k => n.pivots.length - k) 0 hs9 ?_ ?_
 ·exact ⟨rfl, fun i _ h => by omega⟩
 rintro k gG15 G15 _ hG15 ⟨rfl, hk2⟩
 refine g9 10 ?_
 refine WC.cond rfl (fun h66 => ?_) (fun h66 => ?_)
 ·have p66 := odt h66
  refine g9 9 ?_
  refine (hp_n.mono (hG10.trans hG15)).a1 (i := k) om9 (fun he16 => (g9 4 ?_))
  refine W.sd 75 (fun h74 p74 => ?_) (fun h74 p74 => ?_)
  ·refine g9 33 ?_
   refine congrArg Value.bool ?_
   exact (decide_eq_false fun h => by obtain ⟨⟨q1, q2, q3⟩, q4, q5, q6, q7, q8, q9⟩ := h; exact (q8 k om9).1 (Str.ext' p74)).symm
  refine g9 7 ?_
  refine (hp_n.mono (hG10.trans hG15)).a1 (i := k) om9 (fun he19 => (g9 9 ?_))
  refine W.sd 84 (fun h82 p82 => ?_) (fun h82 p82 => ?_)
  ·refine g9 24 ?_
   refine congrArg Value.bool ?_
   exact (decide_eq_false fun h => by obtain ⟨⟨q1, q2, q3⟩, q4, q5, q6, q7, q8, q9⟩ := h; have := (q8 k om9).2.1; omega).symm
  refine g9 9 ?_
  refine (hp_n.mono (hG10.trans hG15)).a1 (i := k) om9 (fun he22 => (g9 4 ?_))
  refine W.qcall (Zj0 (nm9 lec hp_n hk_n hm_n hr_n hok_n) _) rfl (g9 5 ?_)
  refine WC.cond rfl (fun h92 => ?_) (fun h92 => ?_)
  ·refine g9 12 ?_
   refine congrArg Value.bool ?_
   exact (decide_eq_false fun h => by obtain ⟨⟨q1, q2, q3⟩, q4, q5, q6, q7, q8, q9⟩ := h; have := (q8 k om9).2.2; simp_all [Nd.has]).symm
  refine g9 9 ?_
  exact ⟨Le.rfl, k + 1, hs9, ⟨rfl, fun i h hi => by
      by_cases e : i = k
      · subst e; exact ⟨fun e => p74 (congrArg Str.b e), om9, by show (n.top || _) = true; cases ht : n.top <;> simp_all⟩
      · exact hk2 i h om9⟩, om9⟩
 have p66 := odf h66
 refine g9 12 ?_
 refine WC.loop (X := Nat) (fun k => [(7, nt9 k), (2, pt9 b8), (3, pt9 b9)]) (fun k _ Ml => Ml = [(b9, ce9 60 (ndl n pa_n pc_n ka_n kc_n ma_n mc_n ra_n rc_n)), (b8, ce9 23 [iV cf, iV cl, iV cb, iV cs, iV cr])] ∧ ∀ i (h : i < n.msgs.length), i < k → n.fits n.msgs[i]) (fun k => n.msgs.length - k) 0 hs9 ?_ ?_
 ·exact ⟨rfl, fun i _ h => by omega⟩
 rintro k gG25 G25 _ hG25 ⟨rfl, hk3⟩
 refine g9 10 ?_
 refine WC.cond rfl (fun h98 => ?_) (fun h98 => ?_)
 ·have p98 := odt h98
  have hkk : n.msgs[k].key.b.size < 140737488355328 := by have := (hs _ (List.getElem_mem (by omega : k < n.msgs.length))).1; omega
  refine g9 9 ?_
  refine (hm_n.mono ((hG10.trans hG15).trans hG25)).a2 (i := k) om9 (fun he26 hm27 => (g9 2 ?_))
  refine W.qcall (ZbH _ _ _ _ _ _ (by first | assumption | omega | (dsimp only; omega))) rfl (W.alloc Zy (fun b31 => (g9 8 ?_)))
  refine (hm_n.mono ((hG10.trans hG15).trans hG25)).a2 (i := k) om9 (fun he32 hm33 => (g9 7 ?_))
  refine W.sd 116 (fun h115 p115 => ?_) (fun h115 p115 => ?_)
  ·refine g9 30 ?_
   refine congrArg Value.bool ?_
   exact (decide_eq_false fun h => by obtain ⟨⟨q1, q2, q3⟩, q4, q5, q6, q7, q8, q9⟩ := h; have := (q9 k om9).1; omega).symm
  refine g9 8 ?_
  refine W.sp 120 rfl (fun h119 => ?_) (fun h119 => ?_)
  ·refine g9 6 ?_
   refine W.sp 123 rfl (fun h106_2 => ?_) (fun h106_2 => ?_)
   ·refine g9 25 ?_
    refine congrArg Value.bool ?_
    exact (decide_eq_false fun h => by obtain ⟨⟨q1, q2, q3⟩, q4, q5, q6, q7, q8, q9⟩ := h; have := (q9 k om9).2; simp_all).symm
   refine g9 9 ?_
   refine W.qcall (Zah _ _) rfl (g9 7 ?_)
   refine WC.cond rfl (fun h128 => ?_) (fun h128 => ?_)
   ·refine g9 12 ?_
    refine congrArg Value.bool ?_
    exact (decide_eq_false fun h => by obtain ⟨⟨q1, q2, q3⟩, q4, q5, q6, q7, q8, q9⟩ := h; have := (q9 k om9).2; simp_all).symm
   refine g9 7 ?_
   refine W.sub (sr9.cons _) (g9 2 ?_)
   exact ⟨Le.rfl, k + 1, hs9, ⟨rfl, fun i h hi => by
      by_cases e : i = k
      · subst e; exact ⟨om9, by cases ht : n.top <;> simp_all⟩
      · exact hk3 i h om9⟩, om9⟩
  refine g9 22 ?_
  refine W.sub (sr9.cons _) (g9 2 ?_)
  exact ⟨Le.rfl, k + 1, hs9, ⟨rfl, fun i h hi => by
      by_cases e : i = k
      · subst e; exact ⟨om9, by cases ht : n.top <;> simp_all⟩
      · exact hk3 i h om9⟩, om9⟩
 have p98 := odf h98
 refine g9 12 ?_
 refine congrArg Value.bool ?_
 exact (decide_eq_true ⟨⟨om9, om9, om9⟩, by simpa using h33, hms, om9, fun i h => hk1 i h om9, fun i h => hk2 i h om9, fun i h => hk3 i h om9⟩).symm

theorem Zrw {G : GH} (cf : Int) (cl : Int) (cb : Int) (cs : Int) (cr : Int) {cs_n : List Value} {n : Nd} (h_n : NodeC G cs_n n) :
    Fc Tryz.prog 55 [.agg #[iV cf, iV cl, iV cb, iV cs, iV cr], .agg (List.toArray cs_n)] G [] (fun v _ _ => v = .bool (decide (n.R cf cl cb))) := by
 obtain ⟨_, _, _, _, _, _, _, _, rfl, hp_n, hk_n, hm_n, hr_n, hok_n⟩ := h_n
 have h1 := hp_n.len47
 have h2 := hk_n.len47
 have h3 := hm_n.len47
 have h4 := hr_n.len47
 refine Fc.go [.tmp 4] Tryz.func55 Tryz.ntmps55 rfl (fun w0 => (g9 2 ?_))
 refine W.box (L := [iV _, iV _, iV _, iV _, iV _]) rfl rfl (fun b37 => (W.box (L := [iV _, iV _, lV _ _ _, lV _ _ _, sV _, .bool _, iV _, iV _, lV _ _ _, lV _ _ _]) rfl rfl (fun b38 => (g9 10 ?_))))
 refine W.sd 8 (fun h7 p7 => ?_) (fun h7 p7 => ?_)
 ·refine g9 34 ?_
  refine congrArg Value.bool ?_
  exact (decide_eq_false fun h => by obtain ⟨⟨q1, q2, q3⟩, q4, q5, q6⟩ := h; omega).symm
 refine g9 8 ?_
 refine W.sd 13 (fun h11 p11 => ?_) (fun h11 p11 => ?_)
 ·refine g9 29 ?_
  refine congrArg Value.bool ?_
  exact (decide_eq_false fun h => by obtain ⟨⟨q1, q2, q3⟩, q4, q5, q6⟩ := h; omega).symm
 refine g9 8 ?_
 refine W.sd 18 (fun h16 p16 => ?_) (fun h16 p16 => ?_)
 ·refine g9 24 ?_
  refine congrArg Value.bool ?_
  exact (decide_eq_false fun h => by obtain ⟨⟨q1, q2, q3⟩, q4, q5, q6⟩ := h; omega).symm
 refine g9 6 ?_
 refine W.sp 21 rfl (fun hb_top_n => ?_) (fun hb_top_n => ?_)
 ·refine g9 8 ?_
  refine W.sm 25 (fun h24 p24 => ?_) (fun h24 p24 => ?_)
  ·refine g9 19 ?_
   refine congrArg Value.bool ?_
   exact (decide_eq_false fun h => by obtain ⟨⟨q1, q2, q3⟩, q4, q5, q6⟩ := h; exact p24 (congrArg Str.b (q4 (by assumption)).1)).symm
  refine g9 13 ?_
  refine WC.cn (fun h28 p28 => ?_) (fun h28 p28 => ?_)
  ·refine g9 8 ?_
   refine congrArg Value.bool ?_
   exact (decide_eq_false fun h => by obtain ⟨⟨q1, q2, q3⟩, q4, q5, q6⟩ := h; have := (q4 (by assumption)).2; omega).symm
  refine g9 37 ?_
  refine WC.cd (fun h53 p53 => ?_) (fun h53 p53 => ?_)
  ·refine g9 4 ?_
   refine W.qcall (Zj1 _ _ _ _ _ (nk9 hp_n hk_n hm_n hr_n hok_n)) rfl (g9 6 ?_)
   refine congrArg Value.bool ?_
   exact decide_eq_decide.2 ⟨fun q => ⟨⟨om9, om9, om9⟩, fun _ => ⟨Str.ext' p24, p28⟩, fun h => absurd (hb_top_n.symm.trans h) (by decide), by rw [if_pos p53]; exact q⟩, fun h => by have h := h.2.2.2; rw [if_pos p53] at h; exact h⟩
  refine g9 6 ?_
  refine W.qcall (Zj2 _ _ _ _ _ (nk9 hp_n hk_n hm_n hr_n hok_n)) rfl (g9 5 ?_)
  refine congrArg Value.bool ?_
  exact decide_eq_decide.2 ⟨fun q => ⟨⟨om9, om9, om9⟩, fun _ => ⟨Str.ext' p24, p28⟩, fun h => absurd (hb_top_n.symm.trans h) (by decide), by rw [if_neg p53]; exact q⟩, fun h => by have h := h.2.2.2; rw [if_neg p53] at h; exact h⟩
 refine g9 31 ?_
 refine W.sd 39 (fun h38 p38 => ?_) (fun h38 p38 => ?_)
 ·refine g9 25 ?_
  refine congrArg Value.bool ?_
  exact (decide_eq_false fun h => by obtain ⟨⟨q1, q2, q3⟩, q4, q5, q6⟩ := h; exact (q5 (by assumption)).1 (Str.ext' p38)).symm
 refine g9 12 ?_
 refine W.sd 45 (fun h43 p43 => ?_) (fun h43 p43 => ?_)
 ·refine g9 17 ?_
  refine congrArg Value.bool ?_
  exact (decide_eq_false fun h => by obtain ⟨⟨q1, q2, q3⟩, q4, q5, q6⟩ := h; have := (q5 (by assumption)).2.1; omega).symm
 refine g9 11 ?_
 refine WC.cd (fun h48 p48 => ?_) (fun h48 p48 => ?_)
 ·refine g9 8 ?_
  refine congrArg Value.bool ?_
  exact (decide_eq_false fun h => by obtain ⟨⟨q1, q2, q3⟩, q4, q5, q6⟩ := h; have := (q5 (by assumption)).2.2; omega).symm
 refine g9 10 ?_
 refine WC.cd (fun h53 p53 => ?_) (fun h53 p53 => ?_)
 ·refine g9 4 ?_
  refine W.qcall (Zj1 _ _ _ _ _ (nk9 hp_n hk_n hm_n hr_n hok_n)) rfl (g9 6 ?_)
  refine congrArg Value.bool ?_
  exact decide_eq_decide.2 ⟨fun q => ⟨⟨om9, om9, om9⟩, fun h => absurd (hb_top_n.symm.trans h) (by decide), fun _ => ⟨fun e => p38 (congrArg Str.b e), om9, om9⟩, by rw [if_pos p53]; exact q⟩, fun h => by have h := h.2.2.2; rw [if_pos p53] at h; exact h⟩
 refine g9 6 ?_
 refine W.qcall (Zj2 _ _ _ _ _ (nk9 hp_n hk_n hm_n hr_n hok_n)) rfl (g9 5 ?_)
 refine congrArg Value.bool ?_
 exact decide_eq_decide.2 ⟨fun q => ⟨⟨om9, om9, om9⟩, fun h => absurd (hb_top_n.symm.trans h) (by decide), fun _ => ⟨fun e => p38 (congrArg Str.b e), om9, om9⟩, by rw [if_neg p53]; exact q⟩, fun h => by have h := h.2.2.2; rw [if_neg p53] at h; exact h⟩

theorem Zf1 {G : GH} {cs_p : List Value} {p : Nd} (h_p : NodeC G cs_p p) {cs_k : List Value} {k : Nd} (h_k : NodeC G cs_k k) (i : Int) :
    Fc Tryz.prog 224 [.agg (List.toArray cs_p), .agg (List.toArray cs_k), iV i] G [] (fun v _ _ => v = .bool (decide (KidOf p k i))) := by
 obtain ⟨_, _, _, _, _, _, _, _, rfl, hp_p, hk_p, hm_p, hr_p, hok_p⟩ := h_p
 obtain ⟨_, _, _, _, _, _, _, _, rfl, hp_k, hk_k, hm_k, hr_k, hok_k⟩ := h_k
 have hlk := hk_p.len47
 obtain ⟨hlv1, hlv2⟩ := hok_p.2.1
 refine Fc.go [.tmp 6] Tryz.func224 Tryz.ntmps224 rfl (fun w0 => (g9 2 ?_))
 refine W.box (L := [iV _, iV _, lV _ _ _, lV _ _ _, sV _, .bool _, iV _, iV _, lV _ _ _, lV _ _ _]) rfl rfl (fun b1 => (W.box (L := [iV _, iV _, lV _ _ _, lV _ _ _, sV _, .bool _, iV _, iV _, lV _ _ _, lV _ _ _]) rfl rfl (fun b2 => (g9 9 ?_))))
 refine W.sd 10 (fun h9 p9 => ?_) (fun h9 p9 => ?_)
 ·refine g9 14 ?_
  refine W.sd 18 (fun h16 p16 => ?_) (fun h16 p16 => ?_)
  ·refine g9 6 ?_
   refine W.sd 22 (fun h20 p20 => ?_) (fun h20 p20 => ?_)
   ·refine g9 16 ?_
    refine congrArg Value.bool ?_
    exact decide_eq_decide.2 ⟨fun h => ⟨om9, p16, om9, h⟩, fun h => h.2.2.2⟩
   refine g9 11 ?_
   refine congrArg Value.bool ?_
   exact (decide_eq_false fun h => by unfold KidOf at h; omega).symm
  refine g9 15 ?_
  refine congrArg Value.bool ?_
  exact (decide_eq_false fun h => by unfold KidOf at h; omega).symm
 refine g9 23 ?_
 refine congrArg Value.bool ?_
 exact (decide_eq_false fun h => by unfold KidOf at h; omega).symm

theorem Zj3 {G : GH} (cf : Int) (cl : Int) (cb : Int) (cs : Int) (cr : Int) {cs_p : List Value} {p : Nd} (h_p : NodeC G cs_p p) {cs_k : List Value} {k : Nd} (h_k : NodeC G cs_k k) (i : Int) (hb : 0 ≤ cb ∧ cb ≤ 9223372036854775807) (hr : Z2 p.pivots = true) (hpv : ∀ q ∈ p.pivots, q.b.size ≤ 16) (hpm : ∀ m ∈ p.msgs, m.R) (hkm : ∀ m ∈ k.msgs, m.key.b.size ≤ 16 ∧ m.val.b.size ≤ 16) (hkr : PairsR k.rows) (hi : i64 i) (hsz : k.msgs.length + p.msgs.length ≤ 100000 ∧ k.rows.length ≤ 100000) :
    Fc Tryz.prog 225 [.agg #[iV cf, iV cl, iV cb, iV cs, iV cr], .agg (List.toArray cs_p), .agg (List.toArray cs_k), iV i] G [] (fun v G' M' => M' = [] ∧ ∃ r : Nd × Nat, r = Zt cl cb k (Zd p.pivots p.msgs i) ∧ ∃ u0 u1, v = .tuple #[.agg (List.toArray u0), u1] ∧ NodeC G' u0 (r.1) ∧ SlR Zp G' u1 ((Zd p.pivots p.msgs i).take r.2)) := by
 obtain ⟨pa_p, pc_p, ka_p, kc_p, ma_p, mc_p, ra_p, rc_p, rfl, hp_p, hk_p, hm_p, hr_p, hok_p⟩ := h_p
 obtain ⟨_, _, _, _, _, _, _, _, rfl, hp_k, hk_k, hm_k, hr_k, hok_k⟩ := h_k
 have hfR : ∀ m ∈ (Zd p.pivots p.msgs i), m.R := Zfx hpv hpm
 have hfl := Zjc p.pivots p.msgs i
 have hpk : ∀ m ∈ p.msgs, m.key.b.size < 140737488355328 := fun m h => by have := (Y5 (hpm m h)).1; omega
 have hdl := Zgl cl (Zd p.pivots p.msgs i) k.rows
 refine Fc.go [.cell 8 60, .tmp 9] Tryz.func225 Tryz.ntmps225 rfl (fun w0 => (g9 2 ?_))
 refine W.box (L := [iV _, iV _, iV _, iV _, iV _]) rfl rfl (fun b3 => (W.box (L := [iV _, iV _, lV _ _ _, lV _ _ _, sV _, .bool _, iV _, iV _, lV _ _ _, lV _ _ _]) rfl rfl (fun b4 => (W.box (L := [iV _, iV _, lV _ _ _, lV _ _ _, sV _, .bool _, iV _, iV _, lV _ _ _, lV _ _ _]) rfl rfl (fun b5 => (W.alloc Zo (fun b6 => (g9 10 ?_))))))))
 refine W.cS (Zje hp_p hm_p i hpk hr hi) rfl (fun sa_hv8 sc_hv8 G7 hG7 hv8 => (g9 6 ?_))
 refine W.cN (XM (a := k) (nm9 hG7 hp_k hk_k hm_k hr_k hok_k)) rfl (fun pa_hv15 pc_hv15 ka_hv15 kc_hv15 ma_hv15 mc_hv15 ra_hv15 rc_hv15 G14 hG14 hp_hv15 hk_hv15 hm_hv15 hr_hv15 hok_hv15 => (g9 11 ?_))
 refine WC.cd (fun h26 p26 => ?_) (fun h26 p26 => ?_)
 ·refine g9 12 ?_
  refine W.call (Mp := []) (ZpT hr_hv15 (hv8.mono hG14) cl hkr om9 hfR) rfl pr9 ?_
  intro _ G20 _ hG20 q22
  refine match q22 with | ⟨e_23, _, e_24, _, e_25, hv21⟩ => ?_
  subst e_23
  subst e_24
  subst e_25
  have q27 := hv21.form
  refine match q27 with | ⟨sa_hv21, sc_hv21, e_26⟩ => ?_
  subst e_26
  refine g9 9 ?_
  refine WC.dw (((sr9.k9.k9).k9).cons _) (d9 [0, 1, 2] ?_)
  have hs28 := SlR.slice (hv8.mono (hG14.trans hG20)) (lo := 0) (hi := (Ye cl k.rows (Zd p.pivots p.msgs i)).2) om9 om9
  refine WD.tk 3 rfl (Jt (0) ((Ye cl k.rows (Zd p.pivots p.msgs i)).2) ZQ ZR (hv8.mono lec) rfl rfl ⟨_, _, rfl, om9⟩ ⟨om9, om9⟩) (d9 [4, 5] ?_)
  refine g9 5 ?_
  refine ⟨rfl, _, (Zi6 p26).symm, _, _, rfl, ?_, ?_⟩
  · exact ⟨_, _, _, _, _, _, _, _, rfl, (hp_hv15.mono hG20), (hk_hv15.mono hG20), (hm_hv15.mono hG20), hv21, hok_k⟩
  exact SlR.cast hs28 (by rw [List.drop_zero])
 refine g9 11 ?_
 refine WC.loop (X := (Nat) × List Value) (fun j => [(43, nt9 j.1), (4, pt9 b3), (6, pt9 b5), (8, pt9 b6), (10, lV sa_hv8 ((Zd p.pivots p.msgs i)).length sc_hv8), (41, lV sa_hv8 ((Zd p.pivots p.msgs i)).length sc_hv8), (42, nt9 (((Zd p.pivots p.msgs i)).length))]) (fun j G Ml => Ml = [(b6, ce9 60 nz9), (b5, .cells (List.toArray j.2) 60 (0, 0)), (b4, ce9 60 (ndl p pa_p pc_p ka_p kc_p ma_p mc_p ra_p rc_p)), (b3, ce9 23 [iV cf, iV cl, iV cb, iV cs, iV cr])] ∧ NodeC G j.2 ({ k with msgs := (k.msgs ++ (Zd p.pivots p.msgs i).take j.1) }) ∧ j.1 ≤ (Zd p.pivots p.msgs i).length ∧ AddsAt cb k.msgs (Zd p.pivots p.msgs i) j.1) (fun j => (Zd p.pivots p.msgs i).length - j.1) (0, ((ndl (k) pa_hv15 pc_hv15 ka_hv15 kc_hv15 ma_hv15 mc_hv15 ra_hv15 rc_hv15) : List Value)) hs9 ?_ ?_
 ·exact ⟨rfl, (by dsimp only; rw [List.take_zero, List.append_nil]; exact (nk9 hp_hv15 hk_hv15 hm_hv15 hr_hv15 hok_hv15)), om9, AddsAt.zero _ _ _⟩
 rintro ⟨j, C_6⟩ gG29 G29 _ hG29 ⟨rfl, ho_6, hj, hd⟩
 try dsimp only at ho_6 hj hd
 have hsj : ∀ m ∈ (k.msgs ++ (Zd p.pivots p.msgs i).take j), m.key.b.size ≤ 16 ∧ m.val.b.size ≤ 16 := fun m h => by
   rcases List.mem_append.1 h with h | h
   · exact hkm m h
   exact Y5 (hfR m (List.mem_of_mem_take h))
 have hlj : (k.msgs ++ (Zd p.pivots p.msgs i).take j).length ≤ 100000 := by rw [List.length_append, List.length_take]; omega
 refine match ho_6 with | ⟨pa_nb30, pc_nb30, ka_nb30, kc_nb30, _, _, ra_nb30, rc_nb30, e_31, hp_nb30, hk_nb30, hm_nb30, hr_nb30, hok_nb30⟩ => ?_
 subst e_31
 refine WC.fr (f := ZX gG29 [(43, nt9 j), (4, pt9 b3), (6, pt9 b5), (8, pt9 b6), (10, lV sa_hv8 ((Zd p.pivots p.msgs i)).length sc_hv8), (41, lV sa_hv8 ((Zd p.pivots p.msgs i)).length sc_hv8), (42, nt9 (((Zd p.pivots p.msgs i)).length))]) rfl (g9 6 ?_)
 refine WC.cd (fun h44 p44 => ?_) (fun h44 p44 => ?_)
 ·refine g9 7 ?_
  refine (hv8.mono (hG14.trans hG29)).a2 (i := j) om9 (fun he32 hm33 => (g9 2 ?_))
  refine W.alloc ZL (fun b37 => (g9 11 ?_))
  refine W.call (Mp := []) (Zfy hm_nb30 ((Zd p.pivots p.msgs i)[j]'om9).stamp ((Zd p.pivots p.msgs i)[j]'om9).kind ((Zd p.pivots p.msgs i)[j]'om9).key ((Zd p.pivots p.msgs i)[j]'om9).hi ((Zd p.pivots p.msgs i)[j]'om9).opn ((Zd p.pivots p.msgs i)[j]'om9).val cb hsj hb (by assumption) (by show List.length (k.msgs ++ (Zd p.pivots p.msgs i).take j) ≤ _; omega)) rfl pr9 ?_
  intro _ G38 _ hG38 q40
  refine match q40 with | ⟨e_41, _, e_42, _, e_43, hv39⟩ => ?_
  subst e_41
  subst e_42
  subst e_43
  have q45 := hv39.form
  refine match q45 with | ⟨sa_hv39, sc_hv39, e_44⟩ => ?_
  subst e_44
  refine g9 14 ?_
  refine WC.cond rfl (fun h58 => ?_) (fun h58 => ?_)
  ·have hro : Yg cb (k.msgs ++ (Zd p.pivots p.msgs i).take j) ((Zd p.pivots p.msgs i)[j]'om9) = false := by rw [← Zfs]; simpa using h58
   have hst := hd.stop om9 hro
   refine WC.seq (WC.dw ((((sr9.k9.k9).k9).cons _).k9) (d9 [0, 1, 2] ?_))
   have hs46 := SlR.slice (hv8.mono ((hG14.trans hG29).trans hG38)) (lo := 0) (hi := j) om9 om9
   refine WD.tk 3 rfl (Jt (0) (j) ZQ ZR (hv8.mono lec) rfl rfl ⟨_, _, rfl, om9⟩ ⟨om9, om9⟩) (d9 [4, 5] ?_)
   refine g9 10 ?_
   refine ⟨rfl, _, (Zfr p26 hst).symm, _, _, rfl, ?_, ?_⟩
   · exact (nm9 hG38 hp_nb30 hk_nb30 hm_nb30 hr_nb30 hok_k)
   exact SlR.cast hs46 (by rw [List.drop_zero])
  have hro : Yg cb (k.msgs ++ (Zd p.pivots p.msgs i).take j) ((Zd p.pivots p.msgs i)[j]'om9) = true := by rw [← Zfs]; simpa using h58
  have hnx : k.msgs ++ (Zd p.pivots p.msgs i).take (j + 1) = (JA cb (k.msgs ++ (Zd p.pivots p.msgs i).take j) ((Zd p.pivots p.msgs i)[j]'om9)).1 := by rw [ZbM hro, List.take_succ_eq_append_getElem om9, List.append_assoc]
  refine g9 12 ?_
  refine W.sub (sr9.cons _) (g9 2 ?_)
  exact ⟨hG38, (j + 1, [iV ({ k with msgs := (k.msgs ++ (Zd p.pivots p.msgs i).take j) }).slot, iV ({ k with msgs := (k.msgs ++ (Zd p.pivots p.msgs i).take j) }).level, lV pa_nb30 (({ k with msgs := (k.msgs ++ (Zd p.pivots p.msgs i).take j) }).pivots).length pc_nb30, lV ka_nb30 (({ k with msgs := (k.msgs ++ (Zd p.pivots p.msgs i).take j) }).kids).length kc_nb30, sV ({ k with msgs := (k.msgs ++ (Zd p.pivots p.msgs i).take j) }).high.b, .bool ({ k with msgs := (k.msgs ++ (Zd p.pivots p.msgs i).take j) }).top, iV ({ k with msgs := (k.msgs ++ (Zd p.pivots p.msgs i).take j) }).right, iV ({ k with msgs := (k.msgs ++ (Zd p.pivots p.msgs i).take j) }).seen, lV sa_hv39 ((JA cb (k.msgs ++ (Zd p.pivots p.msgs i).take j) ((Zd p.pivots p.msgs i)[j]'om9)).1).length sc_hv39, lV ra_nb30 (({ k with msgs := (k.msgs ++ (Zd p.pivots p.msgs i).take j) }).rows).length rc_nb30]), hs9, ⟨rfl, (by dsimp only; rw [hnx]; exact ⟨_, _, _, _, _, _, _, _, rfl, (hp_nb30.mono hG38), (hk_nb30.mono hG38), hv39, (hr_nb30.mono hG38), hok_nb30⟩), om9, hd.succ om9 hro⟩, om9⟩
 refine g9 15 ?_
 refine ⟨rfl, _, (Zfr p26 (hd.all om9)).symm, _, _, rfl, ?_, ?_⟩
 · exact (nk9 hp_nb30 hk_nb30 hm_nb30 hr_nb30 hok_k)
 exact SlR.cast (hv8.mono lec) (List.take_of_length_le om9).symm

theorem ZcK {G : GH} (cf : Int) (cl : Int) (cb : Int) (cs : Int) (cr : Int) {cs_p : List Value} {p : Nd} (h_p : NodeC G cs_p p) {cs_k : List Value} {k : Nd} (h_k : NodeC G cs_k k) (i : Int) (hb : 0 ≤ cb ∧ cb ≤ 9223372036854775807) (hr : Z2 p.pivots = true) (hpv : ∀ q ∈ p.pivots, q.b.size ≤ 16) (hpm : ∀ m ∈ p.msgs, m.R) (hkm : ∀ m ∈ k.msgs, m.key.b.size ≤ 16 ∧ m.val.b.size ≤ 16) (hkr : PairsR k.rows) (hi : i64 i) (hsz : k.msgs.length + p.msgs.length ≤ 100000 ∧ k.rows.length ≤ 100000) :
    Fc Tryz.prog 221 [.agg #[iV cf, iV cl, iV cb, iV cs, iV cr], .agg (List.toArray cs_p), .agg (List.toArray cs_k), iV i] G [] (fun v _ _ => v = nt9 (ZY cl cb p k i)) := by
 obtain ⟨_, _, _, _, _, _, _, _, rfl, hp_p, hk_p, hm_p, hr_p, hok_p⟩ := h_p
 obtain ⟨_, _, _, _, _, _, _, _, rfl, hp_k, hk_k, hm_k, hr_k, hok_k⟩ := h_k
 refine Fc.go [.tmp 8] Tryz.func221 Tryz.ntmps221 rfl (fun w0 => (g9 2 ?_))
 refine W.box (L := [iV _, iV _, iV _, iV _, iV _]) rfl rfl (fun b47 => (W.box (L := [iV _, iV _, lV _ _ _, lV _ _ _, sV _, .bool _, iV _, iV _, lV _ _ _, lV _ _ _]) rfl rfl (fun b48 => (W.box (L := [iV _, iV _, lV _ _ _, lV _ _ _, sV _, .bool _, iV _, iV _, lV _ _ _, lV _ _ _]) rfl rfl (fun b49 => (g9 9 ?_))))))
 refine W.qcall (Zf1 (p := p) (k := k) (nk9 hp_p hk_p hm_p hr_p hok_p) (nk9 hp_k hk_k hm_k hr_k hok_k) i) rfl (g9 3 ?_)
 refine WC.cond rfl (fun h15 => ?_) (fun h15 => ?_)
 ·refine g9 8 ?_
  refine congrArg (Value.int .i64) (congrArg Nat.cast ?_)
  exact (Zi7 (by simpa using h15)).symm
 refine g9 8 ?_
 refine W.call (Mp := []) (Zj3 cf cl cb cs cr (p := p) (k := k) (nk9 hp_p hk_p hm_p hr_p hok_p) (nk9 hp_k hk_k hm_k hr_k hok_k) i hb hr hpv hpm hkm hkr hi hsz) rfl pr9 ?_
 intro _ G50 _ hG50 q53
 refine match q53 with | ⟨e_54, _, e_55, _, _, e_56, hv51, hv52⟩ => ?_
 subst e_54
 subst e_55
 subst e_56
 refine match hv51 with | ⟨_, _, _, _, _, _, _, _, e_57, hp_hv51, hk_hv51, hm_hv51, hr_hv51, hok_hv51⟩ => ?_
 subst e_57
 have q59 := hv52.form
 refine match q59 with | ⟨sa_hv52, sc_hv52, e_58⟩ => ?_
 subst e_58
 refine g9 3 ?_
 refine W.alloc Zo (fun b60 => (g9 13 ?_))
 refine congrArg (Value.int .i64) (congrArg Nat.cast ?_)
 rw [ZbO (by simpa using h15), Zft]

theorem Zj4 {G : GH} (ms : Int) (mk : Int) (mkey : Str) (mhi : Str) (mo : Bool) (mv : Str) (slo : Str) (shi : Str) (so : Bool) (hk : mkey.b.size < 140737488355328) :
    Fc Tryz.prog 226 [.agg #[iV ms, iV mk, sV mkey.b, sV mhi.b, .bool mo, sV mv.b], .agg #[sV slo.b, sV shi.b, .bool so]] G [] (fun v _ _ => v = .tuple #[.agg (List.toArray ((ZE (⟨ms, mk, mkey, mhi, mo, mv⟩ : Msg) ⟨slo, shi, so⟩).1.cells)), .bool ((ZE (⟨ms, mk, mkey, mhi, mo, mv⟩ : Msg) ⟨slo, shi, so⟩).2)]) := by
 refine Fc.go [.cell 4 87, .tmp 5] Tryz.func226 Tryz.ntmps226 rfl (fun w0 => (g9 2 ?_))
 refine W.box (L := [iV _, iV _, sV _, sV _, .bool _, sV _]) rfl rfl (fun b61 => (W.box (L := [sV _, sV _, .bool _]) rfl rfl (fun b62 => (W.alloc ZL (fun b63 => (g9 10 ?_))))))
 refine WC.cond rfl (fun ha_so => ?_) (fun ha_so => ?_)
 ·refine g9 2 ?_
  refine W.ok (ZD (L := [iV _, iV _, sV _, sV _, .bool _, sV _]) ZbA ZL rfl rfl rfl) (g9 7 ?_)
  show Value.tuple #[Value.agg (List.toArray [_, _, _, _, _, _]), Value.bool _] = _
  rw [ZE, if_pos (by assumption)]; rfl
 refine g9 7 ?_
 refine W.ok (ZD (L := [sV _, sV _, .bool _]) Xe Zy rfl rfl rfl) (W.qcall (Zfa _ _ _ _ _ _ _ Str.nil _ (by first | assumption | omega | (dsimp only; omega))) rfl (g9 8 ?_))
 show Value.tuple #[Value.agg (List.toArray [_, _, _, _, _, _]), Value.bool _] = _
 rw [ZE, if_neg (by simp_all)]; rfl

theorem ZdK {G : GH} (cf : Int) (cl : Int) (cb : Int) (cs : Int) (cr : Int) {cs_p : List Value} {p : Nd} (h_p : NodeC G cs_p p) {cs_k : List Value} {k : Nd} (h_k : NodeC G cs_k k) (i : Int) (hb : 0 ≤ cb ∧ cb ≤ 9223372036854775807) (hr : Z2 p.pivots = true) (hpv : ∀ q ∈ p.pivots, q.b.size ≤ 16) (hpm : ∀ m ∈ p.msgs, m.R) (hkm : ∀ m ∈ k.msgs, m.key.b.size ≤ 16 ∧ m.val.b.size ≤ 16) (hkr : PairsR k.rows) (hi : i64 i) (hsz : k.msgs.length + p.msgs.length ≤ 100000 ∧ k.rows.length ≤ 100000) :
    Fc Tryz.prog 222 [.agg #[iV cf, iV cl, iV cb, iV cs, iV cr], .agg (List.toArray cs_p), .agg (List.toArray cs_k), iV i] G [] (fun v _ _ => v = .bool (decide (KidOf p k i ∧ 0 < (Zd p.pivots p.msgs i).length ∧ ZY cl cb p k i = 0))) := by
 obtain ⟨_, _, _, _, _, _, _, _, rfl, hp_p, hk_p, hm_p, hr_p, hok_p⟩ := h_p
 obtain ⟨_, _, _, _, _, _, _, _, rfl, hp_k, hk_k, hm_k, hr_k, hok_k⟩ := h_k
 have hpk : ∀ m ∈ p.msgs, m.key.b.size < 140737488355328 := fun m h => by have := (Y5 (hpm m h)).1; omega
 refine Fc.go [.tmp 8] Tryz.func222 Tryz.ntmps222 rfl (fun w0 => (g9 2 ?_))
 refine W.box (L := [iV _, iV _, iV _, iV _, iV _]) rfl rfl (fun b64 => (W.box (L := [iV _, iV _, lV _ _ _, lV _ _ _, sV _, .bool _, iV _, iV _, lV _ _ _, lV _ _ _]) rfl rfl (fun b65 => (W.box (L := [iV _, iV _, lV _ _ _, lV _ _ _, sV _, .bool _, iV _, iV _, lV _ _ _, lV _ _ _]) rfl rfl (fun b66 => (g9 8 ?_))))))
 refine W.qcall (Zf1 (p := p) (k := k) (nk9 hp_p hk_p hm_p hr_p hok_p) (nk9 hp_k hk_k hm_k hr_k hok_k) i) rfl (W.mv ?_)
 refine W.sp 13 rfl (fun h12 => ?_) (fun h12 => ?_)
 ·refine g9 11 ?_
  refine W.cS (Zje hp_p hm_p i hpk hr hi) rfl (fun sa_hv68 sc_hv68 G67 hG67 hv68 => (g9 6 ?_))
  refine W.sd 23 (fun h21 p21 => ?_) (fun h21 p21 => ?_)
  ·refine g9 9 ?_
   refine W.qcall (ZcK cf cl cb cs cr (p := p) (k := k) (nm9 hG67 hp_p hk_p hm_p hr_p hok_p) (nm9 hG67 hp_k hk_k hm_k hr_k hok_k) i hb hr hpv hpm hkm hkr hi hsz) rfl (g9 8 ?_)
   refine congrArg Value.bool ?_
   first | (simp_all; done) | (simp_all; omega)
  refine g9 12 ?_
  refine congrArg Value.bool ?_
  first | (simp_all; done) | (simp_all; omega)
 refine g9 22 ?_
 refine congrArg Value.bool ?_
 first | (simp_all; done) | (simp_all; omega)

end Go.Proofs.YtbbemibbmbmamaaGreat

namespace Go.Fw
open Go Go.RowKit
structure PourPre (cb : Int) (p k : Nd) : Prop where
 hb : 0 ≤ cb ∧ cb ≤ 9223372036854775807
 hr : Z2 p.pivots = true
 hpv : ∀ q ∈ p.pivots, q.b.size ≤ 16
 hpm : ∀ m ∈ p.msgs, m.R
 hkm : ∀ m ∈ k.msgs, m.key.b.size ≤ 16 ∧ m.val.b.size ≤ 16
 hkr : PairsR k.rows
 hsz : k.msgs.length + p.msgs.length ≤ 100000 ∧ k.rows.length ≤ 100000
theorem Zrx : PairsR [] := fun i h => absurd h (Nat.not_lt_zero i)
theorem Zf2 {c : Cfg} {n : Nd} (h : n.R c.fan c.leaf c.bud) : ∀ m ∈ n.msgs, m.R := fun m hm => by
 have h4 := h.2.2.2
 by_cases h0 : n.level = 0
 ·rw [if_pos h0] at h4
  have e : n.msgs = [] := List.eq_nil_of_length_eq_zero (by have := h4.1; omega)
  rw [e] at hm; cases hm
 ·rw [if_neg h0] at h4
  exact (MsgsR.iff.1 h4.2.2.1).1 m hm
theorem Zry {c : Cfg} {n : Nd} (h : n.R c.fan c.leaf c.bud) : PairsR n.rows := by
 have h4 := h.2.2.2
 by_cases h0 : n.level = 0
 ·rw [if_pos h0] at h4; exact h4.2.2.1
 ·rw [if_neg h0] at h4
  have e : n.rows = [] := List.eq_nil_of_length_eq_zero h4.1.1
  rw [e]; exact Zrx
theorem Zrz {c : Cfg} {p k : Nd} (hp : p.R c.fan c.leaf c.bud) (hk : k.R c.fan c.leaf c.bud) (h1 : ¬ p.level = 0) (sp : NdS p) (sk : NdS k) (hb : c.bud ≤ 9223372036854775807) : PourPre c.bud p k := by
 have hin : p.innerR c.fan c.bud := by have h4 := hp.2.2.2; rwa [if_neg h1] at h4
 have hm := Zf2 hp
 have hs := Zdu fun m h => Y5 (hm m h)
 have hs2 := hin.2.2.2.1
 obtain ⟨_, _, s3, s4, _⟩ := sp
 obtain ⟨_, _, k3, k4, _⟩ := sk
 exact ⟨⟨om9, hb⟩, (YQ hin.2.1).1, ZbL hp, hm, fun m h => Y5 (Zf2 hk m h), Zry hk, om9, om9⟩
variable {c : Cfg} {l : List Nd} {ss : List Seat}
structure Halves (n a b : Nd) (k : Str) (h : Nat) : Prop where
 la : a.level = n.level
 lb : b.level = n.level
 aend : a.high = k ∧ a.top = false
 bend : b.high = n.high ∧ b.top = n.top ∧ b.right = n.right
 aright : a.right = b.slot
 leaf : n.level = 0 → 1 ≤ h ∧ h < n.rows.length ∧ a.rows = n.rows.take h ∧ b.rows = n.rows.drop h ∧ a.pivots = n.pivots ∧ b.pivots = n.pivots ∧ (∀ i (hi : i < n.rows.length), i < h → n.rows[i].key.lt k = true) ∧ ∀ i (hi : i < n.rows.length), h ≤ i → n.rows[i].key.lt k = false
 inner : ¬ n.level = 0 → a.rows = n.rows ∧ b.rows = n.rows ∧ ∃ hh : h < n.pivots.length, k = n.pivots[h] ∧ a.pivots = n.pivots.take h ∧ a.kids = n.kids.take (h + 1) ∧ b.pivots = n.pivots.drop (h + 1) ∧ b.kids = n.kids.drop (h + 1)
 size : k ≠ Str.nil ∧ k.b.size ≤ 16
theorem ZdL {n : Nd} {fan leaf bud y : Int} (hR : n.R fan leaf bud) (hok : (Zq n y).2.2.2 = true) :
  ∃ a b k h, Zq n y = (a, b, k, true) ∧ Halves n a b k h ∧ a.slot = n.slot ∧ b.slot = y ∧ a.seen = n.seen ∧ b.seen = n.seen ∧ (n.level = 0 → a.msgs = n.msgs ∧ b.msgs = n.msgs) ∧
   (¬ n.level = 0 → a.msgs = Zc ⟨Str.nil, k, false⟩ n.msgs ∧ b.msgs = Zc ⟨k, Str.nil, true⟩ n.msgs) ∧ n.has k = true := by
 obtain ⟨⟨q1, q2, q3⟩, q4, q5, q6⟩ := hR
 by_cases h0 : n.level = 0
 ·rw [if_pos h0] at q6
  obtain ⟨r1, r2, r3, r4⟩ := q6
  by_cases hl : n.rows.length < 2
  ·rw [Zhh h0 hl] at hok; cases hok
  ·have hlt := PairsR.lt r3 ((n.rows.length + 1) / 2) ((n.rows.length + 1) / 2 - 1) om9 om9
   obtain ⟨b1, b2, b3, b4⟩ := Zhp hlt (r3 ((n.rows.length + 1) / 2) om9).1.1
   refine ⟨_, _, _, (n.rows.length + 1) / 2, Zhi h0 hl, ⟨rfl, rfl, ⟨rfl, rfl⟩, ⟨rfl, rfl, rfl⟩, rfl, fun _ => ⟨om9, om9, rfl, rfl, rfl, rfl, ?_, ?_⟩, fun h => absurd h0 h, b1, b2⟩, rfl, rfl, rfl, rfl, fun _ => ⟨rfl, rfl⟩, fun h => absurd h0 h, ?_⟩
   ·intro i hi hih
    by_cases e : i = (n.rows.length + 1) / 2 - 1
    ·subst e; exact b3
    ·exact Str.lt_trans (PairsR.lt r3 ((n.rows.length + 1) / 2 - 1) i om9 om9) b3
   ·intro i hi hih
    by_cases e : i = (n.rows.length + 1) / 2
    ·subst e; exact b4
    ·cases h9 : n.rows[i].key.lt (Jd (n.rows[(n.rows.length + 1) / 2 - 1]'om9).key (n.rows[(n.rows.length + 1) / 2]'om9).key).1
     ·rfl
     ·have := Str.lt_trans (PairsR.lt r3 i ((n.rows.length + 1) / 2) om9 hi) h9
      rw [b4] at this; cases this
   ·have h5 := r4 ((n.rows.length + 1) / 2) om9
    unfold Nd.has at h5 ⊢
    rw [Bool.or_eq_true] at h5 ⊢
    rcases h5 with h5 | h5
    ·exact .inl h5
    ·exact .inr (Str.lt_of_le_of_lt b4 h5)
 ·rw [if_neg h0] at q6
  obtain ⟨⟨r1, r2, r3⟩, r4, r5, r6, r7, r8, r9⟩ := q6
  by_cases hl : n.kids.length < 4
  ·rw [Zhj h0 (.inl hl)] at hok; cases hok
  ·obtain ⟨hr, hc⟩ := YQ r4
   have hk := r8 ((n.kids.length + 1) / 2 - 1) om9
   have e9 : (n.kids.length + 1) / 2 - 1 + 1 = (n.kids.length + 1) / 2 := om9
   refine ⟨_, _, _, (n.kids.length + 1) / 2 - 1, Zhk h0 hl r4 hc, ⟨rfl, rfl, ⟨rfl, rfl⟩, ⟨rfl, rfl, rfl⟩, rfl, fun h => absurd h h0, fun _ => ⟨rfl, rfl, om9, rfl, rfl, ?_, ?_, ?_⟩, hk.1, hk.2.1⟩, rfl, rfl, rfl, rfl, fun h => absurd h h0, fun _ => ⟨rfl, rfl⟩, hk.2.2⟩
   ·rw [e9]
   ·rw [e9]
   ·rw [e9]
theorem ZbX {l : List Nd} (hs : SlotsP l) {x : Nd} (hx : 0 ≤ x.slot ∧ x.slot < l.length) (hseen : x.seen ≤ 1099511627776) : SlotsP (l.set x.slot.toNat x) := fun i h => by
 rw [List.length_set] at h
 rw [List.getElem_set]
 split
 ·exact ⟨om9, hseen⟩
 ·exact hs i h
theorem Zf3 {l : List Nd} (hs : SlotsP l) {x : Nd} (hx : x.slot = l.length) (hseen : x.seen ≤ 1099511627776) : SlotsP (l ++ [x]) := fun i h => by
 rw [List.length_append] at h
 by_cases e : i < l.length
 ·rw [List.getElem_append_left e]; exact hs i e
 ·rw [List.getElem_append_right om9]
  have : i = l.length := by simp at h; omega
  subst this
  simp [hx, hseen]
theorem Zal {l : List Nd} {x : Nd} (hx : 0 ≤ x.slot ∧ x.slot < l.length) (i : Int) : Za (l.set x.slot.toNat x) i = if i = x.slot then x else Za l i := by
 by_cases e : i = x.slot
 ·rw [if_pos e, e]
  have := Zae (l := l.set x.slot.toNat x) (k := x.slot.toNat) (by rw [List.length_set]; omega)
  rw [show ((x.slot.toNat : Nat) : Int) = x.slot by omega] at this
  rw [this, List.getElem_set_self]
 ·rw [if_neg e]
  unfold Za
  split
  ·rw [List.getD_eq_getElem?_getD, List.getD_eq_getElem?_getD, List.getElem?_set_ne om9]
  ·rfl
theorem ZcL {l : List Nd} {x : Nd} (i : Int) : Za (l ++ [x]) i = if i = l.length then x else Za l i := by
 by_cases e : i = l.length
 ·rw [if_pos e, e, Zae (by simp)]
  simp
 ·rw [if_neg e]
  unfold Za
  split
  ·rename_i h0
   rw [List.getD_eq_getElem?_getD, List.getD_eq_getElem?_getD]
   by_cases h1 : i.toNat < l.length
   ·rw [List.getElem?_append_left h1]
   ·rw [List.getElem?_eq_none (by simp; omega), List.getElem?_eq_none om9]
  ·rfl
structure HSeat (K A B : Seat) (k : Str) (h : Nat) : Prop where
 hv : Halves K.n A.n B.n k h
 ha : ∀ q, A.s.has q = (K.s.has q && q.lt k)
 hb : ∀ q, B.s.has q = (K.s.has q && !q.lt k)
 na : A.s.norm = A.s
 nb : B.s.norm = B.s
 ma : ∀ s : Span, (∀ q, s.has q = true → A.s.has q = true) → ZO [Zc s A.n.msgs, Zc s A.ms] = ZO [Zc s K.n.msgs, Zc s K.ms]
 mb : ∀ s : Span, (∀ q, s.has q = true → B.s.has q = true) → ZO [Zc s B.n.msgs, Zc s B.ms] = ZO [Zc s K.n.msgs, Zc s K.ms]
theorem Tree.k_in (t : Tree c l ss) {K : Seat} (hK : K ∈ ss) {a b : Nd} {k : Str} {h : Nat} (hv : Halves K.n a b k h) (hk : K.n.has k = true) : K.s.has k = true ∧ k ≠ K.s.lo := by
 obtain ⟨⟨p1, p2⟩, p3, p4, p5⟩ := (t.seat hK).2.1
 have hend : K.s.opn = true ∨ k.lt K.s.hi = true := by
  unfold Nd.has at hk
  rw [p1, p2, Bool.or_eq_true] at hk
  exact hk
 by_cases h0 : K.n.level = 0
 ·obtain ⟨g1, g2, _, _, _, _, g3, g4⟩ := hv.leaf h0
  have e1 := (Yp.1 (p3 (h - 1) om9)).1
  have e2 := Str.lt_of_le_of_lt e1 (g3 (h - 1) om9 om9)
  exact ⟨Yp.2 ⟨Str.lt_asymm e2, hend⟩, fun e => by rw [← e, Str.lt_irrefl] at e2; cases e2⟩
 ·obtain ⟨_, _, hh, e, _⟩ := hv.inner h0
  have := p4 h hh
  rw [← e] at this
  exact this
theorem HSeat.placedA (t : Tree c l ss) {K A B : Seat} {k : Str} {h : Nat} (hK : K ∈ ss) (H : HSeat K A B k h) (hs : K.s.norm = K.s) (hk : K.n.has k = true)
  (hm : ∀ m ∈ A.n.msgs, ∃ m' ∈ K.n.msgs, (m'.clip ⟨Str.nil, k, false⟩).2 = true ∧ (m'.clip ⟨Str.nil, k, false⟩).1 = m) : PlacedP A := by
 obtain ⟨⟨p1, p2⟩, p3, p4, p5⟩ := (t.seat hK).2.1
 obtain ⟨k1, k2⟩ := t.k_in hK H.hv hk
 obtain ⟨e, hlo⟩ := Zpn hs H.na k1 k2 H.ha
 have eo : A.s.opn = false := by rw [e]
 have eh : A.s.hi = k := by rw [e]
 have el : A.s.lo = K.s.lo := by rw [e]
 refine ⟨⟨by rw [eo]; exact H.hv.aend.2, by rw [eh]; exact H.hv.aend.1⟩, fun i hi => ?_, fun i hi => ?_, fun i hi => ?_⟩
 ·by_cases h0 : K.n.level = 0
  ·obtain ⟨g1, g2, ga, _, _, _, g3, g4⟩ := H.hv.leaf h0
   have hi2 := hi
   rw [ga, List.length_take] at hi2
   simp only [ga, List.getElem_take]
   rw [H.ha, p3 i om9, g3 i om9 om9]; rfl
  ·have ga := (H.hv.inner h0).1
   have gb := (t.inner hK h0).1.1
   rw [ga] at hi
   exact absurd hi om9
 ·by_cases h0 : K.n.level = 0
  ·have ga := (H.hv.leaf h0).2.2.2.2.1
   have gb := (t.leaf hK h0).1
   rw [ga] at hi
   exact absurd hi om9
  ·obtain ⟨_, _, hh, ek, ga, _, _, _⟩ := H.hv.inner h0
   have hi2 := hi
   rw [ga, List.length_take] at hi2
   simp only [ga, List.getElem_take]
   have hr := (YQ (Yc (t.kids hK) h0).2.2.1).1
   have := p4 i om9
   refine ⟨?_, by rw [el]; exact this.2⟩
   rw [H.ha, this.1, ek, JZ hr h i om9 hh]; rfl
 ·obtain ⟨m', hm', hc, e9⟩ := hm _ (List.getElem_mem hi)
  obtain ⟨j, hj, rfl⟩ := List.getElem_of_mem hm'
  refine ZiL fun q hq => ?_
  rw [← e9] at hq
  have g := ZcB ((t.msgs hK).2.1 _ (List.getElem_mem hj)) hc hq
  rw [H.ha, ZiM (p5 j hj) g.1]
  have := (Yp.1 g.2).2
  rcases this with h | h
  ·cases h
  ·rw [show q.lt k = true from h]; rfl
theorem HSeat.placedB (t : Tree c l ss) {K A B : Seat} {k : Str} {h : Nat} (hK : K ∈ ss) (H : HSeat K A B k h) (hs : K.s.norm = K.s) (hk : K.n.has k = true)
  (hm : ∀ m ∈ B.n.msgs, ∃ m' ∈ K.n.msgs, (m'.clip ⟨k, Str.nil, true⟩).2 = true ∧ (m'.clip ⟨k, Str.nil, true⟩).1 = m) : PlacedP B := by
 obtain ⟨⟨p1, p2⟩, p3, p4, p5⟩ := (t.seat hK).2.1
 obtain ⟨k1, k2⟩ := t.k_in hK H.hv hk
 have e := ZiJ hs H.nb k1 H.hb
 have eo : B.s.opn = K.s.opn := by rw [e]
 have eh : B.s.hi = K.s.hi := by rw [e]
 have el : B.s.lo = k := by rw [e]
 refine ⟨⟨by rw [eo, H.hv.bend.2.1]; exact p1, by rw [eh, H.hv.bend.1]; exact p2⟩, fun i hi => ?_, fun i hi => ?_, fun i hi => ?_⟩
 ·by_cases h0 : K.n.level = 0
  ·obtain ⟨g1, g2, _, ga, _, _, g3, g4⟩ := H.hv.leaf h0
   have hi2 := hi
   rw [ga, List.length_drop] at hi2
   simp only [ga, List.getElem_drop]
   rw [H.hb, p3 (h + i) om9, g4 (h + i) om9 om9]; rfl
  ·have ga := (H.hv.inner h0).2.1
   have gb := (t.inner hK h0).1.1
   rw [ga] at hi
   exact absurd hi om9
 ·by_cases h0 : K.n.level = 0
  ·have ga := (H.hv.leaf h0).2.2.2.2.2.1
   have gb := (t.leaf hK h0).1
   rw [ga] at hi
   exact absurd hi om9
  ·obtain ⟨_, _, hh, ek, _, _, ga, _⟩ := H.hv.inner h0
   have hi2 := hi
   rw [ga, List.length_drop] at hi2
   simp only [ga, List.getElem_drop]
   have hr := (YQ (Yc (t.kids hK) h0).2.2.1).1
   have := p4 (h + 1 + i) om9
   have hl := JZ hr (h + 1 + i) h om9 om9
   refine ⟨?_, ?_⟩
   ·rw [H.hb, this.1, ek, Str.lt_asymm hl]; rfl
   ·rw [el, ek]
    intro e2
    rw [e2, Str.lt_irrefl] at hl; cases hl
 ·obtain ⟨m', hm', hc, e9⟩ := hm _ (List.getElem_mem hi)
  obtain ⟨j, hj, rfl⟩ := List.getElem_of_mem hm'
  refine ZiL fun q hq => ?_
  rw [← e9] at hq
  have g := ZcB ((t.msgs hK).2.1 _ (List.getElem_mem hj)) hc hq
  rw [H.hb, ZiM (p5 j hj) g.1]
  have := (Yp.1 g.2).1
  rw [show q.lt k = false from this]; rfl
theorem HSeat.kids (t : Tree c l ss) {K A B : Seat} {k : Str} {h : Nat} {l' : List Nd} (hK : K ∈ ss) (H : HSeat K A B k h)
  (hf : ∀ j, j < K.n.kids.length → Zr l' (K.n.kids.getD j 0) = Zr l (K.n.kids.getD j 0)) : (ZZ l' A).isSome = true ∧ (ZZ l' B).isSome = true ∧ Zk l' A ++ Zk l' B = Zk l K := by
 by_cases h0 : K.n.level = 0
 ·have ea : A.n.level = 0 := by rw [H.hv.la, h0]
  have eb : B.n.level = 0 := by rw [H.hv.lb, h0]
  rw [Zau ea, Zau eb, XA ea, XA eb, XA h0]
  exact ⟨rfl, rfl, rfl⟩
 ·obtain ⟨_, _, hh, ek, g1, g2, g3, g4⟩ := H.hv.inner h0
  have a1 := Zpk (l' := l') (t.kids hK) h0 hh g1 g2 H.hv.la (fun q => by rw [H.ha, ek]) H.ma hf
  have b1 := Zpl (l' := l') (t.kids hK) h0 hh g3 g4 H.hv.lb (fun q => by rw [H.hb, ek]) H.mb hf
  exact ⟨a1.1, b1.1, by rw [a1.2, b1.2, List.take_append_drop]⟩
theorem HSeat.view (t : Tree c l ss) {K A B : Seat} {k : Str} {h : Nat} (hK : K ∈ ss) (H : HSeat K A B k h) (ca : K.n.level = 0 → Zc A.s A.ms = Zc A.s K.ms) (cb : K.n.level = 0 → Zc B.s B.ms = Zc B.s K.ms) :
  (ZF [A, B]).flatMap YD = (ZF [K]).flatMap YD := by
 by_cases h0 : K.n.level = 0
 ·have ea : A.n.level = 0 := by rw [H.hv.la, h0]
  have eb : B.n.level = 0 := by rw [H.hv.lb, h0]
  obtain ⟨g1, g2, ga, gb, _, _, g3, g4⟩ := H.hv.leaf h0
  have := Zpo (t.rows hK) (t.fits K hK).2 ga gb H.ha H.hb g3 g4 (ca h0) (cb h0)
  simp only [ZF, List.filter_cons, ea, eb, h0, decide_true, if_true, List.filter_nil, List.flatMap_cons, List.flatMap_nil, List.append_nil]
  exact this
 ·have ea : ¬ A.n.level = 0 := by rw [H.hv.la]; exact h0
  have eb : ¬ B.n.level = 0 := by rw [H.hv.lb]; exact h0
  simp [ZF, List.filter_cons, ea, eb, h0]
theorem Za8 {c : Cfg} {n : Nd} (hc : CfgR c) (hR : n.R c.fan c.leaf c.bud) : NdS n := by
 obtain ⟨⟨q1, q2, q3⟩, q4, q5, q6⟩ := hR
 obtain ⟨c1, c2, c3, c4, c5⟩ := hc
 have hh : n.high.b.size ≤ 4000 := by
  cases e : n.top
  ·have := (q5 e).2.1; omega
  ·rw [(q4 e).1]; decide
 by_cases h0 : n.level = 0
 ·rw [if_pos h0] at q6
  obtain ⟨r1, r2, r3, r4⟩ := q6
  have e1 : n.msgs = [] := List.eq_nil_of_length_eq_zero om9
  have e2 : n.pivots = [] := List.eq_nil_of_length_eq_zero om9
  refine ⟨om9, om9, om9, om9, hh, (by rw [e1]; intro m hm; cases hm), (by rw [e2]; intro m hm; cases hm), fun p hp => ?_⟩
  have := (J1.1 r3).1 p hp
  exact ⟨by have := this.1; omega, by have := this.2; omega⟩
 ·rw [if_neg h0] at q6
  obtain ⟨⟨r1, r2, r3⟩, r4, r5, r6, r7, r8, r9⟩ := q6
  have e1 : n.rows = [] := List.eq_nil_of_length_eq_zero r1
  have hp := (YQ r4).2
  have hm : ∀ m ∈ n.msgs, m.R := (MsgsR.iff.1 r5).1
  have hl := ZgH hm
  refine ⟨om9, om9, om9, om9, hh, fun m h => ?_, fun p h => ?_, (by rw [e1]; intro m hm; cases hm)⟩
  ·have := (hm m h).1
   exact ⟨om9, om9, om9⟩
  ·obtain ⟨i, hi, rfl⟩ := List.getElem_of_mem h
   have := (r8 i hi).2.1; omega
theorem ZdM {c : Cfg} {l : List Nd} (hc : CfgR c) (hl : l.length ≤ 4096) (h : ∀ n ∈ l, n.R c.fan c.leaf c.bud) : Sml l := ⟨hl, fun n hn => Za8 hc (h n hn)⟩
theorem ZaJ {l : List Nd} (hs : SlotsP l) : (l.map fun n : Nd => n.slot) = (List.range l.length).map fun i : Nat => (i : Int) := by
 refine List.ext_getElem (by simp) fun i hi hj => ?_
 simp only [List.getElem_map, List.getElem_range]
 exact (hs i (by simpa using hi)).1
theorem ZdN {f : Seat → List Seat} : ∀ {L : List Seat}, (∀ y ∈ L, f y = [y]) → L.flatMap f = L
 | [], _ => rfl
 | y :: L, h => by rw [List.flatMap_cons, h y (by simp), ZdN fun z hz => h z (List.mem_cons_of_mem _ hz)]; rfl
theorem Zf4 {f : Seat → List Seat} : ∀ {L : List Seat}, (∀ x ∈ L, (ZF (f x)).flatMap YD = (ZF [x]).flatMap YD) → (ZF (L.flatMap f)).flatMap YD = (ZF L).flatMap YD
 | [], _ => rfl
 | x :: L, h => by
  have ih := Zf4 (f := f) (L := L) fun z hz => h z (List.mem_cons_of_mem _ hz)
  have e1 : ZF ((x :: L).flatMap f) = ZF (f x) ++ ZF (L.flatMap f) := by unfold ZF; rw [List.flatMap_cons, List.filter_append]
  have e2 : ZF (x :: L) = ZF [x] ++ ZF L := by unfold ZF; rw [← List.filter_append]; rfl
  rw [e1, e2, List.flatMap_append, List.flatMap_append, h x (by simp), ih]
theorem Zj5 {f K K' : Seat → List Seat} : ∀ {L : List Seat}, (∀ x ∈ L, (f x).flatMap K' = (K x).flatMap f) → (L.flatMap f).flatMap K' = (L.flatMap K).flatMap f
 | [], _ => rfl
 | x :: L, h => by
  rw [List.flatMap_cons, List.flatMap_cons, List.flatMap_append, List.flatMap_append, h x (by simp), Zj5 fun z hz => h z (List.mem_cons_of_mem _ hz)]
def Y6 (n : Nd) (i : Nat) (k : Str) (v : Int) : Nd := { n with pivots := (n.pivots.take i ++ [k]) ++ n.pivots.drop i, kids := (n.kids.take (i + 1) ++ [v]) ++ n.kids.drop (i + 1) }
def ZT (l : List Nd) (P : Nd) (i : Nat) (a b : Nd) (k : Str) : List Nd := ((l.set a.slot.toNat a).set P.slot.toNat (Y6 P i k l.length)) ++ [b]
structure PartOf (c : Cfg) (l : List Nd) (ss : List Seat) (P : Seat) (i : Nat) (a b : Nd) (k : Str) (h : Nat) : Prop where
 t : Tree c l ss
 mem : P ∈ ss
 h0 : ¬ P.n.level = 0
 hi : i < P.n.kids.length
 hv : Halves (Zb l P i).n a b k h
 sa : a.slot = (Zb l P i).n.slot
 sb : b.slot = l.length
 ea : a.seen = (Zb l P i).n.seen
 eb : b.seen = (Zb l P i).n.seen
 m0 : (Zb l P i).n.level = 0 → a.msgs = (Zb l P i).n.msgs ∧ b.msgs = (Zb l P i).n.msgs
 m1 : ¬ (Zb l P i).n.level = 0 → a.msgs = Zc ⟨Str.nil, k, false⟩ (Zb l P i).n.msgs ∧ b.msgs = Zc ⟨k, Str.nil, true⟩ (Zb l P i).n.msgs
 nk : (Zb l P i).n.has k = true
 aR : a.R c.fan c.leaf c.bud
 bR : b.R c.fan c.leaf c.bud
 kin : (Zf P.n.pivots (i : Int)).has k = true
 klo : ¬ k = (Zf P.n.pivots (i : Int)).lo
 full : (P.n.kids.length : Int) < c.fan
 room : (l.length : Int) < c.slots
 few : l.length < 4096
namespace PartOf
variable {c : Cfg} {l : List Nd} {ss : List Seat} {P : Seat} {i : Nat} {a b : Nd} {k : Str} {h : Nat}
theorem km (p : PartOf c l ss P i a b k h) : Zb l P i ∈ ss ∧ (Zb l P i).n.level = P.n.level - 1 := by
 have := p.t.at p.mem p.h0 p.hi
 exact ⟨this.1, this.2.2.2⟩
theorem ne (p : PartOf c l ss P i a b k h) {x y : Seat} (hx : x ∈ ss) (hy : y ∈ ss) (hl : x.n.level ≠ y.n.level) : x.n.slot ≠ y.n.slot := fun e => hl (by rw [p.t.uniq hx hy e])
theorem ksl (p : PartOf c l ss P i a b k h) : (Zb l P i).n.slot ≠ P.n.slot := p.ne p.km.1 p.mem (by have := p.km.2; omega)
theorem sin (p : PartOf c l ss P i a b k h) {x : Seat} (hx : x ∈ ss) : 0 ≤ x.n.slot ∧ x.n.slot < l.length := (p.t.nd hx).1
theorem lseen (p : PartOf c l ss P i a b k h) {x : Seat} (hx : x ∈ ss) : x.n.seen ≤ 1099511627776 := by
 obtain ⟨j, hj, e⟩ := List.getElem_of_mem (p.t.nd hx).2.2
 rw [← e]; exact (p.t.slot j hj).2
theorem slots (p : PartOf c l ss P i a b k h) : SlotsP (ZT l P.n i a b k) := by
 have hk := p.sin p.km.1
 have hp := p.sin p.mem
 have h1 := ZbX p.t.slot (x := a) (by rw [p.sa]; exact hk) (by rw [p.ea]; exact p.lseen p.km.1)
 have h2 := ZbX h1 (x := Y6 P.n i k l.length) (by rw [List.length_set]; exact hp) (p.lseen p.mem)
 exact Zf3 h2 (by rw [List.length_set, List.length_set]; exact p.sb) (by rw [p.eb]; exact p.lseen p.km.1)
theorem len (p : PartOf c l ss P i a b k h) : (ZT l P.n i a b k).length = l.length + 1 := by
 unfold ZT; rw [List.length_append, List.length_set, List.length_set]; rfl
theorem get (p : PartOf c l ss P i a b k h) (s : Int) : Za (ZT l P.n i a b k) s = if s = l.length then b else if s = P.n.slot then Y6 P.n i k l.length else if s = (Zb l P i).n.slot then a else Za l s := by
 have hk := p.sin p.km.1
 have hp := p.sin p.mem
 unfold ZT
 rw [ZcL, List.length_set, List.length_set]
 split
 ·rfl
 ·have e := Zal (l := l.set a.slot.toNat a) (x := Y6 P.n i k l.length) (by rw [List.length_set]; exact hp) s
  rw [show (Y6 P.n i k l.length).slot = P.n.slot from rfl] at e
  rw [e]
  split
  ·rfl
  ·rw [Zal (by rw [p.sa]; exact hk), p.sa]
theorem find (p : PartOf c l ss P i a b k h) (s : Int) : Zr (ZT l P.n i a b k) s = (if s = l.length then b else if s = P.n.slot then Y6 P.n i k l.length else if s = (Zb l P i).n.slot then a else Za l s, decide (0 ≤ s ∧ s < (l.length : Int) + 1)) := by
 rw [Zaw p.slots, p.get, p.len]
 congr 1
theorem find_x (p : PartOf c l ss P i a b k h) {x : Seat} (hx : x ∈ ss) (h1 : x.n.slot ≠ P.n.slot) (h2 : x.n.slot ≠ (Zb l P i).n.slot) : Zr (ZT l P.n i a b k) x.n.slot = Zr l x.n.slot := by
 have := p.sin hx
 rw [p.find, if_neg om9, if_neg h1, if_neg h2, Zaw p.t.slot, decide_eq_true om9, decide_eq_true om9]
theorem find_p (p : PartOf c l ss P i a b k h) : Zr (ZT l P.n i a b k) P.n.slot = (Y6 P.n i k l.length, true) := by
 have := p.sin p.mem
 rw [p.find, if_neg om9, if_pos rfl, decide_eq_true om9]
theorem find_k (p : PartOf c l ss P i a b k h) : Zr (ZT l P.n i a b k) (Zb l P i).n.slot = (a, true) := by
 have := p.sin p.km.1
 rw [p.find, if_neg om9, if_neg p.ksl, if_pos rfl, decide_eq_true om9]
theorem find_y (p : PartOf c l ss P i a b k h) : Zr (ZT l P.n i a b k) (l.length : Int) = (b, true) := by
 rw [p.find, if_pos rfl, decide_eq_true om9]
noncomputable def nP (l : List Nd) (P : Seat) (i : Nat) (k : Str) : Seat := ⟨Y6 P.n i k l.length, P.s, P.ms⟩
noncomputable def nA (l : List Nd) (P : Seat) (i : Nat) (a b : Nd) (k : Str) : Seat := Zb (ZT l P.n i a b k) (nP l P i k) i
noncomputable def nB (l : List Nd) (P : Seat) (i : Nat) (a b : Nd) (k : Str) : Seat := Zb (ZT l P.n i a b k) (nP l P i k) (i + 1)
theorem slot_at (p : PartOf c l ss P i a b k h) {x : Seat} (hx : x ∈ ss) (h0 : ¬ x.n.level = 0) {j : Nat} (hj : j < x.n.kids.length) : x.n.kids.getD j 0 = (Zb l x j).n.slot := by
 have e := (p.t.at hx h0 hj)
 rw [List.getD_eq_getElem?_getD, List.getElem?_eq_getElem hj, e.2.2.1, (YN p.t.slot e.2.1).1]; rfl
theorem kid_j (p : PartOf c l ss P i a b k h) (j : Nat) : (nP l P i k).n.kids.getD j 0 = if j ≤ i then P.n.kids.getD j 0 else if j = i + 1 then (l.length : Int) else P.n.kids.getD (j - 1) 0 := by
 have hi := p.hi
 show ((P.n.kids.take (i + 1) ++ [(l.length : Int)]) ++ P.n.kids.drop (i + 1)).getD j 0 = _
 rw [List.getD_eq_getElem?_getD, List.getD_eq_getElem?_getD, List.getD_eq_getElem?_getD]
 have l1 : (P.n.kids.take (i + 1)).length = i + 1 := by rw [List.length_take]; omega
 by_cases h1 : j ≤ i
 ·rw [if_pos h1, List.getElem?_append_left (by rw [List.length_append, l1]; omega), List.getElem?_append_left om9, List.getElem?_take, if_pos om9]
 ·rw [if_neg h1]
  by_cases h2 : j = i + 1
  ·rw [if_pos h2, h2, List.getElem?_append_left (by rw [List.length_append, l1]; simp), List.getElem?_append_right om9, l1]; simp
  ·rw [if_neg h2, List.getElem?_append_right (by rw [List.length_append, l1]; simp; omega), List.getElem?_drop, List.length_append, l1]
   congr 2
   simp; omega
theorem rt (p : PartOf c l ss P i a b k h) : Z2 P.n.pivots = true ∧ P.n.kids.length = P.n.pivots.length + 1 := YQ (Yc (p.t.kids p.mem) p.h0).2.2.1
theorem rt' (p : PartOf c l ss P i a b k h) : Ys (nP l P i k).n.pivots (nP l P i k).n.kids.length = true := Zth (Yc (p.t.kids p.mem) p.h0).2.2.1 p.hi p.kin p.klo
theorem klen (p : PartOf c l ss P i a b k h) : (nP l P i k).n.kids.length = P.n.kids.length + 1 := by
 have := p.hi
 show ((P.n.kids.take (i + 1) ++ [(l.length : Int)]) ++ P.n.kids.drop (i + 1)).length = _
 simp; omega
theorem kroute (p : PartOf c l ss P i a b k h) : Zg P.n.pivots k = i := by
 have h1 := p.rt
 have h2 := p.kin
 rw [Xv h1.1 k (by have := p.hi; omega), decide_eq_true_eq] at h2
 exact h2.symm
theorem route (p : PartOf c l ss P i a b k h) (q : Str) : (q.lt k = true → Zg (nP l P i k).n.pivots q = Zg P.n.pivots q ∧ Zg P.n.pivots q ≤ i) ∧ (q.lt k = false → Zg (nP l P i k).n.pivots q = Zg P.n.pivots q + 1 ∧ i ≤ Zg P.n.pivots q) := by
 have e := ZiF P.n.pivots i k q
 have hk := p.kroute
 constructor
 ·intro hq
  rw [if_pos hq] at e
  have := Zcz (P := P.n.pivots) (p := k) (q := q) (Str.lt_asymm hq)
  exact ⟨by rw [← Nat.add_zero (Zg P.n.pivots q)]; exact e, om9⟩
 ·intro hq
  rw [if_neg (by simp [hq])] at e
  have := Zcz (P := P.n.pivots) (p := q) (q := k) hq
  exact ⟨e, om9⟩
theorem shas (p : PartOf c l ss P i a b k h) {j : Nat} (hj : j ≤ P.n.kids.length) (q : Str) : ((nP l P i k).s.meet (Zf (nP l P i k).n.pivots (j : Int))).has q = (P.s.has q && decide (j = Zg (nP l P i k).n.pivots q)) := by
 obtain ⟨h1, h2⟩ := YQ p.rt'
 have := p.klen
 rw [ZN, Xv h1 q om9]; rfl
theorem khas (p : PartOf c l ss P i a b k h) {j : Nat} (hj : j < P.n.kids.length) (q : Str) : (Zb l P j).s.has q = (P.s.has q && decide (j = Zg P.n.pivots q)) := Zbf (Yc (p.t.kids p.mem) p.h0).2.2.1 hj q
theorem ha (p : PartOf c l ss P i a b k h) (q : Str) : (nA l P i a b k).s.has q = ((Zb l P i).s.has q && q.lt k) := by
 have h1 := p.shas (j := i) (by have := p.hi; omega) q
 have h2 := p.khas p.hi q
 show ((nP l P i k).s.meet _).has q = _
 rw [h1, h2]
 cases hq : q.lt k
 ·have := (p.route q).2 hq
  rw [decide_eq_false om9]; simp
 ·have := (p.route q).1 hq
  rw [this.1]; simp
theorem hb (p : PartOf c l ss P i a b k h) (q : Str) : (nB l P i a b k).s.has q = ((Zb l P i).s.has q && !q.lt k) := by
 have h1 := p.shas (j := i + 1) (by have := p.hi; omega) q
 have h2 := p.khas p.hi q
 show ((nP l P i k).s.meet (Zf _ ((i + 1 : Nat) : Int))).has q = _
 rw [h1, h2]
 cases hq : q.lt k
 ·have := (p.route q).2 hq
  rw [this.1]; simp
 ·have := (p.route q).1 hq
  rw [decide_eq_false (show ¬ i + 1 = Zg (nP l P i k).n.pivots q by omega)]; simp
theorem ams (p : PartOf c l ss P i a b k h) : (nA l P i a b k).ms = Zc (nA l P i a b k).s (Zb l P i).ms := by
 have h1 := (p.t.two p.mem (nA l P i a b k).s).1
 have h2 := (p.t.kid_ms p.mem (p.t.rst P p.mem) i).1
 rw [h2, X9, XG (fun q hq => by rw [p.ha, Bool.and_eq_true] at hq; exact hq.1), XG (fun q hq => by rw [p.ha, Bool.and_eq_true] at hq; exact hq.1), ← h1]
 rfl
theorem bms (p : PartOf c l ss P i a b k h) : (nB l P i a b k).ms = Zc (nB l P i a b k).s (Zb l P i).ms := by
 have h1 := (p.t.two p.mem (nB l P i a b k).s).1
 have h2 := (p.t.kid_ms p.mem (p.t.rst P p.mem) i).1
 rw [h2, X9, XG (fun q hq => by rw [p.hb, Bool.and_eq_true] at hq; exact hq.1), XG (fun q hq => by rw [p.hb, Bool.and_eq_true] at hq; exact hq.1), ← h1]
 rfl
theorem an (p : PartOf c l ss P i a b k h) : (nA l P i a b k).n = a := by
 show (Zr _ ((nP l P i k).n.kids.getD i 0)).1 = a
 rw [p.kid_j, if_pos (Nat.le_refl i), p.slot_at p.mem p.h0 p.hi, p.find_k]
theorem bn (p : PartOf c l ss P i a b k h) : (nB l P i a b k).n = b := by
 show (Zr _ ((nP l P i k).n.kids.getD (i + 1) 0)).1 = b
 rw [p.kid_j, if_neg om9, if_pos rfl, p.find_y]
theorem hs (p : PartOf c l ss P i a b k h) : HSeat (Zb l P i) (nA l P i a b k) (nB l P i a b k) k h := by
 refine ⟨by rw [p.an, p.bn]; exact p.hv, p.ha, p.hb, XN _ _, XN _ _, fun s hs => ?_, fun s hs => ?_⟩
 ·rw [p.an, p.ams, XG hs]
  by_cases h0 : (Zb l P i).n.level = 0
  ·rw [(p.m0 h0).1]
  ·rw [(p.m1 h0).1, XG fun q hq => ?_]
   have := hs q hq
   rw [p.ha, Bool.and_eq_true] at this
   exact Yp.2 ⟨Str.nil_le q, .inr this.2⟩
 ·rw [p.bn, p.bms, XG hs]
  by_cases h0 : (Zb l P i).n.level = 0
  ·rw [(p.m0 h0).2]
  ·rw [(p.m1 h0).2, XG fun q hq => ?_]
   have := hs q hq
   rw [p.hb, Bool.and_eq_true] at this
   exact Yp.2 ⟨by simpa using this.2, .inl rfl⟩
end PartOf
namespace PartOf
variable {c : Cfg} {l : List Nd} {ss : List Seat} {P : Seat} {i : Nat} {a b : Nd} {k : Str} {h : Nat}
noncomputable def fP (l : List Nd) (P : Seat) (i : Nat) (a b : Nd) (k : Str) (x : Seat) : List Seat :=
 if x.n.slot = (Zb l P i).n.slot then [nA l P i a b k, nB l P i a b k] else if x.n.slot = P.n.slot then [nP l P i k] else [x]
theorem f_k : fP l P i a b k (Zb l P i) = [nA l P i a b k, nB l P i a b k] := if_pos rfl
theorem f_p (p : PartOf c l ss P i a b k h) : fP l P i a b k P = [nP l P i k] := by
 unfold fP; rw [if_neg p.ksl.symm, if_pos rfl]
theorem f_x {x : Seat} (h1 : x.n.slot ≠ P.n.slot) (h2 : x.n.slot ≠ (Zb l P i).n.slot) : fP l P i a b k x = [x] := by
 unfold fP; rw [if_neg h2, if_neg h1]
theorem fixK (p : PartOf c l ss P i a b k h) : (ZZ (ZT l P.n i a b k) (nA l P i a b k)).isSome = true ∧ (ZZ (ZT l P.n i a b k) (nB l P i a b k)).isSome = true ∧ Zk (ZT l P.n i a b k) (nA l P i a b k) ++ Zk (ZT l P.n i a b k) (nB l P i a b k) = Zk l (Zb l P i) := by
 refine HSeat.kids p.t p.km.1 p.hs fun j hj => ?_
 by_cases h0 : (Zb l P i).n.level = 0
 ·have := (p.t.leaf p.km.1 h0).1
  omega
 ·have e := p.t.at p.km.1 h0 hj
  have g := p.km.2
  rw [p.slot_at p.km.1 h0 hj]
  exact p.find_x e.1 (p.ne e.1 p.mem om9) (p.ne e.1 p.km.1 om9)
theorem e_lo (p : PartOf c l ss P i a b k h) {j : Nat} (hj : j < i) : Zr (ZT l P.n i a b k) ((nP l P i k).n.kids.getD j 0) = Zr l (P.n.kids.getD j 0) := by
 have hi := p.hi
 have e := p.t.at p.mem p.h0 (j := j) om9
 have hkl := (Yc (p.t.kids p.mem) p.h0)
 rw [p.kid_j, if_pos om9, p.slot_at p.mem p.h0 om9]
 refine p.find_x e.1 (p.ne e.1 p.mem om9) fun e2 => ?_
 have := p.t.kid_nd p.mem (i := j) (j := i) (by rw [hkl.1, JV]; omega) (by rw [hkl.1, JV]; omega) (by rw [(p.t.kidsD_at p.mem p.h0).2, (p.t.kidsD_at p.mem p.h0).2]; exact e2)
 omega
theorem e_hi (p : PartOf c l ss P i a b k h) {j : Nat} (hj : i < j) (hj2 : j < P.n.kids.length) : Zr (ZT l P.n i a b k) ((nP l P i k).n.kids.getD (j + 1) 0) = Zr l (P.n.kids.getD j 0) := by
 have hi := p.hi
 have e := p.t.at p.mem p.h0 (j := j) om9
 have hkl := (Yc (p.t.kids p.mem) p.h0)
 rw [p.kid_j, if_neg om9, if_neg om9, show j + 1 - 1 = j from rfl, p.slot_at p.mem p.h0 om9]
 refine p.find_x e.1 (p.ne e.1 p.mem om9) fun e2 => ?_
 have := p.t.kid_nd p.mem (i := j) (j := i) (by rw [hkl.1, JV]; omega) (by rw [hkl.1, JV]; omega) (by rw [(p.t.kidsD_at p.mem p.h0).2, (p.t.kidsD_at p.mem p.h0).2]; exact e2)
 omega
theorem k_lo (p : PartOf c l ss P i a b k h) {j : Nat} (hj : j < i) : Zb (ZT l P.n i a b k) (nP l P i k) j = Zb l P j := by
 have hi := p.hi
 refine ZbJ (by rw [p.e_lo hj]) (fun q => ?_) fun s _ => rfl
 show _ = (Zb l P j).s.has q
 rw [p.shas om9, p.khas om9]
 cases hq : q.lt k
 ·have := (p.route q).2 hq
  rw [decide_eq_false (show ¬ j = Zg (nP l P i k).n.pivots q by omega), decide_eq_false (show ¬ j = Zg P.n.pivots q by omega)]
 ·rw [((p.route q).1 hq).1]
theorem k_hi (p : PartOf c l ss P i a b k h) {j : Nat} (hj : i < j) (hj2 : j < P.n.kids.length) : Zb (ZT l P.n i a b k) (nP l P i k) (j + 1) = Zb l P j := by
 refine ZbJ (by rw [p.e_hi hj hj2]) (fun q => ?_) fun s _ => rfl
 show _ = (Zb l P j).s.has q
 rw [p.shas om9, p.khas om9]
 cases hq : q.lt k
 ·rw [((p.route q).2 hq).1]; simp
 ·have := (p.route q).1 hq
  rw [decide_eq_false (show ¬ j + 1 = Zg (nP l P i k).n.pivots q by omega), decide_eq_false (show ¬ j = Zg P.n.pivots q by omega)]
theorem fixP (p : PartOf c l ss P i a b k h) : (ZZ (ZT l P.n i a b k) (nP l P i k)).isSome = true ∧ Zk (ZT l P.n i a b k) (nP l P i k) = (Zk l P).flatMap (fP l P i a b k) := by
 obtain ⟨h1, h2, h3, h4⟩ := Yc (p.t.kids p.mem) p.h0
 have hi := p.hi
 have hkl := p.klen
 have hkm := p.km.2
 obtain ⟨g1, g2⟩ := ZaG (l := ZT l P.n i a b k) (x := nP l P i k) h2 p.rt' fun j hj => by
  by_cases c1 : j < i
  ·rw [ZbK (l' := l) (y := P) (j := j) (p.e_lo c1) rfl]; exact h4 j om9
  ·by_cases c2 : j = i
   ·subst c2
    unfold YS
    rw [p.kid_j, if_pos (Nat.le_refl _), p.slot_at p.mem p.h0 p.hi, p.find_k]
    simp only [Bool.true_and, decide_eq_true_eq]
    rw [p.hv.la, hkm]; rfl
   ·by_cases c3 : j = i + 1
    ·subst c3
     unfold YS
     rw [p.kid_j, if_neg om9, if_pos rfl, p.find_y]
     simp only [Bool.true_and, decide_eq_true_eq]
     rw [p.hv.lb, hkm]; rfl
    ·obtain ⟨q, rfl⟩ : ∃ q, j = q + 1 := ⟨j - 1, om9⟩
     rw [ZbK (l' := l) (y := P) (j := q) (p.e_hi om9 om9) rfl]; exact h4 q om9
 refine ⟨g1, ?_⟩
 obtain ⟨r, hr⟩ : ∃ r, P.n.kids.length = i + (1 + r) := ⟨P.n.kids.length - (i + 1), om9⟩
 rw [g2, h1, hkl, hr, show i + (1 + r) + 1 = i + (2 + r) by omega]
 have hf : ∀ j, j < P.n.kids.length → j ≠ i → fP l P i a b k (Zb l P j) = [Zb l P j] := fun j hj hne => by
  have e := p.t.at p.mem p.h0 hj
  refine f_x (p.ne e.1 p.mem om9) fun e2 => ?_
  have := p.t.kid_nd p.mem (i := j) (j := i) (by rw [h1, JV]; omega) (by rw [h1, JV]; omega) (by rw [(p.t.kidsD_at p.mem p.h0).2, (p.t.kidsD_at p.mem p.h0).2]; exact e2)
  exact hne this
 unfold YL
 rw [show List.range (i + (2 + r)) = List.range i ++ (List.range (2 + r)).map (i + ·) from List.range_add, show List.range (i + (1 + r)) = List.range i ++ (List.range (1 + r)).map (i + ·) from List.range_add, List.map_append, List.map_append, List.flatMap_append, List.map_map, List.map_map]
 congr 1
 ·rw [ZdN fun y hy => ?_]
  ·exact List.map_congr_left fun j hj => p.k_lo (List.mem_range.1 hj)
  ·obtain ⟨j, hj, rfl⟩ := List.mem_map.1 hy
   have := List.mem_range.1 hj
   exact hf j om9 om9
 ·rw [show List.range (2 + r) = List.range 2 ++ (List.range r).map (2 + ·) from List.range_add, show List.range (1 + r) = List.range 1 ++ (List.range r).map (1 + ·) from List.range_add, List.map_append, List.map_append, List.flatMap_append, List.map_map, List.map_map]
  congr 1
  ·show [Zb (ZT l P.n i a b k) (nP l P i k) (i + 0), Zb (ZT l P.n i a b k) (nP l P i k) (i + 1)] = ([Zb l P (i + 0)]).flatMap _
   rw [List.flatMap_cons, List.flatMap_nil, List.append_nil, Nat.add_zero, f_k]; rfl
  ·rw [ZdN fun y hy => ?_]
   ·refine List.map_congr_left fun j hj => ?_
    have := List.mem_range.1 hj
    have e := p.k_hi (j := i + (1 + j)) om9 om9
    rw [show i + (1 + j) + 1 = i + (2 + j) by omega] at e
    exact e
   ·obtain ⟨j, hj, rfl⟩ := List.mem_map.1 hy
    have := List.mem_range.1 hj
    exact hf (i + (1 + j)) om9 om9
theorem kid_in (p : PartOf c l ss P i a b k h) : Zb l P i ∈ Zk l P := by
 have h1 := (Yc (p.t.kids p.mem) p.h0).1
 rw [h1]
 exact List.mem_map.2 ⟨i, List.mem_range.2 p.hi, rfl⟩
theorem fixX (p : PartOf c l ss P i a b k h) {x : Seat} (hx : x ∈ ss) (n1 : x.n.slot ≠ P.n.slot) : (ZZ (ZT l P.n i a b k) x).isSome = true ∧ Zk (ZT l P.n i a b k) x = (Zk l x).flatMap (fP l P i a b k) := by
 by_cases h0 : x.n.level = 0
 ·rw [Zau h0, XA h0, XA h0]; exact ⟨rfl, rfl⟩
 ·obtain ⟨h1, h2, h3, h4⟩ := Yc (p.t.kids hx) h0
  have key : ∀ j, j < x.n.kids.length → fP l P i a b k (Zb l x j) = [Zb (ZT l P.n i a b k) x j] ∧ YS (ZT l P.n i a b k) x j = true := fun j hj => by
   have e := p.t.at hx h0 hj
   have hin : Zb l x j ∈ Zk l x := by rw [h1]; exact List.mem_map.2 ⟨j, List.mem_range.2 hj, rfl⟩
   have nk : (Zb l x j).n.slot ≠ (Zb l P i).n.slot := fun e2 => n1 (by rw [p.t.parent hx p.mem hin p.kid_in e2])
   by_cases c1 : (Zb l x j).n.slot = P.n.slot
   ·have eP := p.t.uniq e.1 p.mem c1
    have ef : Zr (ZT l P.n i a b k) (x.n.kids.getD j 0) = (Y6 P.n i k l.length, true) := by rw [p.slot_at hx h0 hj, c1, p.find_p]
    have ek : Zb (ZT l P.n i a b k) x j = ⟨Y6 P.n i k l.length, (Zb l x j).s, (Zb l x j).ms⟩ := by
     show (⟨(Zr _ _).1, _, _⟩ : Seat) = _
     rw [ef]; rfl
    refine ⟨?_, ?_⟩
    ·rw [ek, eP, p.f_p]; rfl
    ·unfold YS
     rw [ef]
     simp only [Bool.true_and, decide_eq_true_eq]
     have := e.2.2.2
     rw [eP] at this
     exact this
   ·have ef : Zr (ZT l P.n i a b k) (x.n.kids.getD j 0) = Zr l (x.n.kids.getD j 0) := by rw [p.slot_at hx h0 hj, p.find_x e.1 c1 nk]
    refine ⟨?_, ?_⟩
    ·rw [f_x c1 nk, ZbJ (l := l) (l' := ZT l P.n i a b k) (x := x) (y := x) (i := j) (j := j) (by rw [ef]) (fun _ => rfl) (fun _ _ => rfl)]
    ·rw [ZbK (l' := l) (y := x) (j := j) ef rfl]; exact h4 j hj
  obtain ⟨g1, g2⟩ := ZaG (l := ZT l P.n i a b k) (x := x) h2 h3 fun j hj => (key j hj).2
  refine ⟨g1, ?_⟩
  rw [g2, h1]
  unfold YL
  rw [List.flatMap_map]
  have : ∀ (L : List Nat), (∀ j ∈ L, j < x.n.kids.length) → L.map (Zb (ZT l P.n i a b k) x) = L.flatMap fun j => fP l P i a b k (Zb l x j) := by
   intro L
   induction L with
   | nil => intro _; rfl
   | cons j L ih =>
    intro hL
    rw [List.map_cons, List.flatMap_cons, (key j (hL j (by simp))).1, ih fun z hz => hL z (List.mem_cons_of_mem _ hz)]; rfl
  exact this _ fun j hj => List.mem_range.1 hj
theorem froot (p : PartOf c l ss P i a b k h) : fP l P i a b k (Zm l 0) = [Zm (ZT l P.n i a b k) 0] := by
 have n2 : (Zm l 0).n.slot ≠ (Zb l P i).n.slot := (p.t.root_kid p.mem p.kid_in).symm
 have e0 := p.t.root0
 by_cases c1 : (Zm l 0).n.slot = P.n.slot
 ·have eP := p.t.uniq p.t.root p.mem c1
  have e : Zm (ZT l P.n i a b k) 0 = ⟨Y6 P.n i k l.length, (Zm l 0).s, (Zm l 0).ms⟩ := by
   show (⟨(Zr _ _).1, _, _⟩ : Seat) = _
   have := p.find_p
   rw [← c1, e0] at this
   rw [this]; rfl
  rw [e, eP, p.f_p]; rfl
 ·rw [f_x c1 n2]
  have := p.find_x p.t.root c1 n2
  rw [e0] at this
  show [(⟨(Zr l 0).1, _, _⟩ : Seat)] = [⟨(Zr _ 0).1, _, _⟩]
  rw [this]
theorem each (p : PartOf c l ss P i a b k h) {x : Seat} (hx : x ∈ ss) : (∀ z ∈ fP l P i a b k x, (ZZ (ZT l P.n i a b k) z).isSome = true) ∧ (fP l P i a b k x).flatMap (Zk (ZT l P.n i a b k)) = (Zk l x).flatMap (fP l P i a b k) := by
 by_cases c1 : x.n.slot = (Zb l P i).n.slot
 ·rw [p.t.uniq hx p.km.1 c1, f_k]
  obtain ⟨g1, g2, g3⟩ := p.fixK
  refine ⟨fun z hz => ?_, ?_⟩
  ·simp only [List.mem_cons, List.not_mem_nil, or_false] at hz
   rcases hz with rfl | rfl
   ·exact g1
   ·exact g2
  ·rw [ZdN (L := Zk l (Zb l P i)) fun y hy => ?_]
   ·simpa using g3
   ·have e := p.t.kid_lvl p.km.1 hy
    have g := p.km.2
    exact f_x (p.ne e.1 p.mem om9) (p.ne e.1 p.km.1 om9)
 ·by_cases c2 : x.n.slot = P.n.slot
  ·rw [p.t.uniq hx p.mem c2, p.f_p]
   refine ⟨fun z hz => ?_, ?_⟩
   ·rw [List.mem_singleton] at hz; rw [hz]; exact p.fixP.1
   ·rw [← p.fixP.2]; simp
  ·rw [f_x c2 c1]
   refine ⟨fun z hz => ?_, ?_⟩
   ·rw [List.mem_singleton] at hz; rw [hz]; exact (p.fixX hx c2).1
   ·rw [← (p.fixX hx c2).2]; simp
theorem fix (p : PartOf c l ss P i a b k h) : ss.flatMap (fP l P i a b k) = Zm (ZT l P.n i a b k) 0 :: (ss.flatMap (fP l P i a b k)).flatMap (Zk (ZT l P.n i a b k)) := by
 rw [Zj5 fun x hx => (p.each hx).2]
 conv => lhs; rw [p.t.fix]
 rw [List.flatMap_cons, p.froot]; rfl
theorem keys_out (p : PartOf c l ss P i a b k h) : ∀ (L : List Seat), (∀ x ∈ L, x ∈ ss ∧ x.n.slot ≠ (Zb l P i).n.slot) → (L.flatMap (fP l P i a b k)).map Seat.key = L.map Seat.key
 | [], _ => rfl
 | x :: L, hL => by
  rw [List.flatMap_cons, List.map_append, p.keys_out L fun z hz => hL z (List.mem_cons_of_mem _ hz), List.map_cons]
  have g := hL x (by simp)
  by_cases c2 : x.n.slot = P.n.slot
  ·rw [p.t.uniq g.1 p.mem c2, p.f_p]; rfl
  ·rw [f_x c2 g.2]; rfl
theorem keys (p : PartOf c l ss P i a b k h) : ∃ S1 S2 : List Key9, ss.map Seat.key = S1 ++ ((Zb l P i).n.slot, (Zb l P i).n.level, (Zb l P i).n.right) :: S2 ∧
  (ss.flatMap (fP l P i a b k)).map Seat.key = S1 ++ ((Zb l P i).n.slot, (Zb l P i).n.level, (l.length : Int)) :: ((l.length : Int), (Zb l P i).n.level, (Zb l P i).n.right) :: S2 := by
 obtain ⟨A, B, e⟩ := List.append_of_mem p.km.1
 have hnd := p.t.nodup_s
 have hA : ∀ x ∈ A, x ∈ ss ∧ x.n.slot ≠ (Zb l P i).n.slot := fun x hx => by
  refine ⟨by rw [e]; exact List.mem_append_left _ hx, fun e2 => ?_⟩
  rw [e, List.map_append, List.nodup_append] at hnd
  exact hnd.2.2 _ (List.mem_map.2 ⟨x, hx, rfl⟩) _ (List.mem_map.2 ⟨Zb l P i, by simp, rfl⟩) e2
 have hB : ∀ x ∈ B, x ∈ ss ∧ x.n.slot ≠ (Zb l P i).n.slot := fun x hx => by
  refine ⟨by rw [e]; exact List.mem_append_right _ (List.mem_cons_of_mem _ hx), fun e2 => ?_⟩
  rw [e, List.map_append, List.nodup_append, List.map_cons, List.nodup_cons] at hnd
  exact hnd.2.1.1 (List.mem_map.2 ⟨x, hx, e2⟩)
 refine ⟨A.map Seat.key, B.map Seat.key, ?_, ?_⟩
 ·conv => lhs; rw [e]
  rw [List.map_append, List.map_cons]; rfl
 ·conv => lhs; rw [e]
  rw [List.flatMap_append, List.flatMap_cons, List.map_append, List.map_append, p.keys_out A hA, p.keys_out B hB, f_k]
  congr 1
  show [Seat.key (nA l P i a b k), Seat.key (nB l P i a b k)] ++ _ = _
  have k1 : Seat.key (nA l P i a b k) = ((Zb l P i).n.slot, (Zb l P i).n.level, (l.length : Int)) := by
   unfold Seat.key; rw [p.an, p.sa, p.hv.la, p.hv.aright, p.sb]
  have k2 : Seat.key (nB l P i a b k) = ((l.length : Int), (Zb l P i).n.level, (Zb l P i).n.right) := by
   unfold Seat.key; rw [p.bn, p.sb, p.hv.lb, p.hv.bend.2.2]
  rw [k1, k2]; rfl
theorem perm (p : PartOf c l ss P i a b k h) : ((ss.flatMap (fP l P i a b k)).map fun x : Seat => x.n.slot).Perm ((ZT l P.n i a b k).map fun n : Nd => n.slot) := by
 obtain ⟨S1, S2, e1, e2⟩ := p.keys
 have h1 : (ss.flatMap (fP l P i a b k)).map (fun x : Seat => x.n.slot) = ((ss.flatMap (fP l P i a b k)).map Seat.key).map (·.1) := by rw [List.map_map]; rfl
 have h2 : ss.map (fun x : Seat => x.n.slot) = (ss.map Seat.key).map (·.1) := by rw [List.map_map]; rfl
 have h3 : ((ss.flatMap (fP l P i a b k)).map fun x : Seat => x.n.slot).Perm ((ss.map fun x : Seat => x.n.slot) ++ [(l.length : Int)]) := by
  rw [h1, h2, e1, e2, List.map_append, List.map_append, List.append_assoc]
  refine List.Perm.append_left _ ?_
  simp only [List.map_cons, List.cons_append]
  exact List.Perm.cons _ (List.perm_append_singleton _ _).symm
 refine h3.trans ?_
 have h4 : ((ZT l P.n i a b k).map fun n : Nd => n.slot) = (l.map fun n : Nd => n.slot) ++ [(l.length : Int)] := by
  rw [ZaJ p.slots, ZaJ p.t.slot, p.len, List.range_succ, List.map_append]; rfl
 rw [h4]
 exact List.Perm.append_right _ p.t.perm_s
end PartOf
namespace PartOf
variable {c : Cfg} {l : List Nd} {ss : List Seat} {P : Seat} {i : Nat} {a b : Nd} {k : Str} {h : Nat}
theorem msA (p : PartOf c l ss P i a b k h) : ∀ m ∈ (nA l P i a b k).n.msgs, ∃ m' ∈ (Zb l P i).n.msgs, (m'.clip ⟨Str.nil, k, false⟩).2 = true ∧ (m'.clip ⟨Str.nil, k, false⟩).1 = m := fun m hm => by
 rw [p.an] at hm
 by_cases h0 : (Zb l P i).n.level = 0
 ·rw [(p.m0 h0).1, p.t.nomsgs p.km.1 h0] at hm; cases hm
 ·rw [(p.m1 h0).1] at hm; exact J0 hm
theorem msB (p : PartOf c l ss P i a b k h) : ∀ m ∈ (nB l P i a b k).n.msgs, ∃ m' ∈ (Zb l P i).n.msgs, (m'.clip ⟨k, Str.nil, true⟩).2 = true ∧ (m'.clip ⟨k, Str.nil, true⟩).1 = m := fun m hm => by
 rw [p.bn] at hm
 by_cases h0 : (Zb l P i).n.level = 0
 ·rw [(p.m0 h0).2, p.t.nomsgs p.km.1 h0] at hm; cases hm
 ·rw [(p.m1 h0).2] at hm; exact J0 hm
theorem kin9 (p : PartOf c l ss P i a b k h) : (Zb l P i).s.has k = true ∧ k ≠ (Zb l P i).s.lo := p.t.k_in p.km.1 p.hv p.nk
theorem phas (p : PartOf c l ss P i a b k h) : P.s.has k = true ∧ k ≠ P.s.lo := by
 obtain ⟨k1, k2⟩ := p.kin9
 have h1 : P.s.has k = true := Zbh (l := l) (j := i) k k1
 refine ⟨h1, fun e => ?_⟩
 have he : (Zb l P i).s.empty = false := by
  cases e9 : (Zb l P i).s.empty
  ·rfl
  ·have := YO.1 e9 k; rw [k1] at this; cases this
 have h2 := Zbh (l := l) (j := i) _ (ZiI he)
 have h3 := (Yp.1 h2).1
 have h4 := (Yp.1 k1).1
 rw [← e] at h3
 exact k2 (Str.lt_total h4 h3)
theorem pR (p : PartOf c l ss P i a b k h) : (Y6 P.n i k l.length).R c.fan c.leaf c.bud := by
 obtain ⟨q1, q4, q5, q6⟩ := (p.t.seat p.mem).1
 rw [if_neg p.h0] at q6
 obtain ⟨⟨r1, r2, r3⟩, r4, r5, r6, r7, r8, r9⟩ := q6
 obtain ⟨⟨p1, p2⟩, _⟩ := (p.t.seat p.mem).2.1
 refine ⟨q1, q4, q5, ?_⟩
 rw [if_neg (show ¬ (Y6 P.n i k l.length).level = 0 from p.h0)]
 have hkl := p.klen
 have hl : (Y6 P.n i k l.length).kids.length = P.n.kids.length + 1 := hkl
 have hf := p.full
 refine ⟨⟨r1, om9, om9⟩, p.rt', r5, r6, fun j hj => ?_, fun j hj => ?_, r9⟩
 ·have hm : (Y6 P.n i k l.length).kids[j] ∈ (P.n.kids.take (i + 1) ++ [(l.length : Int)]) ++ P.n.kids.drop (i + 1) := List.getElem_mem hj
  have all : ∀ z ∈ P.n.kids, 0 ≤ z := fun z hz => by obtain ⟨q, hq, rfl⟩ := List.getElem_of_mem hz; exact r7 q hq
  rcases List.mem_append.1 hm with hm | hm
  ·rcases List.mem_append.1 hm with hm | hm
   ·exact all _ (List.mem_of_mem_take hm)
   ·rw [List.mem_singleton] at hm; rw [hm]; omega
  ·exact all _ (List.mem_of_mem_drop hm)
 ·have hm : (Y6 P.n i k l.length).pivots[j] ∈ (P.n.pivots.take i ++ [k]) ++ P.n.pivots.drop i := List.getElem_mem hj
  have all : ∀ z ∈ P.n.pivots, P.n.parts z := fun z hz => by obtain ⟨q, hq, rfl⟩ := List.getElem_of_mem hz; exact r8 q hq
  rcases List.mem_append.1 hm with hm | hm
  ·rcases List.mem_append.1 hm with hm | hm
   ·exact all _ (List.mem_of_mem_take hm)
   ·rw [List.mem_singleton] at hm; rw [hm]
    refine ⟨p.hv.size.1, p.hv.size.2, ?_⟩
    show (P.n.top || k.lt P.n.high) = true
    rw [p1, p2, Bool.or_eq_true]
    exact (Yp.1 p.phas.1).2
  ·exact all _ (List.mem_of_mem_drop hm)
theorem pP (p : PartOf c l ss P i a b k h) : PlacedP (nP l P i k) := by
 obtain ⟨p0, p3, p4, p5⟩ := (p.t.seat p.mem).2.1
 refine ⟨p0, p3, fun j hj => ?_, p5⟩
 have hm : (nP l P i k).n.pivots[j] ∈ (P.n.pivots.take i ++ [k]) ++ P.n.pivots.drop i := List.getElem_mem hj
 have all : ∀ z ∈ P.n.pivots, P.s.has z = true ∧ z ≠ P.s.lo := fun z hz => by obtain ⟨q, hq, rfl⟩ := List.getElem_of_mem hz; exact p4 q hq
 rcases List.mem_append.1 hm with hm | hm
 ·rcases List.mem_append.1 hm with hm | hm
  ·exact all _ (List.mem_of_mem_take hm)
  ·rw [List.mem_singleton] at hm; rw [hm]; exact p.phas
 ·exact all _ (List.mem_of_mem_drop hm)
theorem seats9 (p : PartOf c l ss P i a b k h) : ∀ z ∈ ss.flatMap (fP l P i a b k), SeatP c z := fun z hz => by
 obtain ⟨x, hx, hz⟩ := List.mem_flatMap.1 hz
 have sK := p.t.seat p.km.1
 have room := p.room
 by_cases c1 : x.n.slot = (Zb l P i).n.slot
 ·rw [p.t.uniq hx p.km.1 c1, f_k] at hz
  simp only [List.mem_cons, List.not_mem_nil, or_false] at hz
  have st : ∀ {s : Span} {ms : List Msg}, ms = Zc s (Zb l P i).ms → ∀ j (hj : j < ms.length), (Zb l P i).n.seen < ms[j].stamp := fun e j hj => by
   subst e
   obtain ⟨m0, hm0, e⟩ := JG (List.getElem_mem hj)
   rw [e]
   obtain ⟨q, hq, rfl⟩ := List.getElem_of_mem hm0
   exact sK.2.2.2 q hq
  rcases hz with rfl | rfl
  ·refine ⟨by rw [p.an]; exact p.aR, HSeat.placedA p.t p.km.1 p.hs (XN _ _) p.nk p.msA, by rw [p.an, p.sa]; exact sK.2.2.1, fun j hj => ?_⟩
   rw [p.an, p.ea]; exact st p.ams j hj
  ·refine ⟨by rw [p.bn]; exact p.bR, HSeat.placedB p.t p.km.1 p.hs (XN _ _) p.nk p.msB, by rw [p.bn, p.sb]; exact room, fun j hj => ?_⟩
   rw [p.bn, p.eb]; exact st p.bms j hj
 ·by_cases c2 : x.n.slot = P.n.slot
  ·rw [p.t.uniq hx p.mem c2, p.f_p, List.mem_singleton] at hz
   rw [hz]
   have sP := p.t.seat p.mem
   exact ⟨p.pR, p.pP, sP.2.2.1, sP.2.2.2⟩
  ·rw [f_x c2 c1, List.mem_singleton] at hz
   rw [hz]; exact p.t.seat hx
theorem tree (p : PartOf c l ss P i a b k h) : Tree c (ZT l P.n i a b k) (ss.flatMap (fP l P i a b k)) := by
 have hfew := p.few
 have hroom := p.room
 refine Zdm p.t.cfg (by rw [p.len]; omega) (ZdM p.t.cfg (by rw [p.len]; omega) fun n hn => ?_) p.slots p.fix (fun z hz => ?_) p.perm ?_ (by rw [p.len]; omega) p.seats9
 ·have old : ∀ n ∈ l, n.R c.fan c.leaf c.bud := fun n hn => by
   have := (p.t.perm.mem_iff).2 hn
   obtain ⟨x, hx, rfl⟩ := List.mem_map.1 this
   exact (p.t.seat hx).1
  unfold ZT at hn
  rcases List.mem_append.1 hn with hn | hn
  ·rcases List.mem_or_eq_of_mem_set hn with hn | rfl
   ·rcases List.mem_or_eq_of_mem_set hn with hn | rfl
    ·exact old n hn
    ·exact p.aR
   ·exact p.pR
  ·rw [List.mem_singleton] at hn; rw [hn]; exact p.bR
 ·obtain ⟨x, hx, hz⟩ := List.mem_flatMap.1 hz
  exact (p.each hx).1 z hz
 ·obtain ⟨S1, S2, e1, e2⟩ := p.keys
  rw [e2]
  have := (ZbI ss).1 p.t.q.1.2.1
  rw [e1] at this
  exact Zfg S1 S2 this
theorem map (p : PartOf c l ss P i a b k h) : Zh (ZT l P.n i a b k) = Zh l := by
 rw [Js p.tree.sts, Js p.t.sts]
 refine Zf4 fun x hx => ?_
 by_cases c1 : x.n.slot = (Zb l P i).n.slot
 ·rw [p.t.uniq hx p.km.1 c1, f_k]
  exact HSeat.view p.t p.km.1 p.hs (fun _ => by rw [p.ams, XG fun _ h => h]) fun _ => by rw [p.bms, XG fun _ h => h]
 ·by_cases c2 : x.n.slot = P.n.slot
  ·rw [p.t.uniq hx p.mem c2, p.f_p]
   have e1 : ¬ P.n.level = 0 := p.h0
   have e2 : ¬ (nP l P i k).n.level = 0 := p.h0
   simp [ZF, List.filter_cons, e1, e2]
  ·rw [f_x c2 c1]
end PartOf
theorem ZrA {c : Cfg} {l : List Nd} {ss : List Seat} (t : Tree c l ss) {P : Seat} {i : Nat} (hP : P ∈ ss) (h0 : ¬ P.n.level = 0) (hi : i < P.n.kids.length) (full : (P.n.kids.length : Int) < c.fan) (room : (l.length : Int) < c.slots) (few : l.length < 4096)
  (hc : (Zq (Zb l P i).n l.length).2.2.2 = true) (ha : (Xi P.n i (Zq (Zb l P i).n l.length).2.2.1 l.length).2 = true) :
  (Xi P.n i (Zq (Zb l P i).n l.length).2.2.1 l.length).1 = Y6 P.n i (Zq (Zb l P i).n l.length).2.2.1 l.length ∧
  ∃ h, PartOf c l ss P i (Zq (Zb l P i).n l.length).1 (Zq (Zb l P i).n l.length).2.1 (Zq (Zb l P i).n l.length).2.2.1 h := by
 have hK := (t.at hP h0 hi).1
 have hR := (t.seat hK).1
 have hRR := Zhq (slot := (l.length : Int)) hR om9 hc
 obtain ⟨a, b, k, h, e, hv, g1, g2, g3, g4, g5, g6, g7⟩ := ZdL (y := (l.length : Int)) hR hc
 rw [e] at ha hRR ⊢
 have hb : (XV P.n.pivots P.n.kids i k l.length).2.length ≠ 0 := fun e0 => by
  rw [Zgr (.inr e0)] at ha; cases ha
 have h3 : (Zf P.n.pivots (i : Int)).has k = true := by
  cases h3 : (Zf P.n.pivots (i : Int)).has k
  ·exact absurd (Zgt (.inr (.inl h3))) hb
  ·rfl
 have h4 : ¬ k = (Zf P.n.pivots (i : Int)).lo := fun h4 => absurd (Zgt (.inr (.inr h4))) hb
 refine ⟨?_, h, ⟨t, hP, h0, hi, hv, g1, g2, g3, g4, g5, g6, g7, hRR.1, hRR.2.1, h3, h4, full, room, few⟩⟩
 rw [Ztn h0 om9 h3 h4]; rfl
theorem ZdO {X : List Msg} (h : Rst X) : ZO [X, []] = X := by
 have := (ZaQ h List.Pairwise.nil fun a _ b hb => by cases hb).1
 rwa [List.append_nil] at this
theorem Zj6 {X : List Msg} (h : Rst X) : ZO [[], X] = X := (ZaQ List.Pairwise.nil h fun a ha => by cases ha).1
def Jj (n : Nd) (k : Str) (x y : Int) : Nd := { n with level := n.level + 1, pivots := [k], kids := [x, y], rows := [], msgs := if n.level = 0 then [] else n.msgs }
def Yu (n z : Nd) (s : Int) : Nd := { z with slot := s, msgs := [], seen := if n.level = 0 then z.seen else 0 }
def Z7 (n : Nd) (x y : Int) : Nd × Nd × Nd × Bool :=
 if (Zq n y).2.2.2 = true then (Jj n (Zq n y).2.2.1 x y, Yu n (Zq n y).1 x, Yu n (Zq n y).2.1 (Zq n y).2.1.slot, true) else (Nd.zero, Nd.zero, Nd.zero, false)
theorem Za9 {n : Nd} {x y : Int} (h : (Zq n y).2.2.2 = true) : Z7 n x y = (Jj n (Zq n y).2.2.1 x y, Yu n (Zq n y).1 x, Yu n (Zq n y).2.1 (Zq n y).2.1.slot, true) := if_pos h
theorem Zj7 {n : Nd} {x y : Int} (h : (Zq n y).2.2.2 = false) : Z7 n x y = (Nd.zero, Nd.zero, Nd.zero, false) := if_neg (by simp [h])
theorem ZrB {n : Nd} {x y : Int} (h : (Zq n y).2.2.2 = true) (h0 : ¬ n.level = 0) : Z7 n x y = ({ n with level := n.level + 1, pivots := [(Zq n y).2.2.1], kids := [x, y], rows := [] }, { (Zq n y).1 with slot := x, msgs := [], seen := 0 }, { (Zq n y).2.1 with msgs := [], seen := 0 }, true) := by
 rw [Za9 h]; unfold Jj Yu; rw [if_neg h0, if_neg h0, if_neg h0]
theorem ZrC {n : Nd} {x y : Int} (h : (Zq n y).2.2.2 = true) (h0 : n.level = 0) : Z7 n x y = ({ n with level := n.level + 1, pivots := [(Zq n y).2.2.1], kids := [x, y], rows := [], msgs := [] }, { (Zq n y).1 with slot := x, msgs := [] }, { (Zq n y).2.1 with msgs := [] }, true) := by
 rw [Za9 h]; unfold Jj Yu; rw [if_pos h0, if_pos h0, if_pos h0]
def ZK (c : Cfg) (n : Nd) : Bool := if n.level = 0 then decide (c.leaf ≤ (n.rows.length : Int)) else decide (c.fan ≤ (n.kids.length : Int))
theorem Zam (n : Nd) (x y : Int) : (Z7 n x y).2.2.2 = (Zq n y).2.2.2 := by
 cases h : (Zq n y).2.2.2
 ·rw [Zj7 h]
 ·rw [Za9 h]
def YV (l : List Nd) (r a b : Nd) : List Nd := (l.set 0 r) ++ [a, b]
structure LiftOf (c : Cfg) (l : List Nd) (ss : List Seat) (a0 b0 : Nd) (k : Str) (h : Nat) : Prop where
 t : Tree c l ss
 hv : Halves (Zm l 0).n a0 b0 k h
 sb : b0.slot = (l.length : Int) + 1
 ea : a0.seen = (Zm l 0).n.seen
 eb : b0.seen = (Zm l 0).n.seen
 nk : (Zm l 0).n.has k = true
 aR : a0.R c.fan c.leaf c.bud
 bR : b0.R c.fan c.leaf c.bud
 room : (l.length : Int) + 1 < c.slots
 few : l.length + 2 ≤ 4096
namespace LiftOf
variable {c : Cfg} {l : List Nd} {ss : List Seat} {a0 b0 : Nd} {k : Str} {h : Nat}
noncomputable def nn (l : List Nd) : Nd := (Zm l 0).n
noncomputable def la (l : List Nd) (a0 : Nd) : Nd := Yu (nn l) a0 (l.length : Int)
noncomputable def lb (l : List Nd) (b0 : Nd) : Nd := Yu (nn l) b0 ((l.length : Int) + 1)
noncomputable def lr (l : List Nd) (k : Str) : Nd := Jj (nn l) k (l.length : Int) ((l.length : Int) + 1)
noncomputable def ll (l : List Nd) (a0 b0 : Nd) (k : Str) : List Nd := YV l (lr l k) (la l a0) (lb l b0)
theorem root0 (p : LiftOf c l ss a0 b0 k h) : (nn l).slot = 0 := p.t.root0
theorem seen (p : LiftOf c l ss a0 b0 k h) : (nn l).seen ≤ 1099511627776 ∧ 0 ≤ (nn l).seen := by
 obtain ⟨j, hj, e⟩ := List.getElem_of_mem (p.t.nd p.t.root).2.2
 have h1 := (p.t.slot j hj).2
 rw [e] at h1
 exact ⟨h1, (p.t.seat p.t.root).1.1.2.2⟩
theorem msgs (p : LiftOf c l ss a0 b0 k h) : (lr l k).msgs = (nn l).msgs := by
 show (if (nn l).level = 0 then [] else (nn l).msgs) = _
 split
 ·rename_i h0; exact (p.t.nomsgs p.t.root h0).symm
 ·rfl
theorem len (p : LiftOf c l ss a0 b0 k h) : (ll l a0 b0 k).length = l.length + 2 := by
 unfold ll YV; rw [List.length_append, List.length_set]; rfl
theorem slots (p : LiftOf c l ss a0 b0 k h) : SlotsP (ll l a0 b0 k) := by
 have hp := p.t.pos
 have hs := p.seen
 have h1 := ZbX p.t.slot (x := lr l k) (by show 0 ≤ (nn l).slot ∧ _; rw [show (lr l k).slot = (nn l).slot from rfl, p.root0]; omega) hs.1
 rw [show (lr l k).slot.toNat = 0 from by rw [show (lr l k).slot = (nn l).slot from rfl, p.root0]; rfl] at h1
 have sA : (la l a0).seen ≤ 1099511627776 := by
  show (if (nn l).level = 0 then a0.seen else 0) ≤ _
  split
  ·rw [p.ea]; exact hs.1
  ·omega
 have sB : (lb l b0).seen ≤ 1099511627776 := by
  show (if (nn l).level = 0 then b0.seen else 0) ≤ _
  split
  ·rw [p.eb]; exact hs.1
  ·omega
 have h2 := Zf3 h1 (x := la l a0) (by rw [List.length_set]; rfl) sA
 have h3 := Zf3 h2 (x := lb l b0) (by rw [List.length_append, List.length_set]; rfl) sB
 rw [List.append_assoc] at h3
 exact h3
theorem get (p : LiftOf c l ss a0 b0 k h) (s : Int) : Za (ll l a0 b0 k) s = if s = (l.length : Int) + 1 then lb l b0 else if s = l.length then la l a0 else if s = 0 then lr l k else Za l s := by
 have hp := p.t.pos
 have e : ll l a0 b0 k = ((l.set (lr l k).slot.toNat (lr l k)) ++ [la l a0]) ++ [lb l b0] := by
  rw [show (lr l k).slot.toNat = 0 from by rw [show (lr l k).slot = (nn l).slot from rfl, p.root0]; rfl, List.append_assoc]; rfl
 have h0 : (lr l k).slot = 0 := p.root0
 rw [e, ZcL, ZcL, List.length_append, List.length_set, Zal (by rw [h0]; omega), h0]
 rfl
theorem find (p : LiftOf c l ss a0 b0 k h) (s : Int) : Zr (ll l a0 b0 k) s = (if s = (l.length : Int) + 1 then lb l b0 else if s = l.length then la l a0 else if s = 0 then lr l k else Za l s, decide (0 ≤ s ∧ s < (l.length : Int) + 2)) := by
 rw [Zaw p.slots, p.get, p.len]; rfl
theorem find_x (p : LiftOf c l ss a0 b0 k h) {x : Seat} (hx : x ∈ ss) (h1 : x.n.slot ≠ 0) : Zr (ll l a0 b0 k) x.n.slot = Zr l x.n.slot := by
 have := (p.t.nd hx).1
 rw [p.find, if_neg om9, if_neg om9, if_neg h1, Zaw p.t.slot, decide_eq_true om9, decide_eq_true om9]
theorem find_0 (p : LiftOf c l ss a0 b0 k h) : Zr (ll l a0 b0 k) 0 = (lr l k, true) := by
 have := p.t.pos
 rw [p.find, if_neg om9, if_neg om9, if_pos rfl, decide_eq_true om9]
theorem find_a (p : LiftOf c l ss a0 b0 k h) : Zr (ll l a0 b0 k) (l.length : Int) = (la l a0, true) := by
 rw [p.find, if_neg om9, if_pos rfl, decide_eq_true om9]
theorem find_b (p : LiftOf c l ss a0 b0 k h) : Zr (ll l a0 b0 k) ((l.length : Int) + 1) = (lb l b0, true) := by
 rw [p.find, if_pos rfl, decide_eq_true om9]
noncomputable def nR (l : List Nd) (k : Str) : Seat := ⟨lr l k, Span.all, []⟩
noncomputable def nA (l : List Nd) (a0 b0 : Nd) (k : Str) : Seat := Zb (ll l a0 b0 k) (nR l k) 0
noncomputable def nB (l : List Nd) (a0 b0 : Nd) (k : Str) : Seat := Zb (ll l a0 b0 k) (nR l k) 1
theorem rroot (p : LiftOf c l ss a0 b0 k h) : Zm (ll l a0 b0 k) 0 = nR l k := by
 show (⟨(Zr _ 0).1, _, _⟩ : Seat) = _
 rw [p.find_0]; rfl
theorem an (p : LiftOf c l ss a0 b0 k h) : (nA l a0 b0 k).n = la l a0 := by
 show (Zr _ (l.length : Int)).1 = _
 rw [p.find_a]
theorem bn (p : LiftOf c l ss a0 b0 k h) : (nB l a0 b0 k).n = lb l b0 := by
 show (Zr _ ((l.length : Int) + 1)).1 = _
 rw [p.find_b]
theorem route1 (k q : Str) : Zg [k] q = if q.lt k = true then 0 else 1 := by
 unfold Zg
 cases h : q.lt k <;> simp [List.filter_cons, h]
theorem ha (p : LiftOf c l ss a0 b0 k h) (q : Str) : (nA l a0 b0 k).s.has q = ((Zm l 0).s.has q && q.lt k) := by
 show (Span.all.meet (Zf [k] ((0 : Nat) : Int))).has q = (Span.all.has q && _)
 rw [ZN, Xv (by rfl) q (Nat.zero_le _), route1]
 cases q.lt k <;> simp
theorem hb (p : LiftOf c l ss a0 b0 k h) (q : Str) : (nB l a0 b0 k).s.has q = ((Zm l 0).s.has q && !q.lt k) := by
 show (Span.all.meet (Zf [k] ((1 : Nat) : Int))).has q = (Span.all.has q && _)
 rw [ZN, Xv (by rfl) q (by simp), route1]
 cases q.lt k <;> simp
theorem rst (p : LiftOf c l ss a0 b0 k h) : Rst (nn l).msgs := (p.t.msgs p.t.root).1
theorem ams (p : LiftOf c l ss a0 b0 k h) : (nA l a0 b0 k).ms = Zc (nA l a0 b0 k).s (nn l).msgs := by
 show ZO [Zc (nA l a0 b0 k).s (lr l k).msgs, []] = _
 rw [p.msgs, ZdO (Jr p.rst)]
theorem bms (p : LiftOf c l ss a0 b0 k h) : (nB l a0 b0 k).ms = Zc (nB l a0 b0 k).s (nn l).msgs := by
 show ZO [Zc (nB l a0 b0 k).s (lr l k).msgs, []] = _
 rw [p.msgs, ZdO (Jr p.rst)]
theorem hs (p : LiftOf c l ss a0 b0 k h) : HSeat (Zm l 0) (nA l a0 b0 k) (nB l a0 b0 k) k h := by
 refine ⟨?_, p.ha, p.hb, XN _ _, XN _ _, fun s hs => ?_, fun s hs => ?_⟩
 ·rw [p.an, p.bn]
  have hv := p.hv
  exact ⟨hv.la, hv.lb, hv.aend, hv.bend, hv.aright.trans p.sb, hv.leaf, hv.inner, hv.size⟩
 ·rw [p.an, p.ams, XG hs]
  show ZO [[], Zc s (nn l).msgs] = ZO [Zc s (nn l).msgs, []]
  rw [ZdO (Jr p.rst), Zj6 (Jr p.rst)]
 ·rw [p.bn, p.bms, XG hs]
  show ZO [[], Zc s (nn l).msgs] = ZO [Zc s (nn l).msgs, []]
  rw [ZdO (Jr p.rst), Zj6 (Jr p.rst)]
theorem slot_at (p : LiftOf c l ss a0 b0 k h) {x : Seat} (hx : x ∈ ss) (h0 : ¬ x.n.level = 0) {j : Nat} (hj : j < x.n.kids.length) : x.n.kids.getD j 0 = (Zb l x j).n.slot := by
 have e := (p.t.at hx h0 hj)
 rw [List.getD_eq_getElem?_getD, List.getElem?_eq_getElem hj, e.2.2.1, (YN p.t.slot e.2.1).1]; rfl
theorem kid0 (p : LiftOf c l ss a0 b0 k h) {x : Seat} (hx : x ∈ ss) (h0 : ¬ x.n.level = 0) {j : Nat} (hj : j < x.n.kids.length) : Zr (ll l a0 b0 k) (x.n.kids.getD j 0) = Zr l (x.n.kids.getD j 0) := by
 rw [p.slot_at hx h0 hj]
 refine p.find_x (p.t.at hx h0 hj).1 fun e => ?_
 have hin : Zb l x j ∈ Zk l x := by rw [(Yc (p.t.kids hx) h0).1]; exact List.mem_map.2 ⟨j, List.mem_range.2 hj, rfl⟩
 exact p.t.root_kid hx hin (by rw [e]; exact p.t.root0.symm)
theorem fixK (p : LiftOf c l ss a0 b0 k h) : (ZZ (ll l a0 b0 k) (nA l a0 b0 k)).isSome = true ∧ (ZZ (ll l a0 b0 k) (nB l a0 b0 k)).isSome = true ∧ Zk (ll l a0 b0 k) (nA l a0 b0 k) ++ Zk (ll l a0 b0 k) (nB l a0 b0 k) = Zk l (Zm l 0) := by
 refine HSeat.kids p.t p.t.root p.hs fun j hj => ?_
 by_cases h0 : (Zm l 0).n.level = 0
 ·have := (p.t.leaf p.t.root h0).1
  omega
 ·exact p.kid0 p.t.root h0 hj
theorem fixR (p : LiftOf c l ss a0 b0 k h) : (ZZ (ll l a0 b0 k) (nR l k)).isSome = true ∧ Zk (ll l a0 b0 k) (nR l k) = [nA l a0 b0 k, nB l a0 b0 k] := by
 have hl := p.t.lvl p.t.root
 obtain ⟨g1, g2⟩ := ZaG (l := ll l a0 b0 k) (x := nR l k) (by show 0 < (nn l).level + 1; have : 0 ≤ (nn l).level := hl; omega) (by rfl) fun j hj => by
  have hj : j < 2 := hj
  have e : ∀ z : Nd, z.level = (nn l).level → decide (z.level = (nR l k).n.level - 1) = true := fun z hz => by
   rw [decide_eq_true_eq, hz]
   show _ = (nn l).level + 1 - 1
   omega
  unfold YS
  rcases Nat.lt_or_ge j 1 with h | h
  ·have : j = 0 := om9
   subst this
   show ((Zr _ (l.length : Int)).2 && _) = true
   rw [show (nR l k).n.kids.getD 0 0 = (l.length : Int) from rfl, p.find_a]
   exact e (la l a0) p.hv.la
  ·have : j = 1 := om9
   subst this
   show ((Zr _ ((l.length : Int) + 1)).2 && _) = true
   rw [show (nR l k).n.kids.getD 1 0 = (l.length : Int) + 1 from rfl, p.find_b]
   exact e (lb l b0) p.hv.lb
 exact ⟨g1, g2⟩
theorem fixX (p : LiftOf c l ss a0 b0 k h) {x : Seat} (hx : x ∈ ss) : (ZZ (ll l a0 b0 k) x).isSome = true ∧ Zk (ll l a0 b0 k) x = Zk l x := by
 by_cases h0 : x.n.level = 0
 ·rw [Zau h0, XA h0, XA h0]; exact ⟨rfl, rfl⟩
 ·obtain ⟨h1, h2, h3, h4⟩ := Yc (p.t.kids hx) h0
  obtain ⟨g1, g2⟩ := ZaG (l := ll l a0 b0 k) (x := x) h2 h3 fun j hj => by
   rw [ZbK (l' := l) (y := x) (j := j) (p.kid0 hx h0 hj) rfl]; exact h4 j hj
  refine ⟨g1, ?_⟩
  rw [g2, h1]
  exact List.map_congr_left fun j hj => ZbJ (by rw [p.kid0 hx h0 (List.mem_range.1 hj)]) (fun _ => rfl) fun _ _ => rfl
noncomputable def rest (l : List Nd) (ss : List Seat) : List Seat := ss.flatMap (Zk l)
theorem in_rest (p : LiftOf c l ss a0 b0 k h) {x : Seat} (hx : x ∈ rest l ss) : x ∈ ss := by
 rw [p.t.fix]; exact List.mem_cons_of_mem _ hx
theorem rest_fix (p : LiftOf c l ss a0 b0 k h) : rest l ss = Zk l (Zm l 0) ++ (rest l ss).flatMap (Zk l) := by
 have h1 : rest l ss = (Zm l 0 :: rest l ss).flatMap (Zk l) := by
  conv => lhs; unfold rest; rw [p.t.fix]
  rfl
 rw [List.flatMap_cons] at h1
 exact h1
theorem flat_same {f g : Seat → List Seat} : ∀ {L : List Seat}, (∀ x ∈ L, f x = g x) → L.flatMap f = L.flatMap g
 | [], _ => rfl
 | x :: L, h => by rw [List.flatMap_cons, List.flatMap_cons, h x (by simp), flat_same fun z hz => h z (List.mem_cons_of_mem _ hz)]
noncomputable def seats (l : List Nd) (ss : List Seat) (a0 b0 : Nd) (k : Str) : List Seat := nR l k :: nA l a0 b0 k :: nB l a0 b0 k :: rest l ss
theorem fix (p : LiftOf c l ss a0 b0 k h) : seats l ss a0 b0 k = Zm (ll l a0 b0 k) 0 :: (seats l ss a0 b0 k).flatMap (Zk (ll l a0 b0 k)) := by
 rw [p.rroot]
 unfold seats
 rw [List.flatMap_cons, List.flatMap_cons, List.flatMap_cons, p.fixR.2, ← List.append_assoc (Zk _ (nA l a0 b0 k)), p.fixK.2.2, flat_same fun x hx => (p.fixX (p.in_rest hx)).2, ← p.rest_fix]
 rfl
theorem top (p : LiftOf c l ss a0 b0 k h) : (nn l).top = true ∧ (nn l).high = Str.nil ∧ (nn l).right = -1 := by
 have h1 := (p.t.seat p.t.root).2.1.1.1
 have h2 : (nn l).top = true := h1
 have h3 := (p.t.seat p.t.root).1.2.1 h2
 exact ⟨h2, h3.1, h3.2⟩
theorem perm (p : LiftOf c l ss a0 b0 k h) : ((seats l ss a0 b0 k).map fun x : Seat => x.n.slot).Perm ((ll l a0 b0 k).map fun n : Nd => n.slot) := by
 have h4 : ((ll l a0 b0 k).map fun n : Nd => n.slot) = (l.map fun n : Nd => n.slot) ++ [(l.length : Int), (l.length : Int) + 1] := by
  rw [ZaJ p.slots, ZaJ p.t.slot, p.len, List.range_succ, List.range_succ, List.map_append, List.map_append, List.append_assoc]; rfl
 have h5 := p.t.perm_s
 rw [p.t.fix] at h5
 rw [h4]
 refine List.Perm.trans ?_ (List.Perm.append_right _ h5)
 unfold seats
 rw [List.map_cons, List.map_cons, List.map_cons, List.map_cons, p.an, p.bn, List.cons_append]
 rw [show (nR l k).n.slot = (Zm l 0).n.slot from rfl]
 refine List.Perm.cons _ ?_
 exact (List.perm_append_comm (l₁ := [(l.length : Int), (l.length : Int) + 1]))
theorem lk (p : LiftOf c l ss a0 b0 k h) : LkK ((seats l ss a0 b0 k).map Seat.key) := by
 have h1 := (ZbI ss).1 p.t.q.1.2.1
 rw [p.t.fix, List.map_cons] at h1
 have e0 : Seat.key (Zm l 0) = ((nn l).slot, (nn l).level, -1) := by
  show ((nn l).slot, (nn l).level, (nn l).right) = _
  rw [p.top.2.2]
 rw [e0] at h1
 have h2 := Zpf (x := (l.length : Int)) (y := (l.length : Int) + 1) h1
 unfold seats
 rw [List.map_cons, List.map_cons, List.map_cons]
 have e1 : Seat.key (nR l k) = ((nn l).slot, (nn l).level + 1, -1) := by
  show ((nn l).slot, (nn l).level + 1, (nn l).right) = _
  rw [p.top.2.2]
 have e2 : Seat.key (nA l a0 b0 k) = ((l.length : Int), (nn l).level, (l.length : Int) + 1) := by
  unfold Seat.key; rw [p.an]
  show ((l.length : Int), a0.level, a0.right) = _
  rw [p.hv.la, p.hv.aright, p.sb]; rfl
 have e3 : Seat.key (nB l a0 b0 k) = ((l.length : Int) + 1, (nn l).level, -1) := by
  unfold Seat.key; rw [p.bn]
  show ((l.length : Int) + 1, b0.level, b0.right) = _
  rw [p.hv.lb, p.hv.bend.2.2, show (Zm l 0).n.right = (nn l).right from rfl, p.top.2.2]; rfl
 rw [e1, e2, e3]
 exact h2
theorem halfR (p : LiftOf c l ss a0 b0 k h) {z : Nd} (hz : z.R c.fan c.leaf c.bud) (s : Int) (hs : 0 ≤ s) : (Yu (nn l) z s).R c.fan c.leaf c.bud := by
 obtain ⟨⟨q1, q2, q3⟩, q4, q5, q6⟩ := hz
 have hc := p.t.cfg.2.2.1
 refine ⟨⟨hs, q2, ?_⟩, q4, q5, ?_⟩
 ·show 0 ≤ (if (nn l).level = 0 then z.seen else 0)
  split <;> omega
 ·by_cases h0 : z.level = 0
  ·rw [if_pos h0] at q6
   rw [if_pos (show (Yu (nn l) z s).level = 0 from h0)]
   obtain ⟨r1, r2, r3, r4⟩ := q6
   exact ⟨by show z.pivots.length + z.kids.length + 0 = 0; omega, r2, r3, r4⟩
  ·rw [if_neg h0] at q6
   rw [if_neg (show ¬ (Yu (nn l) z s).level = 0 from h0)]
   obtain ⟨r1, r4, r5, r6, r7, r8, r9⟩ := q6
   exact ⟨r1, r4, (fun i hi => absurd hi (Nat.not_lt_zero _)), by show (0 : Int) ≤ _; omega, r7, r8, fun i hi => absurd hi (Nat.not_lt_zero _)⟩
theorem rR (p : LiftOf c l ss a0 b0 k h) : (lr l k).R c.fan c.leaf c.bud := by
 obtain ⟨⟨q1, q2, q3⟩, q4, q5, q6⟩ := (p.t.seat p.t.root).1
 have hc := p.t.cfg
 have h0 : ¬ (lr l k).level = 0 := by show ¬ (nn l).level + 1 = 0; have : 0 ≤ (nn l).level := q2; omega
 have hn : MsgsR (lr l k).msgs ∧ Zw (lr l k).msgs ≤ c.bud ∧ ∀ i (h : i < (lr l k).msgs.length), (lr l k).fits (lr l k).msgs[i] := by
  by_cases h1 : (nn l).level = 0
  ·have e : (lr l k).msgs = [] := if_pos h1
   rw [e]
   exact ⟨fun i hi => absurd hi (Nat.not_lt_zero _), by show (0 : Int) ≤ _; have := hc.2.2.1; omega, fun i hi => absurd hi (Nat.not_lt_zero _)⟩
  ·have q6 : (nn l).innerR c.fan c.bud := p.t.inner p.t.root h1
   obtain ⟨r1, r4, r5, r6, r7, r8, r9⟩ := q6
   have e := p.msgs
   refine ⟨by rw [e]; exact r5, by rw [e]; exact r6, fun i hi => ?_⟩
   have hi2 : i < (nn l).msgs.length := by rw [← e]; exact hi
   have e2 : (lr l k).msgs[i] = (nn l).msgs[i] := by simp only [e]
   rw [e2]; exact r9 i hi2
 refine ⟨⟨q1, by show 0 ≤ (nn l).level + 1; have : 0 ≤ (nn l).level := q2; omega, q3⟩, q4, q5, ?_⟩
 rw [if_neg h0]
 refine ⟨⟨rfl, by show 2 ≤ 2; omega, by show ((2 : Nat) : Int) ≤ _; have := hc.1; omega⟩, by rfl, hn.1, hn.2.1, fun i hi => ?_, fun i hi => ?_, hn.2.2⟩
 ·have hm : (lr l k).kids[i] ∈ [(l.length : Int), (l.length : Int) + 1] := List.getElem_mem hi
  simp only [List.mem_cons, List.not_mem_nil, or_false] at hm
  omega
 ·have hm : (lr l k).pivots[i] ∈ [k] := List.getElem_mem hi
  rw [List.mem_singleton] at hm
  rw [hm]
  exact ⟨p.hv.size.1, p.hv.size.2, p.nk⟩
theorem rP (p : LiftOf c l ss a0 b0 k h) : PlacedP (nR l k) := by
 obtain ⟨p0, p3, p4, p5⟩ := (p.t.seat p.t.root).2.1
 refine ⟨p0, fun i hi => absurd hi (Nat.not_lt_zero _), fun i hi => ?_, fun i hi => ?_⟩
 ·have hm : (nR l k).n.pivots[i] ∈ [k] := List.getElem_mem hi
  rw [List.mem_singleton] at hm
  rw [hm]
  exact ⟨Zax k, p.hv.size.1⟩
 ·have e : (nR l k).n.msgs = (nn l).msgs := p.msgs
  have e2 : (nR l k).n.msgs[i] = (nn l).msgs[i]'(by rw [← e]; exact hi) := by simp only [e]
  rw [e2]
  exact p5 i (by rw [show (Zm l 0).n.msgs = (nn l).msgs from rfl, ← e]; exact hi)
theorem seatP (p : LiftOf c l ss a0 b0 k h) : ∀ z ∈ seats l ss a0 b0 k, SeatP c z := fun z hz => by
 have hsl := p.room
 have st : ∀ {s : Span} {ms : List Msg} {e : Nd}, e.seen = (nn l).seen → ms = Zc s (nn l).msgs → ∀ j (hj : j < ms.length), (if (nn l).level = 0 then e.seen else 0) < ms[j].stamp := fun es e j hj => by
  subst e
  by_cases h0 : (nn l).level = 0
  ·have : (nn l).msgs = [] := p.t.nomsgs p.t.root h0
   rw [this] at hj
   exact absurd hj (Nat.not_lt_zero _)
  ·rw [if_neg h0]
   obtain ⟨m0, hm0, e⟩ := JG (List.getElem_mem hj)
   have := ((p.t.msgs p.t.root).2.1 m0 hm0).1.1
   rw [e]; omega
 unfold seats at hz
 simp only [List.mem_cons] at hz
 have nil : ∀ {s : Span} (m : Msg), m ∈ ([] : List Msg) → ∃ m' ∈ (Zm l 0).n.msgs, (m'.clip s).2 = true ∧ (m'.clip s).1 = m := fun m hm => by cases hm
 rcases hz with rfl | rfl | rfl | hz
 ·exact ⟨p.rR, p.rP, by show (nn l).slot < _; rw [p.root0]; omega, fun j hj => absurd hj (Nat.not_lt_zero _)⟩
 ·refine ⟨by rw [p.an]; exact p.halfR p.aR _ om9, HSeat.placedA p.t p.t.root p.hs (by rfl) p.nk (by rw [p.an]; exact nil), by rw [p.an]; show (l.length : Int) < _; omega, fun j hj => ?_⟩
  rw [p.an]; exact st p.ea p.ams j hj
 ·refine ⟨by rw [p.bn]; exact p.halfR p.bR _ om9, HSeat.placedB p.t p.t.root p.hs (by rfl) p.nk (by rw [p.bn]; exact nil), by rw [p.bn]; show (l.length : Int) + 1 < _; omega, fun j hj => ?_⟩
  rw [p.bn]; exact st p.eb p.bms j hj
 ·exact p.t.seat (p.in_rest hz)
theorem tree (p : LiftOf c l ss a0 b0 k h) : Tree c (ll l a0 b0 k) (seats l ss a0 b0 k) := by
 have hfew := p.few
 have hroom := p.room
 refine Zdm p.t.cfg (by rw [p.len]; omega) (ZdM p.t.cfg (by rw [p.len]; omega) fun n hn => ?_) p.slots p.fix (fun z hz => ?_) p.perm p.lk (by rw [p.len]; omega) p.seatP
 ·have old : ∀ n ∈ l, n.R c.fan c.leaf c.bud := fun n hn => by
   have := (p.t.perm.mem_iff).2 hn
   obtain ⟨x, hx, rfl⟩ := List.mem_map.1 this
   exact (p.t.seat hx).1
  unfold ll YV at hn
  rcases List.mem_append.1 hn with hn | hn
  ·rcases List.mem_or_eq_of_mem_set hn with hn | rfl
   ·exact old n hn
   ·exact p.rR
  ·simp only [List.mem_cons, List.not_mem_nil, or_false] at hn
   rcases hn with rfl | rfl
   ·exact p.halfR p.aR _ om9
   ·exact p.halfR p.bR _ om9
 ·unfold seats at hz
  simp only [List.mem_cons] at hz
  rcases hz with rfl | rfl | rfl | hz
  ·exact p.fixR.1
  ·exact p.fixK.1
  ·exact p.fixK.2.1
  ·exact (p.fixX (p.in_rest hz)).1
theorem map (p : LiftOf c l ss a0 b0 k h) : Zh (ll l a0 b0 k) = Zh l := by
 rw [Js p.tree.sts, Js p.t.sts]
 have h1 := HSeat.view p.t p.t.root p.hs (fun _ => by rw [p.ams, XG fun _ h => h]; rw [show (nn l).msgs = [] from p.t.nomsgs p.t.root (by assumption)]; rfl) (fun _ => by rw [p.bms, XG fun _ h => h]; rw [show (nn l).msgs = [] from p.t.nomsgs p.t.root (by assumption)]; rfl)
 have e2 : ¬ (nR l k).n.level = 0 := by show ¬ (nn l).level + 1 = 0; have : 0 ≤ (nn l).level := p.t.lvl p.t.root; omega
 have e3 : ZF ss = ZF [Zm l 0] ++ ZF (rest l ss) := by
  conv => lhs; rw [p.t.fix]
  unfold ZF
  rw [← List.filter_append]; rfl
 have e4 : ZF (seats l ss a0 b0 k) = ZF [nA l a0 b0 k, nB l a0 b0 k] ++ ZF (rest l ss) := by
  unfold ZF
  rw [← List.filter_append]
  unfold seats
  rw [List.filter_cons, if_neg (by simpa using e2)]; rfl
 rw [e3, e4, List.flatMap_append, List.flatMap_append, h1]
end LiftOf
theorem ZrD {c : Cfg} {l : List Nd} {ss : List Seat} (t : Tree c l ss) (room : (l.length : Int) + 1 < c.slots) (few : l.length + 2 ≤ 4096)
  (hc : (Z7 (Zm l 0).n l.length ((l.length : Int) + 1)).2.2.2 = true) :
  ∃ T, Tree c (YV l (Z7 (Zm l 0).n l.length ((l.length : Int) + 1)).1 (Z7 (Zm l 0).n l.length ((l.length : Int) + 1)).2.1 (Z7 (Zm l 0).n l.length ((l.length : Int) + 1)).2.2.1) T ∧
   Zh (YV l (Z7 (Zm l 0).n l.length ((l.length : Int) + 1)).1 (Z7 (Zm l 0).n l.length ((l.length : Int) + 1)).2.1 (Z7 (Zm l 0).n l.length ((l.length : Int) + 1)).2.2.1) = Zh l := by
 rw [Zam] at hc
 have hR := (t.seat t.root).1
 have hRR := Zhq (slot := (l.length : Int) + 1) hR om9 hc
 obtain ⟨a, b, k, h, e, hv, g1, g2, g3, g4, g5, g6, g7⟩ := ZdL (y := (l.length : Int) + 1) hR hc
 rw [Za9 hc, e]
 rw [e] at hRR
 have p : LiftOf c l ss a b k h := ⟨t, hv, g2, g3, g4, g7, hRR.1, hRR.2.1, room, few⟩
 have e9 : Yu (Zm l 0).n b b.slot = LiftOf.lb l b := by rw [g2]; rfl
 dsimp only
 rw [e9]
 exact ⟨_, p.tree, p.map⟩
theorem Zan (n : Nd) (i : Int) : (Zq n i).2.2.2 = (Yl n).2.2.2 := by
 cases h : (Yl n).2.2.2
 ·rw [Zbq h]
 ·rw [JL h]
theorem ZdP (n : Nd) (x y x' y' : Int) : (Z7 n x y).2.2.2 = (Z7 n x' y').2.2.2 := by rw [Zam, Zam, Zan, Zan]
def tk (l : List Nd) (x : Nd) : List Nd := l ++ [{ x with slot := l.length }]
theorem ZaK (l : List Nd) (x : Nd) : (tk l x).length = l.length + 1 := by simp [tk]
theorem Zj8 {n : Nat} {l : List Nd} {x : Nd} (h : l.length < n) : JO n l x = (((l.length : Int), 0), tk l x) := ZeY h
def ZS (c : Cfg) (l : List Nd) : Int × List Nd :=
 if (Z7 (Za l 0) l.length ((l.length : Int) + 1)).2.2.2 = false then (6, l)
 else if c.slots.toNat - l.length < 2 then (4, l)
 else (0, YV l (Z7 (Za l 0) l.length ((l.length : Int) + 1)).1 (Z7 (Za l 0) l.length ((l.length : Int) + 1)).2.1 (Z7 (Za l 0) l.length ((l.length : Int) + 1)).2.2.1)
theorem ZdQ {c : Cfg} {l : List Nd} {x y : Int} (h : (Z7 (Za l 0) x y).2.2.2 = false) : ZS c l = (6, l) := if_pos (by rw [ZdP _ _ _ x y]; exact h)
theorem Zba {c : Cfg} {l : List Nd} {x y : Int} (h : (Z7 (Za l 0) x y).2.2.2 = true) (hr : c.slots.toNat - l.length < 2) : ZS c l = (4, l) := by
 unfold ZS; rw [if_neg (by rw [ZdP _ _ _ x y, h]; simp), if_pos hr]
theorem ZbY {c : Cfg} {l : List Nd} {x y : Int} (h : (Z7 (Za l 0) x y).2.2.2 = true) (hr : ¬ c.slots.toNat - l.length < 2) :
  ZS c l = (0, YV l (Z7 (Za l 0) l.length ((l.length : Int) + 1)).1 (Z7 (Za l 0) l.length ((l.length : Int) + 1)).2.1 (Z7 (Za l 0) l.length ((l.length : Int) + 1)).2.2.1) := by
 unfold ZS; rw [if_neg (by rw [ZdP _ _ _ x y, h]; simp), if_neg hr]
theorem ZrE {n : Nd} {x y : Int} (h : (Z7 n x y).2.2.2 = true) (hk : (Zq n y).2.1.slot = y) : (Z7 n x y).1.slot = n.slot ∧ (Z7 n x y).2.1.slot = x ∧ (Z7 n x y).2.2.1.slot = y := by
 rw [Zam] at h
 rw [Za9 h]
 exact ⟨rfl, rfl, hk⟩
theorem ZrF {n : Nd} {y : Int} (h : (Zq n y).2.2.2 = true) : (Zq n y).2.1.slot = y := by
 rw [Zan] at h
 rw [JL h]
theorem ZrG {n : Nd} {x y x' y' : Int} (h : (Z7 n x' y').2.2.2 = true) : (Z7 n x y).1.slot = n.slot ∧ (Z7 n x y).2.1.slot = x ∧ (Z7 n x y).2.2.1.slot = y := by
 have h2 : (Z7 n x y).2.2.2 = true := by rw [ZdP n x y x' y']; exact h
 exact ZrE h2 (ZrF (by rw [← Zam n x y]; exact h2))
theorem Zj9 {l : List Nd} {A B : List Nd} {x y : Nd} (h : l = A ++ x :: B) (hy : y.slot.toNat = A.length) : l.set y.slot.toNat y = A ++ y :: B := by
 rw [h, hy, List.set_append_right _ _ (Nat.le_refl _), Nat.sub_self]; rfl
theorem ZrH {l : List Nd} {n r a b : Nd} (hr : r.slot = 0) (ha : a.slot = l.length) (hb : b.slot = (l.length : Int) + 1) (hp : 0 < l.length) : (((tk (tk l n) n).set r.slot.toNat r).set a.slot.toNat a).set b.slot.toNat b = YV l r a b := by
 have e1 : (tk (tk l n) n).set r.slot.toNat r = l.set 0 r ++ [{ n with slot := l.length }, { n with slot := (tk l n).length }] := by
  unfold tk
  rw [hr, List.append_assoc]
  show List.set _ 0 r = _
  rw [List.set_append_left _ _ hp]; rfl
 have l0 : (l.set 0 r).length = l.length := List.length_set
 rw [e1, Zj9 (A := l.set 0 r) (B := [{ n with slot := (tk l n).length }]) (x := { n with slot := l.length }) rfl (by rw [l0]; omega)]
 rw [Zj9 (A := l.set 0 r ++ [a]) (B := []) (x := { n with slot := (tk l n).length }) (by simp) (by rw [List.length_append, l0]; simp; omega)]
 unfold YV
 simp
theorem Tree.sound {c : Cfg} {l : List Nd} {ss : List Seat} (t : Tree c l ss) : Zb8 c l = true := by rw [Zav t.sts]; exact decide_eq_true t.q
theorem Zka {c : Cfg} {l : List Nd} {ss : List Seat} (t : Tree c l ss) : ∃ T, Tree c (ZS c l).2 T ∧ Zh (ZS c l).2 = Zh l := by
 have hr : (Zm l 0).n = Za l 0 := t.rootn
 by_cases h1 : (Z7 (Za l 0) l.length ((l.length : Int) + 1)).2.2.2 = true
 ·by_cases h2 : c.slots.toNat - l.length < 2
  ·rw [Zba h1 h2]; exact ⟨ss, t, rfl⟩
  ·rw [ZbY h1 h2]
   have hsl := t.cfg.2.2.2.1.2
   have := ZrD t om9 om9 (by rw [hr]; exact h1)
   rw [hr] at this
   exact this
 ·rw [ZdQ (by simpa using h1)]; exact ⟨ss, t, rfl⟩
theorem Zf5 (n : Nd) (i j : Int) : (Zq n i).2.2.1 = (Zq n j).2.2.1 := by
 cases h : (Yl n).2.2.2
 ·rw [Zbq h, Zbq h]
 ·rw [JL h, JL h]
theorem Zkb (n : Nd) (i j : Int) : (Zq n i).2.2.2 = (Zq n j).2.2.2 := by rw [Zan, Zan]
theorem ZrI (p : List Str) (c : List Int) (i : Nat) (k : Str) (v w : Int) : (XV p c i k v).2.length = (XV p c i k w).2.length := by
 unfold XV
 split
 ·rfl
 ·simp
theorem Zkc (n : Nd) (i : Nat) (k : Str) (v w : Int) : (Xi n i k v).2 = (Xi n i k w).2 := by
 unfold Xi
 rw [ZrI _ _ _ _ v w]
 split <;> rfl
def kdN (l : List Nd) (p : Int) (i : Nat) : Int := (Za l p).kids.getD i 0
def Yr (l : List Nd) (p : Int) (i : Nat) : Nd × Nd × Str × Bool := Zq (Za l (kdN l p i)) l.length
def adP (l : List Nd) (p : Int) (i : Nat) : Nd × Bool := Xi (Za l p) i (Yr l p i).2.2.1 l.length
def JS (l : List Nd) (p : Int) (i : Nat) : List Nd := ((l.set (Yr l p i).1.slot.toNat (Yr l p i).1).set p.toNat (adP l p i).1) ++ [(Yr l p i).2.1]
def Xx (c : Cfg) (l : List Nd) (p : Int) (i : Nat) : Int × List Nd :=
 if ¬ (0 ≤ p ∧ p < l.length) ∨ (Za l p).kids.length ≤ i ∨ ¬ (0 ≤ kdN l p i ∧ kdN l p i < l.length) then (8, l)
 else if ZK c (Za l p) = true then (9, l)
 else if (Yr l p i).2.2.2 = false ∨ (adP l p i).2 = false then (6, l)
 else if ¬ (l.length : Int) < c.slots then (4, l)
 else (0, JS l p i)
def ZP (c : Cfg) (l : List Nd) (p i : Int) : Int × List Nd := if i < 0 then (8, l) else Xx c l p i.toNat
theorem Zao {c : Cfg} {l : List Nd} {p : Int} {i : Nat} (h : ¬ (0 ≤ p ∧ p < l.length) ∨ (Za l p).kids.length ≤ i ∨ ¬ (0 ≤ kdN l p i ∧ kdN l p i < l.length)) : Xx c l p i = (8, l) := if_pos h
theorem Zf6 {c : Cfg} {l : List Nd} {p : Int} {i : Nat} (h1 : 0 ≤ p ∧ p < l.length) (h2 : ¬ (Za l p).kids.length ≤ i) (h3 : 0 ≤ kdN l p i ∧ kdN l p i < l.length) (h : ZK c (Za l p) = true) : Xx c l p i = (9, l) := by
 unfold Xx; rw [if_neg (by rintro (h | h | h); exact h h1; exact h2 h; exact h h3), if_pos h]
theorem ZbZ {c : Cfg} {l : List Nd} {p : Int} {i : Nat} (h1 : 0 ≤ p ∧ p < l.length) (h2 : ¬ (Za l p).kids.length ≤ i) (h3 : 0 ≤ kdN l p i ∧ kdN l p i < l.length) (h4 : ZK c (Za l p) = false) (h : (Yr l p i).2.2.2 = false ∨ (adP l p i).2 = false) : Xx c l p i = (6, l) := by
 unfold Xx; rw [if_neg (by rintro (h | h | h); exact h h1; exact h2 h; exact h h3), if_neg (by rw [h4]; simp), if_pos h]
theorem ZdR {c : Cfg} {l : List Nd} {p : Int} {i : Nat} (h1 : 0 ≤ p ∧ p < l.length) (h2 : ¬ (Za l p).kids.length ≤ i) (h3 : 0 ≤ kdN l p i ∧ kdN l p i < l.length) (h4 : ZK c (Za l p) = false) (h5 : (Yr l p i).2.2.2 = true) (h6 : (adP l p i).2 = true) (h : ¬ (l.length : Int) < c.slots) : Xx c l p i = (4, l) := by
 unfold Xx; rw [if_neg (by rintro (h | h | h); exact h h1; exact h2 h; exact h h3), if_neg (by rw [h4]; simp), if_neg (by rw [h5, h6]; simp), if_pos h]
theorem ZdS {c : Cfg} {l : List Nd} {p : Int} {i : Nat} (h1 : 0 ≤ p ∧ p < l.length) (h2 : ¬ (Za l p).kids.length ≤ i) (h3 : 0 ≤ kdN l p i ∧ kdN l p i < l.length) (h4 : ZK c (Za l p) = false) (h5 : (Yr l p i).2.2.2 = true) (h6 : (adP l p i).2 = true) (h : (l.length : Int) < c.slots) : Xx c l p i = (0, JS l p i) := by
 unfold Xx; rw [if_neg (by rintro (h | h | h); exact h h1; exact h2 h; exact h h3), if_neg (by rw [h4]; simp), if_neg (by rw [h5, h6]; simp), if_neg (by simpa using h)]
theorem Zkd {l : List Nd} {p : Int} {i : Nat} (h : (Yr l p i).2.2.2 = true) : (Yr l p i).1.slot = (Za l (kdN l p i)).slot ∧ (Yr l p i).2.1.slot = l.length := by
 have hh : (Yl (Za l (kdN l p i))).2.2.2 = true := by rw [← Zan _ (l.length : Int)]; exact h
 unfold Yr
 rw [JL hh]
 refine ⟨?_, rfl⟩
 show (Yl (Za l (kdN l p i))).1.slot = _
 by_cases h0 : (Za l (kdN l p i)).level = 0
 ·rw [ZaV h0]
 ·cases h2 : Ys (Za l (kdN l p i)).pivots (Za l (kdN l p i)).kids.length
  ·rw [Zck h0 h2]
  ·rw [ZaW h0 h2]
theorem Zke {l : List Nd} {p : Int} {i : Nat} (h : (adP l p i).2 = true) : (adP l p i).1.slot = (Za l p).slot := by
 unfold adP Xi at *
 split
 ·rename_i h2; rw [if_pos h2] at h; cases h
 ·rfl
theorem ZrJ {l : List Nd} {n a b r : Nd} {p : Int} (ha : 0 ≤ a.slot ∧ a.slot < l.length) (hb : b.slot = l.length) (hr : r.slot = p) (hp : 0 ≤ p ∧ p < l.length) :
  (((tk l n).set a.slot.toNat a).set b.slot.toNat b).set r.slot.toNat r = ((l.set a.slot.toNat a).set p.toNat r) ++ [b] := by
 unfold tk
 rw [List.set_append_left _ _ om9, hb, hr]
 have l1 : (l.set a.slot.toNat a).length = l.length := List.length_set
 rw [show ((l.length : Int)).toNat = (l.set a.slot.toNat a).length by rw [l1]; omega, List.set_append_right _ _ (Nat.le_refl _), Nat.sub_self, List.set_append_left _ _ om9]
 rfl
theorem ZrK {c : Cfg} {l : List Nd} {ss : List Seat} (t : Tree c l ss) (p i : Int) : ∃ T, Tree c (ZP c l p i).2 T ∧ Zh (ZP c l p i).2 = Zh l := by
 unfold ZP
 split
 ·exact ⟨ss, t, rfl⟩
 ·generalize i.toNat = j
  by_cases h1 : 0 ≤ p ∧ p < l.length
  ·by_cases h2 : (Za l p).kids.length ≤ j
   ·rw [Zao (.inr (.inl h2))]; exact ⟨ss, t, rfl⟩
   ·by_cases h3 : 0 ≤ kdN l p j ∧ kdN l p j < l.length
    ·cases h4 : ZK c (Za l p)
     ·by_cases h5 : (Yr l p j).2.2.2 = true
      ·by_cases h6 : (adP l p j).2 = true
       ·by_cases h7 : (l.length : Int) < c.slots
        ·rw [ZdS h1 h2 h3 h4 h5 h6 h7]
         obtain ⟨g1, g2⟩ := YN t.slot h1
         obtain ⟨P, hP, eP⟩ := List.mem_map.1 ((t.perm.mem_iff).2 g2)
         have hj : j < P.n.kids.length := by rw [eP]; omega
         have h0 : ¬ P.n.level = 0 := fun h0 => by have := (t.leaf hP h0).1; omega
         have hat := t.at hP h0 hj
         have ek : (Zb l P j).n = Za l (kdN l p j) := by
          rw [hat.2.2.1]
          unfold kdN
          rw [← eP, List.getD_eq_getElem?_getD, List.getElem?_eq_getElem hj]; rfl
         have hfull : (P.n.kids.length : Int) < c.fan := by
          unfold ZK at h4
          rw [if_neg (by rw [← eP]; exact h0), decide_eq_false_iff_not] at h4
          rw [eP]; omega
         unfold adP Yr at h6
         unfold Yr at h5
         rw [← ek] at h5 h6
         rw [← eP] at h6
         have hsl := t.cfg.2.2.2.1.2
         have key := ZrA t hP h0 hj hfull h7 om9 h5 h6
         obtain ⟨e9, h, q⟩ := key
         have el : JS l p j = ZT l P.n j (Zq (Zb l P j).n l.length).1 (Zq (Zb l P j).n l.length).2.1 (Zq (Zb l P j).n l.length).2.2.1 := by
          unfold JS adP Yr ZT
          rw [← ek, ← eP, e9]
          have : P.n.slot = p := by rw [eP]; exact g1
          rw [this]
         rw [el]
         exact ⟨_, q.tree, q.map⟩
        ·rw [ZdR h1 h2 h3 h4 h5 h6 h7]; exact ⟨ss, t, rfl⟩
       ·rw [ZbZ h1 h2 h3 h4 (.inr (by simpa using h6))]; exact ⟨ss, t, rfl⟩
      ·rw [ZbZ h1 h2 h3 h4 (.inl (by simpa using h5))]; exact ⟨ss, t, rfl⟩
     ·rw [Zf6 h1 h2 h3 h4]; exact ⟨ss, t, rfl⟩
    ·rw [Zao (.inr (.inr h3))]; exact ⟨ss, t, rfl⟩
  ·rw [Zao (.inl h1)]; exact ⟨ss, t, rfl⟩
theorem OwnR.cast {α : Type} {e : Enc α} {T : TypeId} {G : GH} {v : Value} {l l' : List α} {Ms : MH} (h : OwnR e T G v l Ms) (h2 : l = l') : OwnR e T G v l' Ms := h2 ▸ h
def wOf (P : List Str) (F : List Msg) (i : Nat) : Int := Zw (F.filter fun m => decide (Zg P m.key = i))
def YW (w : Nat → Int) : Nat → Nat
 | 0 => 0
 | k + 1 => if w (YW w k) < w k then k else YW w k
theorem ZrL {w : Nat → Int} {k : Nat} (h : w (YW w k) < w k) : YW w (k + 1) = k := if_pos h
theorem ZrM {w : Nat → Int} {k : Nat} (h : ¬ w (YW w k) < w k) : YW w (k + 1) = YW w k := if_neg h
theorem Zf7 (w : Nat → Int) : ∀ k, YW w k < k ∨ (k = 0 ∧ YW w k = 0)
 | 0 => .inr ⟨rfl, rfl⟩
 | k + 1 => by
  left
  unfold YW
  split
  ·omega
  ·rcases Zf7 w k with h | h <;> omega
theorem Zf8 (w : Nat → Int) : ∀ k j, j < k → w j ≤ w (YW w k)
 | 0, j, h => absurd h (Nat.not_lt_zero j)
 | k + 1, j, h => by
  unfold YW
  split
  ·rename_i h2
   by_cases e : j = k
   ·rw [e]; exact Int.le_refl _
   ·have := Zf8 w k j om9; omega
  ·rename_i h2
   by_cases e : j = k
   ·rw [e]; omega
   ·exact Zf8 w k j om9
def Xy (P : List Str) (l : List Msg) : Int × Bool := if l.length = 0 then (0, false) else (((YW (wOf P (Zj l)) (P.length + 1) : Nat) : Int), true)
theorem Zf9 (P : List Str) (F : List Msg) (i : Nat) : 0 ≤ wOf P F i := by
  unfold wOf
  generalize F.filter _ = L
  induction L with
  | nil => exact Int.le_refl 0
  | cons m L ih => have := ZiW m; have e : Zw (m :: L) = m.size + Zw L := by simp [Zw]
                   rw [e]; omega
theorem ZrN (P : List Str) (F : List Msg) (i : Nat) (h : ∀ m ∈ F, m.key.b.size ≤ 16 ∧ m.val.b.size ≤ 16) : wOf P F i ≤ 36 * F.length := by
 have h1 := Zdu (l := F.filter fun m => decide (Zg P m.key = i)) fun m hm => h m (List.mem_filter.1 hm).1
 have h2 := List.length_filter_le (fun m : Msg => decide (Zg P m.key = i)) F
 have := h1.2
 unfold wOf
 omega
theorem Zkf {P : List Str} {F : List Msg} {q i : Nat} (hq : q < F.length) (h : Zg P F[q].key = i) : wOf P (F.take (q + 1)) i = wOf P (F.take q) i + F[q].size := by
 unfold wOf
 rw [Zco (p := fun m : Msg => decide (Zg P m.key = i)) hq (by simp [h]), Zdp]
 simp [Zw]
theorem ZrO {P : List Str} {F : List Msg} {q i : Nat} (hq : q < F.length) (h : ¬ Zg P F[q].key = i) : wOf P (F.take (q + 1)) i = wOf P (F.take q) i := by
 unfold wOf
 rw [Zbw (p := fun m : Msg => decide (Zg P m.key = i)) hq (by simp [h])]
theorem ZrP {l : List Msg} (h : 0 < l.length) : 0 < (Zj l).length := by
 unfold Zj
 have h1 := Zgj isW l
 split
 ·exact h
 ·split
  ·rw [List.length_take]; omega
  ·rw [List.length_take]; omega
theorem ZrQ {P : List Str} {l : List Msg} (h : 0 < l.length) : 0 < wOf P (Zj l) (YW (wOf P (Zj l)) (P.length + 1)) := by
 have h0 := ZrP h
 have hr : Zg P ((Zj l)[0]).key ≤ P.length := List.length_filter_le _ _
 have hm := Zf8 (wOf P (Zj l)) (P.length + 1) (Zg P ((Zj l)[0]).key) om9
 have : 0 < wOf P (Zj l) (Zg P ((Zj l)[0]).key) := by
  have e : (Zj l).take 1 ++ (Zj l).drop 1 = Zj l := List.take_append_drop _ _
  have h1 := Zkf (P := P) (F := Zj l) (q := 0) h0 rfl
  have h2 : 0 < ((Zj l)[0]).size := by unfold Msg.size; split <;> omega
  have h3 : wOf P (Zj l) (Zg P ((Zj l)[0]).key) = wOf P ((Zj l).take 1) (Zg P ((Zj l)[0]).key) + wOf P ((Zj l).drop 1) (Zg P ((Zj l)[0]).key) := by
   generalize Zg P ((Zj l)[0]).key = z
   conv => lhs; rw [← e]
   unfold wOf
   rw [List.filter_append, Zdp]
  have h4 := Zf9 P ((Zj l).take 0) (Zg P ((Zj l)[0]).key)
  have h5 := Zf9 P ((Zj l).drop 1) (Zg P ((Zj l)[0]).key)
  rw [h3]
  rw [show (0 + 1 : Nat) = 1 from rfl] at h1
  omega
 omega
theorem Zkg {P : List Str} {l : List Msg} (h : ¬ 0 < l.length) : Xy P l = (0, false) := by unfold Xy; rw [if_pos om9]
theorem Zga {P : List Str} {l : List Msg} (h : 0 < l.length) : Xy P l = (((YW (wOf P (Zj l)) (P.length + 1) : Nat) : Int), true) := by unfold Xy; rw [if_neg om9]
theorem ZrR {P : List Str} {l : List Msg} : 0 ≤ (Xy P l).1 ∧ (Xy P l).1 ≤ P.length := by
 unfold Xy
 split
 ·exact ⟨Int.le_refl 0, om9⟩
 ·rcases Zf7 (wOf P (Zj l)) (P.length + 1) with h | h
  ·dsimp only; omega
  ·omega
def wts (P : List Str) (F : List Msg) : List Int := (List.range (P.length + 1)).map (wOf P F)
theorem ZcM (P : List Str) (F : List Msg) : (wts P F).length = P.length + 1 := by simp [wts]
theorem Zap {P : List Str} {F : List Msg} {i : Nat} (h : i < (wts P F).length) : (wts P F)[i] = wOf P F i := by simp [wts]
theorem ZrS (P : List Str) : List.replicate (P.length + 1) (0 : Int) = wts P [] := by
 refine List.ext_getElem (by simp [wts]) fun i h1 h2 => ?_
 rw [Zap h2]
 simp [wOf, Zw]
theorem Zkh {P : List Str} {F : List Msg} {q : Nat} (hq : q < F.length) (h : Zg P F[q].key < (wts P (F.take q)).length) : (wts P (F.take q)).set (Zg P F[q].key) ((wts P (F.take q))[Zg P F[q].key] + F[q].size) = wts P (F.take (q + 1)) := by
 refine List.ext_getElem (by rw [List.length_set, ZcM, ZcM]) fun i h1 h2 => ?_
 rw [Zap h2, List.getElem_set]
 rw [List.length_set] at h1
 split
 ·rename_i e
  subst e
  rw [Zap h1, Zkf hq rfl]
 ·rename_i e
  rw [Zap h1, ZrO hq e]
def ZB (c : Cfg) (n : Nd) (k : Str) : Int × Int :=
 if n.level = 0 then (0, 0) else if n.slot = 0 ∧ ZK c n = true then (1, 0) else (2, if (Xy n.pivots n.msgs).2 = true then (Xy n.pivots n.msgs).1 else ((Zg n.pivots k : Nat) : Int))
noncomputable def Z4 (c : Cfg) (p k : Nd) (i : Int) : Int :=
 if 0 < k.level ∧ ZK c k = true then (if ZK c p = true then 0 else 3) else if 0 < ZY c.leaf c.bud p k i then 4 else if 0 < k.level then 5 else if 0 < (Zd p.pivots p.msgs i).length then (if ZK c p = true then 0 else 3) else 0
theorem ZrT (leaf bud : Int) (p k : Nd) (i : Int) : (Z9 leaf bud p k i).2.2 = ZY leaf bud p k i := by
 unfold Z9
 split
 ·rename_i h; rw [h]
 ·rfl
theorem Zki {c : Cfg} {n : Nd} {k : Str} (h : n.level = 0) : ZB c n k = (0, 0) := if_pos h
theorem Zgb {c : Cfg} {n : Nd} {k : Str} (h : ¬ n.level = 0) (h2 : n.slot = 0) (h3 : ZK c n = true) : ZB c n k = (1, 0) := by unfold ZB; rw [if_neg h, if_pos ⟨h2, h3⟩]
theorem Zgc {c : Cfg} {n : Nd} {k : Str} (h : ¬ n.level = 0) (h2 : ¬ (n.slot = 0 ∧ ZK c n = true)) (h3 : (Xy n.pivots n.msgs).2 = true) : ZB c n k = (2, (Xy n.pivots n.msgs).1) := by unfold ZB; rw [if_neg h, if_neg h2, if_pos h3]
theorem Zgd {c : Cfg} {n : Nd} {k : Str} (h : ¬ n.level = 0) (h2 : ¬ (n.slot = 0 ∧ ZK c n = true)) (h3 : (Xy n.pivots n.msgs).2 = false) : ZB c n k = (2, ((Zg n.pivots k : Nat) : Int)) := by unfold ZB; rw [if_neg h, if_neg h2, if_neg (by simp [h3])]
section
variable {c : Cfg} {p k : Nd} {i : Int}
theorem Zkj (h : 0 < k.level) (h2 : ZK c k = true) : Z4 c p k i = if ZK c p = true then 0 else 3 := if_pos ⟨h, h2⟩
theorem ZdT (h : ¬ (0 < k.level ∧ ZK c k = true)) (hc : 0 < ZY c.leaf c.bud p k i) : Z4 c p k i = 4 := by unfold Z4; rw [if_neg h, if_pos hc]
theorem ZdU (h : ¬ (0 < k.level ∧ ZK c k = true)) (hc : ¬ 0 < ZY c.leaf c.bud p k i) (h0 : 0 < k.level) : Z4 c p k i = 5 := by unfold Z4; rw [if_neg h, if_neg hc, if_pos h0]
theorem ZdV (hc : ¬ 0 < ZY c.leaf c.bud p k i) (h0 : ¬ 0 < k.level) (hw : 0 < (Zd p.pivots p.msgs i).length) : Z4 c p k i = if ZK c p = true then 0 else 3 := by unfold Z4; rw [if_neg (fun h => h0 h.1), if_neg hc, if_neg h0, if_pos hw]
theorem ZdW (hc : ¬ 0 < ZY c.leaf c.bud p k i) (h0 : ¬ 0 < k.level) (hw : ¬ 0 < (Zd p.pivots p.msgs i).length) : Z4 c p k i = 0 := by unfold Z4; rw [if_neg (fun h => h0 h.1), if_neg hc, if_neg h0, if_neg hw]
end
def ChoosePre (n : Nd) : Prop := ¬ n.level = 0 → Z2 n.pivots = true ∧ (∀ m ∈ n.msgs, m.key.b.size ≤ 16 ∧ m.val.b.size ≤ 16) ∧ n.msgs.length ≤ 100000 ∧ n.pivots.length ≤ 100000
theorem ZrU {c : Cfg} {n : Nd} (h : n.R c.fan c.leaf c.bud) (s : NdS n) : ChoosePre n := fun h0 => by
 have h4 := h.2.2.2
 rw [if_neg h0] at h4
 obtain ⟨_, s2, s3, _⟩ := s
 exact ⟨(YQ h4.2.1).1, fun m hm => Y5 (Zf2 h m hm), om9, om9⟩
end Go.Fw
namespace Go.Proofs.YtbbemibbmbmamaaGreat
open Go Go.Fw Go.RowKit
attribute [local irreducible] Ok W WC
theorem Zkk {G : GH} {v_P : Value} {P : List Str} (h_P : SlR Z8 G v_P P) {v_l : Value} {l : List Msg} (h_l : SlR Zp G v_l l) (hs : ∀ m ∈ l, m.key.b.size ≤ 16 ∧ m.val.b.size ≤ 16) (hl9 : l.length ≤ 100000 ∧ P.length ≤ 100000) (hr : Z2 P = true) :
    Fc Tryz.prog 191 [v_P, v_l] G [] (fun v _ _ => v = .tuple #[iV ((Xy P l).1), .bool ((Xy P l).2)]) := by
 obtain ⟨sa_P, sc_P, rfl⟩ := h_P.form
 obtain ⟨sa_l, sc_l, rfl⟩ := h_l.form
 have hl := h_l.len47
 have hlP := h_P.len47
 have hfl := Zfq l
 have hfs : ∀ m ∈ Zj l, m.key.b.size ≤ 16 ∧ m.val.b.size ≤ 16 := fun m h => hs m (Zdt h)
 refine Fc.go [.tmp 4, .tmp 5] Tryz.func191 Tryz.ntmps191 rfl (fun w0 => (g9 14 ?_))
 refine WC.cd (fun h14 p14 => ?_) (fun h14 p14 => ?_)
 ·refine g9 9 ?_
  show Value.tuple #[Value.int _ _, Value.bool _] = _
  rw [Zkg om9]
 refine g9 6 ?_
 refine W.ok (Ok.int (n := ((P.length + 1 : Nat) : Int)) (YT rfl rfl om9) om9) (W.mkSl (e := Zz) (a0 := (0 : Int)) (n := P.length + 1) ZU ty3 zr3 rfl by3 (⟨rfl, by decide, by decide⟩) rfl rfl (by first | (show _ * 8 ≤ 140737488355328; omega) | (show _ * 8 ≤ 16777216; omega) | (show _ * 1 ≤ 16777216; omega)) (by first | (show _ * 8 ≤ 140737488355328; omega) | (show _ * 8 ≤ 16777216; omega) | (show _ * 1 ≤ 16777216; omega)) (fun v1 Ms2 ho3 => ?_))
 have q7 := ho3.form
 refine match q7 with | ⟨sa4, sc5, e_6⟩ => ?_
 subst e_6
 refine g9 7 ?_
 refine W.cS (Zjd h_l) rfl (fun sa_hv9 sc_hv9 G8 hG8 hv9 => (g9 5 ?_))
 refine WC.loop (X := (Nat) × Value × MH) (fun q => [(22, nt9 q.1), (0, lV sa_P P.length sc_P), (20, lV sa_hv9 ((Zj l)).length sc_hv9), (21, nt9 (((Zj l)).length)), (6, q.2.1)]) (fun q G Ml => Ml = (q.2.2 ++ []) ∧ OwnR Zz 3 G q.2.1 (wts P ((Zj l).take q.1)) q.2.2 ∧ q.1 ≤ (Zj l).length) (fun q => (Zj l).length - q.1) (0, lV sa4 ((List.replicate (P.length + 1) (0 : Int))).length sc5, Ms2) hs9 ?_ ?_
 ·exact ⟨rfl, (by exact OwnR.cast (ho3.mono hG8) (ZrS P)), om9⟩
 rintro ⟨q, v_6, M_6⟩ gG15 G15 _ hG15 ⟨rfl, ho_6, hq⟩
 try dsimp only at ho_6 hq
 have hwl := ZcM P ((Zj l).take q)
 refine WC.fr (f := ZX gG15 [(22, nt9 q), (0, lV sa_P P.length sc_P), (20, lV sa_hv9 ((Zj l)).length sc_hv9), (21, nt9 (((Zj l)).length)), (6, v_6)]) rfl (g9 6 ?_)
 refine WC.cd (fun h23 p23 => ?_) (fun h23 p23 => ?_)
 ·have hrl : (Zg P ((Zj l)[q]'om9).key) < (wts P ((Zj l).take q)).length := by rw [ZcM]; have : (Zg P ((Zj l)[q]'om9).key) ≤ P.length := List.length_filter_le _ _; omega
  have hg9 := Zap hrl
  have hb9 := ZrN P ((Zj l).take q) (Zg P ((Zj l)[q]'om9).key) (fun m h => hfs m (List.mem_of_mem_take h))
  have hb8 := Zf9 P ((Zj l).take q) (Zg P ((Zj l)[q]'om9).key)
  have ht9 : ((Zj l).take q).length ≤ 100000 := by rw [List.length_take]; omega
  have hz9 := Zcl (hfs _ (List.getElem_mem (by omega : q < (Zj l).length)))
  have hwi : i64 ((wts P ((Zj l).take q))[(Zg P ((Zj l)[q]'om9).key)]'hrl + ((Zj l)[q]'om9).size) := ⟨om9, om9⟩
  have he9 : Msg.size ⟨((Zj l)[q]'om9).stamp, ((Zj l)[q]'om9).kind, ((Zj l)[q]'om9).key, ((Zj l)[q]'om9).hi, ((Zj l)[q]'om9).opn, ((Zj l)[q]'om9).val⟩ = ((Zj l)[q]'om9).size := rfl
  refine g9 6 ?_
  refine (hv9.mono hG15).a2 (i := q) om9 (fun he16 hm17 => (g9 2 ?_))
  refine W.alloc ZL (fun b21 => (g9 3 ?_))
  refine WC.dw sn9.k9 (d9 [0, 1, 2, 3, 7] ?_)
  refine WD.a1 4 rfl (W.qcall (ZbG (h_P.mono lec) _ hr) rfl (W.nn (ho_6.a2 (i := (Zg P ((Zj l)[q]'om9).key)) om9 (fun he22 hi23 => (WD.tk 5 rfl (Ya (i := (Zg P ((Zj l)[q]'om9).key)) ZU ty3 ho_6 rfl rfl ⟨rfl, om9⟩) ?_)))))
  refine WD.any [6, 8] (by kernel_rfl) rfl ⟨WD.ap ?_, WD.ap ?_, trivial⟩
  ·refine W.ok (YF (vs := ic9) ty3 he22 (pmC pr9) rfl rfl rfl (by simp)) (W.nn (WD.a1 8 rfl (W.qcall (Zdv _ _ _ _ _ _) rfl (W.nn (d9 [9] ?_)))))
   refine ho_6.a2 (i := (Zg P ((Zj l)[q]'om9).key)) om9 (fun he26 hi27 => (WD.tk 10 rfl (Ya (i := (Zg P ((Zj l)[q]'om9).key)) ZU ty3 ho_6 rfl rfl ⟨rfl, om9⟩) (WD.a1 11 rfl (W.storeO (i := (Zg P ((Zj l)[q]'om9).key)) (o := 0) (vs := ic9) (a' := ((wts P ((Zj l).take q))[(Zg P ((Zj l)[q]'om9).key)]'hrl + ((Zj l)[q]'om9).size)) ty3 rfl rfl rfl rfl rfl (ho_6) (pmC pr9) om9 (by decide) (fun cs h => by rw [h.1]; exact ⟨rfl, hwi⟩) (fun Ms30 ho31 => (W.perm (pmC pr9).symm (W.nn (WD.done (by kernel_rfl) (JX (Xj (g9 3 ?_)))))))))))
   refine W.sub (sr9.cons _) (g9 2 ?_)
   exact ⟨Le.rfl, (q + 1, v_6, Ms30), hs9, ⟨rfl, (by have h := ho31; rw [Zkh om9 hrl] at h; exact h), om9⟩, om9⟩
  refine W.qcall (Zdv _ _ _ _ _ _) rfl (W.nn (WD.a1 6 rfl (W.ok (YF (vs := ic9) ty3 he22 (pmC pr9) rfl rfl rfl (by simp)) (W.nn (d9 [9] ?_)))))
  refine ho_6.a2 (i := (Zg P ((Zj l)[q]'om9).key)) om9 (fun he32 hi33 => (WD.tk 10 rfl (Ya (i := (Zg P ((Zj l)[q]'om9).key)) ZU ty3 ho_6 rfl rfl ⟨rfl, om9⟩) (WD.a1 11 rfl (W.storeO (i := (Zg P ((Zj l)[q]'om9).key)) (o := 0) (vs := ic9) (a' := ((wts P ((Zj l).take q))[(Zg P ((Zj l)[q]'om9).key)]'hrl + ((Zj l)[q]'om9).size)) ty3 rfl rfl rfl rfl rfl (ho_6) (pmC pr9) om9 (by decide) (fun cs h => by rw [h.1]; exact ⟨rfl, hwi⟩) (fun Ms36 ho37 => (W.perm (pmC pr9).symm (W.nn (WD.done (by kernel_rfl) (JX (Xj (g9 3 ?_)))))))))))
  refine W.sub (sr9.cons _) (g9 2 ?_)
  exact ⟨Le.rfl, (q + 1, v_6, Ms36), hs9, ⟨rfl, (by have h := ho37; rw [Zkh om9 hrl] at h; exact h), om9⟩, om9⟩
 refine g9 6 ?_
 have hw38 := ho_6
 rw [List.take_of_length_le (by omega : (Zj l).length ≤ q)] at hw38
 refine g9 13 ?_
 refine WC.loop (X := Nat) (fun k => [(9, nt9 ((YW (wOf P (Zj l)) k))), (40, nt9 k), (6, v_6), (38, v_6), (39, nt9 (((wts P (Zj l))).length))]) (fun k _ Ml => Ml = (M_6 ++ []) ∧ k ≤ P.length + 1) (fun k => P.length + 1 - k) 0 hs9 ?_ ?_
 ·exact ⟨rfl, om9⟩
 rintro k gG39 G39 _ hG39 ⟨rfl, hk⟩
 have hbl := Zf7 (wOf P (Zj l)) k
 have hwl9 := ZcM P (Zj l)
 refine g9 6 ?_
 refine WC.cd (fun h41 p41 => ?_) (fun h41 p41 => ?_)
 ·refine g9 7 ?_
  refine (hw38.mono hG39).a2 (i := k) om9 (fun he40 hi41 => (W.ok (Ya (i := k) ZU ty3 (hw38.mono hG39) rfl rfl ⟨om9, om9⟩) (W.ok (YF (vs := ic9) ty3 he40 pr9 rfl rfl rfl (by simp)) (g9 9 ?_))))
  refine (hw38.mono hG39).a2 (i := (YW (wOf P (Zj l)) k)) om9 (fun he44 hi45 => (W.ok (Ya (i := (YW (wOf P (Zj l)) k)) ZU ty3 (hw38.mono hG39) rfl rfl ⟨rfl, om9⟩) (W.ok (YF (vs := ic9) ty3 he44 pr9 rfl rfl rfl (by simp)) (g9 3 ?_))))
  refine WC.cd (fun h50 p50 => ?_) (fun h50 p50 => ?_)
  ·refine g9 11 ?_
   exact ⟨Le.rfl, k + 1, ⟨(iv (by rw [ZrL (by rw [Zap, Zap] at p50; omega)])), eqv, eqv, eqv, eqv, trivial⟩, ⟨rfl, om9⟩, om9⟩
  refine g9 8 ?_
  exact ⟨Le.rfl, k + 1, ⟨(iv (by rw [ZrM (by rw [Zap, Zap] at p50; omega)])), eqv, eqv, eqv, eqv, trivial⟩, ⟨rfl, om9⟩, om9⟩
 refine g9 14 ?_
 show Value.tuple #[Value.int _ _, Value.bool _] = _
 rw [Zga om9, show k = P.length + 1 by omega]

theorem ZrV {G : GH} {v_p : Value} {p : List Str} (h_p : SlR Z8 G v_p p) {v_c : Value} {c : List Int} (h_c : SlR Zz G v_c c) :
    Fc Tryz.prog 177 [v_p, v_c] G [] (fun v G' M' => M' = [] ∧ ∃ r : List Str × List Int × Str × List Str × List Int × Bool, r = Y9 p c ∧ ∃ u0 u1 u2 u3, v = .tuple #[u0, u1, sV (Str.b (r.2.2.1)), u2, u3, .bool (r.2.2.2.2.2)] ∧ SlR Z8 G' u0 (r.1) ∧ SlR Zz G' u1 (r.2.1) ∧ SlR Z8 G' u2 (r.2.2.2.1) ∧ SlR Zz G' u3 (r.2.2.2.2.1)) := by
 obtain ⟨sa_p, sc_p, rfl⟩ := h_p.form
 obtain ⟨sa_c, sc_c, rfl⟩ := h_c.form
 have hp := h_p.len47
 have hc := h_c.len47
 refine Fc.go [.tmp 4, .tmp 5, .tmp 6, .tmp 7, .tmp 8, .tmp 9] Tryz.func177 Tryz.ntmps177 rfl (fun w0 => (g9 17 ?_))
 refine W.sd 14 (fun h13 p13 => ?_) (fun h13 p13 => ?_)
 ·refine g9 23 ?_
  refine ⟨rfl, _, (Zg0 om9).symm, _, _, _, _, rfl, ?_, ?_, ?_, ?_⟩
  · exact SlR.nil
  · exact SlR.nil
  · exact SlR.nil
  exact SlR.nil
 refine g9 15 ?_
 refine WC.cn (fun h20 p20 => ?_) (fun h20 p20 => ?_)
 ·refine g9 13 ?_
  refine ⟨rfl, _, (Zg0 om9).symm, _, _, _, _, rfl, ?_, ?_, ?_, ?_⟩
  · exact SlR.nil
  · exact SlR.nil
  · exact SlR.nil
  exact SlR.nil
 refine g9 7 ?_
 refine W.ok (ZgM rfl rfl om9 om9 om9) (g9 4 ?_)
 refine WC.dw sr9 (d9 [0, 1, 2] ?_)
 have hs1 := SlR.slice h_p (lo := 0) (hi := ((c.length + 1) / 2) - 1) om9 om9
 refine WD.tk 3 rfl (Jt (0) (((c.length + 1) / 2) - 1) Z3 ty9 h_p rfl rfl ⟨_, _, rfl, om9⟩ ⟨om9, om9⟩) (d9 [5, 6] ?_)
 have hs2 := SlR.slice h_c (lo := 0) (hi := ((c.length + 1) / 2)) om9 om9
 refine WD.tk 7 rfl (Jt (0) (((c.length + 1) / 2)) ZU ty3 h_c rfl rfl ⟨_, _, rfl, om9⟩ ⟨om9, om9⟩) (d9 [9, 10, 11] ?_)
 refine h_p.a1 (i := ((c.length + 1) / 2) - 1) om9 (fun he3 => (WD.tk 12 rfl (Z1 (i := ((c.length + 1) / 2) - 1) Z3 ty9 h_p rfl rfl ⟨om9, om9⟩) (d9 [13, 14, 15] ?_)))
 have hs6 := SlR.slice h_p (lo := ((c.length + 1) / 2)) (hi := p.length) om9 om9
 refine WD.tk 16 rfl (Jt (((c.length + 1) / 2)) (p.length) Z3 ty9 h_p rfl ⟨_, _, rfl, om9⟩ rfl ⟨om9, om9⟩) (d9 [18, 19] ?_)
 have hs7 := SlR.slice h_c (lo := ((c.length + 1) / 2)) (hi := c.length) om9 om9
 refine WD.tk 20 rfl (Jt (((c.length + 1) / 2)) (c.length) ZU ty3 h_c rfl ⟨_, _, rfl, om9⟩ rfl ⟨om9, om9⟩) (WD.a1 4 rfl (W.cS (ZcS hs1) rfl (fun sa_hv9 sc_hv9 G8 hG8 hv9 => (W.nn (WD.a1 8 rfl (W.cS (ZcT (hs2.mono hG8)) rfl (fun sa_hv16 sc_hv16 G15 hG15 hv16 => (W.nn (WD.a1 17 rfl (W.cS (ZcS (hs6.mono lec)) rfl (fun sa_hv23 sc_hv23 G22 hG22 hv23 => (W.nn (WD.a1 21 rfl (W.cS (ZcT (hs7.mono lec)) rfl (fun sa_hv30 sc_hv30 G29 hG29 hv30 => (W.nn (d9 [22, 23, 24, 25, 26, 27] ?_)))))))))))))))))
 refine g9 4 ?_
 refine ⟨rfl, _, (Zg1 om9).symm, _, _, _, _, rfl, ?_, ?_, ?_, ?_⟩
 · exact SlR.cast ((hv9.mono lec)) (by simp)
 · exact SlR.cast ((hv16.mono lec)) (by simp)
 · exact SlR.cast ((hv23.mono hG29)) (by simp)
 exact SlR.cast (hv30) (by simp)

theorem ZrW {G : GH} {cs_a : List Value} {a : Nd} (h_a : NodeC G cs_a a) (hks : ∀ m ∈ a.msgs, m.key.b.size < 140737488355328) :
    Fc Tryz.prog 243 [.agg (List.toArray cs_a)] G [] (fun v G' M' => M' = [] ∧ ∃ r : Nd × Nd × Str × Bool, r = Yl a ∧ ∃ u0 u1, v = .tuple #[.agg (List.toArray u0), .agg (List.toArray u1), sV (Str.b (r.2.2.1)), .bool (r.2.2.2)] ∧ NodeC G' u0 (r.1) ∧ NodeC G' u1 (r.2.1)) := by
 obtain ⟨_, _, _, _, _, _, _, _, rfl, hp_a, hk_a, hm_a, hr_a, hok_a⟩ := h_a
 refine Fc.go [.cell 2 60, .cell 3 60, .tmp 4, .tmp 5] Tryz.func243 Tryz.ntmps243 rfl (fun w0 => (g9 2 ?_))
 refine W.box (L := [iV _, iV _, lV _ _ _, lV _ _ _, sV _, .bool _, iV _, iV _, lV _ _ _, lV _ _ _]) rfl rfl (fun b36 => (W.alloc Zo (fun b37 => (W.alloc Zo (fun b38 => (g9 5 ?_))))))
 refine WC.dw ((sr9.k9.cons _).cons _) (d9 [0, 1, 2, 3] ?_)
 refine g9 10 ?_
 refine WC.cd (fun h10 p10 => ?_) (fun h10 p10 => ?_)
 ·refine g9 4 ?_
  refine W.call (Mp := []) (Ztf hr_a) rfl pr9 ?_
  intro _ G39 _ hG39 q42
  refine match q42 with | ⟨e_43, _, e_44, _, _, e_45, hv40, hv41⟩ => ?_
  subst e_43
  subst e_44
  subst e_45
  have q47 := hv40.form
  refine match q47 with | ⟨sa_hv40, sc_hv40, e_46⟩ => ?_
  subst e_46
  have q49 := hv41.form
  refine match q49 with | ⟨sa_hv41, sc_hv41, e_48⟩ => ?_
  subst e_48
  refine g9 14 ?_
  refine WC.dw ((sr9.k9.cons _).cons _) (d9 [2, 3] ?_)
  refine WD.any [0, 1] (by kernel_rfl) rfl ⟨WD.ap ?_, WD.ap ?_, trivial⟩
  ·refine g9 1 ?_
   refine W.nn ?_
   refine WD.any [1, 4] (by kernel_rfl) rfl ⟨WD.ap ?_, WD.ap ?_, trivial⟩
   ·refine g9 1 ?_
    refine W.nn (d9 [4, 5, 6, 7] ?_)
    refine g9 5 ?_
    refine ⟨rfl, _, (ZaV p10).symm, _, _, rfl, ?_, ?_⟩
    · exact ⟨_, _, _, _, _, _, _, _, rfl, (hp_a.mono hG39), (hk_a.mono hG39), (hm_a.mono hG39), hv40, hok_a⟩
    exact ⟨_, _, _, _, _, _, _, _, rfl, (hp_a.mono hG39), (hk_a.mono hG39), (hm_a.mono hG39), hv41, hok_a⟩
   refine g9 1 ?_
   refine W.nn (WD.a1 1 rfl (g9 1 ?_))
   refine W.nn (d9 [5, 6, 7] ?_)
   refine g9 5 ?_
   refine ⟨rfl, _, (ZaV p10).symm, _, _, rfl, ?_, ?_⟩
   · exact ⟨_, _, _, _, _, _, _, _, rfl, (hp_a.mono hG39), (hk_a.mono hG39), (hm_a.mono hG39), hv40, hok_a⟩
   exact ⟨_, _, _, _, _, _, _, _, rfl, (hp_a.mono hG39), (hk_a.mono hG39), (hm_a.mono hG39), hv41, hok_a⟩
  refine g9 1 ?_
  refine W.nn (WD.a1 0 rfl (g9 1 ?_))
  refine W.nn (d9 [4, 5, 6, 7] ?_)
  refine g9 5 ?_
  refine ⟨rfl, _, (ZaV p10).symm, _, _, rfl, ?_, ?_⟩
  · exact ⟨_, _, _, _, _, _, _, _, rfl, (hp_a.mono hG39), (hk_a.mono hG39), (hm_a.mono hG39), hv40, hok_a⟩
  exact ⟨_, _, _, _, _, _, _, _, rfl, (hp_a.mono hG39), (hk_a.mono hG39), (hm_a.mono hG39), hv41, hok_a⟩
 refine g9 9 ?_
 refine W.qcall (Ze8 hp_a hk_a) rfl (g9 3 ?_)
 refine WC.cond rfl (fun h30 => ?_) (fun h30 => ?_)
 ·refine WC.seq (WC.dw ((sr9.k9.cons _).cons _) ?_)
  refine WD.any [0, 1] (by kernel_rfl) rfl ⟨WD.ap ?_, WD.ap ?_, trivial⟩
  ·refine g9 1 ?_
   refine W.nn ?_
   refine WD.any [1, 2] (by kernel_rfl) rfl ⟨WD.ap ?_, WD.ap ?_, trivial⟩
   ·refine g9 1 ?_
    refine W.nn (d9 [2, 3, 4, 5] ?_)
    refine g9 5 ?_
    refine ⟨rfl, _, (Zck p10 (by simpa using h30)).symm, _, _, rfl, ?_, ?_⟩
    · exact (nk9 hp_a hk_a hm_a hr_a hok_a)
    exact (nk9 hp_a hk_a hm_a hr_a hok_a)
   refine g9 1 ?_
   refine W.nn (WD.a1 1 rfl (g9 1 ?_))
   refine W.nn (d9 [3, 4, 5] ?_)
   refine g9 5 ?_
   refine ⟨rfl, _, (Zck p10 (by simpa using h30)).symm, _, _, rfl, ?_, ?_⟩
   · exact (nk9 hp_a hk_a hm_a hr_a hok_a)
   exact (nk9 hp_a hk_a hm_a hr_a hok_a)
  refine g9 1 ?_
  refine W.nn (WD.a1 0 rfl (g9 1 ?_))
  refine W.nn (d9 [2, 3, 4, 5] ?_)
  refine g9 5 ?_
  refine ⟨rfl, _, (Zck p10 (by simpa using h30)).symm, _, _, rfl, ?_, ?_⟩
  · exact (nk9 hp_a hk_a hm_a hr_a hok_a)
  exact (nk9 hp_a hk_a hm_a hr_a hok_a)
 refine g9 8 ?_
 refine W.call (Mp := []) (ZrV hp_a hk_a) rfl pr9 ?_
 intro _ G50 _ hG50 q55
 refine match q55 with | ⟨e_56, _, e_57, _, _, _, _, e_58, hv51, hv52, hv53, hv54⟩ => ?_
 subst e_56
 subst e_57
 subst e_58
 have q60 := hv51.form
 refine match q60 with | ⟨sa_hv51, sc_hv51, e_59⟩ => ?_
 subst e_59
 have q62 := hv52.form
 refine match q62 with | ⟨sa_hv52, sc_hv52, e_61⟩ => ?_
 subst e_61
 have q64 := hv53.form
 refine match q64 with | ⟨sa_hv53, sc_hv53, e_63⟩ => ?_
 subst e_63
 have q66 := hv54.form
 refine match q66 with | ⟨sa_hv54, sc_hv54, e_65⟩ => ?_
 subst e_65
 refine g9 20 ?_
 refine WC.dw ((sr9.k9.cons _).cons _) (d9 [0, 1, 2] ?_)
 refine WD.tk 3 rfl (ZD (L := [sV _, sV _, .bool _]) Xe Zy rfl rfl rfl) (d9 [5, 6, 7] ?_)
 refine WD.tk 8 rfl (ZD (L := [sV _, sV _, .bool _]) Xe Zy rfl rfl rfl) (WD.a1 4 rfl (W.cS (Zdx (hm_a.mono hG50) Str.nil _ _ (by assumption)) rfl (fun sa_hv68 sc_hv68 G67 hG67 hv68 => (W.nn (d9 [10] ?_)))))
 refine WD.a1 9 rfl (W.cS (Zdx (hm_a.mono lec) _ Str.nil _ (by assumption)) rfl (fun sa_hv75 sc_hv75 G74 hG74 hv75 => (W.nn (d9 [11, 12, 13] ?_))))
 refine g9 3 ?_
 refine WC.dw ((sr9.k9.cons _).cons _) (d9 [2, 3] ?_)
 refine WD.any [0, 1] (by kernel_rfl) rfl ⟨WD.ap ?_, WD.ap ?_, trivial⟩
 ·refine g9 1 ?_
  refine W.nn ?_
  refine WD.any [1, 4] (by kernel_rfl) rfl ⟨WD.ap ?_, WD.ap ?_, trivial⟩
  ·refine g9 1 ?_
   refine W.nn (d9 [4, 5, 6, 7] ?_)
   refine g9 4 ?_
   refine ⟨rfl, _, (ZaW p10 (by simpa using h30)).symm, _, _, rfl, ?_, ?_⟩
   · exact ⟨_, _, _, _, _, _, _, _, rfl, (hv51.mono lec), (hv52.mono lec), (hv68.mono hG74), (hr_a.mono lec), hok_a⟩
   exact ⟨_, _, _, _, _, _, _, _, rfl, (hv53.mono lec), (hv54.mono lec), hv75, (hr_a.mono lec), hok_a⟩
  refine g9 1 ?_
  refine W.nn (WD.a1 1 rfl (g9 1 ?_))
  refine W.nn (d9 [5, 6, 7] ?_)
  refine g9 4 ?_
  refine ⟨rfl, _, (ZaW p10 (by simpa using h30)).symm, _, _, rfl, ?_, ?_⟩
  · exact ⟨_, _, _, _, _, _, _, _, rfl, (hv51.mono lec), (hv52.mono lec), (hv68.mono hG74), (hr_a.mono lec), hok_a⟩
  exact ⟨_, _, _, _, _, _, _, _, rfl, (hv53.mono lec), (hv54.mono lec), hv75, (hr_a.mono lec), hok_a⟩
 refine g9 1 ?_
 refine W.nn (WD.a1 0 rfl (g9 1 ?_))
 refine W.nn (d9 [4, 5, 6, 7] ?_)
 refine g9 4 ?_
 refine ⟨rfl, _, (ZaW p10 (by simpa using h30)).symm, _, _, rfl, ?_, ?_⟩
 · exact ⟨_, _, _, _, _, _, _, _, rfl, (hv51.mono lec), (hv52.mono lec), (hv68.mono hG74), (hr_a.mono lec), hok_a⟩
 exact ⟨_, _, _, _, _, _, _, _, rfl, (hv53.mono lec), (hv54.mono lec), hv75, (hr_a.mono lec), hok_a⟩

theorem Zge {G : GH} {cs_a : List Value} {a : Nd} (h_a : NodeC G cs_a a) (i : Int) (hi : i64 i) (hks : ∀ m ∈ a.msgs, m.key.b.size < 140737488355328) :
    Fc Tryz.prog 217 [.agg (List.toArray cs_a), iV i] G [] (fun v G' M' => M' = [] ∧ ∃ r : Nd × Nd × Str × Bool, r = Zq a i ∧ ∃ u0 u1, v = .tuple #[.agg (List.toArray u0), .agg (List.toArray u1), sV (Str.b (r.2.2.1)), .bool (r.2.2.2)] ∧ NodeC G' u0 (r.1) ∧ NodeC G' u1 (r.2.1)) := by
 obtain ⟨_, _, _, _, _, _, _, _, rfl, hp_a, hk_a, hm_a, hr_a, hok_a⟩ := h_a
 refine Fc.go [.cell 4 60, .cell 5 60, .tmp 6, .tmp 7] Tryz.func217 Tryz.ntmps217 rfl (fun w0 => (g9 2 ?_))
 refine W.box (L := [iV _, iV _, lV _ _ _, lV _ _ _, sV _, .bool _, iV _, iV _, lV _ _ _, lV _ _ _]) rfl rfl (fun b81 => (W.alloc Zo (fun b82 => (W.alloc Zo (fun b83 => (g9 7 ?_))))))
 refine W.cM (ZrW (nk9 hp_a hk_a hm_a hr_a hok_a) (by assumption)) rfl (fun _ _ _ _ _ _ _ _ _ _ _ _ _ _ _ _ G84 hG84 hp_hv85 hk_hv85 hm_hv85 hr_hv85 hok_hv85 hp_hv86 hk_hv86 hm_hv86 hr_hv86 hok_hv86 => (g9 18 ?_))
 refine WC.cond rfl (fun h16 => ?_) (fun h16 => ?_)
 ·refine g9 2 ?_
  refine W.ok (ZD (L := [iV _, iV _, lV _ _ _, lV _ _ _, sV _, .bool _, iV _, iV _, lV _ _ _, lV _ _ _]) J3 Zo rfl rfl rfl) (W.ok (ZD (L := [iV _, iV _, lV _ _ _, lV _ _ _, sV _, .bool _, iV _, iV _, lV _ _ _, lV _ _ _]) J3 Zo rfl rfl rfl) (g9 9 ?_))
  refine ⟨rfl, _, (Zbq (by simpa using h16)).symm, _, _, rfl, ?_, ?_⟩
  · exact ⟨_, _, _, _, _, _, _, _, rfl, SlR.nil, SlR.nil, SlR.nil, SlR.nil, Nd.zero_ok⟩
  exact ⟨_, _, _, _, _, _, _, _, rfl, SlR.nil, SlR.nil, SlR.nil, SlR.nil, Nd.zero_ok⟩
 refine g9 22 ?_
 refine WC.dw ((sr9.k9.cons _).cons _) (d9 [4] ?_)
 refine WD.any [0, 2] (by kernel_rfl) rfl ⟨WD.ap ?_, WD.ap ?_, trivial⟩
 ·refine g9 1 ?_
  refine W.nn ?_
  refine WD.any [1, 2] (by kernel_rfl) rfl ⟨WD.ap ?_, WD.ap ?_, trivial⟩
  ·refine W.cN (XM (show NodeC _ _ { (Yl a).1 with high := (Yl a).2.2.1, top := false, right := i } from ⟨_, _, _, _, _, _, _, _, rfl, hp_hv85, hk_hv85, hm_hv85, hr_hv85, (Zbr (by assumption) hi)⟩)) rfl (fun _ _ _ _ _ _ _ _ G93 hG93 hp_hv94 hk_hv94 hm_hv94 hr_hv94 hok_hv94 => (W.nn (WD.a1 2 rfl (g9 1 ?_))))
   refine W.nn (WD.a1 3 rfl (W.cN (XM (show NodeC _ _ { (Yl a).2.1 with slot := i } from ⟨_, _, _, _, _, _, _, _, rfl, (hp_hv86.mono hG93), (hk_hv86.mono hG93), (hm_hv86.mono hG93), (hr_hv86.mono hG93), (Zbs (by assumption) hi)⟩)) rfl (fun _ _ _ _ _ _ _ _ G99 hG99 hp_hv100 hk_hv100 hm_hv100 hr_hv100 hok_hv100 => (W.nn (d9 [5, 6, 7, 8] ?_)))))
   refine g9 4 ?_
   refine ⟨rfl, _, (JL (by simpa using h16)).symm, _, _, rfl, ?_, ?_⟩
   · exact ⟨_, _, _, _, _, _, _, _, rfl, (hp_hv94.mono hG99), (hk_hv94.mono hG99), (hm_hv94.mono hG99), (hr_hv94.mono hG99), Zbr (by assumption) hi⟩
   exact ⟨_, _, _, _, _, _, _, _, rfl, hp_hv100, hk_hv100, hm_hv100, hr_hv100, Zbs (by assumption) hi⟩
  refine g9 1 ?_
  refine W.nn (WD.a1 1 rfl (W.cN (XM (show NodeC _ _ { (Yl a).1 with high := (Yl a).2.2.1, top := false, right := i } from ⟨_, _, _, _, _, _, _, _, rfl, hp_hv85, hk_hv85, hm_hv85, hr_hv85, (Zbr (by assumption) hi)⟩)) rfl (fun _ _ _ _ _ _ _ _ G105 hG105 hp_hv106 hk_hv106 hm_hv106 hr_hv106 hok_hv106 => (W.nn (WD.a1 3 rfl (W.cN (XM (show NodeC _ _ { (Yl a).2.1 with slot := i } from ⟨_, _, _, _, _, _, _, _, rfl, (hp_hv86.mono hG105), (hk_hv86.mono hG105), (hm_hv86.mono hG105), (hr_hv86.mono hG105), (Zbs (by assumption) hi)⟩)) rfl (fun _ _ _ _ _ _ _ _ G111 hG111 hp_hv112 hk_hv112 hm_hv112 hr_hv112 hok_hv112 => (W.nn (d9 [5, 6, 7, 8] ?_)))))))))
  refine g9 4 ?_
  refine ⟨rfl, _, (JL (by simpa using h16)).symm, _, _, rfl, ?_, ?_⟩
  · exact ⟨_, _, _, _, _, _, _, _, rfl, (hp_hv106.mono hG111), (hk_hv106.mono hG111), (hm_hv106.mono hG111), (hr_hv106.mono hG111), Zbr (by assumption) hi⟩
  exact ⟨_, _, _, _, _, _, _, _, rfl, hp_hv112, hk_hv112, hm_hv112, hr_hv112, Zbs (by assumption) hi⟩
 refine g9 1 ?_
 refine W.nn (WD.a1 0 rfl (g9 1 ?_))
 refine W.nn (WD.a1 1 rfl (W.cN (XM (show NodeC _ _ { (Yl a).1 with high := (Yl a).2.2.1, top := false, right := i } from ⟨_, _, _, _, _, _, _, _, rfl, hp_hv85, hk_hv85, hm_hv85, hr_hv85, (Zbr (by assumption) hi)⟩)) rfl (fun _ _ _ _ _ _ _ _ G117 hG117 hp_hv118 hk_hv118 hm_hv118 hr_hv118 hok_hv118 => (W.nn (WD.a1 3 rfl (W.cN (XM (show NodeC _ _ { (Yl a).2.1 with slot := i } from ⟨_, _, _, _, _, _, _, _, rfl, (hp_hv86.mono hG117), (hk_hv86.mono hG117), (hm_hv86.mono hG117), (hr_hv86.mono hG117), (Zbs (by assumption) hi)⟩)) rfl (fun _ _ _ _ _ _ _ _ G123 hG123 hp_hv124 hk_hv124 hm_hv124 hr_hv124 hok_hv124 => (W.nn (d9 [5, 6, 7, 8] ?_)))))))))
 refine g9 4 ?_
 refine ⟨rfl, _, (JL (by simpa using h16)).symm, _, _, rfl, ?_, ?_⟩
 · exact ⟨_, _, _, _, _, _, _, _, rfl, (hp_hv118.mono hG123), (hk_hv118.mono hG123), (hm_hv118.mono hG123), (hr_hv118.mono hG123), Zbr (by assumption) hi⟩
 exact ⟨_, _, _, _, _, _, _, _, rfl, hp_hv124, hk_hv124, hm_hv124, hr_hv124, Zbs (by assumption) hi⟩

theorem Zkl {G : GH} {cs_n : List Value} {n : Nd} (h_n : NodeC G cs_n n) (x : Int) (y : Int) (hx : i64 x) (hy : i64 y) (hlv : i64 (n.level + 1)) (hks : ∀ m ∈ n.msgs, m.key.b.size < 140737488355328) :
    Fc Tryz.prog 188 [.agg (List.toArray cs_n), iV x, iV y] G [] (fun v G' M' => M' = [] ∧ ∃ r : Nd × Nd × Nd × Bool, r = Z7 n x y ∧ ∃ u0 u1 u2, v = .tuple #[.agg (List.toArray u0), .agg (List.toArray u1), .agg (List.toArray u2), .bool (r.2.2.2)] ∧ NodeC G' u0 (r.1) ∧ NodeC G' u1 (r.2.1) ∧ NodeC G' u2 (r.2.2.1)) := by
 obtain ⟨_, _, _, _, _, _, _, _, rfl, hp_n, hk_n, hm_n, hr_n, hok_n⟩ := h_n
 have hx1 := hx.1
 have hx2 := hx.2
 have hy1 := hy.1
 have hy2 := hy.2
 have hlv1 := hlv.1
 have hlv2 := hlv.2
 refine Fc.go [.cell 6 60, .cell 7 60, .cell 8 60, .tmp 9] Tryz.func188 Tryz.ntmps188 rfl (fun w0 => (g9 2 ?_))
 refine W.box (L := [iV _, iV _, lV _ _ _, lV _ _ _, sV _, .bool _, iV _, iV _, lV _ _ _, lV _ _ _]) rfl rfl (fun b1 => (W.alloc Zo (fun b2 => (W.alloc Zo (fun b3 => (W.alloc Zo (fun b4 => (g9 7 ?_))))))))
 refine W.cM (Zge (nk9 hp_n hk_n hm_n hr_n hok_n) _ (by assumption) (by assumption)) rfl (fun _ _ _ _ _ _ _ _ _ _ _ _ _ _ _ _ G5 hG5 hp_hv6 hk_hv6 hm_hv6 hr_hv6 hok_hv6 hp_hv7 hk_hv7 hm_hv7 hr_hv7 hok_hv7 => (g9 18 ?_))
 refine WC.cond rfl (fun h20 => ?_) (fun h20 => ?_)
 ·refine g9 2 ?_
  refine W.ok (ZD (L := [iV _, iV _, lV _ _ _, lV _ _ _, sV _, .bool _, iV _, iV _, lV _ _ _, lV _ _ _]) J3 Zo rfl rfl rfl) (W.ok (ZD (L := [iV _, iV _, lV _ _ _, lV _ _ _, sV _, .bool _, iV _, iV _, lV _ _ _, lV _ _ _]) J3 Zo rfl rfl rfl) (W.ok (ZD (L := [iV _, iV _, lV _ _ _, lV _ _ _, sV _, .bool _, iV _, iV _, lV _ _ _, lV _ _ _]) J3 Zo rfl rfl rfl) (g9 9 ?_)))
  refine ⟨rfl, _, (Zj7 (by simpa using h20)).symm, _, _, _, rfl, ?_, ?_, ?_⟩
  · exact ⟨_, _, _, _, _, _, _, _, rfl, SlR.nil, SlR.nil, SlR.nil, SlR.nil, Nd.zero_ok⟩
  · exact ⟨_, _, _, _, _, _, _, _, rfl, SlR.nil, SlR.nil, SlR.nil, SlR.nil, Nd.zero_ok⟩
  exact ⟨_, _, _, _, _, _, _, _, rfl, SlR.nil, SlR.nil, SlR.nil, SlR.nil, Nd.zero_ok⟩
 refine g9 5 ?_
 refine W.cN (XM (nm9 hG5 hp_n hk_n hm_n hr_n hok_n)) rfl (fun _ _ _ _ _ _ _ _ G14 hG14 hp_hv15 hk_hv15 hm_hv15 hr_hv15 hok_hv15 => (g9 15 ?_))
 refine W.lit (e := Z8) (l := [_]) (css := [[sV _]]) Z3 ty9 zr9 rfl rfl rfl rfl rfl rfl ⟨rfl, trivial⟩ (fun bl20 G20 hG20 hv20 => (g9 2 ?_))
 refine W.lit (e := Zz) (l := [_, _]) (css := [[iV _], [iV _]]) ZU ty3 zr3 rfl rfl rfl rfl rfl rfl ⟨⟨rfl, om9, om9⟩, ⟨rfl, om9, om9⟩, trivial⟩ (fun bl21 G21 hG21 hv21 => (g9 23 ?_))
 refine WC.cn (fun h42 p42 => ?_) (fun h42 p42 => ?_)
 ·refine g9 16 ?_
  refine WC.dw (((sr9.k9.k9).k9).k9) (d9 [0, 1, 2, 3, 4, 5, 6] ?_)
  refine g9 4 ?_
  refine ⟨rfl, _, (ZrB (by simpa using h20) p42).symm, _, _, _, rfl, ?_, ?_, ?_⟩
  · exact ⟨_, _, _, _, _, _, _, _, rfl, (hv20.mono hG21), hv21, (hm_hv15.mono lec), SlR.nil, ⟨hok_n.1, hlv, hok_n.2.2⟩⟩
  · exact ⟨_, _, _, _, _, _, _, _, rfl, (hp_hv6.mono lec), (hk_hv6.mono lec), SlR.nil, (hr_hv6.mono lec), ⟨hx, (show Nd.Ok (Zq n y).1 from by assumption).2.1, (show Nd.Ok (Zq n y).1 from by assumption).2.2.1, (show i64 0 from ⟨by decide, by decide⟩)⟩⟩
  exact ⟨_, _, _, _, _, _, _, _, rfl, (hp_hv7.mono lec), (hk_hv7.mono lec), SlR.nil, (hr_hv7.mono lec), ⟨(show Nd.Ok (Zq n y).2.1 from by assumption).1, (show Nd.Ok (Zq n y).2.1 from by assumption).2.1, (show Nd.Ok (Zq n y).2.1 from by assumption).2.2.1, (show i64 0 from ⟨by decide, by decide⟩)⟩⟩
 refine g9 14 ?_
 refine WC.dw (((sr9.k9.k9).k9).k9) (d9 [0, 1, 2, 3, 4, 5, 6] ?_)
 refine g9 4 ?_
 refine ⟨rfl, _, (ZrC (by simpa using h20) p42).symm, _, _, _, rfl, ?_, ?_, ?_⟩
 · exact ⟨_, _, _, _, _, _, _, _, rfl, (hv20.mono hG21), hv21, SlR.nil, SlR.nil, ⟨hok_n.1, hlv, hok_n.2.2⟩⟩
 · exact ⟨_, _, _, _, _, _, _, _, rfl, (hp_hv6.mono lec), (hk_hv6.mono lec), SlR.nil, (hr_hv6.mono lec), ⟨hx, (show Nd.Ok (Zq n y).1 from by assumption).2.1, (show Nd.Ok (Zq n y).1 from by assumption).2.2.1, (show Nd.Ok (Zq n y).1 from by assumption).2.2.2⟩⟩
 exact ⟨_, _, _, _, _, _, _, _, rfl, (hp_hv7.mono lec), (hk_hv7.mono lec), SlR.nil, (hr_hv7.mono lec), ⟨(show Nd.Ok (Zq n y).2.1 from by assumption).1, (show Nd.Ok (Zq n y).2.1 from by assumption).2.1, (show Nd.Ok (Zq n y).2.1 from by assumption).2.2.1, (show Nd.Ok (Zq n y).2.1 from by assumption).2.2.2⟩⟩

theorem ZcN {G : GH} (cfan : Int) (cleaf : Int) (cbud : Int) (cslots : Int) (crest : Int) {cs_n : List Value} {n : Nd} (h_n : NodeC G cs_n n) :
    Fc Tryz.prog 190 [.agg #[iV cfan, iV cleaf, iV cbud, iV cslots, iV crest], .agg (List.toArray cs_n)] G [] (fun v _ _ => v = .bool (ZK (⟨cfan, cleaf, cbud, cslots, crest⟩ : Cfg) n)) := by
 obtain ⟨_, _, _, _, _, _, _, _, rfl, hp_n, hk_n, hm_n, hr_n, hok_n⟩ := h_n
 have h1 := hp_n.len47
 have h2 := hk_n.len47
 have h3 := hm_n.len47
 have h4 := hr_n.len47
 refine Fc.go [.tmp 4] Tryz.func190 Tryz.ntmps190 rfl (fun w0 => (g9 2 ?_))
 refine W.box (L := [iV _, iV _, iV _, iV _, iV _]) rfl rfl (fun b22 => (W.box (L := [iV _, iV _, lV _ _ _, lV _ _ _, sV _, .bool _, iV _, iV _, lV _ _ _, lV _ _ _]) rfl rfl (fun b23 => (g9 11 ?_))))
 refine WC.cd (fun h7 p7 => ?_) (fun h7 p7 => ?_)
 ·refine g9 14 ?_
  refine congrArg Value.bool ?_
  first | (rw [ZK, if_pos p7]; done) | (rw [ZK, if_pos p7]; first | (simp_all; done) | (simp_all; omega))
 refine g9 15 ?_
 refine congrArg Value.bool ?_
 first | (rw [ZK, if_neg p7]; done) | (rw [ZK, if_neg p7]; first | (simp_all; done) | (simp_all; omega))

theorem ZrX {G : GH} (cf : Int) (cl : Int) (cb : Int) (cs : Int) (cr : Int) {cs_n : List Value} {n : Nd} (h_n : NodeC G cs_n n) (k : Str) (hq : ChoosePre n) :
    Fc Tryz.prog 150 [.agg #[iV cf, iV cl, iV cb, iV cs, iV cr], .agg (List.toArray cs_n), sV k.b] G [] (fun v _ _ => v = .tuple #[iV ((ZB (⟨cf, cl, cb, cs, cr⟩ : Cfg) n k).1), iV ((ZB (⟨cf, cl, cb, cs, cr⟩ : Cfg) n k).2)]) := by
 obtain ⟨_, _, _, _, _, _, _, _, rfl, hp_n, hk_n, hm_n, hr_n, hok_n⟩ := h_n
 refine Fc.go [.tmp 6, .tmp 7] Tryz.func150 Tryz.ntmps150 rfl (fun w0 => (g9 2 ?_))
 refine W.box (L := [iV _, iV _, iV _, iV _, iV _]) rfl rfl (fun b1 => (W.box (L := [iV _, iV _, lV _ _ _, lV _ _ _, sV _, .bool _, iV _, iV _, lV _ _ _, lV _ _ _]) rfl rfl (fun b2 => (g9 14 ?_))))
 refine WC.cd (fun h13 p13 => ?_) (fun h13 p13 => ?_)
 ·refine g9 10 ?_
  show Value.tuple #[Value.int _ _, Value.int _ _] = _
  rw [Zki p13]
 refine g9 6 ?_
 refine W.sd 18 (fun h17 p17 => ?_) (fun h17 p17 => ?_)
 ·refine g9 5 ?_
  refine W.qcall (ZcN cf cl cb cs cr (n := n) (nk9 hp_n hk_n hm_n hr_n hok_n)) rfl (g9 4 ?_)
  refine WC.cond rfl (fun h21 => ?_) (fun h21 => ?_)
  ·refine g9 10 ?_
   show Value.tuple #[Value.int _ _, Value.int _ _] = _
   rw [Zgb p13 p17 h21]
  refine g9 9 ?_
  refine W.qcall (Zkk hp_n hm_n (hq p13).2.1 (hq p13).2.2 (hq p13).1) rfl (g9 14 ?_)
  refine WC.cond rfl (fun h32 => ?_) (fun h32 => ?_)
  ·refine g9 4 ?_
   refine W.qcall (ZbG hp_n _ (hq p13).1) rfl (g9 12 ?_)
   show Value.tuple #[Value.int _ _, Value.int _ _] = _
   rw [Zgd p13 (fun h => by rw [h21] at h; exact absurd h.2 (by simp)) (by simpa using h32)]
  refine g9 11 ?_
  show Value.tuple #[Value.int _ _, Value.int _ _] = _
  rw [Zgc p13 (fun h => by rw [h21] at h; exact absurd h.2 (by simp)) (by simpa using h32)]
 refine g9 17 ?_
 refine W.qcall (Zkk hp_n hm_n (hq p13).2.1 (hq p13).2.2 (hq p13).1) rfl (g9 14 ?_)
 refine WC.cond rfl (fun h32 => ?_) (fun h32 => ?_)
 ·refine g9 4 ?_
  refine W.qcall (ZbG hp_n _ (hq p13).1) rfl (g9 12 ?_)
  show Value.tuple #[Value.int _ _, Value.int _ _] = _
  rw [Zgd p13 (fun h => p17 h.1) (by simpa using h32)]
 refine g9 11 ?_
 show Value.tuple #[Value.int _ _, Value.int _ _] = _
 rw [Zgc p13 (fun h => p17 h.1) (by simpa using h32)]

theorem ZrY {G : GH} (cf : Int) (cl : Int) (cb : Int) (cs : Int) (cr : Int) {cs_p : List Value} {p : Nd} (h_p : NodeC G cs_p p) {cs_k : List Value} {k : Nd} (h_k : NodeC G cs_k k) (i : Int) (hq : PourPre cb p k) (hi : i64 i) (hko : KidOf p k i) (hms : MsgsR p.msgs) (hkl : p.kids.length = p.pivots.length + 1) :
    Fc Tryz.prog 192 [.agg #[iV cf, iV cl, iV cb, iV cs, iV cr], .agg (List.toArray cs_p), .agg (List.toArray cs_k), iV i] G [] (fun v _ _ => v = iV (Z4 (⟨cf, cl, cb, cs, cr⟩ : Cfg) p k i)) := by
 obtain ⟨_, _, _, _, _, _, _, _, rfl, hp_p, hk_p, hm_p, hr_p, hok_p⟩ := h_p
 obtain ⟨_, _, _, _, _, _, _, _, rfl, hp_k, hk_k, hm_k, hr_k, hok_k⟩ := h_k
 refine Fc.go [.tmp 8] Tryz.func192 Tryz.ntmps192 rfl (fun w0 => (g9 2 ?_))
 refine W.box (L := [iV _, iV _, iV _, iV _, iV _]) rfl rfl (fun b1 => (W.box (L := [iV _, iV _, lV _ _ _, lV _ _ _, sV _, .bool _, iV _, iV _, lV _ _ _, lV _ _ _]) rfl rfl (fun b2 => (W.box (L := [iV _, iV _, lV _ _ _, lV _ _ _, sV _, .bool _, iV _, iV _, lV _ _ _, lV _ _ _]) rfl rfl (fun b3 => (g9 13 ?_))))))
 refine W.qcall (ZcN cf cl cb cs cr (n := p) (nk9 hp_p hk_p hm_p hr_p hok_p)) rfl (g9 2 ?_)
 refine WC.cond rfl (fun h12 => ?_) (fun h12 => ?_)
 ·refine g9 12 ?_
  refine W.sd 17 (fun h16 p16 => ?_) (fun h16 p16 => ?_)
  ·refine g9 5 ?_
   refine W.qcall (ZcN cf cl cb cs cr (n := k) (nk9 hp_k hk_k hm_k hr_k hok_k)) rfl (g9 4 ?_)
   refine WC.cond rfl (fun h20 => ?_) (fun h20 => ?_)
   ·refine g9 10 ?_
    refine congrArg (Value.int .i64) ?_
    rw [Zkj (c := (⟨cf, cl, cb, cs, cr⟩ : Cfg)) om9 h20]
    rw [if_pos h12]
   refine g9 6 ?_
   refine W.qcall (ZcK cf cl cb cs cr (p := p) (k := k) (nk9 hp_p hk_p hm_p hr_p hok_p) (nk9 hp_k hk_k hm_k hr_k hok_k) i hq.hb hq.hr hq.hpv hq.hpm hq.hkm hq.hkr hi hq.hsz) rfl (g9 4 ?_)
   refine WC.cd (fun h29 p29 => ?_) (fun h29 p29 => ?_)
   ·refine g9 9 ?_
    refine congrArg (Value.int .i64) ?_
    exact (ZdT (c := (⟨cf, cl, cb, cs, cr⟩ : Cfg)) (fun h => by rw [h20] at h; exact absurd h.2 (by simp)) (show 0 < ZY cl cb p k i by omega)).symm
   refine g9 8 ?_
   refine WC.cd (fun h33 p33 => ?_) (fun h33 p33 => ?_)
   ·refine g9 9 ?_
    refine congrArg (Value.int .i64) ?_
    exact (ZdU (c := (⟨cf, cl, cb, cs, cr⟩ : Cfg)) (fun h => by rw [h20] at h; exact absurd h.2 (by simp)) (show ¬ 0 < ZY cl cb p k i by omega) om9).symm
   refine g9 6 ?_
   refine W.qcall (ZdK cf cl cb cs cr (p := p) (k := k) (nk9 hp_p hk_p hm_p hr_p hok_p) (nk9 hp_k hk_k hm_k hr_k hok_k) i hq.hb hq.hr hq.hpv hq.hpm hq.hkm hq.hkr hi hq.hsz) rfl (g9 3 ?_)
   refine WC.cond rfl (fun h39 => ?_) (fun h39 => ?_)
   ·have hwt : 0 < (Zd p.pivots p.msgs i).length := (odt h39).2.1
    refine g9 10 ?_
    refine congrArg (Value.int .i64) ?_
    rw [ZdV (c := (⟨cf, cl, cb, cs, cr⟩ : Cfg)) (show ¬ 0 < ZY cl cb p k i by omega) om9 hwt]
    rw [if_pos h12]
   have hwt : ¬ 0 < (Zd p.pivots p.msgs i).length := fun hh => odf h39 ⟨hko, hh, om9⟩
   refine g9 10 ?_
   refine congrArg (Value.int .i64) ?_
   exact (ZdW (c := (⟨cf, cl, cb, cs, cr⟩ : Cfg)) (show ¬ 0 < ZY cl cb p k i by omega) om9 hwt).symm
  refine g9 14 ?_
  refine W.qcall (ZcK cf cl cb cs cr (p := p) (k := k) (nk9 hp_p hk_p hm_p hr_p hok_p) (nk9 hp_k hk_k hm_k hr_k hok_k) i hq.hb hq.hr hq.hpv hq.hpm hq.hkm hq.hkr hi hq.hsz) rfl (g9 4 ?_)
  refine WC.cd (fun h29 p29 => ?_) (fun h29 p29 => ?_)
  ·refine g9 9 ?_
   refine congrArg (Value.int .i64) ?_
   exact (ZdT (c := (⟨cf, cl, cb, cs, cr⟩ : Cfg)) (fun h => by omega) (show 0 < ZY cl cb p k i by omega)).symm
  refine g9 8 ?_
  refine WC.cd (fun h33 p33 => ?_) (fun h33 p33 => ?_)
  ·refine g9 9 ?_
   refine congrArg (Value.int .i64) ?_
   exact (ZdU (c := (⟨cf, cl, cb, cs, cr⟩ : Cfg)) (fun h => by omega) (show ¬ 0 < ZY cl cb p k i by omega) om9).symm
  refine g9 6 ?_
  refine W.qcall (ZdK cf cl cb cs cr (p := p) (k := k) (nk9 hp_p hk_p hm_p hr_p hok_p) (nk9 hp_k hk_k hm_k hr_k hok_k) i hq.hb hq.hr hq.hpv hq.hpm hq.hkm hq.hkr hi hq.hsz) rfl (g9 3 ?_)
  refine WC.cond rfl (fun h39 => ?_) (fun h39 => ?_)
  ·have hwt : 0 < (Zd p.pivots p.msgs i).length := (odt h39).2.1
   refine g9 10 ?_
   refine congrArg (Value.int .i64) ?_
   rw [ZdV (c := (⟨cf, cl, cb, cs, cr⟩ : Cfg)) (show ¬ 0 < ZY cl cb p k i by omega) om9 hwt]
   rw [if_pos h12]
  have hwt : ¬ 0 < (Zd p.pivots p.msgs i).length := fun hh => odf h39 ⟨hko, hh, om9⟩
  refine g9 10 ?_
  refine congrArg (Value.int .i64) ?_
  exact (ZdW (c := (⟨cf, cl, cb, cs, cr⟩ : Cfg)) (show ¬ 0 < ZY cl cb p k i by omega) om9 hwt).symm
 refine g9 10 ?_
 refine W.sd 17 (fun h16 p16 => ?_) (fun h16 p16 => ?_)
 ·refine g9 5 ?_
  refine W.qcall (ZcN cf cl cb cs cr (n := k) (nk9 hp_k hk_k hm_k hr_k hok_k)) rfl (g9 4 ?_)
  refine WC.cond rfl (fun h20 => ?_) (fun h20 => ?_)
  ·refine g9 10 ?_
   refine congrArg (Value.int .i64) ?_
   rw [Zkj (c := (⟨cf, cl, cb, cs, cr⟩ : Cfg)) om9 h20]
   rw [if_neg (by rw [h12] <;> simp)]
  refine g9 6 ?_
  refine W.qcall (ZcK cf cl cb cs cr (p := p) (k := k) (nk9 hp_p hk_p hm_p hr_p hok_p) (nk9 hp_k hk_k hm_k hr_k hok_k) i hq.hb hq.hr hq.hpv hq.hpm hq.hkm hq.hkr hi hq.hsz) rfl (g9 4 ?_)
  refine WC.cd (fun h29 p29 => ?_) (fun h29 p29 => ?_)
  ·refine g9 9 ?_
   refine congrArg (Value.int .i64) ?_
   exact (ZdT (c := (⟨cf, cl, cb, cs, cr⟩ : Cfg)) (fun h => by rw [h20] at h; exact absurd h.2 (by simp)) (show 0 < ZY cl cb p k i by omega)).symm
  refine g9 8 ?_
  refine WC.cd (fun h33 p33 => ?_) (fun h33 p33 => ?_)
  ·refine g9 9 ?_
   refine congrArg (Value.int .i64) ?_
   exact (ZdU (c := (⟨cf, cl, cb, cs, cr⟩ : Cfg)) (fun h => by rw [h20] at h; exact absurd h.2 (by simp)) (show ¬ 0 < ZY cl cb p k i by omega) om9).symm
  refine g9 6 ?_
  refine W.qcall (ZdK cf cl cb cs cr (p := p) (k := k) (nk9 hp_p hk_p hm_p hr_p hok_p) (nk9 hp_k hk_k hm_k hr_k hok_k) i hq.hb hq.hr hq.hpv hq.hpm hq.hkm hq.hkr hi hq.hsz) rfl (g9 3 ?_)
  refine WC.cond rfl (fun h39 => ?_) (fun h39 => ?_)
  ·have hwt : 0 < (Zd p.pivots p.msgs i).length := (odt h39).2.1
   refine g9 10 ?_
   refine congrArg (Value.int .i64) ?_
   rw [ZdV (c := (⟨cf, cl, cb, cs, cr⟩ : Cfg)) (show ¬ 0 < ZY cl cb p k i by omega) om9 hwt]
   rw [if_neg (by rw [h12] <;> simp)]
  have hwt : ¬ 0 < (Zd p.pivots p.msgs i).length := fun hh => odf h39 ⟨hko, hh, om9⟩
  refine g9 10 ?_
  refine congrArg (Value.int .i64) ?_
  exact (ZdW (c := (⟨cf, cl, cb, cs, cr⟩ : Cfg)) (show ¬ 0 < ZY cl cb p k i by omega) om9 hwt).symm
 refine g9 14 ?_
 refine W.qcall (ZcK cf cl cb cs cr (p := p) (k := k) (nk9 hp_p hk_p hm_p hr_p hok_p) (nk9 hp_k hk_k hm_k hr_k hok_k) i hq.hb hq.hr hq.hpv hq.hpm hq.hkm hq.hkr hi hq.hsz) rfl (g9 4 ?_)
 refine WC.cd (fun h29 p29 => ?_) (fun h29 p29 => ?_)
 ·refine g9 9 ?_
  refine congrArg (Value.int .i64) ?_
  exact (ZdT (c := (⟨cf, cl, cb, cs, cr⟩ : Cfg)) (fun h => by omega) (show 0 < ZY cl cb p k i by omega)).symm
 refine g9 8 ?_
 refine WC.cd (fun h33 p33 => ?_) (fun h33 p33 => ?_)
 ·refine g9 9 ?_
  refine congrArg (Value.int .i64) ?_
  exact (ZdU (c := (⟨cf, cl, cb, cs, cr⟩ : Cfg)) (fun h => by omega) (show ¬ 0 < ZY cl cb p k i by omega) om9).symm
 refine g9 6 ?_
 refine W.qcall (ZdK cf cl cb cs cr (p := p) (k := k) (nk9 hp_p hk_p hm_p hr_p hok_p) (nk9 hp_k hk_k hm_k hr_k hok_k) i hq.hb hq.hr hq.hpv hq.hpm hq.hkm hq.hkr hi hq.hsz) rfl (g9 3 ?_)
 refine WC.cond rfl (fun h39 => ?_) (fun h39 => ?_)
 ·have hwt : 0 < (Zd p.pivots p.msgs i).length := (odt h39).2.1
  refine g9 10 ?_
  refine congrArg (Value.int .i64) ?_
  rw [ZdV (c := (⟨cf, cl, cb, cs, cr⟩ : Cfg)) (show ¬ 0 < ZY cl cb p k i by omega) om9 hwt]
  rw [if_neg (by rw [h12] <;> simp)]
 have hwt : ¬ 0 < (Zd p.pivots p.msgs i).length := fun hh => odf h39 ⟨hko, hh, om9⟩
 refine g9 10 ?_
 refine congrArg (Value.int .i64) ?_
 exact (ZdW (c := (⟨cf, cl, cb, cs, cr⟩ : Cfg)) (show ¬ 0 < ZY cl cb p k i by omega) om9 hwt).symm

theorem Zkm : Zbd Tryz.prog 281 = some 4 := by kernel_rfl
theorem mz4 : zvK Tryz.prog 4 = some (.bool false) := by kernel_rfl

end Go.Proofs.YtbbemibbmbmamaaGreat
