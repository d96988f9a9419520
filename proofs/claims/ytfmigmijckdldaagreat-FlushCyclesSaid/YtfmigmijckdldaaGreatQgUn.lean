/- Walks of nodes in two. -/
import Derived.Test.YtfmigmijckdldaaGreatQgNx
set_option maxRecDepth 100000
set_option maxHeartbeats 1600000
set_option linter.unusedVariables false
set_option linter.unusedSimpArgs false
set_option linter.unnecessarySimpa false
namespace Go.Proofs.YtfmigmijckdldaaGreat
open Go Go.Fw Go.RowKit
attribute [local irreducible] Ok W WC
theorem bhalve_fc {G : GH} {v_p : Value} {p : List Str} (h_p : SlR eStr G v_p p) {v_c : Value} {c : List Int} (h_c : SlR eInt G v_c c) :
    Fc Tryz.prog 143 [v_p, v_c] G [] (fun v G' M' => M' = [] ∧ ∃ r : List Str × List Int × Str × List Str × List Int × Bool, r = halveN p c ∧ ∃ u0 u1 u2 u3, v = .tuple #[u0, u1, sV (Str.b (r.2.2.1)), u2, u3, .bool (r.2.2.2.2.2)] ∧ SlR eStr G' u0 (r.1) ∧ SlR eInt G' u1 (r.2.1) ∧ SlR eStr G' u2 (r.2.2.2.1) ∧ SlR eInt G' u3 (r.2.2.2.2.1)) := by
 obtain ⟨sa_p, sc_p, rfl⟩ := h_p.form
 obtain ⟨sa_c, sc_c, rfl⟩ := h_c.form
 have hp := h_p.len47
 have hc := h_c.len47
 refine Fc.go [.tmp 4, .tmp 5, .tmp 6, .tmp 7, .tmp 8, .tmp 9] Tryz.func143 Tryz.ntmps143 rfl (fun w0 => (g9 17 ?_))
 refine W.sd 14 (fun h13 p13 => ?_) (fun h13 p13 => ?_)
 ·refine g9 23 ?_
  refine ⟨rfl, _, (halveN_f om9).symm, _, _, _, _, rfl, ?_, ?_, ?_, ?_⟩
  · exact SlR.nil
  · exact SlR.nil
  · exact SlR.nil
  exact SlR.nil
 refine g9 15 ?_
 refine WC.cn (fun h20 p20 => ?_) (fun h20 p20 => ?_)
 ·refine g9 13 ?_
  refine ⟨rfl, _, (halveN_f om9).symm, _, _, _, _, rfl, ?_, ?_, ?_, ?_⟩
  · exact SlR.nil
  · exact SlR.nil
  · exact SlR.nil
  exact SlR.nil
 refine g9 7 ?_
 refine W.ok (ok_quo' rfl rfl om9 om9 om9) (g9 4 ?_)
 refine WC.dw sr9 (d9 [0, 1, 2] ?_)
 have hs1 := SlR.slice h_p (lo := 0) (hi := ((c.length + 1) / 2) - 1) om9 om9
 refine WD.tk 3 rfl (ok_slice (0) (((c.length + 1) / 2) - 1) sl49 ty9 h_p rfl rfl ⟨_, _, rfl, om9⟩ ⟨om9, om9⟩) (d9 [5, 6] ?_)
 have hs2 := SlR.slice h_c (lo := 0) (hi := ((c.length + 1) / 2)) om9 om9
 refine WD.tk 7 rfl (ok_slice (0) (((c.length + 1) / 2)) sl50 ty3 h_c rfl rfl ⟨_, _, rfl, om9⟩ ⟨om9, om9⟩) (d9 [9, 10, 11] ?_)
 refine h_p.a1 (i := ((c.length + 1) / 2) - 1) om9 (fun he3 => (WD.tk 12 rfl (ok_indexAddr (i := ((c.length + 1) / 2) - 1) sl49 ty9 h_p rfl rfl ⟨om9, om9⟩) (d9 [13, 14, 15] ?_)))
 have hs6 := SlR.slice h_p (lo := ((c.length + 1) / 2)) (hi := p.length) om9 om9
 refine WD.tk 16 rfl (ok_slice (((c.length + 1) / 2)) (p.length) sl49 ty9 h_p rfl ⟨_, _, rfl, om9⟩ rfl ⟨om9, om9⟩) (d9 [18, 19] ?_)
 have hs7 := SlR.slice h_c (lo := ((c.length + 1) / 2)) (hi := c.length) om9 om9
 refine WD.tk 20 rfl (ok_slice (((c.length + 1) / 2)) (c.length) sl50 ty3 h_c rfl ⟨_, _, rfl, om9⟩ rfl ⟨om9, om9⟩) (WD.a1 4 rfl (W.cS (clones_fc hs1) rfl (fun sa_hv9 sc_hv9 G8 hG8 hv9 => (W.nn (WD.a1 8 rfl (W.cS (clonei_fc (hs2.mono hG8)) rfl (fun sa_hv16 sc_hv16 G15 hG15 hv16 => (W.nn (WD.a1 17 rfl (W.cS (clones_fc (hs6.mono lec)) rfl (fun sa_hv23 sc_hv23 G22 hG22 hv23 => (W.nn (WD.a1 21 rfl (W.cS (clonei_fc (hs7.mono lec)) rfl (fun sa_hv30 sc_hv30 G29 hG29 hv30 => (W.nn (d9 [22, 23, 24, 25, 26, 27] ?_)))))))))))))))))
 refine g9 4 ?_
 refine ⟨rfl, _, (halveN_t om9).symm, _, _, _, _, rfl, ?_, ?_, ?_, ?_⟩
 · exact SlR.cast ((hv9.mono lec)) (by simp)
 · exact SlR.cast ((hv16.mono lec)) (by simp)
 · exact SlR.cast ((hv23.mono hG29)) (by simp)
 exact SlR.cast (hv30) (by simp)

theorem cut_fc {G : GH} {v_l : Value} {l : List Str} (h_l : SlR eStr G v_l l) (i : Nat) (j : Nat) (hij : i ≤ j ∧ j ≤ l.length) :
    Fc Tryz.prog 113 [v_l, nt9 i, nt9 j] G [] (fun v G' M' => M' = [] ∧ ∃ u0, v = u0 ∧ SlR eStr G' u0 ((l.take j).drop i)) := by
 obtain ⟨sa_l, sc_l, rfl⟩ := h_l.form
 have hl := h_l.len47
 have hlb : l.length * 16 ≤ 140737488355328 := h_l.bytes
 obtain ⟨hi, hj⟩ := hij
 refine Fc.go [.tmp 6] Tryz.func113 Tryz.ntmps113 rfl (fun w0 => (g9 7 ?_))
 refine W.lit0 (e := eStr) sl49 ty9 zr9 rfl (fun v36 Ms37 ho38 => (g9 3 ?_))
 have hs39 := SlR.slice h_l (lo := i) (hi := j) om9 om9
 refine W.ok (ok_slice (i) (j) sl49 ty9 h_l rfl ⟨_, _, rfl, om9⟩ ⟨_, _, rfl, om9⟩ ⟨om9, om9⟩) (W.app (e := eStr) sl49 ty9 zr9 rfl by9 rfl rfl (ho38) (hs39) pr9 (by show (0 + ((l.take j).drop i).length) * 16 ≤ _; simp; omega) (fun v40 Ms41 ho42 => (g9 3 ?_)))
 refine WC.giveO ho42 pr9 (fun G43 hG43 hv43 => (g9 2 ?_))
 refine ⟨rfl, _, rfl, ?_⟩
 · exact hv43

theorem part_fc {G : GH} {v_l : Value} {l : List Int} (h_l : SlR eInt G v_l l) (i : Nat) (j : Nat) (hij : i ≤ j ∧ j ≤ l.length) :
    Fc Tryz.prog 114 [v_l, nt9 i, nt9 j] G [] (fun v G' M' => M' = [] ∧ ∃ u0, v = u0 ∧ SlR eInt G' u0 ((l.take j).drop i)) := by
 obtain ⟨sa_l, sc_l, rfl⟩ := h_l.form
 have hl := h_l.len47
 have hlb : l.length * 8 ≤ 140737488355328 := h_l.bytes
 obtain ⟨hi, hj⟩ := hij
 refine Fc.go [.tmp 6] Tryz.func114 Tryz.ntmps114 rfl (fun w0 => (g9 7 ?_))
 refine W.lit0 (e := eInt) sl50 ty3 zr3 rfl (fun v44 Ms45 ho46 => (g9 3 ?_))
 have hs47 := SlR.slice h_l (lo := i) (hi := j) om9 om9
 refine W.ok (ok_slice (i) (j) sl50 ty3 h_l rfl ⟨_, _, rfl, om9⟩ ⟨_, _, rfl, om9⟩ ⟨om9, om9⟩) (W.app (e := eInt) sl50 ty3 zr3 rfl by3 rfl rfl (ho46) (hs47) pr9 (by show (0 + ((l.take j).drop i).length) * 8 ≤ _; simp; omega) (fun v48 Ms49 ho50 => (g9 3 ?_)))
 refine WC.giveO ho50 pr9 (fun G51 hG51 hv51 => (g9 2 ?_))
 refine ⟨rfl, _, rfl, ?_⟩
 · exact hv51

theorem nhalves_fc {G : GH} {cs_a : List Value} {a : Nd} (h_a : NodeC G cs_a a) (hks : ∀ m ∈ a.msgs, m.key.b.size < 140737488355328) :
    Fc Tryz.prog 130 [.agg (List.toArray cs_a)] G [] (fun v G' M' => M' = [] ∧ ∃ r : Nd × Nd × Str × Bool, r = halvesN a ∧ ∃ u0 u1, v = .tuple #[.agg (List.toArray u0), .agg (List.toArray u1), sV (Str.b (r.2.2.1)), .bool (r.2.2.2)] ∧ NodeC G' u0 (r.1) ∧ NodeC G' u1 (r.2.1)) := by
 obtain ⟨_, _, _, _, _, _, _, _, rfl, hp_a, hk_a, hm_a, hr_a, hok_a⟩ := h_a
 refine Fc.go [.cell 2 53, .cell 3 53, .tmp 4, .tmp 5] Tryz.func130 Tryz.ntmps130 rfl (fun w0 => (g9 2 ?_))
 refine W.box (L := [iV _, iV _, lV _ _ _, lV _ _ _, sV _, .bool _, iV _, iV _, lV _ _ _, lV _ _ _]) rfl rfl (fun b52 => (W.alloc zr53 (fun b53 => (W.alloc zr53 (fun b54 => (g9 5 ?_))))))
 refine WC.dw ((sr9.k9.cons _).cons _) (d9 [0, 1, 2, 3] ?_)
 refine g9 10 ?_
 refine WC.cd (fun h10 p10 => ?_) (fun h10 p10 => ?_)
 ·refine g9 4 ?_
  refine W.call (Mp := []) (rowsh_fc hr_a) rfl pr9 ?_
  intro _ G55 _ hG55 q58
  refine match q58 with | ⟨e_59, _, e_60, _, _, e_61, hv56, hv57⟩ => ?_
  subst e_59
  subst e_60
  subst e_61
  have q63 := hv56.form
  refine match q63 with | ⟨sa_hv56, sc_hv56, e_62⟩ => ?_
  subst e_62
  have q65 := hv57.form
  refine match q65 with | ⟨sa_hv57, sc_hv57, e_64⟩ => ?_
  subst e_64
  refine g9 14 ?_
  refine WC.dw ((sr9.k9.cons _).cons _) (d9 [2, 3] ?_)
  refine WD.any [0, 1] (by kernel_rfl) rfl ⟨WD.ap ?_, WD.ap ?_, trivial⟩
  ·refine g9 1 ?_
   refine W.nn ?_
   refine WD.any [1, 4] (by kernel_rfl) rfl ⟨WD.ap ?_, WD.ap ?_, trivial⟩
   ·refine g9 1 ?_
    refine W.nn (d9 [4, 5, 6, 7] ?_)
    refine g9 5 ?_
    refine ⟨rfl, _, (halvesN_0 p10).symm, _, _, rfl, ?_, ?_⟩
    · exact ⟨_, _, _, _, _, _, _, _, rfl, (hp_a.mono hG55), (hk_a.mono hG55), (hm_a.mono hG55), hv56, hok_a⟩
    exact ⟨_, _, _, _, _, _, _, _, rfl, (hp_a.mono hG55), (hk_a.mono hG55), (hm_a.mono hG55), hv57, hok_a⟩
   refine g9 1 ?_
   refine W.nn (WD.a1 1 rfl (g9 1 ?_))
   refine W.nn (d9 [5, 6, 7] ?_)
   refine g9 5 ?_
   refine ⟨rfl, _, (halvesN_0 p10).symm, _, _, rfl, ?_, ?_⟩
   · exact ⟨_, _, _, _, _, _, _, _, rfl, (hp_a.mono hG55), (hk_a.mono hG55), (hm_a.mono hG55), hv56, hok_a⟩
   exact ⟨_, _, _, _, _, _, _, _, rfl, (hp_a.mono hG55), (hk_a.mono hG55), (hm_a.mono hG55), hv57, hok_a⟩
  refine g9 1 ?_
  refine W.nn (WD.a1 0 rfl (g9 1 ?_))
  refine W.nn (d9 [4, 5, 6, 7] ?_)
  refine g9 5 ?_
  refine ⟨rfl, _, (halvesN_0 p10).symm, _, _, rfl, ?_, ?_⟩
  · exact ⟨_, _, _, _, _, _, _, _, rfl, (hp_a.mono hG55), (hk_a.mono hG55), (hm_a.mono hG55), hv56, hok_a⟩
  exact ⟨_, _, _, _, _, _, _, _, rfl, (hp_a.mono hG55), (hk_a.mono hG55), (hm_a.mono hG55), hv57, hok_a⟩
 refine g9 9 ?_
 refine W.qcall (bright_fc hp_a hk_a) rfl (g9 3 ?_)
 refine WC.cond rfl (fun h30 => ?_) (fun h30 => ?_)
 ·refine WC.seq (WC.dw ((sr9.k9.cons _).cons _) ?_)
  refine WD.any [0, 1] (by kernel_rfl) rfl ⟨WD.ap ?_, WD.ap ?_, trivial⟩
  ·refine g9 1 ?_
   refine W.nn ?_
   refine WD.any [1, 2] (by kernel_rfl) rfl ⟨WD.ap ?_, WD.ap ?_, trivial⟩
   ·refine g9 1 ?_
    refine W.nn (d9 [2, 3, 4, 5] ?_)
    refine g9 5 ?_
    refine ⟨rfl, _, (halvesN_n p10 (by simpa using h30)).symm, _, _, rfl, ?_, ?_⟩
    · exact (nk9 hp_a hk_a hm_a hr_a hok_a)
    exact (nk9 hp_a hk_a hm_a hr_a hok_a)
   refine g9 1 ?_
   refine W.nn (WD.a1 1 rfl (g9 1 ?_))
   refine W.nn (d9 [3, 4, 5] ?_)
   refine g9 5 ?_
   refine ⟨rfl, _, (halvesN_n p10 (by simpa using h30)).symm, _, _, rfl, ?_, ?_⟩
   · exact (nk9 hp_a hk_a hm_a hr_a hok_a)
   exact (nk9 hp_a hk_a hm_a hr_a hok_a)
  refine g9 1 ?_
  refine W.nn (WD.a1 0 rfl (g9 1 ?_))
  refine W.nn (d9 [2, 3, 4, 5] ?_)
  refine g9 5 ?_
  refine ⟨rfl, _, (halvesN_n p10 (by simpa using h30)).symm, _, _, rfl, ?_, ?_⟩
  · exact (nk9 hp_a hk_a hm_a hr_a hok_a)
  exact (nk9 hp_a hk_a hm_a hr_a hok_a)
 refine g9 8 ?_
 refine W.call (Mp := []) (bhalve_fc hp_a hk_a) rfl pr9 ?_
 intro _ G66 _ hG66 q71
 refine match q71 with | ⟨e_72, _, e_73, _, _, _, _, e_74, hv67, hv68, hv69, hv70⟩ => ?_
 subst e_72
 subst e_73
 subst e_74
 have q76 := hv67.form
 refine match q76 with | ⟨sa_hv67, sc_hv67, e_75⟩ => ?_
 subst e_75
 have q78 := hv68.form
 refine match q78 with | ⟨sa_hv68, sc_hv68, e_77⟩ => ?_
 subst e_77
 have q80 := hv69.form
 refine match q80 with | ⟨sa_hv69, sc_hv69, e_79⟩ => ?_
 subst e_79
 have q82 := hv70.form
 refine match q82 with | ⟨sa_hv70, sc_hv70, e_81⟩ => ?_
 subst e_81
 refine g9 20 ?_
 refine WC.dw ((sr9.k9.cons _).cons _) (d9 [0, 1, 2] ?_)
 refine WD.tk 3 rfl (ok_build (L := [sV _, sV _, .bool _]) pl55 zr55 rfl rfl rfl) (d9 [5, 6, 7] ?_)
 refine WD.tk 8 rfl (ok_build (L := [sV _, sV _, .bool _]) pl55 zr55 rfl rfl rfl) (WD.a1 4 rfl (W.cS (bclips_fc (hm_a.mono hG66) Str.nil _ _ (by assumption)) rfl (fun sa_hv84 sc_hv84 G83 hG83 hv84 => (W.nn (d9 [10] ?_)))))
 refine WD.a1 9 rfl (W.cS (bclips_fc (hm_a.mono lec) _ Str.nil _ (by assumption)) rfl (fun sa_hv91 sc_hv91 G90 hG90 hv91 => (W.nn (d9 [11, 12, 13] ?_))))
 refine g9 3 ?_
 refine WC.dw ((sr9.k9.cons _).cons _) (d9 [2, 3] ?_)
 refine WD.any [0, 1] (by kernel_rfl) rfl ⟨WD.ap ?_, WD.ap ?_, trivial⟩
 ·refine g9 1 ?_
  refine W.nn ?_
  refine WD.any [1, 4] (by kernel_rfl) rfl ⟨WD.ap ?_, WD.ap ?_, trivial⟩
  ·refine g9 1 ?_
   refine W.nn (d9 [4, 5, 6, 7] ?_)
   refine g9 4 ?_
   refine ⟨rfl, _, (halvesN_k p10 (by simpa using h30)).symm, _, _, rfl, ?_, ?_⟩
   · exact ⟨_, _, _, _, _, _, _, _, rfl, (hv67.mono lec), (hv68.mono lec), (hv84.mono hG90), (hr_a.mono lec), hok_a⟩
   exact ⟨_, _, _, _, _, _, _, _, rfl, (hv69.mono lec), (hv70.mono lec), hv91, (hr_a.mono lec), hok_a⟩
  refine g9 1 ?_
  refine W.nn (WD.a1 1 rfl (g9 1 ?_))
  refine W.nn (d9 [5, 6, 7] ?_)
  refine g9 4 ?_
  refine ⟨rfl, _, (halvesN_k p10 (by simpa using h30)).symm, _, _, rfl, ?_, ?_⟩
  · exact ⟨_, _, _, _, _, _, _, _, rfl, (hv67.mono lec), (hv68.mono lec), (hv84.mono hG90), (hr_a.mono lec), hok_a⟩
  exact ⟨_, _, _, _, _, _, _, _, rfl, (hv69.mono lec), (hv70.mono lec), hv91, (hr_a.mono lec), hok_a⟩
 refine g9 1 ?_
 refine W.nn (WD.a1 0 rfl (g9 1 ?_))
 refine W.nn (d9 [4, 5, 6, 7] ?_)
 refine g9 4 ?_
 refine ⟨rfl, _, (halvesN_k p10 (by simpa using h30)).symm, _, _, rfl, ?_, ?_⟩
 · exact ⟨_, _, _, _, _, _, _, _, rfl, (hv67.mono lec), (hv68.mono lec), (hv84.mono hG90), (hr_a.mono lec), hok_a⟩
 exact ⟨_, _, _, _, _, _, _, _, rfl, (hv69.mono lec), (hv70.mono lec), hv91, (hr_a.mono lec), hok_a⟩

theorem ncleave_fc {G : GH} {cs_a : List Value} {a : Nd} (h_a : NodeC G cs_a a) (i : Int) (hi : i64 i) (hks : ∀ m ∈ a.msgs, m.key.b.size < 140737488355328) :
    Fc Tryz.prog 101 [.agg (List.toArray cs_a), iV i] G [] (fun v G' M' => M' = [] ∧ ∃ r : Nd × Nd × Str × Bool, r = cleaveN a i ∧ ∃ u0 u1, v = .tuple #[.agg (List.toArray u0), .agg (List.toArray u1), sV (Str.b (r.2.2.1)), .bool (r.2.2.2)] ∧ NodeC G' u0 (r.1) ∧ NodeC G' u1 (r.2.1)) := by
 obtain ⟨_, _, _, _, _, _, _, _, rfl, hp_a, hk_a, hm_a, hr_a, hok_a⟩ := h_a
 refine Fc.go [.cell 4 53, .cell 5 53, .tmp 6, .tmp 7] Tryz.func101 Tryz.ntmps101 rfl (fun w0 => (g9 2 ?_))
 refine W.box (L := [iV _, iV _, lV _ _ _, lV _ _ _, sV _, .bool _, iV _, iV _, lV _ _ _, lV _ _ _]) rfl rfl (fun b97 => (W.alloc zr53 (fun b98 => (W.alloc zr53 (fun b99 => (g9 7 ?_))))))
 refine W.cM (nhalves_fc (nk9 hp_a hk_a hm_a hr_a hok_a) (by assumption)) rfl (fun _ _ _ _ _ _ _ _ _ _ _ _ _ _ _ _ G100 hG100 hp_hv101 hk_hv101 hm_hv101 hr_hv101 hok_hv101 hp_hv102 hk_hv102 hm_hv102 hr_hv102 hok_hv102 => (g9 18 ?_))
 refine WC.cond rfl (fun h16 => ?_) (fun h16 => ?_)
 ·refine g9 2 ?_
  refine W.ok (ok_build (L := [iV _, iV _, lV _ _ _, lV _ _ _, sV _, .bool _, iV _, iV _, lV _ _ _, lV _ _ _]) pl53 zr53 rfl rfl rfl) (W.ok (ok_build (L := [iV _, iV _, lV _ _ _, lV _ _ _, sV _, .bool _, iV _, iV _, lV _ _ _, lV _ _ _]) pl53 zr53 rfl rfl rfl) (g9 9 ?_))
  refine ⟨rfl, _, (cleaveN_f (by simpa using h16)).symm, _, _, rfl, ?_, ?_⟩
  · exact ⟨_, _, _, _, _, _, _, _, rfl, SlR.nil, SlR.nil, SlR.nil, SlR.nil, Nd.zero_ok⟩
  exact ⟨_, _, _, _, _, _, _, _, rfl, SlR.nil, SlR.nil, SlR.nil, SlR.nil, Nd.zero_ok⟩
 refine g9 22 ?_
 refine WC.dw ((sr9.k9.cons _).cons _) (d9 [4] ?_)
 refine WD.any [0, 2] (by kernel_rfl) rfl ⟨WD.ap ?_, WD.ap ?_, trivial⟩
 ·refine g9 1 ?_
  refine W.nn ?_
  refine WD.any [1, 2] (by kernel_rfl) rfl ⟨WD.ap ?_, WD.ap ?_, trivial⟩
  ·refine W.cN (ncopy_fc (show NodeC _ _ { (halvesN a).1 with high := (halvesN a).2.2.1, top := false, right := i } from ⟨_, _, _, _, _, _, _, _, rfl, hp_hv101, hk_hv101, hm_hv101, hr_hv101, (ok_left (by assumption) hi)⟩)) rfl (fun _ _ _ _ _ _ _ _ G109 hG109 hp_hv110 hk_hv110 hm_hv110 hr_hv110 hok_hv110 => (W.nn (WD.a1 2 rfl (g9 1 ?_))))
   refine W.nn (WD.a1 3 rfl (W.cN (ncopy_fc (show NodeC _ _ { (halvesN a).2.1 with slot := i } from ⟨_, _, _, _, _, _, _, _, rfl, (hp_hv102.mono hG109), (hk_hv102.mono hG109), (hm_hv102.mono hG109), (hr_hv102.mono hG109), (ok_right (by assumption) hi)⟩)) rfl (fun _ _ _ _ _ _ _ _ G115 hG115 hp_hv116 hk_hv116 hm_hv116 hr_hv116 hok_hv116 => (W.nn (d9 [5, 6, 7, 8] ?_)))))
   refine g9 4 ?_
   refine ⟨rfl, _, (cleaveN_t (by simpa using h16)).symm, _, _, rfl, ?_, ?_⟩
   · exact ⟨_, _, _, _, _, _, _, _, rfl, (hp_hv110.mono hG115), (hk_hv110.mono hG115), (hm_hv110.mono hG115), (hr_hv110.mono hG115), ok_left (by assumption) hi⟩
   exact ⟨_, _, _, _, _, _, _, _, rfl, hp_hv116, hk_hv116, hm_hv116, hr_hv116, ok_right (by assumption) hi⟩
  refine g9 1 ?_
  refine W.nn (WD.a1 1 rfl (W.cN (ncopy_fc (show NodeC _ _ { (halvesN a).1 with high := (halvesN a).2.2.1, top := false, right := i } from ⟨_, _, _, _, _, _, _, _, rfl, hp_hv101, hk_hv101, hm_hv101, hr_hv101, (ok_left (by assumption) hi)⟩)) rfl (fun _ _ _ _ _ _ _ _ G121 hG121 hp_hv122 hk_hv122 hm_hv122 hr_hv122 hok_hv122 => (W.nn (WD.a1 3 rfl (W.cN (ncopy_fc (show NodeC _ _ { (halvesN a).2.1 with slot := i } from ⟨_, _, _, _, _, _, _, _, rfl, (hp_hv102.mono hG121), (hk_hv102.mono hG121), (hm_hv102.mono hG121), (hr_hv102.mono hG121), (ok_right (by assumption) hi)⟩)) rfl (fun _ _ _ _ _ _ _ _ G127 hG127 hp_hv128 hk_hv128 hm_hv128 hr_hv128 hok_hv128 => (W.nn (d9 [5, 6, 7, 8] ?_)))))))))
  refine g9 4 ?_
  refine ⟨rfl, _, (cleaveN_t (by simpa using h16)).symm, _, _, rfl, ?_, ?_⟩
  · exact ⟨_, _, _, _, _, _, _, _, rfl, (hp_hv122.mono hG127), (hk_hv122.mono hG127), (hm_hv122.mono hG127), (hr_hv122.mono hG127), ok_left (by assumption) hi⟩
  exact ⟨_, _, _, _, _, _, _, _, rfl, hp_hv128, hk_hv128, hm_hv128, hr_hv128, ok_right (by assumption) hi⟩
 refine g9 1 ?_
 refine W.nn (WD.a1 0 rfl (g9 1 ?_))
 refine W.nn (WD.a1 1 rfl (W.cN (ncopy_fc (show NodeC _ _ { (halvesN a).1 with high := (halvesN a).2.2.1, top := false, right := i } from ⟨_, _, _, _, _, _, _, _, rfl, hp_hv101, hk_hv101, hm_hv101, hr_hv101, (ok_left (by assumption) hi)⟩)) rfl (fun _ _ _ _ _ _ _ _ G133 hG133 hp_hv134 hk_hv134 hm_hv134 hr_hv134 hok_hv134 => (W.nn (WD.a1 3 rfl (W.cN (ncopy_fc (show NodeC _ _ { (halvesN a).2.1 with slot := i } from ⟨_, _, _, _, _, _, _, _, rfl, (hp_hv102.mono hG133), (hk_hv102.mono hG133), (hm_hv102.mono hG133), (hr_hv102.mono hG133), (ok_right (by assumption) hi)⟩)) rfl (fun _ _ _ _ _ _ _ _ G139 hG139 hp_hv140 hk_hv140 hm_hv140 hr_hv140 hok_hv140 => (W.nn (d9 [5, 6, 7, 8] ?_)))))))))
 refine g9 4 ?_
 refine ⟨rfl, _, (cleaveN_t (by simpa using h16)).symm, _, _, rfl, ?_, ?_⟩
 · exact ⟨_, _, _, _, _, _, _, _, rfl, (hp_hv134.mono hG139), (hk_hv134.mono hG139), (hm_hv134.mono hG139), (hr_hv134.mono hG139), ok_left (by assumption) hi⟩
 exact ⟨_, _, _, _, _, _, _, _, rfl, hp_hv140, hk_hv140, hm_hv140, hr_hv140, ok_right (by assumption) hi⟩

theorem rcleave_fc {G : GH} {cs_n : List Value} {n : Nd} (h_n : NodeC G cs_n n) (i : Int) (hi : i64 i) (hks : ∀ m ∈ n.msgs, m.key.b.size < 140737488355328) :
    Fc Tryz.prog 78 [.agg (List.toArray cs_n), iV i] G [] (fun v G' M' => M' = [] ∧ ∃ r : Nd × Nd × Str × Bool, r = cleaveN n i ∧ ∃ u0 u1, v = .tuple #[.agg (List.toArray u0), .agg (List.toArray u1), sV (Str.b (r.2.2.1)), .bool (r.2.2.2)] ∧ NodeC G' u0 (r.1) ∧ NodeC G' u1 (r.2.1)) := by
 obtain ⟨_, _, _, _, _, _, _, _, rfl, hp_n, hk_n, hm_n, hr_n, hok_n⟩ := h_n
 have h1 := hp_n.len47
 have h2 := hk_n.len47
 have h3 := hm_n.len47
 have h4 := hr_n.len47
 have b1 : n.pivots.length * 16 ≤ 140737488355328 := hp_n.bytes
 have b2 : n.kids.length * 8 ≤ 140737488355328 := hk_n.bytes
 have b4 : n.rows.length * 32 ≤ 140737488355328 := hr_n.bytes
 refine Fc.go [.cell 4 53, .cell 5 53, .tmp 6, .tmp 7] Tryz.func78 Tryz.ntmps78 rfl (fun w0 => (g9 2 ?_))
 refine W.box (L := [iV _, iV _, lV _ _ _, lV _ _ _, sV _, .bool _, iV _, iV _, lV _ _ _, lV _ _ _]) rfl rfl (fun b145 => (W.alloc zr53 (fun b146 => (W.alloc zr53 (fun b147 => (g9 5 ?_))))))
 refine WC.dw ((sr9.k9.k9).k9) (d9 [0, 1] ?_)
 refine WD.any [2, 3] (by kernel_rfl) rfl ⟨WD.ap ?_, WD.ap ?_, trivial⟩
 ·refine W.alloc zr53 (fun b148 => (W.nn (WD.a1 3 rfl (W.alloc zr53 (fun b149 => (W.nn (d9 [4, 5, 6] ?_)))))))
  refine g9 10 ?_
  refine WC.cd (fun h17 p17 => ?_) (fun h17 p17 => ?_)
  ·refine g9 9 ?_
   refine WC.cd (fun h21 p21 => ?_) (fun h21 p21 => ?_)
   ·refine g9 2 ?_
    refine W.ok (ok_build (L := [iV _, iV _, lV _ _ _, lV _ _ _, sV _, .bool _, iV _, iV _, lV _ _ _, lV _ _ _]) pl53 zr53 rfl rfl rfl) (W.ok (ok_build (L := [iV _, iV _, lV _ _ _, lV _ _ _, sV _, .bool _, iV _, iV _, lV _ _ _, lV _ _ _]) pl53 zr53 rfl rfl rfl) (g9 10 ?_))
    refine ⟨rfl, _, (cleave_lf p17 om9).symm, _, _, rfl, ?_, ?_⟩
    · exact ⟨_, _, _, _, _, _, _, _, rfl, SlR.nil, SlR.nil, SlR.nil, SlR.nil, Nd.zero_ok⟩
    exact ⟨_, _, _, _, _, _, _, _, rfl, SlR.nil, SlR.nil, SlR.nil, SlR.nil, Nd.zero_ok⟩
   refine g9 8 ?_
   refine W.ok (Ok.int (n := ((((n.rows.length + 1) / 2) : Nat) : Int)) (ok_quo' rfl rfl om9 om9 om9) om9) (g9 8 ?_)
   refine W.ok (Ok.int (n := ((((n.rows.length + 1) / 2) - 1 : Nat) : Int)) (ok_sub rfl rfl om9) om9) (hr_n.a1 (i := ((n.rows.length + 1) / 2) - 1) om9 (fun he150 => (W.ok (ok_indexAddr (i := ((n.rows.length + 1) / 2) - 1) sl42 ty92 hr_n rfl rfl ⟨om9, om9⟩) (g9 5 ?_))))
   refine hr_n.a1 (i := ((n.rows.length + 1) / 2)) om9 (fun he153 => (W.ok (ok_indexAddr (i := ((n.rows.length + 1) / 2)) sl42 ty92 hr_n rfl rfl ⟨om9, om9⟩) (g9 2 ?_)))
   refine W.qcall (rbetween_fc _ _) rfl (g9 8 ?_)
   refine W.lit0 (e := ePair) sl42 ty92 zr92 rfl (fun v156 Ms157 ho158 => (W.perm (pmC (pmC (pmC (pmC (pmC pr9))))).symm (g9 3 ?_)))
   have hs159 := SlR.slice hr_n (lo := 0) (hi := ((n.rows.length + 1) / 2)) om9 om9
   refine W.ok (ok_slice (0) (((n.rows.length + 1) / 2)) sl42 ty92 hr_n rfl rfl ⟨_, _, rfl, om9⟩ ⟨om9, om9⟩) (W.app (e := ePair) sl42 ty92 zr92 rfl by92 rfl rfl (ho158) (hs159) (pmC (pmC (pmC (pmC (pmC pr9))))) (by show (0 + ((n.rows.take ((n.rows.length + 1) / 2)).drop 0).length) * 32 ≤ _; simp; omega) (fun v160 Ms161 ho162 => (W.perm (pmC (pmC (pmC (pmC (pmC pr9))))).symm (g9 1 ?_))))
   refine W.giveO ho162 (pmC (pmC (pmC (pmC (pmC pr9))))) (fun G163 hG163 hv163 => ?_)
   have hc164 := SlR.cast hv163 (l' := n.rows.take ((n.rows.length + 1) / 2)) (by simp)
   have q166 := hc164.form
   refine match q166 with | ⟨_, _, e_165⟩ => ?_
   subst e_165
   refine g9 4 ?_
   refine W.lit0 (e := ePair) sl42 ty92 zr92 rfl (fun v167 Ms168 ho169 => (W.perm (pmC (pmC (pmC (pmC (pmC pr9))))).symm (g9 3 ?_)))
   have hs170 := SlR.slice (hr_n.mono hG163) (lo := ((n.rows.length + 1) / 2)) (hi := n.rows.length) om9 om9
   refine W.ok (ok_slice (((n.rows.length + 1) / 2)) (n.rows.length) sl42 ty92 (hr_n.mono hG163) rfl ⟨_, _, rfl, om9⟩ rfl ⟨om9, om9⟩) (W.app (e := ePair) sl42 ty92 zr92 rfl by92 rfl rfl (ho169) (hs170) (pmC (pmC (pmC (pmC (pmC pr9))))) (by show (0 + ((n.rows.take n.rows.length).drop ((n.rows.length + 1) / 2)).length) * 32 ≤ _; simp; omega) (fun v171 Ms172 ho173 => (W.perm (pmC (pmC (pmC (pmC (pmC pr9))))).symm (g9 1 ?_))))
   refine W.giveO ho173 (pmC (pmC (pmC (pmC (pmC pr9))))) (fun G174 hG174 hv174 => ?_)
   have hc175 := SlR.cast hv174 (l' := n.rows.drop ((n.rows.length + 1) / 2)) (by simp)
   have q177 := hc175.form
   refine match q177 with | ⟨_, _, e_176⟩ => ?_
   subst e_176
   refine g9 31 ?_
   refine WC.dw ((((sr9.k9.cons _).cons _).k9).k9) (d9 [0, 1, 2, 3, 4, 5, 6] ?_)
   refine g9 4 ?_
   refine ⟨rfl, _, (cleave_lt p17 om9).symm, _, _, rfl, ?_, ?_⟩
   · exact ⟨_, _, _, _, _, _, _, _, rfl, (hp_n.mono lec), (hk_n.mono lec), (hm_n.mono lec), (hc164.mono hG174), ⟨hok_n.1, hok_n.2.1, hi, hok_n.2.2.2⟩⟩
   exact ⟨_, _, _, _, _, _, _, _, rfl, (hp_n.mono lec), (hk_n.mono lec), (hm_n.mono lec), hc175, ⟨hi, hok_n.2⟩⟩
  refine g9 8 ?_
  refine W.sd 64 (fun h63 p63 => ?_) (fun h63 p63 => ?_)
  ·refine g9 12 ?_
   refine W.ok (ok_build (L := [iV _, iV _, lV _ _ _, lV _ _ _, sV _, .bool _, iV _, iV _, lV _ _ _, lV _ _ _]) pl53 zr53 rfl rfl rfl) (W.ok (ok_build (L := [iV _, iV _, lV _ _ _, lV _ _ _, sV _, .bool _, iV _, iV _, lV _ _ _, lV _ _ _]) pl53 zr53 rfl rfl rfl) (g9 10 ?_))
   refine ⟨rfl, _, (cleave_if p17 om9).symm, _, _, rfl, ?_, ?_⟩
   · exact ⟨_, _, _, _, _, _, _, _, rfl, SlR.nil, SlR.nil, SlR.nil, SlR.nil, Nd.zero_ok⟩
   exact ⟨_, _, _, _, _, _, _, _, rfl, SlR.nil, SlR.nil, SlR.nil, SlR.nil, Nd.zero_ok⟩
  refine g9 9 ?_
  refine W.qcall (rright_fc hp_n hk_n) rfl (g9 5 ?_)
  refine WC.cond rfl (fun h70 => ?_) (fun h70 => ?_)
  ·refine g9 2 ?_
   refine W.ok (ok_build (L := [iV _, iV _, lV _ _ _, lV _ _ _, sV _, .bool _, iV _, iV _, lV _ _ _, lV _ _ _]) pl53 zr53 rfl rfl rfl) (W.ok (ok_build (L := [iV _, iV _, lV _ _ _, lV _ _ _, sV _, .bool _, iV _, iV _, lV _ _ _, lV _ _ _]) pl53 zr53 rfl rfl rfl) (g9 10 ?_))
   refine ⟨rfl, _, (cleave_if p17 (.inr (by simpa using h70))).symm, _, _, rfl, ?_, ?_⟩
   · exact ⟨_, _, _, _, _, _, _, _, rfl, SlR.nil, SlR.nil, SlR.nil, SlR.nil, Nd.zero_ok⟩
   exact ⟨_, _, _, _, _, _, _, _, rfl, SlR.nil, SlR.nil, SlR.nil, SlR.nil, Nd.zero_ok⟩
  have hri : rightN n.pivots n.kids.length = true := by simpa using h70
  have hcl := (rightN_spec hri).2
  refine g9 8 ?_
  refine W.ok (Ok.int (n := ((((n.kids.length + 1) / 2) : Nat) : Int)) (ok_quo' rfl rfl om9 om9 om9) om9) (g9 8 ?_)
  refine W.ok (Ok.int (n := ((((n.kids.length + 1) / 2) - 1 : Nat) : Int)) (ok_sub rfl rfl om9) om9) (hp_n.a1 (i := ((n.kids.length + 1) / 2) - 1) om9 (fun he178 => (W.ok (ok_indexAddr (i := ((n.kids.length + 1) / 2) - 1) sl49 ty9 hp_n rfl rfl ⟨om9, om9⟩) (g9 5 ?_))))
  refine WC.dw ((((sr9.k9.k9).k9).cons _).k9) (d9 [0, 1, 2] ?_)
  refine WD.tk 3 rfl (Ok.int (n := ((((n.kids.length + 1) / 2) - 1 : Nat) : Int)) (ok_sub rfl rfl om9) om9) (d9 [5, 6, 7] ?_)
  refine WD.a1 4 rfl (W.call (Mp := []) (cut_fc hp_n 0 _ ⟨om9, om9⟩) rfl pr9 ?_)
  intro _ G181 _ hG181 q183
  refine match q183 with | ⟨e_184, _, e_185, hv182⟩ => ?_
  subst e_184
  subst e_185
  have hc186 := SlR.cast hv182 (l' := n.pivots.take (((n.kids.length + 1) / 2) - 1)) (by simp)
  have q188 := hc186.form
  refine match q188 with | ⟨sa_hc186, sc_hc186, e_187⟩ => ?_
  subst e_187
  refine W.nn (d9 [9] ?_)
  refine WD.a1 8 rfl (W.call (Mp := []) (part_fc (hk_n.mono hG181) 0 _ ⟨om9, om9⟩) rfl pr9 ?_)
  intro _ G189 _ hG189 q191
  refine match q191 with | ⟨e_192, _, e_193, hv190⟩ => ?_
  subst e_192
  subst e_193
  have hc194 := SlR.cast hv190 (l' := n.kids.take ((n.kids.length + 1) / 2)) (by simp)
  have q196 := hc194.form
  refine match q196 with | ⟨sa_hc194, sc_hc194, e_195⟩ => ?_
  subst e_195
  refine W.nn (d9 [10, 11, 12] ?_)
  refine g9 3 ?_
  refine WC.dw ((((sr9.k9.k9).k9).k9).cons _) (d9 [0, 1, 2, 3, 4, 5, 7, 8, 9, 10, 11, 12] ?_)
  refine WD.a1 6 rfl (W.call (Mp := []) (cut_fc (hp_n.mono lec) _ _ ⟨om9, om9⟩) rfl pr9 ?_)
  intro _ G197 _ hG197 q199
  refine match q199 with | ⟨e_200, _, e_201, hv198⟩ => ?_
  subst e_200
  subst e_201
  have hc202 := SlR.cast hv198 (l' := n.pivots.drop ((n.kids.length + 1) / 2)) (by simp)
  have q204 := hc202.form
  refine match q204 with | ⟨sa_hc202, sc_hc202, e_203⟩ => ?_
  subst e_203
  refine W.nn (d9 [14] ?_)
  refine WD.a1 13 rfl (W.call (Mp := []) (part_fc (hk_n.mono lec) _ _ ⟨om9, om9⟩) rfl pr9 ?_)
  intro _ G205 _ hG205 q207
  refine match q207 with | ⟨e_208, _, e_209, hv206⟩ => ?_
  subst e_208
  subst e_209
  have hc210 := SlR.cast hv206 (l' := n.kids.drop ((n.kids.length + 1) / 2)) (by simp)
  have q212 := hc210.form
  refine match q212 with | ⟨sa_hc210, sc_hc210, e_211⟩ => ?_
  subst e_211
  refine W.nn (d9 [15, 16, 17] ?_)
  refine g9 7 ?_
  refine W.ok (ok_build (L := [sV _, sV _, .bool _]) pl55 zr55 rfl rfl rfl) (W.cS (rclips_fc (hm_n.mono lec) Str.nil _ _ (by assumption)) rfl (fun sa_hv214 sc_hv214 G213 hG213 hv214 => (g9 8 ?_)))
  refine W.ok (ok_build (L := [sV _, sV _, .bool _]) pl55 zr55 rfl rfl rfl) (W.cS (rclips_fc (hm_n.mono lec) _ Str.nil _ (by assumption)) rfl (fun sa_hv221 sc_hv221 G220 hG220 hv221 => (g9 32 ?_)))
  refine WC.dw ((((sr9.k9.cons _).cons _).k9).k9) (d9 [0, 1, 2, 3, 4, 5, 6] ?_)
  refine g9 4 ?_
  refine ⟨rfl, _, (cleave_it p17 om9 hri hcl).symm, _, _, rfl, ?_, ?_⟩
  · exact ⟨_, _, _, _, _, _, _, _, rfl, (hc186.mono lec), (hc194.mono lec), (hv214.mono hG220), (hr_n.mono lec), ⟨hok_n.1, hok_n.2.1, hi, hok_n.2.2.2⟩⟩
  exact ⟨_, _, _, _, _, _, _, _, rfl, (hc202.mono lec), (hc210.mono lec), hv221, (hr_n.mono lec), ⟨hi, hok_n.2⟩⟩
 refine W.alloc zr53 (fun b227 => (W.nn (WD.a1 2 rfl (W.alloc zr53 (fun b228 => (W.nn (d9 [4, 5, 6] ?_)))))))
 refine g9 10 ?_
 refine WC.cd (fun h17 p17 => ?_) (fun h17 p17 => ?_)
 ·refine g9 9 ?_
  refine WC.cd (fun h21 p21 => ?_) (fun h21 p21 => ?_)
  ·refine g9 2 ?_
   refine W.ok (ok_build (L := [iV _, iV _, lV _ _ _, lV _ _ _, sV _, .bool _, iV _, iV _, lV _ _ _, lV _ _ _]) pl53 zr53 rfl rfl rfl) (W.ok (ok_build (L := [iV _, iV _, lV _ _ _, lV _ _ _, sV _, .bool _, iV _, iV _, lV _ _ _, lV _ _ _]) pl53 zr53 rfl rfl rfl) (g9 10 ?_))
   refine ⟨rfl, _, (cleave_lf p17 om9).symm, _, _, rfl, ?_, ?_⟩
   · exact ⟨_, _, _, _, _, _, _, _, rfl, SlR.nil, SlR.nil, SlR.nil, SlR.nil, Nd.zero_ok⟩
   exact ⟨_, _, _, _, _, _, _, _, rfl, SlR.nil, SlR.nil, SlR.nil, SlR.nil, Nd.zero_ok⟩
  refine g9 8 ?_
  refine W.ok (Ok.int (n := ((((n.rows.length + 1) / 2) : Nat) : Int)) (ok_quo' rfl rfl om9 om9 om9) om9) (g9 8 ?_)
  refine W.ok (Ok.int (n := ((((n.rows.length + 1) / 2) - 1 : Nat) : Int)) (ok_sub rfl rfl om9) om9) (hr_n.a1 (i := ((n.rows.length + 1) / 2) - 1) om9 (fun he229 => (W.ok (ok_indexAddr (i := ((n.rows.length + 1) / 2) - 1) sl42 ty92 hr_n rfl rfl ⟨om9, om9⟩) (g9 5 ?_))))
  refine hr_n.a1 (i := ((n.rows.length + 1) / 2)) om9 (fun he232 => (W.ok (ok_indexAddr (i := ((n.rows.length + 1) / 2)) sl42 ty92 hr_n rfl rfl ⟨om9, om9⟩) (g9 2 ?_)))
  refine W.qcall (rbetween_fc _ _) rfl (g9 8 ?_)
  refine W.lit0 (e := ePair) sl42 ty92 zr92 rfl (fun v235 Ms236 ho237 => (W.perm (pmC (pmC (pmC (pmC (pmC pr9))))).symm (g9 3 ?_)))
  have hs238 := SlR.slice hr_n (lo := 0) (hi := ((n.rows.length + 1) / 2)) om9 om9
  refine W.ok (ok_slice (0) (((n.rows.length + 1) / 2)) sl42 ty92 hr_n rfl rfl ⟨_, _, rfl, om9⟩ ⟨om9, om9⟩) (W.app (e := ePair) sl42 ty92 zr92 rfl by92 rfl rfl (ho237) (hs238) (pmC (pmC (pmC (pmC (pmC pr9))))) (by show (0 + ((n.rows.take ((n.rows.length + 1) / 2)).drop 0).length) * 32 ≤ _; simp; omega) (fun v239 Ms240 ho241 => (W.perm (pmC (pmC (pmC (pmC (pmC pr9))))).symm (g9 1 ?_))))
  refine W.giveO ho241 (pmC (pmC (pmC (pmC (pmC pr9))))) (fun G242 hG242 hv242 => ?_)
  have hc243 := SlR.cast hv242 (l' := n.rows.take ((n.rows.length + 1) / 2)) (by simp)
  have q245 := hc243.form
  refine match q245 with | ⟨_, _, e_244⟩ => ?_
  subst e_244
  refine g9 4 ?_
  refine W.lit0 (e := ePair) sl42 ty92 zr92 rfl (fun v246 Ms247 ho248 => (W.perm (pmC (pmC (pmC (pmC (pmC pr9))))).symm (g9 3 ?_)))
  have hs249 := SlR.slice (hr_n.mono hG242) (lo := ((n.rows.length + 1) / 2)) (hi := n.rows.length) om9 om9
  refine W.ok (ok_slice (((n.rows.length + 1) / 2)) (n.rows.length) sl42 ty92 (hr_n.mono hG242) rfl ⟨_, _, rfl, om9⟩ rfl ⟨om9, om9⟩) (W.app (e := ePair) sl42 ty92 zr92 rfl by92 rfl rfl (ho248) (hs249) (pmC (pmC (pmC (pmC (pmC pr9))))) (by show (0 + ((n.rows.take n.rows.length).drop ((n.rows.length + 1) / 2)).length) * 32 ≤ _; simp; omega) (fun v250 Ms251 ho252 => (W.perm (pmC (pmC (pmC (pmC (pmC pr9))))).symm (g9 1 ?_))))
  refine W.giveO ho252 (pmC (pmC (pmC (pmC (pmC pr9))))) (fun G253 hG253 hv253 => ?_)
  have hc254 := SlR.cast hv253 (l' := n.rows.drop ((n.rows.length + 1) / 2)) (by simp)
  have q256 := hc254.form
  refine match q256 with | ⟨_, _, e_255⟩ => ?_
  subst e_255
  refine g9 31 ?_
  refine WC.dw ((((sr9.k9.cons _).cons _).k9).k9) (d9 [0, 1, 2, 3, 4, 5, 6] ?_)
  refine g9 4 ?_
  refine ⟨rfl, _, (cleave_lt p17 om9).symm, _, _, rfl, ?_, ?_⟩
  · exact ⟨_, _, _, _, _, _, _, _, rfl, (hp_n.mono lec), (hk_n.mono lec), (hm_n.mono lec), (hc243.mono hG253), ⟨hok_n.1, hok_n.2.1, hi, hok_n.2.2.2⟩⟩
  exact ⟨_, _, _, _, _, _, _, _, rfl, (hp_n.mono lec), (hk_n.mono lec), (hm_n.mono lec), hc254, ⟨hi, hok_n.2⟩⟩
 refine g9 8 ?_
 refine W.sd 64 (fun h63 p63 => ?_) (fun h63 p63 => ?_)
 ·refine g9 12 ?_
  refine W.ok (ok_build (L := [iV _, iV _, lV _ _ _, lV _ _ _, sV _, .bool _, iV _, iV _, lV _ _ _, lV _ _ _]) pl53 zr53 rfl rfl rfl) (W.ok (ok_build (L := [iV _, iV _, lV _ _ _, lV _ _ _, sV _, .bool _, iV _, iV _, lV _ _ _, lV _ _ _]) pl53 zr53 rfl rfl rfl) (g9 10 ?_))
  refine ⟨rfl, _, (cleave_if p17 om9).symm, _, _, rfl, ?_, ?_⟩
  · exact ⟨_, _, _, _, _, _, _, _, rfl, SlR.nil, SlR.nil, SlR.nil, SlR.nil, Nd.zero_ok⟩
  exact ⟨_, _, _, _, _, _, _, _, rfl, SlR.nil, SlR.nil, SlR.nil, SlR.nil, Nd.zero_ok⟩
 refine g9 9 ?_
 refine W.qcall (rright_fc hp_n hk_n) rfl (g9 5 ?_)
 refine WC.cond rfl (fun h70 => ?_) (fun h70 => ?_)
 ·refine g9 2 ?_
  refine W.ok (ok_build (L := [iV _, iV _, lV _ _ _, lV _ _ _, sV _, .bool _, iV _, iV _, lV _ _ _, lV _ _ _]) pl53 zr53 rfl rfl rfl) (W.ok (ok_build (L := [iV _, iV _, lV _ _ _, lV _ _ _, sV _, .bool _, iV _, iV _, lV _ _ _, lV _ _ _]) pl53 zr53 rfl rfl rfl) (g9 10 ?_))
  refine ⟨rfl, _, (cleave_if p17 (.inr (by simpa using h70))).symm, _, _, rfl, ?_, ?_⟩
  · exact ⟨_, _, _, _, _, _, _, _, rfl, SlR.nil, SlR.nil, SlR.nil, SlR.nil, Nd.zero_ok⟩
  exact ⟨_, _, _, _, _, _, _, _, rfl, SlR.nil, SlR.nil, SlR.nil, SlR.nil, Nd.zero_ok⟩
 have hri : rightN n.pivots n.kids.length = true := by simpa using h70
 have hcl := (rightN_spec hri).2
 refine g9 8 ?_
 refine W.ok (Ok.int (n := ((((n.kids.length + 1) / 2) : Nat) : Int)) (ok_quo' rfl rfl om9 om9 om9) om9) (g9 8 ?_)
 refine W.ok (Ok.int (n := ((((n.kids.length + 1) / 2) - 1 : Nat) : Int)) (ok_sub rfl rfl om9) om9) (hp_n.a1 (i := ((n.kids.length + 1) / 2) - 1) om9 (fun he257 => (W.ok (ok_indexAddr (i := ((n.kids.length + 1) / 2) - 1) sl49 ty9 hp_n rfl rfl ⟨om9, om9⟩) (g9 5 ?_))))
 refine WC.dw ((((sr9.k9.k9).k9).k9).cons _) (d9 [0, 1, 2] ?_)
 refine WD.tk 3 rfl (Ok.int (n := ((((n.kids.length + 1) / 2) - 1 : Nat) : Int)) (ok_sub rfl rfl om9) om9) (d9 [5, 6, 7] ?_)
 refine WD.a1 4 rfl (W.call (Mp := []) (cut_fc hp_n 0 _ ⟨om9, om9⟩) rfl pr9 ?_)
 intro _ G260 _ hG260 q262
 refine match q262 with | ⟨e_263, _, e_264, hv261⟩ => ?_
 subst e_263
 subst e_264
 have hc265 := SlR.cast hv261 (l' := n.pivots.take (((n.kids.length + 1) / 2) - 1)) (by simp)
 have q267 := hc265.form
 refine match q267 with | ⟨sa_hc265, sc_hc265, e_266⟩ => ?_
 subst e_266
 refine W.nn (d9 [9] ?_)
 refine WD.a1 8 rfl (W.call (Mp := []) (part_fc (hk_n.mono hG260) 0 _ ⟨om9, om9⟩) rfl pr9 ?_)
 intro _ G268 _ hG268 q270
 refine match q270 with | ⟨e_271, _, e_272, hv269⟩ => ?_
 subst e_271
 subst e_272
 have hc273 := SlR.cast hv269 (l' := n.kids.take ((n.kids.length + 1) / 2)) (by simp)
 have q275 := hc273.form
 refine match q275 with | ⟨sa_hc273, sc_hc273, e_274⟩ => ?_
 subst e_274
 refine W.nn (d9 [10, 11, 12] ?_)
 refine g9 3 ?_
 refine WC.dw ((((sr9.k9.k9).k9).cons _).k9) (d9 [0, 1, 2, 3, 4, 5, 7, 8, 9, 10, 11, 12] ?_)
 refine WD.a1 6 rfl (W.call (Mp := []) (cut_fc (hp_n.mono lec) _ _ ⟨om9, om9⟩) rfl pr9 ?_)
 intro _ G276 _ hG276 q278
 refine match q278 with | ⟨e_279, _, e_280, hv277⟩ => ?_
 subst e_279
 subst e_280
 have hc281 := SlR.cast hv277 (l' := n.pivots.drop ((n.kids.length + 1) / 2)) (by simp)
 have q283 := hc281.form
 refine match q283 with | ⟨sa_hc281, sc_hc281, e_282⟩ => ?_
 subst e_282
 refine W.nn (d9 [14] ?_)
 refine WD.a1 13 rfl (W.call (Mp := []) (part_fc (hk_n.mono lec) _ _ ⟨om9, om9⟩) rfl pr9 ?_)
 intro _ G284 _ hG284 q286
 refine match q286 with | ⟨e_287, _, e_288, hv285⟩ => ?_
 subst e_287
 subst e_288
 have hc289 := SlR.cast hv285 (l' := n.kids.drop ((n.kids.length + 1) / 2)) (by simp)
 have q291 := hc289.form
 refine match q291 with | ⟨sa_hc289, sc_hc289, e_290⟩ => ?_
 subst e_290
 refine W.nn (d9 [15, 16, 17] ?_)
 refine g9 7 ?_
 refine W.ok (ok_build (L := [sV _, sV _, .bool _]) pl55 zr55 rfl rfl rfl) (W.cS (rclips_fc (hm_n.mono lec) Str.nil _ _ (by assumption)) rfl (fun sa_hv293 sc_hv293 G292 hG292 hv293 => (g9 8 ?_)))
 refine W.ok (ok_build (L := [sV _, sV _, .bool _]) pl55 zr55 rfl rfl rfl) (W.cS (rclips_fc (hm_n.mono lec) _ Str.nil _ (by assumption)) rfl (fun sa_hv300 sc_hv300 G299 hG299 hv300 => (g9 32 ?_)))
 refine WC.dw ((((sr9.k9.cons _).cons _).k9).k9) (d9 [0, 1, 2, 3, 4, 5, 6] ?_)
 refine g9 4 ?_
 refine ⟨rfl, _, (cleave_it p17 om9 hri hcl).symm, _, _, rfl, ?_, ?_⟩
 · exact ⟨_, _, _, _, _, _, _, _, rfl, (hc265.mono lec), (hc273.mono lec), (hv293.mono hG299), (hr_n.mono lec), ⟨hok_n.1, hok_n.2.1, hi, hok_n.2.2.2⟩⟩
 exact ⟨_, _, _, _, _, _, _, _, rfl, (hc281.mono lec), (hc289.mono lec), hv300, (hr_n.mono lec), ⟨hi, hok_n.2⟩⟩

theorem clift_fc {G : GH} {cs_n : List Value} {n : Nd} (h_n : NodeC G cs_n n) (x : Int) (y : Int) (hx : i64 x) (hy : i64 y) (hlv : i64 (n.level + 1)) (hks : ∀ m ∈ n.msgs, m.key.b.size < 140737488355328) :
    Fc Tryz.prog 64 [.agg (List.toArray cs_n), iV x, iV y] G [] (fun v G' M' => M' = [] ∧ ∃ r : Nd × Nd × Nd × Bool, r = liftN n x y ∧ ∃ u0 u1 u2, v = .tuple #[.agg (List.toArray u0), .agg (List.toArray u1), .agg (List.toArray u2), .bool (r.2.2.2)] ∧ NodeC G' u0 (r.1) ∧ NodeC G' u1 (r.2.1) ∧ NodeC G' u2 (r.2.2.1)) := by
 obtain ⟨_, _, _, _, _, _, _, _, rfl, hp_n, hk_n, hm_n, hr_n, hok_n⟩ := h_n
 have hx1 := hx.1
 have hx2 := hx.2
 have hy1 := hy.1
 have hy2 := hy.2
 have hlv1 := hlv.1
 have hlv2 := hlv.2
 refine Fc.go [.cell 6 53, .cell 7 53, .cell 8 53, .tmp 9] Tryz.func64 Tryz.ntmps64 rfl (fun w0 => (g9 2 ?_))
 refine W.box (L := [iV _, iV _, lV _ _ _, lV _ _ _, sV _, .bool _, iV _, iV _, lV _ _ _, lV _ _ _]) rfl rfl (fun b1 => (W.alloc zr53 (fun b2 => (W.alloc zr53 (fun b3 => (W.alloc zr53 (fun b4 => (g9 7 ?_))))))))
 refine W.cM (ncleave_fc (nk9 hp_n hk_n hm_n hr_n hok_n) _ (by assumption) (by assumption)) rfl (fun _ _ _ _ _ _ _ _ _ _ _ _ _ _ _ _ G5 hG5 hp_hv6 hk_hv6 hm_hv6 hr_hv6 hok_hv6 hp_hv7 hk_hv7 hm_hv7 hr_hv7 hok_hv7 => (g9 18 ?_))
 refine WC.cond rfl (fun h20 => ?_) (fun h20 => ?_)
 ·refine g9 2 ?_
  refine W.ok (ok_build (L := [iV _, iV _, lV _ _ _, lV _ _ _, sV _, .bool _, iV _, iV _, lV _ _ _, lV _ _ _]) pl53 zr53 rfl rfl rfl) (W.ok (ok_build (L := [iV _, iV _, lV _ _ _, lV _ _ _, sV _, .bool _, iV _, iV _, lV _ _ _, lV _ _ _]) pl53 zr53 rfl rfl rfl) (W.ok (ok_build (L := [iV _, iV _, lV _ _ _, lV _ _ _, sV _, .bool _, iV _, iV _, lV _ _ _, lV _ _ _]) pl53 zr53 rfl rfl rfl) (g9 9 ?_)))
  refine ⟨rfl, _, (liftN_f (by simpa using h20)).symm, _, _, _, rfl, ?_, ?_, ?_⟩
  · exact ⟨_, _, _, _, _, _, _, _, rfl, SlR.nil, SlR.nil, SlR.nil, SlR.nil, Nd.zero_ok⟩
  · exact ⟨_, _, _, _, _, _, _, _, rfl, SlR.nil, SlR.nil, SlR.nil, SlR.nil, Nd.zero_ok⟩
  exact ⟨_, _, _, _, _, _, _, _, rfl, SlR.nil, SlR.nil, SlR.nil, SlR.nil, Nd.zero_ok⟩
 refine g9 5 ?_
 refine W.cN (ncopy_fc (nm9 hG5 hp_n hk_n hm_n hr_n hok_n)) rfl (fun _ _ _ _ _ _ _ _ G14 hG14 hp_hv15 hk_hv15 hm_hv15 hr_hv15 hok_hv15 => (g9 15 ?_))
 refine W.lit (e := eStr) (l := [_]) (css := [[sV _]]) sl49 ty9 zr9 rfl rfl rfl rfl rfl rfl ⟨rfl, trivial⟩ (fun bl20 G20 hG20 hv20 => (g9 2 ?_))
 refine W.lit (e := eInt) (l := [_, _]) (css := [[iV _], [iV _]]) sl50 ty3 zr3 rfl rfl rfl rfl rfl rfl ⟨⟨rfl, om9, om9⟩, ⟨rfl, om9, om9⟩, trivial⟩ (fun bl21 G21 hG21 hv21 => (g9 23 ?_))
 refine WC.cn (fun h42 p42 => ?_) (fun h42 p42 => ?_)
 ·refine g9 16 ?_
  refine WC.dw (((sr9.k9.k9).k9).k9) (d9 [0, 1, 2, 3, 4, 5, 6] ?_)
  refine g9 4 ?_
  refine ⟨rfl, _, (liftN_in (by simpa using h20) p42).symm, _, _, _, rfl, ?_, ?_, ?_⟩
  · exact ⟨_, _, _, _, _, _, _, _, rfl, (hv20.mono hG21), hv21, (hm_hv15.mono lec), SlR.nil, ⟨hok_n.1, hlv, hok_n.2.2⟩⟩
  · exact ⟨_, _, _, _, _, _, _, _, rfl, (hp_hv6.mono lec), (hk_hv6.mono lec), SlR.nil, (hr_hv6.mono lec), ⟨hx, (show Nd.Ok (cleaveN n y).1 from by assumption).2.1, (show Nd.Ok (cleaveN n y).1 from by assumption).2.2.1, (show i64 0 from ⟨by decide, by decide⟩)⟩⟩
  exact ⟨_, _, _, _, _, _, _, _, rfl, (hp_hv7.mono lec), (hk_hv7.mono lec), SlR.nil, (hr_hv7.mono lec), ⟨(show Nd.Ok (cleaveN n y).2.1 from by assumption).1, (show Nd.Ok (cleaveN n y).2.1 from by assumption).2.1, (show Nd.Ok (cleaveN n y).2.1 from by assumption).2.2.1, (show i64 0 from ⟨by decide, by decide⟩)⟩⟩
 refine g9 14 ?_
 refine WC.dw (((sr9.k9.k9).k9).k9) (d9 [0, 1, 2, 3, 4, 5, 6] ?_)
 refine g9 4 ?_
 refine ⟨rfl, _, (liftN_lf (by simpa using h20) p42).symm, _, _, _, rfl, ?_, ?_, ?_⟩
 · exact ⟨_, _, _, _, _, _, _, _, rfl, (hv20.mono hG21), hv21, SlR.nil, SlR.nil, ⟨hok_n.1, hlv, hok_n.2.2⟩⟩
 · exact ⟨_, _, _, _, _, _, _, _, rfl, (hp_hv6.mono lec), (hk_hv6.mono lec), SlR.nil, (hr_hv6.mono lec), ⟨hx, (show Nd.Ok (cleaveN n y).1 from by assumption).2.1, (show Nd.Ok (cleaveN n y).1 from by assumption).2.2.1, (show Nd.Ok (cleaveN n y).1 from by assumption).2.2.2⟩⟩
 exact ⟨_, _, _, _, _, _, _, _, rfl, (hp_hv7.mono lec), (hk_hv7.mono lec), SlR.nil, (hr_hv7.mono lec), ⟨(show Nd.Ok (cleaveN n y).2.1 from by assumption).1, (show Nd.Ok (cleaveN n y).2.1 from by assumption).2.1, (show Nd.Ok (cleaveN n y).2.1 from by assumption).2.2.1, (show Nd.Ok (cleaveN n y).2.1 from by assumption).2.2.2⟩⟩

theorem rlift_fc {G : GH} {cs_n : List Value} {n : Nd} (h_n : NodeC G cs_n n) (x : Int) (y : Int) (hx : i64 x) (hy : i64 y) (hlv : i64 (n.level + 1)) (hks : ∀ m ∈ n.msgs, m.key.b.size < 140737488355328) :
    Fc Tryz.prog 75 [.agg (List.toArray cs_n), iV x, iV y] G [] (fun v G' M' => M' = [] ∧ ∃ r : Nd × Nd × Nd × Bool, r = liftN n x y ∧ ∃ u0 u1 u2, v = .tuple #[.agg (List.toArray u0), .agg (List.toArray u1), .agg (List.toArray u2), .bool (r.2.2.2)] ∧ NodeC G' u0 (r.1) ∧ NodeC G' u1 (r.2.1) ∧ NodeC G' u2 (r.2.2.1)) := by
 obtain ⟨_, _, _, _, _, _, _, _, rfl, hp_n, hk_n, hm_n, hr_n, hok_n⟩ := h_n
 have hx1 := hx.1
 have hx2 := hx.2
 have hy1 := hy.1
 have hy2 := hy.2
 have hlv1 := hlv.1
 have hlv2 := hlv.2
 refine Fc.go [.cell 6 53, .cell 7 53, .cell 8 53, .tmp 9] Tryz.func75 Tryz.ntmps75 rfl (fun w0 => (g9 2 ?_))
 refine W.box (L := [iV _, iV _, lV _ _ _, lV _ _ _, sV _, .bool _, iV _, iV _, lV _ _ _, lV _ _ _]) rfl rfl (fun b22 => (W.alloc zr53 (fun b23 => (W.alloc zr53 (fun b24 => (W.alloc zr53 (fun b25 => (g9 7 ?_))))))))
 refine W.cM (rcleave_fc (nk9 hp_n hk_n hm_n hr_n hok_n) _ (by assumption) (by assumption)) rfl (fun _ _ _ _ _ _ _ _ _ _ _ _ _ _ _ _ G26 hG26 hp_hv27 hk_hv27 hm_hv27 hr_hv27 hok_hv27 hp_hv28 hk_hv28 hm_hv28 hr_hv28 hok_hv28 => (g9 5 ?_))
 refine W.alloc zr53 (fun b35 => (W.alloc zr53 (fun b36 => (g9 13 ?_))))
 refine WC.cond rfl (fun h24 => ?_) (fun h24 => ?_)
 ·refine g9 2 ?_
  refine W.ok (ok_build (L := [iV _, iV _, lV _ _ _, lV _ _ _, sV _, .bool _, iV _, iV _, lV _ _ _, lV _ _ _]) pl53 zr53 rfl rfl rfl) (W.ok (ok_build (L := [iV _, iV _, lV _ _ _, lV _ _ _, sV _, .bool _, iV _, iV _, lV _ _ _, lV _ _ _]) pl53 zr53 rfl rfl rfl) (W.ok (ok_build (L := [iV _, iV _, lV _ _ _, lV _ _ _, sV _, .bool _, iV _, iV _, lV _ _ _, lV _ _ _]) pl53 zr53 rfl rfl rfl) (g9 9 ?_)))
  refine ⟨rfl, _, (liftN_f (by simpa using h24)).symm, _, _, _, rfl, ?_, ?_, ?_⟩
  · exact ⟨_, _, _, _, _, _, _, _, rfl, SlR.nil, SlR.nil, SlR.nil, SlR.nil, Nd.zero_ok⟩
  · exact ⟨_, _, _, _, _, _, _, _, rfl, SlR.nil, SlR.nil, SlR.nil, SlR.nil, Nd.zero_ok⟩
  exact ⟨_, _, _, _, _, _, _, _, rfl, SlR.nil, SlR.nil, SlR.nil, SlR.nil, Nd.zero_ok⟩
 refine g9 5 ?_
 refine W.alloc zr53 (fun b37 => (g9 15 ?_))
 refine W.lit (e := eStr) (l := [_]) (css := [[sV _]]) sl49 ty9 zr9 rfl rfl rfl rfl rfl rfl ⟨rfl, trivial⟩ (fun bl38 G38 hG38 hv38 => (g9 8 ?_))
 refine W.lit (e := eInt) (l := [_, _]) (css := [[iV _], [iV _]]) sl50 ty3 zr3 rfl rfl rfl rfl rfl rfl ⟨⟨rfl, om9, om9⟩, ⟨rfl, om9, om9⟩, trivial⟩ (fun bl39 G39 hG39 hv39 => (g9 37 ?_))
 refine WC.cd (fun h47 p47 => ?_) (fun h47 p47 => ?_)
 ·refine g9 6 ?_
  refine WC.dw ((((((sr9.k9.cons _).cons _).cons _).k9).k9).k9) (d9 [0, 1, 2, 3, 4, 5, 6] ?_)
  refine g9 4 ?_
  refine ⟨rfl, _, (liftN_lf (by simpa using h24) p47).symm, _, _, _, rfl, ?_, ?_, ?_⟩
  · exact ⟨_, _, _, _, _, _, _, _, rfl, (hv38.mono hG39), hv39, SlR.nil, SlR.nil, ⟨hok_n.1, hlv, hok_n.2.2⟩⟩
  · exact ⟨_, _, _, _, _, _, _, _, rfl, (hp_hv27.mono lec), (hk_hv27.mono lec), SlR.nil, (hr_hv27.mono lec), ⟨hx, (show Nd.Ok (cleaveN n y).1 from by assumption).2.1, (show Nd.Ok (cleaveN n y).1 from by assumption).2.2.1, (show Nd.Ok (cleaveN n y).1 from by assumption).2.2.2⟩⟩
  exact ⟨_, _, _, _, _, _, _, _, rfl, (hp_hv28.mono lec), (hk_hv28.mono lec), SlR.nil, (hr_hv28.mono lec), ⟨(show Nd.Ok (cleaveN n y).2.1 from by assumption).1, (show Nd.Ok (cleaveN n y).2.1 from by assumption).2.1, (show Nd.Ok (cleaveN n y).2.1 from by assumption).2.2.1, (show Nd.Ok (cleaveN n y).2.1 from by assumption).2.2.2⟩⟩
 refine g9 12 ?_
 refine WC.dw ((((((sr9.k9.cons _).cons _).cons _).k9).k9).k9) (d9 [0, 1, 2, 3, 4, 5, 6] ?_)
 refine g9 4 ?_
 refine ⟨rfl, _, (liftN_in (by simpa using h24) p47).symm, _, _, _, rfl, ?_, ?_, ?_⟩
 · exact ⟨_, _, _, _, _, _, _, _, rfl, (hv38.mono hG39), hv39, (hm_n.mono lec), SlR.nil, ⟨hok_n.1, hlv, hok_n.2.2⟩⟩
 · exact ⟨_, _, _, _, _, _, _, _, rfl, (hp_hv27.mono lec), (hk_hv27.mono lec), SlR.nil, (hr_hv27.mono lec), ⟨hx, (show Nd.Ok (cleaveN n y).1 from by assumption).2.1, (show Nd.Ok (cleaveN n y).1 from by assumption).2.2.1, (show i64 0 from ⟨by decide, by decide⟩)⟩⟩
 exact ⟨_, _, _, _, _, _, _, _, rfl, (hp_hv28.mono lec), (hk_hv28.mono lec), SlR.nil, (hr_hv28.mono lec), ⟨(show Nd.Ok (cleaveN n y).2.1 from by assumption).1, (show Nd.Ok (cleaveN n y).2.1 from by assumption).2.1, (show Nd.Ok (cleaveN n y).2.1 from by assumption).2.2.1, (show i64 0 from ⟨by decide, by decide⟩)⟩⟩

theorem nfull_fc {G : GH} (cfan : Int) (cleaf : Int) (cbud : Int) (cslots : Int) (crest : Int) {cs_n : List Value} {n : Nd} (h_n : NodeC G cs_n n) :
    Fc Tryz.prog 57 [.agg #[iV cfan, iV cleaf, iV cbud, iV cslots, iV crest], .agg (List.toArray cs_n)] G [] (fun v _ _ => v = .bool (fullN (⟨cfan, cleaf, cbud, cslots, crest⟩ : Cfg) n)) := by
 obtain ⟨_, _, _, _, _, _, _, _, rfl, hp_n, hk_n, hm_n, hr_n, hok_n⟩ := h_n
 have h1 := hp_n.len47
 have h2 := hk_n.len47
 have h3 := hm_n.len47
 have h4 := hr_n.len47
 refine Fc.go [.tmp 4] Tryz.func57 Tryz.ntmps57 rfl (fun w0 => (g9 2 ?_))
 refine W.box (L := [iV _, iV _, iV _, iV _, iV _]) rfl rfl (fun b40 => (W.box (L := [iV _, iV _, lV _ _ _, lV _ _ _, sV _, .bool _, iV _, iV _, lV _ _ _, lV _ _ _]) rfl rfl (fun b41 => (g9 11 ?_))))
 refine WC.cd (fun h7 p7 => ?_) (fun h7 p7 => ?_)
 ·refine g9 14 ?_
  refine congrArg Value.bool ?_
  first | (rw [fullN, if_pos p7]; done) | (rw [fullN, if_pos p7]; first | (simp_all; done) | (simp_all; omega))
 refine g9 15 ?_
 refine congrArg Value.bool ?_
 first | (rw [fullN, if_neg p7]; done) | (rw [fullN, if_neg p7]; first | (simp_all; done) | (simp_all; omega))

theorem rfull_fc {G : GH} (cfan : Int) (cleaf : Int) (cbud : Int) (cslots : Int) (crest : Int) {cs_n : List Value} {n : Nd} (h_n : NodeC G cs_n n) :
    Fc Tryz.prog 72 [.agg #[iV cfan, iV cleaf, iV cbud, iV cslots, iV crest], .agg (List.toArray cs_n)] G [] (fun v _ _ => v = .bool (fullN (⟨cfan, cleaf, cbud, cslots, crest⟩ : Cfg) n)) := by
 obtain ⟨_, _, _, _, _, _, _, _, rfl, hp_n, hk_n, hm_n, hr_n, hok_n⟩ := h_n
 have h1 := hp_n.len47
 have h2 := hk_n.len47
 have h3 := hm_n.len47
 have h4 := hr_n.len47
 refine Fc.go [.tmp 4] Tryz.func72 Tryz.ntmps72 rfl (fun w0 => (WC.sr (W.box (L := [iV _, iV _, iV _, iV _, iV _]) rfl rfl (fun b42 => (W.box (L := [iV _, iV _, lV _ _ _, lV _ _ _, sV _, .bool _, iV _, iV _, lV _ _ _, lV _ _ _]) rfl rfl (fun b43 => (W.as (W.ns (W.fb fd53_1 rfl (W.ok (ok_ld 0 ic9 ty3 rfl) (W.ok (ok_eql rfl rfl) (W.mv ?_))))))))))))
 refine W.sd 8 (fun h7 p7 => ?_) (fun h7 p7 => ?_)
 ·refine W.y9 h7 rfl (W.fb fd53_9 rfl (W.y9 h7 rfl (W.ok (ok_ld 0 lc9 ty42 rfl) (W.y9 h7 rfl (W.ok (ok_len sl42 hr_n rfl) (W.y9 h7 rfl (W.fb fd23_1 rfl (W.y9 h7 rfl (W.ok (ok_ld 1 ic9 ty3 rfl) (W.y9 h7 rfl (W.ok (ok_geq rfl rfl) (W.ok (ok_pick_t rfl h7) (W.mv ?_)))))))))))))
  refine W.sd 16 (fun h14 p14 => ?_) (fun h14 p14 => ?_)
  ·refine W.n8 h14 rfl (W.n8 h14 rfl (W.n8 h14 rfl (W.n8 h14 rfl (W.nou rfl rfl (W.nou rfl rfl (W.nou rfl rfl (W.nou rfl rfl (W.nou rfl rfl (W.nou rfl rfl (W.n8 h14 rfl (W.ok (ok_pick_t rfl h14) (W.an (WC.ret ?_)))))))))))))
   refine ⟨.inr rfl, [_], ⟨rfl, trivial⟩, [], sn9, ?_⟩
   refine congrArg Value.bool ?_
   first | (rw [fullN, if_pos p7]; done) | (rw [fullN, if_pos p7]; first | (simp_all; done) | (simp_all; omega))
  refine W.y9 h14 rfl (W.fb fd53_1 rfl (W.y9 h14 rfl (W.ok (ok_ld 0 ic9 ty3 rfl) (W.y9 h14 rfl (W.ok (ok_neq rfl rfl) (W.y9 h14 rfl (W.mv ?_)))))))
  refine W.sm 20 (fun h19 p19 => ?_) (fun h19 p19 => ?_)
  ·refine W.y9 h19 rfl (W.fb fd53_3 rfl (W.y9 h19 rfl (W.ok (ok_ld 0 lc9 ty50 rfl) (W.y9 h19 rfl (W.ok (ok_len sl50 hk_n rfl) (W.y9 h19 rfl (W.fb fd23_0 rfl (W.y9 h19 rfl (W.ok (ok_ld 1 ic9 ty3 rfl) (W.y9 h19 rfl (W.ok (ok_geq rfl rfl) (W.y9 h14 rfl (W.ok (ok_pick_t rfl h19) ?_)))))))))))))
   refine W.ok (ok_pick_f rfl h14) (W.an (WC.ret ?_))
   refine ⟨.inr rfl, [_], ⟨rfl, trivial⟩, [], sn9, ?_⟩
   refine congrArg Value.bool ?_
   first | (rw [fullN, if_pos p7]; done) | (rw [fullN, if_pos p7]; first | (simp_all; done) | (simp_all; omega))
  refine W.n8 h19 rfl (W.n8 h19 rfl (W.n8 h19 rfl (W.n8 h19 rfl (W.n8 h19 rfl (W.n8 h19 rfl (W.y9 h14 rfl (W.ok (ok_pick_f rfl h19) (W.ok (ok_pick_f rfl h14) (W.an (WC.ret ?_))))))))))
  refine ⟨.inr rfl, [_], ⟨rfl, trivial⟩, [], sn9, ?_⟩
  refine congrArg Value.bool ?_
  first | (rw [fullN, if_pos p7]; done) | (rw [fullN, if_pos p7]; first | (simp_all; done) | (simp_all; omega))
 refine W.n8 h7 rfl (W.n8 h7 rfl (W.n8 h7 rfl (W.n8 h7 rfl (W.n8 h7 rfl (W.n8 h7 rfl (W.ok (ok_pick_f rfl h7) (W.mv (W.y9 rfl rfl (W.fb fd53_1 rfl (W.y9 rfl rfl (W.ok (ok_ld 0 ic9 ty3 rfl) (W.y9 rfl rfl (W.ok (ok_neq rfl rfl) ?_)))))))))))))
 refine W.y9 rfl rfl (W.mv ?_)
 refine W.sm 20 (fun h19 p19 => ?_) (fun h19 p19 => ?_)
 ·refine W.y9 h19 rfl (W.fb fd53_3 rfl (W.y9 h19 rfl (W.ok (ok_ld 0 lc9 ty50 rfl) (W.y9 h19 rfl (W.ok (ok_len sl50 hk_n rfl) (W.y9 h19 rfl (W.fb fd23_0 rfl (W.y9 h19 rfl (W.ok (ok_ld 1 ic9 ty3 rfl) (W.y9 h19 rfl (W.ok (ok_geq rfl rfl) (W.y9 rfl rfl (W.ok (ok_pick_t rfl h19) ?_)))))))))))))
  refine W.ok (ok_pick_f rfl rfl) (W.an (WC.ret ?_))
  refine ⟨.inr rfl, [_], ⟨rfl, trivial⟩, [], sn9, ?_⟩
  refine congrArg Value.bool ?_
  first | (rw [fullN, if_neg p7]; done) | (rw [fullN, if_neg p7]; first | (simp_all; done) | (simp_all; omega))
 refine W.n8 h19 rfl (W.n8 h19 rfl (W.n8 h19 rfl (W.n8 h19 rfl (W.n8 h19 rfl (W.n8 h19 rfl (W.y9 rfl rfl (W.ok (ok_pick_f rfl h19) (W.ok (ok_pick_f rfl rfl) (W.an (WC.ret ?_))))))))))
 refine ⟨.inr rfl, [_], ⟨rfl, trivial⟩, [], sn9, ?_⟩
 refine congrArg Value.bool ?_
 first | (rw [fullN, if_neg p7]; done) | (rw [fullN, if_neg p7]; first | (simp_all; done) | (simp_all; omega))

theorem rvictim_fc {G : GH} {v_P : Value} {P : List Str} (h_P : SlR eStr G v_P P) {v_l : Value} {l : List Msg} (h_l : SlR eMsg G v_l l) (hs : ∀ m ∈ l, m.key.b.size ≤ 16 ∧ m.val.b.size ≤ 16) (hl9 : l.length ≤ 100000 ∧ P.length ≤ 100000) :
    Fc Tryz.prog 73 [v_P, v_l] G [] (fun v _ _ => v = .tuple #[iV ((victimN P l).1), .bool ((victimN P l).2)]) := by
 obtain ⟨sa_P, sc_P, rfl⟩ := h_P.form
 obtain ⟨sa_l, sc_l, rfl⟩ := h_l.form
 have hl := h_l.len47
 have hlP := h_P.len47
 have hfl := front_len l
 have hfs : ∀ m ∈ frontN l, m.key.b.size ≤ 16 ∧ m.val.b.size ≤ 16 := fun m h => hs m (front_mem h)
 refine Fc.go [.tmp 4, .tmp 5] Tryz.func73 Tryz.ntmps73 rfl (fun w0 => (g9 19 ?_))
 refine WC.loop (X := Nat) (fun i => [(6, nt9 ((bestTo (wOf P (frontN l)) i))), (7, iV (if i = 0 then 0 else (wOf P (frontN l)) (bestTo (wOf P (frontN l)) i))), (8, nt9 i), (0, lV sa_P P.length sc_P), (1, lV sa_l l.length sc_l)]) (fun i _ Ml => Ml = [] ∧ i ≤ P.length + 1) (fun i => P.length + 1 - i) 0 ⟨(by rfl), (by rfl), eqv, eqv, eqv, trivial⟩ ?_ ?_
 ·exact ⟨rfl, om9⟩
 rintro i gG1 G1 _ hG1 ⟨rfl, hi⟩
 refine g9 9 ?_
 refine WC.cd (fun h15 p15 => ?_) (fun h15 p15 => ?_)
 ·try dsimp only at p15
  refine g9 13 ?_
  refine W.cS (rfront_fc (h_l.mono hG1)) rfl (fun sa_hv3 sc_hv3 G2 hG2 hv3 => (g9 5 ?_))
  refine WC.loop (X := Nat) (fun q => [(9, iV (wOf P ((frontN l).take q) i)), (21, nt9 q), (0, lV sa_P P.length sc_P), (1, lV sa_l l.length sc_l), (6, nt9 ((bestTo (wOf P (frontN l)) i))), (7, iV (if i = 0 then 0 else (wOf P (frontN l)) (bestTo (wOf P (frontN l)) i))), (8, nt9 i), (19, lV sa_hv3 ((frontN l)).length sc_hv3), (20, nt9 (((frontN l)).length))]) (fun q _ Ml => Ml = [] ∧ q ≤ (frontN l).length) (fun q => (frontN l).length - q) 0 ⟨(by rfl), eqv, eqv, eqv, eqv, eqv, eqv, eqv, eqv, trivial⟩ ?_ ?_
  ·exact ⟨rfl, Nat.zero_le _⟩
  rintro q gG9 G9 _ hG9 ⟨rfl, hq⟩
  have hb9 := wOf_le P ((frontN l).take q) i (fun m h => hfs m (List.mem_of_mem_take h))
  have hb8 := wOf_pos P ((frontN l).take q) i
  have ht9 : ((frontN l).take q).length ≤ 100000 := by rw [List.length_take]; omega
  refine g9 6 ?_
  refine WC.cd (fun h22 p22 => ?_) (fun h22 p22 => ?_)
  ·try dsimp only at p22
   refine g9 6 ?_
   refine (hv3.mono hG9).a2 (i := q) om9 (fun he10 hm11 => (g9 2 ?_))
   refine W.alloc zr90 (fun b15 => (g9 8 ?_))
   refine W.qcall (rroute_fc (h_P.mono lec) _) rfl (g9 4 ?_)
   refine WC.cd (fun h30 p30 => ?_) (fun h30 p30 => ?_)
   ·try dsimp only at p30
    have p30n : (routeN P ((frontN l)[q]'om9).key) = i := by omega
    have hz9 := size_36 (hfs _ (List.getElem_mem (by omega : q < (frontN l).length)))
    have he9 : Msg.size ⟨((frontN l)[q]'om9).stamp, ((frontN l)[q]'om9).kind, ((frontN l)[q]'om9).key, ((frontN l)[q]'om9).hi, ((frontN l)[q]'om9).opn, ((frontN l)[q]'om9).val⟩ = (((frontN l)[q]'om9)).size := rfl
    refine g9 3 ?_
    refine W.qcall (msize_fc _ _ _ _ _ _) rfl (g9 8 ?_)
    refine W.sub (sr9.cons _) (g9 2 ?_)
    exact ⟨Le.rfl, q + 1, ⟨(iv (by rw [wOf_t om9 p30n])), eqv, eqv, eqv, eqv, eqv, eqv, eqv, eqv, trivial⟩, ⟨rfl, om9⟩, om9⟩
   try dsimp only at p30
   have p30n : ¬ (routeN P ((frontN l)[q]'om9).key) = i := by omega
   refine g9 6 ?_
   refine W.sub (sr9.cons _) (g9 2 ?_)
   exact ⟨Le.rfl, q + 1, ⟨(iv (by rw [wOf_f om9 p30n])), eqv, eqv, eqv, eqv, eqv, eqv, eqv, eqv, trivial⟩, ⟨rfl, om9⟩, om9⟩
  try dsimp only at p22
  refine g9 12 ?_
  refine WC.cd (fun h38 p38 => ?_) (fun h38 p38 => ?_)
  ·try dsimp only at p38
   have hmo : wOf P ((frontN l).take q) i = (wOf P (frontN l)) i := by rw [List.take_of_length_le om9]
   rw [hmo] at p38
   refine g9 18 ?_
   exact ⟨lec, i + 1, ⟨(iv (by rw [bt_t p38])), (iv (by rw [if_neg (Nat.succ_ne_zero i), bt_t p38, hmo])), eqv, eqv, eqv, trivial⟩, ⟨rfl, om9⟩, om9⟩
  try dsimp only at p38
  have hmo : wOf P ((frontN l).take q) i = (wOf P (frontN l)) i := by rw [List.take_of_length_le om9]
  rw [hmo] at p38
  refine g9 9 ?_
  exact ⟨lec, i + 1, ⟨(iv (by rw [bt_f p38])), (iv (by rw [if_neg (Nat.succ_ne_zero i), mt_f (wOf_pos P _) p38])), eqv, eqv, eqv, trivial⟩, ⟨rfl, om9⟩, om9⟩
 try dsimp only at p15
 refine g9 16 ?_
 show Value.tuple #[Value.int _ _, Value.bool _] = _
 rw [show i = P.length + 1 by omega, if_neg om9]
 exact rvic_eq P l

theorem fchoose_fc {G : GH} (cf : Int) (cl : Int) (cb : Int) (cs : Int) (cr : Int) {cs_n : List Value} {n : Nd} (h_n : NodeC G cs_n n) (k : Str) (hq : ChoosePre n) :
    Fc Tryz.prog 24 [.agg #[iV cf, iV cl, iV cb, iV cs, iV cr], .agg (List.toArray cs_n), sV k.b] G [] (fun v _ _ => v = .tuple #[iV ((chooseN (⟨cf, cl, cb, cs, cr⟩ : Cfg) n k).1), iV ((chooseN (⟨cf, cl, cb, cs, cr⟩ : Cfg) n k).2)]) := by
 obtain ⟨_, _, _, _, _, _, _, _, rfl, hp_n, hk_n, hm_n, hr_n, hok_n⟩ := h_n
 refine Fc.go [.tmp 6, .tmp 7] Tryz.func24 Tryz.ntmps24 rfl (fun w0 => (g9 2 ?_))
 refine W.box (L := [iV _, iV _, iV _, iV _, iV _]) rfl rfl (fun b16 => (W.box (L := [iV _, iV _, lV _ _ _, lV _ _ _, sV _, .bool _, iV _, iV _, lV _ _ _, lV _ _ _]) rfl rfl (fun b17 => (g9 14 ?_))))
 refine WC.cd (fun h13 p13 => ?_) (fun h13 p13 => ?_)
 ·refine g9 10 ?_
  show Value.tuple #[Value.int _ _, Value.int _ _] = _
  rw [choose_0 p13]
 refine g9 6 ?_
 refine W.sd 18 (fun h17 p17 => ?_) (fun h17 p17 => ?_)
 ·refine g9 5 ?_
  refine W.qcall (nfull_fc cf cl cb cs cr (n := n) (nk9 hp_n hk_n hm_n hr_n hok_n)) rfl (g9 4 ?_)
  refine WC.cond rfl (fun h21 => ?_) (fun h21 => ?_)
  ·refine g9 10 ?_
   show Value.tuple #[Value.int _ _, Value.int _ _] = _
   rw [choose_1 p13 p17 h21]
  refine g9 9 ?_
  refine W.qcall (fvictim_fc hp_n hm_n (hq p13).2.1 (hq p13).2.2 (hq p13).1) rfl (g9 14 ?_)
  refine WC.cond rfl (fun h32 => ?_) (fun h32 => ?_)
  ·refine g9 4 ?_
   refine W.qcall (broute_fc hp_n _ (hq p13).1) rfl (g9 12 ?_)
   show Value.tuple #[Value.int _ _, Value.int _ _] = _
   rw [choose_r p13 (fun h => by rw [h21] at h; exact absurd h.2 (by simp)) (by simpa using h32)]
  refine g9 11 ?_
  show Value.tuple #[Value.int _ _, Value.int _ _] = _
  rw [choose_v p13 (fun h => by rw [h21] at h; exact absurd h.2 (by simp)) (by simpa using h32)]
 refine g9 17 ?_
 refine W.qcall (fvictim_fc hp_n hm_n (hq p13).2.1 (hq p13).2.2 (hq p13).1) rfl (g9 14 ?_)
 refine WC.cond rfl (fun h32 => ?_) (fun h32 => ?_)
 ·refine g9 4 ?_
  refine W.qcall (broute_fc hp_n _ (hq p13).1) rfl (g9 12 ?_)
  show Value.tuple #[Value.int _ _, Value.int _ _] = _
  rw [choose_r p13 (fun h => p17 h.1) (by simpa using h32)]
 refine g9 11 ?_
 show Value.tuple #[Value.int _ _, Value.int _ _] = _
 rw [choose_v p13 (fun h => p17 h.1) (by simpa using h32)]

theorem rchoose_fc {G : GH} (cf : Int) (cl : Int) (cb : Int) (cs : Int) (cr : Int) {cs_n : List Value} {n : Nd} (h_n : NodeC G cs_n n) (k : Str) (hq : ChoosePre n) :
    Fc Tryz.prog 33 [.agg #[iV cf, iV cl, iV cb, iV cs, iV cr], .agg (List.toArray cs_n), sV k.b] G [] (fun v _ _ => v = .tuple #[iV ((chooseN (⟨cf, cl, cb, cs, cr⟩ : Cfg) n k).1), iV ((chooseN (⟨cf, cl, cb, cs, cr⟩ : Cfg) n k).2)]) := by
 obtain ⟨_, _, _, _, _, _, _, _, rfl, hp_n, hk_n, hm_n, hr_n, hok_n⟩ := h_n
 refine Fc.go [.tmp 6, .tmp 7] Tryz.func33 Tryz.ntmps33 rfl (fun w0 => (g9 2 ?_))
 refine W.box (L := [iV _, iV _, iV _, iV _, iV _]) rfl rfl (fun b18 => (W.box (L := [iV _, iV _, lV _ _ _, lV _ _ _, sV _, .bool _, iV _, iV _, lV _ _ _, lV _ _ _]) rfl rfl (fun b19 => (g9 12 ?_))))
 refine WC.cd (fun h12 p12 => ?_) (fun h12 p12 => ?_)
 ·refine g9 9 ?_
  show Value.tuple #[Value.int _ _, Value.int _ _] = _
  rw [choose_0 p12]
 refine g9 9 ?_
 refine W.sd 16 (fun h15 p15 => ?_) (fun h15 p15 => ?_)
 ·refine g9 5 ?_
  refine W.qcall (rfull_fc cf cl cb cs cr (n := n) (nk9 hp_n hk_n hm_n hr_n hok_n)) rfl (g9 3 ?_)
  refine WC.cond rfl (fun h19 => ?_) (fun h19 => ?_)
  ·refine g9 9 ?_
   show Value.tuple #[Value.int _ _, Value.int _ _] = _
   rw [choose_1 p12 p15 h19]
  refine g9 8 ?_
  refine W.qcall (rvictim_fc hp_n hm_n (hq p12).2.1 (hq p12).2.2) rfl (g9 14 ?_)
  refine WC.cond rfl (fun h30 => ?_) (fun h30 => ?_)
  ·refine g9 4 ?_
   refine W.qcall (rroute_fc hp_n _) rfl (g9 12 ?_)
   show Value.tuple #[Value.int _ _, Value.int _ _] = _
   rw [choose_r p12 (fun h => by rw [h19] at h; exact absurd h.2 (by simp)) (by simpa using h30)]
  refine g9 11 ?_
  show Value.tuple #[Value.int _ _, Value.int _ _] = _
  rw [choose_v p12 (fun h => by rw [h19] at h; exact absurd h.2 (by simp)) (by simpa using h30)]
 refine g9 15 ?_
 refine W.qcall (rvictim_fc hp_n hm_n (hq p12).2.1 (hq p12).2.2) rfl (g9 14 ?_)
 refine WC.cond rfl (fun h30 => ?_) (fun h30 => ?_)
 ·refine g9 4 ?_
  refine W.qcall (rroute_fc hp_n _) rfl (g9 12 ?_)
  show Value.tuple #[Value.int _ _, Value.int _ _] = _
  rw [choose_r p12 (fun h => p15 h.1) (by simpa using h30)]
 refine g9 11 ?_
 show Value.tuple #[Value.int _ _, Value.int _ _] = _
 rw [choose_v p12 (fun h => p15 h.1) (by simpa using h30)]

theorem rmoves_fc {G : GH} (cf : Int) (cl : Int) (cb : Int) (cs : Int) (cr : Int) {cs_k : List Value} {k : Nd} (h_k : NodeC G cs_k k) {v_l : Value} {l : List Msg} (h_l : SlR eMsg G v_l l) (hb : 0 ≤ cb ∧ cb ≤ 9223372036854775807) (hkm : ∀ m ∈ k.msgs, m.key.b.size ≤ 16 ∧ m.val.b.size ≤ 16) (hlR : ∀ m ∈ l, m.R) (hkr : PairsR k.rows) (hsz : k.msgs.length + l.length ≤ 100000 ∧ k.rows.length ≤ 100000) :
    Fc Tryz.prog 80 [.agg #[iV cf, iV cl, iV cb, iV cs, iV cr], .agg (List.toArray cs_k), v_l] G [] (fun v _ _ => v = nt9 ((movedN cl cb k l).2)) := by
 obtain ⟨pa_k, pc_k, ka_k, kc_k, ma_k, mc_k, ra_k, rc_k, rfl, hp_k, hk_k, hm_k, hr_k, hok_k⟩ := h_k
 obtain ⟨sa_l, sc_l, rfl⟩ := h_l.form
 have hl := h_l.len47
 have hlm := hm_k.len47
 have hks := sizes_bound hkm
 have hdl := drain_le cl l k.rows
 refine Fc.go [.tmp 6] Tryz.func80 Tryz.ntmps80 rfl (fun w0 => (g9 2 ?_))
 refine W.box (L := [iV _, iV _, iV _, iV _, iV _]) rfl rfl (fun b1 => (W.box (L := [iV _, iV _, lV _ _ _, lV _ _ _, sV _, .bool _, iV _, iV _, lV _ _ _, lV _ _ _]) rfl rfl (fun b2 => (g9 11 ?_))))
 refine WC.cd (fun h14 p14 => ?_) (fun h14 p14 => ?_)
 ·refine g9 7 ?_
  refine W.call (Mp := []) (rdrain_fc hr_k h_l cl hkr om9 hlR) rfl pr9 ?_
  intro _ G3 _ hG3 q5
  refine match q5 with | ⟨e_6, _, e_7, _, e_8, hv4⟩ => ?_
  subst e_6
  subst e_7
  subst e_8
  have q10 := hv4.form
  refine match q10 with | ⟨sa_hv4, sc_hv4, e_9⟩ => ?_
  subst e_9
  refine g9 16 ?_
  refine congrArg (Value.int .i64) (congrArg Nat.cast ?_)
  rw [moved_0 p14]
 refine g9 6 ?_
 refine W.qcall (msizes_fc hm_k hkm) rfl (g9 17 ?_)
 refine WC.cd (fun h31 p31 => ?_) (fun h31 p31 => ?_)
 ·refine g9 7 ?_
  refine hm_k.a2 (i := k.msgs.length - 1) om9 (fun he11 hm12 => (W.ok (ok_indexAddr (i := k.msgs.length - 1) sl51 ty90 hm_k rfl rfl ⟨om9, om9⟩) (g9 12 ?_)))
  refine WC.loop (X := Nat) (fun j => [(9, iV (sizesN (k.msgs ++ l.take j))), (10, iV (lastS (k.msgs ++ l.take j))), (11, nt9 j), (3, pt9 b1), (4, pt9 b2), (2, lV sa_l l.length sc_l)]) (fun j _ Ml => Ml = [(b2, ce9 53 (ndl k pa_k pc_k ka_k kc_k ma_k mc_k ra_k rc_k)), (b1, ce9 23 [iV cf, iV cl, iV cb, iV cs, iV cr])] ∧ j ≤ l.length ∧ AddsAt cb k.msgs l j) (fun j => l.length - j) 0 ⟨(iv (by rw [List.take_zero, List.append_nil])), (iv (by rw [List.take_zero, List.append_nil, lastS_get om9])), eqv, eqv, eqv, eqv, trivial⟩ ?_ ?_
  ·exact ⟨rfl, om9, AddsAt.zero _ _ _⟩
  rintro j gG16 G16 _ hG16 ⟨rfl, hj, hd⟩
  have hbd := sizes_bound (l := (k.msgs ++ l.take j)) (fun m h => by
      rcases List.mem_append.1 h with h | h
      · exact hkm m h
      · exact msgR_key (hlR m (List.mem_of_mem_take h)))
  have hln : (k.msgs ++ l.take j).length ≤ 100000 := by rw [List.length_append, List.length_take]; omega
  refine g9 9 ?_
  refine WC.cd (fun h44 p44 => ?_) (fun h44 p44 => ?_)
  ·have hz9 := size_36 (msgR_key (hlR _ (List.getElem_mem (by omega : j < l.length))))
   have he9 : Msg.size ⟨(l[j]'om9).stamp, (l[j]'om9).kind, (l[j]'om9).key, (l[j]'om9).hi, (l[j]'om9).opn, (l[j]'om9).val⟩ = (l[j]'om9).size := rfl
   refine g9 9 ?_
   refine (h_l.mono hG16).a2 (i := j) om9 (fun he17 hm18 => (g9 2 ?_))
   refine W.qcall (msize_fc _ _ _ _ _ _) rfl (g9 12 ?_)
   refine W.sd 58 (fun h57 p57 => ?_) (fun h57 p57 => ?_)
   ·refine g9 33 ?_
    refine congrArg (Value.int .i64) (congrArg Nat.cast ?_)
    rw [moved_n p14 (hd.stop om9 (room_f1 om9))]
   refine g9 14 ?_
   refine W.sd 65 (fun h64 p64 => ?_) (fun h64 p64 => ?_)
   ·refine g9 5 ?_
    refine (h_l.mono hG16).a2 (i := j) om9 (fun he22 hm23 => (g9 14 ?_))
    refine WC.cd (fun h72 p72 => ?_) (fun h72 p72 => ?_)
    ·refine g9 14 ?_
     refine congrArg (Value.int .i64) (congrArg Nat.cast ?_)
     rw [moved_n p14 (hd.stop om9 (room_last (by rw [List.length_append, List.length_take]; omega) p72))]
    refine g9 5 ?_
    refine (h_l.mono hG16).a2 (i := j) om9 (fun he27 hm28 => (g9 13 ?_))
    exact ⟨Le.rfl, j + 1, ⟨(iv (by rw [take_app om9, sizes_one])), (iv (by rw [take_app om9, lastS_snoc])), eqv, eqv, eqv, eqv, trivial⟩, ⟨rfl, om9, hd.succ om9 (room_yes om9 (fun _ => by omega))⟩, om9⟩
   refine g9 18 ?_
   refine (h_l.mono hG16).a2 (i := j) om9 (fun he32 hm33 => (g9 13 ?_))
   exact ⟨Le.rfl, j + 1, ⟨(iv (by rw [take_app om9, sizes_one])), (iv (by rw [take_app om9, lastS_snoc])), eqv, eqv, eqv, eqv, trivial⟩, ⟨rfl, om9, hd.succ om9 (room_yes om9 (fun h9 => by rw [List.length_append, List.length_take] at h9; omega))⟩, om9⟩
  refine g9 14 ?_
  refine congrArg (Value.int .i64) (congrArg Nat.cast ?_)
  rw [moved_n p14 (hd.all om9)]
  omega
 refine g9 9 ?_
 refine WC.loop (X := Nat) (fun j => [(9, iV (sizesN (k.msgs ++ l.take j))), (10, iV (lastS (k.msgs ++ l.take j))), (11, nt9 j), (3, pt9 b1), (4, pt9 b2), (2, lV sa_l l.length sc_l)]) (fun j _ Ml => Ml = [(b2, ce9 53 (ndl k pa_k pc_k ka_k kc_k ma_k mc_k ra_k rc_k)), (b1, ce9 23 [iV cf, iV cl, iV cb, iV cs, iV cr])] ∧ j ≤ l.length ∧ AddsAt cb k.msgs l j) (fun j => l.length - j) 0 ⟨(iv (by rw [List.take_zero, List.append_nil])), (iv (by rw [List.take_zero, List.append_nil, lastS_nil om9])), eqv, eqv, eqv, eqv, trivial⟩ ?_ ?_
 ·exact ⟨rfl, om9, AddsAt.zero _ _ _⟩
 rintro j gG37 G37 _ hG37 ⟨rfl, hj, hd⟩
 have hbd := sizes_bound (l := (k.msgs ++ l.take j)) (fun m h => by
      rcases List.mem_append.1 h with h | h
      · exact hkm m h
      · exact msgR_key (hlR m (List.mem_of_mem_take h)))
 have hln : (k.msgs ++ l.take j).length ≤ 100000 := by rw [List.length_append, List.length_take]; omega
 refine g9 9 ?_
 refine WC.cd (fun h44 p44 => ?_) (fun h44 p44 => ?_)
 ·have hz9 := size_36 (msgR_key (hlR _ (List.getElem_mem (by omega : j < l.length))))
  have he9 : Msg.size ⟨(l[j]'om9).stamp, (l[j]'om9).kind, (l[j]'om9).key, (l[j]'om9).hi, (l[j]'om9).opn, (l[j]'om9).val⟩ = (l[j]'om9).size := rfl
  refine g9 9 ?_
  refine (h_l.mono hG37).a2 (i := j) om9 (fun he38 hm39 => (g9 2 ?_))
  refine W.qcall (msize_fc _ _ _ _ _ _) rfl (g9 12 ?_)
  refine W.sd 58 (fun h57 p57 => ?_) (fun h57 p57 => ?_)
  ·refine g9 33 ?_
   refine congrArg (Value.int .i64) (congrArg Nat.cast ?_)
   rw [moved_n p14 (hd.stop om9 (room_f1 om9))]
  refine g9 14 ?_
  refine W.sd 65 (fun h64 p64 => ?_) (fun h64 p64 => ?_)
  ·refine g9 5 ?_
   refine (h_l.mono hG37).a2 (i := j) om9 (fun he43 hm44 => (g9 14 ?_))
   refine WC.cd (fun h72 p72 => ?_) (fun h72 p72 => ?_)
   ·refine g9 14 ?_
    refine congrArg (Value.int .i64) (congrArg Nat.cast ?_)
    rw [moved_n p14 (hd.stop om9 (room_last (by rw [List.length_append, List.length_take]; omega) p72))]
   refine g9 5 ?_
   refine (h_l.mono hG37).a2 (i := j) om9 (fun he48 hm49 => (g9 13 ?_))
   exact ⟨Le.rfl, j + 1, ⟨(iv (by rw [take_app om9, sizes_one])), (iv (by rw [take_app om9, lastS_snoc])), eqv, eqv, eqv, eqv, trivial⟩, ⟨rfl, om9, hd.succ om9 (room_yes om9 (fun _ => by omega))⟩, om9⟩
  refine g9 18 ?_
  refine (h_l.mono hG37).a2 (i := j) om9 (fun he53 hm54 => (g9 13 ?_))
  exact ⟨Le.rfl, j + 1, ⟨(iv (by rw [take_app om9, sizes_one])), (iv (by rw [take_app om9, lastS_snoc])), eqv, eqv, eqv, eqv, trivial⟩, ⟨rfl, om9, hd.succ om9 (room_yes om9 (fun h9 => by rw [List.length_append, List.length_take] at h9; omega))⟩, om9⟩
 refine g9 14 ?_
 refine congrArg (Value.int .i64) (congrArg Nat.cast ?_)
 rw [moved_n p14 (hd.all om9)]
 omega

end Go.Proofs.YtfmigmijckdldaaGreat
