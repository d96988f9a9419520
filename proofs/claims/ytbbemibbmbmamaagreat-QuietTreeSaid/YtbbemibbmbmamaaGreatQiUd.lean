/- Walks of the ways of texts. -/
import Derived.Test.YtbbemibbmbmamaaGreatQiV5
set_option maxRecDepth 100000
set_option maxHeartbeats 1600000
set_option linter.unusedVariables false
set_option linter.unusedSimpArgs false
set_option linter.unnecessarySimpa false
namespace Go.Proofs.YtbbemibbmbmamaaGreat
open Go Go.Fw Go.RowKit
attribute [local irreducible] Ok W WC
theorem Ztr {G : GH} {b : Nat} {c c2 : Cfg} {l : List Nd} {ss : List Seat} {M : MH} (h : StR 60 4 3 189 139 b c G l M) (t : Tree c2 l ss) {x : Seat} (hx : x ∈ ss) : Fc Tryz.prog 67 [pt9 b, iV x.n.slot] G M (fun v G' M' => (∃ cs, v = .tuple #[.agg (List.toArray cs), .bool true] ∧ NodeC G' cs x.n) ∧ M' = M) :=
  (Zaq h _).mono fun v G' M' _ ⟨⟨cs, e1, e2⟩, e3⟩ => ⟨⟨cs, by rw [e1, decide_eq_true (t.nd hx).1], e2.of (t.nd hx).2.1.symm⟩, e3⟩
theorem Zlq {G : GH} {b_s : Nat} {c c2 : Cfg} {l : List Nd} {ss : List Seat} {Ms_s : MH} (h_s : StR 60 4 3 189 139 b_s c G l Ms_s) (t : Tree c2 l ss) (k : Str) :
    Fc Tryz.prog 142 [pt9 b_s, sV k.b] G Ms_s (fun v G' M' => M' = Ms_s ∧ ∃ u1 u2, v = .tuple #[u1, u2] ∧ SlR Zv G' u1 ((ZB l k).map (·.n)) ∧ SlR XI G' u2 ((ZB l k).map (·.s))) := by
 refine Fc.go [.tmp 4, .tmp 5] Tryz.func142 Tryz.ntmps142 rfl (fun w0 => (WC.perm (M' := (Ms_s ++ [])) (by simp) (g9 8 ?_)))
 refine W.qcall (ZgD ) rfl (W.alloc ZU (fun b11 => (g9 10 ?_)))
 refine WC.loop (X := (Seat × List Seat × Int) × Value × MH × Value × MH) (fun x => [(6, iV x.1.1.n.slot), (8, iV x.1.2.2), (0, pt9 b_s), (7, pt9 b11), (1, sV k.b), (4, x.2.1), (5, x.2.2.2.1)]) (fun x G Ml => Ml = ((b11, ce9 62 [sV (x.1.1.s).lo.b, sV (x.1.1.s).hi.b, .bool (x.1.1.s).opn]) :: (x.2.2.1 ++ (x.2.2.2.2 ++ (Ms_s ++ [])))) ∧ OwnR Zv 60 G x.2.1 (x.1.2.1.map (fun y : Seat => y.n)) x.2.2.1 ∧ OwnR XI 62 G x.2.2.2.1 (x.1.2.1.map (fun y : Seat => y.s)) x.2.2.2.2 ∧ At l ss k x.1.1 x.1.2.1 x.1.2.2) (fun x => x.1.1.n.level.toNat) (((Zg l 0, [], -1) : Seat × List Seat × Int), lV none 0 0, ([] : MH), lV none 0 0, ([] : MH)) ⟨(congrArg (Value.int .i64) t.root0.symm), eqv, eqv, eqv, eqv, eqv, eqv, trivial⟩ ?_ ?_
 ·exact ⟨rfl, (by simpa using OwnR.nil), (by simpa using OwnR.nil), At.init t k⟩
 rintro ⟨⟨x, P, lv⟩, v_4, M_4, v_5, M_5⟩ gG12 G12 _ hG12 ⟨rfl, ho_4, ho_5, hA⟩
 try dsimp only at ho_4 ho_5 hA
 have hpl := hA.plen t
 have hlx := t.lvl hA.mem
 have hlv := hA.lv
 refine g9 5 ?_
 refine W.call (Mp := Ms_s) (Ztr (StR.mono hG12 h_s) t hA.mem) rfl (pmC (pmA (pmA pr9))) ?_
 intro v16 G13 Ms15 hG13 q14
 refine match q14 with | ⟨⟨_, e_18, ⟨pa_hR17, pc_hR17, ka_hR17, kc_hR17, ma_hR17, mc_hR17, ra_hR17, rc_hR17, e_19, hp_hR17, hk_hR17, hm_hR17, hr_hR17, hok_hR17⟩⟩, eeq14⟩ => ?_
 subst e_18
 subst e_19
 have eeq14 := eeq14.symm
 subst eeq14
 refine W.perm (pmC pr9).symm (g9 3 ?_)
 refine W.alloc Zm (fun b20 => (g9 16 ?_))
 refine W.sd 24 (fun h23 p23 => ?_) (fun h23 p23 => ?_)
 ·try dsimp only at p23
  have hlv4 := hok_hR17.2.1.2
  refine g9 15 ?_
  refine WC.cn (fun h29 p29 => ?_) (fun h29 p29 => ?_)
  ·try dsimp only at p29
   exfalso; omega
  try dsimp only at p29
  refine g9 2 ?_
  refine WC.perm (M' := ((b20, ce9 60 (ndl x.n pa_hR17 pc_hR17 ka_hR17 kc_hR17 ma_hR17 mc_hR17 ra_hR17 rc_hR17)) :: ((b11, ce9 62 [sV (x.s).lo.b, sV (x.s).hi.b, .bool (x.s).opn]) :: (M_4 ++ (M_5 ++ (Ms_s ++ [])))))) ((((List.Perm.append_left _ ((List.Perm.append_left _ pr9).trans (pmA pr9))).trans (pmA pr9)).cons _).cons _) ?_
  refine WC.join (X := (Unit) × Value × MH × Value × MH) (fun u7 => [(8, iV x.n.level), (0, pt9 b_s), (7, pt9 b11), (9, pt9 b20), (1, sV k.b), (4, u7.2.1), (5, u7.2.2.2.1)]) (fun u7 G Ml => Ml = ((b20, ce9 60 (ndl x.n pa_hR17 pc_hR17 ka_hR17 kc_hR17 ma_hR17 mc_hR17 ra_hR17 rc_hR17)) :: ((b11, ce9 62 [sV (x.s).lo.b, sV (x.s).hi.b, .bool (x.s).opn]) :: (u7.2.2.1 ++ (u7.2.2.2.2 ++ (Ms_s ++ []))))) ∧ OwnR Zv 60 G u7.2.1 ((P ++ [x]).map (fun y : Seat => y.n)) u7.2.2.1 ∧ OwnR XI 62 G u7.2.2.2.1 ((P ++ [x]).map (fun y : Seat => y.s)) u7.2.2.2.2) ?_ ?_
  ·refine WC.dw (sn9.k9.k9) (d9 [0, 1, 4, 5, 8, 9] ?_)
   refine WD.any [2, 6] (by kernel_rfl) rfl ⟨WD.ap ?_, WD.ap ?_, trivial⟩
   ·refine W.lit (e := Zv) (l := [x.n]) (css := [[iV _, iV _, lV _ _ _, lV _ _ _, sV _, .bool _, iV _, iV _, lV _ _ _, lV _ _ _]]) Xm Yd Zm rfl rfl rfl rfl rfl rfl ⟨(nk9 hp_hR17 hk_hR17 hm_hR17 hr_hR17 hok_hR17), trivial⟩ (fun bl21 G21 hG21 hv21 => (W.nn ?_))
    refine WD.any [3, 6] (by kernel_rfl) rfl ⟨WD.ap ?_, WD.ap ?_, trivial⟩
    ·refine W.app (e := Zv) Xm Yd Zm rfl ZaN rfl rfl ((ho_4.mono lec)) (hv21) (pmC (pmC pr9)) (by show (List.length _ + 1) * 152 ≤ _; rw [List.length_map]; omega) (fun v22 Ms23 ho24 => (W.perm (pmC (pmC pr9)).symm (W.nn (WD.a1 6 rfl (W.lit (e := XI) (l := [x.s]) (css := [[sV _, sV _, .bool _]]) Je Yt ZU rfl rfl rfl rfl rfl rfl ⟨rfl, trivial⟩ (fun bl25 G25 hG25 hv25 => (W.nn (WD.a1 7 rfl (W.app (e := XI) Je Yt ZU rfl Zb9 rfl rfl ((ho_5.mono lec)) (hv25) (pmC (pmC (pmA pr9))) (by show (List.length _ + 1) * 40 ≤ _; rw [List.length_map]; omega) (fun v26 Ms27 ho28 => (W.perm (pmC (pmC pr9)).symm (W.nn (d9 [10, 11, 12] ?_)))))))))))))
     refine WD.doneP (M' := ((b20, ce9 60 (ndl x.n pa_hR17 pc_hR17 ka_hR17 kc_hR17 ma_hR17 mc_hR17 ra_hR17 rc_hR17)) :: ((b11, ce9 62 [sV (x.s).lo.b, sV (x.s).hi.b, .bool (x.s).opn]) :: (Ms23 ++ (Ms27 ++ (Ms_s ++ [])))))) (by kernel_rfl) sr9 ((((List.Perm.append_left _ ((List.Perm.append_left _ pr9).trans pr9)).trans (pmA pr9)).cons _).cons _) (Xg ?_)
     exact ⟨lec, ((), v22, Ms23, v26, Ms27), hs9, ⟨rfl, (by have h := (ho24.mono hG25); rw [List.map_append]; exact h), (by have h := ho28; rw [List.map_append]; exact h)⟩⟩
    refine W.lit (e := XI) (l := [x.s]) (css := [[sV _, sV _, .bool _]]) Je Yt ZU rfl rfl rfl rfl rfl rfl ⟨rfl, trivial⟩ (fun bl29 G29 hG29 hv29 => (W.nn (WD.a1 3 rfl (W.app (e := Zv) Xm Yd Zm rfl ZaN rfl rfl ((ho_4.mono lec)) ((hv21.mono hG29)) (pmC (pmC pr9)) (by show (List.length _ + 1) * 152 ≤ _; rw [List.length_map]; omega) (fun v30 Ms31 ho32 => (W.perm (pmC (pmC pr9)).symm (W.nn (WD.a1 7 rfl (W.app (e := XI) Je Yt ZU rfl Zb9 rfl rfl ((ho_5.mono lec)) (hv29) (pmC (pmC (pmA pr9))) (by show (List.length _ + 1) * 40 ≤ _; rw [List.length_map]; omega) (fun v33 Ms34 ho35 => (W.perm (pmC (pmC pr9)).symm (W.nn (d9 [10, 11, 12] ?_)))))))))))))
    refine WD.doneP (M' := ((b20, ce9 60 (ndl x.n pa_hR17 pc_hR17 ka_hR17 kc_hR17 ma_hR17 mc_hR17 ra_hR17 rc_hR17)) :: ((b11, ce9 62 [sV (x.s).lo.b, sV (x.s).hi.b, .bool (x.s).opn]) :: (Ms31 ++ (Ms34 ++ (Ms_s ++ [])))))) (by kernel_rfl) sr9 ((((List.Perm.append_left _ ((List.Perm.append_left _ pr9).trans pr9)).trans (pmA pr9)).cons _).cons _) (Xg ?_)
    exact ⟨lec, ((), v30, Ms31, v33, Ms34), hs9, ⟨rfl, (by have h := ho32; rw [List.map_append]; exact h), (by have h := ho35; rw [List.map_append]; exact h)⟩⟩
   refine W.lit (e := XI) (l := [x.s]) (css := [[sV _, sV _, .bool _]]) Je Yt ZU rfl rfl rfl rfl rfl rfl ⟨rfl, trivial⟩ (fun bl36 G36 hG36 hv36 => (W.nn (WD.a1 2 rfl (W.lit (e := Zv) (l := [x.n]) (css := [[iV _, iV _, lV _ _ _, lV _ _ _, sV _, .bool _, iV _, iV _, lV _ _ _, lV _ _ _]]) Xm Yd Zm rfl rfl rfl rfl rfl rfl ⟨(nm9 hG36 hp_hR17 hk_hR17 hm_hR17 hr_hR17 hok_hR17), trivial⟩ (fun bl37 G37 hG37 hv37 => (W.nn (WD.a1 3 rfl (W.app (e := Zv) Xm Yd Zm rfl ZaN rfl rfl ((ho_4.mono lec)) (hv37) (pmC (pmC pr9)) (by show (List.length _ + 1) * 152 ≤ _; rw [List.length_map]; omega) (fun v38 Ms39 ho40 => (W.perm (pmC (pmC pr9)).symm (W.nn (WD.a1 7 rfl (W.app (e := XI) Je Yt ZU rfl Zb9 rfl rfl ((ho_5.mono lec)) ((hv36.mono hG37)) (pmC (pmC (pmA pr9))) (by show (List.length _ + 1) * 40 ≤ _; rw [List.length_map]; omega) (fun v41 Ms42 ho43 => (W.perm (pmC (pmC pr9)).symm (W.nn (d9 [10, 11, 12] ?_)))))))))))))))))
   refine WD.doneP (M' := ((b20, ce9 60 (ndl x.n pa_hR17 pc_hR17 ka_hR17 kc_hR17 ma_hR17 mc_hR17 ra_hR17 rc_hR17)) :: ((b11, ce9 62 [sV (x.s).lo.b, sV (x.s).hi.b, .bool (x.s).opn]) :: (Ms39 ++ (Ms42 ++ (Ms_s ++ [])))))) (by kernel_rfl) sr9 ((((List.Perm.append_left _ ((List.Perm.append_left _ pr9).trans pr9)).trans (pmA pr9)).cons _).cons _) (Xg ?_)
   exact ⟨lec, ((), v38, Ms39, v41, Ms42), hs9, ⟨rfl, (by have h := ho40; rw [List.map_append]; exact h), (by have h := ho43; rw [List.map_append]; exact h)⟩⟩
  rintro ⟨u7, v_4, M_4, v_5, M_5⟩ gG44 G44 _ hG44 ⟨rfl, ho_4, ho_5⟩
  try dsimp only at ho_4 ho_5
  refine g9 6 ?_
  refine W.sd 46 (fun h45 p45 => ?_) (fun h45 p45 => ?_)
  ·try dsimp only at p45
   refine g9 18 ?_
   refine WC.giveO ho_4 (pmC (pmC pr9)) (fun G45 hG45 hv45 => (WC.giveO (ho_5.mono hG45) (pmC (pmC pr9)) (fun G46 hG46 hv46 => (g9 5 ?_))))
   refine ⟨.inr rfl, [_, _], ⟨rfl, rfl, trivial⟩, Ms_s, ((List.sublist_append_left _ _).cons _).cons _, ?_⟩
   refine ⟨rfl, _, _, rfl, SlR.cast (hv45.mono hG46) (by rw [hA.last p45]), SlR.cast hv46 (by rw [hA.last p45])⟩
  try dsimp only at p45
  refine g9 9 ?_
  refine W.qcall (ZgE (hp_hR17.mono hG44) (hk_hR17.mono hG44)) rfl (g9 5 ?_)
  refine WC.cond rfl (fun h52 => ?_) (fun h52 => ?_)
  ·have h0 := t.right hA.mem p45; simp [h0] at h52
  have hrt := t.route hA.mem p45 k
  have hkl : x.n.kids.length ≤ 4000 := (t.sml.at (.inr (t.nd hA.mem).2.2)).1
  refine g9 7 ?_
  refine W.qcall (Zcc (hp_hR17.mono hG44) _ (YM (t.right hA.mem p45)).1) rfl (g9 3 ?_)
  refine WC.dw ((sr9.cons _).k9) (d9 [0, 1, 2] ?_)
  refine (hk_hR17.mono hG44).a2 (i := Ze x.n.pivots k) om9 (fun he47 hi48 => (WD.tk 3 rfl (Yu (i := Ze x.n.pivots k) Z8 ty3 (hk_hR17.mono hG44) rfl rfl ⟨om9, om9⟩) (d9 [4, 6, 7, 8] ?_)))
  refine WD.any [5, 9] (by kernel_rfl) rfl ⟨WD.ap ?_, WD.ap ?_, trivial⟩
  ·refine g9 1 ?_
   refine W.nn (WD.a1 9 rfl (W.qcall (Za3 (hp_hR17.mono hG44) _ ⟨om9, om9⟩) rfl (W.nn (WD.a1 10 rfl (W.qcall (Zap _ _ _ _ _ _) rfl (W.nn (d9 [11, 12] ?_)))))))
   refine WD.doneP (M' := ((b11, ce9 62 [sV ((Zb l x (Ze x.n.pivots k)).s).lo.b, sV ((Zb l x (Ze x.n.pivots k)).s).hi.b, .bool ((Zb l x (Ze x.n.pivots k)).s).opn]) :: (M_4 ++ (M_5 ++ (Ms_s ++ []))))) (by kernel_rfl) (sr9.cons _) pr9 (JV (Xg ?_))
   exact ⟨lec, (((Zb l x (Ze x.n.pivots k), P ++ [x], x.n.level) : Seat × List Seat × Int), v_4, M_4, v_5, M_5), ⟨(congrArg (Value.int .i64) (At.slot t hA.mem p45 k).symm), eqv, eqv, eqv, eqv, eqv, eqv, trivial⟩, ⟨rfl, (by simpa using ho_4), (by simpa using ho_5), hA.next t p45⟩, by have := (t.at hA.mem om9 (t.route hA.mem p45 k)).2.2.2; dsimp only; omega⟩
  refine W.qcall (Za3 (hp_hR17.mono hG44) _ ⟨om9, om9⟩) rfl (W.nn (WD.a1 5 rfl (g9 1 ?_)))
  refine W.nn (WD.a1 10 rfl (W.qcall (Zap _ _ _ _ _ _) rfl (W.nn (d9 [11, 12] ?_))))
  refine WD.doneP (M' := ((b11, ce9 62 [sV ((Zb l x (Ze x.n.pivots k)).s).lo.b, sV ((Zb l x (Ze x.n.pivots k)).s).hi.b, .bool ((Zb l x (Ze x.n.pivots k)).s).opn]) :: (M_4 ++ (M_5 ++ (Ms_s ++ []))))) (by kernel_rfl) (sr9.cons _) pr9 (JV (Xg ?_))
  exact ⟨lec, (((Zb l x (Ze x.n.pivots k), P ++ [x], x.n.level) : Seat × List Seat × Int), v_4, M_4, v_5, M_5), ⟨(congrArg (Value.int .i64) (At.slot t hA.mem p45 k).symm), eqv, eqv, eqv, eqv, eqv, eqv, trivial⟩, ⟨rfl, (by simpa using ho_4), (by simpa using ho_5), hA.next t p45⟩, by have := (t.at hA.mem om9 (t.route hA.mem p45 k)).2.2.2; dsimp only; omega⟩
 try dsimp only at p23
 refine g9 13 ?_
 refine WC.perm (M' := ((b20, ce9 60 (ndl x.n pa_hR17 pc_hR17 ka_hR17 kc_hR17 ma_hR17 mc_hR17 ra_hR17 rc_hR17)) :: ((b11, ce9 62 [sV (x.s).lo.b, sV (x.s).hi.b, .bool (x.s).opn]) :: (M_4 ++ (M_5 ++ (Ms_s ++ [])))))) ((((List.Perm.append_left _ ((List.Perm.append_left _ pr9).trans (pmA pr9))).trans (pmA pr9)).cons _).cons _) ?_
 refine WC.join (X := (Unit) × Value × MH × Value × MH) (fun u7 => [(8, iV x.n.level), (0, pt9 b_s), (7, pt9 b11), (9, pt9 b20), (1, sV k.b), (4, u7.2.1), (5, u7.2.2.2.1)]) (fun u7 G Ml => Ml = ((b20, ce9 60 (ndl x.n pa_hR17 pc_hR17 ka_hR17 kc_hR17 ma_hR17 mc_hR17 ra_hR17 rc_hR17)) :: ((b11, ce9 62 [sV (x.s).lo.b, sV (x.s).hi.b, .bool (x.s).opn]) :: (u7.2.2.1 ++ (u7.2.2.2.2 ++ (Ms_s ++ []))))) ∧ OwnR Zv 60 G u7.2.1 ((P ++ [x]).map (fun y : Seat => y.n)) u7.2.2.1 ∧ OwnR XI 62 G u7.2.2.2.1 ((P ++ [x]).map (fun y : Seat => y.s)) u7.2.2.2.2) ?_ ?_
 ·refine WC.dw (sn9.k9.k9) (d9 [0, 1, 4, 5, 8, 9] ?_)
  refine WD.any [2, 6] (by kernel_rfl) rfl ⟨WD.ap ?_, WD.ap ?_, trivial⟩
  ·refine W.lit (e := Zv) (l := [x.n]) (css := [[iV _, iV _, lV _ _ _, lV _ _ _, sV _, .bool _, iV _, iV _, lV _ _ _, lV _ _ _]]) Xm Yd Zm rfl rfl rfl rfl rfl rfl ⟨(nk9 hp_hR17 hk_hR17 hm_hR17 hr_hR17 hok_hR17), trivial⟩ (fun bl51 G51 hG51 hv51 => (W.nn ?_))
   refine WD.any [3, 6] (by kernel_rfl) rfl ⟨WD.ap ?_, WD.ap ?_, trivial⟩
   ·refine W.app (e := Zv) Xm Yd Zm rfl ZaN rfl rfl ((ho_4.mono lec)) (hv51) (pmC (pmC pr9)) (by show (List.length _ + 1) * 152 ≤ _; rw [List.length_map]; omega) (fun v52 Ms53 ho54 => (W.perm (pmC (pmC pr9)).symm (W.nn (WD.a1 6 rfl (W.lit (e := XI) (l := [x.s]) (css := [[sV _, sV _, .bool _]]) Je Yt ZU rfl rfl rfl rfl rfl rfl ⟨rfl, trivial⟩ (fun bl55 G55 hG55 hv55 => (W.nn (WD.a1 7 rfl (W.app (e := XI) Je Yt ZU rfl Zb9 rfl rfl ((ho_5.mono lec)) (hv55) (pmC (pmC (pmA pr9))) (by show (List.length _ + 1) * 40 ≤ _; rw [List.length_map]; omega) (fun v56 Ms57 ho58 => (W.perm (pmC (pmC pr9)).symm (W.nn (d9 [10, 11, 12] ?_)))))))))))))
    refine WD.doneP (M' := ((b20, ce9 60 (ndl x.n pa_hR17 pc_hR17 ka_hR17 kc_hR17 ma_hR17 mc_hR17 ra_hR17 rc_hR17)) :: ((b11, ce9 62 [sV (x.s).lo.b, sV (x.s).hi.b, .bool (x.s).opn]) :: (Ms53 ++ (Ms57 ++ (Ms_s ++ [])))))) (by kernel_rfl) sr9 ((((List.Perm.append_left _ ((List.Perm.append_left _ pr9).trans pr9)).trans (pmA pr9)).cons _).cons _) (Xg ?_)
    exact ⟨lec, ((), v52, Ms53, v56, Ms57), hs9, ⟨rfl, (by have h := (ho54.mono hG55); rw [List.map_append]; exact h), (by have h := ho58; rw [List.map_append]; exact h)⟩⟩
   refine W.lit (e := XI) (l := [x.s]) (css := [[sV _, sV _, .bool _]]) Je Yt ZU rfl rfl rfl rfl rfl rfl ⟨rfl, trivial⟩ (fun bl59 G59 hG59 hv59 => (W.nn (WD.a1 3 rfl (W.app (e := Zv) Xm Yd Zm rfl ZaN rfl rfl ((ho_4.mono lec)) ((hv51.mono hG59)) (pmC (pmC pr9)) (by show (List.length _ + 1) * 152 ≤ _; rw [List.length_map]; omega) (fun v60 Ms61 ho62 => (W.perm (pmC (pmC pr9)).symm (W.nn (WD.a1 7 rfl (W.app (e := XI) Je Yt ZU rfl Zb9 rfl rfl ((ho_5.mono lec)) (hv59) (pmC (pmC (pmA pr9))) (by show (List.length _ + 1) * 40 ≤ _; rw [List.length_map]; omega) (fun v63 Ms64 ho65 => (W.perm (pmC (pmC pr9)).symm (W.nn (d9 [10, 11, 12] ?_)))))))))))))
   refine WD.doneP (M' := ((b20, ce9 60 (ndl x.n pa_hR17 pc_hR17 ka_hR17 kc_hR17 ma_hR17 mc_hR17 ra_hR17 rc_hR17)) :: ((b11, ce9 62 [sV (x.s).lo.b, sV (x.s).hi.b, .bool (x.s).opn]) :: (Ms61 ++ (Ms64 ++ (Ms_s ++ [])))))) (by kernel_rfl) sr9 ((((List.Perm.append_left _ ((List.Perm.append_left _ pr9).trans pr9)).trans (pmA pr9)).cons _).cons _) (Xg ?_)
   exact ⟨lec, ((), v60, Ms61, v63, Ms64), hs9, ⟨rfl, (by have h := ho62; rw [List.map_append]; exact h), (by have h := ho65; rw [List.map_append]; exact h)⟩⟩
  refine W.lit (e := XI) (l := [x.s]) (css := [[sV _, sV _, .bool _]]) Je Yt ZU rfl rfl rfl rfl rfl rfl ⟨rfl, trivial⟩ (fun bl66 G66 hG66 hv66 => (W.nn (WD.a1 2 rfl (W.lit (e := Zv) (l := [x.n]) (css := [[iV _, iV _, lV _ _ _, lV _ _ _, sV _, .bool _, iV _, iV _, lV _ _ _, lV _ _ _]]) Xm Yd Zm rfl rfl rfl rfl rfl rfl ⟨(nm9 hG66 hp_hR17 hk_hR17 hm_hR17 hr_hR17 hok_hR17), trivial⟩ (fun bl67 G67 hG67 hv67 => (W.nn (WD.a1 3 rfl (W.app (e := Zv) Xm Yd Zm rfl ZaN rfl rfl ((ho_4.mono lec)) (hv67) (pmC (pmC pr9)) (by show (List.length _ + 1) * 152 ≤ _; rw [List.length_map]; omega) (fun v68 Ms69 ho70 => (W.perm (pmC (pmC pr9)).symm (W.nn (WD.a1 7 rfl (W.app (e := XI) Je Yt ZU rfl Zb9 rfl rfl ((ho_5.mono lec)) ((hv66.mono hG67)) (pmC (pmC (pmA pr9))) (by show (List.length _ + 1) * 40 ≤ _; rw [List.length_map]; omega) (fun v71 Ms72 ho73 => (W.perm (pmC (pmC pr9)).symm (W.nn (d9 [10, 11, 12] ?_)))))))))))))))))
  refine WD.doneP (M' := ((b20, ce9 60 (ndl x.n pa_hR17 pc_hR17 ka_hR17 kc_hR17 ma_hR17 mc_hR17 ra_hR17 rc_hR17)) :: ((b11, ce9 62 [sV (x.s).lo.b, sV (x.s).hi.b, .bool (x.s).opn]) :: (Ms69 ++ (Ms72 ++ (Ms_s ++ [])))))) (by kernel_rfl) sr9 ((((List.Perm.append_left _ ((List.Perm.append_left _ pr9).trans pr9)).trans (pmA pr9)).cons _).cons _) (Xg ?_)
  exact ⟨lec, ((), v68, Ms69, v71, Ms72), hs9, ⟨rfl, (by have h := ho70; rw [List.map_append]; exact h), (by have h := ho73; rw [List.map_append]; exact h)⟩⟩
 rintro ⟨u7, v_4, M_4, v_5, M_5⟩ gG74 G74 _ hG74 ⟨rfl, ho_4, ho_5⟩
 try dsimp only at ho_4 ho_5
 refine g9 6 ?_
 refine W.sd 46 (fun h45 p45 => ?_) (fun h45 p45 => ?_)
 ·try dsimp only at p45
  refine g9 18 ?_
  refine WC.giveO ho_4 (pmC (pmC pr9)) (fun G75 hG75 hv75 => (WC.giveO (ho_5.mono hG75) (pmC (pmC pr9)) (fun G76 hG76 hv76 => (g9 5 ?_))))
  refine ⟨.inr rfl, [_, _], ⟨rfl, rfl, trivial⟩, Ms_s, ((List.sublist_append_left _ _).cons _).cons _, ?_⟩
  refine ⟨rfl, _, _, rfl, SlR.cast (hv75.mono hG76) (by rw [hA.last p45]), SlR.cast hv76 (by rw [hA.last p45])⟩
 try dsimp only at p45
 refine g9 9 ?_
 refine W.qcall (ZgE (hp_hR17.mono hG74) (hk_hR17.mono hG74)) rfl (g9 5 ?_)
 refine WC.cond rfl (fun h52 => ?_) (fun h52 => ?_)
 ·have h0 := t.right hA.mem p45; simp [h0] at h52
 have hrt := t.route hA.mem p45 k
 have hkl : x.n.kids.length ≤ 4000 := (t.sml.at (.inr (t.nd hA.mem).2.2)).1
 refine g9 7 ?_
 refine W.qcall (Zcc (hp_hR17.mono hG74) _ (YM (t.right hA.mem p45)).1) rfl (g9 3 ?_)
 refine WC.dw ((sr9.cons _).k9) (d9 [0, 1, 2] ?_)
 refine (hk_hR17.mono hG74).a2 (i := Ze x.n.pivots k) om9 (fun he77 hi78 => (WD.tk 3 rfl (Yu (i := Ze x.n.pivots k) Z8 ty3 (hk_hR17.mono hG74) rfl rfl ⟨om9, om9⟩) (d9 [4, 6, 7, 8] ?_)))
 refine WD.any [5, 9] (by kernel_rfl) rfl ⟨WD.ap ?_, WD.ap ?_, trivial⟩
 ·refine g9 1 ?_
  refine W.nn (WD.a1 9 rfl (W.qcall (Za3 (hp_hR17.mono hG74) _ ⟨om9, om9⟩) rfl (W.nn (WD.a1 10 rfl (W.qcall (Zap _ _ _ _ _ _) rfl (W.nn (d9 [11, 12] ?_)))))))
  refine WD.doneP (M' := ((b11, ce9 62 [sV ((Zb l x (Ze x.n.pivots k)).s).lo.b, sV ((Zb l x (Ze x.n.pivots k)).s).hi.b, .bool ((Zb l x (Ze x.n.pivots k)).s).opn]) :: (M_4 ++ (M_5 ++ (Ms_s ++ []))))) (by kernel_rfl) (sr9.cons _) pr9 (JV (Xg ?_))
  exact ⟨lec, (((Zb l x (Ze x.n.pivots k), P ++ [x], x.n.level) : Seat × List Seat × Int), v_4, M_4, v_5, M_5), ⟨(congrArg (Value.int .i64) (At.slot t hA.mem p45 k).symm), eqv, eqv, eqv, eqv, eqv, eqv, trivial⟩, ⟨rfl, (by simpa using ho_4), (by simpa using ho_5), hA.next t p45⟩, by have := (t.at hA.mem om9 (t.route hA.mem p45 k)).2.2.2; dsimp only; omega⟩
 refine W.qcall (Za3 (hp_hR17.mono hG74) _ ⟨om9, om9⟩) rfl (W.nn (WD.a1 5 rfl (g9 1 ?_)))
 refine W.nn (WD.a1 10 rfl (W.qcall (Zap _ _ _ _ _ _) rfl (W.nn (d9 [11, 12] ?_))))
 refine WD.doneP (M' := ((b11, ce9 62 [sV ((Zb l x (Ze x.n.pivots k)).s).lo.b, sV ((Zb l x (Ze x.n.pivots k)).s).hi.b, .bool ((Zb l x (Ze x.n.pivots k)).s).opn]) :: (M_4 ++ (M_5 ++ (Ms_s ++ []))))) (by kernel_rfl) (sr9.cons _) pr9 (JV (Xg ?_))
 exact ⟨lec, (((Zb l x (Ze x.n.pivots k), P ++ [x], x.n.level) : Seat × List Seat × Int), v_4, M_4, v_5, M_5), ⟨(congrArg (Value.int .i64) (At.slot t hA.mem p45 k).symm), eqv, eqv, eqv, eqv, eqv, eqv, trivial⟩, ⟨rfl, (by simpa using ho_4), (by simpa using ho_5), hA.next t p45⟩, by have := (t.at hA.mem om9 (t.route hA.mem p45 k)).2.2.2; dsimp only; omega⟩

theorem Zlr {G : GH} {b : Nat} {c : Cfg} {l : List Nd} {M : MH} (h : StR 60 4 3 189 139 b c G l M) (hr : l.length < c.slots.toNat) {cs : List Value} {x : Nd} (hx : NodeC G cs x) (k : Int) (hk : k = l.length) : Fc Tryz.prog 84 [pt9 b, .agg (List.toArray cs)] G M (fun v G' M' => v = .tuple #[iV k, iV 0] ∧ StR 60 4 3 189 139 b c G' (tk l x) M') :=
  (ZlR h hx).mono fun v G' M' _ ⟨e1, e2⟩ => by rw [Zjb hr] at e1 e2; exact ⟨by rw [e1, hk], e2⟩
theorem YA {G : GH} {b : Nat} {c : Cfg} {l : List Nd} {M : MH} (h : StR 60 4 3 189 139 b c G l M) {cs : List Value} {x : Nd} (hs : 0 ≤ x.slot ∧ x.slot < l.length) (hx : NodeC G cs x) : Fc Tryz.prog 140 [pt9 b, .agg (List.toArray cs)] G M (fun v G' M' => v = iV 0 ∧ StR 60 4 3 189 139 b c G' (l.set x.slot.toNat x) M') :=
  (ZuE h hx).mono fun v G' M' _ ⟨e1, e2⟩ => by rw [Ze4 hs] at e1 e2; exact ⟨e1, e2⟩
theorem StR.to {b : Nat} {c : Cfg} {G : GH} {l l' : List Nd} {M : MH} (h : StR 60 4 3 189 139 b c G l M) (e : l = l') : StR 60 4 3 189 139 b c G l' M := e ▸ h
theorem Zls {G : GH} {b_s : Nat} {c c2 : Cfg} {l : List Nd} {ss : List Seat} {Ms_s : MH} (h_s : StR 60 4 3 189 139 b_s c G l Ms_s) (t : Tree c2 l ss) :
    Fc Tryz.prog 149 [pt9 b_s] G Ms_s (fun v G' M' => v = iV (ZI c l).1 ∧ StR 60 4 3 189 139 b_s c G' (ZI c l).2 M') := by
 have hp0 := t.pos
 have hl100 := t.sml.1
 have hrn := t.rootn
 have hn0 : (Za l 0).slot = 0 := by rw [← hrn]; exact t.root0
 have hlvl := t.height
 rw [hrn] at hlvl
 have hlv0 := t.lvl t.root
 rw [hrn] at hlv0
 have hz0 : i64 0 := ⟨by decide, by decide⟩
 have hlv : i64 ((Za l 0).level + 1) := ⟨om9, om9⟩
 have hks : ∀ m ∈ (Za l 0).msgs, m.key.b.size < 140737488355328 := fun m hm => by rw [← hrn] at hm; have := (Y1 ((t.msgs t.root).2.1 m hm)).1; omega
 have hxi : i64 (l.length : Int) := ⟨om9, om9⟩
 have hyi : i64 ((l.length : Int) + 1) := ⟨om9, om9⟩
 refine Fc.go [.tmp 2] Tryz.func149 Tryz.ntmps149 rfl (fun w0 => (WC.perm (M' := (Ms_s ++ [])) (by simp) (g9 8 ?_)))
 refine W.call (Mp := Ms_s) (Zaq h_s _) rfl pr9 ?_
 intro v11 G8 Ms10 hG8 q9
 refine match q9 with | ⟨⟨_, e_13, ⟨_, _, _, _, _, _, _, _, e_14, hp_hR12, hk_hR12, hm_hR12, hr_hR12, hok_hR12⟩⟩, eeq9⟩ => ?_
 subst e_13
 subst e_14
 have eeq9 := eeq9.symm
 subst eeq9
 refine g9 3 ?_
 refine W.alloc Zm (fun b15 => (g9 11 ?_))
 refine WC.cn (fun h23 p23 => ?_) (fun h23 p23 => ?_)
 ·try dsimp only at p23
  exfalso; omega
 try dsimp only at p23
 refine g9 6 ?_
 refine W.call (Mp := []) (ZlD (nk9 hp_hR12 hk_hR12 hm_hR12 hr_hR12 hok_hR12) 0 0 (by assumption) (by assumption) hlv hks) rfl pr9 ?_
 intro _ G16 _ hG16 q20
 refine match q20 with | ⟨e_21, _, e_22, _, _, _, e_23, hv17, hv18, hv19⟩ => ?_
 subst e_21
 subst e_22
 subst e_23
 refine match hv17 with | ⟨_, _, _, _, _, _, _, _, e_24, hp_hv17, hk_hv17, hm_hv17, hr_hv17, hok_hv17⟩ => ?_
 subst e_24
 refine match hv18 with | ⟨_, _, _, _, _, _, _, _, e_25, hp_hv18, hk_hv18, hm_hv18, hr_hv18, hok_hv18⟩ => ?_
 subst e_25
 refine match hv19 with | ⟨_, _, _, _, _, _, _, _, e_26, hp_hv19, hk_hv19, hm_hv19, hr_hv19, hok_hv19⟩ => ?_
 subst e_26
 refine g9 5 ?_
 refine W.alloc Zm (fun b27 => (W.alloc Zm (fun b28 => (W.alloc Zm (fun b29 => (g9 12 ?_))))))
 refine WC.cond rfl (fun h32 => ?_) (fun h32 => ?_)
 ·refine g9 7 ?_
  refine ⟨.inr rfl, [_], ⟨rfl, trivial⟩, Ms_s, ((((List.sublist_append_left _ _).cons _).cons _).cons _).cons _, ?_⟩
  exact ⟨congrArg (fun p : Int × List Nd => Value.int .i64 p.1) (ZdM (by simpa using h32)).symm, StR.to (StR.mono lec h_s) (congrArg Prod.snd (ZdM (by simpa using h32))).symm⟩
 have hok : (Z0 (Za l 0) 0 0).2.2.2 = true := by simpa using h32
 obtain ⟨hs1, hs2, hs3⟩ := Zo6 (x := (l.length : Int)) (y := (l.length : Int) + 1) hok
 rw [hn0] at hs1
 refine g9 6 ?_
 refine W.call (Mp := Ms_s) (ZuH (StR.mono lec h_s)) rfl (pmC (pmC (pmC (pmC pr9)))) ?_
 intro v33 G30 Ms32 hG30 q31
 refine match q31 with | ⟨e_35, eeq31⟩ => ?_
 subst e_35
 have eeq31 := eeq31.symm
 subst eeq31
 refine W.perm (pmC (pmC (pmC (pmC pr9)))).symm (g9 3 ?_)
 refine WC.cd (fun h35 p35 => ?_) (fun h35 p35 => ?_)
 ·try dsimp only at p35
  refine g9 7 ?_
  refine ⟨.inr rfl, [_], ⟨rfl, trivial⟩, Ms_s, ((((List.sublist_append_left _ _).cons _).cons _).cons _).cons _, ?_⟩
  exact ⟨congrArg (fun p : Int × List Nd => Value.int .i64 p.1) (Zbl hok om9).symm, StR.to (StR.mono lec h_s) (congrArg Prod.snd (Zbl hok om9)).symm⟩
 try dsimp only at p35
 refine g9 6 ?_
 refine W.call (Mp := Ms_s) (Zlr (StR.mono lec h_s) om9 (nm9 lec hp_hR12 hk_hR12 hm_hR12 hr_hR12 hok_hR12) (l.length : Int) (by rfl)) rfl (pmC (pmC (pmC (pmC pr9)))) ?_
 intro v39 G36 Ms38 hG36 q37
 refine match q37 with | ⟨e_41, hR40⟩ => ?_
 subst e_41
 refine W.perm (pmC (pmC (pmC (pmC pr9)))).symm (g9 11 ?_)
 refine W.call (Mp := Ms38) (Zlr hR40 (by rw [ZaW]; omega) (nm9 lec hp_hR12 hk_hR12 hm_hR12 hr_hR12 hok_hR12) ((l.length : Int) + 1) (by rw [ZaW]; omega)) rfl (pmC (pmC (pmC (pmC pr9)))) ?_
 intro v45 G42 Ms44 hG42 q43
 refine match q43 with | ⟨e_47, hR46⟩ => ?_
 subst e_47
 refine W.perm (pmC (pmC (pmC (pmC pr9)))).symm (g9 12 ?_)
 refine W.call (Mp := []) (ZlD (nm9 lec hp_hR12 hk_hR12 hm_hR12 hr_hR12 hok_hR12) _ _ (by assumption) (by assumption) hlv hks) rfl pr9 ?_
 intro _ G48 _ hG48 q52
 refine match q52 with | ⟨e_53, _, e_54, _, _, _, e_55, hv49, hv50, hv51⟩ => ?_
 subst e_53
 subst e_54
 subst e_55
 refine match hv49 with | ⟨_, _, _, _, _, _, _, _, e_56, hp_hv49, hk_hv49, hm_hv49, hr_hv49, hok_hv49⟩ => ?_
 subst e_56
 refine match hv50 with | ⟨_, _, _, _, _, _, _, _, e_57, hp_hv50, hk_hv50, hm_hv50, hr_hv50, hok_hv50⟩ => ?_
 subst e_57
 refine match hv51 with | ⟨_, _, _, _, _, _, _, _, e_58, hp_hv51, hk_hv51, hm_hv51, hr_hv51, hok_hv51⟩ => ?_
 subst e_58
 refine g9 5 ?_
 refine W.alloc Zm (fun b59 => (W.alloc Zm (fun b60 => (W.alloc Zm (fun b61 => (g9 10 ?_))))))
 refine W.call (Mp := Ms44) (YA (StR.mono hG48 hR46) (by simp only [List.length_set, ZaW]; omega) (nk9 hp_hv49 hk_hv49 hm_hv49 hr_hv49 hok_hv49)) rfl (pmC (pmC (pmC (pmC (pmC (pmC (pmC pr9))))))) ?_
 intro v65 G62 Ms64 hG62 q63
 refine match q63 with | ⟨e_67, hR66⟩ => ?_
 subst e_67
 refine W.perm (pmC (pmC (pmC (pmC (pmC (pmC (pmC pr9))))))).symm (g9 6 ?_)
 refine W.call (Mp := Ms64) (YA hR66 (by simp only [List.length_set, ZaW]; omega) (nm9 hG62 hp_hv50 hk_hv50 hm_hv50 hr_hv50 hok_hv50)) rfl (pmC (pmC (pmC (pmC (pmC (pmC (pmC pr9))))))) ?_
 intro v71 G68 Ms70 hG68 q69
 refine match q69 with | ⟨e_73, hR72⟩ => ?_
 subst e_73
 refine W.perm (pmC (pmC (pmC (pmC (pmC (pmC (pmC pr9))))))).symm (g9 6 ?_)
 refine W.call (Mp := Ms70) (YA hR72 (by simp only [List.length_set, ZaW]; omega) (nm9 lec hp_hv51 hk_hv51 hm_hv51 hr_hv51 hok_hv51)) rfl (pmC (pmC (pmC (pmC (pmC (pmC (pmC pr9))))))) ?_
 intro v77 G74 Ms76 hG74 q75
 refine match q75 with | ⟨e_79, hR78⟩ => ?_
 subst e_79
 refine W.perm (pmC (pmC (pmC (pmC (pmC (pmC (pmC pr9))))))).symm (g9 4 ?_)
 refine ⟨.inr rfl, [_], ⟨rfl, trivial⟩, Ms76, (((((((List.sublist_append_left _ _).cons _).cons _).cons _).cons _).cons _).cons _).cons _, ?_⟩
 exact ⟨congrArg (fun p : Int × List Nd => Value.int .i64 p.1) (ZbT hok om9).symm, StR.to hR78 ((Zo7 om9 hs2 hs3 t.pos).trans (congrArg Prod.snd (ZbT hok om9)).symm)⟩

theorem Zts {G : GH} {b_s : Nat} {c : Cfg} {b_a : Nat} {a : List Nd × List Bool} {Ms_a : MH} (h_a : ArR Zv 60 4 3 189 b_a G a Ms_a) :
    Fc Tryz.prog 151 [pt9 b_s] G ((b_s, ce9 139 [iV c.fan, iV c.leaf, iV c.bud, iV c.slots, iV c.rest, pt9 b_a]) :: (Ms_a)) (fun v G' M' => v = .agg (List.toArray [iV c.fan, iV c.leaf, iV c.bud, iV c.slots, iV c.rest]) ∧ M' = (b_s, ce9 139 [iV c.fan, iV c.leaf, iV c.bud, iV c.slots, iV c.rest, pt9 b_a]) :: Ms_a) := by
 refine Fc.go [.cell 2 23] Tryz.func151 Tryz.ntmps151 rfl (fun w0 => (WC.perm (M' := ((b_s, ce9 139 [iV c.fan, iV c.leaf, iV c.bud, iV c.slots, iV c.rest, pt9 b_a]) :: (Ms_a ++ []))) (by simp) (g9 2 ?_)))
 refine W.alloc Zrw (fun b1 => (g9 6 ?_))
 refine W.ok (Xi Zan rfl rfl) (g9 15 ?_)
 refine ⟨.inr rfl, [_], ⟨⟨_, _, _, _, _, rfl, YI (i := 0) rfl, ZkU, (by simp), rfl, rfl⟩, trivial⟩, ((b_s, ce9 139 [iV c.fan, iV c.leaf, iV c.bud, iV c.slots, iV c.rest, pt9 b_a]) :: (Ms_a ++ [])), sr9.k9.cons _, ?_⟩
 exact ⟨rfl, congrArg _ (List.append_nil _)⟩

theorem JU {G : GH} {b : Nat} {c : Cfg} {l : List Nd} {M : MH} (h : StR 60 4 3 189 139 b c G l M) : Fc Tryz.prog 151 [pt9 b] G M (fun v G' M' => v = .agg (List.toArray [iV c.fan, iV c.leaf, iV c.bud, iV c.slots, iV c.rest]) ∧ M' = M) := by
  obtain ⟨hc, hl, b2, Ma, rfl, hA⟩ := h
  exact Zts (c := c) hA
theorem Ztt {G : GH} {b : Nat} {c : Cfg} {l : List Nd} {M : MH} (h : StR 60 4 3 189 139 b c G l M) {cs : List Value} {x : Nd} (hx : NodeC G cs x) : Fc Tryz.prog 84 [pt9 b, .agg (List.toArray cs)] G M (fun v G' M' => (l.length < c.slots.toNat ∧ v = .tuple #[iV (l.length : Int), iV 0] ∧ StR 60 4 3 189 139 b c G' (tk l x) M') ∨ (¬ l.length < c.slots.toNat ∧ v = .tuple #[iV 0, iV 4] ∧ StR 60 4 3 189 139 b c G' l M')) := by
  refine (ZlR h hx).mono fun v G' M' _ ⟨e1, e2⟩ => ?_
  by_cases hr : l.length < c.slots.toNat
  · rw [Zjb hr] at e1 e2; exact .inl ⟨hr, e1, e2⟩
  rw [Zh2 hr] at e1 e2; exact .inr ⟨hr, e1, e2⟩
theorem Ztu {G : GH} {b_s : Nat} {c c2 : Cfg} {l : List Nd} {ss : List Seat} {Ms_s : MH} (h_s : StR 60 4 3 189 139 b_s c G l Ms_s) (t : Tree c2 l ss) (p : Int) (i : Nat) (hi9 : i64 ((i : Nat) : Int)) :
    Fc Tryz.prog 193 [pt9 b_s, iV p, nt9 i] G Ms_s (fun v G' M' => v = iV (Xk c l p i).1 ∧ StR 60 4 3 189 139 b_s c G' (Xk c l p i).2 M') := by
 have hl100 := t.sml.1
 have hz0 : i64 0 := ⟨by decide, by decide⟩
 have hyi : i64 (l.length : Int) := ⟨om9, om9⟩
 have hi1 := hi9.1
 have hi2 := hi9.2
 refine Fc.go [.tmp 6] Tryz.func193 Tryz.ntmps193 rfl (fun w0 => (WC.perm (M' := (Ms_s ++ [])) (by simp) (g9 9 ?_)))
 refine W.ok (Xi Zan rfl rfl) (g9 9 ?_)
 refine W.call (Mp := Ms_s) (Zaq h_s _) rfl pr9 ?_
 intro v5 G2 Ms4 hG2 q3
 refine match q3 with | ⟨⟨_, e_7, ⟨_, _, _, _, _, _, _, _, e_8, hp_hR6, hk_hR6, hm_hR6, hr_hR6, hok_hR6⟩⟩, eeq3⟩ => ?_
 subst e_7
 subst e_8
 have eeq3 := eeq3.symm
 subst eeq3
 refine g9 3 ?_
 refine W.alloc Zm (fun b9 => (g9 10 ?_))
 refine W.sm 34 (fun h33 p33 => ?_) (fun h33 p33 => ?_)
 ·try dsimp only at p33
  refine g9 20 ?_
  refine ⟨.inr rfl, [_], ⟨rfl, trivial⟩, Ms_s, (List.sublist_append_left _ _).cons _, ?_⟩
  have hE := ZaH (c := c) (l := l) (p := p) (i := i) (.inl (by simp at h33; omega))
  exact ⟨congrArg (fun q : Int × List Nd => Value.int .i64 q.1) hE.symm, StR.to (StR.mono hG2 h_s) (congrArg Prod.snd hE).symm⟩
 try dsimp only at p33
 have h1 : 0 ≤ p ∧ p < (l.length : Int) := by simpa using h33
 refine g9 6 ?_
 refine W.sd 38 (fun h36 p36 => ?_) (fun h36 p36 => ?_)
 ·try dsimp only at p36
  exfalso; omega
 try dsimp only at p36
 refine g9 13 ?_
 refine WC.cd (fun h43 p43 => ?_) (fun h43 p43 => ?_)
 ·try dsimp only at p43
  refine g9 7 ?_
  refine ⟨.inr rfl, [_], ⟨rfl, trivial⟩, Ms_s, (List.sublist_append_left _ _).cons _, ?_⟩
  have hE := ZaH (c := c) (l := l) (p := p) (i := i) (.inr (.inl om9))
  exact ⟨congrArg (fun q : Int × List Nd => Value.int .i64 q.1) hE.symm, StR.to (StR.mono hG2 h_s) (congrArg Prod.snd hE).symm⟩
 try dsimp only at p43
 have h2 : ¬ (Za l p).kids.length ≤ i := by omega
 have hkd : (Za l p).kids[i]'om9 = kdN l p i := by unfold kdN; rw [List.getD_eq_getElem?_getD, List.getElem?_eq_getElem om9]; rfl
 refine g9 8 ?_
 refine hk_hR6.a2 (i := i) om9 (fun he10 hi11 => (g9 2 ?_))
 refine W.call (Mp := Ms_s) (Zaq (StR.mono hG2 h_s) (kdN l p i)) (congrArg (fun k : Int => [_, Value.int .i64 k]) hkd) (pmC pr9) ?_
 intro v17 G14 Ms16 hG14 q15
 refine match q15 with | ⟨⟨_, e_19, ⟨_, _, _, _, _, _, _, _, e_20, hp_hR18, hk_hR18, hm_hR18, hr_hR18, hok_hR18⟩⟩, eeq15⟩ => ?_
 subst e_19
 subst e_20
 have eeq15 := eeq15.symm
 subst eeq15
 refine W.perm (pmC pr9).symm (g9 3 ?_)
 refine W.alloc Zm (fun b21 => (g9 13 ?_))
 refine WC.cn (fun h57 p57 => ?_) (fun h57 p57 => ?_)
 ·try dsimp only at p57
  refine g9 8 ?_
  refine ⟨.inr rfl, [_], ⟨rfl, trivial⟩, Ms_s, ((List.sublist_append_left _ _).cons _).cons _, ?_⟩
  have hE := ZaH (c := c) (l := l) (p := p) (i := i) (.inr (.inr (by simp at h57; omega)))
  exact ⟨congrArg (fun q : Int × List Nd => Value.int .i64 q.1) hE.symm, StR.to (StR.mono lec h_s) (congrArg Prod.snd hE).symm⟩
 try dsimp only at p57
 have h3 : 0 ≤ kdN l p i ∧ kdN l p i < (l.length : Int) := by simpa using h57
 have hkm := Yv t.slot h3
 have hpm := Yv t.slot h1
 have hks : ∀ m ∈ (Za l (kdN l p i)).msgs, m.key.b.size < 140737488355328 := fun m hm => by have := ((t.sml.2 _ hkm.2).2.2.2.2.2.1 m hm).1; omega
 have hz9 : (Za l p).pivots.length ≤ 1000000 ∧ (Za l p).kids.length ≤ 1000000 := by have := t.sml.2 _ hpm.2; exact ⟨by have := this.2.1; omega, by have := this.1; omega⟩
 refine WC.seq (WC.dw (sn9.k9.k9) (d9 [0, 2] ?_))
 refine WD.a1 1 rfl (W.call (Mp := Ms_s) (JU (StR.mono lec h_s)) rfl (pmC (pmC pr9)) ?_)
 intro v25 G22 Ms24 hG22 q23
 refine match q23 with | ⟨e_27, eeq23⟩ => ?_
 subst e_27
 have eeq23 := eeq23.symm
 subst eeq23
 refine W.perm (pmC (pmC pr9)).symm (W.nn (WD.a1 3 rfl (W.qcall (ZcY _ _ _ _ _ (nm9 lec hp_hR6 hk_hR6 hm_hR6 hr_hR6 hok_hR6)) rfl (W.nn (d9 [4] ?_)))))
 refine g9 2 ?_
 refine WC.cond rfl (fun h62 => ?_) (fun h62 => ?_)
 ·refine g9 8 ?_
  refine ⟨.inr rfl, [_], ⟨rfl, trivial⟩, Ms_s, ((List.sublist_append_left _ _).cons _).cons _, ?_⟩
  have hE := ZfD (c := c) h1 h2 h3 (by simpa using h62)
  exact ⟨congrArg (fun q : Int × List Nd => Value.int .i64 q.1) hE.symm, StR.to (StR.mono lec h_s) (congrArg Prod.snd hE).symm⟩
 have h4 : ZF c (Za l p) = false := by simpa using h62
 refine g9 6 ?_
 refine W.cM (ZgM (nm9 hG22 hp_hR18 hk_hR18 hm_hR18 hr_hR18 hok_hR18) 0 hz0 hks) rfl (fun _ _ _ _ _ _ _ _ _ _ _ _ _ _ _ _ G28 hG28 hp_hv29 hk_hv29 hm_hv29 hr_hv29 hok_hv29 hp_hv30 hk_hv30 hm_hv30 hr_hv30 hok_hv30 => (g9 5 ?_))
 refine W.alloc Zm (fun b37 => (W.alloc Zm (fun b38 => (g9 12 ?_))))
 refine W.call (Mp := []) (ZlN (nm9 lec hp_hR6 hk_hR6 hm_hR6 hr_hR6 hok_hR6) i (Zo (Za l (kdN l p i)) 0).2.2.1 0 hz9 hi9 hz0) rfl pr9 ?_
 intro _ G39 _ hG39 q41
 refine match q41 with | ⟨e_42, _, e_43, _, e_44, hv40⟩ => ?_
 subst e_42
 subst e_43
 subst e_44
 refine match hv40 with | ⟨_, _, _, _, _, _, _, _, e_45, hp_hv40, hk_hv40, hm_hv40, hr_hv40, hok_hv40⟩ => ?_
 subst e_45
 refine g9 3 ?_
 refine W.alloc Zm (fun b46 => (g9 9 ?_))
 refine W.sp 79 rfl (fun h78 => ?_) (fun h78 => ?_)
 ·refine g9 13 ?_
  refine ⟨.inr rfl, [_], ⟨rfl, trivial⟩, Ms_s, (((((List.sublist_append_left _ _).cons _).cons _).cons _).cons _).cons _, ?_⟩
  have hE := ZbU (c := c) h1 h2 h3 h4 (.inl (by unfold ZR; rw [Zje _ _ 0]; simpa using h78))
  exact ⟨congrArg (fun q : Int × List Nd => Value.int .i64 q.1) hE.symm, StR.to (StR.mono lec h_s) (congrArg Prod.snd hE).symm⟩
 have h5 : (ZR l p i).2.2.2 = true := by unfold ZR; rw [Zje _ _ 0]; simpa using h78
 refine g9 7 ?_
 refine WC.cond rfl (fun h81 => ?_) (fun h81 => ?_)
 ·refine g9 7 ?_
  refine ⟨.inr rfl, [_], ⟨rfl, trivial⟩, Ms_s, (((((List.sublist_append_left _ _).cons _).cons _).cons _).cons _).cons _, ?_⟩
  have hE := ZbU (c := c) h1 h2 h3 h4 (.inr (by unfold adP ZR; rw [ZfC _ _ 0, Zjf _ _ _ _ 0]; simpa using h81))
  exact ⟨congrArg (fun q : Int × List Nd => Value.int .i64 q.1) hE.symm, StR.to (StR.mono lec h_s) (congrArg Prod.snd hE).symm⟩
 have h6 : (adP l p i).2 = true := by unfold adP ZR; rw [ZfC _ _ 0, Zjf _ _ _ _ 0]; simpa using h81
 have hcs := ZfE h5
 have hs1 : (Zo (Za l (kdN l p i)) (l.length : Int)).1.slot = kdN l p i := hcs.1.trans hkm.1
 have hs3 : (Zo (Za l (kdN l p i)) (l.length : Int)).2.1.slot = (l.length : Int) := hcs.2
 have hs2 : 0 ≤ (Zo (Za l (kdN l p i)) (l.length : Int)).1.slot ∧ (Zo (Za l (kdN l p i)) (l.length : Int)).1.slot < (l.length : Int) := by rw [hs1]; exact h3
 have e9 : adP l p i = (Y9 (Za l p) i (Zo (Za l (kdN l p i)) 0).2.2.1 (l.length : Int)) := by unfold adP ZR; rw [ZfC _ _ 0]
 have hs4 : (Y9 (Za l p) i (Zo (Za l (kdN l p i)) 0).2.2.1 (l.length : Int)).1.slot = p := by rw [← e9]; exact (Zjg h6).trans hpm.1
 have hlst : ((l.set (Zo (Za l (kdN l p i)) (l.length : Int)).1.slot.toNat (Zo (Za l (kdN l p i)) (l.length : Int)).1).set p.toNat (Y9 (Za l p) i (Zo (Za l (kdN l p i)) 0).2.2.1 (l.length : Int)).1) ++ [(Zo (Za l (kdN l p i)) (l.length : Int)).2.1] = Jz l p i := by unfold Jz; rw [e9]; rfl
 refine g9 6 ?_
 refine W.call (Mp := Ms_s) (Ztt (StR.mono lec h_s) (nm9 lec hp_hR18 hk_hR18 hm_hR18 hr_hR18 hok_hR18)) rfl (pmC (pmC (pmC (pmC (pmC pr9))))) ?_
 intro v50 G47 Ms49 hG47 q48
 refine Or.elim q48 (fun q51 => ?_) (fun q52 => ?_)
 ·refine match q51 with | ⟨hrm, e_53, hR9⟩ => ?_
  subst e_53
  refine W.perm (pmC (pmC (pmC (pmC (pmC pr9))))).symm (g9 21 ?_)
  refine W.cM (ZgM (nm9 lec hp_hR18 hk_hR18 hm_hR18 hr_hR18 hok_hR18) (l.length : Int) hyi hks) rfl (fun _ _ _ _ _ _ _ _ _ _ _ _ _ _ _ _ G54 hG54 hp_hv55 hk_hv55 hm_hv55 hr_hv55 hok_hv55 hp_hv56 hk_hv56 hm_hv56 hr_hv56 hok_hv56 => (g9 5 ?_))
  refine W.alloc Zm (fun b63 => (W.alloc Zm (fun b64 => (g9 12 ?_))))
  refine W.call (Mp := []) (ZlN ⟨_, _, _, _, _, _, _, _, rfl, (hp_hR6.mono lec), (hk_hR6.mono lec), (hm_hR6.mono lec), (hr_hR6.mono lec), hok_hR6⟩ i (Zo (Za l (kdN l p i)) 0).2.2.1 (l.length : Int) hz9 hi9 hyi) rfl pr9 ?_
  intro _ G65 _ hG65 q67
  refine match q67 with | ⟨e_68, _, e_69, _, e_70, hv66⟩ => ?_
  subst e_68
  subst e_69
  subst e_70
  refine match hv66 with | ⟨_, _, _, _, _, _, _, _, e_71, hp_hv66, hk_hv66, hm_hv66, hr_hv66, hok_hv66⟩ => ?_
  subst e_71
  refine g9 3 ?_
  refine W.alloc Zm (fun b72 => (g9 8 ?_))
  refine W.call (Mp := Ms49) (YA (StR.mono lec hR9) (by simp only [List.length_set, ZaW]; omega) (nm9 hG65 hp_hv55 hk_hv55 hm_hv55 hr_hv55 hok_hv55)) rfl (pmC (pmC (pmC (pmC (pmC (pmC (pmC (pmC pr9)))))))) ?_
  intro v76 G73 Ms75 hG73 q74
  refine match q74 with | ⟨e_78, hR77⟩ => ?_
  subst e_78
  refine W.perm (pmC (pmC (pmC (pmC (pmC (pmC (pmC (pmC pr9)))))))).symm (g9 6 ?_)
  refine W.call (Mp := Ms75) (YA hR77 (by simp only [List.length_set, ZaW]; omega) (nm9 lec hp_hv56 hk_hv56 hm_hv56 hr_hv56 hok_hv56)) rfl (pmC (pmC (pmC (pmC (pmC (pmC (pmC (pmC pr9)))))))) ?_
  intro v82 G79 Ms81 hG79 q80
  refine match q80 with | ⟨e_84, hR83⟩ => ?_
  subst e_84
  refine W.perm (pmC (pmC (pmC (pmC (pmC (pmC (pmC (pmC pr9)))))))).symm (g9 6 ?_)
  refine W.call (Mp := Ms81) (YA hR83 (by simp only [List.length_set, ZaW]; omega) (nm9 lec hp_hv66 hk_hv66 hm_hv66 hr_hv66 hok_hv66)) rfl (pmC (pmC (pmC (pmC (pmC (pmC (pmC (pmC pr9)))))))) ?_
  intro v88 G85 Ms87 hG85 q86
  refine match q86 with | ⟨e_90, hR89⟩ => ?_
  subst e_90
  refine W.perm (pmC (pmC (pmC (pmC (pmC (pmC (pmC (pmC pr9)))))))).symm (g9 4 ?_)
  refine ⟨.inr rfl, [_], ⟨rfl, trivial⟩, Ms87, ((((((((List.sublist_append_left _ _).cons _).cons _).cons _).cons _).cons _).cons _).cons _).cons _, ?_⟩
  have hE := (ZdO (c := c) h1 h2 h3 h4 h5 h6 om9)
  exact ⟨congrArg (fun q : Int × List Nd => Value.int .i64 q.1) hE.symm, StR.to hR89 ((Zo9 hs2 hs3 hs4 h1).trans ((hlst).trans (congrArg Prod.snd hE).symm))⟩
 refine match q52 with | ⟨hrm, e_91, hR9⟩ => ?_
 subst e_91
 refine W.perm (pmC (pmC (pmC (pmC (pmC pr9))))).symm (g9 23 ?_)
 refine ⟨.inr rfl, [_], ⟨rfl, trivial⟩, Ms49, (((((List.sublist_append_left _ _).cons _).cons _).cons _).cons _).cons _, ?_⟩
 have hE := ZdN (c := c) h1 h2 h3 h4 h5 h6 om9
 exact ⟨congrArg (fun q : Int × List Nd => Value.int .i64 q.1) hE.symm, StR.to hR9 (congrArg Prod.snd hE).symm⟩

theorem Ztv {G : GH} {b_s : Nat} {c c2 : Cfg} {l : List Nd} {ss : List Seat} {Ms_s : MH} (h_s : StR 60 4 3 189 139 b_s c G l Ms_s) (t : Tree c2 l ss) (p : Int) (i : Int) (hn9 : i < 0) :
    Fc Tryz.prog 193 [pt9 b_s, iV p, iV i] G Ms_s (fun v G' M' => M' = Ms_s ∧ v = iV 8) := by
 refine Fc.go [.tmp 6] Tryz.func193 Tryz.ntmps193 rfl (fun w0 => (WC.perm (M' := (Ms_s ++ [])) (by simp) (g9 9 ?_)))
 refine W.ok (Xi Zan rfl rfl) (g9 9 ?_)
 refine W.call (Mp := Ms_s) (Zaq h_s _) rfl pr9 ?_
 intro v4 G1 Ms3 hG1 q2
 refine match q2 with | ⟨⟨_, e_6, ⟨_, _, _, _, _, _, _, _, e_7, hp_hR5, hk_hR5, hm_hR5, hr_hR5, hok_hR5⟩⟩, eeq2⟩ => ?_
 subst e_6
 subst e_7
 have eeq2 := eeq2.symm
 subst eeq2
 refine g9 3 ?_
 refine W.alloc Zm (fun b8 => (g9 10 ?_))
 refine W.sm 34 (fun h33 p33 => ?_) (fun h33 p33 => ?_)
 ·refine g9 20 ?_
  refine ⟨.inr rfl, [_], ⟨rfl, trivial⟩, Ms_s, (List.sublist_append_left _ _).cons _, ?_⟩
  exact ⟨rfl, rfl⟩
 refine g9 6 ?_
 refine W.sd 38 (fun h36 p36 => ?_) (fun h36 p36 => ?_)
 ·refine g9 16 ?_
  refine ⟨.inr rfl, [_], ⟨rfl, trivial⟩, Ms_s, (List.sublist_append_left _ _).cons _, ?_⟩
  exact ⟨rfl, rfl⟩
 exfalso; omega

theorem Ztw {G : GH} {b : Nat} {c c2 : Cfg} {l : List Nd} {ss : List Seat} {M : MH} (h : StR 60 4 3 189 139 b c G l M) (t : Tree c2 l ss) (p i : Int) (hi : i64 i) : Fc Tryz.prog 193 [pt9 b, iV p, iV i] G M (fun v G' M' => v = iV (ZD c l p i).1 ∧ StR 60 4 3 189 139 b c G' (ZD c l p i).2 M') := by
  by_cases hn : i < 0
  · refine (Ztv h t p i hn).mono fun v G' M' hle ⟨e1, e2⟩ => ?_
    subst e1
    unfold ZD
    rw [if_pos hn]
    exact ⟨e2, h.mono hle⟩
  obtain ⟨n, rfl⟩ : ∃ n : Nat, i = (n : Int) := ⟨i.toNat, om9⟩
  have h0 := Ztu h t p n hi
  unfold ZD
  rw [if_neg hn]
  exact h0
theorem Ztx {G : GH} {b : Nat} {c : Cfg} {l : List Nd} {M : MH} (h : StR 60 4 3 189 139 b c G l M) (a i : Int) : Fc Tryz.prog 67 [pt9 b, iV ((Za l a).kids.getD i.toNat 0)] G M (fun v G' M' => (∃ cs, v = .tuple #[.agg (List.toArray cs), .bool (decide (0 ≤ (Za l a).kids.getD i.toNat 0 ∧ (Za l a).kids.getD i.toNat 0 < (l.length : Int)))] ∧ NodeC G' cs (Zh l a i)) ∧ M' = M) := Zaq h _
theorem Zty {G : GH} {b_s : Nat} {c c2 : Cfg} {l : List Nd} {ss : List Seat} {Ms_s : MH} (h_s : StR 60 4 3 189 139 b_s c G l Ms_s) (t : Tree c2 l ss) {a : Int} {cs_n : List Value} (h_n : NodeC G cs_n (Za l a)) (i : Int) (hc9 : c = c2) (ha : 0 ≤ a ∧ a < (l.length : Int)) (h0 : ¬ (Za l a).level = 0) (hi : 0 ≤ i ∧ i < ((Za l a).kids.length : Int)) (hi9 : i64 i) :
    Fc Tryz.prog 152 [pt9 b_s, .agg (List.toArray cs_n), iV i] G Ms_s (fun v G' M' => v = .tuple #[iV (Xu c l a i).1.1, iV (Xu c l a i).1.2.1, iV (Xu c l a i).1.2.2] ∧ StR 60 4 3 189 139 b_s c G' (Xu c l a i).2 M') := by
 obtain ⟨_, _, _, _, _, _, _, _, rfl, hp_n, hk_n, hm_n, hr_n, hok_n⟩ := h_n
 subst hc9
 obtain ⟨P, s⟩ := Jn t ha h0 hi
 have hPR := (t.seat s.mem).1
 have hKm := (t.at s.mem s.h0 (j := i.toNat) (by have := s.hi; omega)).1
 have hKR := (t.seat hKm).1
 rw [s.n] at hPR
 rw [s.kid] at hKR
 have hsl : (Za l a).slot = a := (Yv t.slot ha).1
 have hPS := t.sml.2 _ (Yv t.slot ha).2
 have hKS := t.sml.2 _ (Yv t.slot s.kin).2
 have hPD : NdS (Za l a) := Zbm t.cfg hPR
 have hKD : NdS (Zh l a i) := Zbm t.cfg hKR
 have hcb9 : c.bud ≤ 9223372036854775807 := by have := t.cfg.2.2.1.2; omega
 have hq : PourPre c.bud (Za l a) (Zh l a i) := Zp8 hPR hKR h0 hPD hKD hcb9
 have hin9 : (Za l a).innerR c.fan c.bud := by have h4 := hPR.2.2.2; rwa [if_neg h0] at h4
 have hms := hin9.2.2.1
 have hkl := (YM hin9.2.1).2
 have hi91 := hi9.1
 have hi92 := hi9.2
 have hlk9 : ((Za l a).kids.length : Int) ≤ 4000 := by have := hPD.1; omega
 have hkd : (Za l a).kids[i.toNat]'om9 = ((Za l a).kids.getD i.toNat 0) := by rw [List.getD_eq_getElem?_getD, List.getElem?_eq_getElem om9]; rfl
 refine Fc.go [.tmp 6, .tmp 7, .tmp 8] Tryz.func152 Tryz.ntmps152 rfl (fun w0 => (WC.perm (M' := (Ms_s ++ [])) (by simp) (g9 2 ?_)))
 refine W.box (L := [iV _, iV _, lV _ _ _, lV _ _ _, sV _, .bool _, iV _, iV _, lV _ _ _, lV _ _ _]) rfl rfl (fun b1 => (g9 15 ?_))
 refine WC.cd (fun h19 p19 => ?_) (fun h19 p19 => ?_)
 ·try dsimp only at p19
  exfalso; omega
 try dsimp only at p19
 refine g9 8 ?_
 refine hk_n.a2 (i := i.toNat) om9 (fun he2 hi3 => (W.ok (Yu (i := i.toNat) Z8 ty3 hk_n rfl rfl ⟨om9, om9⟩) (g9 1 ?_)))
 refine W.call (Mp := Ms_s) (Ztx h_s a i) (congrArg (fun k : Int => [_, Value.int .i64 k]) hkd) (pmC pr9) ?_
 intro v9 G6 Ms8 hG6 q7
 refine match q7 with | ⟨⟨_, e_11, ⟨_, _, _, _, _, _, _, _, e_12, hp_hR10, hk_hR10, hm_hR10, hr_hR10, hok_hR10⟩⟩, eeq7⟩ => ?_
 subst e_11
 subst e_12
 have eeq7 := eeq7.symm
 subst eeq7
 refine W.perm (pmC pr9).symm (g9 3 ?_)
 refine W.alloc Zm (fun b13 => (g9 11 ?_))
 refine WC.cn (fun h33 p33 => ?_) (fun h33 p33 => ?_)
 ·try dsimp only at p33
  exact absurd s.kin p33
 try dsimp only at p33
 refine g9 3 ?_
 refine WC.dw (sn9.k9.k9) (d9 [0, 2, 3, 4] ?_)
 refine WD.a1 1 rfl (W.call (Mp := Ms_s) (JU (StR.mono hG6 h_s)) rfl (pmC (pmC pr9)) ?_)
 intro v17 G14 Ms16 hG14 q15
 refine match q15 with | ⟨e_19, eeq15⟩ => ?_
 subst e_19
 have eeq15 := eeq15.symm
 subst eeq15
 refine W.perm (pmC (pmC pr9)).symm (W.nn (WD.a1 5 rfl (W.qcall (ZtV c.fan c.leaf c.bud c.slots c.rest (p := (Za l a)) (k := (Zh l a i)) (nm9 lec hp_n hk_n hm_n hr_n hok_n) (nm9 hG14 hp_hR10 hk_hR10 hm_hR10 hr_hR10 hok_hR10) i hq hi9 s.kof hms hkl) rfl (W.nn (d9 [6] ?_)))))
 refine g9 15 ?_
 refine WC.cd (fun h44 p44 => ?_) (fun h44 p44 => ?_)
 ·try dsimp only at p44
  refine g9 6 ?_
  refine W.call (Mp := Ms_s) (Ztw (StR.mono lec h_s) t a i hi9) (congrArg (fun k : Int => [_, Value.int .i64 k, _]) hsl) (pmC (pmC pr9)) ?_
  intro v23 G20 Ms22 hG20 q21
  refine match q21 with | ⟨e_25, hR24⟩ => ?_
  subst e_25
  refine W.perm (pmC (pmC pr9)).symm (g9 9 ?_)
  refine WC.cn (fun h51 p51 => ?_) (fun h51 p51 => ?_)
  ·try dsimp only at p51
   refine g9 13 ?_
   refine ⟨.inr rfl, [_, _, _], ⟨rfl, rfl, rfl, trivial⟩, Ms22, ((List.sublist_append_left _ _).cons _).cons _, ?_⟩
   have hE := XW p44 p51
   exact ⟨Xv hE rfl hsl rfl, StR.to hR24 (congrArg Prod.snd hE).symm⟩
  try dsimp only at p51
  refine g9 14 ?_
  refine ⟨.inr rfl, [_, _, _], ⟨rfl, rfl, rfl, trivial⟩, Ms22, ((List.sublist_append_left _ _).cons _).cons _, ?_⟩
  have hE := XV p44 om9
  exact ⟨Xv hE p44 hsl rfl, StR.to hR24 (congrArg Prod.snd hE).symm⟩
 try dsimp only at p44
 refine g9 6 ?_
 refine WC.cd (fun h56 p56 => ?_) (fun h56 p56 => ?_)
 ·try dsimp only at p56
  have p56c : ZV c (Za l a) (Zh l a i) i = 4 := p56
  have hcp : 0 < ZS c.leaf c.bud (Za l a) (Zh l a i) i := by rcases XK c (Za l a) (Zh l a i) i with h9 | h9 | ⟨_, h9⟩ | h9; omega; omega; exact h9; omega
  have hpq9 := s.pour t hcp
  obtain ⟨T9, hpo⟩ := hpq9
  have hsA : 0 ≤ (ZW c.leaf c.bud (Za l a) (Zh l a i) i).1.slot ∧ (ZW c.leaf c.bud (Za l a) (Zh l a i) i).1.slot < (l.length : Int) := by rw [hpo.al.1]; exact hpo.sin hpo.mem
  have hsB : 0 ≤ (ZW c.leaf c.bud (Za l a) (Zh l a i) i).2.1.slot ∧ (ZW c.leaf c.bud (Za l a) (Zh l a i) i).2.1.slot < (l.length : Int) := by rw [hpo.bl.1]; exact hpo.sin hpo.km.1
  refine WC.seq (WC.dw (sn9.k9.k9) (d9 [0, 2, 3, 4] ?_))
  refine WD.any [1, 10, 11] (by kernel_rfl) rfl ⟨WD.ap ?_, WD.ap ?_, WD.ap ?_, trivial⟩
  ·refine W.call (Mp := Ms_s) (JU (StR.mono lec h_s)) rfl (pmC (pmC pr9)) ?_
   intro v29 G26 Ms28 hG26 q27
   refine match q27 with | ⟨e_31, eeq27⟩ => ?_
   subst e_31
   have eeq27 := eeq27.symm
   subst eeq27
   refine W.perm (pmC (pmC pr9)).symm (W.nn ?_)
   refine WD.any [5, 10, 11] (by kernel_rfl) rfl ⟨WD.ap ?_, WD.ap ?_, WD.ap ?_, trivial⟩
   ·refine W.cM (Zaa c.fan c.leaf c.bud c.slots c.rest (p := (Za l a)) (k := (Zh l a i)) (nm9 lec hp_n hk_n hm_n hr_n hok_n) (nm9 lec hp_hR10 hk_hR10 hm_hR10 hr_hR10 hok_hR10) i hq.hb hq.hr hq.hpv hq.hpm hq.hkm hq.hkr hi9 hq.hsz) rfl (fun _ _ _ _ _ _ _ _ _ _ _ _ _ _ _ _ G32 hG32 hp_hv33 hk_hv33 hm_hv33 hr_hv33 hok_hv33 hp_hv34 hk_hv34 hm_hv34 hr_hv34 hok_hv34 => (W.nn (d9 [6, 7, 8, 9] ?_)))
    refine WD.any [10, 11] (by kernel_rfl) rfl ⟨WD.ap ?_, WD.ap ?_, trivial⟩
    ·refine W.alloc Zm (fun b41 => (W.nn (WD.a1 11 rfl (W.alloc Zm (fun b42 => (W.nn (d9 [12, 13, 14] ?_)))))))
     refine g9 6 ?_
     refine W.call (Mp := Ms_s) (YA (StR.mono lec h_s) (by exact hsA) (nk9 hp_hv33 hk_hv33 hm_hv33 hr_hv33 hok_hv33)) rfl (pmC (pmC (pmC (pmC pr9)))) ?_
     intro v46 G43 Ms45 hG43 q44
     refine match q44 with | ⟨e_48, hR47⟩ => ?_
     subst e_48
     refine W.perm (pmC (pmC (pmC (pmC pr9)))).symm (g9 5 ?_)
     refine W.call (Mp := Ms45) (YA hR47 (by rw [List.length_set]; exact hsB) (nm9 hG43 hp_hv34 hk_hv34 hm_hv34 hr_hv34 hok_hv34)) rfl (pmC (pmC (pmC (pmC pr9)))) ?_
     intro v52 G49 Ms51 hG49 q50
     refine match q50 with | ⟨e_54, hR53⟩ => ?_
     subst e_54
     refine W.perm (pmC (pmC (pmC (pmC pr9)))).symm (g9 14 ?_)
     refine ⟨.inr rfl, [_, _, _], ⟨rfl, rfl, rfl, trivial⟩, Ms51, ((((List.sublist_append_left _ _).cons _).cons _).cons _).cons _, ?_⟩
     have hE := YO p56
     exact ⟨Xv hE p56 hsl rfl, StR.to hR53 (congrArg Prod.snd hE).symm⟩
    refine W.alloc Zm (fun b55 => (W.nn (WD.a1 10 rfl (W.alloc Zm (fun b56 => (W.nn (d9 [12, 13, 14] ?_)))))))
    refine g9 6 ?_
    refine W.call (Mp := Ms_s) (YA (StR.mono lec h_s) (by exact hsA) (nk9 hp_hv33 hk_hv33 hm_hv33 hr_hv33 hok_hv33)) rfl (pmC (pmC (pmC (pmC pr9)))) ?_
    intro v60 G57 Ms59 hG57 q58
    refine match q58 with | ⟨e_62, hR61⟩ => ?_
    subst e_62
    refine W.perm (pmC (pmC (pmC (pmC pr9)))).symm (g9 5 ?_)
    refine W.call (Mp := Ms59) (YA hR61 (by rw [List.length_set]; exact hsB) (nm9 hG57 hp_hv34 hk_hv34 hm_hv34 hr_hv34 hok_hv34)) rfl (pmC (pmC (pmC (pmC pr9)))) ?_
    intro v66 G63 Ms65 hG63 q64
    refine match q64 with | ⟨e_68, hR67⟩ => ?_
    subst e_68
    refine W.perm (pmC (pmC (pmC (pmC pr9)))).symm (g9 14 ?_)
    refine ⟨.inr rfl, [_, _, _], ⟨rfl, rfl, rfl, trivial⟩, Ms65, ((((List.sublist_append_left _ _).cons _).cons _).cons _).cons _, ?_⟩
    have hE := YO p56
    exact ⟨Xv hE p56 hsl rfl, StR.to hR67 (congrArg Prod.snd hE).symm⟩
   ·refine W.alloc Zm (fun b69 => (W.nn ?_))
    refine WD.any [5, 11] (by kernel_rfl) rfl ⟨WD.ap ?_, WD.ap ?_, trivial⟩
    ·refine W.cM (Zaa c.fan c.leaf c.bud c.slots c.rest (p := (Za l a)) (k := (Zh l a i)) (nm9 lec hp_n hk_n hm_n hr_n hok_n) (nm9 lec hp_hR10 hk_hR10 hm_hR10 hr_hR10 hok_hR10) i hq.hb hq.hr hq.hpv hq.hpm hq.hkm hq.hkr hi9 hq.hsz) rfl (fun _ _ _ _ _ _ _ _ _ _ _ _ _ _ _ _ G70 hG70 hp_hv71 hk_hv71 hm_hv71 hr_hv71 hok_hv71 hp_hv72 hk_hv72 hm_hv72 hr_hv72 hok_hv72 => (W.nn (d9 [6, 7, 8, 9] ?_)))
     refine WD.a1 11 rfl (W.alloc Zm (fun b79 => (W.nn (d9 [12, 13, 14] ?_))))
     refine g9 6 ?_
     refine W.call (Mp := Ms_s) (YA (StR.mono lec h_s) (by exact hsA) (nk9 hp_hv71 hk_hv71 hm_hv71 hr_hv71 hok_hv71)) rfl (pmC (pmC (pmC (pmC pr9)))) ?_
     intro v83 G80 Ms82 hG80 q81
     refine match q81 with | ⟨e_85, hR84⟩ => ?_
     subst e_85
     refine W.perm (pmC (pmC (pmC (pmC pr9)))).symm (g9 5 ?_)
     refine W.call (Mp := Ms82) (YA hR84 (by rw [List.length_set]; exact hsB) (nm9 hG80 hp_hv72 hk_hv72 hm_hv72 hr_hv72 hok_hv72)) rfl (pmC (pmC (pmC (pmC pr9)))) ?_
     intro v89 G86 Ms88 hG86 q87
     refine match q87 with | ⟨e_91, hR90⟩ => ?_
     subst e_91
     refine W.perm (pmC (pmC (pmC (pmC pr9)))).symm (g9 14 ?_)
     refine ⟨.inr rfl, [_, _, _], ⟨rfl, rfl, rfl, trivial⟩, Ms88, ((((List.sublist_append_left _ _).cons _).cons _).cons _).cons _, ?_⟩
     have hE := YO p56
     exact ⟨Xv hE p56 hsl rfl, StR.to hR90 (congrArg Prod.snd hE).symm⟩
    refine W.alloc Zm (fun b92 => (W.nn (WD.a1 5 rfl (W.cM (Zaa c.fan c.leaf c.bud c.slots c.rest (p := (Za l a)) (k := (Zh l a i)) (nm9 lec hp_n hk_n hm_n hr_n hok_n) (nm9 lec hp_hR10 hk_hR10 hm_hR10 hr_hR10 hok_hR10) i hq.hb hq.hr hq.hpv hq.hpm hq.hkm hq.hkr hi9 hq.hsz) rfl (fun _ _ _ _ _ _ _ _ _ _ _ _ _ _ _ _ G93 hG93 hp_hv94 hk_hv94 hm_hv94 hr_hv94 hok_hv94 hp_hv95 hk_hv95 hm_hv95 hr_hv95 hok_hv95 => (W.nn (d9 [6, 7, 8, 9, 12, 13, 14] ?_)))))))
    refine g9 6 ?_
    refine W.call (Mp := Ms_s) (YA (StR.mono lec h_s) (by exact hsA) (nk9 hp_hv94 hk_hv94 hm_hv94 hr_hv94 hok_hv94)) rfl (pmC (pmC (pmC (pmC pr9)))) ?_
    intro v105 G102 Ms104 hG102 q103
    refine match q103 with | ⟨e_107, hR106⟩ => ?_
    subst e_107
    refine W.perm (pmC (pmC (pmC (pmC pr9)))).symm (g9 5 ?_)
    refine W.call (Mp := Ms104) (YA hR106 (by rw [List.length_set]; exact hsB) (nm9 hG102 hp_hv95 hk_hv95 hm_hv95 hr_hv95 hok_hv95)) rfl (pmC (pmC (pmC (pmC pr9)))) ?_
    intro v111 G108 Ms110 hG108 q109
    refine match q109 with | ⟨e_113, hR112⟩ => ?_
    subst e_113
    refine W.perm (pmC (pmC (pmC (pmC pr9)))).symm (g9 14 ?_)
    refine ⟨.inr rfl, [_, _, _], ⟨rfl, rfl, rfl, trivial⟩, Ms110, ((((List.sublist_append_left _ _).cons _).cons _).cons _).cons _, ?_⟩
    have hE := YO p56
    exact ⟨Xv hE p56 hsl rfl, StR.to hR112 (congrArg Prod.snd hE).symm⟩
   refine W.alloc Zm (fun b114 => (W.nn ?_))
   refine WD.any [5, 10] (by kernel_rfl) rfl ⟨WD.ap ?_, WD.ap ?_, trivial⟩
   ·refine W.cM (Zaa c.fan c.leaf c.bud c.slots c.rest (p := (Za l a)) (k := (Zh l a i)) (nm9 lec hp_n hk_n hm_n hr_n hok_n) (nm9 lec hp_hR10 hk_hR10 hm_hR10 hr_hR10 hok_hR10) i hq.hb hq.hr hq.hpv hq.hpm hq.hkm hq.hkr hi9 hq.hsz) rfl (fun _ _ _ _ _ _ _ _ _ _ _ _ _ _ _ _ G115 hG115 hp_hv116 hk_hv116 hm_hv116 hr_hv116 hok_hv116 hp_hv117 hk_hv117 hm_hv117 hr_hv117 hok_hv117 => (W.nn (d9 [6, 7, 8, 9] ?_)))
    refine WD.a1 10 rfl (W.alloc Zm (fun b124 => (W.nn (d9 [12, 13, 14] ?_))))
    refine g9 6 ?_
    refine W.call (Mp := Ms_s) (YA (StR.mono lec h_s) (by exact hsA) (nk9 hp_hv116 hk_hv116 hm_hv116 hr_hv116 hok_hv116)) rfl (pmC (pmC (pmC (pmC pr9)))) ?_
    intro v128 G125 Ms127 hG125 q126
    refine match q126 with | ⟨e_130, hR129⟩ => ?_
    subst e_130
    refine W.perm (pmC (pmC (pmC (pmC pr9)))).symm (g9 5 ?_)
    refine W.call (Mp := Ms127) (YA hR129 (by rw [List.length_set]; exact hsB) (nm9 hG125 hp_hv117 hk_hv117 hm_hv117 hr_hv117 hok_hv117)) rfl (pmC (pmC (pmC (pmC pr9)))) ?_
    intro v134 G131 Ms133 hG131 q132
    refine match q132 with | ⟨e_136, hR135⟩ => ?_
    subst e_136
    refine W.perm (pmC (pmC (pmC (pmC pr9)))).symm (g9 14 ?_)
    refine ⟨.inr rfl, [_, _, _], ⟨rfl, rfl, rfl, trivial⟩, Ms133, ((((List.sublist_append_left _ _).cons _).cons _).cons _).cons _, ?_⟩
    have hE := YO p56
    exact ⟨Xv hE p56 hsl rfl, StR.to hR135 (congrArg Prod.snd hE).symm⟩
   refine W.alloc Zm (fun b137 => (W.nn (WD.a1 5 rfl (W.cM (Zaa c.fan c.leaf c.bud c.slots c.rest (p := (Za l a)) (k := (Zh l a i)) (nm9 lec hp_n hk_n hm_n hr_n hok_n) (nm9 lec hp_hR10 hk_hR10 hm_hR10 hr_hR10 hok_hR10) i hq.hb hq.hr hq.hpv hq.hpm hq.hkm hq.hkr hi9 hq.hsz) rfl (fun _ _ _ _ _ _ _ _ _ _ _ _ _ _ _ _ G138 hG138 hp_hv139 hk_hv139 hm_hv139 hr_hv139 hok_hv139 hp_hv140 hk_hv140 hm_hv140 hr_hv140 hok_hv140 => (W.nn (d9 [6, 7, 8, 9, 12, 13, 14] ?_)))))))
   refine g9 6 ?_
   refine W.call (Mp := Ms_s) (YA (StR.mono lec h_s) (by exact hsA) (nk9 hp_hv139 hk_hv139 hm_hv139 hr_hv139 hok_hv139)) rfl (pmC (pmC (pmC (pmC pr9)))) ?_
   intro v150 G147 Ms149 hG147 q148
   refine match q148 with | ⟨e_152, hR151⟩ => ?_
   subst e_152
   refine W.perm (pmC (pmC (pmC (pmC pr9)))).symm (g9 5 ?_)
   refine W.call (Mp := Ms149) (YA hR151 (by rw [List.length_set]; exact hsB) (nm9 hG147 hp_hv140 hk_hv140 hm_hv140 hr_hv140 hok_hv140)) rfl (pmC (pmC (pmC (pmC pr9)))) ?_
   intro v156 G153 Ms155 hG153 q154
   refine match q154 with | ⟨e_158, hR157⟩ => ?_
   subst e_158
   refine W.perm (pmC (pmC (pmC (pmC pr9)))).symm (g9 14 ?_)
   refine ⟨.inr rfl, [_, _, _], ⟨rfl, rfl, rfl, trivial⟩, Ms155, ((((List.sublist_append_left _ _).cons _).cons _).cons _).cons _, ?_⟩
   have hE := YO p56
   exact ⟨Xv hE p56 hsl rfl, StR.to hR157 (congrArg Prod.snd hE).symm⟩
  ·refine W.alloc Zm (fun b159 => (W.nn ?_))
   refine WD.any [1, 11] (by kernel_rfl) rfl ⟨WD.ap ?_, WD.ap ?_, trivial⟩
   ·refine W.call (Mp := Ms_s) (JU (StR.mono lec h_s)) rfl (pmC (pmC (pmC pr9))) ?_
    intro v163 G160 Ms162 hG160 q161
    refine match q161 with | ⟨e_165, eeq161⟩ => ?_
    subst e_165
    have eeq161 := eeq161.symm
    subst eeq161
    refine W.perm (pmC (pmC (pmC pr9))).symm (W.nn ?_)
    refine WD.any [5, 11] (by kernel_rfl) rfl ⟨WD.ap ?_, WD.ap ?_, trivial⟩
    ·refine W.cM (Zaa c.fan c.leaf c.bud c.slots c.rest (p := (Za l a)) (k := (Zh l a i)) (nm9 lec hp_n hk_n hm_n hr_n hok_n) (nm9 lec hp_hR10 hk_hR10 hm_hR10 hr_hR10 hok_hR10) i hq.hb hq.hr hq.hpv hq.hpm hq.hkm hq.hkr hi9 hq.hsz) rfl (fun _ _ _ _ _ _ _ _ _ _ _ _ _ _ _ _ G166 hG166 hp_hv167 hk_hv167 hm_hv167 hr_hv167 hok_hv167 hp_hv168 hk_hv168 hm_hv168 hr_hv168 hok_hv168 => (W.nn (d9 [6, 7, 8, 9] ?_)))
     refine WD.a1 11 rfl (W.alloc Zm (fun b175 => (W.nn (d9 [12, 13, 14] ?_))))
     refine g9 6 ?_
     refine W.call (Mp := Ms_s) (YA (StR.mono lec h_s) (by exact hsA) (nk9 hp_hv167 hk_hv167 hm_hv167 hr_hv167 hok_hv167)) rfl (pmC (pmC (pmC (pmC pr9)))) ?_
     intro v179 G176 Ms178 hG176 q177
     refine match q177 with | ⟨e_181, hR180⟩ => ?_
     subst e_181
     refine W.perm (pmC (pmC (pmC (pmC pr9)))).symm (g9 5 ?_)
     refine W.call (Mp := Ms178) (YA hR180 (by rw [List.length_set]; exact hsB) (nm9 hG176 hp_hv168 hk_hv168 hm_hv168 hr_hv168 hok_hv168)) rfl (pmC (pmC (pmC (pmC pr9)))) ?_
     intro v185 G182 Ms184 hG182 q183
     refine match q183 with | ⟨e_187, hR186⟩ => ?_
     subst e_187
     refine W.perm (pmC (pmC (pmC (pmC pr9)))).symm (g9 14 ?_)
     refine ⟨.inr rfl, [_, _, _], ⟨rfl, rfl, rfl, trivial⟩, Ms184, ((((List.sublist_append_left _ _).cons _).cons _).cons _).cons _, ?_⟩
     have hE := YO p56
     exact ⟨Xv hE p56 hsl rfl, StR.to hR186 (congrArg Prod.snd hE).symm⟩
    refine W.alloc Zm (fun b188 => (W.nn (WD.a1 5 rfl (W.cM (Zaa c.fan c.leaf c.bud c.slots c.rest (p := (Za l a)) (k := (Zh l a i)) (nm9 lec hp_n hk_n hm_n hr_n hok_n) (nm9 lec hp_hR10 hk_hR10 hm_hR10 hr_hR10 hok_hR10) i hq.hb hq.hr hq.hpv hq.hpm hq.hkm hq.hkr hi9 hq.hsz) rfl (fun _ _ _ _ _ _ _ _ _ _ _ _ _ _ _ _ G189 hG189 hp_hv190 hk_hv190 hm_hv190 hr_hv190 hok_hv190 hp_hv191 hk_hv191 hm_hv191 hr_hv191 hok_hv191 => (W.nn (d9 [6, 7, 8, 9, 12, 13, 14] ?_)))))))
    refine g9 6 ?_
    refine W.call (Mp := Ms_s) (YA (StR.mono lec h_s) (by exact hsA) (nk9 hp_hv190 hk_hv190 hm_hv190 hr_hv190 hok_hv190)) rfl (pmC (pmC (pmC (pmC pr9)))) ?_
    intro v201 G198 Ms200 hG198 q199
    refine match q199 with | ⟨e_203, hR202⟩ => ?_
    subst e_203
    refine W.perm (pmC (pmC (pmC (pmC pr9)))).symm (g9 5 ?_)
    refine W.call (Mp := Ms200) (YA hR202 (by rw [List.length_set]; exact hsB) (nm9 hG198 hp_hv191 hk_hv191 hm_hv191 hr_hv191 hok_hv191)) rfl (pmC (pmC (pmC (pmC pr9)))) ?_
    intro v207 G204 Ms206 hG204 q205
    refine match q205 with | ⟨e_209, hR208⟩ => ?_
    subst e_209
    refine W.perm (pmC (pmC (pmC (pmC pr9)))).symm (g9 14 ?_)
    refine ⟨.inr rfl, [_, _, _], ⟨rfl, rfl, rfl, trivial⟩, Ms206, ((((List.sublist_append_left _ _).cons _).cons _).cons _).cons _, ?_⟩
    have hE := YO p56
    exact ⟨Xv hE p56 hsl rfl, StR.to hR208 (congrArg Prod.snd hE).symm⟩
   refine W.alloc Zm (fun b210 => (W.nn (WD.a1 1 rfl (W.call (Mp := Ms_s) (JU (StR.mono lec h_s)) rfl (pmC (pmC (pmC (pmC pr9)))) ?_))))
   intro v214 G211 Ms213 hG211 q212
   refine match q212 with | ⟨e_216, eeq212⟩ => ?_
   subst e_216
   have eeq212 := eeq212.symm
   subst eeq212
   refine W.perm (pmC (pmC (pmC (pmC pr9)))).symm (W.nn (WD.a1 5 rfl (W.cM (Zaa c.fan c.leaf c.bud c.slots c.rest (p := (Za l a)) (k := (Zh l a i)) (nm9 lec hp_n hk_n hm_n hr_n hok_n) (nm9 lec hp_hR10 hk_hR10 hm_hR10 hr_hR10 hok_hR10) i hq.hb hq.hr hq.hpv hq.hpm hq.hkm hq.hkr hi9 hq.hsz) rfl (fun _ _ _ _ _ _ _ _ _ _ _ _ _ _ _ _ G217 hG217 hp_hv218 hk_hv218 hm_hv218 hr_hv218 hok_hv218 hp_hv219 hk_hv219 hm_hv219 hr_hv219 hok_hv219 => (W.nn (d9 [6, 7, 8, 9, 12, 13, 14] ?_))))))
   refine g9 6 ?_
   refine W.call (Mp := Ms_s) (YA (StR.mono lec h_s) (by exact hsA) (nk9 hp_hv218 hk_hv218 hm_hv218 hr_hv218 hok_hv218)) rfl (pmC (pmC (pmC (pmC pr9)))) ?_
   intro v229 G226 Ms228 hG226 q227
   refine match q227 with | ⟨e_231, hR230⟩ => ?_
   subst e_231
   refine W.perm (pmC (pmC (pmC (pmC pr9)))).symm (g9 5 ?_)
   refine W.call (Mp := Ms228) (YA hR230 (by rw [List.length_set]; exact hsB) (nm9 hG226 hp_hv219 hk_hv219 hm_hv219 hr_hv219 hok_hv219)) rfl (pmC (pmC (pmC (pmC pr9)))) ?_
   intro v235 G232 Ms234 hG232 q233
   refine match q233 with | ⟨e_237, hR236⟩ => ?_
   subst e_237
   refine W.perm (pmC (pmC (pmC (pmC pr9)))).symm (g9 14 ?_)
   refine ⟨.inr rfl, [_, _, _], ⟨rfl, rfl, rfl, trivial⟩, Ms234, ((((List.sublist_append_left _ _).cons _).cons _).cons _).cons _, ?_⟩
   have hE := YO p56
   exact ⟨Xv hE p56 hsl rfl, StR.to hR236 (congrArg Prod.snd hE).symm⟩
  refine W.alloc Zm (fun b238 => (W.nn ?_))
  refine WD.any [1, 10] (by kernel_rfl) rfl ⟨WD.ap ?_, WD.ap ?_, trivial⟩
  ·refine W.call (Mp := Ms_s) (JU (StR.mono lec h_s)) rfl (pmC (pmC (pmC pr9))) ?_
   intro v242 G239 Ms241 hG239 q240
   refine match q240 with | ⟨e_244, eeq240⟩ => ?_
   subst e_244
   have eeq240 := eeq240.symm
   subst eeq240
   refine W.perm (pmC (pmC (pmC pr9))).symm (W.nn ?_)
   refine WD.any [5, 10] (by kernel_rfl) rfl ⟨WD.ap ?_, WD.ap ?_, trivial⟩
   ·refine W.cM (Zaa c.fan c.leaf c.bud c.slots c.rest (p := (Za l a)) (k := (Zh l a i)) (nm9 lec hp_n hk_n hm_n hr_n hok_n) (nm9 lec hp_hR10 hk_hR10 hm_hR10 hr_hR10 hok_hR10) i hq.hb hq.hr hq.hpv hq.hpm hq.hkm hq.hkr hi9 hq.hsz) rfl (fun _ _ _ _ _ _ _ _ _ _ _ _ _ _ _ _ G245 hG245 hp_hv246 hk_hv246 hm_hv246 hr_hv246 hok_hv246 hp_hv247 hk_hv247 hm_hv247 hr_hv247 hok_hv247 => (W.nn (d9 [6, 7, 8, 9] ?_)))
    refine WD.a1 10 rfl (W.alloc Zm (fun b254 => (W.nn (d9 [12, 13, 14] ?_))))
    refine g9 6 ?_
    refine W.call (Mp := Ms_s) (YA (StR.mono lec h_s) (by exact hsA) (nk9 hp_hv246 hk_hv246 hm_hv246 hr_hv246 hok_hv246)) rfl (pmC (pmC (pmC (pmC pr9)))) ?_
    intro v258 G255 Ms257 hG255 q256
    refine match q256 with | ⟨e_260, hR259⟩ => ?_
    subst e_260
    refine W.perm (pmC (pmC (pmC (pmC pr9)))).symm (g9 5 ?_)
    refine W.call (Mp := Ms257) (YA hR259 (by rw [List.length_set]; exact hsB) (nm9 hG255 hp_hv247 hk_hv247 hm_hv247 hr_hv247 hok_hv247)) rfl (pmC (pmC (pmC (pmC pr9)))) ?_
    intro v264 G261 Ms263 hG261 q262
    refine match q262 with | ⟨e_266, hR265⟩ => ?_
    subst e_266
    refine W.perm (pmC (pmC (pmC (pmC pr9)))).symm (g9 14 ?_)
    refine ⟨.inr rfl, [_, _, _], ⟨rfl, rfl, rfl, trivial⟩, Ms263, ((((List.sublist_append_left _ _).cons _).cons _).cons _).cons _, ?_⟩
    have hE := YO p56
    exact ⟨Xv hE p56 hsl rfl, StR.to hR265 (congrArg Prod.snd hE).symm⟩
   refine W.alloc Zm (fun b267 => (W.nn (WD.a1 5 rfl (W.cM (Zaa c.fan c.leaf c.bud c.slots c.rest (p := (Za l a)) (k := (Zh l a i)) (nm9 lec hp_n hk_n hm_n hr_n hok_n) (nm9 lec hp_hR10 hk_hR10 hm_hR10 hr_hR10 hok_hR10) i hq.hb hq.hr hq.hpv hq.hpm hq.hkm hq.hkr hi9 hq.hsz) rfl (fun _ _ _ _ _ _ _ _ _ _ _ _ _ _ _ _ G268 hG268 hp_hv269 hk_hv269 hm_hv269 hr_hv269 hok_hv269 hp_hv270 hk_hv270 hm_hv270 hr_hv270 hok_hv270 => (W.nn (d9 [6, 7, 8, 9, 12, 13, 14] ?_)))))))
   refine g9 6 ?_
   refine W.call (Mp := Ms_s) (YA (StR.mono lec h_s) (by exact hsA) (nk9 hp_hv269 hk_hv269 hm_hv269 hr_hv269 hok_hv269)) rfl (pmC (pmC (pmC (pmC pr9)))) ?_
   intro v280 G277 Ms279 hG277 q278
   refine match q278 with | ⟨e_282, hR281⟩ => ?_
   subst e_282
   refine W.perm (pmC (pmC (pmC (pmC pr9)))).symm (g9 5 ?_)
   refine W.call (Mp := Ms279) (YA hR281 (by rw [List.length_set]; exact hsB) (nm9 hG277 hp_hv270 hk_hv270 hm_hv270 hr_hv270 hok_hv270)) rfl (pmC (pmC (pmC (pmC pr9)))) ?_
   intro v286 G283 Ms285 hG283 q284
   refine match q284 with | ⟨e_288, hR287⟩ => ?_
   subst e_288
   refine W.perm (pmC (pmC (pmC (pmC pr9)))).symm (g9 14 ?_)
   refine ⟨.inr rfl, [_, _, _], ⟨rfl, rfl, rfl, trivial⟩, Ms285, ((((List.sublist_append_left _ _).cons _).cons _).cons _).cons _, ?_⟩
   have hE := YO p56
   exact ⟨Xv hE p56 hsl rfl, StR.to hR287 (congrArg Prod.snd hE).symm⟩
  refine W.alloc Zm (fun b289 => (W.nn (WD.a1 1 rfl (W.call (Mp := Ms_s) (JU (StR.mono lec h_s)) rfl (pmC (pmC (pmC (pmC pr9)))) ?_))))
  intro v293 G290 Ms292 hG290 q291
  refine match q291 with | ⟨e_295, eeq291⟩ => ?_
  subst e_295
  have eeq291 := eeq291.symm
  subst eeq291
  refine W.perm (pmC (pmC (pmC (pmC pr9)))).symm (W.nn (WD.a1 5 rfl (W.cM (Zaa c.fan c.leaf c.bud c.slots c.rest (p := (Za l a)) (k := (Zh l a i)) (nm9 lec hp_n hk_n hm_n hr_n hok_n) (nm9 lec hp_hR10 hk_hR10 hm_hR10 hr_hR10 hok_hR10) i hq.hb hq.hr hq.hpv hq.hpm hq.hkm hq.hkr hi9 hq.hsz) rfl (fun _ _ _ _ _ _ _ _ _ _ _ _ _ _ _ _ G296 hG296 hp_hv297 hk_hv297 hm_hv297 hr_hv297 hok_hv297 hp_hv298 hk_hv298 hm_hv298 hr_hv298 hok_hv298 => (W.nn (d9 [6, 7, 8, 9, 12, 13, 14] ?_))))))
  refine g9 6 ?_
  refine W.call (Mp := Ms_s) (YA (StR.mono lec h_s) (by exact hsA) (nk9 hp_hv297 hk_hv297 hm_hv297 hr_hv297 hok_hv297)) rfl (pmC (pmC (pmC (pmC pr9)))) ?_
  intro v308 G305 Ms307 hG305 q306
  refine match q306 with | ⟨e_310, hR309⟩ => ?_
  subst e_310
  refine W.perm (pmC (pmC (pmC (pmC pr9)))).symm (g9 5 ?_)
  refine W.call (Mp := Ms307) (YA hR309 (by rw [List.length_set]; exact hsB) (nm9 hG305 hp_hv298 hk_hv298 hm_hv298 hr_hv298 hok_hv298)) rfl (pmC (pmC (pmC (pmC pr9)))) ?_
  intro v314 G311 Ms313 hG311 q312
  refine match q312 with | ⟨e_316, hR315⟩ => ?_
  subst e_316
  refine W.perm (pmC (pmC (pmC (pmC pr9)))).symm (g9 14 ?_)
  refine ⟨.inr rfl, [_, _, _], ⟨rfl, rfl, rfl, trivial⟩, Ms313, ((((List.sublist_append_left _ _).cons _).cons _).cons _).cons _, ?_⟩
  have hE := YO p56
  exact ⟨Xv hE p56 hsl rfl, StR.to hR315 (congrArg Prod.snd hE).symm⟩
 try dsimp only at p56
 refine g9 6 ?_
 refine WC.cd (fun h74 p74 => ?_) (fun h74 p74 => ?_)
 ·try dsimp only at p74
  refine g9 13 ?_
  refine ⟨.inr rfl, [_, _, _], ⟨rfl, rfl, rfl, trivial⟩, Ms_s, ((List.sublist_append_left _ _).cons _).cons _, ?_⟩
  have hE := XX p74
  exact ⟨Xv hE p74 rfl rfl, StR.to (StR.mono lec h_s) (congrArg Prod.snd hE).symm⟩
 try dsimp only at p74
 refine g9 14 ?_
 refine ⟨.inr rfl, [_, _, _], ⟨rfl, rfl, rfl, trivial⟩, Ms_s, ((List.sublist_append_left _ _).cons _).cons _, ?_⟩
 have hE := Jm (Zjm p44 p56 p74)
 exact ⟨Xv hE (Zjm p44 p56 p74) hsl rfl, StR.to (StR.mono lec h_s) (congrArg Prod.snd hE).symm⟩

theorem Ztz {G : GH} {b_s : Nat} {c c2 : Cfg} {l : List Nd} {ss : List Seat} {Ms_s : MH} (h_s : StR 60 4 3 189 139 b_s c G l Ms_s) (t : Tree c2 l ss) (a : Int) (k : Str) (hc9 : c = c2) (ha : 0 ≤ a ∧ a < (l.length : Int)) :
    Fc Tryz.prog 106 [pt9 b_s, iV a, sV k.b] G Ms_s (fun v G' M' => v = .tuple #[iV (Zs c l a k).1.1, iV (Zs c l a k).1.2.1, iV (Zs c l a k).1.2.2] ∧ StR 60 4 3 189 139 b_s c G' (Zs c l a k).2 M') := by
 subst hc9
 have hc9 : c = c := rfl
 obtain ⟨P9, hP9, eP9⟩ := t.seat_of ha
 have hPR := (t.seat hP9).1
 rw [eP9] at hPR
 have hPD : NdS (Za l a) := Zbm t.cfg hPR
 have hcp : ChoosePre (Za l a) := Zpk hPR hPD
 have hlk9 : ((Za l a).kids.length : Int) ≤ 4000 := by have := hPD.1; omega
 refine Fc.go [.tmp 6, .tmp 7, .tmp 8] Tryz.func106 Tryz.ntmps106 rfl (fun w0 => (WC.perm (M' := (Ms_s ++ [])) (by simp) (g9 11 ?_)))
 refine W.ok (Xi Zan rfl rfl) (g9 9 ?_)
 refine W.call (Mp := Ms_s) (Zaq h_s a) rfl pr9 ?_
 intro v12 G9 Ms11 hG9 q10
 refine match q10 with | ⟨⟨_, e_14, ⟨_, _, _, _, _, _, _, _, e_15, hp_hR13, hk_hR13, hm_hR13, hr_hR13, hok_hR13⟩⟩, eeq10⟩ => ?_
 subst e_14
 subst e_15
 have eeq10 := eeq10.symm
 subst eeq10
 refine g9 3 ?_
 refine W.alloc Zm (fun b16 => (g9 11 ?_))
 refine WC.cn (fun h23 p23 => ?_) (fun h23 p23 => ?_)
 ·try dsimp only at p23
  exact absurd ha p23
 try dsimp only at p23
 refine g9 3 ?_
 refine WC.dw sn9.k9 (d9 [0, 2, 3] ?_)
 refine WD.a1 1 rfl (W.call (Mp := Ms_s) (JU (StR.mono hG9 h_s)) rfl (pmC pr9) ?_)
 intro v20 G17 Ms19 hG17 q18
 refine match q18 with | ⟨e_22, eeq18⟩ => ?_
 subst e_22
 have eeq18 := eeq18.symm
 subst eeq18
 refine W.perm (pmC pr9).symm (W.nn (WD.a1 4 rfl (W.qcall (ZtU c.fan c.leaf c.bud c.slots c.rest (n := (Za l a)) (nm9 hG17 hp_hR13 hk_hR13 hm_hR13 hr_hR13 hok_hR13) k hcp) rfl (W.nn (d9 [5, 6, 7, 8, 9] ?_)))))
 refine g9 15 ?_
 refine WC.cd (fun h35 p35 => ?_) (fun h35 p35 => ?_)
 ·try dsimp only at p35
  refine g9 3 ?_
  refine W.call (Mp := Ms_s) (Zls (StR.mono lec h_s) t) rfl (pmC pr9) ?_
  intro v26 G23 Ms25 hG23 q24
  refine match q24 with | ⟨e_28, hR27⟩ => ?_
  subst e_28
  refine W.perm (pmC pr9).symm (g9 9 ?_)
  refine WC.cn (fun h39 p39 => ?_) (fun h39 p39 => ?_)
  ·try dsimp only at p39
   refine g9 12 ?_
   refine ⟨.inr rfl, [_, _, _], ⟨rfl, rfl, rfl, trivial⟩, Ms25, (List.sublist_append_left _ _).cons _, ?_⟩
   have hE := Ja p35 p39
   exact ⟨Xv hE rfl rfl rfl, StR.to hR27 (congrArg Prod.snd hE).symm⟩
  try dsimp only at p39
  refine g9 13 ?_
  refine ⟨.inr rfl, [_, _, _], ⟨rfl, rfl, rfl, trivial⟩, Ms25, (List.sublist_append_left _ _).cons _, ?_⟩
  have hE := X9 p35 om9
  exact ⟨Xv hE p35 rfl rfl, StR.to hR27 (congrArg Prod.snd hE).symm⟩
 try dsimp only at p35
 refine g9 6 ?_
 refine WC.cd (fun h43 p43 => ?_) (fun h43 p43 => ?_)
 ·try dsimp only at p43
  have hch := JA (k := k) t ha p43
  refine g9 5 ?_
  refine W.call (Mp := Ms_s) (Zty (StR.mono lec h_s) t (a := a) (nm9 hG17 hp_hR13 hk_hR13 hm_hR13 hr_hR13 hok_hR13) (Zw c (Za l a) k).2 hc9 ha hch.1 hch.2 ⟨by have := hch.2; omega, by have := hch.2; omega⟩) rfl (pmC pr9) ?_
  intro v32 G29 Ms31 hG29 q30
  refine match q30 with | ⟨e_34, hR33⟩ => ?_
  subst e_34
  refine W.perm (pmC pr9).symm (g9 11 ?_)
  refine ⟨.inr rfl, [_, _, _], ⟨rfl, rfl, rfl, trivial⟩, Ms31, (List.sublist_append_left _ _).cons _, ?_⟩
  have hE := XU p43
  exact ⟨congrArg (fun q : (Int × Int × Int) × List Nd => Value.tuple #[iV q.1.1, iV q.1.2.1, iV q.1.2.2]) hE.symm, StR.to hR33 (congrArg Prod.snd hE).symm⟩
 try dsimp only at p43
 refine g9 13 ?_
 refine ⟨.inr rfl, [_, _, _], ⟨rfl, rfl, rfl, trivial⟩, Ms_s, (List.sublist_append_left _ _).cons _, ?_⟩
 have hE := X8 (Zjn p35 p43)
 exact ⟨Xv hE (Zjn p35 p43) rfl rfl, StR.to (StR.mono lec h_s) (congrArg Prod.snd hE).symm⟩

theorem Zlt {G : GH} {b_s : Nat} {c c2 : Cfg} {l : List Nd} {ss : List Seat} {Ms_s : MH} (h_s : StR 60 4 3 189 139 b_s c G l Ms_s) (t : Tree c2 l ss) (k : Str) (hc9 : c = c2) (N : Nat) (r : Int × Int × List Nd) (hr : Ym c k N l 0 0 = some r) (hN : N ≤ 1000000) :
    Fc Tryz.prog 49 [pt9 b_s, sV k.b] G Ms_s (fun v G' M' => v = .tuple #[iV r.1, iV r.2.1] ∧ StR 60 4 3 189 139 b_s c G' r.2.2 M') := by
 subst hc9
 have htp := t.pos
 refine Fc.go [.tmp 4, .tmp 5] Tryz.func49 Tryz.ntmps49 rfl (fun w0 => (WC.perm (M' := (Ms_s ++ [])) (by simp) (g9 17 ?_)))
 refine WC.loop (X := (Nat × List Nd × Int × Int) × MH) (fun x => [(6, iV x.1.2.2.2), (7, iV x.1.2.2.1), (1, sV k.b), (0, pt9 b_s)]) (fun x G Ml => Ml = (x.2 ++ []) ∧ StR 60 4 3 189 139 b_s c G (x.1.2.1) x.2 ∧ Ym c k x.1.1 x.1.2.1 x.1.2.2.1 x.1.2.2.2 = some r ∧ (∃ T, Tree c x.1.2.1 T) ∧ (0 ≤ x.1.2.2.1 ∧ x.1.2.2.1 < (x.1.2.1.length : Int)) ∧ 0 ≤ x.1.2.2.2 ∧ x.1.2.2.2 + (x.1.1 : Int) ≤ 1000000) (fun x => x.1.1) (((N, l, 0, 0) : Nat × List Nd × Int × Int), Ms_s) hs9 ?_ ?_
 ·exact ⟨rfl, (by exact h_s), hr, ⟨ss, t⟩, ⟨by dsimp only; omega, by dsimp only; omega⟩, by dsimp only; omega, by dsimp only; omega⟩
 rintro ⟨⟨m, L, a, n⟩, M_0⟩ gG1 G1 _ hG1 ⟨rfl, ho_0, hcy, hTr, haL, hn0, hnm⟩
 try dsimp only at ho_0 hcy hTr haL hn0 hnm
 obtain ⟨T8, t9⟩ := hTr
 have hm1 : 0 < m := by
   rcases Nat.eq_zero_or_pos m with h | h
   · rw [h] at hcy; cases hcy
   exact h
 rw [show m = m - 1 + 1 by omega] at hcy
 have hnx := Zaj t9 haL k
 obtain ⟨T9, hT9, hmp9⟩ := J8 t9 haL k
 refine WC.fr (f := ZX gG1 [(6, iV n), (7, iV a), (1, sV k.b), (0, pt9 b_s)]) rfl (g9 6 ?_)
 refine W.call (Mp := M_0) (Ztz ho_0 t9 a k rfl haL) rfl pr9 ?_
 intro v5 G2 Ms4 hG2 q3
 refine match q3 with | ⟨e_7, hR6⟩ => ?_
 subst e_7
 refine g9 22 ?_
 refine WC.cd (fun h23 p23 => ?_) (fun h23 p23 => ?_)
 ·try dsimp only at p23
  refine g9 14 ?_
  refine ⟨.inr rfl, [_, _], ⟨rfl, rfl, trivial⟩, Ms4, List.sublist_append_left _ _, ?_⟩
  have hE := Option.some.inj ((Y2 p23).symm.trans hcy)
  exact ⟨congrArg (fun q : Int × Int × List Nd => Value.tuple #[iV q.1, iV q.2.1]) hE, StR.to hR6 (congrArg (fun q : Int × Int × List Nd => q.2.2) hE)⟩
 try dsimp only at p23
 refine g9 6 ?_
 refine WC.cd (fun h27 p27 => ?_) (fun h27 p27 => ?_)
 ·try dsimp only at p27
  refine g9 9 ?_
  exact ⟨hG2, (((m - 1, (Zs c L a k).2, (Zs c L a k).1.2.1, n) : Nat × List Nd × Int × Int), Ms4), hs9, ⟨rfl, (by exact hR6), (Jc p27).symm.trans hcy, ⟨_, hT9⟩, hnx, by dsimp only; omega, by dsimp only; omega⟩, by dsimp only; omega⟩
 try dsimp only at p27
 refine g9 13 ?_
 exact ⟨hG2, (((m - 1, (Zs c L a k).2, (Zs c L a k).1.2.1, n + 1) : Nat × List Nd × Int × Int), Ms4), hs9, ⟨rfl, (by exact hR6), (Xa p23 p27).symm.trans hcy, ⟨_, hT9⟩, hnx, by dsimp only; omega, by dsimp only; omega⟩, by dsimp only; omega⟩

theorem ZtA {G : GH} {v_l : Value} {l : List Pair} (h_l : SlR Zp G v_l l) (k : Str) {v_ms : Value} {ms : List Msg} (h_ms : SlR Zu G v_ms ms) (hP : PairsR l) (hm : ∀ m ∈ ms, m.key.b.size < 140737488355328 ∧ m.val.b.size ≤ 16) :
    Fc Tryz.prog 143 [v_l, sV k.b, v_ms] G [] (fun v _ _ => v = .tuple #[sV (Str.b ((Eff.apply (YF ms k) (Zi l k)).getD Str.nil)), .bool ((Eff.apply (YF ms k) (Zi l k)).isSome)]) := by
 obtain ⟨sa_l, sc_l, rfl⟩ := h_l.form
 obtain ⟨sa_ms, sc_ms, rfl⟩ := h_ms.form
 have hr := hP.srt
 have hgv := hP.val k
 have hov := ZeW ms k (fun m h => (hm m h).2)
 have hos := ZhA (Zi l k)
 refine Fc.go [.tmp 6, .tmp 7] Tryz.func143 Tryz.ntmps143 rfl (fun w0 => (g9 10 ?_))
 refine W.qcall (ZsO h_l _ (by assumption)) rfl (g9 11 ?_)
 refine W.qcall (ZsJ h_ms _ (by assumption)) rfl (g9 2 ?_)
 refine W.qcall (Zek (YF ms k).kind (YF ms k).val (Zi l k).isSome ((Zi l k).getD Str.nil) om9 om9) rfl (g9 14 ?_)
 refine WC.cond rfl (fun h28 => ?_) (fun h28 => ?_)
 ·refine g9 9 ?_
  show Value.tuple #[Value.string _, Value.bool _] = _
  have hx : Eff.apply (⟨(YF ms k).kind, (YF ms k).val⟩ : Eff) (Yz (Zi l k).isSome ((Zi l k).getD Str.nil)) = Eff.apply (YF ms k) (Zi l k) := by rw [hos]
  rw [hx] at h28
  have e : Eff.apply (YF ms k) (Zi l k) = none := by simpa using h28
  rw [e]; rfl
 refine g9 11 ?_
 show Value.tuple #[Value.string _, Value.bool _] = _
 have hx : Eff.apply (⟨(YF ms k).kind, (YF ms k).val⟩ : Eff) (Yz (Zi l k).isSome ((Zi l k).getD Str.nil)) = Eff.apply (YF ms k) (Zi l k) := by rw [hos]
 rw [hx] at h28
 have e : (Eff.apply (YF ms k) (Zi l k)).isSome = true := by simpa using h28
 rw [hx, e]

theorem ZtB {G : GH} {v_l : Value} {l : List Pair} (h_l : SlR Zp G v_l l) (k : Str) {v_ms : Value} {ms : List Msg} (h_ms : SlR Zu G v_ms ms) (hP : PairsR l) (hm : ∀ m ∈ ms, m.key.b.size < 140737488355328 ∧ m.val.b.size ≤ 16) :
    Fc Tryz.prog 97 [v_l, sV k.b, v_ms] G [] (fun v _ _ => v = .tuple #[sV (Str.b ((Eff.apply (YF ms k) (Zi l k)).getD Str.nil)), .bool ((Eff.apply (YF ms k) (Zi l k)).isSome)]) := by
 obtain ⟨sa_l, sc_l, rfl⟩ := h_l.form
 obtain ⟨sa_ms, sc_ms, rfl⟩ := h_ms.form
 have hr := hP.srt
 have hgv := hP.val k
 have hov := ZeW ms k (fun m h => (hm m h).2)
 have hos := ZhA (Zi l k)
 refine Fc.go [.tmp 6, .tmp 7] Tryz.func97 Tryz.ntmps97 rfl (fun w0 => (g9 11 ?_))
 refine W.qcall (ZtA h_l _ h_ms (by assumption) (by assumption)) rfl (g9 8 ?_)
 rfl

theorem ZtC {G : GH} (pk : Int) (pkey : Str) (phi : Str) (po : Bool) (pv : Str) (pl : Int) :
    Fc Tryz.prog 93 [.agg #[iV pk, sV pkey.b, sV phi.b, .bool po, sV pv.b, iV pl]] G [] (fun v _ _ => v = .bool (decide (pk = 1 ∨ pk = 2))) := by
 refine Fc.go [.tmp 2] Tryz.func93 Tryz.ntmps93 rfl (fun w0 => (g9 2 ?_))
 refine W.box (L := [iV _, sV _, sV _, .bool _, sV _, iV _]) rfl rfl (fun b3 => (g9 9 ?_))
 refine W.sd 6 (fun h5 p5 => ?_) (fun h5 p5 => ?_)
 ·refine g9 9 ?_
  refine congrArg Value.bool ?_
  simp_all
 refine g9 12 ?_
 refine congrArg Value.bool ?_
 simp_all

theorem Zlu {G : GH} (pk : Int) (pkey : Str) (phi : Str) (po : Bool) (pv : Str) (pl : Int) :
    Fc Tryz.prog 94 [.agg #[iV pk, sV pkey.b, sV phi.b, .bool po, sV pv.b, iV pl]] G [] (fun v _ _ => v = .bool (decide (pk = 4 ∨ pk = 6))) := by
 refine Fc.go [.tmp 2] Tryz.func94 Tryz.ntmps94 rfl (fun w0 => (g9 2 ?_))
 refine W.box (L := [iV _, sV _, sV _, .bool _, sV _, iV _]) rfl rfl (fun b4 => (g9 9 ?_))
 refine W.sd 6 (fun h5 p5 => ?_) (fun h5 p5 => ?_)
 ·refine g9 9 ?_
  refine congrArg Value.bool ?_
  simp_all
 refine g9 12 ?_
 refine congrArg Value.bool ?_
 simp_all

theorem ZtD {G : GH} (pk : Int) (pkey : Str) (phi : Str) (po : Bool) (pv : Str) (pl : Int) :
    Fc Tryz.prog 131 [.agg #[iV pk, sV pkey.b, sV phi.b, .bool po, sV pv.b, iV pl]] G [] (fun v _ _ => v = .bool (decide (1 ≤ pk ∧ pk ≤ 4))) := by
 refine Fc.go [.tmp 2] Tryz.func131 Tryz.ntmps131 rfl (fun w0 => (g9 2 ?_))
 refine W.box (L := [iV _, sV _, sV _, .bool _, sV _, iV _]) rfl rfl (fun b5 => (g9 9 ?_))
 refine W.sd 6 (fun h5 p5 => ?_) (fun h5 p5 => ?_)
 ·refine g9 12 ?_
  refine congrArg Value.bool ?_
  first | (simp_all; done) | (simp_all; omega)
 refine g9 9 ?_
 refine congrArg Value.bool ?_
 first | (simp_all; done) | (simp_all; omega)

theorem Zlv {G : GH} (pk : Int) (pkey : Str) (phi : Str) (po : Bool) (pv : Str) (pl : Int) (hk : pkey.b.size < 140737488355328) :
    Fc Tryz.prog 47 [.agg #[iV pk, sV pkey.b, sV phi.b, .bool po, sV pv.b, iV pl]] G [] (fun v _ _ => v = .agg (List.toArray ((Opr.span (⟨pk, pkey, phi, po, pv, pl⟩ : Opr)).cells))) := by
 refine Fc.go [.cell 2 62] Tryz.func47 Tryz.ntmps47 rfl (fun w0 => (g9 2 ?_))
 refine W.box (L := [iV _, sV _, sV _, .bool _, sV _, iV _]) rfl rfl (fun b6 => (W.alloc ZU (fun b7 => (g9 6 ?_))))
 refine W.qcall (Zlu _ _ _ _ _ _) rfl (g9 2 ?_)
 refine WC.cond rfl (fun h4 => ?_) (fun h4 => ?_)
 ·refine g9 8 ?_
  refine W.ok (Ya (L := [sV _, sV _, .bool _]) JD ZU rfl rfl rfl) (g9 6 ?_)
  refine congrArg (fun l => Value.agg (List.toArray l)) ?_
  rw [Opr.span, if_pos (odt h4)]; rfl
 refine g9 6 ?_
 refine W.qcall (Zk8 _ (by first | assumption | omega | (dsimp only; omega))) rfl (g9 5 ?_)
 refine congrArg (fun l => Value.agg (List.toArray l)) ?_
 rw [Opr.span, if_neg (odf h4)]; try rfl

theorem Zlw {G : GH} (pk : Int) (pkey : Str) (phi : Str) (po : Bool) (pv : Str) (pl : Int) :
    Fc Tryz.prog 44 [.agg #[iV pk, sV pkey.b, sV phi.b, .bool po, sV pv.b, iV pl]] G [] (fun v _ _ => v = iV (if Opr.R (⟨pk, pkey, phi, po, pv, pl⟩ : Opr) then 0 else 3)) := by
 have h1 := pkey.le
 have h2 := phi.le
 have h3 := pv.le
 have hn : ∀ s : Str, s.b = ⟨#[]⟩ ↔ s = Str.nil := fun s => ⟨fun h => Str.ext' h, fun h => by rw [h]; rfl⟩
 refine Fc.go [.tmp 2] Tryz.func44 Tryz.ntmps44 rfl (fun w0 => (g9 2 ?_))
 refine W.box (L := [iV _, sV _, sV _, .bool _, sV _, iV _]) rfl rfl (fun b1 => (g9 3 ?_))
 refine WC.join (X := Bool) (fun ok => [(3, .bool ok), (1, pt9 b1)]) (fun ok _ Ml => Ml = [(b1, ce9 34 [iV pk, sV pkey.b, sV phi.b, .bool po, sV pv.b, iV pl])] ∧ ok = decide (1 ≤ pk ∧ pk ≤ 6 ∧ pkey.b.size ≤ 16 ∧ phi.b.size ≤ 16 ∧ pv.b.size ≤ 16)) ?_ ?_
 ·refine g9 5 ?_
  refine W.sd 7 (fun h6 p6 => ?_) (fun h6 p6 => ?_)
  ·refine g9 8 ?_
   refine W.sd 12 (fun h10 p10 => ?_) (fun h10 p10 => ?_)
   ·refine g9 5 ?_
    refine W.qcall (Zla _) rfl (g9 2 ?_)
    refine W.sp 17 rfl (fun h15 => ?_) (fun h15 => ?_)
    ·have k15 := odt h15
     refine g9 5 ?_
     refine W.qcall (Zla _) rfl (g9 2 ?_)
     refine W.sp 22 rfl (fun h20 => ?_) (fun h20 => ?_)
     ·have k20 := odt h20
      refine g9 5 ?_
      refine W.qcall (ZsH _) rfl (g9 4 ?_)
      exact ⟨Le.rfl, _, hs9, ⟨rfl, (by rw [Bool.eq_iff_iff, decide_eq_true_iff]; first | (simp_all; done) | (simp_all; omega) | grind)⟩⟩
     refine g9 7 ?_
     exact ⟨Le.rfl, _, hs9, ⟨rfl, (by rw [Bool.eq_iff_iff, decide_eq_true_iff]; first | (simp_all; done) | (simp_all; omega) | grind)⟩⟩
    refine g9 12 ?_
    exact ⟨Le.rfl, _, hs9, ⟨rfl, (by rw [Bool.eq_iff_iff, decide_eq_true_iff]; first | (simp_all; done) | (simp_all; omega) | grind)⟩⟩
   refine g9 17 ?_
   exact ⟨Le.rfl, _, hs9, ⟨rfl, (by rw [Bool.eq_iff_iff, decide_eq_true_iff]; first | (simp_all; done) | (simp_all; omega) | grind)⟩⟩
  refine g9 22 ?_
  exact ⟨Le.rfl, _, hs9, ⟨rfl, (by rw [Bool.eq_iff_iff, decide_eq_true_iff]; first | (simp_all; done) | (simp_all; omega) | grind)⟩⟩
 rintro ok gG2 G2 _ hG2 ⟨rfl, hok⟩
 refine WC.join (X := Bool) (fun ok => [(3, .bool ok), (1, pt9 b1)]) (fun ok _ Ml => Ml = [(b1, ce9 34 [iV pk, sV pkey.b, sV phi.b, .bool po, sV pv.b, iV pl])] ∧ ok = decide (1 ≤ pk ∧ pk ≤ 6 ∧ pkey.b.size ≤ 16 ∧ phi.b.size ≤ 16 ∧ pv.b.size ≤ 16 ∧ (2 < pk → pv = Str.nil) ∧ (po = false ∨ phi = Str.nil))) ?_ ?_
 ·refine g9 3 ?_
  refine W.sp 28 rfl (fun hokb => ?_) (fun hokb => ?_)
  ·have hP := odt (hok.symm.trans hokb)
   have hks : pkey.b.size < 140737488355328 := by omega
   refine g9 3 ?_
   refine W.qcall (ZtC _ _ _ _ _ _) rfl (g9 2 ?_)
   refine W.sp 31 rfl (fun h30 => ?_) (fun h30 => ?_)
   ·refine g9 15 ?_
    refine W.sp 41 rfl (fun h40 => ?_) (fun h40 => ?_)
    ·refine g9 9 ?_
     exact ⟨Le.rfl, _, hs9, ⟨rfl, (by rw [Bool.eq_iff_iff, decide_eq_true_iff]; first | (simp_all; done) | (simp_all; omega) | grind)⟩⟩
    refine g9 12 ?_
    exact ⟨Le.rfl, _, hs9, ⟨rfl, (by rw [Bool.eq_iff_iff, decide_eq_true_iff]; first | (simp_all; done) | (simp_all; omega) | grind)⟩⟩
   refine g9 10 ?_
   refine W.sd 37 (fun h34 p34 => ?_) (fun h34 p34 => ?_)
   ·refine g9 8 ?_
    refine W.sp 41 rfl (fun h40 => ?_) (fun h40 => ?_)
    ·refine g9 9 ?_
     exact ⟨Le.rfl, _, hs9, ⟨rfl, (by rw [Bool.eq_iff_iff, decide_eq_true_iff]; first | (simp_all; done) | (simp_all; omega) | grind)⟩⟩
    refine g9 12 ?_
    exact ⟨Le.rfl, _, hs9, ⟨rfl, (by rw [Bool.eq_iff_iff, decide_eq_true_iff]; first | (simp_all; done) | (simp_all; omega) | grind)⟩⟩
   refine g9 12 ?_
   exact ⟨Le.rfl, _, hs9, ⟨rfl, (by rw [Bool.eq_iff_iff, decide_eq_true_iff]; first | (simp_all; done) | (simp_all; omega) | grind)⟩⟩
  refine g9 21 ?_
  exact ⟨Le.rfl, _, hs9, ⟨rfl, (by rw [Bool.eq_iff_iff, decide_eq_true_iff]; first | (simp_all; done) | (simp_all; omega) | grind)⟩⟩
 rintro ok gG3 G3 _ hG3 ⟨rfl, hok⟩
 refine WC.join (X := Bool) (fun ok => [(3, .bool ok), (1, pt9 b1)]) (fun ok _ Ml => Ml = [(b1, ce9 34 [iV pk, sV pkey.b, sV phi.b, .bool po, sV pv.b, iV pl])] ∧ ok = decide (1 ≤ pk ∧ pk ≤ 6 ∧ pkey.b.size ≤ 16 ∧ phi.b.size ≤ 16 ∧ pv.b.size ≤ 16 ∧ (2 < pk → pv = Str.nil) ∧ (po = false ∨ phi = Str.nil) ∧ if pk = 4 ∨ pk = 6 then (Opr.span (⟨pk, pkey, phi, po, pv, pl⟩ : Opr)).empty = false else phi = Str.nil ∧ po = false)) ?_ ?_
 ·refine g9 3 ?_
  refine W.qcall (Zlu _ _ _ _ _ _) rfl (g9 2 ?_)
  refine WC.cond rfl (fun h48 => ?_) (fun h48 => ?_)
  ·refine g9 3 ?_
   refine W.sp 50 rfl (fun hokb => ?_) (fun hokb => ?_)
   ·have hP := odt (hok.symm.trans hokb)
    have hks : pkey.b.size < 140737488355328 := by omega
    refine g9 3 ?_
    refine W.qcall (Zlv _ _ _ _ _ _ (by first | assumption | omega | (dsimp only; omega))) rfl (g9 1 ?_)
    refine W.qcall (ZcR _ _ _) rfl (g9 6 ?_)
    exact ⟨Le.rfl, _, hs9, ⟨rfl, (by rw [Bool.eq_iff_iff, decide_eq_true_iff]; show (!(Opr.span (⟨pk, pkey, phi, po, pv, pl⟩ : Opr)).empty) = true ↔ _; rw [if_pos (odt h48)]; first | (simp_all; done) | (simp_all; omega) | grind)⟩⟩
   refine g9 8 ?_
   exact ⟨Le.rfl, _, hs9, ⟨rfl, (by refine (decide_eq_false fun h => odf (hok.symm.trans hokb) ?_).symm; obtain ⟨a, b, c, d, e, f, g, _⟩ := h; exact ⟨a, b, c, d, e, f, g⟩)⟩⟩
  refine g9 3 ?_
  refine W.sp 57 rfl (fun hokb => ?_) (fun hokb => ?_)
  ·have hP := odt (hok.symm.trans hokb)
   have hks : pkey.b.size < 140737488355328 := by omega
   refine g9 8 ?_
   refine W.sd 62 (fun h60 p60 => ?_) (fun h60 p60 => ?_)
   ·refine g9 10 ?_
    exact ⟨Le.rfl, _, hs9, ⟨rfl, (by rw [Bool.eq_iff_iff, decide_eq_true_iff]; rw [if_neg (odf h48)]; first | (simp_all; done) | (simp_all; omega) | grind)⟩⟩
   refine g9 7 ?_
   exact ⟨Le.rfl, _, hs9, ⟨rfl, (by rw [Bool.eq_iff_iff, decide_eq_true_iff]; rw [if_neg (odf h48)]; first | (simp_all; done) | (simp_all; omega) | grind)⟩⟩
  refine g9 12 ?_
  exact ⟨Le.rfl, _, hs9, ⟨rfl, (by rw [Bool.eq_iff_iff, decide_eq_true_iff]; rw [if_neg (odf h48)]; first | (simp_all; done) | (simp_all; omega) | grind)⟩⟩
 rintro ok gG4 G4 _ hG4 ⟨rfl, hok⟩
 refine WC.join (X := Bool) (fun ok => [(3, .bool ok)]) (fun ok _ Ml => Ml = [(b1, ce9 34 [iV pk, sV pkey.b, sV phi.b, .bool po, sV pv.b, iV pl])] ∧ ok = decide (Opr.R (⟨pk, pkey, phi, po, pv, pl⟩ : Opr))) ?_ ?_
 ·refine g9 7 ?_
  refine WC.cd (fun h69 p69 => ?_) (fun h69 p69 => ?_)
  ·refine g9 3 ?_
   refine W.sp 71 rfl (fun hokb => ?_) (fun hokb => ?_)
   ·have hP := odt (hok.symm.trans hokb)
    have hks : pkey.b.size < 140737488355328 := by omega
    refine g9 8 ?_
    refine W.sd 76 (fun h74 p74 => ?_) (fun h74 p74 => ?_)
    ·refine g9 10 ?_
     exact ⟨Le.rfl, _, hs9, ⟨rfl, (by rw [Bool.eq_iff_iff, decide_eq_true_iff]; simp only [Opr.R]; first | (simp_all; done) | (simp_all; omega) | grind)⟩⟩
    refine g9 7 ?_
    exact ⟨Le.rfl, _, hs9, ⟨rfl, (by rw [Bool.eq_iff_iff, decide_eq_true_iff]; simp only [Opr.R]; first | (simp_all; done) | (simp_all; omega) | grind)⟩⟩
   refine g9 12 ?_
   exact ⟨Le.rfl, _, hs9, ⟨rfl, (by rw [Bool.eq_iff_iff, decide_eq_true_iff]; simp only [Opr.R]; first | (simp_all; done) | (simp_all; omega) | grind)⟩⟩
  refine g9 3 ?_
  refine W.sp 82 rfl (fun hokb => ?_) (fun hokb => ?_)
  ·have hP := odt (hok.symm.trans hokb)
   have hks : pkey.b.size < 140737488355328 := by omega
   refine g9 10 ?_
   exact ⟨Le.rfl, _, hs9, ⟨rfl, (by rw [Bool.eq_iff_iff, decide_eq_true_iff]; simp only [Opr.R]; first | (simp_all; done) | (simp_all; omega) | grind)⟩⟩
  refine g9 7 ?_
  exact ⟨Le.rfl, _, hs9, ⟨rfl, (by rw [Bool.eq_iff_iff, decide_eq_true_iff]; simp only [Opr.R]; first | (simp_all; done) | (simp_all; omega) | grind)⟩⟩
 rintro ok gG5 G5 _ hG5 ⟨rfl, hok⟩
 refine g9 7 ?_
 refine WC.cond rfl (fun h88 => ?_) (fun h88 => ?_)
 ·refine g9 8 ?_
  refine congrArg (Value.int .i64) ?_
  subst hok
  rw [if_neg (by simpa using h88)]
 refine g9 9 ?_
 refine congrArg (Value.int .i64) ?_
 subst hok
 rw [if_pos (by simpa using h88)]

theorem ZtE {G : GH} (pk : Int) (pkey : Str) (phi : Str) (po : Bool) (pv : Str) (pl : Int) (n : Int) :
    Fc Tryz.prog 28 [.agg #[iV pk, sV pkey.b, sV phi.b, .bool po, sV pv.b, iV pl], iV n] G [] (fun v _ _ => v = .bool (decide ((pkey.b.size : Int) ≤ n ∧ (phi.b.size : Int) ≤ n ∧ (pv.b.size : Int) ≤ n))) := by
 have h1 := pkey.le
 have h2 := phi.le
 have h3 := pv.le
 refine Fc.go [.tmp 4] Tryz.func28 Tryz.ntmps28 rfl (fun w0 => (g9 2 ?_))
 refine W.box (L := [iV _, sV _, sV _, .bool _, sV _, iV _]) rfl rfl (fun b6 => (g9 11 ?_))
 refine W.sd 10 (fun h9 p9 => ?_) (fun h9 p9 => ?_)
 ·refine g9 12 ?_
  refine W.sd 17 (fun h15 p15 => ?_) (fun h15 p15 => ?_)
  ·refine g9 16 ?_
   refine congrArg Value.bool ?_
   first | (simp_all; done) | (simp_all; omega) | (simp_all; intros; omega)
  refine g9 11 ?_
  refine congrArg Value.bool ?_
  first | (simp_all; done) | (simp_all; omega) | (simp_all; intros; omega)
 refine g9 18 ?_
 refine congrArg Value.bool ?_
 first | (simp_all; done) | (simp_all; omega) | (simp_all; intros; omega)

theorem ZtF {G : GH} (pk : Int) (pkey : Str) (phi : Str) (po : Bool) (pv : Str) (pl : Int) (s : Int) (hR : Opr.R (⟨pk, pkey, phi, po, pv, pl⟩ : Opr)) (hk4 : pk ≤ 4) (hs : 1 ≤ s) :
    Fc Tryz.prog 78 [.agg #[iV pk, sV pkey.b, sV phi.b, .bool po, sV pv.b, iV pl], iV s] G [] (fun v _ _ => v = .tuple #[.agg (List.toArray ((Opr.msg (⟨pk, pkey, phi, po, pv, pl⟩ : Opr) s).cells)), .bool (true)]) := by
 have hk1 := hR.1.1
 dsimp only at hk1
 refine Fc.go [.cell 4 87, .tmp 5] Tryz.func78 Tryz.ntmps78 rfl (fun w0 => (g9 2 ?_))
 refine W.box (L := [iV _, sV _, sV _, .bool _, sV _, iV _]) rfl rfl (fun b1 => (W.alloc Z1 (fun b2 => (g9 7 ?_))))
 refine W.qcall (Zlw _ _ _ _ _ _) rfl (g9 2 ?_)
 refine W.sm 9 (fun h8 p8 => ?_) (fun h8 p8 => ?_)
 ·simp [hR] at h8
 refine g9 3 ?_
 refine W.qcall (ZtD _ _ _ _ _ _) rfl (g9 4 ?_)
 refine W.sp 14 rfl (fun h12 => ?_) (fun h12 => ?_)
 ·simp only [Bool.not_eq_true', decide_eq_false_iff_not] at h12
  exfalso; omega
 refine g9 7 ?_
 refine WC.cd (fun h16 p16 => ?_) (fun h16 p16 => ?_)
 ·exfalso; omega
 refine g9 15 ?_
 refine W.ok (Ya (L := [iV _, iV _, sV _, sV _, .bool _, sV _]) Zgx Z1 rfl rfl rfl) (g9 6 ?_)
 rfl

end Go.Proofs.YtbbemibbmbmamaaGreat
