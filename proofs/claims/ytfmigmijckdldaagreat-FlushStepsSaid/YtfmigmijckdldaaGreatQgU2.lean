/- Arenas made anew, and what is done with an arena. -/
import Derived.Test.YtfmigmijckdldaaGreatQgV1
import Derived.Test.YtfmigmijckdldaaGreatQgWc
set_option maxRecDepth 100000
set_option maxHeartbeats 1600000
set_option linter.unusedVariables false
set_option linter.unusedSimpArgs false
set_option linter.unnecessarySimpa false
namespace Go.Proofs.YtfmigmijckdldaaGreat
open Go Go.Fw Go.RowKit
attribute [local irreducible] Ok W WC
theorem snewn_fc {G : GH} (n : Int) :
    Fc Tryz.prog 55 [iV n] G [] (fun v G' M' => (¬ (1 ≤ n ∧ n ≤ 4096) ∧ v = .tuple #[.pointer none, iV 2] ∧ M' = []) ∨ ((1 ≤ n ∧ n ≤ 4096) ∧ ∃ b, v = .tuple #[pt9 b, iV 0] ∧ ArR eNode 53 4 3 125 b G' (List.replicate n.toNat Nd.zero, List.replicate n.toNat false) M')) := by
 refine Fc.go [.tmp 2, .tmp 3] Tryz.func55 Tryz.ntmps55 rfl (fun w0 => (g9 12 ?_))
 refine W.sd 8 (fun h7 p7 => ?_) (fun h7 p7 => ?_)
 ·refine g9 14 ?_
  refine ⟨.inr rfl, [_, _], ⟨rfl, rfl, trivial⟩, [], sr9, ?_⟩
  exact .inl ⟨om9, rfl, rfl⟩
 refine g9 7 ?_
 refine WC.cd (fun h10 p10 => ?_) (fun h10 p10 => ?_)
 ·refine g9 8 ?_
  refine ⟨.inr rfl, [_, _], ⟨rfl, rfl, trivial⟩, [], sr9, ?_⟩
  exact .inl ⟨om9, rfl, rfl⟩
 obtain ⟨m, rfl⟩ : ∃ m : Nat, n = (m : Int) := ⟨n.toNat, om9⟩
 refine g9 3 ?_
 refine WC.dw sr9 (d9 [0, 2] ?_)
 refine WD.any [1, 3] (by kernel_rfl) rfl ⟨WD.ap ?_, WD.ap ?_, trivial⟩
 ·refine W.mkSl (e := eNode) (a0 := Nd.zero) (n := (m)) sl24 ty53 zr53 rfl by53 (⟨_, _, _, _, _, _, _, _, rfl, SlR.nil, SlR.nil, SlR.nil, SlR.nil, Nd.zero_ok⟩) rfl rfl (by first | (show _ * 152 ≤ 140737488355328; omega) | (show _ * 10 ≤ 16777216; omega) | (show _ * 1 ≤ 140737488355328; omega) | (show _ * 1 ≤ 16777216; omega)) (by first | (show _ * 152 ≤ 140737488355328; omega) | (show _ * 10 ≤ 16777216; omega) | (show _ * 1 ≤ 140737488355328; omega) | (show _ * 1 ≤ 16777216; omega)) (fun v1 Ms2 ho3 => ?_)
  have q7 := ho3.form
  refine match q7 with | ⟨sa4, sc5, e_6⟩ => ?_
  subst e_6
  refine W.nn (WD.a1 3 rfl (W.mkSl (e := eBool) (a0 := false) (n := (m)) sl122 ty4 zr4 rfl by4 (rfl) rfl rfl (by first | (show _ * 152 ≤ 140737488355328; omega) | (show _ * 10 ≤ 16777216; omega) | (show _ * 1 ≤ 140737488355328; omega) | (show _ * 1 ≤ 16777216; omega)) (by first | (show _ * 152 ≤ 140737488355328; omega) | (show _ * 10 ≤ 16777216; omega) | (show _ * 1 ≤ 140737488355328; omega) | (show _ * 1 ≤ 16777216; omega)) (fun v8 Ms9 ho10 => ?_)))
  have q14 := ho10.form
  refine match q14 with | ⟨sa11, sc12, e_13⟩ => ?_
  subst e_13
  refine W.nn (WD.tk 4 rfl (ok_build (L := [lV _ _ _, lV _ _ _, lV _ _ _]) pl125 zr125 rfl rfl rfl) (WD.a1 5 rfl (W.box (L := [lV _ _ _, lV _ _ _, lV _ _ _]) rfl rfl (fun b15 => (W.nn (d9 [6] ?_))))))
  refine g9 4 ?_
  have hR16 : ArP eNode 53 4 3 125 b15 G (List.replicate m Nd.zero, List.replicate m false, iotaN 0) ((b15, ce9 125 [lV sa4 ((List.replicate ((m)) Nd.zero)).length sc5, lV sa11 ((List.replicate ((m)) false)).length sc12, lV none 0 0]) :: (Ms2 ++ (Ms9 ++ []))) := ⟨_, _, _, _, _, _, rfl, ho3, ho10, OwnR.nil⟩
  refine WC.perm (M' := (((b15, ce9 125 [lV sa4 ((List.replicate ((m)) Nd.zero)).length sc5, lV sa11 ((List.replicate ((m)) false)).length sc12, lV none 0 0]) :: (Ms2 ++ (Ms9 ++ []))) ++ [])) (pr9.symm.trans ((((pmF ((pmF pr9).trans pr9)).trans (pmA pr9)).cons _).trans pr9)) (g9 6 ?_)
  refine WC.loop (X := (Nat) × MH) (fun k => [(19, nt9 k.1), (18, nt9 m), (4, pt9 b15)]) (fun k G Ml => Ml = (k.2 ++ []) ∧ ArP eNode 53 4 3 125 b15 G ((List.replicate m Nd.zero, List.replicate m false, iotaN k.1)) k.2 ∧ k.1 ≤ m) (fun k => m - k.1) (0, ((b15, ce9 125 [lV sa4 ((List.replicate ((m)) Nd.zero)).length sc5, lV sa11 ((List.replicate ((m)) false)).length sc12, lV none 0 0]) :: (Ms2 ++ (Ms9 ++ [])))) hs9 ?_ ?_
  ·exact ⟨rfl, (by exact hR16), om9⟩
  rintro ⟨k, M_4⟩ gG17 G17 _ hG17 ⟨rfl, ho_4, hk⟩
  try dsimp only at ho_4 hk
  refine WC.fr (f := setL gG17 [(19, nt9 k), (18, nt9 m), (4, pt9 b15)]) rfl (g9 6 ?_)
  refine WC.cd (fun h20 p20 => ?_) (fun h20 p20 => ?_)
  ·refine g9 10 ?_
   refine match ho_4 with | ⟨vc_u18, vu_u18, vf_u18, Mc_u18, Mu_u18, Mf_u18, eM_, hc_u18, hu_u18, hf_u18⟩ => ?_
   subst eM_
   refine WC.perm (M' := ((b15, ce9 125 [vc_u18, vu_u18, vf_u18]) :: (Mc_u18 ++ (Mu_u18 ++ (Mf_u18 ++ []))))) ((pmF (pmF pr9)).cons _).symm ?_
   dsimp only at hc_u18 hu_u18 hf_u18
   refine match hc_u18.form with | ⟨sac_u18, scc_u18, eV_⟩ => ?_
   subst eV_
   refine match hu_u18.form with | ⟨sau_u18, scu_u18, eV_⟩ => ?_
   subst eV_
   refine match hf_u18.form with | ⟨saf_u18, scf_u18, eV_⟩ => ?_
   subst eV_
   refine g9 7 ?_
   refine W.lit (e := eInt) (l := [((k : Nat) : Int)]) (css := [[iV _]]) sl123 ty3 zr3 rfl rfl rfl rfl rfl rfl ⟨⟨rfl, om9, om9⟩, trivial⟩ (fun bl19 G19 hG19 hv19 => (W.app (e := eInt) sl123 ty3 zr3 rfl by3 rfl rfl ((hf_u18.mono hG19)) (hv19) (pmC (pmA (pmA pr9))) (by show (_ + 1) * 8 ≤ _; rw [iota_len]; omega) (fun v20 Ms21 ho22 => (W.perm (pmC pr9).symm ?_))))
   have q26 := ho22.form
   refine match q26 with | ⟨sa23, sc24, e_25⟩ => ?_
   subst e_25
   refine g9 6 ?_
   have hR27 : ArP eNode 53 4 3 125 b15 G19 (List.replicate m Nd.zero, List.replicate m false, iotaN (k + 1)) ((b15, ce9 125 [lV sac_u18 (List.replicate m Nd.zero).length scc_u18, lV sau_u18 (List.replicate m false).length scu_u18, lV sa23 ((iotaN k ++ [((k : Nat) : Int)])).length sc24]) :: (Mc_u18 ++ (Mu_u18 ++ Ms21))) := ⟨_, _, _, _, _, _, rfl, (hc_u18.mono hG19), (hu_u18.mono hG19), (by rw [iota_succ]; exact ho22)⟩
   refine WC.perm (M' := (((b15, ce9 125 [lV sac_u18 (List.replicate m Nd.zero).length scc_u18, lV sau_u18 (List.replicate m false).length scu_u18, lV sa23 ((iotaN k ++ [((k : Nat) : Int)])).length sc24]) :: (Mc_u18 ++ (Mu_u18 ++ Ms21))) ++ [])) (pr9.symm.trans ((((pmF ((pmF pr9).trans (pmA pr9))).trans (pmA pr9)).cons _).trans pr9)) (g9 5 ?_)
   exact ⟨hG19, (k + 1, ((b15, ce9 125 [lV sac_u18 (List.replicate m Nd.zero).length scc_u18, lV sau_u18 (List.replicate m false).length scu_u18, lV sa23 ((iotaN k ++ [((k : Nat) : Int)])).length sc24]) :: (Mc_u18 ++ (Mu_u18 ++ Ms21)))), hs9, ⟨rfl, (by exact hR27), om9⟩, om9⟩
  refine g9 6 ?_
  obtain rfl : k = m := by omega
  refine match ho_4 with | ⟨vc_u28, vu_u28, vf_u28, Mc_u28, Mu_u28, Mf_u28, eM_, hc_u28, hu_u28, hf_u28⟩ => ?_
  subst eM_
  refine WC.perm (M' := ((b15, ce9 125 [vc_u28, vu_u28, vf_u28]) :: (Mc_u28 ++ (Mu_u28 ++ (Mf_u28 ++ []))))) ((pmF (pmF pr9)).cons _).symm ?_
  dsimp only at hc_u28 hu_u28 hf_u28
  refine match hc_u28.form with | ⟨sac_u28, scc_u28, eV_⟩ => ?_
  subst eV_
  refine match hu_u28.form with | ⟨sau_u28, scu_u28, eV_⟩ => ?_
  subst eV_
  refine match hf_u28.form with | ⟨saf_u28, scf_u28, eV_⟩ => ?_
  subst eV_
  refine g9 4 ?_
  refine W.ok (ok_mkI pi144 rfl) (W.call (Mp := ((b15, ce9 125 [lV sac_u28 (List.replicate k Nd.zero).length scc_u28, lV sau_u28 (List.replicate k false).length scu_u28, lV saf_u28 (iotaN k).length scf_u28]) :: Mf_u28)) (Mr := (Mc_u28 ++ (Mu_u28 ++ []))) (hinit_fc (least_heap (b := b15) (Tb := 125) (c0 := lV sac_u28 (List.replicate k Nd.zero).length scc_u28) (c1 := lV sau_u28 (List.replicate k false).length scu_u28)) ⟨_, _, rfl, hf_u28⟩ (iota_heap k) (by rw [iota_len]; omega)) rfl (((pmA (pmA pr9)).cons _).trans pr9) ?_)
  intro v32 G29 Ms31 hG29 q30
  refine match q30 with | ⟨e_34, ⟨vf_z33, Mf_z33, e_35, hf_z33⟩⟩ => ?_
  subst e_34
  subst e_35
  have q37 := hf_z33.form
  refine match q37 with | ⟨sa_z33, sc_z33, e_36⟩ => ?_
  subst e_36
  refine W.perm (M' := ((b15, ce9 125 [lV sac_u28 (List.replicate k Nd.zero).length scc_u28, lV sau_u28 (List.replicate k false).length scu_u28, lV sa_z33 (iotaN k).length sc_z33]) :: (Mf_z33 ++ (Mc_u28 ++ (Mu_u28 ++ []))))) ((pr9.cons _).trans pr9).symm (g9 9 ?_)
  refine WC.perm (M' := ((b15, ce9 125 [lV sac_u28 (List.replicate k Nd.zero).length scc_u28, lV sau_u28 (List.replicate k false).length scu_u28, lV sa_z33 (iotaN k).length sc_z33]) :: (Mc_u28 ++ (Mu_u28 ++ (Mf_z33 ++ []))))) (((List.Perm.append_left _ ((List.Perm.append_left _ ((List.Perm.append_left _ pr9).trans pr9)).trans (pmA pr9))).trans (pmA pr9)).cons _) (WC.ret ?_)
  refine ⟨.inr rfl, [_, _], ⟨rfl, rfl, trivial⟩, ((b15, ce9 125 [lV sac_u28 (List.replicate k Nd.zero).length scc_u28, lV sau_u28 (List.replicate k false).length scu_u28, lV sa_z33 (iotaN k).length sc_z33]) :: (Mc_u28 ++ (Mu_u28 ++ (Mf_z33 ++ [])))), sr9.k9, ?_⟩
  exact .inr ⟨om9, _, rfl, ArR.cast (st := (List.replicate k Nd.zero, List.replicate k false)) ⟨_, ⟨_, _, _, _, _, _, rfl, (hc_u28.mono hG29), (hu_u28.mono hG29), hf_z33⟩, by simp, by simp; omega, iota_heap k, List.Perm.of_eq (iota_free k)⟩ (by simp) (by simp)⟩
 refine W.mkSl (e := eBool) (a0 := false) (n := (m)) sl122 ty4 zr4 rfl by4 (rfl) rfl rfl (by first | (show _ * 152 ≤ 140737488355328; omega) | (show _ * 10 ≤ 16777216; omega) | (show _ * 1 ≤ 140737488355328; omega) | (show _ * 1 ≤ 16777216; omega)) (by first | (show _ * 152 ≤ 140737488355328; omega) | (show _ * 10 ≤ 16777216; omega) | (show _ * 1 ≤ 140737488355328; omega) | (show _ * 1 ≤ 16777216; omega)) (fun v38 Ms39 ho40 => ?_)
 have q44 := ho40.form
 refine match q44 with | ⟨sa41, sc42, e_43⟩ => ?_
 subst e_43
 refine W.nn (WD.a1 1 rfl (W.mkSl (e := eNode) (a0 := Nd.zero) (n := (m)) sl24 ty53 zr53 rfl by53 (⟨_, _, _, _, _, _, _, _, rfl, SlR.nil, SlR.nil, SlR.nil, SlR.nil, Nd.zero_ok⟩) rfl rfl (by first | (show _ * 152 ≤ 140737488355328; omega) | (show _ * 10 ≤ 16777216; omega) | (show _ * 1 ≤ 140737488355328; omega) | (show _ * 1 ≤ 16777216; omega)) (by first | (show _ * 152 ≤ 140737488355328; omega) | (show _ * 10 ≤ 16777216; omega) | (show _ * 1 ≤ 140737488355328; omega) | (show _ * 1 ≤ 16777216; omega)) (fun v45 Ms46 ho47 => ?_)))
 have q51 := ho47.form
 refine match q51 with | ⟨sa48, sc49, e_50⟩ => ?_
 subst e_50
 refine W.nn (WD.tk 4 rfl (ok_build (L := [lV _ _ _, lV _ _ _, lV _ _ _]) pl125 zr125 rfl rfl rfl) (WD.a1 5 rfl (W.box (L := [lV _ _ _, lV _ _ _, lV _ _ _]) rfl rfl (fun b52 => (W.nn (d9 [6] ?_))))))
 refine g9 4 ?_
 have hR53 : ArP eNode 53 4 3 125 b52 G (List.replicate m Nd.zero, List.replicate m false, iotaN 0) ((b52, ce9 125 [lV sa48 ((List.replicate ((m)) Nd.zero)).length sc49, lV sa41 ((List.replicate ((m)) false)).length sc42, lV none 0 0]) :: (Ms46 ++ (Ms39 ++ []))) := ⟨_, _, _, _, _, _, rfl, ho47, ho40, OwnR.nil⟩
 refine WC.perm (M' := (((b52, ce9 125 [lV sa48 ((List.replicate ((m)) Nd.zero)).length sc49, lV sa41 ((List.replicate ((m)) false)).length sc42, lV none 0 0]) :: (Ms46 ++ (Ms39 ++ []))) ++ [])) (pr9.symm.trans ((((pmF ((pmF pr9).trans pr9)).trans pr9).cons _).trans pr9)) (g9 6 ?_)
 refine WC.loop (X := (Nat) × MH) (fun k => [(19, nt9 k.1), (18, nt9 m), (4, pt9 b52)]) (fun k G Ml => Ml = (k.2 ++ []) ∧ ArP eNode 53 4 3 125 b52 G ((List.replicate m Nd.zero, List.replicate m false, iotaN k.1)) k.2 ∧ k.1 ≤ m) (fun k => m - k.1) (0, ((b52, ce9 125 [lV sa48 ((List.replicate ((m)) Nd.zero)).length sc49, lV sa41 ((List.replicate ((m)) false)).length sc42, lV none 0 0]) :: (Ms46 ++ (Ms39 ++ [])))) hs9 ?_ ?_
 ·exact ⟨rfl, (by exact hR53), om9⟩
 rintro ⟨k, M_4⟩ gG54 G54 _ hG54 ⟨rfl, ho_4, hk⟩
 try dsimp only at ho_4 hk
 refine WC.fr (f := setL gG54 [(19, nt9 k), (18, nt9 m), (4, pt9 b52)]) rfl (g9 6 ?_)
 refine WC.cd (fun h20 p20 => ?_) (fun h20 p20 => ?_)
 ·refine g9 10 ?_
  refine match ho_4 with | ⟨vc_u55, vu_u55, vf_u55, Mc_u55, Mu_u55, Mf_u55, eM_, hc_u55, hu_u55, hf_u55⟩ => ?_
  subst eM_
  refine WC.perm (M' := ((b52, ce9 125 [vc_u55, vu_u55, vf_u55]) :: (Mc_u55 ++ (Mu_u55 ++ (Mf_u55 ++ []))))) ((pmF (pmF pr9)).cons _).symm ?_
  dsimp only at hc_u55 hu_u55 hf_u55
  refine match hc_u55.form with | ⟨sac_u55, scc_u55, eV_⟩ => ?_
  subst eV_
  refine match hu_u55.form with | ⟨sau_u55, scu_u55, eV_⟩ => ?_
  subst eV_
  refine match hf_u55.form with | ⟨saf_u55, scf_u55, eV_⟩ => ?_
  subst eV_
  refine g9 7 ?_
  refine W.lit (e := eInt) (l := [((k : Nat) : Int)]) (css := [[iV _]]) sl123 ty3 zr3 rfl rfl rfl rfl rfl rfl ⟨⟨rfl, om9, om9⟩, trivial⟩ (fun bl56 G56 hG56 hv56 => (W.app (e := eInt) sl123 ty3 zr3 rfl by3 rfl rfl ((hf_u55.mono hG56)) (hv56) (pmC (pmA (pmA pr9))) (by show (_ + 1) * 8 ≤ _; rw [iota_len]; omega) (fun v57 Ms58 ho59 => (W.perm (pmC pr9).symm ?_))))
  have q63 := ho59.form
  refine match q63 with | ⟨sa60, sc61, e_62⟩ => ?_
  subst e_62
  refine g9 6 ?_
  have hR64 : ArP eNode 53 4 3 125 b52 G56 (List.replicate m Nd.zero, List.replicate m false, iotaN (k + 1)) ((b52, ce9 125 [lV sac_u55 (List.replicate m Nd.zero).length scc_u55, lV sau_u55 (List.replicate m false).length scu_u55, lV sa60 ((iotaN k ++ [((k : Nat) : Int)])).length sc61]) :: (Mc_u55 ++ (Mu_u55 ++ Ms58))) := ⟨_, _, _, _, _, _, rfl, (hc_u55.mono hG56), (hu_u55.mono hG56), (by rw [iota_succ]; exact ho59)⟩
  refine WC.perm (M' := (((b52, ce9 125 [lV sac_u55 (List.replicate m Nd.zero).length scc_u55, lV sau_u55 (List.replicate m false).length scu_u55, lV sa60 ((iotaN k ++ [((k : Nat) : Int)])).length sc61]) :: (Mc_u55 ++ (Mu_u55 ++ Ms58))) ++ [])) (pr9.symm.trans ((((pmF ((pmF pr9).trans (pmA pr9))).trans (pmA pr9)).cons _).trans pr9)) (g9 5 ?_)
  exact ⟨hG56, (k + 1, ((b52, ce9 125 [lV sac_u55 (List.replicate m Nd.zero).length scc_u55, lV sau_u55 (List.replicate m false).length scu_u55, lV sa60 ((iotaN k ++ [((k : Nat) : Int)])).length sc61]) :: (Mc_u55 ++ (Mu_u55 ++ Ms58)))), hs9, ⟨rfl, (by exact hR64), om9⟩, om9⟩
 refine g9 6 ?_
 obtain rfl : k = m := by omega
 refine match ho_4 with | ⟨vc_u65, vu_u65, vf_u65, Mc_u65, Mu_u65, Mf_u65, eM_, hc_u65, hu_u65, hf_u65⟩ => ?_
 subst eM_
 refine WC.perm (M' := ((b52, ce9 125 [vc_u65, vu_u65, vf_u65]) :: (Mc_u65 ++ (Mu_u65 ++ (Mf_u65 ++ []))))) ((pmF (pmF pr9)).cons _).symm ?_
 dsimp only at hc_u65 hu_u65 hf_u65
 refine match hc_u65.form with | ⟨sac_u65, scc_u65, eV_⟩ => ?_
 subst eV_
 refine match hu_u65.form with | ⟨sau_u65, scu_u65, eV_⟩ => ?_
 subst eV_
 refine match hf_u65.form with | ⟨saf_u65, scf_u65, eV_⟩ => ?_
 subst eV_
 refine g9 4 ?_
 refine W.ok (ok_mkI pi144 rfl) (W.call (Mp := ((b52, ce9 125 [lV sac_u65 (List.replicate k Nd.zero).length scc_u65, lV sau_u65 (List.replicate k false).length scu_u65, lV saf_u65 (iotaN k).length scf_u65]) :: Mf_u65)) (Mr := (Mc_u65 ++ (Mu_u65 ++ []))) (hinit_fc (least_heap (b := b52) (Tb := 125) (c0 := lV sac_u65 (List.replicate k Nd.zero).length scc_u65) (c1 := lV sau_u65 (List.replicate k false).length scu_u65)) ⟨_, _, rfl, hf_u65⟩ (iota_heap k) (by rw [iota_len]; omega)) rfl (((pmA (pmA pr9)).cons _).trans pr9) ?_)
 intro v69 G66 Ms68 hG66 q67
 refine match q67 with | ⟨e_71, ⟨vf_z70, Mf_z70, e_72, hf_z70⟩⟩ => ?_
 subst e_71
 subst e_72
 have q74 := hf_z70.form
 refine match q74 with | ⟨sa_z70, sc_z70, e_73⟩ => ?_
 subst e_73
 refine W.perm (M' := ((b52, ce9 125 [lV sac_u65 (List.replicate k Nd.zero).length scc_u65, lV sau_u65 (List.replicate k false).length scu_u65, lV sa_z70 (iotaN k).length sc_z70]) :: (Mf_z70 ++ (Mc_u65 ++ (Mu_u65 ++ []))))) ((pr9.cons _).trans pr9).symm (g9 9 ?_)
 refine WC.perm (M' := ((b52, ce9 125 [lV sac_u65 (List.replicate k Nd.zero).length scc_u65, lV sau_u65 (List.replicate k false).length scu_u65, lV sa_z70 (iotaN k).length sc_z70]) :: (Mc_u65 ++ (Mu_u65 ++ (Mf_z70 ++ []))))) (((List.Perm.append_left _ ((List.Perm.append_left _ ((List.Perm.append_left _ pr9).trans pr9)).trans (pmA pr9))).trans (pmA pr9)).cons _) (WC.ret ?_)
 refine ⟨.inr rfl, [_, _], ⟨rfl, rfl, trivial⟩, ((b52, ce9 125 [lV sac_u65 (List.replicate k Nd.zero).length scc_u65, lV sau_u65 (List.replicate k false).length scu_u65, lV sa_z70 (iotaN k).length sc_z70]) :: (Mc_u65 ++ (Mu_u65 ++ (Mf_z70 ++ [])))), sr9.k9, ?_⟩
 exact .inr ⟨om9, _, rfl, ArR.cast (st := (List.replicate k Nd.zero, List.replicate k false)) ⟨_, ⟨_, _, _, _, _, _, rfl, (hc_u65.mono hG66), (hu_u65.mono hG66), hf_z70⟩, by simp, by simp; omega, iota_heap k, List.Perm.of_eq (iota_free k)⟩ (by simp) (by simp)⟩

theorem osetn {G : GH} {b : Nat} {st : List Nd × List Bool} {M : MH} (h : ArR eNode 53 4 3 125 b G st M) (i : Int) {cs : List Value} {x : Nd} (hx : NodeC G cs x) : Fc Tryz.prog 61 [pt9 b, iV i, .agg (List.toArray cs)] G M (fun v G' M' => v = iV (layA st i x).1 ∧ ArR eNode 53 4 3 125 b G' (layA st i x).2 M') := by
  have h0 := h
  obtain ⟨f, ⟨vc, vu, vf, Mc, Mu, Mf, rfl, h1, h2, h3⟩, h4, h5, h6, h7⟩ := h
  exact ssetn_fc h1 h2 h3 i hx h4 h5 h6 h7
theorem oallocn {G : GH} {b : Nat} {st : List Nd × List Bool} {M : MH} (h : ArR eNode 53 4 3 125 b G st M) {cs : List Value} {x : Nd} (hx : NodeC G cs x) : Fc Tryz.prog 60 [pt9 b, .agg (List.toArray cs)] G M (fun v G' M' => v = .tuple #[iV (nextA st x).1.1, iV (nextA st x).1.2] ∧ ArR eNode 53 4 3 125 b G' (nextA st x).2 M') := by
  have h0 := h
  obtain ⟨f, ⟨vc, vu, vf, Mc, Mu, Mf, rfl, h1, h2, h3⟩, h4, h5, h6, h7⟩ := h
  exact sallocn_fc h1 h2 h3 hx h4 h5 h6 h7
theorem ogetn {G : GH} {b : Nat} {st : List Nd × List Bool} {M : MH} (h : ArR eNode 53 4 3 125 b G st M) (i : Int) : Fc Tryz.prog 63 [pt9 b, iV i] G M (fun v G' M' => (∃ cs, v = .tuple #[.agg (List.toArray cs), .bool (hasN st.2 i)] ∧ NodeC G' cs (getA st i Nd.zero)) ∧ M' = M) := by
  have h0 := h
  obtain ⟨f, ⟨vc, vu, vf, Mc, Mu, Mf, rfl, h1, h2, h3⟩, h4, h5, h6, h7⟩ := h
  exact (sgetn_fc h1 h2 h3 i h4).mono fun v G' M' hl ⟨cs, e1, e2, e3⟩ => ⟨⟨cs, e1, e2⟩, e3⟩
theorem oroomn {G : GH} {b : Nat} {st : List Nd × List Bool} {M : MH} (h : ArR eNode 53 4 3 125 b G st M)  : Fc Tryz.prog 102 [pt9 b] G M (fun v G' M' => v = iV ((freeN st.2).length : Int) ∧ M' = M) := by
  have h0 := h
  obtain ⟨f, ⟨vc, vu, vf, Mc, Mu, Mf, rfl, h1, h2, h3⟩, h4, h5, h6, h7⟩ := h
  exact (sroomn_fc h1 h2 h3 h4 h5 h6 h7).mono fun v G' M' hl hq => hq
theorem olistn {G : GH} {b : Nat} {st : List Nd × List Bool} {M : MH} (h : ArR eNode 53 4 3 125 b G st M)  : Fc Tryz.prog 32 [pt9 b] G M (fun v G' M' => SlR eInt G' v (usedN st.2) ∧ M' = M) := by
  have h0 := h
  obtain ⟨f, ⟨vc, vu, vf, Mc, Mu, Mf, rfl, h1, h2, h3⟩, h4, h5, h6, h7⟩ := h
  exact (slistn_fc h1 h2 h3 h4 h5 h6 h7).mono fun v G' M' hl hq => hq
end Go.Proofs.YtfmigmijckdldaaGreat
namespace Go.Proofs.YtfmigmijckdldaaGreat
open Go Go.Fw Go.RowKit
attribute [local irreducible] Ok W WC
theorem erows_fc {G : GH} (ek : Int) (ev : Str) :
    Fc Tryz.prog 177 [.agg #[iV ek, sV ev.b]] G [] (fun v _ _ => v = .bool (decide (ek = 1) || decide (ek = 2))) := by
 refine Fc.go [.tmp 2] Tryz.func177 Tryz.ntmps177 rfl (fun w0 => (g9 2 ?_))
 refine W.box (L := [iV _, sV _]) rfl rfl (fun b1 => (g9 9 ?_))
 refine W.sd 6 (fun h5 p5 => ?_) (fun h5 p5 => ?_)
 ·refine g9 9 ?_
  refine congrArg Value.bool ?_
  simp_all
 refine g9 12 ?_
 refine congrArg Value.bool ?_
 simp_all

theorem rowfits_fc {G : GH} {v_l : Value} {l : List Pair} (h_l : SlR ePair G v_l l) (k : Str) (ek : Int) (ev : Str) (n : Int) (hr : Srt l) :
    Fc Tryz.prog 169 [v_l, sV k.b, .agg #[iV ek, sV ev.b], iV n] G [] (fun v _ _ => v = .bool (fitsN l k (⟨ek, ev⟩ : Eff) n)) := by
 obtain ⟨sa_l, sc_l, rfl⟩ := h_l.form
 refine Fc.go [.tmp 8] Tryz.func169 Tryz.ntmps169 rfl (fun w0 => (g9 2 ?_))
 refine W.box (L := [iV _, sV _]) rfl rfl (fun b2 => (g9 7 ?_))
 refine W.qcall (rfind_fc h_l _ (by assumption)) rfl (g9 11 ?_)
 refine W.sp 18 rfl (fun h14_1 => ?_) (fun h14_1 => ?_)
 ·refine g9 15 ?_
  refine congrArg Value.bool ?_
  simp_all [fitsN]
 refine g9 3 ?_
 refine W.qcall (erows_fc _ _) rfl (g9 4 ?_)
 refine W.sp 23 rfl (fun h21 => ?_) (fun h21 => ?_)
 ·refine g9 10 ?_
  refine congrArg Value.bool ?_
  simp_all [fitsN]
 refine g9 14 ?_
 refine congrArg Value.bool ?_
 simp_all [fitsN]

theorem leaffits_fc {G : GH} {v_l : Value} {l : List Pair} (h_l : SlR ePair G v_l l) (ms : Int) (mk : Int) (mkey : Str) (mhi : Str) (mo : Bool) (mv : Str) (n : Int) (hP : PairsR l) (hk : Msg.fit (⟨ms, mk, mkey, mhi, mo, mv⟩ : Msg)) :
    Fc Tryz.prog 160 [v_l, .agg #[iV ms, iV mk, sV mkey.b, sV mhi.b, .bool mo, sV mv.b], iV n] G [] (fun v _ _ => v = .bool (lfitsN l (⟨ms, mk, mkey, mhi, mo, mv⟩ : Msg) n)) := by
 obtain ⟨sa_l, sc_l, rfl⟩ := h_l.form
 have hk1 := hk.1
 dsimp only at hk1
 have hr := hP.srt
 have hl := h_l.len47
 refine Fc.go [.tmp 6] Tryz.func160 Tryz.ntmps160 rfl (fun w0 => (g9 2 ?_))
 refine W.box (L := [iV _, iV _, sV _, sV _, .bool _, sV _]) rfl rfl (fun b3 => (g9 9 ?_))
 refine W.sd 10 (fun h9 p9 => ?_) (fun h9 p9 => ?_)
 ·refine g9 15 ?_
  refine congrArg Value.bool ?_
  simp_all [lfitsN]
 refine g9 13 ?_
 refine W.qcall (mon_fc ms mk mkey mhi mo mv mkey om9) rfl (g9 3 ?_)
 refine W.qcall (rowfits_fc h_l _ _ _ _ (by assumption)) rfl (g9 6 ?_)
 refine congrArg Value.bool ?_
 simp_all [lfitsN]

theorem fits20_fc {G : GH} {v_l : Value} {l : List Pair} (h_l : SlR ePair G v_l l) (ms : Int) (mk : Int) (mkey : Str) (mhi : Str) (mo : Bool) (mv : Str) (n : Int) :
    Fc Tryz.prog 137 [v_l, .agg #[iV ms, iV mk, sV mkey.b, sV mhi.b, .bool mo, sV mv.b], iV n] G [] (fun v _ _ => v = .bool (rfits20N l (⟨ms, mk, mkey, mhi, mo, mv⟩ : Msg) n)) := by
 obtain ⟨sa_l, sc_l, rfl⟩ := h_l.form
 refine Fc.go [.tmp 6] Tryz.func137 Tryz.ntmps137 rfl (fun w0 => (g9 2 ?_))
 refine W.box (L := [iV _, iV _, sV _, sV _, .bool _, sV _]) rfl rfl (fun b4 => (g9 8 ?_))
 refine W.qcall (rget_fc h_l _) rfl (g9 13 ?_)
 refine W.sd 19 (fun h18 p18 => ?_) (fun h18 p18 => ?_)
 ·refine g9 13 ?_
  refine congrArg Value.bool ?_
  first | (simp_all [rfits20N]; done) | (simp_all [rfits20N]; omega)
 refine g9 4 ?_
 refine W.sp 22 rfl (fun h13_1 => ?_) (fun h13_1 => ?_)
 ·refine g9 10 ?_
  refine congrArg Value.bool ?_
  first | (simp_all [rfits20N]; done) | (simp_all [rfits20N]; omega)
 refine g9 14 ?_
 refine congrArg Value.bool ?_
 first | (simp_all [rfits20N]; done) | (simp_all [rfits20N]; omega)

theorem leaftake_fc {G : GH} {v_l : Value} {l : List Pair} (h_l : SlR ePair G v_l l) (ms : Int) (mk : Int) (mkey : Str) (mhi : Str) (mo : Bool) (mv : Str) (n : Int) (hP : PairsR l) (hn : l.length ≤ 1000000) (hk : Msg.fit (⟨ms, mk, mkey, mhi, mo, mv⟩ : Msg)) :
    Fc Tryz.prog 148 [v_l, .agg #[iV ms, iV mk, sV mkey.b, sV mhi.b, .bool mo, sV mv.b], iV n] G [] (fun v G' M' => M' = [] ∧ ∃ r : List Pair × Bool, r = leafTakeN l (⟨ms, mk, mkey, mhi, mo, mv⟩ : Msg) n ∧ ∃ u0, v = .tuple #[u0, .bool (r.2)] ∧ SlR ePair G' u0 (r.1)) := by
 obtain ⟨sa_l, sc_l, rfl⟩ := h_l.form
 refine Fc.go [.tmp 6, .tmp 7] Tryz.func148 Tryz.ntmps148 rfl (fun w0 => (g9 2 ?_))
 refine W.box (L := [iV _, iV _, sV _, sV _, .bool _, sV _]) rfl rfl (fun b5 => (g9 10 ?_))
 refine W.qcall (leaffits_fc h_l _ _ _ _ _ _ _ (by first | assumption | omega | (simp; omega) | (exact PairsR.fold (by assumption) (by assumption))) (by first | assumption | exact fit_of (by assumption))) rfl (g9 3 ?_)
 refine WC.cond rfl (fun h12 => ?_) (fun h12 => ?_)
 ·refine g9 9 ?_
  refine ⟨rfl, _, (leafTakeN_f (by simpa using h12)).symm, _, rfl, ?_⟩
  · exact SlR.nil
 refine g9 6 ?_
 refine W.cS (mtake_fc h_l _ _ _ _ _ _ (by first | assumption | omega | (simp; omega) | (exact PairsR.fold (by assumption) (by assumption))) (by first | assumption | omega | (simp; omega) | (exact PairsR.fold (by assumption) (by assumption))) (by first | assumption | exact fit_of (by assumption))) rfl (fun sa_hv7 sc_hv7 G6 hG6 hv7 => (g9 6 ?_))
 refine ⟨rfl, _, (leafTakeN_t (by simpa using h12)).symm, _, rfl, ?_⟩
 · exact hv7

end Go.Proofs.YtfmigmijckdldaaGreat
namespace Go.Proofs.YtfmigmijckdldaaGreat
open Go Go.Fw Go.RowKit
attribute [local irreducible] Ok W WC
theorem common_fc {G : GH} (a : Str) (b : Str) :
    Fc Tryz.prog 166 [sV a.b, sV b.b] G [] (fun v _ _ => v = nt9 (commonN a b)) := by
 have ha := a.le
 have hb := b.le
 refine Fc.go [.tmp 4] Tryz.func166 Tryz.ntmps166 rfl (fun w0 => (g9 12 ?_))
 refine WC.loop (X := Nat) (fun k => [(5, nt9 k), (0, sV a.b), (1, sV b.b)]) (fun k _ Ml => Ml = [] ∧ k ≤ a.b.size ∧ k ≤ b.b.size ∧ ∀ i, i < k → a.b[i]? = b.b[i]?) (fun k => a.b.size - k) 0 hs9 ?_ ?_
 ·exact ⟨rfl, om9, om9, fun i hi => by omega⟩
 rintro k gG1 G1 _ hG1 ⟨rfl, hk1, hk2, hk3⟩
 refine g9 8 ?_
 refine W.ok (ok_mini rfl rfl) (g9 2 ?_)
 refine W.sd 13 (fun h12 p12 => ?_) (fun h12 p12 => ?_)
 ·refine g9 5 ?_
  refine W.ok (ok_indexS (i := k) st9 rfl rfl ⟨om9, om9⟩) (g9 5 ?_)
  refine W.ok (ok_indexS (i := k) st9 rfl rfl ⟨om9, om9⟩) (g9 5 ?_)
  refine WC.cd (fun h20 p20 => ?_) (fun h20 p20 => ?_)
  ·refine g9 10 ?_
   exact ⟨Le.rfl, k + 1, hs9, ⟨rfl, om9, om9, same_succ hk3 om9 om9 p20⟩, om9⟩
  refine g9 13 ?_
  refine congrArg (Value.int .i64) ?_
  exact congrArg Nat.cast (commonN_ne' hk3 om9 om9 p20).symm
 refine g9 24 ?_
 refine congrArg (Value.int .i64) ?_
 exact congrArg Nat.cast (commonN_end hk1 hk2 hk3 om9).symm

theorem between_fc {G : GH} (a : Str) (b : Str) :
    Fc Tryz.prog 155 [sV a.b, sV b.b] G [] (fun v _ _ => v = .tuple #[sV (Str.b ((betweenN a b).1)), .bool ((betweenN a b).2)]) := by
 have ha := a.le
 have hb := b.le
 refine Fc.go [.tmp 4, .tmp 5] Tryz.func155 Tryz.ntmps155 rfl (fun w0 => (g9 11 ?_))
 refine W.ok (ok_geqS rfl rfl) (g9 2 ?_)
 refine WC.cond rfl (fun h8 => ?_) (fun h8 => ?_)
 ·refine g9 9 ?_
  show Value.tuple #[Value.string _, Value.bool _] = _
  rw [betweenN_f (by simpa [Str.lt] using h8)]; rfl
 have hlt : a.lt b = true := by simpa [Str.lt] using h8
 have hcm := common_lt hlt
 have hcl := commonN_le a b
 refine g9 7 ?_
 refine W.qcall (common_fc _ _) rfl (g9 1 ?_)
 refine W.ok (ok_sliceS (0) (commonN a b + 1) st9 rfl rfl ⟨_, _, rfl, om9⟩ ⟨om9, om9⟩) (g9 6 ?_)
 show Value.tuple #[Value.string _, Value.bool _] = _
 rw [betweenN_t hlt]

theorem rbetween_fc {G : GH} (a : Str) (b : Str) :
    Fc Tryz.prog 112 [sV a.b, sV b.b] G [] (fun v _ _ => v = .tuple #[sV (Str.b ((betweenN a b).1)), .bool ((betweenN a b).2)]) := by
 have ha := a.le
 have hb := b.le
 refine Fc.go [.tmp 4, .tmp 5] Tryz.func112 Tryz.ntmps112 rfl (fun w0 => (g9 13 ?_))
 refine WC.loop (X := Nat) (fun k => [(6, nt9 k), (0, sV a.b), (1, sV b.b)]) (fun k _ Ml => Ml = [] ∧ ∀ j, j < k → a.lt (b.cut 0 j) = false) (fun k => b.b.size + 1 - k) 0 hs9 ?_ ?_
 ·exact ⟨rfl, fun j h => by omega⟩
 rintro k gG2 G2 _ hG2 ⟨rfl, hk⟩
 refine g9 9 ?_
 refine WC.cd (fun h10 p10 => ?_) (fun h10 p10 => ?_)
 ·refine g9 9 ?_
  refine W.ok (ok_sliceS (0) (k) st9 rfl rfl ⟨_, _, rfl, om9⟩ ⟨om9, om9⟩) (W.qcall (less_fc _ _) rfl (g9 2 ?_))
  refine WC.cond rfl (fun h17 => ?_) (fun h17 => ?_)
  ·refine g9 4 ?_
   refine W.ok (ok_sliceS (0) (k) st9 rfl rfl ⟨_, _, rfl, om9⟩ ⟨om9, om9⟩) (g9 11 ?_)
   show Value.tuple #[Value.string _, Value.bool _] = _
   rw [between_at om9 h17 hk]
  refine g9 9 ?_
  exact ⟨Le.rfl, k + 1, hs9, ⟨rfl, fun j h => by
      by_cases e : j = k
      · subst e; exact h17
      · exact hk j om9⟩, om9⟩
 refine g9 13 ?_
 show Value.tuple #[Value.string _, Value.bool _] = _
 rw [between_no (fun j h => hk j om9)]; rfl

theorem rowsh_fc {G : GH} {v_l : Value} {l : List Pair} (h_l : SlR ePair G v_l l) :
    Fc Tryz.prog 142 [v_l] G [] (fun v G' M' => M' = [] ∧ ∃ r : List Pair × List Pair × Str × Bool, r = rowsN l ∧ ∃ u0 u1, v = .tuple #[u0, u1, sV (Str.b (r.2.2.1)), .bool (r.2.2.2)] ∧ SlR ePair G' u0 (r.1) ∧ SlR ePair G' u1 (r.2.1)) := by
 obtain ⟨sa_l, sc_l, rfl⟩ := h_l.form
 have hl := h_l.len47
 have hlb : l.length * 32 ≤ 140737488355328 := h_l.bytes
 refine Fc.go [.tmp 2, .tmp 3, .tmp 4, .tmp 5] Tryz.func142 Tryz.ntmps142 rfl (fun w0 => (g9 16 ?_))
 refine WC.cd (fun h9 p9 => ?_) (fun h9 p9 => ?_)
 ·refine g9 11 ?_
  refine ⟨rfl, _, (rowsN_f om9).symm, _, _, rfl, ?_, ?_⟩
  · exact SlR.nil
  exact SlR.nil
 refine g9 7 ?_
 refine W.ok (ok_quo' rfl rfl om9 om9 om9) (g9 8 ?_)
 refine h_l.a1 (i := (l.length + 1) / 2 - 1) om9 (fun he3 => (W.ok (ok_indexAddr (i := (l.length + 1) / 2 - 1) sl42 ty92 h_l rfl rfl ⟨om9, om9⟩) (g9 4 ?_)))
 refine h_l.a1 (i := (l.length + 1) / 2) om9 (fun he6 => (W.ok (ok_indexAddr (i := (l.length + 1) / 2) sl42 ty92 h_l rfl rfl ⟨om9, om9⟩) (g9 2 ?_)))
 refine W.qcall (between_fc _ _) rfl (g9 7 ?_)
 refine WC.dw sr9 (d9 [0, 1] ?_)
 have hs9 := SlR.slice h_l (lo := 0) (hi := (l.length + 1) / 2) om9 om9
 refine WD.tk 2 rfl (ok_slice (0) ((l.length + 1) / 2) sl42 ty92 h_l rfl rfl ⟨_, _, rfl, om9⟩ ⟨om9, om9⟩) (d9 [4, 5] ?_)
 have hs10 := SlR.slice h_l (lo := (l.length + 1) / 2) (hi := l.length) om9 om9
 refine WD.tk 6 rfl (ok_slice ((l.length + 1) / 2) (l.length) sl42 ty92 h_l rfl ⟨_, _, rfl, om9⟩ rfl ⟨om9, om9⟩) (d9 [8] ?_)
 refine WD.a1 3 rfl (W.cS (clonep_fc hs9) rfl (fun sa_hv12 sc_hv12 G11 hG11 hv12 => (W.nn (WD.a1 7 rfl (W.cS (clonep_fc (hs10.mono hG11)) rfl (fun sa_hv19 sc_hv19 G18 hG18 hv19 => (W.nn (d9 [9, 10, 11, 12] ?_))))))))
 refine g9 4 ?_
 refine ⟨rfl, _, (rowsN_t om9).symm, _, _, rfl, ?_, ?_⟩
 · exact SlR.cast ((hv12.mono hG18)) (by simp)
 exact SlR.cast (hv19) (by simp)

end Go.Proofs.YtfmigmijckdldaaGreat

namespace Go.Fw
def binsN (p : List Str) (c : List Int) (i : Nat) (k : Str) (v : Int) : List Str × List Int :=
 if c.length ≤ i ∨ (rangeN p (i : Int)).has k = false ∨ k = (rangeN p (i : Int)).lo then ([], []) else ((p.take i ++ [k]) ++ p.drop i, (c.take (i + 1) ++ [v]) ++ c.drop (i + 1))
theorem binsN_0 {p : List Str} {c : List Int} {i : Nat} {k : Str} {v : Int} (h : c.length ≤ i ∨ (rangeN p (i : Int)).has k = false ∨ k = (rangeN p (i : Int)).lo) : binsN p c i k v = ([], []) := if_pos h
theorem binsN_1 {p : List Str} {c : List Int} {i : Nat} {k : Str} {v : Int} (h1 : ¬ c.length ≤ i) (h2 : (rangeN p (i : Int)).has k = true) (h3 : ¬ k = (rangeN p (i : Int)).lo) : binsN p c i k v = ((p.take i ++ [k]) ++ p.drop i, (c.take (i + 1) ++ [v]) ++ c.drop (i + 1)) :=
 if_neg fun h => h.elim h1 (fun h => h.elim (fun h => by rw [h2] at h; cases h) h3)
theorem range_in {p : List Str} {i : Nat} {k : Str} (h : (rangeN p (i : Int)).has k = true) : i ≤ p.length := by
 by_cases h2 : i ≤ p.length
 ·exact h2
 ·rw [rangeN_out (by omega)] at h
  have : Span.zero.has k = false := by
   simp only [Span.zero, Span.has]
   cases h3 : k.lt Str.nil
   ·simp
   ·simp
  rw [this] at h; cases h
theorem range_within {p : List Str} {i : Nat} {k : Str} (h : (rangeN p (i : Int)).has k = true) (h2 : ¬ k = (rangeN p (i : Int)).lo) :
  (∀ h : 0 < i ∧ i - 1 < p.length, (p[i - 1]'h.2).lt k = true) ∧ (∀ h : i < p.length, k.lt p[i] = true) := by
 have hi := range_in h
 have e := rangeN_in (l := p) (i := (i : Int)) (by omega) (by omega)
 have h0 := h
 rw [e, norm_has] at h
 simp only [Span.has, Bool.and_eq_true, Bool.or_eq_true, Bool.not_eq_true', decide_eq_true_eq] at h
 obtain ⟨h3, h4⟩ := h
 have hhi : ∀ h : i < p.length, k.lt p[i] = true := fun hlt => by
  rcases h4 with h4 | h4
  ·omega
  ·rw [show ((i : Int)).toNat = i from rfl, getD_in (d := Str.nil) hlt] at h4; exact h4
 refine ⟨fun ⟨h5, h6⟩ => ?_, hhi⟩
 rw [if_pos (by omega), show ((i : Int) - 1).toNat = i - 1 from by omega, getD_in (d := Str.nil) h6] at h3
 cases hlt : (p[i - 1]'h6).lt k
 ·exfalso
  have hke : k = p[i - 1]'h6 := Str.lt_total h3 hlt
  apply h2
  rw [e, if_pos (by omega), show ((i : Int) - 1).toNat = i - 1 from by omega, getD_in (d := Str.nil) h6]
  unfold Span.norm
  split
  ·rename_i hem
   exfalso
   simp only [Span.empty, Bool.and_eq_true, Bool.not_eq_true', decide_eq_false_iff_not] at hem
   have := h4.resolve_left (by omega)
   rw [hke] at this
   simp_all
  ·split <;> exact hke
 ·rfl
theorem bins_right {p : List Str} {c : List Int} {i : Nat} {k : Str} {v : Int} (hr : rightN p c.length = true) (hi : i < c.length) (h : (rangeN p (i : Int)).has k = true) (h2 : ¬ k = (rangeN p (i : Int)).lo) :
  rightN ((p.take i ++ [k]) ++ p.drop i) ((c.take (i + 1) ++ [v]) ++ c.drop (i + 1)).length = true := by
 obtain ⟨hp, hn⟩ := rightN_spec hr
 obtain ⟨h3, h4⟩ := range_within h h2
 have hi' := range_in h
 refine rightN_of (rising_iff.2 fun j hj => ?_) (by simp; omega)
 have hl : ((p.take i ++ [k]) ++ p.drop i).length = p.length + 1 := by simp; omega
 have get : ∀ q (hq : q < ((p.take i ++ [k]) ++ p.drop i).length), ((p.take i ++ [k]) ++ p.drop i)[q] = if h : q < i then p[q]'(by omega) else if h : q = i then k else p[q - 1]'(by omega) := fun q hq => by
  by_cases h5 : q < i
  ·rw [dif_pos h5, List.getElem_append_left (by simp; omega), List.getElem_append_left (by simp; omega), List.getElem_take]
  ·rw [dif_neg h5]
   by_cases h6 : q = i
   ·rw [dif_pos h6, List.getElem_append_left (by simp; omega), List.getElem_append_right (by simp; omega)]; simp
   ·rw [dif_neg h6, List.getElem_append_right (by simp; omega), List.getElem_drop]
    congr 1; simp; omega
 rw [get, get]
 have hp' := rising_iff.1 hp
 by_cases a : j + 1 < i
 ·rw [dif_pos (by omega), dif_pos a]; exact hp' j (by omega)
 ·by_cases b : j + 1 = i
  ·rw [dif_pos (by omega), dif_neg (by omega), dif_pos b]
   have := h3 ⟨by omega, by omega⟩
   simpa only [show i - 1 = j from by omega] using this
  ·by_cases d : j = i
   ·rw [dif_neg (by omega), dif_pos d, dif_neg (by omega), dif_neg (by omega)]
    have := h4 (by omega)
    simpa only [show j + 1 - 1 = i from by omega] using this
   ·rw [dif_neg (by omega), dif_neg d, dif_neg (by omega), dif_neg (by omega)]
    have := hp' (j - 1) (by omega)
    simpa only [show j - 1 + 1 = j + 1 - 1 from by omega] using this
end Go.Fw
