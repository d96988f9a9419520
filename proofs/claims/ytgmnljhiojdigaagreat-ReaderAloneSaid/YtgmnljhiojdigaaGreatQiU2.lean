/- Arenas made anew, and what is done with an arena. -/
import Derived.Test.YtgmnljhiojdigaaGreatQiZd
set_option maxRecDepth 100000
set_option maxHeartbeats 1600000
set_option linter.unusedVariables false
set_option linter.unusedSimpArgs false
set_option linter.unnecessarySimpa false
namespace Go.Proofs.YtgmnljhiojdigaaGreat
open Go Go.Fw Go.RowKit
attribute [local irreducible] Ok W WC
theorem snewn_fc {G : GH} (n : Int) :
    Fc Tryz.prog 86 [iV n] G [] (fun v G' M' => (¬ (1 ≤ n ∧ n ≤ 4096) ∧ v = .tuple #[.pointer none, iV 2] ∧ M' = []) ∨ ((1 ≤ n ∧ n ≤ 4096) ∧ ∃ b, v = .tuple #[pt9 b, iV 0] ∧ ArR eNode 43 4 3 150 b G' (List.replicate n.toNat Nd.zero, List.replicate n.toNat false) M')) := by
 refine Fc.go [.tmp 2, .tmp 3] Tryz.func86 Tryz.ntmps86 rfl (fun w0 => (g9 12 ?_))
 refine W.sd 8 (fun h7 p7 => ?_) (fun h7 p7 => ?_)
 ·refine g9 14 ?_
  refine ⟨.inr rfl, [_, _], ⟨rfl, rfl, trivial⟩, [], sr9, ?_⟩
  exact .inl ⟨om9, rfl, rfl⟩
 refine g9 7 ?_
 refine WC.cd (fun h10 p10 => ?_) (fun h10 p10 => ?_)
 ·refine g9 8 ?_
  refine ⟨.inr rfl, [_, _], ⟨rfl, rfl, trivial⟩, [], sr9, ?_⟩
  exact .inl ⟨om9, rfl, rfl⟩
 obtain ⟨m, rfl⟩ : ∃ m : Nat, n = (m : Int) := ⟨n.toNat, om9⟩
 refine g9 3 ?_
 refine WC.dw sr9 (d9 [0, 2] ?_)
 refine WD.any [1, 3] (by kernel_rfl) rfl ⟨WD.ap ?_, WD.ap ?_, trivial⟩
 ·refine W.mkSl (e := eNode) (a0 := Nd.zero) (n := (m)) sl24 ty43 zr43 rfl by43 (⟨_, _, _, _, _, _, _, _, rfl, SlR.nil, SlR.nil, SlR.nil, SlR.nil, Nd.zero_ok⟩) rfl rfl (by first | (show _ * 152 ≤ 140737488355328; omega) | (show _ * 10 ≤ 16777216; omega) | (show _ * 1 ≤ 140737488355328; omega) | (show _ * 1 ≤ 16777216; omega)) (by first | (show _ * 152 ≤ 140737488355328; omega) | (show _ * 10 ≤ 16777216; omega) | (show _ * 1 ≤ 140737488355328; omega) | (show _ * 1 ≤ 16777216; omega)) (fun v1 Ms2 ho3 => ?_)
  have q7 := ho3.form
  refine match q7 with | ⟨sa4, sc5, e_6⟩ => ?_
  subst e_6
  refine W.nn (WD.a1 3 rfl (W.mkSl (e := eBool) (a0 := false) (n := (m)) sl147 ty4 zr4 rfl by4 (rfl) rfl rfl (by first | (show _ * 152 ≤ 140737488355328; omega) | (show _ * 10 ≤ 16777216; omega) | (show _ * 1 ≤ 140737488355328; omega) | (show _ * 1 ≤ 16777216; omega)) (by first | (show _ * 152 ≤ 140737488355328; omega) | (show _ * 10 ≤ 16777216; omega) | (show _ * 1 ≤ 140737488355328; omega) | (show _ * 1 ≤ 16777216; omega)) (fun v8 Ms9 ho10 => ?_)))
  have q14 := ho10.form
  refine match q14 with | ⟨sa11, sc12, e_13⟩ => ?_
  subst e_13
  refine W.nn (WD.tk 4 rfl (ok_build (L := [lV _ _ _, lV _ _ _, lV _ _ _]) pl150 zr150 rfl rfl rfl) (WD.a1 5 rfl (W.box (L := [lV _ _ _, lV _ _ _, lV _ _ _]) rfl rfl (fun b15 => (W.nn (d9 [6] ?_))))))
  refine g9 4 ?_
  have hR16 : ArP eNode 43 4 3 150 b15 G (List.replicate m Nd.zero, List.replicate m false, iotaN 0) ((b15, ce9 150 [lV sa4 ((List.replicate ((m)) Nd.zero)).length sc5, lV sa11 ((List.replicate ((m)) false)).length sc12, lV none 0 0]) :: (Ms2 ++ (Ms9 ++ []))) := ⟨_, _, _, _, _, _, rfl, ho3, ho10, OwnR.nil⟩
  refine WC.perm (M' := (((b15, ce9 150 [lV sa4 ((List.replicate ((m)) Nd.zero)).length sc5, lV sa11 ((List.replicate ((m)) false)).length sc12, lV none 0 0]) :: (Ms2 ++ (Ms9 ++ []))) ++ [])) (pr9.symm.trans ((((pmF ((pmF pr9).trans pr9)).trans (pmA pr9)).cons _).trans pr9)) (g9 6 ?_)
  refine WC.loop (X := (Nat) × MH) (fun k => [(19, nt9 k.1), (18, nt9 m), (4, pt9 b15)]) (fun k G Ml => Ml = (k.2 ++ []) ∧ ArP eNode 43 4 3 150 b15 G ((List.replicate m Nd.zero, List.replicate m false, iotaN k.1)) k.2 ∧ k.1 ≤ m) (fun k => m - k.1) (0, ((b15, ce9 150 [lV sa4 ((List.replicate ((m)) Nd.zero)).length sc5, lV sa11 ((List.replicate ((m)) false)).length sc12, lV none 0 0]) :: (Ms2 ++ (Ms9 ++ [])))) hs9 ?_ ?_
  ·exact ⟨rfl, (by exact hR16), om9⟩
  rintro ⟨k, M_4⟩ gG17 G17 _ hG17 ⟨rfl, ho_4, hk⟩
  try dsimp only at ho_4 hk
  refine WC.fr (f := setL gG17 [(19, nt9 k), (18, nt9 m), (4, pt9 b15)]) rfl (g9 6 ?_)
  refine WC.cd (fun h20 p20 => ?_) (fun h20 p20 => ?_)
  ·refine g9 10 ?_
   refine match ho_4 with | ⟨vc_u18, vu_u18, vf_u18, Mc_u18, Mu_u18, Mf_u18, eM_, hc_u18, hu_u18, hf_u18⟩ => ?_
   subst eM_
   refine WC.perm (M' := ((b15, ce9 150 [vc_u18, vu_u18, vf_u18]) :: (Mc_u18 ++ (Mu_u18 ++ (Mf_u18 ++ []))))) ((pmF (pmF pr9)).cons _).symm ?_
   dsimp only at hc_u18 hu_u18 hf_u18
   refine match hc_u18.form with | ⟨sac_u18, scc_u18, eV_⟩ => ?_
   subst eV_
   refine match hu_u18.form with | ⟨sau_u18, scu_u18, eV_⟩ => ?_
   subst eV_
   refine match hf_u18.form with | ⟨saf_u18, scf_u18, eV_⟩ => ?_
   subst eV_
   refine g9 7 ?_
   refine W.lit (e := eInt) (l := [((k : Nat) : Int)]) (css := [[iV _]]) sl148 ty3 zr3 rfl rfl rfl rfl rfl rfl ⟨⟨rfl, om9, om9⟩, trivial⟩ (fun bl19 G19 hG19 hv19 => (W.app (e := eInt) sl148 ty3 zr3 rfl by3 rfl rfl ((hf_u18.mono hG19)) (hv19) (pmC (pmA (pmA pr9))) (by show (_ + 1) * 8 ≤ _; rw [iota_len]; omega) (fun v20 Ms21 ho22 => (W.perm (pmC pr9).symm ?_))))
   have q26 := ho22.form
   refine match q26 with | ⟨sa23, sc24, e_25⟩ => ?_
   subst e_25
   refine g9 6 ?_
   have hR27 : ArP eNode 43 4 3 150 b15 G19 (List.replicate m Nd.zero, List.replicate m false, iotaN (k + 1)) ((b15, ce9 150 [lV sac_u18 (List.replicate m Nd.zero).length scc_u18, lV sau_u18 (List.replicate m false).length scu_u18, lV sa23 ((iotaN k ++ [((k : Nat) : Int)])).length sc24]) :: (Mc_u18 ++ (Mu_u18 ++ Ms21))) := ⟨_, _, _, _, _, _, rfl, (hc_u18.mono hG19), (hu_u18.mono hG19), (by rw [iota_succ]; exact ho22)⟩
   refine WC.perm (M' := (((b15, ce9 150 [lV sac_u18 (List.replicate m Nd.zero).length scc_u18, lV sau_u18 (List.replicate m false).length scu_u18, lV sa23 ((iotaN k ++ [((k : Nat) : Int)])).length sc24]) :: (Mc_u18 ++ (Mu_u18 ++ Ms21))) ++ [])) (pr9.symm.trans ((((pmF ((pmF pr9).trans (pmA pr9))).trans (pmA pr9)).cons _).trans pr9)) (g9 5 ?_)
   exact ⟨hG19, (k + 1, ((b15, ce9 150 [lV sac_u18 (List.replicate m Nd.zero).length scc_u18, lV sau_u18 (List.replicate m false).length scu_u18, lV sa23 ((iotaN k ++ [((k : Nat) : Int)])).length sc24]) :: (Mc_u18 ++ (Mu_u18 ++ Ms21)))), hs9, ⟨rfl, (by exact hR27), om9⟩, om9⟩
  refine g9 6 ?_
  obtain rfl : k = m := by omega
  refine match ho_4 with | ⟨vc_u28, vu_u28, vf_u28, Mc_u28, Mu_u28, Mf_u28, eM_, hc_u28, hu_u28, hf_u28⟩ => ?_
  subst eM_
  refine WC.perm (M' := ((b15, ce9 150 [vc_u28, vu_u28, vf_u28]) :: (Mc_u28 ++ (Mu_u28 ++ (Mf_u28 ++ []))))) ((pmF (pmF pr9)).cons _).symm ?_
  dsimp only at hc_u28 hu_u28 hf_u28
  refine match hc_u28.form with | ⟨sac_u28, scc_u28, eV_⟩ => ?_
  subst eV_
  refine match hu_u28.form with | ⟨sau_u28, scu_u28, eV_⟩ => ?_
  subst eV_
  refine match hf_u28.form with | ⟨saf_u28, scf_u28, eV_⟩ => ?_
  subst eV_
  refine g9 4 ?_
  refine W.ok (ok_mkI pi178 rfl) (W.call (Mp := ((b15, ce9 150 [lV sac_u28 (List.replicate k Nd.zero).length scc_u28, lV sau_u28 (List.replicate k false).length scu_u28, lV saf_u28 (iotaN k).length scf_u28]) :: Mf_u28)) (Mr := (Mc_u28 ++ (Mu_u28 ++ []))) (hinit_fc (least_heap (b := b15) (Tb := 150) (c0 := lV sac_u28 (List.replicate k Nd.zero).length scc_u28) (c1 := lV sau_u28 (List.replicate k false).length scu_u28)) ⟨_, _, rfl, hf_u28⟩ (iota_heap k) (by rw [iota_len]; omega)) rfl (((pmA (pmA pr9)).cons _).trans pr9) ?_)
  intro v32 G29 Ms31 hG29 q30
  refine match q30 with | ⟨e_34, ⟨vf_z33, Mf_z33, e_35, hf_z33⟩⟩ => ?_
  subst e_34
  subst e_35
  have q37 := hf_z33.form
  refine match q37 with | ⟨sa_z33, sc_z33, e_36⟩ => ?_
  subst e_36
  refine W.perm (M' := ((b15, ce9 150 [lV sac_u28 (List.replicate k Nd.zero).length scc_u28, lV sau_u28 (List.replicate k false).length scu_u28, lV sa_z33 (iotaN k).length sc_z33]) :: (Mf_z33 ++ (Mc_u28 ++ (Mu_u28 ++ []))))) ((pr9.cons _).trans pr9).symm (g9 9 ?_)
  refine WC.perm (M' := ((b15, ce9 150 [lV sac_u28 (List.replicate k Nd.zero).length scc_u28, lV sau_u28 (List.replicate k false).length scu_u28, lV sa_z33 (iotaN k).length sc_z33]) :: (Mc_u28 ++ (Mu_u28 ++ (Mf_z33 ++ []))))) (((List.Perm.append_left _ ((List.Perm.append_left _ ((List.Perm.append_left _ pr9).trans pr9)).trans (pmA pr9))).trans (pmA pr9)).cons _) (WC.ret ?_)
  refine ⟨.inr rfl, [_, _], ⟨rfl, rfl, trivial⟩, ((b15, ce9 150 [lV sac_u28 (List.replicate k Nd.zero).length scc_u28, lV sau_u28 (List.replicate k false).length scu_u28, lV sa_z33 (iotaN k).length sc_z33]) :: (Mc_u28 ++ (Mu_u28 ++ (Mf_z33 ++ [])))), sr9.k9, ?_⟩
  exact .inr ⟨om9, _, rfl, ArR.cast (st := (List.replicate k Nd.zero, List.replicate k false)) ⟨_, ⟨_, _, _, _, _, _, rfl, (hc_u28.mono hG29), (hu_u28.mono hG29), hf_z33⟩, by simp, by simp; omega, iota_heap k, List.Perm.of_eq (iota_free k)⟩ (by simp) (by simp)⟩
 refine W.mkSl (e := eBool) (a0 := false) (n := (m)) sl147 ty4 zr4 rfl by4 (rfl) rfl rfl (by first | (show _ * 152 ≤ 140737488355328; omega) | (show _ * 10 ≤ 16777216; omega) | (show _ * 1 ≤ 140737488355328; omega) | (show _ * 1 ≤ 16777216; omega)) (by first | (show _ * 152 ≤ 140737488355328; omega) | (show _ * 10 ≤ 16777216; omega) | (show _ * 1 ≤ 140737488355328; omega) | (show _ * 1 ≤ 16777216; omega)) (fun v38 Ms39 ho40 => ?_)
 have q44 := ho40.form
 refine match q44 with | ⟨sa41, sc42, e_43⟩ => ?_
 subst e_43
 refine W.nn (WD.a1 1 rfl (W.mkSl (e := eNode) (a0 := Nd.zero) (n := (m)) sl24 ty43 zr43 rfl by43 (⟨_, _, _, _, _, _, _, _, rfl, SlR.nil, SlR.nil, SlR.nil, SlR.nil, Nd.zero_ok⟩) rfl rfl (by first | (show _ * 152 ≤ 140737488355328; omega) | (show _ * 10 ≤ 16777216; omega) | (show _ * 1 ≤ 140737488355328; omega) | (show _ * 1 ≤ 16777216; omega)) (by first | (show _ * 152 ≤ 140737488355328; omega) | (show _ * 10 ≤ 16777216; omega) | (show _ * 1 ≤ 140737488355328; omega) | (show _ * 1 ≤ 16777216; omega)) (fun v45 Ms46 ho47 => ?_)))
 have q51 := ho47.form
 refine match q51 with | ⟨sa48, sc49, e_50⟩ => ?_
 subst e_50
 refine W.nn (WD.tk 4 rfl (ok_build (L := [lV _ _ _, lV _ _ _, lV _ _ _]) pl150 zr150 rfl rfl rfl) (WD.a1 5 rfl (W.box (L := [lV _ _ _, lV _ _ _, lV _ _ _]) rfl rfl (fun b52 => (W.nn (d9 [6] ?_))))))
 refine g9 4 ?_
 have hR53 : ArP eNode 43 4 3 150 b52 G (List.replicate m Nd.zero, List.replicate m false, iotaN 0) ((b52, ce9 150 [lV sa48 ((List.replicate ((m)) Nd.zero)).length sc49, lV sa41 ((List.replicate ((m)) false)).length sc42, lV none 0 0]) :: (Ms46 ++ (Ms39 ++ []))) := ⟨_, _, _, _, _, _, rfl, ho47, ho40, OwnR.nil⟩
 refine WC.perm (M' := (((b52, ce9 150 [lV sa48 ((List.replicate ((m)) Nd.zero)).length sc49, lV sa41 ((List.replicate ((m)) false)).length sc42, lV none 0 0]) :: (Ms46 ++ (Ms39 ++ []))) ++ [])) (pr9.symm.trans ((((pmF ((pmF pr9).trans pr9)).trans pr9).cons _).trans pr9)) (g9 6 ?_)
 refine WC.loop (X := (Nat) × MH) (fun k => [(19, nt9 k.1), (18, nt9 m), (4, pt9 b52)]) (fun k G Ml => Ml = (k.2 ++ []) ∧ ArP eNode 43 4 3 150 b52 G ((List.replicate m Nd.zero, List.replicate m false, iotaN k.1)) k.2 ∧ k.1 ≤ m) (fun k => m - k.1) (0, ((b52, ce9 150 [lV sa48 ((List.replicate ((m)) Nd.zero)).length sc49, lV sa41 ((List.replicate ((m)) false)).length sc42, lV none 0 0]) :: (Ms46 ++ (Ms39 ++ [])))) hs9 ?_ ?_
 ·exact ⟨rfl, (by exact hR53), om9⟩
 rintro ⟨k, M_4⟩ gG54 G54 _ hG54 ⟨rfl, ho_4, hk⟩
 try dsimp only at ho_4 hk
 refine WC.fr (f := setL gG54 [(19, nt9 k), (18, nt9 m), (4, pt9 b52)]) rfl (g9 6 ?_)
 refine WC.cd (fun h20 p20 => ?_) (fun h20 p20 => ?_)
 ·refine g9 10 ?_
  refine match ho_4 with | ⟨vc_u55, vu_u55, vf_u55, Mc_u55, Mu_u55, Mf_u55, eM_, hc_u55, hu_u55, hf_u55⟩ => ?_
  subst eM_
  refine WC.perm (M' := ((b52, ce9 150 [vc_u55, vu_u55, vf_u55]) :: (Mc_u55 ++ (Mu_u55 ++ (Mf_u55 ++ []))))) ((pmF (pmF pr9)).cons _).symm ?_
  dsimp only at hc_u55 hu_u55 hf_u55
  refine match hc_u55.form with | ⟨sac_u55, scc_u55, eV_⟩ => ?_
  subst eV_
  refine match hu_u55.form with | ⟨sau_u55, scu_u55, eV_⟩ => ?_
  subst eV_
  refine match hf_u55.form with | ⟨saf_u55, scf_u55, eV_⟩ => ?_
  subst eV_
  refine g9 7 ?_
  refine W.lit (e := eInt) (l := [((k : Nat) : Int)]) (css := [[iV _]]) sl148 ty3 zr3 rfl rfl rfl rfl rfl rfl ⟨⟨rfl, om9, om9⟩, trivial⟩ (fun bl56 G56 hG56 hv56 => (W.app (e := eInt) sl148 ty3 zr3 rfl by3 rfl rfl ((hf_u55.mono hG56)) (hv56) (pmC (pmA (pmA pr9))) (by show (_ + 1) * 8 ≤ _; rw [iota_len]; omega) (fun v57 Ms58 ho59 => (W.perm (pmC pr9).symm ?_))))
  have q63 := ho59.form
  refine match q63 with | ⟨sa60, sc61, e_62⟩ => ?_
  subst e_62
  refine g9 6 ?_
  have hR64 : ArP eNode 43 4 3 150 b52 G56 (List.replicate m Nd.zero, List.replicate m false, iotaN (k + 1)) ((b52, ce9 150 [lV sac_u55 (List.replicate m Nd.zero).length scc_u55, lV sau_u55 (List.replicate m false).length scu_u55, lV sa60 ((iotaN k ++ [((k : Nat) : Int)])).length sc61]) :: (Mc_u55 ++ (Mu_u55 ++ Ms58))) := ⟨_, _, _, _, _, _, rfl, (hc_u55.mono hG56), (hu_u55.mono hG56), (by rw [iota_succ]; exact ho59)⟩
  refine WC.perm (M' := (((b52, ce9 150 [lV sac_u55 (List.replicate m Nd.zero).length scc_u55, lV sau_u55 (List.replicate m false).length scu_u55, lV sa60 ((iotaN k ++ [((k : Nat) : Int)])).length sc61]) :: (Mc_u55 ++ (Mu_u55 ++ Ms58))) ++ [])) (pr9.symm.trans ((((pmF ((pmF pr9).trans (pmA pr9))).trans (pmA pr9)).cons _).trans pr9)) (g9 5 ?_)
  exact ⟨hG56, (k + 1, ((b52, ce9 150 [lV sac_u55 (List.replicate m Nd.zero).length scc_u55, lV sau_u55 (List.replicate m false).length scu_u55, lV sa60 ((iotaN k ++ [((k : Nat) : Int)])).length sc61]) :: (Mc_u55 ++ (Mu_u55 ++ Ms58)))), hs9, ⟨rfl, (by exact hR64), om9⟩, om9⟩
 refine g9 6 ?_
 obtain rfl : k = m := by omega
 refine match ho_4 with | ⟨vc_u65, vu_u65, vf_u65, Mc_u65, Mu_u65, Mf_u65, eM_, hc_u65, hu_u65, hf_u65⟩ => ?_
 subst eM_
 refine WC.perm (M' := ((b52, ce9 150 [vc_u65, vu_u65, vf_u65]) :: (Mc_u65 ++ (Mu_u65 ++ (Mf_u65 ++ []))))) ((pmF (pmF pr9)).cons _).symm ?_
 dsimp only at hc_u65 hu_u65 hf_u65
 refine match hc_u65.form with | ⟨sac_u65, scc_u65, eV_⟩ => ?_
 subst eV_
 refine match hu_u65.form with | ⟨sau_u65, scu_u65, eV_⟩ => ?_
 subst eV_
 refine match hf_u65.form with | ⟨saf_u65, scf_u65, eV_⟩ => ?_
 subst eV_
 refine g9 4 ?_
 refine W.ok (ok_mkI pi178 rfl) (W.call (Mp := ((b52, ce9 150 [lV sac_u65 (List.replicate k Nd.zero).length scc_u65, lV sau_u65 (List.replicate k false).length scu_u65, lV saf_u65 (iotaN k).length scf_u65]) :: Mf_u65)) (Mr := (Mc_u65 ++ (Mu_u65 ++ []))) (hinit_fc (least_heap (b := b52) (Tb := 150) (c0 := lV sac_u65 (List.replicate k Nd.zero).length scc_u65) (c1 := lV sau_u65 (List.replicate k false).length scu_u65)) ⟨_, _, rfl, hf_u65⟩ (iota_heap k) (by rw [iota_len]; omega)) rfl (((pmA (pmA pr9)).cons _).trans pr9) ?_)
 intro v69 G66 Ms68 hG66 q67
 refine match q67 with | ⟨e_71, ⟨vf_z70, Mf_z70, e_72, hf_z70⟩⟩ => ?_
 subst e_71
 subst e_72
 have q74 := hf_z70.form
 refine match q74 with | ⟨sa_z70, sc_z70, e_73⟩ => ?_
 subst e_73
 refine W.perm (M' := ((b52, ce9 150 [lV sac_u65 (List.replicate k Nd.zero).length scc_u65, lV sau_u65 (List.replicate k false).length scu_u65, lV sa_z70 (iotaN k).length sc_z70]) :: (Mf_z70 ++ (Mc_u65 ++ (Mu_u65 ++ []))))) ((pr9.cons _).trans pr9).symm (g9 9 ?_)
 refine WC.perm (M' := ((b52, ce9 150 [lV sac_u65 (List.replicate k Nd.zero).length scc_u65, lV sau_u65 (List.replicate k false).length scu_u65, lV sa_z70 (iotaN k).length sc_z70]) :: (Mc_u65 ++ (Mu_u65 ++ (Mf_z70 ++ []))))) (((List.Perm.append_left _ ((List.Perm.append_left _ ((List.Perm.append_left _ pr9).trans pr9)).trans (pmA pr9))).trans (pmA pr9)).cons _) (WC.ret ?_)
 refine ⟨.inr rfl, [_, _], ⟨rfl, rfl, trivial⟩, ((b52, ce9 150 [lV sac_u65 (List.replicate k Nd.zero).length scc_u65, lV sau_u65 (List.replicate k false).length scu_u65, lV sa_z70 (iotaN k).length sc_z70]) :: (Mc_u65 ++ (Mu_u65 ++ (Mf_z70 ++ [])))), sr9.k9, ?_⟩
 exact .inr ⟨om9, _, rfl, ArR.cast (st := (List.replicate k Nd.zero, List.replicate k false)) ⟨_, ⟨_, _, _, _, _, _, rfl, (hc_u65.mono hG66), (hu_u65.mono hG66), hf_z70⟩, by simp, by simp; omega, iota_heap k, List.Perm.of_eq (iota_free k)⟩ (by simp) (by simp)⟩

theorem osetn {G : GH} {b : Nat} {st : List Nd × List Bool} {M : MH} (h : ArR eNode 43 4 3 150 b G st M) (i : Int) {cs : List Value} {x : Nd} (hx : NodeC G cs x) : Fc Tryz.prog 89 [pt9 b, iV i, .agg (List.toArray cs)] G M (fun v G' M' => v = iV (layA st i x).1 ∧ ArR eNode 43 4 3 150 b G' (layA st i x).2 M') := by
  have h0 := h
  obtain ⟨f, ⟨vc, vu, vf, Mc, Mu, Mf, rfl, h1, h2, h3⟩, h4, h5, h6, h7⟩ := h
  exact ssetn_fc h1 h2 h3 i hx h4 h5 h6 h7
theorem oallocn {G : GH} {b : Nat} {st : List Nd × List Bool} {M : MH} (h : ArR eNode 43 4 3 150 b G st M) {cs : List Value} {x : Nd} (hx : NodeC G cs x) : Fc Tryz.prog 88 [pt9 b, .agg (List.toArray cs)] G M (fun v G' M' => v = .tuple #[iV (nextA st x).1.1, iV (nextA st x).1.2] ∧ ArR eNode 43 4 3 150 b G' (nextA st x).2 M') := by
  have h0 := h
  obtain ⟨f, ⟨vc, vu, vf, Mc, Mu, Mf, rfl, h1, h2, h3⟩, h4, h5, h6, h7⟩ := h
  exact sallocn_fc h1 h2 h3 hx h4 h5 h6 h7
theorem ogetn {G : GH} {b : Nat} {st : List Nd × List Bool} {M : MH} (h : ArR eNode 43 4 3 150 b G st M) (i : Int) : Fc Tryz.prog 80 [pt9 b, iV i] G M (fun v G' M' => (∃ cs, v = .tuple #[.agg (List.toArray cs), .bool (hasN st.2 i)] ∧ NodeC G' cs (getA st i Nd.zero)) ∧ M' = M) := by
  have h0 := h
  obtain ⟨f, ⟨vc, vu, vf, Mc, Mu, Mf, rfl, h1, h2, h3⟩, h4, h5, h6, h7⟩ := h
  exact (sgetn_fc h1 h2 h3 i h4).mono fun v G' M' hl ⟨cs, e1, e2, e3⟩ => ⟨⟨cs, e1, e2⟩, e3⟩
theorem olistn {G : GH} {b : Nat} {st : List Nd × List Bool} {M : MH} (h : ArR eNode 43 4 3 150 b G st M)  : Fc Tryz.prog 50 [pt9 b] G M (fun v G' M' => SlR eInt G' v (usedN st.2) ∧ M' = M) := by
  have h0 := h
  obtain ⟨f, ⟨vc, vu, vf, Mc, Mu, Mf, rfl, h1, h2, h3⟩, h4, h5, h6, h7⟩ := h
  exact (slistn_fc h1 h2 h3 h4 h5 h6 h7).mono fun v G' M' hl hq => hq
theorem clones3_fc {G : GH} {v_a : Value} {a : List Str} (h_a : SlR eStr G v_a a) :
    Fc Tryz.prog 104 [v_a] G [] (fun v G' M' => M' = [] ∧ ∃ u0, v = u0 ∧ SlR eStr G' u0 (a)) := by
 obtain ⟨sa_a, sc_a, rfl⟩ := h_a.form
 have ha := h_a.bytes
 refine Fc.go [.tmp 2] Tryz.func104 Tryz.ntmps104 rfl (fun w0 => (g9 9 ?_))
 refine W.ok (ok_eqlNil sl38 rfl rfl) (g9 2 ?_)
 refine WC.cond rfl (fun h4 => ?_) (fun h4 => ?_)
 ·have hn := SlR.isNone h_a h4
  subst hn
  refine g9 8 ?_
  refine ⟨rfl, _, rfl, ?_⟩
  · exact SlR.nil
 refine g9 4 ?_
 refine W.lit0 (e := eStr) sl38 ty9 zr9 rfl (fun v1 Ms2 ho3 => (W.mv (W.app (e := eStr) sl38 ty9 zr9 rfl by9 rfl rfl (ho3) (h_a) pr9 (by simpa using ha) (fun v4 Ms5 ho6 => (g9 3 ?_)))))
 refine WC.giveO ho6 pr9 (fun G7 hG7 hv7 => (g9 2 ?_))
 refine ⟨rfl, _, rfl, ?_⟩
 · exact hv7

theorem clonei3_fc {G : GH} {v_a : Value} {a : List Int} (h_a : SlR eInt G v_a a) :
    Fc Tryz.prog 105 [v_a] G [] (fun v G' M' => M' = [] ∧ ∃ u0, v = u0 ∧ SlR eInt G' u0 (a)) := by
 obtain ⟨sa_a, sc_a, rfl⟩ := h_a.form
 have ha := h_a.bytes
 refine Fc.go [.tmp 2] Tryz.func105 Tryz.ntmps105 rfl (fun w0 => (g9 9 ?_))
 refine W.ok (ok_eqlNil sl39 rfl rfl) (g9 2 ?_)
 refine WC.cond rfl (fun h4 => ?_) (fun h4 => ?_)
 ·have hn := SlR.isNone h_a h4
  subst hn
  refine g9 8 ?_
  refine ⟨rfl, _, rfl, ?_⟩
  · exact SlR.nil
 refine g9 4 ?_
 refine W.lit0 (e := eInt) sl39 ty3 zr3 rfl (fun v8 Ms9 ho10 => (W.mv (W.app (e := eInt) sl39 ty3 zr3 rfl by3 rfl rfl (ho10) (h_a) pr9 (by simpa using ha) (fun v11 Ms12 ho13 => (g9 3 ?_)))))
 refine WC.giveO ho13 pr9 (fun G14 hG14 hv14 => (g9 2 ?_))
 refine ⟨rfl, _, rfl, ?_⟩
 · exact hv14

theorem ncopy3_fc {G : GH} {cs_a : List Value} {a : Nd} (h_a : NodeC G cs_a a) :
    Fc Tryz.prog 81 [.agg (List.toArray cs_a)] G [] (fun v G' M' => M' = [] ∧ ∃ u0, v = .agg (List.toArray u0) ∧ NodeC G' u0 (a)) := by
 obtain ⟨_, _, _, _, _, _, _, _, rfl, hp_a, hk_a, hm_a, hr_a, hok_a⟩ := h_a
 refine Fc.go [.cell 2 43] Tryz.func81 Tryz.ntmps81 rfl (fun w0 => (g9 2 ?_))
 refine W.box (L := [iV _, iV _, lV _ _ _, lV _ _ _, sV _, .bool _, iV _, iV _, lV _ _ _, lV _ _ _]) rfl rfl (fun b15 => (W.alloc zr43 (fun b16 => (g9 3 ?_))))
 refine WC.dw ((sr9.cons _).k9) (d9 [0, 3] ?_)
 refine WD.any [1, 4] (by kernel_rfl) rfl ⟨WD.ap ?_, WD.ap ?_, trivial⟩
 ·refine g9 1 ?_
  refine W.nn ?_
  refine WD.any [2, 4] (by kernel_rfl) rfl ⟨WD.ap ?_, WD.ap ?_, trivial⟩
  ·refine W.cS (clones3_fc hp_a) rfl (fun sa_hv18 sc_hv18 G17 hG17 hv18 => (W.nn (WD.a1 4 rfl (g9 1 ?_))))
   refine W.nn (d9 [6] ?_)
   refine WD.a1 5 rfl (W.cS (clonei3_fc (hk_a.mono hG17)) rfl (fun sa_hv25 sc_hv25 G24 hG24 hv25 => (W.nn (d9 [7, 8, 9] ?_))))
   refine g9 3 ?_
   refine WC.dw ((sr9.cons _).k9) (d9 [0, 3] ?_)
   refine WD.any [1, 4] (by kernel_rfl) rfl ⟨WD.ap ?_, WD.ap ?_, trivial⟩
   ·refine g9 1 ?_
    refine W.nn ?_
    refine WD.any [2, 4] (by kernel_rfl) rfl ⟨WD.ap ?_, WD.ap ?_, trivial⟩
    ·refine W.cS (clonem_fc (hm_a.mono lec)) rfl (fun sa_hv32 sc_hv32 G31 hG31 hv32 => (W.nn (WD.a1 4 rfl (g9 1 ?_))))
     refine W.nn (d9 [6] ?_)
     refine WD.a1 5 rfl (W.cS (clonep_fc (hr_a.mono lec)) rfl (fun sa_hv39 sc_hv39 G38 hG38 hv39 => (W.nn (d9 [7, 8, 9] ?_))))
     refine g9 10 ?_
     refine ⟨rfl, _, rfl, ?_⟩
     · exact ⟨_, _, _, _, _, _, _, _, rfl, (hv18.mono lec), (hv25.mono lec), (hv32.mono hG38), hv39, (by assumption)⟩
    refine g9 1 ?_
    refine W.nn (WD.a1 2 rfl (W.cS (clonem_fc (hm_a.mono lec)) rfl (fun sa_hv46 sc_hv46 G45 hG45 hv46 => (W.nn (d9 [6] ?_)))))
    refine WD.a1 5 rfl (W.cS (clonep_fc (hr_a.mono lec)) rfl (fun sa_hv53 sc_hv53 G52 hG52 hv53 => (W.nn (d9 [7, 8, 9] ?_))))
    refine g9 10 ?_
    refine ⟨rfl, _, rfl, ?_⟩
    · exact ⟨_, _, _, _, _, _, _, _, rfl, (hv18.mono lec), (hv25.mono lec), (hv46.mono hG52), hv53, (by assumption)⟩
   refine g9 1 ?_
   refine W.nn (WD.a1 1 rfl (g9 1 ?_))
   refine W.nn (WD.a1 2 rfl (W.cS (clonem_fc (hm_a.mono lec)) rfl (fun sa_hv60 sc_hv60 G59 hG59 hv60 => (W.nn (d9 [6] ?_)))))
   refine WD.a1 5 rfl (W.cS (clonep_fc (hr_a.mono lec)) rfl (fun sa_hv67 sc_hv67 G66 hG66 hv67 => (W.nn (d9 [7, 8, 9] ?_))))
   refine g9 10 ?_
   refine ⟨rfl, _, rfl, ?_⟩
   · exact ⟨_, _, _, _, _, _, _, _, rfl, (hv18.mono lec), (hv25.mono lec), (hv60.mono hG66), hv67, (by assumption)⟩
  refine g9 1 ?_
  refine W.nn (WD.a1 2 rfl (W.cS (clones3_fc hp_a) rfl (fun sa_hv74 sc_hv74 G73 hG73 hv74 => (W.nn (d9 [6] ?_)))))
  refine WD.a1 5 rfl (W.cS (clonei3_fc (hk_a.mono hG73)) rfl (fun sa_hv81 sc_hv81 G80 hG80 hv81 => (W.nn (d9 [7, 8, 9] ?_))))
  refine g9 3 ?_
  refine WC.dw ((sr9.cons _).k9) (d9 [0, 3] ?_)
  refine WD.any [1, 4] (by kernel_rfl) rfl ⟨WD.ap ?_, WD.ap ?_, trivial⟩
  ·refine g9 1 ?_
   refine W.nn ?_
   refine WD.any [2, 4] (by kernel_rfl) rfl ⟨WD.ap ?_, WD.ap ?_, trivial⟩
   ·refine W.cS (clonem_fc (hm_a.mono lec)) rfl (fun sa_hv88 sc_hv88 G87 hG87 hv88 => (W.nn (WD.a1 4 rfl (g9 1 ?_))))
    refine W.nn (d9 [6] ?_)
    refine WD.a1 5 rfl (W.cS (clonep_fc (hr_a.mono lec)) rfl (fun sa_hv95 sc_hv95 G94 hG94 hv95 => (W.nn (d9 [7, 8, 9] ?_))))
    refine g9 10 ?_
    refine ⟨rfl, _, rfl, ?_⟩
    · exact ⟨_, _, _, _, _, _, _, _, rfl, (hv74.mono lec), (hv81.mono lec), (hv88.mono hG94), hv95, (by assumption)⟩
   refine g9 1 ?_
   refine W.nn (WD.a1 2 rfl (W.cS (clonem_fc (hm_a.mono lec)) rfl (fun sa_hv102 sc_hv102 G101 hG101 hv102 => (W.nn (d9 [6] ?_)))))
   refine WD.a1 5 rfl (W.cS (clonep_fc (hr_a.mono lec)) rfl (fun sa_hv109 sc_hv109 G108 hG108 hv109 => (W.nn (d9 [7, 8, 9] ?_))))
   refine g9 10 ?_
   refine ⟨rfl, _, rfl, ?_⟩
   · exact ⟨_, _, _, _, _, _, _, _, rfl, (hv74.mono lec), (hv81.mono lec), (hv102.mono hG108), hv109, (by assumption)⟩
  refine g9 1 ?_
  refine W.nn (WD.a1 1 rfl (g9 1 ?_))
  refine W.nn (WD.a1 2 rfl (W.cS (clonem_fc (hm_a.mono lec)) rfl (fun sa_hv116 sc_hv116 G115 hG115 hv116 => (W.nn (d9 [6] ?_)))))
  refine WD.a1 5 rfl (W.cS (clonep_fc (hr_a.mono lec)) rfl (fun sa_hv123 sc_hv123 G122 hG122 hv123 => (W.nn (d9 [7, 8, 9] ?_))))
  refine g9 10 ?_
  refine ⟨rfl, _, rfl, ?_⟩
  · exact ⟨_, _, _, _, _, _, _, _, rfl, (hv74.mono lec), (hv81.mono lec), (hv116.mono hG122), hv123, (by assumption)⟩
 refine g9 1 ?_
 refine W.nn (WD.a1 1 rfl (g9 1 ?_))
 refine W.nn (WD.a1 2 rfl (W.cS (clones3_fc hp_a) rfl (fun sa_hv130 sc_hv130 G129 hG129 hv130 => (W.nn (d9 [6] ?_)))))
 refine WD.a1 5 rfl (W.cS (clonei3_fc (hk_a.mono hG129)) rfl (fun sa_hv137 sc_hv137 G136 hG136 hv137 => (W.nn (d9 [7, 8, 9] ?_))))
 refine g9 3 ?_
 refine WC.dw ((sr9.cons _).k9) (d9 [0, 3] ?_)
 refine WD.any [1, 4] (by kernel_rfl) rfl ⟨WD.ap ?_, WD.ap ?_, trivial⟩
 ·refine g9 1 ?_
  refine W.nn ?_
  refine WD.any [2, 4] (by kernel_rfl) rfl ⟨WD.ap ?_, WD.ap ?_, trivial⟩
  ·refine W.cS (clonem_fc (hm_a.mono lec)) rfl (fun sa_hv144 sc_hv144 G143 hG143 hv144 => (W.nn (WD.a1 4 rfl (g9 1 ?_))))
   refine W.nn (d9 [6] ?_)
   refine WD.a1 5 rfl (W.cS (clonep_fc (hr_a.mono lec)) rfl (fun sa_hv151 sc_hv151 G150 hG150 hv151 => (W.nn (d9 [7, 8, 9] ?_))))
   refine g9 10 ?_
   refine ⟨rfl, _, rfl, ?_⟩
   · exact ⟨_, _, _, _, _, _, _, _, rfl, (hv130.mono lec), (hv137.mono lec), (hv144.mono hG150), hv151, (by assumption)⟩
  refine g9 1 ?_
  refine W.nn (WD.a1 2 rfl (W.cS (clonem_fc (hm_a.mono lec)) rfl (fun sa_hv158 sc_hv158 G157 hG157 hv158 => (W.nn (d9 [6] ?_)))))
  refine WD.a1 5 rfl (W.cS (clonep_fc (hr_a.mono lec)) rfl (fun sa_hv165 sc_hv165 G164 hG164 hv165 => (W.nn (d9 [7, 8, 9] ?_))))
  refine g9 10 ?_
  refine ⟨rfl, _, rfl, ?_⟩
  · exact ⟨_, _, _, _, _, _, _, _, rfl, (hv130.mono lec), (hv137.mono lec), (hv158.mono hG164), hv165, (by assumption)⟩
 refine g9 1 ?_
 refine W.nn (WD.a1 1 rfl (g9 1 ?_))
 refine W.nn (WD.a1 2 rfl (W.cS (clonem_fc (hm_a.mono lec)) rfl (fun sa_hv172 sc_hv172 G171 hG171 hv172 => (W.nn (d9 [6] ?_)))))
 refine WD.a1 5 rfl (W.cS (clonep_fc (hr_a.mono lec)) rfl (fun sa_hv179 sc_hv179 G178 hG178 hv179 => (W.nn (d9 [7, 8, 9] ?_))))
 refine g9 10 ?_
 refine ⟨rfl, _, rfl, ?_⟩
 · exact ⟨_, _, _, _, _, _, _, _, rfl, (hv130.mono lec), (hv137.mono lec), (hv172.mono hG178), hv179, (by assumption)⟩

theorem tset_fc {G : GH} {b_s : Nat} {c : Cfg} {b_a : Nat} {a : List Nd × List Bool} {Ms_a : MH} (h_a : ArR eNode 43 4 3 150 b_a G a Ms_a) {cs_x : List Value} {x : Nd} (h_x : NodeC G cs_x x) :
    Fc Tryz.prog 63 [pt9 b_s, .agg (List.toArray cs_x)] G ((b_s, ce9 107 [iV c.fan, iV c.leaf, iV c.bud, iV c.slots, iV c.rest, pt9 b_a]) :: (Ms_a)) (fun v G' M' => v = iV (layA a x.slot x).1 ∧ StA 43 4 3 150 107 b_s G' c (layA a x.slot x).2 M') := by
 obtain ⟨_, _, _, _, _, _, _, _, rfl, hp_x, hk_x, hm_x, hr_x, hok_x⟩ := h_x
 refine Fc.go [.tmp 4] Tryz.func63 Tryz.ntmps63 rfl (fun w0 => (WC.perm (M' := ((b_s, ce9 107 [iV c.fan, iV c.leaf, iV c.bud, iV c.slots, iV c.rest, pt9 b_a]) :: (Ms_a ++ []))) (by simp) (g9 2 ?_)))
 refine W.box (L := [iV _, iV _, lV _ _ _, lV _ _ _, sV _, .bool _, iV _, iV _, lV _ _ _, lV _ _ _]) rfl rfl (fun b185 => (g9 7 ?_))
 refine W.ok (ok_eqlPN pp63 rfl rfl) (g9 6 ?_)
 refine WC.dw (sn9.k9.k9) (d9 [0, 1, 2, 3, 4, 5, 6] ?_)
 refine WD.a1 7 rfl (W.cN (ncopy3_fc (nk9 hp_x hk_x hm_x hr_x hok_x)) rfl (fun _ _ _ _ _ _ _ _ G186 hG186 hp_hv187 hk_hv187 hm_hv187 hr_hv187 hok_hv187 => (W.nn (WD.a1 8 rfl (W.call (Mp := Ms_a) (osetn (ArR.mono hG186 h_a) _ (nk9 hp_hv187 hk_hv187 hm_hv187 hr_hv187 hok_hv187)) rfl (pmC (pmC pr9)) ?_)))))
 intro v195 G192 Ms194 hG192 q193
 refine match q193 with | ⟨e_197, hR196⟩ => ?_
 subst e_197
 refine W.perm (pmC (pmC pr9)).symm (W.nn (d9 [9] ?_))
 refine g9 3 ?_
 refine ⟨.inr rfl, [_], ⟨rfl, trivial⟩, ((b_s, ce9 107 [iV c.fan, iV c.leaf, iV c.bud, iV c.slots, iV c.rest, pt9 b_a]) :: (Ms194 ++ [])), sr9.k9.cons _, ?_⟩
 exact ⟨rfl, _, _, congrArg _ (List.append_nil _), hR196⟩

theorem tnode_fc {G : GH} {b_s : Nat} {c : Cfg} {b_a : Nat} {a : List Nd × List Bool} {Ms_a : MH} (h_a : ArR eNode 43 4 3 150 b_a G a Ms_a) (i : Int) :
    Fc Tryz.prog 51 [pt9 b_s, iV i] G ((b_s, ce9 107 [iV c.fan, iV c.leaf, iV c.bud, iV c.slots, iV c.rest, pt9 b_a]) :: (Ms_a)) (fun v G' M' => (∃ cs, v = .tuple #[.agg (List.toArray cs), .bool (hasN a.2 i)] ∧ NodeC G' cs (getA a i Nd.zero)) ∧ M' = (b_s, ce9 107 [iV c.fan, iV c.leaf, iV c.bud, iV c.slots, iV c.rest, pt9 b_a]) :: Ms_a) := by
 refine Fc.go [.cell 4 43, .tmp 5] Tryz.func51 Tryz.ntmps51 rfl (fun w0 => (WC.perm (M' := ((b_s, ce9 107 [iV c.fan, iV c.leaf, iV c.bud, iV c.slots, iV c.rest, pt9 b_a]) :: (Ms_a ++ []))) (by simp) (g9 2 ?_)))
 refine W.alloc zr43 (fun b198 => (g9 7 ?_))
 refine W.ok (ok_eqlPN pp63 rfl rfl) (g9 12 ?_)
 refine W.call (Mp := Ms_a) (ogetn h_a _) rfl (pmC (pmC pr9)) ?_
 intro v202 G199 Ms201 hG199 q200
 refine match q200 with | ⟨⟨_, e_204, ⟨_, _, _, _, _, _, _, _, e_205, hp_hR203, hk_hR203, hm_hR203, hr_hR203, hok_hR203⟩⟩, eeq200⟩ => ?_
 subst e_204
 subst e_205
 have eeq200 := eeq200.symm
 subst eeq200
 refine W.perm (pmC (pmC pr9)).symm (g9 3 ?_)
 refine W.alloc zr43 (fun b206 => (g9 7 ?_))
 refine W.cN (ncopy3_fc (nk9 hp_hR203 hk_hR203 hm_hR203 hr_hR203 hok_hR203)) rfl (fun _ _ _ _ _ _ _ _ G207 hG207 hp_hv208 hk_hv208 hm_hv208 hr_hv208 hok_hv208 => (g9 6 ?_))
 refine ⟨.inr rfl, [_, _], ⟨⟨_, _, _, _, _, rfl, nthM_mem (i := 1) rfl, ty43, (by simp), rfl, rfl⟩, rfl, trivial⟩, ((b_s, ce9 107 [iV c.fan, iV c.leaf, iV c.bud, iV c.slots, iV c.rest, pt9 b_a]) :: (Ms_a ++ [])), (sr9.k9.cons _).cons _, ?_⟩
 exact ⟨⟨_, rfl, (nk9 hp_hv208 hk_hv208 hm_hv208 hr_hv208 hok_hv208)⟩, congrArg _ (List.append_nil _)⟩

theorem ttake_fc {G : GH} {b_s : Nat} {c : Cfg} {b_a : Nat} {a : List Nd × List Bool} {Ms_a : MH} (h_a : ArR eNode 43 4 3 150 b_a G a Ms_a) {cs_x : List Value} {x : Nd} (h_x : NodeC G cs_x x) :
    Fc Tryz.prog 62 [pt9 b_s, .agg (List.toArray cs_x)] G ((b_s, ce9 107 [iV c.fan, iV c.leaf, iV c.bud, iV c.slots, iV c.rest, pt9 b_a]) :: (Ms_a)) (fun v G' M' => v = .tuple #[iV (takeA a x).1.1, iV (takeA a x).1.2] ∧ StA 43 4 3 150 107 b_s G' c (takeA a x).2 M') := by
 obtain ⟨pa_x, pc_x, ka_x, kc_x, ma_x, mc_x, ra_x, rc_x, rfl, hp_x, hk_x, hm_x, hr_x, hok_x⟩ := h_x
 have hal : a.2.length ≤ 4096 := by obtain ⟨f, _, _, h, _⟩ := h_a; exact h
 have hai := nextA_i64 (x := Nd.zero) hal
 refine Fc.go [.tmp 4, .tmp 5] Tryz.func62 Tryz.ntmps62 rfl (fun w0 => (WC.perm (M' := ((b_s, ce9 107 [iV c.fan, iV c.leaf, iV c.bud, iV c.slots, iV c.rest, pt9 b_a]) :: (Ms_a ++ []))) (by simp) (g9 2 ?_)))
 refine W.box (L := [iV _, iV _, lV _ _ _, lV _ _ _, sV _, .bool _, iV _, iV _, lV _ _ _, lV _ _ _]) rfl rfl (fun b213 => (g9 8 ?_))
 refine W.ok (ok_eqlPN pp63 rfl rfl) (g9 11 ?_)
 refine W.ok (ok_build (L := [iV _, iV _, lV _ _ _, lV _ _ _, sV _, .bool _, iV _, iV _, lV _ _ _, lV _ _ _]) pl43 zr43 rfl rfl rfl) (W.call (Mp := Ms_a) (oallocn h_a (x := Nd.zero) ⟨_, _, _, _, _, _, _, _, rfl, SlR.nil, SlR.nil, SlR.nil, SlR.nil, Nd.zero_ok⟩) rfl (pmC (pmC pr9)) ?_)
 intro v217 G214 Ms216 hG214 q215
 refine match q215 with | ⟨e_219, hR218⟩ => ?_
 subst e_219
 refine W.perm (pmC (pmC pr9)).symm (g9 14 ?_)
 refine WC.cn (fun h20 p20 => ?_) (fun h20 p20 => ?_)
 ·refine g9 9 ?_
  refine ⟨.inr rfl, [_, _], ⟨rfl, rfl, trivial⟩, ((b_s, ce9 107 [iV c.fan, iV c.leaf, iV c.bud, iV c.slots, iV c.rest, pt9 b_a]) :: (Ms216 ++ [])), sr9.k9.cons _, ?_⟩
  have hE := takeA_f (a := a) (x := x) p20
  exact ⟨congrArg (fun r : Int × Int => Value.tuple #[iV r.1, iV r.2]) (congrArg Prod.fst hE).symm, StA.cast ⟨_, _, congrArg _ (List.append_nil _), hR218⟩ (congrArg Prod.snd hE).symm⟩
 refine g9 14 ?_
 refine W.call (Mp := ((b_s, ce9 107 [iV c.fan, iV c.leaf, iV c.bud, iV c.slots, iV c.rest, pt9 b_a]) :: Ms216)) (Mr := ((b213, ce9 43 [iV (nextA (a) Nd.zero).1.1, iV x.level, lV pa_x x.pivots.length pc_x, lV ka_x x.kids.length kc_x, sV x.high.b, .bool x.top, iV x.right, iV x.seen, lV ma_x x.msgs.length mc_x, lV ra_x x.rows.length rc_x]) :: [])) (tset_fc (c := c) hR218 (show NodeC _ _ { x with slot := (nextA a Nd.zero).1.1 } from ⟨_, _, _, _, _, _, _, _, rfl, (hp_x.mono hG214), (hk_x.mono hG214), (hm_x.mono hG214), (hr_x.mono hG214), ⟨hai, hok_x.2⟩⟩)) rfl (((pmC pr9).cons _).trans ((List.Perm.swap _ _ _).trans (pr9.cons _))) ?_
 intro v223 G220 Ms222 hG220 q221
 refine match q221 with | ⟨e_225, hS224⟩ => ?_
 subst e_225
 refine W.perm (pmC pr9).symm (g9 5 ?_)
 refine ⟨.inr rfl, [_, _], ⟨rfl, rfl, trivial⟩, (Ms222 ++ []), sr9.cons _, ?_⟩
 have hE := takeA_t (a := a) (x := x) p20
 exact ⟨congrArg (fun r : Int × Int => Value.tuple #[iV r.1, iV r.2]) (congrArg Prod.fst hE).symm, StA.cast (by have h := hS224; rw [List.append_nil]; exact h) (congrArg Prod.snd hE).symm⟩

theorem tnodes_fc {G : GH} {b_s : Nat} {c : Cfg} {b_a : Nat} {a : List Nd × List Bool} {Ms_a : MH} (h_a : ArR eNode 43 4 3 150 b_a G a Ms_a) :
    Fc Tryz.prog 25 [pt9 b_s] G ((b_s, ce9 107 [iV c.fan, iV c.leaf, iV c.bud, iV c.slots, iV c.rest, pt9 b_a]) :: (Ms_a)) (fun v G' M' => SlR eNode G' v ((usedN a.2).map (fun i => getA a i Nd.zero)) ∧ M' = (b_s, ce9 107 [iV c.fan, iV c.leaf, iV c.bud, iV c.slots, iV c.rest, pt9 b_a]) :: Ms_a) := by
 have hal : a.2.length ≤ 4096 := by obtain ⟨f, _, _, h, _⟩ := h_a; exact h
 have hul := usedK_len a.2 a.2.length
 rw [← used_eq] at hul
 refine Fc.go [.tmp 2] Tryz.func25 Tryz.ntmps25 rfl (fun w0 => (WC.perm (M' := ((b_s, ce9 107 [iV c.fan, iV c.leaf, iV c.bud, iV c.slots, iV c.rest, pt9 b_a]) :: (Ms_a ++ []))) (by simp) (g9 14 ?_)))
 refine W.ok (ok_eqlPN pp63 rfl rfl) (g9 12 ?_)
 refine W.call (Mp := Ms_a) (olistn h_a) rfl (pmC pr9) ?_
 intro v229 G226 Ms228 hG226 q227
 refine match q227 with | ⟨hR230, eeq227⟩ => ?_
 have eeq227 := eeq227.symm
 subst eeq227
 refine W.perm (pmC pr9).symm ?_
 have q232 := hR230.form
 refine match q232 with | ⟨sa_hR230, sc_hR230, e_231⟩ => ?_
 subst e_231
 refine g9 5 ?_
 refine WC.loop (X := (Nat) × Value × MH) (fun k => [(16, nt9 k.1), (0, pt9 b_s), (14, lV sa_hR230 ((usedN (a).2)).length sc_hR230), (15, nt9 (((usedN (a).2)).length)), (3, k.2.1)]) (fun k G Ml => Ml = ((b_s, ce9 107 [iV c.fan, iV c.leaf, iV c.bud, iV c.slots, iV c.rest, pt9 b_a]) :: (k.2.2 ++ (Ms_a ++ []))) ∧ OwnR eNode 43 G k.2.1 (((usedN a.2).take k.1).map (fun i => getA a i Nd.zero)) k.2.2 ∧ k.1 ≤ (usedN a.2).length) (fun k => (usedN a.2).length - k.1) (0, lV none 0 0, ([] : MH)) hs9 ?_ ?_
 ·exact ⟨rfl, (by simpa using OwnR.nil), om9⟩
 rintro ⟨k, v_3, M_3⟩ gG233 G233 _ hG233 ⟨rfl, ho_3, hk⟩
 try dsimp only at ho_3 hk
 refine WC.fr (f := setL gG233 [(16, nt9 k), (0, pt9 b_s), (14, lV sa_hR230 ((usedN (a).2)).length sc_hR230), (15, nt9 (((usedN (a).2)).length)), (3, v_3)]) rfl (g9 6 ?_)
 refine WC.cd (fun h17 p17 => ?_) (fun h17 p17 => ?_)
 ·refine g9 6 ?_
  refine (hR230.mono hG233).a2 (i := k) om9 (fun he234 hi235 => (g9 9 ?_))
  refine W.call (Mp := ((b_s, ce9 107 [iV c.fan, iV c.leaf, iV c.bud, iV c.slots, iV c.rest, pt9 b_a]) :: Ms_a)) (Mr := (M_3 ++ [])) (tnode_fc (c := c) (ArR.mono lec h_a) _) rfl (((pmA pr9).cons _).trans pr9) ?_
  intro v241 G238 Ms240 hG238 q239
  refine match q239 with | ⟨⟨_, e_243, ⟨_, _, _, _, _, _, _, _, e_244, hp_n242, hk_n242, hm_n242, hr_n242, hok_n242⟩⟩, e_245⟩ => ?_
  subst e_243
  subst e_244
  subst e_245
  refine W.perm (M' := ((b_s, ce9 107 [iV c.fan, iV c.leaf, iV c.bud, iV c.slots, iV c.rest, pt9 b_a]) :: (Ms_a ++ (M_3 ++ [])))) ((pr9.cons _).trans pr9).symm (g9 3 ?_)
  refine W.alloc zr43 (fun b246 => (g9 7 ?_))
  refine W.lit (e := eNode) (l := [(getA a ((usedN a.2)[k]'_) Nd.zero)]) (css := [[iV _, iV _, lV _ _ _, lV _ _ _, sV _, .bool _, iV _, iV _, lV _ _ _, lV _ _ _]]) sl24 ty43 zr43 rfl rfl rfl rfl rfl rfl ⟨(nk9 hp_n242 hk_n242 hm_n242 hr_n242 hok_n242), trivial⟩ (fun bl247 G247 hG247 hv247 => (W.app (e := eNode) sl24 ty43 zr43 rfl by43 rfl rfl ((ho_3.mono lec)) (hv247) (pmC (pmC (pmA pr9))) (by show (List.length _ + 1) * 152 ≤ _; rw [List.length_map, List.length_take]; omega) (fun v248 Ms249 ho250 => (W.perm (pmC (pmC pr9)).symm (g9 7 ?_)))))
  refine W.sub (sr9.cons _) (g9 2 ?_)
  exact ⟨lec, (k + 1, v248, Ms249), hs9, ⟨rfl, (by have h := ho250; rw [List.take_succ_eq_append_getElem om9, List.map_append]; exact h), om9⟩, om9⟩
 refine g9 11 ?_
 refine WC.giveO ho_3 (pmC pr9) (fun G251 hG251 hv251 => (WC.ret ?_))
 refine ⟨.inr rfl, [_], ⟨rfl, trivial⟩, ((b_s, ce9 107 [iV c.fan, iV c.leaf, iV c.bud, iV c.slots, iV c.rest, pt9 b_a]) :: (Ms_a ++ [])), sr9.k9, ?_⟩
 exact ⟨SlR.cast hv251 (by rw [List.take_of_length_le om9]), congrArg _ (List.append_nil _)⟩

theorem pset_fc {G : GH} {b : Nat} {c : Cfg} {l : List Nd} {M : MH} (h : StR 43 4 3 150 107 b c G l M) {cs : List Value} {x : Nd} (hx : NodeC G cs x) : Fc Tryz.prog 63 [pt9 b, .agg (List.toArray cs)] G M (fun v G' M' => v = iV (putL l x).1 ∧ StR 43 4 3 150 107 b c G' (putL l x).2 M') := by
  obtain ⟨hc, hl, b2, Ma, rfl, hA⟩ := h
  exact (tset_fc hA hx).mono fun v G' M' hle ⟨e1, e2⟩ => ⟨by rw [e1, ar_set hl], hc, by rw [putL_len]; exact hl, e2.cast (congrArg Prod.snd (ar_set hl x))⟩
theorem ptake_fc {G : GH} {b : Nat} {c : Cfg} {l : List Nd} {M : MH} (h : StR 43 4 3 150 107 b c G l M) {cs : List Value} {x : Nd} (hx : NodeC G cs x) : Fc Tryz.prog 62 [pt9 b, .agg (List.toArray cs)] G M (fun v G' M' => v = .tuple #[iV (takeL c.slots.toNat l x).1.1, iV (takeL c.slots.toNat l x).1.2] ∧ StR 43 4 3 150 107 b c G' (takeL c.slots.toNat l x).2 M') := by
  obtain ⟨hc, hl, b2, Ma, rfl, hA⟩ := h
  exact (ttake_fc hA hx).mono fun v G' M' hle ⟨e1, e2⟩ => ⟨by rw [e1, ar_take hl], hc, takeL_len hl, e2.cast (congrArg Prod.snd (ar_take hl x))⟩
theorem pnode_fc {G : GH} {b : Nat} {c : Cfg} {l : List Nd} {M : MH} (h : StR 43 4 3 150 107 b c G l M) (i : Int) : Fc Tryz.prog 51 [pt9 b, iV i] G M (fun v G' M' => (∃ cs, v = .tuple #[.agg (List.toArray cs), .bool (decide (0 ≤ i ∧ i < l.length))] ∧ NodeC G' cs (getL l i)) ∧ M' = M) := by
  obtain ⟨hc, hl, b2, Ma, rfl, hA⟩ := h
  exact (tnode_fc (c := c) hA i).mono fun v G' M' hle ⟨⟨cs, e1, e2⟩, e3⟩ => ⟨⟨cs, by rw [e1, ar_has hl], e2.of (ar_get hl i)⟩, e3⟩
theorem pnodes_fc {G : GH} {b : Nat} {c : Cfg} {l : List Nd} {M : MH} (h : StR 43 4 3 150 107 b c G l M) : Fc Tryz.prog 25 [pt9 b] G M (fun v G' M' => SlR eNode G' v l ∧ M' = M) := by
  obtain ⟨hc, hl, b2, Ma, rfl, hA⟩ := h
  exact (tnodes_fc (c := c) hA).mono fun v G' M' hle ⟨e1, e2⟩ => ⟨SlR.cast e1 (nodes_all hl), e2⟩
theorem among_fc {G : GH} (n : Int) (a : Int) (b : Int) :
    Fc Tryz.prog 112 [iV n, iV a, iV b] G [] (fun v _ _ => v = .bool (decide (a ≤ n ∧ n ≤ b))) := by
 refine Fc.go [.tmp 6] Tryz.func112 Tryz.ntmps112 rfl (fun w0 => (g9 11 ?_))
 refine W.sd 10 (fun h9 p9 => ?_) (fun h9 p9 => ?_)
 ·refine g9 12 ?_
  refine congrArg Value.bool ?_
  first | (simp_all; done) | (simp_all; omega) | (simp_all; intros; omega)
 refine g9 9 ?_
 refine congrArg Value.bool ?_
 first | (simp_all; done) | (simp_all; omega) | (simp_all; intros; omega)

theorem stright_fc {G : GH} (cfan : Int) (cleaf : Int) (cbud : Int) (cslots : Int) (crest : Int) :
    Fc Tryz.prog 85 [.agg #[iV cfan, iV cleaf, iV cbud, iV cslots, iV crest]] G [] (fun v _ _ => v = .bool (decide (CfgR (⟨cfan, cleaf, cbud, cslots, crest⟩ : Cfg)))) := by
 refine Fc.go [.tmp 2] Tryz.func85 Tryz.ntmps85 rfl (fun w0 => (g9 2 ?_))
 refine W.box (L := [iV _, iV _, iV _, iV _, iV _]) rfl rfl (fun b1 => (g9 7 ?_))
 refine W.qcall (among_fc _ _ _) rfl (W.mv ?_)
 refine W.sp 6 rfl (fun h5 => ?_) (fun h5 => ?_)
 ·refine g9 5 ?_
  refine W.qcall (among_fc _ _ _) rfl (g9 2 ?_)
  refine W.sp 11 rfl (fun h9 => ?_) (fun h9 => ?_)
  ·refine g9 5 ?_
   refine W.qcall (among_fc _ _ _) rfl (g9 2 ?_)
   refine W.sp 16 rfl (fun h14 => ?_) (fun h14 => ?_)
   ·refine g9 5 ?_
    refine W.qcall (among_fc _ _ _) rfl (g9 2 ?_)
    refine W.sp 21 rfl (fun h19 => ?_) (fun h19 => ?_)
    ·refine g9 5 ?_
     refine W.qcall (among_fc _ _ _) rfl (g9 6 ?_)
     refine congrArg Value.bool ?_
     rw [Bool.eq_iff_iff, decide_eq_true_iff]
     simp only [CfgR]
     first | (simp_all; done) | (simp_all; omega) | (simp_all; intros; omega)
    refine g9 9 ?_
    refine congrArg Value.bool ?_
    rw [Bool.eq_iff_iff, decide_eq_true_iff]
    simp only [CfgR]
    first | (simp_all; done) | (simp_all; omega) | (simp_all; intros; omega)
   refine g9 14 ?_
   refine congrArg Value.bool ?_
   rw [Bool.eq_iff_iff, decide_eq_true_iff]
   simp only [CfgR]
   first | (simp_all; done) | (simp_all; omega) | (simp_all; intros; omega)
  refine g9 19 ?_
  refine congrArg Value.bool ?_
  rw [Bool.eq_iff_iff, decide_eq_true_iff]
  simp only [CfgR]
  first | (simp_all; done) | (simp_all; omega) | (simp_all; intros; omega)
 refine g9 24 ?_
 refine congrArg Value.bool ?_
 rw [Bool.eq_iff_iff, decide_eq_true_iff]
 simp only [CfgR]
 first | (simp_all; done) | (simp_all; omega) | (simp_all; intros; omega)

theorem rright25_fc {G : GH} (cfan : Int) (cleaf : Int) (cbud : Int) (cslots : Int) (crest : Int) :
    Fc Tryz.prog 26 [.agg #[iV cfan, iV cleaf, iV cbud, iV cslots, iV crest]] G [] (fun v _ _ => v = .bool (decide (CfgR (⟨cfan, cleaf, cbud, cslots, crest⟩ : Cfg)))) := by
 refine Fc.go [.tmp 2] Tryz.func26 Tryz.ntmps26 rfl (fun w0 => (g9 2 ?_))
 refine W.box (L := [iV _, iV _, iV _, iV _, iV _]) rfl rfl (fun b2 => (g9 9 ?_))
 refine W.sd 6 (fun h5 p5 => ?_) (fun h5 p5 => ?_)
 ·refine g9 8 ?_
  refine W.sd 11 (fun h9 p9 => ?_) (fun h9 p9 => ?_)
  ·refine g9 8 ?_
   refine W.sd 16 (fun h14 p14 => ?_) (fun h14 p14 => ?_)
   ·refine g9 8 ?_
    refine W.sd 21 (fun h19 p19 => ?_) (fun h19 p19 => ?_)
    ·refine g9 8 ?_
     refine W.sd 26 (fun h24 p24 => ?_) (fun h24 p24 => ?_)
     ·refine g9 8 ?_
      refine W.sd 31 (fun h29 p29 => ?_) (fun h29 p29 => ?_)
      ·refine g9 8 ?_
       refine W.sd 36 (fun h34 p34 => ?_) (fun h34 p34 => ?_)
       ·refine g9 8 ?_
        refine W.sd 41 (fun h39 p39 => ?_) (fun h39 p39 => ?_)
        ·refine g9 8 ?_
         refine W.sd 46 (fun h44 p44 => ?_) (fun h44 p44 => ?_)
         ·refine g9 12 ?_
          refine congrArg Value.bool ?_
          rw [Bool.eq_iff_iff, decide_eq_true_iff]
          simp only [CfgR]
          first | (simp_all; done) | (simp_all; omega)
         refine g9 9 ?_
         refine congrArg Value.bool ?_
         rw [Bool.eq_iff_iff, decide_eq_true_iff]
         simp only [CfgR]
         first | (simp_all; done) | (simp_all; omega)
        refine g9 14 ?_
        refine congrArg Value.bool ?_
        rw [Bool.eq_iff_iff, decide_eq_true_iff]
        simp only [CfgR]
        first | (simp_all; done) | (simp_all; omega)
       refine g9 19 ?_
       refine congrArg Value.bool ?_
       rw [Bool.eq_iff_iff, decide_eq_true_iff]
       simp only [CfgR]
       first | (simp_all; done) | (simp_all; omega)
      refine g9 24 ?_
      refine congrArg Value.bool ?_
      rw [Bool.eq_iff_iff, decide_eq_true_iff]
      simp only [CfgR]
      first | (simp_all; done) | (simp_all; omega)
     refine g9 29 ?_
     refine congrArg Value.bool ?_
     rw [Bool.eq_iff_iff, decide_eq_true_iff]
     simp only [CfgR]
     first | (simp_all; done) | (simp_all; omega)
    refine g9 34 ?_
    refine congrArg Value.bool ?_
    rw [Bool.eq_iff_iff, decide_eq_true_iff]
    simp only [CfgR]
    first | (simp_all; done) | (simp_all; omega)
   refine g9 39 ?_
   refine congrArg Value.bool ?_
   rw [Bool.eq_iff_iff, decide_eq_true_iff]
   simp only [CfgR]
   first | (simp_all; done) | (simp_all; omega)
  refine g9 44 ?_
  refine congrArg Value.bool ?_
  rw [Bool.eq_iff_iff, decide_eq_true_iff]
  simp only [CfgR]
  first | (simp_all; done) | (simp_all; omega)
 refine g9 49 ?_
 refine congrArg Value.bool ?_
 rw [Bool.eq_iff_iff, decide_eq_true_iff]
 simp only [CfgR]
 first | (simp_all; done) | (simp_all; omega)

theorem nleaf3_fc {G : GH} (s : Int) (hs : i64 s) :
    Fc Tryz.prog 87 [iV s] G [] (fun v G' M' => M' = [] ∧ ∃ u0, v = .agg (List.toArray u0) ∧ NodeC G' u0 (leafN s)) := by
 refine Fc.go [.cell 2 43] Tryz.func87 Tryz.ntmps87 rfl (fun w0 => (g9 2 ?_))
 refine W.alloc zr43 (fun b3 => (g9 5 ?_))
 refine W.ok (ok_build (L := [iV _, iV _, lV _ _ _, lV _ _ _, sV _, .bool _, iV _, iV _, lV _ _ _, lV _ _ _]) pl43 zr43 rfl rfl rfl) (g9 5 ?_)
 refine ⟨rfl, _, rfl, ?_⟩
 · exact ⟨_, _, _, _, _, _, _, _, rfl, SlR.nil, SlR.nil, SlR.nil, SlR.nil, (leafN_ok hs)⟩

theorem stnew_fc {G : GH} (cfan : Int) (cleaf : Int) (cbud : Int) (cslots : Int) (crest : Int) :
    Fc Tryz.prog 59 [.agg #[iV cfan, iV cleaf, iV cbud, iV cslots, iV crest]] G [] (fun v G' M' => (¬ CfgR (⟨cfan, cleaf, cbud, cslots, crest⟩ : Cfg) ∧ v = .tuple #[.pointer none, iV 2] ∧ M' = []) ∨ (CfgR (⟨cfan, cleaf, cbud, cslots, crest⟩ : Cfg) ∧ ∃ b, v = .tuple #[pt9 b, iV 0] ∧ StR 43 4 3 150 107 b (⟨cfan, cleaf, cbud, cslots, crest⟩ : Cfg) G' [leafN 0] M')) := by
 refine Fc.go [.tmp 2, .tmp 3] Tryz.func59 Tryz.ntmps59 rfl (fun w0 => (g9 2 ?_))
 refine W.box (L := [iV _, iV _, iV _, iV _, iV _]) rfl rfl (fun b4 => (g9 8 ?_))
 refine W.qcall (stright_fc _ _ _ _ _) rfl (g9 3 ?_)
 refine WC.cond rfl (fun h9 => ?_) (fun h9 => ?_)
 ·refine g9 9 ?_
  exact .inl ⟨by simpa using h9, rfl, rfl⟩
 refine g9 6 ?_
 refine W.call (Mp := []) (snewn_fc (cslots)) rfl pr9 ?_
 intro v8 G5 Ms7 hG5 q6
 obtain ⟨bAr, eV9, hA9⟩ : ∃ b, v8 = .tuple #[pt9 b, iV 0] ∧ ArR eNode 43 4 3 150 b G5 (List.replicate (cslots).toNat Nd.zero, List.replicate (cslots).toNat false) Ms7 := Or.elim q6 (fun hz => absurd (by have h8 : CfgR (⟨cfan, cleaf, cbud, cslots, crest⟩ : Cfg) := (by simpa using h9); unfold CfgR at h8; dsimp only at h8; omega) hz.1) (fun hz => hz.2)
 subst eV9
 refine W.perm (pmC pr9).symm (g9 21 ?_)
 refine W.ok (ok_build (L := [iV _, iV _, iV _, iV _, iV _, .pointer _]) pl107 zr107 rfl rfl rfl) (W.box (L := [iV _, iV _, iV _, iV _, iV _, .pointer _]) rfl rfl (fun b9 => (g9 6 ?_)))
 refine W.cN (nleaf3_fc _ ⟨by decide, by decide⟩) rfl (fun _ _ _ _ _ _ _ _ G10 hG10 hp_hv11 hk_hv11 hm_hv11 hr_hv11 hok_hv11 => (W.call (Mp := ((b9, ce9 107 [iV cfan, iV cleaf, iV cbud, iV cslots, iV crest, pt9 bAr]) :: Ms7)) (Mr := ((b4, ce9 23 [iV cfan, iV cleaf, iV cbud, iV cslots, iV crest]) :: [])) (ttake_fc (c := (⟨cfan, cleaf, cbud, cslots, crest⟩ : Cfg)) (ArR.mono hG10 hA9) (nk9 hp_hv11 hk_hv11 hm_hv11 hr_hv11 hok_hv11)) rfl (((pmC pr9).cons _).trans pr9) ?_))
 intro v19 G16 Ms18 hG16 q17
 refine match q17 with | ⟨e_21, hS20⟩ => ?_
 subst e_21
 refine W.perm (pmC pr9).symm (g9 15 ?_)
 refine ⟨.inr rfl, [_, _], ⟨rfl, rfl, trivial⟩, (Ms18 ++ []), sr9.cons _, ?_⟩
 have hC : CfgR (⟨cfan, cleaf, cbud, cslots, crest⟩ : Cfg) := by simpa using h9
 have hE := ar_take (n := cslots.toNat) (l := []) (by simp) (leafN 0)
 rw [(pick_first (n := cslots.toNat) (by unfold CfgR at hC; dsimp only at hC; omega)).2, arOf_nil] at hE
 have hS := hS20
 rw [hE] at hS
 exact .inr ⟨hC, _, by rw [hE]; rfl, hC, by show 1 ≤ cslots.toNat; unfold CfgR at hC; dsimp only at hC; omega, by rw [List.append_nil]; exact hS⟩

theorem mright_fc {G : GH} (ms : Int) (mk : Int) (mkey : Str) (mhi : Str) (mo : Bool) (mv : Str) :
    Fc Tryz.prog 128 [.agg #[iV ms, iV mk, sV mkey.b, sV mhi.b, .bool mo, sV mv.b]] G [] (fun v _ _ => v = .bool (decide (Msg.R (⟨ms, mk, mkey, mhi, mo, mv⟩ : Msg)))) := by
 have h1 := mkey.le
 have h2 := mv.le
 have h3 := mhi.le
 refine Fc.go [.tmp 2] Tryz.func128 Tryz.ntmps128 rfl (fun w0 => (g9 2 ?_))
 refine W.box (L := [iV _, iV _, sV _, sV _, .bool _, sV _]) rfl rfl (fun b1 => (g9 10 ?_))
 refine W.sd 6 (fun h5 p5 => ?_) (fun h5 p5 => ?_)
 ·refine g9 28 ?_
  refine congrArg Value.bool ?_
  rw [Bool.eq_iff_iff, decide_eq_true_iff]
  simp only [Msg.R]
  first | (simp_all [← Str.b_inj, Str.nil]; done) | (simp_all [← Str.b_inj, Str.nil]; omega)
 refine g9 10 ?_
 refine W.sd 12 (fun h10 p10 => ?_) (fun h10 p10 => ?_)
 ·refine g9 22 ?_
  refine congrArg Value.bool ?_
  rw [Bool.eq_iff_iff, decide_eq_true_iff]
  simp only [Msg.R]
  first | (simp_all [← Str.b_inj, Str.nil]; done) | (simp_all [← Str.b_inj, Str.nil]; omega)
 refine g9 10 ?_
 refine W.sd 18 (fun h16 p16 => ?_) (fun h16 p16 => ?_)
 ·refine g9 16 ?_
  refine congrArg Value.bool ?_
  rw [Bool.eq_iff_iff, decide_eq_true_iff]
  simp only [Msg.R]
  first | (simp_all [← Str.b_inj, Str.nil]; done) | (simp_all [← Str.b_inj, Str.nil]; omega)
 refine g9 11 ?_
 refine WC.cd (fun h22 p22 => ?_) (fun h22 p22 => ?_)
 ·refine g9 8 ?_
  refine congrArg Value.bool ?_
  rw [Bool.eq_iff_iff, decide_eq_true_iff]
  simp only [Msg.R]
  first | (simp_all [← Str.b_inj, Str.nil]; done) | (simp_all [← Str.b_inj, Str.nil]; omega)
 refine g9 10 ?_
 refine WC.cd (fun h26 p26 => ?_) (fun h26 p26 => ?_)
 ·refine g9 6 ?_
  refine W.sd 30 (fun h29 p29 => ?_) (fun h29 p29 => ?_)
  ·refine g9 8 ?_
   refine W.sp 34 rfl (fun h33 => ?_) (fun h33 => ?_)
   ·refine g9 10 ?_
    refine W.qcall (rspan_fc _ _ _ _ _ _ (by first | assumption | omega | (dsimp only; omega))) rfl (g9 1 ?_)
    refine W.qcall (empty_fc _ _ _) rfl (g9 9 ?_)
    refine congrArg Value.bool ?_
    rw [Bool.eq_iff_iff, decide_eq_true_iff]
    simp only [Msg.R]
    first | (simp_all [← Str.b_inj, Str.nil]; done) | (simp_all [← Str.b_inj, Str.nil]; omega)
   refine g9 10 ?_
   refine W.sd 40 (fun h37 p37 => ?_) (fun h37 p37 => ?_)
   ·refine g9 3 ?_
    refine W.qcall (rspan_fc _ _ _ _ _ _ (by first | assumption | omega | (dsimp only; omega))) rfl (g9 1 ?_)
    refine W.qcall (empty_fc _ _ _) rfl (g9 9 ?_)
    refine congrArg Value.bool ?_
    rw [Bool.eq_iff_iff, decide_eq_true_iff]
    simp only [Msg.R]
    first | (simp_all [← Str.b_inj, Str.nil]; done) | (simp_all [← Str.b_inj, Str.nil]; omega)
   refine g9 11 ?_
   refine congrArg Value.bool ?_
   rw [Bool.eq_iff_iff, decide_eq_true_iff]
   simp only [Msg.R]
   first | (simp_all [← Str.b_inj, Str.nil]; done) | (simp_all [← Str.b_inj, Str.nil]; omega)
  refine g9 21 ?_
  refine congrArg Value.bool ?_
  rw [Bool.eq_iff_iff, decide_eq_true_iff]
  simp only [Msg.R]
  first | (simp_all [← Str.b_inj, Str.nil]; done) | (simp_all [← Str.b_inj, Str.nil]; omega)
 refine g9 8 ?_
 refine W.sd 49 (fun h48 p48 => ?_) (fun h48 p48 => ?_)
 ·refine g9 8 ?_
  refine W.sp 54 rfl (fun h52 => ?_) (fun h52 => ?_)
  ·refine g9 8 ?_
   refine W.sd 58 (fun h57 p57 => ?_) (fun h57 p57 => ?_)
   ·refine g9 23 ?_
    refine congrArg Value.bool ?_
    rw [Bool.eq_iff_iff, decide_eq_true_iff]
    simp only [Msg.R]
    first | (simp_all [← Str.b_inj, Str.nil]; done) | (simp_all [← Str.b_inj, Str.nil]; omega)
   refine g9 10 ?_
   refine W.sd 63 (fun h61 p61 => ?_) (fun h61 p61 => ?_)
   ·refine g9 16 ?_
    refine congrArg Value.bool ?_
    rw [Bool.eq_iff_iff, decide_eq_true_iff]
    simp only [Msg.R]
    first | (simp_all [← Str.b_inj, Str.nil]; done) | (simp_all [← Str.b_inj, Str.nil]; omega)
   refine g9 8 ?_
   refine W.sd 67 (fun h66 p66 => ?_) (fun h66 p66 => ?_)
   ·refine g9 16 ?_
    refine congrArg Value.bool ?_
    rw [Bool.eq_iff_iff, decide_eq_true_iff]
    simp only [Msg.R]
    first | (simp_all [← Str.b_inj, Str.nil]; done) | (simp_all [← Str.b_inj, Str.nil]; omega)
   refine g9 13 ?_
   refine congrArg Value.bool ?_
   rw [Bool.eq_iff_iff, decide_eq_true_iff]
   simp only [Msg.R]
   first | (simp_all [← Str.b_inj, Str.nil]; done) | (simp_all [← Str.b_inj, Str.nil]; omega)
  refine g9 24 ?_
  refine congrArg Value.bool ?_
  rw [Bool.eq_iff_iff, decide_eq_true_iff]
  simp only [Msg.R]
  first | (simp_all [← Str.b_inj, Str.nil]; done) | (simp_all [← Str.b_inj, Str.nil]; omega)
 refine g9 29 ?_
 refine congrArg Value.bool ?_
 rw [Bool.eq_iff_iff, decide_eq_true_iff]
 simp only [Msg.R]
 first | (simp_all [← Str.b_inj, Str.nil]; done) | (simp_all [← Str.b_inj, Str.nil]; omega)

theorem mall_fc {G : GH} {v_l : Value} {l : List Msg} (h_l : SlR eMsg G v_l l) :
    Fc Tryz.prog 110 [v_l] G [] (fun v _ _ => v = .bool (decide (MsgsR l))) := by
 obtain ⟨sa_l, sc_l, rfl⟩ := h_l.form
 have hl := h_l.len47
 refine Fc.go [.tmp 2] Tryz.func110 Tryz.ntmps110 rfl (fun w0 => (g9 12 ?_))
 refine WC.loop (X := Nat) (fun k => [(3, nt9 k), (0, lV sa_l l.length sc_l)]) (fun k _ Ml => Ml = [] ∧ ∀ i (h : i < l.length), i < k → l[i].R ∧ (0 < i → (l[i - 1]'om9).stamp < l[i].stamp)) (fun k => l.length - k) 0 hs9 ?_ ?_
 ·exact ⟨rfl, fun i _ h => by omega⟩
 rintro k gG2 G2 _ hG2 ⟨rfl, hk⟩
 refine g9 9 ?_
 refine WC.cd (fun h7 p7 => ?_) (fun h7 p7 => ?_)
 ·refine g9 8 ?_
  refine (h_l.mono hG2).a2 (i := k) om9 (fun he3 hm4 => (g9 2 ?_))
  refine W.qcall (mright_fc _ _ _ _ _ _) rfl (g9 2 ?_)
  refine W.sp 16 rfl (fun h15 => ?_) (fun h15 => ?_)
  ·refine g9 32 ?_
   refine congrArg Value.bool ?_
   exact (decide_eq_false fun h => by obtain ⟨q1, q2⟩ := h k om9; first | (have := q2 om9; omega) | (simp [q1] at h15)).symm
  refine g9 6 ?_
  refine W.sd 19 (fun h18 p18 => ?_) (fun h18 p18 => ?_)
  ·refine g9 5 ?_
   refine (h_l.mono hG2).a2 (i := k) om9 (fun he8 hm9 => (g9 12 ?_))
   refine (h_l.mono hG2).a2 (i := k - 1) om9 (fun he13 hm14 => (W.ok (ok_indexAddr (i := k - 1) sl40 ty118 (h_l.mono hG2) rfl rfl ⟨om9, om9⟩) (g9 11 ?_)))
   refine WC.cd (fun h31 p31 => ?_) (fun h31 p31 => ?_)
   ·refine g9 12 ?_
    refine congrArg Value.bool ?_
    exact (decide_eq_false fun h => by obtain ⟨q1, q2⟩ := h k om9; first | (have := q2 om9; omega) | (simp [q1] at h15)).symm
   refine g9 9 ?_
   exact ⟨Le.rfl, k + 1, hs9, ⟨rfl, fun i h hi => by
      by_cases e : i = k
      · subst e; exact ⟨by simpa using h15, fun h0 => by omega⟩
      · exact hk i h om9⟩, om9⟩
  refine g9 27 ?_
  exact ⟨Le.rfl, k + 1, hs9, ⟨rfl, fun i h hi => by
      by_cases e : i = k
      · subst e; exact ⟨by simpa using h15, fun h0 => by omega⟩
      · exact hk i h om9⟩, om9⟩
 refine g9 12 ?_
 refine congrArg Value.bool ?_
 exact (decide_eq_true fun i h => hk i h om9).symm

theorem msizes_fc {G : GH} {v_l : Value} {l : List Msg} (h_l : SlR eMsg G v_l l) (hs : ∀ m ∈ l, m.key.b.size ≤ 16 ∧ m.val.b.size ≤ 16) :
    Fc Tryz.prog 111 [v_l] G [] (fun v _ _ => v = iV (sizesN l)) := by
 obtain ⟨sa_l, sc_l, rfl⟩ := h_l.form
 have hl := h_l.len47
 refine Fc.go [.tmp 2] Tryz.func111 Tryz.ntmps111 rfl (fun w0 => (g9 17 ?_))
 refine WC.loop (X := Nat) (fun k => [(3, iV (sizesN (l.take k))), (4, nt9 k), (0, lV sa_l l.length sc_l)]) (fun k _ Ml => Ml = [] ∧ k ≤ l.length ∧ 0 ≤ sizesN (l.take k) ∧ sizesN (l.take k) ≤ 36 * k) (fun k => l.length - k) 0 hs9 ?_ ?_
 ·exact ⟨rfl, om9, by simp [sizesN], by simp [sizesN]⟩
 rintro k gG18 G18 _ hG18 ⟨rfl, hk, h0, h36⟩
 refine g9 9 ?_
 refine WC.cd (fun h8 p8 => ?_) (fun h8 p8 => ?_)
 ·have hz := sizes_succ (l := l) (k := k) om9
  have hz2 := size_36 (hs l[k] (List.getElem_mem _))
  have he : Msg.size ⟨l[k].stamp, l[k].kind, l[k].key, l[k].hi, l[k].opn, l[k].val⟩ = l[k].size := rfl
  refine g9 8 ?_
  refine (h_l.mono hG18).a2 (i := k) om9 (fun he19 hm20 => (g9 2 ?_))
  refine W.qcall (msize_fc _ _ _ _ _ _) rfl (g9 11 ?_)
  exact ⟨Le.rfl, k + 1, ⟨(iv om9), eqv, eqv, trivial⟩, ⟨rfl, om9, om9, om9⟩, om9⟩
 refine g9 13 ?_
 refine congrArg (Value.int .i64) ?_
 rw [List.take_of_length_le om9]

theorem nsame3_fc {G : GH} {cs_a : List Value} {a : Nd} (h_a : NodeC G cs_a a) {cs_b : List Value} {b : Nd} (h_b : NodeC G cs_b b) :
    Fc Tryz.prog 49 [.agg (List.toArray cs_a), .agg (List.toArray cs_b)] G [] (fun v _ _ => v = .bool (decide (a = b))) := by
 obtain ⟨_, _, _, _, _, _, _, _, rfl, hp_a, hk_a, hm_a, hr_a, hok_a⟩ := h_a
 obtain ⟨_, _, _, _, _, _, _, _, rfl, hp_b, hk_b, hm_b, hr_b, hok_b⟩ := h_b
 refine Fc.go [.tmp 4] Tryz.func49 Tryz.ntmps49 rfl (fun w0 => (g9 2 ?_))
 refine W.box (L := [iV _, iV _, lV _ _ _, lV _ _ _, sV _, .bool _, iV _, iV _, lV _ _ _, lV _ _ _]) rfl rfl (fun b1 => (W.box (L := [iV _, iV _, lV _ _ _, lV _ _ _, sV _, .bool _, iV _, iV _, lV _ _ _, lV _ _ _]) rfl rfl (fun b2 => (g9 12 ?_))))
 refine W.sm 10 (fun h9 p9 => ?_) (fun h9 p9 => ?_)
 ·refine g9 45 ?_
  refine congrArg Value.bool ?_
  rw [Bool.eq_iff_iff, decide_eq_true_iff]
  clear hp_a hk_a hm_a hr_a hok_a hp_b hk_b hm_b hr_b hok_b
  cases a; cases b
  simp_all [Str.b_inj]
 refine g9 12 ?_
 refine W.sm 17 (fun h15 p15 => ?_) (fun h15 p15 => ?_)
 ·refine g9 38 ?_
  refine congrArg Value.bool ?_
  rw [Bool.eq_iff_iff, decide_eq_true_iff]
  clear hp_a hk_a hm_a hr_a hok_a hp_b hk_b hm_b hr_b hok_b
  cases a; cases b
  simp_all [Str.b_inj]
 refine g9 12 ?_
 refine W.sm 24 (fun h22 p22 => ?_) (fun h22 p22 => ?_)
 ·refine g9 31 ?_
  refine congrArg Value.bool ?_
  rw [Bool.eq_iff_iff, decide_eq_true_iff]
  clear hp_a hk_a hm_a hr_a hok_a hp_b hk_b hm_b hr_b hok_b
  cases a; cases b
  simp_all [Str.b_inj]
 refine g9 9 ?_
 refine W.ok (ok_neqB bo4 rfl rfl) (g9 2 ?_)
 refine W.sp 31 rfl (fun h29 => ?_) (fun h29 => ?_)
 ·refine g9 24 ?_
  refine congrArg Value.bool ?_
  rw [Bool.eq_iff_iff, decide_eq_true_iff]
  clear hp_a hk_a hm_a hr_a hok_a hp_b hk_b hm_b hr_b hok_b
  cases a; cases b
  simp_all [Str.b_inj]
 refine g9 12 ?_
 refine W.sm 38 (fun h36 p36 => ?_) (fun h36 p36 => ?_)
 ·refine g9 17 ?_
  refine congrArg Value.bool ?_
  rw [Bool.eq_iff_iff, decide_eq_true_iff]
  clear hp_a hk_a hm_a hr_a hok_a hp_b hk_b hm_b hr_b hok_b
  cases a; cases b
  simp_all [Str.b_inj]
 refine g9 13 ?_
 refine WC.cn (fun h43 p43 => ?_) (fun h43 p43 => ?_)
 ·refine g9 8 ?_
  refine congrArg Value.bool ?_
  rw [Bool.eq_iff_iff, decide_eq_true_iff]
  clear hp_a hk_a hm_a hr_a hok_a hp_b hk_b hm_b hr_b hok_b
  cases a; cases b
  simp_all [Str.b_inj]
 refine g9 8 ?_
 refine W.qcall (same_fc hp_a hp_b) rfl (W.mv ?_)
 refine W.sp 50 rfl (fun h49 => ?_) (fun h49 => ?_)
 ·refine g9 9 ?_
  refine W.qcall (ints_fc hk_a hk_b) rfl (g9 2 ?_)
  refine W.sp 57 rfl (fun h55 => ?_) (fun h55 => ?_)
  ·refine g9 9 ?_
   refine W.qcall (samem_fc hm_a hm_b) rfl (g9 2 ?_)
   refine W.sp 64 rfl (fun h62 => ?_) (fun h62 => ?_)
   ·refine g9 9 ?_
    refine W.qcall (samep_fc hr_a hr_b) rfl (g9 6 ?_)
    refine congrArg Value.bool ?_
    rw [Bool.eq_iff_iff, decide_eq_true_iff]
    clear hp_a hk_a hm_a hr_a hok_a hp_b hk_b hm_b hr_b hok_b
    cases a; cases b
    simp_all [Str.b_inj]
   refine g9 11 ?_
   refine congrArg Value.bool ?_
   rw [Bool.eq_iff_iff, decide_eq_true_iff]
   clear hp_a hk_a hm_a hr_a hok_a hp_b hk_b hm_b hr_b hok_b
   cases a; cases b
   simp_all [Str.b_inj]
  refine g9 18 ?_
  refine congrArg Value.bool ?_
  rw [Bool.eq_iff_iff, decide_eq_true_iff]
  clear hp_a hk_a hm_a hr_a hok_a hp_b hk_b hm_b hr_b hok_b
  cases a; cases b
  simp_all [Str.b_inj]
 refine g9 25 ?_
 refine congrArg Value.bool ?_
 rw [Bool.eq_iff_iff, decide_eq_true_iff]
 clear hp_a hk_a hm_a hr_a hok_a hp_b hk_b hm_b hr_b hok_b
 cases a; cases b
 simp_all [Str.b_inj]

theorem all21_fc {G : GH} {v_a : Value} {a : List Nd} (h_a : SlR eNode G v_a a) {v_b : Value} {b : List Nd} (h_b : SlR eNode G v_b b) :
    Fc Tryz.prog 23 [v_a, v_b] G [] (fun v _ _ => v = .bool (decide (a = b))) := by
 obtain ⟨sa_a, sc_a, rfl⟩ := h_a.form
 obtain ⟨sa_b, sc_b, rfl⟩ := h_b.form
 have ha := h_a.len47
 have hb := h_b.len47
 refine Fc.go [.tmp 4] Tryz.func23 Tryz.ntmps23 rfl (fun w0 => (g9 15 ?_))
 refine WC.cn (fun h10 p10 => ?_) (fun h10 p10 => ?_)
 ·refine g9 8 ?_
  refine congrArg Value.bool ?_
  exact (decide_eq_false fun e => by subst e; omega).symm
 have hab : a.length = b.length := by omega
 refine g9 9 ?_
 refine WC.loop (X := Nat) (fun k => [(5, nt9 k), (0, lV sa_a a.length sc_a), (1, lV sa_b b.length sc_b)]) (fun k _ Ml => Ml = [] ∧ k ≤ a.length ∧ ∀ i (h : i < a.length) (h2 : i < b.length), i < k → a[i] = b[i]) (fun k => a.length - k) 0 hs9 ?_ ?_
 ·exact ⟨rfl, om9, fun i _ _ h => by omega⟩
 rintro k gG3 G3 _ hG3 ⟨rfl, hk0, hk⟩
 refine g9 9 ?_
 refine WC.cd (fun h14 p14 => ?_) (fun h14 p14 => ?_)
 ·refine g9 8 ?_
  refine (h_a.mono hG3).aN (i := k) om9 (fun _ _ _ _ _ _ _ _ he4 hp_n5 hk_n5 hm_n5 hr_n5 hok_n5 => (g9 4 ?_))
  refine (h_b.mono hG3).aN (i := k) om9 (fun _ _ _ _ _ _ _ _ he8 hp_n9 hk_n9 hm_n9 hr_n9 hok_n9 => (g9 2 ?_))
  refine W.qcall (nsame3_fc (a := a[k]'om9) (b := b[k]'om9) (nk9 hp_n5 hk_n5 hm_n5 hr_n5 hok_n5) (nk9 hp_n9 hk_n9 hm_n9 hr_n9 hok_n9)) rfl (g9 3 ?_)
  refine WC.cond rfl (fun h26 => ?_) (fun h26 => ?_)
  ·refine g9 12 ?_
   refine congrArg Value.bool ?_
   exact (decide_eq_false fun e => by subst e; simp at h26).symm
  refine g9 9 ?_
  exact ⟨Le.rfl, k + 1, hs9, ⟨rfl, om9, fun i h h2 hi => by
      by_cases e : i = k
      · subst e; simpa using h26
      · exact hk i h h2 om9⟩, om9⟩
 refine g9 12 ?_
 refine congrArg Value.bool ?_
 exact (decide_eq_true (List.ext_getElem om9 fun i h h2 => hk i h h2 om9)).symm

theorem light_fc {G : GH} {v_l : Value} {l : List Nd} (h_l : SlR eNode G v_l l) (n : Int) (m : Int) (hm : 0 ≤ m ∧ m ≤ 1073741824) :
    Fc Tryz.prog 27 [v_l, iV n, iV m] G [] (fun v _ _ => v = .bool (decide (Light l n m))) := by
 obtain ⟨sa_l, sc_l, rfl⟩ := h_l.form
 have hl := h_l.len47
 refine Fc.go [.tmp 6] Tryz.func27 Tryz.ntmps27 rfl (fun w0 => (g9 14 ?_))
 refine WC.cd (fun h11 p11 => ?_) (fun h11 p11 => ?_)
 ·refine g9 8 ?_
  refine congrArg Value.bool ?_
  exact (decide_eq_false fun h => by have := h.1; omega).symm
 refine g9 9 ?_
 refine WC.loop (X := Nat) (fun k => [(7, nt9 k), (0, lV sa_l l.length sc_l), (1, iV n), (2, iV m)]) (fun k _ Ml => Ml = [] ∧ ∀ i (h : i < l.length), i < k → l[i].light m) (fun k => l.length - k) 0 hs9 ?_ ?_
 ·exact ⟨rfl, fun i _ h => by omega⟩
 rintro k gG12 G12 _ hG12 ⟨rfl, hk⟩
 refine g9 9 ?_
 refine WC.cd (fun h15 p15 => ?_) (fun h15 p15 => ?_)
 ·refine g9 8 ?_
  refine (h_l.mono hG12).aN (i := k) om9 (fun _ _ _ _ _ _ _ _ he13 hp_n14 hk_n14 hm_n14 hr_n14 hok_n14 => (g9 4 ?_))
  refine W.qcall (longp_fc hr_n14 _ om9) rfl (g9 2 ?_)
  refine W.sp 26 rfl (fun h25 => ?_) (fun h25 => ?_)
  ·refine g9 55 ?_
   refine congrArg Value.bool ?_
   exact (decide_eq_false fun h => by obtain ⟨q1, q2, q3, q4, q5⟩ := h.2 k om9; first | omega | (simp at h25; omega) | (simp at h55; omega)).symm
  refine g9 5 ?_
  refine (h_l.mono hG12).aN (i := k) om9 (fun _ _ _ _ _ _ _ _ he17 hp_n18 hk_n18 hm_n18 hr_n18 hok_n18 => (g9 8 ?_))
  refine W.qcall (rlong_fc hp_n18 _ om9) rfl (g9 6 ?_)
  refine W.sd 37 (fun h35 p35 => ?_) (fun h35 p35 => ?_)
  ·refine g9 44 ?_
   refine congrArg Value.bool ?_
   exact (decide_eq_false fun h => by obtain ⟨q1, q2, q3, q4, q5⟩ := h.2 k om9; first | omega | (simp at h25; omega) | (simp at h55; omega)).symm
  refine g9 5 ?_
  refine (h_l.mono hG12).aN (i := k) om9 (fun _ _ _ _ _ _ _ _ he21 hp_n22 hk_n22 hm_n22 hr_n22 hok_n22 => (g9 13 ?_))
  refine W.sd 47 (fun h45 p45 => ?_) (fun h45 p45 => ?_)
  ·refine g9 34 ?_
   refine congrArg Value.bool ?_
   exact (decide_eq_false fun h => by obtain ⟨q1, q2, q3, q4, q5⟩ := h.2 k om9; first | omega | (simp at h25; omega) | (simp at h55; omega)).symm
  refine g9 5 ?_
  refine (h_l.mono hG12).aN (i := k) om9 (fun _ _ _ _ _ _ _ _ he25 hp_n26 hk_n26 hm_n26 hr_n26 hok_n26 => (g9 8 ?_))
  refine W.qcall (few_fc hm_n26 _ om9) rfl (g9 4 ?_)
  refine W.sp 57 rfl (fun h55 => ?_) (fun h55 => ?_)
  ·refine g9 24 ?_
   refine congrArg Value.bool ?_
   exact (decide_eq_false fun h => by obtain ⟨q1, q2, q3, q4, q5⟩ := h.2 k om9; first | omega | (simp at h25; omega) | (simp at h55; omega)).symm
  refine g9 5 ?_
  refine (h_l.mono hG12).aN (i := k) om9 (fun _ _ _ _ _ _ _ _ he29 hp_n30 hk_n30 hm_n30 hr_n30 hok_n30 => (g9 14 ?_))
  refine WC.cd (fun h65 p65 => ?_) (fun h65 p65 => ?_)
  ·refine g9 12 ?_
   refine congrArg Value.bool ?_
   exact (decide_eq_false fun h => by obtain ⟨q1, q2, q3, q4, q5⟩ := h.2 k om9; first | omega | (simp at h25; omega) | (simp at h55; omega)).symm
  refine g9 9 ?_
  exact ⟨Le.rfl, k + 1, hs9, ⟨rfl, fun i h hi => by
      by_cases e : i = k
      · subst e; exact ⟨by simpa using h25, om9, om9, by simpa using h55, om9⟩
      · exact hk i h om9⟩, om9⟩
 refine g9 12 ?_
 refine congrArg Value.bool ?_
 exact (decide_eq_true ⟨om9, fun i h => hk i h om9⟩).symm

theorem gload_fc {G : GH} (cfan : Int) (cleaf : Int) (cbud : Int) (cslots : Int) (crest : Int) {v_l : Value} {l : List Nd} (h_l : SlR eNode G v_l l) :
    Fc Tryz.prog 31 [.agg #[iV cfan, iV cleaf, iV cbud, iV cslots, iV crest], v_l] G [] (fun v G' M' => (¬ (CfgR (⟨cfan, cleaf, cbud, cslots, crest⟩ : Cfg) ∧ 0 < l.length ∧ placedF 0 l = true) ∧ v = .tuple #[.pointer none, iV 2] ∧ M' = []) ∨ ((CfgR (⟨cfan, cleaf, cbud, cslots, crest⟩ : Cfg) ∧ 0 < l.length ∧ placedF 0 l = true) ∧ ((¬ (l.length : Int) ≤ cslots ∧ v = .tuple #[.pointer none, iV 4] ∧ M' = []) ∨ ((l.length : Int) ≤ cslots ∧ ∃ b, v = .tuple #[pt9 b, iV 0] ∧ StR 43 4 3 150 107 b (⟨cfan, cleaf, cbud, cslots, crest⟩ : Cfg) G' l M')))) := by
 obtain ⟨sa_l, sc_l, rfl⟩ := h_l.form
 have hl := h_l.len47
 refine Fc.go [.tmp 4, .tmp 5] Tryz.func31 Tryz.ntmps31 rfl (fun w0 => (g9 2 ?_))
 refine W.box (L := [iV _, iV _, iV _, iV _, iV _]) rfl rfl (fun b33 => (g9 7 ?_))
 refine W.call (Mp := []) (stnew_fc (cfan) (cleaf) (cbud) (cslots) (crest)) rfl pr9 ?_
 intro v37 G34 Ms36 hG34 q35
 refine Or.elim q35 (fun q38 => ?_) (fun q39 => ?_)
 ·refine match q38 with | ⟨hnc, e_40, e_41⟩ => ?_
  subst e_40
  subst e_41
  refine g9 29 ?_
  exact .inl ⟨fun h => hnc h.1, rfl, rfl⟩
 refine match q39 with | ⟨hC, bSt, e_42, hS9⟩ => ?_
 subst e_42
 refine W.perm (pmC pr9).symm (g9 22 ?_)
 refine WC.cd (fun h24 p24 => ?_) (fun h24 p24 => ?_)
 ·refine g9 9 ?_
  exact .inl ⟨fun h => by have := h.2.1; omega, rfl, rfl⟩
 refine g9 11 ?_
 refine WC.loop (X := Nat) (fun k => [(28, nt9 k), (6, pt9 bSt), (1, lV sa_l l.length sc_l), (26, lV sa_l l.length sc_l), (27, nt9 ((l).length))]) (fun k _ Ml => Ml = ((b33, ce9 23 [iV cfan, iV cleaf, iV cbud, iV cslots, iV crest]) :: (Ms36 ++ [])) ∧ k ≤ l.length ∧ placedF 0 (l.take k) = true) (fun k => l.length - k) 0 hs9 ?_ ?_
 ·exact ⟨rfl, om9, rfl⟩
 rintro k gG43 G43 _ hG43 ⟨rfl, hk, hpk⟩
 refine g9 6 ?_
 refine WC.cd (fun h29 p29 => ?_) (fun h29 p29 => ?_)
 ·refine g9 7 ?_
  refine (h_l.mono (hG34.trans hG43)).aN (i := k) om9 (fun _ _ _ _ _ _ _ _ he44 hp_n45 hk_n45 hm_n45 hr_n45 hok_n45 => (g9 2 ?_))
  refine W.alloc zr43 (fun b48 => (g9 12 ?_))
  refine WC.cn (fun h36 p36 => ?_) (fun h36 p36 => ?_)
  ·refine g9 13 ?_
   exact .inl ⟨(fun h => by have := placed_not (l := l) (k := k) om9 p36; rw [this] at h; cases h.2.2), rfl, rfl⟩
  refine g9 6 ?_
  refine W.sub (sr9.cons _) (g9 2 ?_)
  exact ⟨Le.rfl, k + 1, hs9, ⟨rfl, om9, placed_step om9 hpk om9⟩, om9⟩
 have hpl : placedF 0 l = true := by rw [List.take_of_length_le om9] at hpk; exact hpk
 refine g9 14 ?_
 refine WC.loop (X := (Nat) × MH) (fun k2 => [(40, nt9 k2.1), (38, lV sa_l l.length sc_l), (39, nt9 ((l).length)), (6, pt9 bSt)]) (fun k2 G Ml => Ml = ((b33, ce9 23 [iV cfan, iV cleaf, iV cbud, iV cslots, iV crest]) :: (k2.2 ++ [])) ∧ StR 43 4 3 150 107 bSt (⟨cfan, cleaf, cbud, cslots, crest⟩ : Cfg) G (ldN l k2.1) k2.2 ∧ k2.1 ≤ l.length) (fun k2 => l.length - k2.1) (0, Ms36) hs9 ?_ ?_
 ·exact ⟨rfl, (by exact (StR.mono hG43 hS9)), om9⟩
 rintro ⟨k2, M_6⟩ gG49 G49 _ hG49 ⟨rfl, ho_6, hk2⟩
 try dsimp only at ho_6 hk2
 refine WC.fr (f := setL gG49 [(40, nt9 k2), (38, lV sa_l l.length sc_l), (39, nt9 ((l).length)), (6, pt9 bSt)]) rfl (g9 6 ?_)
 refine WC.cd (fun h41 p41 => ?_) (fun h41 p41 => ?_)
 ·have hsk : (l[k2]'om9).slot = ((k2 : Nat) : Int) := placed_at hpl om9
  refine g9 7 ?_
  refine (h_l.mono ((hG34.trans hG43).trans hG49)).aN (i := k2) om9 (fun _ _ _ _ _ _ _ _ he50 hp_n51 hk_n51 hm_n51 hr_n51 hok_n51 => (g9 2 ?_))
  refine W.alloc zr43 (fun b54 => (g9 11 ?_))
  refine WC.cd (fun h46 p46 => ?_) (fun h46 p46 => ?_)
  ·refine g9 4 ?_
   refine W.call (Mp := M_6) (ptake_fc ho_6 (nk9 hp_n51 hk_n51 hm_n51 hr_n51 hok_n51)) rfl (pmC (pmC pr9)) ?_
   intro v58 G55 Ms57 hG55 q56
   refine match q56 with | ⟨e_60, hR59⟩ => ?_
   subst e_60
   refine W.perm (pmC (pmC pr9)).symm (g9 13 ?_)
   refine WC.cn (fun h54 p54 => ?_) (fun h54 p54 => ?_)
   ·have hns : ¬ k2 < cslots.toNat := fun hh => p54 (by rw [ld_take om9 om9 hh hsk])
    have hE := ld_full (l := l) (k := k2) om9 om9 hns (l[k2]'om9)
    refine g9 15 ?_
    exact .inr ⟨⟨hC, om9, hpl⟩, .inl ⟨om9, by rw [hE]; rfl, rfl⟩⟩
   have hns : k2 < cslots.toNat := by
     by_cases hh : k2 < cslots.toNat
     · exact hh
     rw [ld_full om9 om9 hh] at p54; exact absurd p54 (by show ¬ (4 : Int) = 0; omega)
   have hE := ld_take (l := l) (k := k2) om9 om9 hns hsk
   refine g9 5 ?_
   refine W.call (Mp := Ms57) (pset_fc hR59 (nm9 hG55 hp_n51 hk_n51 hm_n51 hr_n51 hok_n51)) rfl (pmC (pmC pr9)) ?_
   intro v64 G61 Ms63 hG61 q62
   refine match q62 with | ⟨e_66, hR65⟩ => ?_
   subst e_66
   refine W.perm (pmC (pmC pr9)).symm (g9 6 ?_)
   refine W.sub (sr9.cons _) (g9 2 ?_)
   exact ⟨lec, (k2 + 1, Ms63), hs9, ⟨rfl, (by have h := hR65; rw [hE] at h; dsimp only at h; rw [ld_put om9 hsk] at h; exact h), om9⟩, om9⟩
  refine g9 5 ?_
  refine W.call (Mp := M_6) (pset_fc ho_6 (nk9 hp_n51 hk_n51 hm_n51 hr_n51 hok_n51)) rfl (pmC (pmC pr9)) ?_
  intro v70 G67 Ms69 hG67 q68
  refine match q68 with | ⟨e_72, hR71⟩ => ?_
  subst e_72
  refine W.perm (pmC (pmC pr9)).symm (g9 6 ?_)
  refine W.sub (sr9.cons _) (g9 2 ?_)
  exact ⟨hG67, (k2 + 1, Ms69), hs9, ⟨rfl, (by have h := hR71; have hk0 : k2 = 0 := om9; subst hk0; rw [ld_0 om9 hsk] at h; exact h), om9⟩, om9⟩
 refine g9 13 ?_
 refine ⟨.inr rfl, [_, _], ⟨rfl, rfl, trivial⟩, (M_6 ++ []), sr9.cons _, ?_⟩
 have hS := ho_6
 have hkl : k2 = l.length := by omega
 subst hkl
 rw [ld_all om9] at hS
 have hle := hS.2.1
 dsimp only at hle
 exact .inr ⟨⟨hC, om9, hpl⟩, .inr ⟨by unfold CfgR at hC; dsimp only at hC; omega, _, rfl, by rw [List.append_nil]; exact hS⟩⟩

theorem mlists_fc {G : GH} {v_ls : Value} {ls : List (List Msg)} (h_ls : SlR (eSl eMsg) G v_ls ls) (ht : totN ls ≤ 100000000) (hln : ls.length ≤ 100000) :
    Fc Tryz.prog 123 [v_ls] G [] (fun v G' M' => M' = [] ∧ ∃ u0, v = u0 ∧ SlR eMsg G' u0 (mergeN ls)) := by
 obtain ⟨sa_ls, sc_ls, rfl⟩ := h_ls.form
 have hl := h_ls.len47
 refine Fc.go [.tmp 2] Tryz.func123 Tryz.ntmps123 rfl (fun w0 => (g9 7 ?_))
 refine W.lit0 (e := eHead) sl205 ty208 zr208 rfl (fun v1 Ms2 ho3 => ?_)
 have q7 := ho3.form
 refine match q7 with | ⟨sa4, sc5, e_6⟩ => ?_
 subst e_6
 refine W.box (L := [lV _ _ _]) rfl rfl (fun b8 => (g9 5 ?_))
 have hR9 : HeadsR b8 205 G [] ((b8, ce9 205 [lV sa4 0 sc5]) :: Ms2) := ⟨(fun h hh => by cases hh), _, _, rfl, ho3⟩
 refine WC.perm (M' := (((b8, ce9 205 [lV sa4 0 sc5]) :: Ms2) ++ [])) (pr9.symm.trans ((pr9.cons _).trans pr9)) (g9 7 ?_)
 refine WC.loop (X := (Nat × List Hd) × MH) (fun x => [(12, nt9 x.1.1), (10, lV sa_ls ls.length sc_ls), (11, nt9 ((ls).length)), (3, pt9 b8)]) (fun x G Ml => Ml = (x.2 ++ []) ∧ HeadsR b8 205 G (x.1.2) x.2 ∧ x.1.1 ≤ ls.length ∧ Heap Hd.lt x.1.2 ∧ x.1.2.Perm (hdsF 0 (ls.take x.1.1))) (fun x => ls.length - x.1.1) (((0, []) : Nat × List Hd), ((b8, ce9 205 [lV sa4 0 sc5]) :: Ms2)) hs9 ?_ ?_
 ·exact ⟨rfl, (by simpa using hR9), Nat.zero_le _, (fun c h0 hc _ => by simp at hc), by simp [hdsF]⟩
 rintro ⟨⟨k, H⟩, M_3⟩ gG10 G10 _ hG10 ⟨rfl, ho_3, hk, hH, hp⟩
 try dsimp only at ho_3 hk hH hp
 have hHl := hp.length_eq
 have hHl2 := hds_len (ls.take k) 0
 have hHl3 : (ls.take k).length ≤ k := by simp; omega
 refine WC.fr (f := setL gG10 [(12, nt9 k), (10, lV sa_ls ls.length sc_ls), (11, nt9 ((ls).length)), (3, pt9 b8)]) rfl (g9 6 ?_)
 refine WC.cd (fun h13 p13 => ?_) (fun h13 p13 => ?_)
 ·try dsimp only at p13
  refine g9 7 ?_
  have q14 := (h_ls.mono hG10).at (i := (k)) om9
  refine match q14 with | ⟨_, he11, ⟨_, e_13, hs12⟩⟩ => ?_
  subst e_13
  obtain ⟨sa_hs12, sc_hs12, rfl⟩ := hs12.form
  refine W.ok (ok_indexAddr (i := (k)) sl92 ty40 (h_ls.mono hG10) rfl rfl ⟨om9, om9⟩) (g9 12 ?_)
  refine WC.cd (fun h19 p19 => ?_) (fun h19 p19 => ?_)
  ·try dsimp only at p19
   refine g9 2 ?_
   refine W.ok (ok_mkI pi203 rfl) (g9 2 ?_)
   refine W.ok (ok_build (L := [lV _ _ _, iV _]) pl208 zr208 rfl rfl rfl) (W.ok (ok_mkI pi208 rfl) (W.call (Mp := M_3) (hpush_fc (heads_heap (b := b8) (Tb := 205)) ho_3 (a := ((ls[k], (k : Int)) : Hd)) ⟨⟨_, _, rfl, hs12, ⟨by dsimp only; omega, by dsimp only; omega⟩⟩, by dsimp only; omega⟩ om9 (fun hl h => headV_mono hl h)) rfl pr9 ?_))
   intro _ G15 Ms17 hG15 q16
   refine match q16 with | ⟨e_20, hR19⟩ => ?_
   subst e_20
   refine g9 8 ?_
   exact ⟨hG15, (((k + 1, pushL Hd.lt H ((ls[k], (k : Int)) : Hd)) : Nat × List Hd), Ms17), hs9, ⟨rfl, (by simpa using hR19), by dsimp only; omega, (push_heap Hd.lo hH _).1, (push_heap Hd.lo hH _).2.trans (hds_push om9 hp om9)⟩, by dsimp only; omega⟩
  try dsimp only at p19
  refine g9 8 ?_
  exact ⟨Le.rfl, (((k + 1, H) : Nat × List Hd), M_3), hs9, ⟨rfl, (by simpa using ho_3), by dsimp only; omega, hH, hds_skip om9 hp om9⟩, by dsimp only; omega⟩
 try dsimp only at p13
 refine g9 12 ?_
 refine WC.loop (X := (Ls × List Hd × List Msg) × Value × MH × MH) (fun x => [(6, x.2.1), (3, pt9 b8)]) (fun x G Ml => Ml = (x.2.2.1 ++ (x.2.2.2 ++ [])) ∧ OwnR eMsg 118 G x.2.1 (x.1.2.2) x.2.2.1 ∧ HeadsR b8 205 G (x.1.2.1) x.2.2.2 ∧ Heap Hd.lt x.1.2.1 ∧ x.1.2.1.Perm (hdsF 0 x.1.1) ∧ x.1.2.2 ++ mergeN x.1.1 = mergeN ls ∧ x.1.1.length = ls.length) (fun x => totN x.1.1) (((ls, H, []) : Ls × List Hd × List Msg), lV none 0 0, ([] : MH), M_3) hs9 ?_ ?_
 ·exact ⟨rfl, (by simpa using OwnR.nil), (by simpa using ho_3), hH, by rw [List.take_of_length_le om9] at hp; exact hp, by simp, rfl⟩
 rintro ⟨⟨cur, H, out⟩, v_6, M_6, M_3⟩ gG21 G21 _ hG21 ⟨rfl, ho_6, ho_3, hH, hp, hm, hcl⟩
 try dsimp only at ho_6 ho_3 hH hp hm hcl
 have hml := congrArg List.length hm
 rw [List.length_append] at hml
 have hml2 := merge_len ls
 have hHl := hp.length_eq
 have hHl2 := hds_len cur 0
 refine WC.fr (f := setL gG21 [(6, v_6), (3, pt9 b8)]) rfl (g9 2 ?_)
 refine match ho_3 with | ⟨hne_u, v_u, Ms_u, eM_, ho_u⟩ => ?_
 subst eM_
 refine WC.perm (M' := ((b8, ce9 205 [v_u]) :: (M_6 ++ (Ms_u ++ [])))) (pmB pr9).symm ?_
 refine match ho_u.form with | ⟨sa_u, sc_u, eV_⟩ => ?_
 subst eV_
 refine g9 4 ?_
 refine W.call (Mp := Ms_u) (hlen_fc ho_u) rfl (pmC (pmA pr9)) ?_
 intro _ G22 Ms24 hG22 q23
 refine match q23 with | ⟨e_25, e_26⟩ => ?_
 subst e_25
 subst e_26
 refine W.perm (pmC pr9).symm (g9 3 ?_)
 refine WC.cd (fun h32 p32 => ?_) (fun h32 p32 => ?_)
 ·try dsimp only at p32
  obtain ⟨b, hb, hbe⟩ := best_of hH hp om9
  have e9 : List.drop 1 (List.take (nth H 0).1.length (nth H 0).1) = List.drop 1 (cur[b]'hb.lt) := by rw [List.take_length, hbe]
  have hpl := (pop_heap Hd.lo hH om9).2.2
  refine g9 4 ?_
  have hR27 : HeadsR b8 205 G22 H ((b8, ce9 205 [lV sa_u H.length sc_u]) :: Ms_u) := ⟨hne_u, _, _, rfl, (ho_u.mono hG22)⟩
  refine WC.perm (M' := (((b8, ce9 205 [lV sa_u H.length sc_u]) :: Ms_u) ++ (M_6 ++ []))) (pr9.symm.trans ((pr9.cons _).trans pr9)) (g9 2 ?_)
  refine W.ok (ok_mkI pi203 rfl) (W.call (Mp := ((b8, ce9 205 [lV sa_u H.length sc_u]) :: Ms_u)) (hpop_fc (heads_heap (b := b8) (Tb := 205)) hR27 om9) rfl pr9 ?_)
  intro v31 G28 Ms30 hG28 q29
  refine match q29 with | ⟨hvhR32, hR32⟩ => ?_
  refine match hvhR32 with | ⟨⟨_, _, e_34, hw_p33, hok_p33⟩, hn_p33⟩ => ?_
  subst e_34
  refine W.ok (ok_tyA pi208 rfl) (W.alloc zr208 (fun b35 => (g9 8 ?_)))
  refine hw_p33.a2 (i := 0) om9 (fun he36 hm37 => (W.ok (ok_indexAddr (i := 0) sl40 ty118 hw_p33 rfl rfl ⟨om9, om9⟩) (g9 1 ?_)))
  refine W.lit (e := eMsg) (l := [((((nth H 0).1))[0])]) (css := [[iV _, iV _, sV _, sV _, .bool _, sV _]]) sl40 ty118 zr118 rfl rfl rfl rfl rfl rfl ⟨⟨rfl, hm37⟩, trivial⟩ (fun bl41 G41 hG41 hv41 => (W.app (e := eMsg) sl40 ty118 zr118 rfl by118 rfl rfl ((ho_6.mono lec)) (hv41) (pmC (pmA pr9)) (by show (_ + 1) * 72 ≤ _; omega) (fun v42 Ms43 ho44 => (W.perm (pmC pr9).symm ?_))))
  have q48 := ho44.form
  refine match q48 with | ⟨sa45, sc46, e_47⟩ => ?_
  subst e_47
  refine g9 7 ?_
  refine W.slR (1) (((nth H 0).1).length) sl40 ty118 (hw_p33.mono hG41) rfl ⟨_, _, rfl, om9⟩ rfl om9 om9 (fun v50 hs49 => ?_)
  have q54 := hs49.form
  refine match q54 with | ⟨sa51, sc52, e_53⟩ => ?_
  subst e_53
  refine g9 12 ?_
  refine WC.cd (fun h51 p51 => ?_) (fun h51 p51 => ?_)
  ·try dsimp only at p51
   refine g9 2 ?_
   refine W.ok (ok_mkI pi203 rfl) (g9 1 ?_)
   refine W.ok (ok_mkI pi208 rfl) (W.call (Mp := Ms30) (hpush_fc (heads_heap (b := b8) (Tb := 205)) ((heads_heap (b := b8) (Tb := 205)).mono hG41 hR32) (a := (((((nth H 0).1).take ((nth H 0).1).length).drop 1, (nth H 0).2) : Hd)) ⟨⟨_, _, rfl, hs49, hok_p33⟩, by dsimp only; omega⟩ om9 (fun hl h => headV_mono hl h)) rfl (pmC (pmA pr9)) ?_)
   intro _ G55 Ms57 hG55 q56
   refine match q56 with | ⟨e_60, hR59⟩ => ?_
   subst e_60
   refine W.perm (pmC pr9).symm (W.sub (sr9.cons _) (W.perm (M' := (Ms43 ++ (Ms57 ++ []))) ((List.Perm.append_left _ ((List.Perm.append_left _ pr9).trans pr9)).trans (pmA pr9)) (g9 3 ?_)))
   exact ⟨lec, (((cur.set b ((cur[b]'hb.lt).drop 1), pushL Hd.lt (popL Hd.lt H) (((((nth H 0).1).take ((nth H 0).1).length).drop 1, (nth H 0).2) : Hd), out ++ [(nth H 0).1[0]'(by first | assumption | (rw [hbe]; exact hb.ne))]) : Ls × List Hd × List Msg), lV sa45 ((out ++ [((((nth H 0).1))[0])])).length sc46, Ms43, Ms57), hs9, ⟨rfl, (by simpa using (ho44.mono hG55)), (by simpa using hR59), (mstep_t hH hp om9 hb hbe (el := (((((nth H 0).1).take ((nth H 0).1).length).drop 1, (nth H 0).2) : Hd)) (by rw [e9, hbe]) (by dsimp only; omega)).1, (mstep_t hH hp om9 hb hbe (el := (((((nth H 0).1).take ((nth H 0).1).length).drop 1, (nth H 0).2) : Hd)) (by rw [e9, hbe]) (by dsimp only; omega)).2, by dsimp only; rw [← hm, merge_step hb, List.append_assoc, List.singleton_append]; simp only [hbe], by dsimp only; rw [List.length_set]; exact hcl⟩, by dsimp only; have := totN_set hb; omega⟩
  try dsimp only at p51
  refine WC.sub (sr9.cons _) (g9 3 ?_)
  exact ⟨lec, (((cur.set b ((cur[b]'hb.lt).drop 1), popL Hd.lt H, out ++ [(nth H 0).1[0]'(by first | assumption | (rw [hbe]; exact hb.ne))]) : Ls × List Hd × List Msg), lV sa45 ((out ++ [((((nth H 0).1))[0])])).length sc46, Ms43, Ms30), hs9, ⟨rfl, (by simpa using ho44), (by simpa using ((heads_heap (b := b8) (Tb := 205)).mono hG41 hR32)), (mstep_f hH hp om9 hb hbe (by rw [e9] at p51; omega)).1, (mstep_f hH hp om9 hb hbe (by rw [e9] at p51; omega)).2, by dsimp only; rw [← hm, merge_step hb, List.append_assoc, List.singleton_append]; simp only [hbe], by dsimp only; rw [List.length_set]; exact hcl⟩, by dsimp only; have := totN_set hb; omega⟩
 try dsimp only at p32
 refine g9 11 ?_
 refine WC.giveO (ho_6.mono hG22) (pmC (pmA pr9)) (fun G61 hG61 hv61 => (g9 2 ?_))
 refine ⟨rfl, _, rfl, ?_⟩
 · exact SlR.cast hv61 (by rw [← hm, merge_done hp om9, List.append_nil])

end Go.Proofs.YtgmnljhiojdigaaGreat
