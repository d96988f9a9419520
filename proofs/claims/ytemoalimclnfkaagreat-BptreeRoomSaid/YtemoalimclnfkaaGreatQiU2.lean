/- Arenas made anew, and what is done with an arena. -/
import Derived.Test.YtemoalimclnfkaaGreatQiRm
set_option maxRecDepth 100000
set_option maxHeartbeats 1600000
set_option linter.unusedVariables false
set_option linter.unusedSimpArgs false
set_option linter.unnecessarySimpa false
namespace Go.Proofs.YtemoalimclnfkaaGreat
open Go Go.Fw Go.RowKit
attribute [local irreducible] Ok W WC
theorem snewp_fc {G : GH} (n : Int) :
    Fc Tryz.prog 26 [iV n] G [] (fun v G' M' => (¬ (1 ≤ n ∧ n ≤ 4096) ∧ v = .tuple #[.pointer none, iV 2] ∧ M' = []) ∨ ((1 ≤ n ∧ n ≤ 4096) ∧ ∃ b, v = .tuple #[pt9 b, iV 0] ∧ ArR ePt 64 4 3 114 b G' (List.replicate n.toNat (none : Option Nat), List.replicate n.toNat false) M')) := by
 refine Fc.go [.tmp 2, .tmp 3] Tryz.func26 Tryz.ntmps26 rfl (fun w0 => (g9 12 ?_))
 refine W.sd 8 (fun h7 p7 => ?_) (fun h7 p7 => ?_)
 ·refine g9 14 ?_
  refine ⟨.inr rfl, [_, _], ⟨rfl, rfl, trivial⟩, [], sr9, ?_⟩
  exact .inl ⟨om9, rfl, rfl⟩
 refine g9 7 ?_
 refine WC.cd (fun h10 p10 => ?_) (fun h10 p10 => ?_)
 ·refine g9 8 ?_
  refine ⟨.inr rfl, [_, _], ⟨rfl, rfl, trivial⟩, [], sr9, ?_⟩
  exact .inl ⟨om9, rfl, rfl⟩
 obtain ⟨m, rfl⟩ : ∃ m : Nat, n = (m : Int) := ⟨n.toNat, om9⟩
 refine g9 3 ?_
 refine WC.dw sr9 (d9 [0, 2] ?_)
 refine WD.any [1, 3] (by kernel_rfl) rfl ⟨WD.ap ?_, WD.ap ?_, trivial⟩
 ·refine W.mkSl (e := ePt) (a0 := (none : Option Nat)) (n := (m)) sl80 ty64 zr64 rfl by64 (rfl) rfl rfl (by first | (show _ * 8 ≤ 140737488355328; omega) | (show _ * 1 ≤ 16777216; omega) | (show _ * 1 ≤ 140737488355328; omega) | (show _ * 1 ≤ 16777216; omega)) (by first | (show _ * 8 ≤ 140737488355328; omega) | (show _ * 1 ≤ 16777216; omega) | (show _ * 1 ≤ 140737488355328; omega) | (show _ * 1 ≤ 16777216; omega)) (fun v1 Ms2 ho3 => ?_)
  have q7 := ho3.form
  refine match q7 with | ⟨sa4, sc5, e_6⟩ => ?_
  subst e_6
  refine W.nn (WD.a1 3 rfl (W.mkSl (e := eBool) (a0 := false) (n := (m)) sl111 ty4 zr4 rfl by4 (rfl) rfl rfl (by first | (show _ * 8 ≤ 140737488355328; omega) | (show _ * 1 ≤ 16777216; omega) | (show _ * 1 ≤ 140737488355328; omega) | (show _ * 1 ≤ 16777216; omega)) (by first | (show _ * 8 ≤ 140737488355328; omega) | (show _ * 1 ≤ 16777216; omega) | (show _ * 1 ≤ 140737488355328; omega) | (show _ * 1 ≤ 16777216; omega)) (fun v8 Ms9 ho10 => ?_)))
  have q14 := ho10.form
  refine match q14 with | ⟨sa11, sc12, e_13⟩ => ?_
  subst e_13
  refine W.nn (WD.tk 4 rfl (ok_build (L := [lV _ _ _, lV _ _ _, lV _ _ _]) pl114 zr114 rfl rfl rfl) (WD.a1 5 rfl (W.box (L := [lV _ _ _, lV _ _ _, lV _ _ _]) rfl rfl (fun b15 => (W.nn (d9 [6] ?_))))))
  refine g9 4 ?_
  have hR16 : ArP ePt 64 4 3 114 b15 G (List.replicate m (none : Option Nat), List.replicate m false, iotaN 0) ((b15, ce9 114 [lV sa4 ((List.replicate ((m)) (none : Option Nat))).length sc5, lV sa11 ((List.replicate ((m)) false)).length sc12, lV none 0 0]) :: (Ms2 ++ (Ms9 ++ []))) := ⟨_, _, _, _, _, _, rfl, ho3, ho10, OwnR.nil⟩
  refine WC.perm (M' := (((b15, ce9 114 [lV sa4 ((List.replicate ((m)) (none : Option Nat))).length sc5, lV sa11 ((List.replicate ((m)) false)).length sc12, lV none 0 0]) :: (Ms2 ++ (Ms9 ++ []))) ++ [])) (pr9.symm.trans ((((pmF ((pmF pr9).trans pr9)).trans (pmA pr9)).cons _).trans pr9)) (g9 6 ?_)
  refine WC.loop (X := (Nat) × MH) (fun k => [(19, nt9 k.1), (18, nt9 m), (4, pt9 b15)]) (fun k G Ml => Ml = (k.2 ++ []) ∧ ArP ePt 64 4 3 114 b15 G ((List.replicate m (none : Option Nat), List.replicate m false, iotaN k.1)) k.2 ∧ k.1 ≤ m) (fun k => m - k.1) (0, ((b15, ce9 114 [lV sa4 ((List.replicate ((m)) (none : Option Nat))).length sc5, lV sa11 ((List.replicate ((m)) false)).length sc12, lV none 0 0]) :: (Ms2 ++ (Ms9 ++ [])))) hs9 ?_ ?_
  ·exact ⟨rfl, (by exact hR16), om9⟩
  rintro ⟨k, M_4⟩ gG17 G17 _ hG17 ⟨rfl, ho_4, hk⟩
  try dsimp only at ho_4 hk
  refine WC.fr (f := setL gG17 [(19, nt9 k), (18, nt9 m), (4, pt9 b15)]) rfl (g9 6 ?_)
  refine WC.cd (fun h20 p20 => ?_) (fun h20 p20 => ?_)
  ·refine g9 10 ?_
   refine match ho_4 with | ⟨vc_u18, vu_u18, vf_u18, Mc_u18, Mu_u18, Mf_u18, eM_, hc_u18, hu_u18, hf_u18⟩ => ?_
   subst eM_
   refine WC.perm (M' := ((b15, ce9 114 [vc_u18, vu_u18, vf_u18]) :: (Mc_u18 ++ (Mu_u18 ++ (Mf_u18 ++ []))))) ((pmF (pmF pr9)).cons _).symm ?_
   dsimp only at hc_u18 hu_u18 hf_u18
   refine match hc_u18.form with | ⟨sac_u18, scc_u18, eV_⟩ => ?_
   subst eV_
   refine match hu_u18.form with | ⟨sau_u18, scu_u18, eV_⟩ => ?_
   subst eV_
   refine match hf_u18.form with | ⟨saf_u18, scf_u18, eV_⟩ => ?_
   subst eV_
   refine g9 7 ?_
   refine W.lit (e := eInt) (l := [((k : Nat) : Int)]) (css := [[iV _]]) sl112 ty3 zr3 rfl rfl rfl rfl rfl rfl ⟨⟨rfl, om9, om9⟩, trivial⟩ (fun bl19 G19 hG19 hv19 => (W.app (e := eInt) sl112 ty3 zr3 rfl by3 rfl rfl ((hf_u18.mono hG19)) (hv19) (pmC (pmA (pmA pr9))) (by show (_ + 1) * 8 ≤ _; rw [iota_len]; omega) (fun v20 Ms21 ho22 => (W.perm (pmC pr9).symm ?_))))
   have q26 := ho22.form
   refine match q26 with | ⟨sa23, sc24, e_25⟩ => ?_
   subst e_25
   refine g9 6 ?_
   have hR27 : ArP ePt 64 4 3 114 b15 G19 (List.replicate m (none : Option Nat), List.replicate m false, iotaN (k + 1)) ((b15, ce9 114 [lV sac_u18 (List.replicate m (none : Option Nat)).length scc_u18, lV sau_u18 (List.replicate m false).length scu_u18, lV sa23 ((iotaN k ++ [((k : Nat) : Int)])).length sc24]) :: (Mc_u18 ++ (Mu_u18 ++ Ms21))) := ⟨_, _, _, _, _, _, rfl, (hc_u18.mono hG19), (hu_u18.mono hG19), (by rw [iota_succ]; exact ho22)⟩
   refine WC.perm (M' := (((b15, ce9 114 [lV sac_u18 (List.replicate m (none : Option Nat)).length scc_u18, lV sau_u18 (List.replicate m false).length scu_u18, lV sa23 ((iotaN k ++ [((k : Nat) : Int)])).length sc24]) :: (Mc_u18 ++ (Mu_u18 ++ Ms21))) ++ [])) (pr9.symm.trans ((((pmF ((pmF pr9).trans (pmA pr9))).trans (pmA pr9)).cons _).trans pr9)) (g9 5 ?_)
   exact ⟨hG19, (k + 1, ((b15, ce9 114 [lV sac_u18 (List.replicate m (none : Option Nat)).length scc_u18, lV sau_u18 (List.replicate m false).length scu_u18, lV sa23 ((iotaN k ++ [((k : Nat) : Int)])).length sc24]) :: (Mc_u18 ++ (Mu_u18 ++ Ms21)))), hs9, ⟨rfl, (by exact hR27), om9⟩, om9⟩
  refine g9 6 ?_
  obtain rfl : k = m := by omega
  refine match ho_4 with | ⟨vc_u28, vu_u28, vf_u28, Mc_u28, Mu_u28, Mf_u28, eM_, hc_u28, hu_u28, hf_u28⟩ => ?_
  subst eM_
  refine WC.perm (M' := ((b15, ce9 114 [vc_u28, vu_u28, vf_u28]) :: (Mc_u28 ++ (Mu_u28 ++ (Mf_u28 ++ []))))) ((pmF (pmF pr9)).cons _).symm ?_
  dsimp only at hc_u28 hu_u28 hf_u28
  refine match hc_u28.form with | ⟨sac_u28, scc_u28, eV_⟩ => ?_
  subst eV_
  refine match hu_u28.form with | ⟨sau_u28, scu_u28, eV_⟩ => ?_
  subst eV_
  refine match hf_u28.form with | ⟨saf_u28, scf_u28, eV_⟩ => ?_
  subst eV_
  refine g9 4 ?_
  refine W.ok (ok_mkI pi116 rfl) (W.call (Mp := ((b15, ce9 114 [lV sac_u28 (List.replicate k (none : Option Nat)).length scc_u28, lV sau_u28 (List.replicate k false).length scu_u28, lV saf_u28 (iotaN k).length scf_u28]) :: Mf_u28)) (Mr := (Mc_u28 ++ (Mu_u28 ++ []))) (hinit_fc (least_heap (b := b15) (Tb := 114) (c0 := lV sac_u28 (List.replicate k (none : Option Nat)).length scc_u28) (c1 := lV sau_u28 (List.replicate k false).length scu_u28)) ⟨_, _, rfl, hf_u28⟩ (iota_heap k) (by rw [iota_len]; omega)) rfl (((pmA (pmA pr9)).cons _).trans pr9) ?_)
  intro v32 G29 Ms31 hG29 q30
  refine match q30 with | ⟨e_34, ⟨vf_z33, Mf_z33, e_35, hf_z33⟩⟩ => ?_
  subst e_34
  subst e_35
  have q37 := hf_z33.form
  refine match q37 with | ⟨sa_z33, sc_z33, e_36⟩ => ?_
  subst e_36
  refine W.perm (M' := ((b15, ce9 114 [lV sac_u28 (List.replicate k (none : Option Nat)).length scc_u28, lV sau_u28 (List.replicate k false).length scu_u28, lV sa_z33 (iotaN k).length sc_z33]) :: (Mf_z33 ++ (Mc_u28 ++ (Mu_u28 ++ []))))) ((pr9.cons _).trans pr9).symm (g9 9 ?_)
  refine WC.perm (M' := ((b15, ce9 114 [lV sac_u28 (List.replicate k (none : Option Nat)).length scc_u28, lV sau_u28 (List.replicate k false).length scu_u28, lV sa_z33 (iotaN k).length sc_z33]) :: (Mc_u28 ++ (Mu_u28 ++ (Mf_z33 ++ []))))) (((List.Perm.append_left _ ((List.Perm.append_left _ ((List.Perm.append_left _ pr9).trans pr9)).trans (pmA pr9))).trans (pmA pr9)).cons _) (WC.ret ?_)
  refine ⟨.inr rfl, [_, _], ⟨rfl, rfl, trivial⟩, ((b15, ce9 114 [lV sac_u28 (List.replicate k (none : Option Nat)).length scc_u28, lV sau_u28 (List.replicate k false).length scu_u28, lV sa_z33 (iotaN k).length sc_z33]) :: (Mc_u28 ++ (Mu_u28 ++ (Mf_z33 ++ [])))), sr9.k9, ?_⟩
  exact .inr ⟨om9, _, rfl, ArR.cast (st := (List.replicate k (none : Option Nat), List.replicate k false)) ⟨_, ⟨_, _, _, _, _, _, rfl, (hc_u28.mono hG29), (hu_u28.mono hG29), hf_z33⟩, by simp, by simp; omega, iota_heap k, List.Perm.of_eq (iota_free k)⟩ (by simp) (by simp)⟩
 refine W.mkSl (e := eBool) (a0 := false) (n := (m)) sl111 ty4 zr4 rfl by4 (rfl) rfl rfl (by first | (show _ * 8 ≤ 140737488355328; omega) | (show _ * 1 ≤ 16777216; omega) | (show _ * 1 ≤ 140737488355328; omega) | (show _ * 1 ≤ 16777216; omega)) (by first | (show _ * 8 ≤ 140737488355328; omega) | (show _ * 1 ≤ 16777216; omega) | (show _ * 1 ≤ 140737488355328; omega) | (show _ * 1 ≤ 16777216; omega)) (fun v38 Ms39 ho40 => ?_)
 have q44 := ho40.form
 refine match q44 with | ⟨sa41, sc42, e_43⟩ => ?_
 subst e_43
 refine W.nn (WD.a1 1 rfl (W.mkSl (e := ePt) (a0 := (none : Option Nat)) (n := (m)) sl80 ty64 zr64 rfl by64 (rfl) rfl rfl (by first | (show _ * 8 ≤ 140737488355328; omega) | (show _ * 1 ≤ 16777216; omega) | (show _ * 1 ≤ 140737488355328; omega) | (show _ * 1 ≤ 16777216; omega)) (by first | (show _ * 8 ≤ 140737488355328; omega) | (show _ * 1 ≤ 16777216; omega) | (show _ * 1 ≤ 140737488355328; omega) | (show _ * 1 ≤ 16777216; omega)) (fun v45 Ms46 ho47 => ?_)))
 have q51 := ho47.form
 refine match q51 with | ⟨sa48, sc49, e_50⟩ => ?_
 subst e_50
 refine W.nn (WD.tk 4 rfl (ok_build (L := [lV _ _ _, lV _ _ _, lV _ _ _]) pl114 zr114 rfl rfl rfl) (WD.a1 5 rfl (W.box (L := [lV _ _ _, lV _ _ _, lV _ _ _]) rfl rfl (fun b52 => (W.nn (d9 [6] ?_))))))
 refine g9 4 ?_
 have hR53 : ArP ePt 64 4 3 114 b52 G (List.replicate m (none : Option Nat), List.replicate m false, iotaN 0) ((b52, ce9 114 [lV sa48 ((List.replicate ((m)) (none : Option Nat))).length sc49, lV sa41 ((List.replicate ((m)) false)).length sc42, lV none 0 0]) :: (Ms46 ++ (Ms39 ++ []))) := ⟨_, _, _, _, _, _, rfl, ho47, ho40, OwnR.nil⟩
 refine WC.perm (M' := (((b52, ce9 114 [lV sa48 ((List.replicate ((m)) (none : Option Nat))).length sc49, lV sa41 ((List.replicate ((m)) false)).length sc42, lV none 0 0]) :: (Ms46 ++ (Ms39 ++ []))) ++ [])) (pr9.symm.trans ((((pmF ((pmF pr9).trans pr9)).trans pr9).cons _).trans pr9)) (g9 6 ?_)
 refine WC.loop (X := (Nat) × MH) (fun k => [(19, nt9 k.1), (18, nt9 m), (4, pt9 b52)]) (fun k G Ml => Ml = (k.2 ++ []) ∧ ArP ePt 64 4 3 114 b52 G ((List.replicate m (none : Option Nat), List.replicate m false, iotaN k.1)) k.2 ∧ k.1 ≤ m) (fun k => m - k.1) (0, ((b52, ce9 114 [lV sa48 ((List.replicate ((m)) (none : Option Nat))).length sc49, lV sa41 ((List.replicate ((m)) false)).length sc42, lV none 0 0]) :: (Ms46 ++ (Ms39 ++ [])))) hs9 ?_ ?_
 ·exact ⟨rfl, (by exact hR53), om9⟩
 rintro ⟨k, M_4⟩ gG54 G54 _ hG54 ⟨rfl, ho_4, hk⟩
 try dsimp only at ho_4 hk
 refine WC.fr (f := setL gG54 [(19, nt9 k), (18, nt9 m), (4, pt9 b52)]) rfl (g9 6 ?_)
 refine WC.cd (fun h20 p20 => ?_) (fun h20 p20 => ?_)
 ·refine g9 10 ?_
  refine match ho_4 with | ⟨vc_u55, vu_u55, vf_u55, Mc_u55, Mu_u55, Mf_u55, eM_, hc_u55, hu_u55, hf_u55⟩ => ?_
  subst eM_
  refine WC.perm (M' := ((b52, ce9 114 [vc_u55, vu_u55, vf_u55]) :: (Mc_u55 ++ (Mu_u55 ++ (Mf_u55 ++ []))))) ((pmF (pmF pr9)).cons _).symm ?_
  dsimp only at hc_u55 hu_u55 hf_u55
  refine match hc_u55.form with | ⟨sac_u55, scc_u55, eV_⟩ => ?_
  subst eV_
  refine match hu_u55.form with | ⟨sau_u55, scu_u55, eV_⟩ => ?_
  subst eV_
  refine match hf_u55.form with | ⟨saf_u55, scf_u55, eV_⟩ => ?_
  subst eV_
  refine g9 7 ?_
  refine W.lit (e := eInt) (l := [((k : Nat) : Int)]) (css := [[iV _]]) sl112 ty3 zr3 rfl rfl rfl rfl rfl rfl ⟨⟨rfl, om9, om9⟩, trivial⟩ (fun bl56 G56 hG56 hv56 => (W.app (e := eInt) sl112 ty3 zr3 rfl by3 rfl rfl ((hf_u55.mono hG56)) (hv56) (pmC (pmA (pmA pr9))) (by show (_ + 1) * 8 ≤ _; rw [iota_len]; omega) (fun v57 Ms58 ho59 => (W.perm (pmC pr9).symm ?_))))
  have q63 := ho59.form
  refine match q63 with | ⟨sa60, sc61, e_62⟩ => ?_
  subst e_62
  refine g9 6 ?_
  have hR64 : ArP ePt 64 4 3 114 b52 G56 (List.replicate m (none : Option Nat), List.replicate m false, iotaN (k + 1)) ((b52, ce9 114 [lV sac_u55 (List.replicate m (none : Option Nat)).length scc_u55, lV sau_u55 (List.replicate m false).length scu_u55, lV sa60 ((iotaN k ++ [((k : Nat) : Int)])).length sc61]) :: (Mc_u55 ++ (Mu_u55 ++ Ms58))) := ⟨_, _, _, _, _, _, rfl, (hc_u55.mono hG56), (hu_u55.mono hG56), (by rw [iota_succ]; exact ho59)⟩
  refine WC.perm (M' := (((b52, ce9 114 [lV sac_u55 (List.replicate m (none : Option Nat)).length scc_u55, lV sau_u55 (List.replicate m false).length scu_u55, lV sa60 ((iotaN k ++ [((k : Nat) : Int)])).length sc61]) :: (Mc_u55 ++ (Mu_u55 ++ Ms58))) ++ [])) (pr9.symm.trans ((((pmF ((pmF pr9).trans (pmA pr9))).trans (pmA pr9)).cons _).trans pr9)) (g9 5 ?_)
  exact ⟨hG56, (k + 1, ((b52, ce9 114 [lV sac_u55 (List.replicate m (none : Option Nat)).length scc_u55, lV sau_u55 (List.replicate m false).length scu_u55, lV sa60 ((iotaN k ++ [((k : Nat) : Int)])).length sc61]) :: (Mc_u55 ++ (Mu_u55 ++ Ms58)))), hs9, ⟨rfl, (by exact hR64), om9⟩, om9⟩
 refine g9 6 ?_
 obtain rfl : k = m := by omega
 refine match ho_4 with | ⟨vc_u65, vu_u65, vf_u65, Mc_u65, Mu_u65, Mf_u65, eM_, hc_u65, hu_u65, hf_u65⟩ => ?_
 subst eM_
 refine WC.perm (M' := ((b52, ce9 114 [vc_u65, vu_u65, vf_u65]) :: (Mc_u65 ++ (Mu_u65 ++ (Mf_u65 ++ []))))) ((pmF (pmF pr9)).cons _).symm ?_
 dsimp only at hc_u65 hu_u65 hf_u65
 refine match hc_u65.form with | ⟨sac_u65, scc_u65, eV_⟩ => ?_
 subst eV_
 refine match hu_u65.form with | ⟨sau_u65, scu_u65, eV_⟩ => ?_
 subst eV_
 refine match hf_u65.form with | ⟨saf_u65, scf_u65, eV_⟩ => ?_
 subst eV_
 refine g9 4 ?_
 refine W.ok (ok_mkI pi116 rfl) (W.call (Mp := ((b52, ce9 114 [lV sac_u65 (List.replicate k (none : Option Nat)).length scc_u65, lV sau_u65 (List.replicate k false).length scu_u65, lV saf_u65 (iotaN k).length scf_u65]) :: Mf_u65)) (Mr := (Mc_u65 ++ (Mu_u65 ++ []))) (hinit_fc (least_heap (b := b52) (Tb := 114) (c0 := lV sac_u65 (List.replicate k (none : Option Nat)).length scc_u65) (c1 := lV sau_u65 (List.replicate k false).length scu_u65)) ⟨_, _, rfl, hf_u65⟩ (iota_heap k) (by rw [iota_len]; omega)) rfl (((pmA (pmA pr9)).cons _).trans pr9) ?_)
 intro v69 G66 Ms68 hG66 q67
 refine match q67 with | ⟨e_71, ⟨vf_z70, Mf_z70, e_72, hf_z70⟩⟩ => ?_
 subst e_71
 subst e_72
 have q74 := hf_z70.form
 refine match q74 with | ⟨sa_z70, sc_z70, e_73⟩ => ?_
 subst e_73
 refine W.perm (M' := ((b52, ce9 114 [lV sac_u65 (List.replicate k (none : Option Nat)).length scc_u65, lV sau_u65 (List.replicate k false).length scu_u65, lV sa_z70 (iotaN k).length sc_z70]) :: (Mf_z70 ++ (Mc_u65 ++ (Mu_u65 ++ []))))) ((pr9.cons _).trans pr9).symm (g9 9 ?_)
 refine WC.perm (M' := ((b52, ce9 114 [lV sac_u65 (List.replicate k (none : Option Nat)).length scc_u65, lV sau_u65 (List.replicate k false).length scu_u65, lV sa_z70 (iotaN k).length sc_z70]) :: (Mc_u65 ++ (Mu_u65 ++ (Mf_z70 ++ []))))) (((List.Perm.append_left _ ((List.Perm.append_left _ ((List.Perm.append_left _ pr9).trans pr9)).trans (pmA pr9))).trans (pmA pr9)).cons _) (WC.ret ?_)
 refine ⟨.inr rfl, [_, _], ⟨rfl, rfl, trivial⟩, ((b52, ce9 114 [lV sac_u65 (List.replicate k (none : Option Nat)).length scc_u65, lV sau_u65 (List.replicate k false).length scu_u65, lV sa_z70 (iotaN k).length sc_z70]) :: (Mc_u65 ++ (Mu_u65 ++ (Mf_z70 ++ [])))), sr9.k9, ?_⟩
 exact .inr ⟨om9, _, rfl, ArR.cast (st := (List.replicate k (none : Option Nat), List.replicate k false)) ⟨_, ⟨_, _, _, _, _, _, rfl, (hc_u65.mono hG66), (hu_u65.mono hG66), hf_z70⟩, by simp, by simp; omega, iota_heap k, List.Perm.of_eq (iota_free k)⟩ (by simp) (by simp)⟩

theorem oallocp {G : GH} {b : Nat} {st : List (Option Nat) × List Bool} {M : MH} (h : ArR ePt 64 4 3 114 b G st M) (x : Nat) : Fc Tryz.prog 27 [pt9 b, pt9 x] G M (fun v G' M' => v = .tuple #[iV (nextA st (some x)).1.1, iV (nextA st (some x)).1.2] ∧ ArR ePt 64 4 3 114 b G' (nextA st (some x)).2 M') := by
  have h0 := h
  obtain ⟨f, ⟨vc, vu, vf, Mc, Mu, Mf, rfl, h1, h2, h3⟩, h4, h5, h6, h7⟩ := h
  exact sallocp_fc h1 h2 h3 x h4 h5 h6 h7
theorem ofreep {G : GH} {b : Nat} {st : List (Option Nat) × List Bool} {M : MH} (h : ArR ePt 64 4 3 114 b G st M) (i : Int) (hi : i64 i) : Fc Tryz.prog 72 [pt9 b, iV i] G M (fun v G' M' => v = iV (freeA st i (none : Option Nat)).1 ∧ ArR ePt 64 4 3 114 b G' (freeA st i (none : Option Nat)).2 M') := by
  have h0 := h
  obtain ⟨f, ⟨vc, vu, vf, Mc, Mu, Mf, rfl, h1, h2, h3⟩, h4, h5, h6, h7⟩ := h
  exact sfreep_fc h1 h2 h3 i h4 h5 h6 h7 hi
end Go.Proofs.YtemoalimclnfkaaGreat
namespace Go.Fw
open Go Go.RowKit
def ndB : (k : Nat) → BT k → BNd
  | 0, y => ⟨y.slot, 0, [], [], lfR y⟩
  | k + 1, y => ⟨y.slot, ((k + 1 : Nat) : Int), ndP y, (ndK y).map BT.slot, []⟩
def ndT : (k : Nat) → BT k → List BNd
  | 0, _ => []
  | k + 1, y => (ndK y).flatMap fun c => ndB k c :: ndT k c
def nds (k : Nat) (y : BT k) : List BNd := ndB k y :: ndT k y
theorem ndB_slot : ∀ {k : Nat} {y : BT k}, (ndB k y).slot = y.slot
  | 0, _ => rfl
  | _ + 1, _ => rfl
theorem ndB_lvl : ∀ {k : Nat} {y : BT k}, (ndB k y).lvl = (k : Int)
  | 0, _ => rfl
  | _ + 1, _ => rfl
theorem nds_succ {k : Nat} {y : BT (k + 1)} : nds (k + 1) y = ndB (k + 1) y :: (ndK y).flatMap (nds k) := rfl
theorem flatMap_map9 {α β γ : Type} (f : α → List β) (g : β → γ) : ∀ (l : List α), (l.flatMap f).map g = l.flatMap fun a => (f a).map g
  | [] => rfl
  | a :: l => by rw [List.flatMap_cons, List.map_append, flatMap_map9 f g l, List.flatMap_cons]
theorem nds_kid {k : Nat} {y : BT (k + 1)} {c : BT k} (hc : c ∈ ndK y) {n : BNd} (hn : n ∈ nds k c) : n ∈ nds (k + 1) y := by
  rw [nds_succ]
  exact List.mem_cons_of_mem _ (List.mem_flatMap.2 ⟨c, hc, hn⟩)
theorem nds_head {k : Nat} {y : BT k} : ndB k y ∈ nds k y := List.mem_cons_self ..
def fulN (fan leaf : Int) (n : BNd) : Bool := if n.lvl = 0 then decide (leaf ≤ (n.R.length : Int)) else decide (fan ≤ (n.K.length : Int))
def fewN (fan leaf : Int) (n : BNd) : Bool := if n.lvl = 0 then decide ((n.R.length : Int) < leaf / 2) else decide ((n.K.length : Int) < fan / 2)
def pathB (key : Str) : (k : Nat) → BT k → List BNd
  | 0, y => [ndB 0 y]
  | k + 1, y => ndB (k + 1) y :: pathB key k ((ndK y).getD (routeN (ndP y) key) default)
theorem pathB_head {key : Str} : ∀ {k : Nat} {y : BT k}, ∃ l, pathB key k y = ndB k y :: l
  | 0, y => ⟨[], rfl⟩
  | k + 1, y => ⟨_, rfl⟩
theorem pathB_len {key : Str} : ∀ {k : Nat} {y : BT k}, (pathB key k y).length = k + 1
  | 0, y => rfl
  | k + 1, y => by show (pathB key k _).length + 1 = _; rw [pathB_len]
def ptB (cells : List (Option Nat)) (n : BNd) : Option Nat := cells.getD n.slot.toNat none
theorem Blk.pt {cells : List (Option Nat)} {n : BNd} {b : Nat} (h : Blk cells n.slot b) : ptB cells n = some b := by
  unfold ptB
  rw [List.getD_eq_getElem?_getD, h.2]; rfl
theorem kid_at {fan leaf : Int} {k : Nat} {lo hi : Int} {s : Span} {y : BT (k + 1)} (hs : s.norm = s) (h : BT.ok fan leaf (k + 1) lo hi s y) (key : Str) : routeN (ndP y) key < (ndK y).length := by
  have := h.2.len
  have h2 : routeN (ndP y) key ≤ (ndP y).length := List.length_filter_le _ _
  omega
theorem path_mem {fan leaf : Int} {key : Str} : ∀ {k : Nat} {y : BT k} {lo hi : Int} {s : Span}, s.norm = s → BT.ok fan leaf k lo hi s y → ∀ n ∈ pathB key k y, n ∈ nds k y
  | 0, y, _, _, _, _, _, n, hn => hn
  | k + 1, y, lo, hi, s, hs, h, n, hn => by
    rcases List.mem_cons.1 hn with rfl | hn
    · exact nds_head
    · have hl := kid_at hs h key
      rw [getD_lt hl] at hn
      obtain ⟨u, h', hu, _, hP, _⟩ := h.2.at hs (i := routeN (ndP y) key) (List.length_filter_le _ _)
      exact nds_kid (List.getElem_mem hl) (path_mem hu hP n hn)
def needN (fs : List Bool) : Nat := if (fs.reverse.takeWhile id).length = fs.length then fs.length + 1 else (fs.reverse.takeWhile id).length
theorem need_stop {fs : List Bool} {j : Nat} (hj : j < fs.length) (h : ∀ i (hi : i < fs.length), fs.length - j ≤ i → fs[i] = true) (h2 : fs[fs.length - 1 - j]'(by omega) = false) : needN fs = j := by
  have e : (fs.reverse.takeWhile id).length = j := by
    have h3 : fs.reverse.takeWhile id = fs.reverse.take j := by
      conv => lhs; rw [← List.take_append_drop j fs.reverse]
      rw [List.takeWhile_append_of_pos fun b hb => ?_]
      · rw [List.drop_eq_getElem_cons (by simpa using hj), List.takeWhile_cons]
        rw [List.getElem_reverse, h2]; simp
      · obtain ⟨i, hi, rfl⟩ := List.getElem_of_mem hb
        rw [List.length_take, List.length_reverse] at hi
        rw [List.getElem_take, List.getElem_reverse]
        exact h _ (by omega) (by omega)
    rw [h3, List.length_take, List.length_reverse]; omega
  unfold needN
  rw [e, if_neg (by omega)]
theorem need_all {fs : List Bool} (h : ∀ i (hi : i < fs.length), fs[i] = true) : needN fs = fs.length + 1 := by
  unfold needN
  rw [if_pos]
  have : fs.reverse.takeWhile id = fs.reverse := by
    conv => lhs; rw [← List.append_nil fs.reverse]
    rw [List.takeWhile_append_of_pos fun b hb => ?_]
    · simp
    · obtain ⟨i, hi, rfl⟩ := List.getElem_of_mem hb
      rw [List.length_reverse] at hi
      rw [List.getElem_reverse]
      exact h _ (by omega)
  rw [this, List.length_reverse]
theorem need_le (fs : List Bool) : needN fs ≤ fs.length + 1 := by
  unfold needN
  split
  · omega
  · have := (List.takeWhile_sublist (p := id) (l := fs.reverse)).length_le
    rw [List.length_reverse] at this; omega
def UsN (u : List Bool) (l : List BNd) : Prop := ∀ n ∈ l, hasN u n.slot = true
/-! ## Scans -/
def scB (s : Span) (lim : Int) (out A : List Pair) : List Pair := out ++ (A.filter fun p => s.has p.key).take (lim - out.length).toNat
theorem scB_len {s : Span} {lim : Int} {out A : List Pair} : (scB s lim out A).length = out.length + min (lim - out.length).toNat (A.filter fun p => s.has p.key).length := by
  unfold scB; rw [List.length_append, List.length_take]
theorem scB_app {s : Span} {lim : Int} {out A B : List Pair} : scB s lim (scB s lim out A) B = scB s lim out (A ++ B) := by
  have hl := scB_len (s := s) (lim := lim) (out := out) (A := A)
  show scB s lim out A ++ _ = _
  rw [hl]
  unfold scB
  rw [List.filter_append, List.take_append, List.append_assoc]
  congr 2
  congr 1
  omega
theorem scB_full {s : Span} {lim : Int} {out A : List Pair} (h : ¬ (out.length : Int) < lim) : scB s lim out A = out := by
  unfold scB
  rw [show (lim - out.length).toNat = 0 by omega, List.take_zero, List.append_nil]
theorem scB_none {s : Span} {lim : Int} {out A : List Pair} (h : ∀ p ∈ A, s.has p.key = false) : scB s lim out A = out := by
  unfold scB
  rw [filt_none h, List.take_nil, List.append_nil]
theorem scB_nil {s : Span} {lim : Int} {out : List Pair} : scB s lim out [] = out := scB_none fun p hp => by cases hp
theorem scB_one {s : Span} {lim : Int} {out : List Pair} {p : Pair} (hp : s.has p.key = true) (h : (out.length : Int) < lim) : scB s lim out [p] = out ++ [p] := by
  unfold scB
  rw [List.filter_cons_of_pos (p := fun p : Pair => s.has p.key) hp, List.filter_nil]
  congr 1
  rw [List.take_of_length_le (by simp; omega)]
theorem scB_step {s : Span} {lim : Int} {out A : List Pair} {j : Nat} (hj : j < (A.filter fun p => s.has p.key).length) :
    scB s lim out ((A.filter fun p => s.has p.key).take (j + 1)) = if ((scB s lim out ((A.filter fun p => s.has p.key).take j)).length : Int) < lim then scB s lim out ((A.filter fun p => s.has p.key).take j) ++ [(A.filter fun p => s.has p.key)[j]] else scB s lim out ((A.filter fun p => s.has p.key).take j) := by
  rw [List.take_succ_eq_append_getElem hj, ← scB_app]
  split
  · exact scB_one (by have := List.getElem_mem hj; simpa using (List.mem_filter.1 this).2) (by assumption)
  · exact scB_full (by assumption)
theorem scB_all {s : Span} {lim : Int} {out A : List Pair} : scB s lim out (A.filter fun p => s.has p.key) = scB s lim out A := by
  unfold scB
  rw [List.filter_filter]
  simp
theorem scB_skip {fan leaf : Int} {k : Nat} {lo hi : Int} {sp s : Span} {y : BT (k + 1)} (hs : sp.norm = sp) (h : BT.ok fan leaf (k + 1) lo hi sp y) {j : Nat} (hj : j < (ndK y).length) (ht : ((rangeN (ndP y) (j : Int)).meet s).empty = true) : ∀ p ∈ BT.rows k (ndK y)[j], s.has p.key = false := fun p hp => by
  have hlen := h.2.len
  have hr := (h.2.piv hs).1
  obtain ⟨v, hj2, v1, v2, v3, _⟩ := h.2.at hs (i := j) (by omega)
  have h2 := (BT.ok.rows v1 v3).2 p hp
  rw [v2, Bool.and_eq_true, decide_eq_true_eq] at h2
  have h3 := range_has hr p.key (j := j) (by omega)
  rw [decide_eq_true h2.2] at h3
  have h4 := empty_iff.1 ht p.key
  rw [meet_has, h3] at h4
  simpa using h4
theorem rows_take {k : Nat} {l : List (BT k)} {j : Nat} (hj : j < l.length) : (l.take (j + 1)).flatMap (BT.rows k) = (l.take j).flatMap (BT.rows k) ++ BT.rows k l[j] := by
  rw [List.take_succ_eq_append_getElem hj, List.flatMap_append, List.flatMap_cons, List.flatMap_nil, List.append_nil]
theorem scB_map {s : Span} {lim : Int} {A : List Pair} : scB s lim [] A = scanN A s lim := by
  unfold scB scanN
  rw [List.nil_append]; simp
end Go.Fw
