/- Arenas made anew, and what is done with an arena. -/
import Derived.Test.YtebkfinhhpelbaaGreatQzU1
import Derived.Test.YtebkfinhhpelbaaGreatQzWk
set_option maxRecDepth 100000
set_option maxHeartbeats 1600000
set_option linter.unusedVariables false
set_option linter.unusedSimpArgs false
set_option linter.unnecessarySimpa false
namespace Go.Proofs.YtebkfinhhpelbaaGreat
open Go Go.Fw Go.RowKit
theorem snewn_fc {G : GH} (n : Int) :
    Fc Tryz.prog 117 [.int .i64 n] G [] (fun v G' M' => (¬ (1 ≤ n ∧ n ≤ 4096) ∧ v = .tuple #[.pointer none, .int .i64 2] ∧ M' = []) ∨ ((1 ≤ n ∧ n ≤ 4096) ∧ ∃ b, v = .tuple #[.pointer (some ⟨b, 0, none⟩), .int .i64 0] ∧ ArR eNode 47 4 3 182 b G' (List.replicate n.toNat Nd.zero, List.replicate n.toNat false) M')) := by
 refine Fc.intro (rs := [.tmp 2, .tmp 3]) cl117 Tryz.func117 rfl Tryz.ntmps117 rfl rfl (fun w0 => ?_)
 refine WC.seq (WC.region (W.as (W.as (W.nil (thn_n (WC.seq (WC.seq (WC.region (W.mv (W.ok (ok_lss rfl rfl) (W.mv ?_)))))))))))
 refine W.sp 8 rfl (fun h7 => ?_) (fun h7 => ?_)
 ·have p7 := of_decide_eq_true h7
  refine W.no (dj := 8) rfl rfl h7 (W.no (dj := 8) rfl rfl h7 (W.ok (ok_pick_t rfl h7) (W.nil (thn_n (WC.cond_t rfl rfl (WC.seq (WC.region (W.as (W.as (W.nil (thn_n (WC.ret (thn_r ?_)))))))))))))
  refine ⟨.inr rfl, [_, _], ⟨rfl, rfl, trivial⟩, [], sr9, ?_⟩
  exact .inl ⟨by omega, rfl, rfl⟩
 have p7 := of_decide_eq_false h7
 refine W.yes (dj := 8) rfl rfl h7 (W.mv (W.yes (dj := 8) rfl rfl h7 (W.ok (ok_gtr rfl rfl) (W.ok (ok_pick_f rfl h7) (W.nil (thn_n ?_))))))
 refine WC.cond (b := _) rfl (fun h10 => ?_) (fun h10 => ?_)
 ·have p10 := of_decide_eq_true h10
  refine WC.seq (WC.region (W.as (W.as (W.nil (thn_n (WC.ret (thn_r ?_)))))))
  refine ⟨.inr rfl, [_, _], ⟨rfl, rfl, trivial⟩, [], sr9, ?_⟩
  exact .inl ⟨by omega, rfl, rfl⟩
 have p10 := of_decide_eq_false h10
 obtain ⟨m, rfl⟩ : ∃ m : Nat, n = (m : Int) := ⟨n.toNat, by omega⟩
 refine WC.skip (thn_n (WC.seq (WC.drawW _ sr9 mix (by rintro _ _ _ _ ⟨h | h, _⟩ <;> cases h) (WD.tk 0 rfl (ok_mv) (WD.tk 2 rfl (ok_mv) ?_)))))
 refine WD.any [1, 3] (by kernel_rfl) rfl ⟨⟨_, rfl, rfl, ?_⟩, ⟨_, rfl, rfl, ?_⟩, trivial⟩
 ·refine W.mkSl (e := eNode) (a0 := Nd.zero) (n := (m)) sl24 ty47 zr47 rfl by47 (⟨_, _, _, _, _, _, _, _, rfl, SlR.nil, SlR.nil, SlR.nil, SlR.nil, Nd.zero_ok⟩) rfl rfl (by first | (show _ * 152 ≤ 140737488355328; omega) | (show _ * 10 ≤ 16777216; omega) | (show _ * 1 ≤ 140737488355328; omega) | (show _ * 1 ≤ 16777216; omega)) (by first | (show _ * 152 ≤ 140737488355328; omega) | (show _ * 10 ≤ 16777216; omega) | (show _ * 1 ≤ 140737488355328; omega) | (show _ * 1 ≤ 16777216; omega)) (fun v1 Ms2 ho3 => ?_)
  have q7 := ho3.form
  refine match q7 with | ⟨sa4, sc5, e_6⟩ => ?_
  subst e_6
  refine W.nil (WD.n9 Le.rfl sn9 (WD.a1 3 rfl (W.mkSl (e := eBool) (a0 := false) (n := (m)) sl179 ty4 zr4 rfl by4 (rfl) rfl rfl (by first | (show _ * 152 ≤ 140737488355328; omega) | (show _ * 10 ≤ 16777216; omega) | (show _ * 1 ≤ 140737488355328; omega) | (show _ * 1 ≤ 16777216; omega)) (by first | (show _ * 152 ≤ 140737488355328; omega) | (show _ * 10 ≤ 16777216; omega) | (show _ * 1 ≤ 140737488355328; omega) | (show _ * 1 ≤ 16777216; omega)) (fun v8 Ms9 ho10 => ?_))))
  have q14 := ho10.form
  refine match q14 with | ⟨sa11, sc12, e_13⟩ => ?_
  subst e_13
  refine W.nil (WD.n9 Le.rfl sn9 (WD.tk 4 rfl (ok_build (L := [.slice _ _ _, .slice _ _ _, .slice _ _ _]) pl182 zr182 rfl rfl rfl) (WD.a1 5 rfl (W.box (L := [.slice _ _ _, .slice _ _ _, .slice _ _ _]) rfl rfl (fun b15 => (W.nil (WD.n9 Le.rfl (sn9.cons _) (WD.tk 6 rfl (ok_as) (WD.done (by kernel_rfl) (thn_n (WC.seq (WC.seq ?_))))))))))))
  have hR16 : ArP eNode 47 4 3 182 b15 G (List.replicate m Nd.zero, List.replicate m false, iotaN 0) ((b15, .cells (List.toArray [.slice sa4 ((List.replicate ((m)) Nd.zero)).length sc5, .slice sa11 ((List.replicate ((m)) false)).length sc12, .slice none 0 0]) 182 (0, 0)) :: (Ms2 ++ (Ms9 ++ []))) := ⟨_, _, _, _, _, _, rfl, ho3, ho10, OwnR.nil⟩
  refine WC.perm (M' := (((b15, .cells (List.toArray [.slice sa4 ((List.replicate ((m)) Nd.zero)).length sc5, .slice sa11 ((List.replicate ((m)) false)).length sc12, .slice none 0 0]) 182 (0, 0)) :: (Ms2 ++ (Ms9 ++ []))) ++ [])) (pr9.symm.trans ((((pmF ((pmF pr9).trans pr9)).trans (pmA pr9)).cons _).trans pr9)) (WC.region (W.mv (W.mv (W.nil (thn_n (WC.block ?_))))))
  refine WC.loop (X := (Nat) × MH) (fun k => [(19, .int .i64 ((k.1 : Nat) : Int)), (18, .int .i64 ((m : Nat) : Int)), (4, .pointer (some ⟨b15, 0, none⟩))]) (fun k G Ml => Ml = (k.2 ++ []) ∧ ArP eNode 47 4 3 182 b15 G ((List.replicate m Nd.zero, List.replicate m false, iotaN k.1)) k.2 ∧ k.1 ≤ m) (fun k => m - k.1) (0, ((b15, .cells (List.toArray [.slice sa4 ((List.replicate ((m)) Nd.zero)).length sc5, .slice sa11 ((List.replicate ((m)) false)).length sc12, .slice none 0 0]) 182 (0, 0)) :: (Ms2 ++ (Ms9 ++ [])))) ⟨eqv, eqv, eqv, trivial⟩ ?_ ?_
  ·exact ⟨rfl, (by exact hR16), by omega⟩
  rintro ⟨k, M_4⟩ gG17 G17 _ hG17 ⟨rfl, ho_4, hk⟩
  try dsimp only at ho_4 hk
  refine WC.fr (f := setL gG17 [(19, .int .i64 ((k : Nat) : Int)), (18, .int .i64 ((m : Nat) : Int)), (4, .pointer (some ⟨b15, 0, none⟩))]) rfl (WC.seq (WC.region (W.ok (ok_lss rfl rfl) (W.nil (thn_n (WC.seq ?_))))))
  refine WC.cond (b := _) rfl (fun h20 => ?_) (fun h20 => ?_)
  ·have p20 := of_decide_eq_true h20
   refine WC.skip (thn_n (WC.seq (WC.block (WC.seq (WC.region (W.mv (W.as (W.nil (thn_n ?_)))))))))
   refine match ho_4 with | ⟨vc_u18, vu_u18, vf_u18, Mc_u18, Mu_u18, Mf_u18, eM_, hc_u18, hu_u18, hf_u18⟩ => ?_
   subst eM_
   refine WC.perm (M' := ((b15, .cells (List.toArray [vc_u18, vu_u18, vf_u18]) 182 (0, 0)) :: (Mc_u18 ++ (Mu_u18 ++ (Mf_u18 ++ []))))) ((pmF (pmF pr9)).cons _).symm ?_
   dsimp only at hc_u18 hu_u18 hf_u18
   refine match hc_u18.form with | ⟨sac_u18, scc_u18, eV_⟩ => ?_
   subst eV_
   refine match hu_u18.form with | ⟨sau_u18, scu_u18, eV_⟩ => ?_
   subst eV_
   refine match hf_u18.form with | ⟨saf_u18, scf_u18, eV_⟩ => ?_
   subst eV_
   refine WC.region (W.mv (W.mv (W.ok (ok_nilP rfl) (W.ok (ok_fieldB fd182_2 rfl) (W.ok (ok_loadB (i := 0) (vs := [.slice _ _ _]) ty180 rfl rfl rfl rfl (by simp)) (W.mv (W.lit (e := eInt) (l := [((k : Nat) : Int)]) (css := [[.int .i64 _]]) sl180 ty3 zr3 rfl rfl rfl rfl rfl rfl ⟨⟨rfl, by omega, by omega⟩, trivial⟩ (fun bl19 G19 hG19 hv19 => (W.app (e := eInt) sl180 ty3 zr3 rfl by3 rfl rfl ((hf_u18.mono hG19)) (hv19) (pmC (pmA (pmA pr9))) (by show (_ + 1) * 8 ≤ _; rw [iota_len]; omega) (fun v20 Ms21 ho22 => (W.perm (pmC pr9).symm ?_)))))))))))
   have q26 := ho22.form
   refine match q26 with | ⟨sa23, sc24, e_25⟩ => ?_
   subst e_25
   refine W.ok (ok_nilP rfl) (W.ok (ok_fieldB fd182_2 rfl) (W.store (i := 0) (vs := [.slice _ _ _]) (L' := [.slice _ _ _, .slice _ _ _, .slice _ _ _]) ty180 rfl rfl rfl rfl rfl rfl rfl rfl (W.nil (blk_n (thn_n ?_)))))
   have hR27 : ArP eNode 47 4 3 182 b15 G19 (List.replicate m Nd.zero, List.replicate m false, iotaN (k + 1)) ((b15, .cells (List.toArray [.slice sac_u18 (List.replicate m Nd.zero).length scc_u18, .slice sau_u18 (List.replicate m false).length scu_u18, .slice sa23 ((iotaN k ++ [((k : Nat) : Int)])).length sc24]) 182 (0, 0)) :: (Mc_u18 ++ (Mu_u18 ++ Ms21))) := ⟨_, _, _, _, _, _, rfl, (hc_u18.mono hG19), (hu_u18.mono hG19), (by rw [iota_succ]; exact ho22)⟩
   refine WC.perm (M' := (((b15, .cells (List.toArray [.slice sac_u18 (List.replicate m Nd.zero).length scc_u18, .slice sau_u18 (List.replicate m false).length scu_u18, .slice sa23 ((iotaN k ++ [((k : Nat) : Int)])).length sc24]) 182 (0, 0)) :: (Mc_u18 ++ (Mu_u18 ++ Ms21))) ++ [])) (pr9.symm.trans ((((pmF ((pmF pr9).trans (pmA pr9))).trans (pmA pr9)).cons _).trans pr9)) (WC.region (W.ok (ok_add rfl rfl (by omega)) (W.mv (W.nil (thn_n ?_)))))
   exact ⟨hG19, (k + 1, ((b15, .cells (List.toArray [.slice sac_u18 (List.replicate m Nd.zero).length scc_u18, .slice sau_u18 (List.replicate m false).length scu_u18, .slice sa23 ((iotaN k ++ [((k : Nat) : Int)])).length sc24]) 182 (0, 0)) :: (Mc_u18 ++ (Mu_u18 ++ Ms21)))), ⟨eqv, eqv, eqv, trivial⟩, ⟨rfl, (by exact hR27), by omega⟩, by omega⟩
  have p20 := of_decide_eq_false h20
  refine WC.exit (thn_x (thn_x (blk_h (thn_n (WC.seq ?_)))))
  obtain rfl : k = m := by omega
  refine match ho_4 with | ⟨vc_u28, vu_u28, vf_u28, Mc_u28, Mu_u28, Mf_u28, eM_, hc_u28, hu_u28, hf_u28⟩ => ?_
  subst eM_
  refine WC.perm (M' := ((b15, .cells (List.toArray [vc_u28, vu_u28, vf_u28]) 182 (0, 0)) :: (Mc_u28 ++ (Mu_u28 ++ (Mf_u28 ++ []))))) ((pmF (pmF pr9)).cons _).symm ?_
  dsimp only at hc_u28 hu_u28 hf_u28
  refine match hc_u28.form with | ⟨sac_u28, scc_u28, eV_⟩ => ?_
  subst eV_
  refine match hu_u28.form with | ⟨sau_u28, scu_u28, eV_⟩ => ?_
  subst eV_
  refine match hf_u28.form with | ⟨saf_u28, scf_u28, eV_⟩ => ?_
  subst eV_
  refine WC.region (W.mv (W.ok (ok_nilP rfl) (W.ok (ok_fieldB fd182_2 rfl) (W.ok (ok_mkI pi239 rfl) (W.call (Mp := ((b15, .cells (List.toArray [.slice sac_u28 (List.replicate k Nd.zero).length scc_u28, .slice sau_u28 (List.replicate k false).length scu_u28, .slice saf_u28 (iotaN k).length scf_u28]) 182 (0, 0)) :: Mf_u28)) (Mr := (Mc_u28 ++ (Mu_u28 ++ []))) (hinit_fc (least_heap (b := b15) (Tb := 182) (c0 := .slice sac_u28 (List.replicate k Nd.zero).length scc_u28) (c1 := .slice sau_u28 (List.replicate k false).length scu_u28)) ⟨_, _, rfl, hf_u28⟩ (iota_heap k) (by rw [iota_len]; omega)) rfl (((pmA (pmA pr9)).cons _).trans pr9) ?_)))))
  intro v32 G29 Ms31 hG29 q30
  refine match q30 with | ⟨e_34, ⟨vf_z33, Mf_z33, e_35, hf_z33⟩⟩ => ?_
  subst e_34
  subst e_35
  have q37 := hf_z33.form
  refine match q37 with | ⟨sa_z33, sc_z33, e_36⟩ => ?_
  subst e_36
  refine W.perm (M' := ((b15, .cells (List.toArray [.slice sac_u28 (List.replicate k Nd.zero).length scc_u28, .slice sau_u28 (List.replicate k false).length scu_u28, .slice sa_z33 (iotaN k).length sc_z33]) 182 (0, 0)) :: (Mf_z33 ++ (Mc_u28 ++ (Mu_u28 ++ []))))) ((pr9.cons _).trans pr9).symm (W.nil (thn_n (WC.seq (WC.region (W.mv (W.as (W.as (W.nil (thn_n (WC.perm (M' := ((b15, .cells (List.toArray [.slice sac_u28 (List.replicate k Nd.zero).length scc_u28, .slice sau_u28 (List.replicate k false).length scu_u28, .slice sa_z33 (iotaN k).length sc_z33]) 182 (0, 0)) :: (Mc_u28 ++ (Mu_u28 ++ (Mf_z33 ++ []))))) (((List.Perm.append_left _ ((List.Perm.append_left _ ((List.Perm.append_left _ pr9).trans pr9)).trans (pmA pr9))).trans (pmA pr9)).cons _) (WC.ret ?_)))))))))))
  refine ⟨.inr rfl, [_, _], ⟨rfl, rfl, trivial⟩, ((b15, .cells (List.toArray [.slice sac_u28 (List.replicate k Nd.zero).length scc_u28, .slice sau_u28 (List.replicate k false).length scu_u28, .slice sa_z33 (iotaN k).length sc_z33]) 182 (0, 0)) :: (Mc_u28 ++ (Mu_u28 ++ (Mf_z33 ++ [])))), sr9.k9, ?_⟩
  exact .inr ⟨by omega, _, rfl, ArR.cast (st := (List.replicate k Nd.zero, List.replicate k false)) ⟨_, ⟨_, _, _, _, _, _, rfl, (hc_u28.mono hG29), (hu_u28.mono hG29), hf_z33⟩, by simp, by simp; omega, iota_heap k, List.Perm.of_eq (iota_free k)⟩ (by simp) (by simp)⟩
 refine W.mkSl (e := eBool) (a0 := false) (n := (m)) sl179 ty4 zr4 rfl by4 (rfl) rfl rfl (by first | (show _ * 152 ≤ 140737488355328; omega) | (show _ * 10 ≤ 16777216; omega) | (show _ * 1 ≤ 140737488355328; omega) | (show _ * 1 ≤ 16777216; omega)) (by first | (show _ * 152 ≤ 140737488355328; omega) | (show _ * 10 ≤ 16777216; omega) | (show _ * 1 ≤ 140737488355328; omega) | (show _ * 1 ≤ 16777216; omega)) (fun v38 Ms39 ho40 => ?_)
 have q44 := ho40.form
 refine match q44 with | ⟨sa41, sc42, e_43⟩ => ?_
 subst e_43
 refine W.nil (WD.n9 Le.rfl sn9 (WD.a1 1 rfl (W.mkSl (e := eNode) (a0 := Nd.zero) (n := (m)) sl24 ty47 zr47 rfl by47 (⟨_, _, _, _, _, _, _, _, rfl, SlR.nil, SlR.nil, SlR.nil, SlR.nil, Nd.zero_ok⟩) rfl rfl (by first | (show _ * 152 ≤ 140737488355328; omega) | (show _ * 10 ≤ 16777216; omega) | (show _ * 1 ≤ 140737488355328; omega) | (show _ * 1 ≤ 16777216; omega)) (by first | (show _ * 152 ≤ 140737488355328; omega) | (show _ * 10 ≤ 16777216; omega) | (show _ * 1 ≤ 140737488355328; omega) | (show _ * 1 ≤ 16777216; omega)) (fun v45 Ms46 ho47 => ?_))))
 have q51 := ho47.form
 refine match q51 with | ⟨sa48, sc49, e_50⟩ => ?_
 subst e_50
 refine W.nil (WD.n9 Le.rfl sn9 (WD.tk 4 rfl (ok_build (L := [.slice _ _ _, .slice _ _ _, .slice _ _ _]) pl182 zr182 rfl rfl rfl) (WD.a1 5 rfl (W.box (L := [.slice _ _ _, .slice _ _ _, .slice _ _ _]) rfl rfl (fun b52 => (W.nil (WD.n9 Le.rfl (sn9.cons _) (WD.tk 6 rfl (ok_as) (WD.done (by kernel_rfl) (thn_n (WC.seq (WC.seq ?_))))))))))))
 have hR53 : ArP eNode 47 4 3 182 b52 G (List.replicate m Nd.zero, List.replicate m false, iotaN 0) ((b52, .cells (List.toArray [.slice sa48 ((List.replicate ((m)) Nd.zero)).length sc49, .slice sa41 ((List.replicate ((m)) false)).length sc42, .slice none 0 0]) 182 (0, 0)) :: (Ms46 ++ (Ms39 ++ []))) := ⟨_, _, _, _, _, _, rfl, ho47, ho40, OwnR.nil⟩
 refine WC.perm (M' := (((b52, .cells (List.toArray [.slice sa48 ((List.replicate ((m)) Nd.zero)).length sc49, .slice sa41 ((List.replicate ((m)) false)).length sc42, .slice none 0 0]) 182 (0, 0)) :: (Ms46 ++ (Ms39 ++ []))) ++ [])) (pr9.symm.trans ((((pmF ((pmF pr9).trans pr9)).trans pr9).cons _).trans pr9)) (WC.region (W.mv (W.mv (W.nil (thn_n (WC.block ?_))))))
 refine WC.loop (X := (Nat) × MH) (fun k => [(19, .int .i64 ((k.1 : Nat) : Int)), (18, .int .i64 ((m : Nat) : Int)), (4, .pointer (some ⟨b52, 0, none⟩))]) (fun k G Ml => Ml = (k.2 ++ []) ∧ ArP eNode 47 4 3 182 b52 G ((List.replicate m Nd.zero, List.replicate m false, iotaN k.1)) k.2 ∧ k.1 ≤ m) (fun k => m - k.1) (0, ((b52, .cells (List.toArray [.slice sa48 ((List.replicate ((m)) Nd.zero)).length sc49, .slice sa41 ((List.replicate ((m)) false)).length sc42, .slice none 0 0]) 182 (0, 0)) :: (Ms46 ++ (Ms39 ++ [])))) ⟨eqv, eqv, eqv, trivial⟩ ?_ ?_
 ·exact ⟨rfl, (by exact hR53), by omega⟩
 rintro ⟨k, M_4⟩ gG54 G54 _ hG54 ⟨rfl, ho_4, hk⟩
 try dsimp only at ho_4 hk
 refine WC.fr (f := setL gG54 [(19, .int .i64 ((k : Nat) : Int)), (18, .int .i64 ((m : Nat) : Int)), (4, .pointer (some ⟨b52, 0, none⟩))]) rfl (WC.seq (WC.region (W.ok (ok_lss rfl rfl) (W.nil (thn_n (WC.seq ?_))))))
 refine WC.cond (b := _) rfl (fun h20 => ?_) (fun h20 => ?_)
 ·have p20 := of_decide_eq_true h20
  refine WC.skip (thn_n (WC.seq (WC.block (WC.seq (WC.region (W.mv (W.as (W.nil (thn_n ?_)))))))))
  refine match ho_4 with | ⟨vc_u55, vu_u55, vf_u55, Mc_u55, Mu_u55, Mf_u55, eM_, hc_u55, hu_u55, hf_u55⟩ => ?_
  subst eM_
  refine WC.perm (M' := ((b52, .cells (List.toArray [vc_u55, vu_u55, vf_u55]) 182 (0, 0)) :: (Mc_u55 ++ (Mu_u55 ++ (Mf_u55 ++ []))))) ((pmF (pmF pr9)).cons _).symm ?_
  dsimp only at hc_u55 hu_u55 hf_u55
  refine match hc_u55.form with | ⟨sac_u55, scc_u55, eV_⟩ => ?_
  subst eV_
  refine match hu_u55.form with | ⟨sau_u55, scu_u55, eV_⟩ => ?_
  subst eV_
  refine match hf_u55.form with | ⟨saf_u55, scf_u55, eV_⟩ => ?_
  subst eV_
  refine WC.region (W.mv (W.mv (W.ok (ok_nilP rfl) (W.ok (ok_fieldB fd182_2 rfl) (W.ok (ok_loadB (i := 0) (vs := [.slice _ _ _]) ty180 rfl rfl rfl rfl (by simp)) (W.mv (W.lit (e := eInt) (l := [((k : Nat) : Int)]) (css := [[.int .i64 _]]) sl180 ty3 zr3 rfl rfl rfl rfl rfl rfl ⟨⟨rfl, by omega, by omega⟩, trivial⟩ (fun bl56 G56 hG56 hv56 => (W.app (e := eInt) sl180 ty3 zr3 rfl by3 rfl rfl ((hf_u55.mono hG56)) (hv56) (pmC (pmA (pmA pr9))) (by show (_ + 1) * 8 ≤ _; rw [iota_len]; omega) (fun v57 Ms58 ho59 => (W.perm (pmC pr9).symm ?_)))))))))))
  have q63 := ho59.form
  refine match q63 with | ⟨sa60, sc61, e_62⟩ => ?_
  subst e_62
  refine W.ok (ok_nilP rfl) (W.ok (ok_fieldB fd182_2 rfl) (W.store (i := 0) (vs := [.slice _ _ _]) (L' := [.slice _ _ _, .slice _ _ _, .slice _ _ _]) ty180 rfl rfl rfl rfl rfl rfl rfl rfl (W.nil (blk_n (thn_n ?_)))))
  have hR64 : ArP eNode 47 4 3 182 b52 G56 (List.replicate m Nd.zero, List.replicate m false, iotaN (k + 1)) ((b52, .cells (List.toArray [.slice sac_u55 (List.replicate m Nd.zero).length scc_u55, .slice sau_u55 (List.replicate m false).length scu_u55, .slice sa60 ((iotaN k ++ [((k : Nat) : Int)])).length sc61]) 182 (0, 0)) :: (Mc_u55 ++ (Mu_u55 ++ Ms58))) := ⟨_, _, _, _, _, _, rfl, (hc_u55.mono hG56), (hu_u55.mono hG56), (by rw [iota_succ]; exact ho59)⟩
  refine WC.perm (M' := (((b52, .cells (List.toArray [.slice sac_u55 (List.replicate m Nd.zero).length scc_u55, .slice sau_u55 (List.replicate m false).length scu_u55, .slice sa60 ((iotaN k ++ [((k : Nat) : Int)])).length sc61]) 182 (0, 0)) :: (Mc_u55 ++ (Mu_u55 ++ Ms58))) ++ [])) (pr9.symm.trans ((((pmF ((pmF pr9).trans (pmA pr9))).trans (pmA pr9)).cons _).trans pr9)) (WC.region (W.ok (ok_add rfl rfl (by omega)) (W.mv (W.nil (thn_n ?_)))))
  exact ⟨hG56, (k + 1, ((b52, .cells (List.toArray [.slice sac_u55 (List.replicate m Nd.zero).length scc_u55, .slice sau_u55 (List.replicate m false).length scu_u55, .slice sa60 ((iotaN k ++ [((k : Nat) : Int)])).length sc61]) 182 (0, 0)) :: (Mc_u55 ++ (Mu_u55 ++ Ms58)))), ⟨eqv, eqv, eqv, trivial⟩, ⟨rfl, (by exact hR64), by omega⟩, by omega⟩
 have p20 := of_decide_eq_false h20
 refine WC.exit (thn_x (thn_x (blk_h (thn_n (WC.seq ?_)))))
 obtain rfl : k = m := by omega
 refine match ho_4 with | ⟨vc_u65, vu_u65, vf_u65, Mc_u65, Mu_u65, Mf_u65, eM_, hc_u65, hu_u65, hf_u65⟩ => ?_
 subst eM_
 refine WC.perm (M' := ((b52, .cells (List.toArray [vc_u65, vu_u65, vf_u65]) 182 (0, 0)) :: (Mc_u65 ++ (Mu_u65 ++ (Mf_u65 ++ []))))) ((pmF (pmF pr9)).cons _).symm ?_
 dsimp only at hc_u65 hu_u65 hf_u65
 refine match hc_u65.form with | ⟨sac_u65, scc_u65, eV_⟩ => ?_
 subst eV_
 refine match hu_u65.form with | ⟨sau_u65, scu_u65, eV_⟩ => ?_
 subst eV_
 refine match hf_u65.form with | ⟨saf_u65, scf_u65, eV_⟩ => ?_
 subst eV_
 refine WC.region (W.mv (W.ok (ok_nilP rfl) (W.ok (ok_fieldB fd182_2 rfl) (W.ok (ok_mkI pi239 rfl) (W.call (Mp := ((b52, .cells (List.toArray [.slice sac_u65 (List.replicate k Nd.zero).length scc_u65, .slice sau_u65 (List.replicate k false).length scu_u65, .slice saf_u65 (iotaN k).length scf_u65]) 182 (0, 0)) :: Mf_u65)) (Mr := (Mc_u65 ++ (Mu_u65 ++ []))) (hinit_fc (least_heap (b := b52) (Tb := 182) (c0 := .slice sac_u65 (List.replicate k Nd.zero).length scc_u65) (c1 := .slice sau_u65 (List.replicate k false).length scu_u65)) ⟨_, _, rfl, hf_u65⟩ (iota_heap k) (by rw [iota_len]; omega)) rfl (((pmA (pmA pr9)).cons _).trans pr9) ?_)))))
 intro v69 G66 Ms68 hG66 q67
 refine match q67 with | ⟨e_71, ⟨vf_z70, Mf_z70, e_72, hf_z70⟩⟩ => ?_
 subst e_71
 subst e_72
 have q74 := hf_z70.form
 refine match q74 with | ⟨sa_z70, sc_z70, e_73⟩ => ?_
 subst e_73
 refine W.perm (M' := ((b52, .cells (List.toArray [.slice sac_u65 (List.replicate k Nd.zero).length scc_u65, .slice sau_u65 (List.replicate k false).length scu_u65, .slice sa_z70 (iotaN k).length sc_z70]) 182 (0, 0)) :: (Mf_z70 ++ (Mc_u65 ++ (Mu_u65 ++ []))))) ((pr9.cons _).trans pr9).symm (W.nil (thn_n (WC.seq (WC.region (W.mv (W.as (W.as (W.nil (thn_n (WC.perm (M' := ((b52, .cells (List.toArray [.slice sac_u65 (List.replicate k Nd.zero).length scc_u65, .slice sau_u65 (List.replicate k false).length scu_u65, .slice sa_z70 (iotaN k).length sc_z70]) 182 (0, 0)) :: (Mc_u65 ++ (Mu_u65 ++ (Mf_z70 ++ []))))) (((List.Perm.append_left _ ((List.Perm.append_left _ ((List.Perm.append_left _ pr9).trans pr9)).trans (pmA pr9))).trans (pmA pr9)).cons _) (WC.ret ?_)))))))))))
 refine ⟨.inr rfl, [_, _], ⟨rfl, rfl, trivial⟩, ((b52, .cells (List.toArray [.slice sac_u65 (List.replicate k Nd.zero).length scc_u65, .slice sau_u65 (List.replicate k false).length scu_u65, .slice sa_z70 (iotaN k).length sc_z70]) 182 (0, 0)) :: (Mc_u65 ++ (Mu_u65 ++ (Mf_z70 ++ [])))), sr9.k9, ?_⟩
 exact .inr ⟨by omega, _, rfl, ArR.cast (st := (List.replicate k Nd.zero, List.replicate k false)) ⟨_, ⟨_, _, _, _, _, _, rfl, (hc_u65.mono hG66), (hu_u65.mono hG66), hf_z70⟩, by simp, by simp; omega, iota_heap k, List.Perm.of_eq (iota_free k)⟩ (by simp) (by simp)⟩

theorem osetn {G : GH} {b : Nat} {st : List Nd × List Bool} {M : MH} (h : ArR eNode 47 4 3 182 b G st M) (i : Int) {cs : List Value} {x : Nd} (hx : NodeC G cs x) : Fc Tryz.prog 120 [.pointer (some ⟨b, 0, none⟩), .int .i64 i, .agg (List.toArray cs)] G M (fun v G' M' => v = .int .i64 (layA st i x).1 ∧ ArR eNode 47 4 3 182 b G' (layA st i x).2 M') := by
  have h0 := h
  obtain ⟨f, ⟨vc, vu, vf, Mc, Mu, Mf, rfl, h1, h2, h3⟩, h4, h5, h6, h7⟩ := h
  exact ssetn_fc h1 h2 h3 i hx h4 h5 h6 h7
theorem oallocn {G : GH} {b : Nat} {st : List Nd × List Bool} {M : MH} (h : ArR eNode 47 4 3 182 b G st M) {cs : List Value} {x : Nd} (hx : NodeC G cs x) : Fc Tryz.prog 119 [.pointer (some ⟨b, 0, none⟩), .agg (List.toArray cs)] G M (fun v G' M' => v = .tuple #[.int .i64 (nextA st x).1.1, .int .i64 (nextA st x).1.2] ∧ ArR eNode 47 4 3 182 b G' (nextA st x).2 M') := by
  have h0 := h
  obtain ⟨f, ⟨vc, vu, vf, Mc, Mu, Mf, rfl, h1, h2, h3⟩, h4, h5, h6, h7⟩ := h
  exact sallocn_fc h1 h2 h3 hx h4 h5 h6 h7
theorem ogetn {G : GH} {b : Nat} {st : List Nd × List Bool} {M : MH} (h : ArR eNode 47 4 3 182 b G st M) (i : Int) : Fc Tryz.prog 113 [.pointer (some ⟨b, 0, none⟩), .int .i64 i] G M (fun v G' M' => (∃ cs, v = .tuple #[.agg (List.toArray cs), .bool (hasN st.2 i)] ∧ NodeC G' cs (getA st i Nd.zero)) ∧ M' = M) := by
  have h0 := h
  obtain ⟨f, ⟨vc, vu, vf, Mc, Mu, Mf, rfl, h1, h2, h3⟩, h4, h5, h6, h7⟩ := h
  exact (sgetn_fc h1 h2 h3 i h4).mono fun v G' M' hl ⟨cs, e1, e2, e3⟩ => ⟨⟨cs, e1, e2⟩, e3⟩
theorem ousedn {G : GH} {b : Nat} {st : List Nd × List Bool} {M : MH} (h : ArR eNode 47 4 3 182 b G st M)  : Fc Tryz.prog 115 [.pointer (some ⟨b, 0, none⟩)] G M (fun v G' M' => v = .int .i64 ((usedN st.2).length : Int) ∧ M' = M) := by
  have h0 := h
  obtain ⟨f, ⟨vc, vu, vf, Mc, Mu, Mf, rfl, h1, h2, h3⟩, h4, h5, h6, h7⟩ := h
  exact (susedn_fc h1 h2 h3 h4 h5 h6 h7).mono fun v G' M' hl hq => hq
theorem oroomn {G : GH} {b : Nat} {st : List Nd × List Bool} {M : MH} (h : ArR eNode 47 4 3 182 b G st M)  : Fc Tryz.prog 121 [.pointer (some ⟨b, 0, none⟩)] G M (fun v G' M' => v = .int .i64 ((freeN st.2).length : Int) ∧ M' = M) := by
  have h0 := h
  obtain ⟨f, ⟨vc, vu, vf, Mc, Mu, Mf, rfl, h1, h2, h3⟩, h4, h5, h6, h7⟩ := h
  exact (sroomn_fc h1 h2 h3 h4 h5 h6 h7).mono fun v G' M' hl hq => hq
theorem olistn {G : GH} {b : Nat} {st : List Nd × List Bool} {M : MH} (h : ArR eNode 47 4 3 182 b G st M)  : Fc Tryz.prog 63 [.pointer (some ⟨b, 0, none⟩)] G M (fun v G' M' => SlR eInt G' v (usedN st.2) ∧ M' = M) := by
  have h0 := h
  obtain ⟨f, ⟨vc, vu, vf, Mc, Mu, Mf, rfl, h1, h2, h3⟩, h4, h5, h6, h7⟩ := h
  exact (slistn_fc h1 h2 h3 h4 h5 h6 h7).mono fun v G' M' hl hq => hq
end Go.Proofs.YtebkfinhhpelbaaGreat
namespace Go.Proofs.YtebkfinhhpelbaaGreat
open Go Go.Fw Go.RowKit
theorem tset_fc {G : GH} {b_s : Nat} {c : Cfg} {b_a : Nat} {a : List Nd × List Bool} {Ms_a : MH} (h_a : ArR eNode 47 4 3 182 b_a G a Ms_a) {cs_x : List Value} {x : Nd} (h_x : NodeC G cs_x x) :
    Fc Tryz.prog 58 [.pointer (some ⟨b_s, 0, none⟩), .agg (List.toArray cs_x)] G ((b_s, .cells (List.toArray [.int .i64 c.fan, .int .i64 c.leaf, .int .i64 c.bud, .int .i64 c.slots, .int .i64 c.rest, .pointer (some ⟨b_a, 0, none⟩)]) 103 (0, 0)) :: (Ms_a)) (fun v G' M' => v = .int .i64 (layA a x.slot x).1 ∧ StA 47 4 3 182 103 b_s G' c (layA a x.slot x).2 M') := by
 obtain ⟨pa_x, pc_x, ka_x, kc_x, ma_x, mc_x, ra_x, rc_x, rfl, hp_x, hk_x, hm_x, hr_x, hok_x⟩ := h_x
 refine Fc.intro (rs := [.tmp 4]) cl58 Tryz.func58 rfl Tryz.ntmps58 rfl rfl (fun w0 => ?_)
 refine WC.perm (M' := ((b_s, .cells (List.toArray [.int .i64 c.fan, .int .i64 c.leaf, .int .i64 c.bud, .int .i64 c.slots, .int .i64 c.rest, .pointer (some ⟨b_a, 0, none⟩)]) 103 (0, 0)) :: (Ms_a ++ []))) (by simp) (WC.seq (WC.region (W.box (L := (nd9 _ _ _ _ _ _ _ _ _ _ _ _ _ _ _ _ _ _)) rfl rfl (fun b1 => (W.as (W.nil (thn_n (WC.seq (WC.seq (WC.region (W.mv (W.ok (ok_eqlPN pp27 rfl rfl) (W.nil (thn_n (WC.cond_f rfl rfl (WC.skip (thn_n ?_)))))))))))))))))
 refine WC.seq (WC.drawW _ (sn9.k9.k9) mix (by rintro _ _ _ _ ⟨h | h, _⟩ <;> cases h) (WD.tk 0 rfl (ok_mv) (WD.tk 1 rfl (ok_nilP rfl) (WD.tk 2 rfl (ok_fieldB fd103_1 rfl) (WD.tk 3 rfl (ok_loadB (i := 1) (vs := [.pointer _]) ty101 rfl rfl rfl rfl (by simp)) (WD.tk 4 rfl (ok_fieldB fd47_0 rfl) (WD.tk 5 rfl (ok_loadB (i := 0) (vs := [.int .i64 _]) ty3 rfl rfl rfl rfl (by simp)) (WD.tk 6 rfl (ok_loadB (i := 0) (vs := (nd9 _ _ _ _ _ _ _ _ _ _ _ _ _ _ _ _ _ _)) ty47 rfl rfl rfl rfl (by simp)) (WD.a1 7 rfl (W.call (Mp := []) (ncopy_fc ⟨_, _, _, _, _, _, _, _, rfl, hp_x, hk_x, hm_x, hr_x, hok_x⟩) rfl pr9 ?_))))))))))
 intro _ G2 _ hG2 q4
 refine match q4 with | ⟨e_5, _, e_6, hv3⟩ => ?_
 subst e_5
 subst e_6
 refine match hv3 with | ⟨pa_hv3, pc_hv3, ka_hv3, kc_hv3, ma_hv3, mc_hv3, ra_hv3, rc_hv3, e_7, hp_hv3, hk_hv3, hm_hv3, hr_hv3, hok_hv3⟩ => ?_
 subst e_7
 refine W.nil (WD.n9 hG2 (sn9.k9.k9) (WD.a1 8 rfl (W.call (Mp := Ms_a) (osetn (ArR.mono hG2 h_a) _ ⟨_, _, _, _, _, _, _, _, rfl, hp_hv3, hk_hv3, hm_hv3, hr_hv3, hok_hv3⟩) rfl (pmC (pmC pr9)) ?_)))
 intro v11 G8 Ms10 hG8 q9
 refine match q9 with | ⟨e_13, hR12⟩ => ?_
 subst e_13
 refine W.perm (pmC (pmC pr9)).symm (W.nil (WD.n9 hG8 (sn9.k9.k9) (WD.tk 9 rfl (ok_as) (WD.done (by kernel_rfl) (thn_n (WC.ret ?_))))))
 refine ⟨.inr rfl, [_], ⟨rfl, trivial⟩, ((b_s, .cells (List.toArray [.int .i64 c.fan, .int .i64 c.leaf, .int .i64 c.bud, .int .i64 c.slots, .int .i64 c.rest, .pointer (some ⟨b_a, 0, none⟩)]) 103 (0, 0)) :: (Ms10 ++ [])), sr9.k9.cons _, ?_⟩
 exact ⟨rfl, _, _, congrArg _ (List.append_nil _), hR12⟩

theorem tnode_fc {G : GH} {b_s : Nat} {c : Cfg} {b_a : Nat} {a : List Nd × List Bool} {Ms_a : MH} (h_a : ArR eNode 47 4 3 182 b_a G a Ms_a) (i : Int) :
    Fc Tryz.prog 54 [.pointer (some ⟨b_s, 0, none⟩), .int .i64 i] G ((b_s, .cells (List.toArray [.int .i64 c.fan, .int .i64 c.leaf, .int .i64 c.bud, .int .i64 c.slots, .int .i64 c.rest, .pointer (some ⟨b_a, 0, none⟩)]) 103 (0, 0)) :: (Ms_a)) (fun v G' M' => (∃ cs, v = .tuple #[.agg (List.toArray cs), .bool (hasN a.2 i)] ∧ NodeC G' cs (getA a i Nd.zero)) ∧ M' = (b_s, .cells (List.toArray [.int .i64 c.fan, .int .i64 c.leaf, .int .i64 c.bud, .int .i64 c.slots, .int .i64 c.rest, .pointer (some ⟨b_a, 0, none⟩)]) 103 (0, 0)) :: Ms_a) := by
 refine Fc.intro (rs := [.cell 4 47, .tmp 5]) cl54 Tryz.func54 rfl Tryz.ntmps54 rfl rfl (fun w0 => ?_)
 refine WC.perm (M' := ((b_s, .cells (List.toArray [.int .i64 c.fan, .int .i64 c.leaf, .int .i64 c.bud, .int .i64 c.slots, .int .i64 c.rest, .pointer (some ⟨b_a, 0, none⟩)]) 103 (0, 0)) :: (Ms_a ++ []))) (by simp) (WC.seq (WC.region (W.alloc zr47 (fun b14 => (W.as (W.nil (thn_n (WC.seq (WC.seq (WC.region (W.mv (W.ok (ok_eqlPN pp27 rfl rfl) (W.nil (thn_n (WC.cond_f rfl rfl (WC.skip (thn_n ?_)))))))))))))))))
 refine WC.seq (WC.region (W.mv (W.ok (ok_nilP rfl) (W.ok (ok_fieldB fd103_1 rfl) (W.ok (ok_loadB (i := 1) (vs := [.pointer _]) ty101 rfl rfl rfl rfl (by simp)) (W.mv (W.call (Mp := Ms_a) (ogetn h_a _) rfl (pmC (pmC pr9)) ?_)))))))
 intro v18 G15 Ms17 hG15 q16
 refine match q16 with | ⟨⟨_, e_20, ⟨_, _, _, _, _, _, _, _, e_21, hp_hR19, hk_hR19, hm_hR19, hr_hR19, hok_hR19⟩⟩, eeq16⟩ => ?_
 subst e_20
 subst e_21
 have eeq16 := eeq16.symm
 subst eeq16
 refine W.perm (pmC (pmC pr9)).symm (W.mv (W.ok (ok_extract rfl rfl) (W.ok (ok_extract rfl rfl) (W.alloc zr47 (fun b22 => (W.store (i := 0) (vs := (nd9 _ _ _ _ _ _ _ _ _ _ _ _ _ _ _ _ _ _)) (L' := (nd9 _ _ _ _ _ _ _ _ _ _ _ _ _ _ _ _ _ _)) ty47 rfl rfl rfl rfl rfl rfl rfl rfl (W.as (W.nil (thn_n (WC.seq (WC.region (W.ok (ok_loadB (i := 0) (vs := (nd9 _ _ _ _ _ _ _ _ _ _ _ _ _ _ _ _ _ _)) ty47 rfl rfl rfl rfl (by simp)) (W.call (Mp := []) (ncopy_fc ⟨_, _, _, _, _, _, _, _, rfl, hp_hR19, hk_hR19, hm_hR19, hr_hR19, hok_hR19⟩) rfl pr9 ?_)))))))))))))
 intro _ G23 _ hG23 q25
 refine match q25 with | ⟨e_26, _, e_27, hv24⟩ => ?_
 subst e_26
 subst e_27
 refine match hv24 with | ⟨pa_hv24, pc_hv24, ka_hv24, kc_hv24, ma_hv24, mc_hv24, ra_hv24, rc_hv24, e_28, hp_hv24, hk_hv24, hm_hv24, hr_hv24, hok_hv24⟩ => ?_
 subst e_28
 refine W.mv (W.store (i := 1) (vs := (nd9 _ _ _ _ _ _ _ _ _ _ _ _ _ _ _ _ _ _)) (L' := (nd9 _ _ _ _ _ _ _ _ _ _ _ _ _ _ _ _ _ _)) ty47 rfl rfl rfl rfl rfl rfl rfl rfl (W.as (W.nil (thn_n (WC.ret ?_)))))
 refine ⟨.inr rfl, [_, _], ⟨⟨_, _, _, _, _, rfl, nthM_mem (i := 1) rfl, ty47, (by simp), rfl, rfl⟩, rfl, trivial⟩, ((b_s, .cells (List.toArray [.int .i64 c.fan, .int .i64 c.leaf, .int .i64 c.bud, .int .i64 c.slots, .int .i64 c.rest, .pointer (some ⟨b_a, 0, none⟩)]) 103 (0, 0)) :: (Ms_a ++ [])), (sr9.k9.cons _).cons _, ?_⟩
 exact ⟨⟨_, rfl, ⟨_, _, _, _, _, _, _, _, rfl, hp_hv24, hk_hv24, hm_hv24, hr_hv24, hok_hv24⟩⟩, congrArg _ (List.append_nil _)⟩

theorem tused_fc {G : GH} {b_s : Nat} {c : Cfg} {b_a : Nat} {a : List Nd × List Bool} {Ms_a : MH} (h_a : ArR eNode 47 4 3 182 b_a G a Ms_a) :
    Fc Tryz.prog 55 [.pointer (some ⟨b_s, 0, none⟩)] G ((b_s, .cells (List.toArray [.int .i64 c.fan, .int .i64 c.leaf, .int .i64 c.bud, .int .i64 c.slots, .int .i64 c.rest, .pointer (some ⟨b_a, 0, none⟩)]) 103 (0, 0)) :: (Ms_a)) (fun v G' M' => v = .int .i64 ((usedN a.2).length : Int) ∧ M' = (b_s, .cells (List.toArray [.int .i64 c.fan, .int .i64 c.leaf, .int .i64 c.bud, .int .i64 c.slots, .int .i64 c.rest, .pointer (some ⟨b_a, 0, none⟩)]) 103 (0, 0)) :: Ms_a) := by
 refine Fc.intro (rs := [.tmp 2]) cl55 Tryz.func55 rfl Tryz.ntmps55 rfl rfl (fun w0 => ?_)
 refine WC.perm (M' := ((b_s, .cells (List.toArray [.int .i64 c.fan, .int .i64 c.leaf, .int .i64 c.bud, .int .i64 c.slots, .int .i64 c.rest, .pointer (some ⟨b_a, 0, none⟩)]) 103 (0, 0)) :: (Ms_a ++ []))) (by simp) (WC.seq (WC.region (W.as (W.nil (thn_n (WC.seq (WC.seq (WC.region (W.mv (W.ok (ok_eqlPN pp27 rfl rfl) (W.nil (thn_n (WC.cond_f rfl rfl (WC.skip (thn_n (WC.seq ?_))))))))))))))))
 refine WC.region (W.mv (W.ok (ok_nilP rfl) (W.ok (ok_fieldB fd103_1 rfl) (W.ok (ok_loadB (i := 0) (vs := [.pointer _]) ty101 rfl rfl rfl rfl (by simp)) (W.call (Mp := Ms_a) (ousedn h_a) rfl (pmC pr9) ?_)))))
 intro v32 G29 Ms31 hG29 q30
 refine match q30 with | ⟨e_34, eeq30⟩ => ?_
 subst e_34
 have eeq30 := eeq30.symm
 subst eeq30
 refine W.perm (pmC pr9).symm (W.as (W.nil (thn_n (WC.ret ?_))))
 refine ⟨.inr rfl, [_], ⟨rfl, trivial⟩, ((b_s, .cells (List.toArray [.int .i64 c.fan, .int .i64 c.leaf, .int .i64 c.bud, .int .i64 c.slots, .int .i64 c.rest, .pointer (some ⟨b_a, 0, none⟩)]) 103 (0, 0)) :: (Ms_a ++ [])), sr9.k9, ?_⟩
 exact ⟨rfl, congrArg _ (List.append_nil _)⟩

theorem troom_fc {G : GH} {b_s : Nat} {c : Cfg} {b_a : Nat} {a : List Nd × List Bool} {Ms_a : MH} (h_a : ArR eNode 47 4 3 182 b_a G a Ms_a) :
    Fc Tryz.prog 60 [.pointer (some ⟨b_s, 0, none⟩)] G ((b_s, .cells (List.toArray [.int .i64 c.fan, .int .i64 c.leaf, .int .i64 c.bud, .int .i64 c.slots, .int .i64 c.rest, .pointer (some ⟨b_a, 0, none⟩)]) 103 (0, 0)) :: (Ms_a)) (fun v G' M' => v = .int .i64 ((freeN a.2).length : Int) ∧ M' = (b_s, .cells (List.toArray [.int .i64 c.fan, .int .i64 c.leaf, .int .i64 c.bud, .int .i64 c.slots, .int .i64 c.rest, .pointer (some ⟨b_a, 0, none⟩)]) 103 (0, 0)) :: Ms_a) := by
 refine Fc.intro (rs := [.tmp 2]) cl60 Tryz.func60 rfl Tryz.ntmps60 rfl rfl (fun w0 => ?_)
 refine WC.perm (M' := ((b_s, .cells (List.toArray [.int .i64 c.fan, .int .i64 c.leaf, .int .i64 c.bud, .int .i64 c.slots, .int .i64 c.rest, .pointer (some ⟨b_a, 0, none⟩)]) 103 (0, 0)) :: (Ms_a ++ []))) (by simp) (WC.seq (WC.region (W.as (W.nil (thn_n (WC.seq (WC.seq (WC.region (W.mv (W.ok (ok_eqlPN pp27 rfl rfl) (W.nil (thn_n (WC.cond_f rfl rfl (WC.skip (thn_n (WC.seq ?_))))))))))))))))
 refine WC.region (W.mv (W.ok (ok_nilP rfl) (W.ok (ok_fieldB fd103_1 rfl) (W.ok (ok_loadB (i := 0) (vs := [.pointer _]) ty101 rfl rfl rfl rfl (by simp)) (W.call (Mp := Ms_a) (oroomn h_a) rfl (pmC pr9) ?_)))))
 intro v38 G35 Ms37 hG35 q36
 refine match q36 with | ⟨e_40, eeq36⟩ => ?_
 subst e_40
 have eeq36 := eeq36.symm
 subst eeq36
 refine W.perm (pmC pr9).symm (W.as (W.nil (thn_n (WC.ret ?_))))
 refine ⟨.inr rfl, [_], ⟨rfl, trivial⟩, ((b_s, .cells (List.toArray [.int .i64 c.fan, .int .i64 c.leaf, .int .i64 c.bud, .int .i64 c.slots, .int .i64 c.rest, .pointer (some ⟨b_a, 0, none⟩)]) 103 (0, 0)) :: (Ms_a ++ [])), sr9.k9, ?_⟩
 exact ⟨rfl, congrArg _ (List.append_nil _)⟩

theorem ttake_fc {G : GH} {b_s : Nat} {c : Cfg} {b_a : Nat} {a : List Nd × List Bool} {Ms_a : MH} (h_a : ArR eNode 47 4 3 182 b_a G a Ms_a) {cs_x : List Value} {x : Nd} (h_x : NodeC G cs_x x) :
    Fc Tryz.prog 57 [.pointer (some ⟨b_s, 0, none⟩), .agg (List.toArray cs_x)] G ((b_s, .cells (List.toArray [.int .i64 c.fan, .int .i64 c.leaf, .int .i64 c.bud, .int .i64 c.slots, .int .i64 c.rest, .pointer (some ⟨b_a, 0, none⟩)]) 103 (0, 0)) :: (Ms_a)) (fun v G' M' => v = .tuple #[.int .i64 (takeA a x).1.1, .int .i64 (takeA a x).1.2] ∧ StA 47 4 3 182 103 b_s G' c (takeA a x).2 M') := by
 obtain ⟨pa_x, pc_x, ka_x, kc_x, ma_x, mc_x, ra_x, rc_x, rfl, hp_x, hk_x, hm_x, hr_x, hok_x⟩ := h_x
 have hal : a.2.length ≤ 4096 := by obtain ⟨f, _, _, h, _⟩ := h_a; exact h
 have hai := nextA_i64 (x := Nd.zero) hal
 refine Fc.intro (rs := [.tmp 4, .tmp 5]) cl57 Tryz.func57 rfl Tryz.ntmps57 rfl rfl (fun w0 => ?_)
 refine WC.perm (M' := ((b_s, .cells (List.toArray [.int .i64 c.fan, .int .i64 c.leaf, .int .i64 c.bud, .int .i64 c.slots, .int .i64 c.rest, .pointer (some ⟨b_a, 0, none⟩)]) 103 (0, 0)) :: (Ms_a ++ []))) (by simp) (WC.seq (WC.region (W.box (L := (nd9 _ _ _ _ _ _ _ _ _ _ _ _ _ _ _ _ _ _)) rfl rfl (fun b41 => (W.as (W.as (W.nil (thn_n (WC.seq (WC.seq (WC.region (W.mv (W.ok (ok_eqlPN pp27 rfl rfl) (W.nil (thn_n (WC.cond_f rfl rfl ?_))))))))))))))))
 refine WC.skip (thn_n (WC.seq (WC.region (W.mv (W.ok (ok_nilP rfl) (W.ok (ok_fieldB fd103_1 rfl) (W.ok (ok_loadB (i := 1) (vs := [.pointer _]) ty101 rfl rfl rfl rfl (by simp)) (W.ok (ok_build (L := (nd9 _ _ _ _ _ _ _ _ _ _ _ _ _ _ _ _ _ _)) pl47 zr47 rfl rfl rfl) (W.call (Mp := Ms_a) (oallocn h_a (x := Nd.zero) ⟨_, _, _, _, _, _, _, _, rfl, SlR.nil, SlR.nil, SlR.nil, SlR.nil, Nd.zero_ok⟩) rfl (pmC (pmC pr9)) ?_)))))))))
 intro v45 G42 Ms44 hG42 q43
 refine match q43 with | ⟨e_47, hR46⟩ => ?_
 subst e_47
 refine W.perm (pmC (pmC pr9)).symm (W.mv (W.ok (ok_extract rfl rfl) (W.ok (ok_extract rfl rfl) (W.as (W.as (W.nil (thn_n (WC.seq (WC.seq (WC.region (W.mv (W.ok (ok_neq rfl rfl) (W.nil (thn_n ?_))))))))))))))
 refine WC.cond (b := _) rfl (fun h20 => ?_) (fun h20 => ?_)
 ·have p20 := nd_t h20
  refine WC.seq (WC.region (W.mv (W.as (W.as (W.nil (thn_n (WC.ret (thn_r ?_))))))))
  refine ⟨.inr rfl, [_, _], ⟨rfl, rfl, trivial⟩, ((b_s, .cells (List.toArray [.int .i64 c.fan, .int .i64 c.leaf, .int .i64 c.bud, .int .i64 c.slots, .int .i64 c.rest, .pointer (some ⟨b_a, 0, none⟩)]) 103 (0, 0)) :: (Ms44 ++ [])), sr9.k9.cons _, ?_⟩
  have hE := takeA_f (a := a) (x := x) p20
  exact ⟨congrArg (fun r : Int × Int => Value.tuple #[.int .i64 r.1, .int .i64 r.2]) (congrArg Prod.fst hE).symm, StA.cast ⟨_, _, congrArg _ (List.append_nil _), hR46⟩ (congrArg Prod.snd hE).symm⟩
 have p20 := nd_f h20
 refine WC.skip (thn_n (WC.seq (WC.region (W.mv (W.ok (ok_fieldB fd47_0 rfl) (W.store (i := 0) (vs := [.int .i64 _]) (L' := (nd9 _ _ _ _ _ _ _ _ _ _ _ _ _ _ _ _ _ _)) ty3 rfl rfl rfl rfl rfl rfl rfl rfl (W.nil (thn_n (WC.seq (WC.region (W.mv (W.mv (W.ok (ok_loadB (i := 0) (vs := (nd9 _ _ _ _ _ _ _ _ _ _ _ _ _ _ _ _ _ _)) ty47 rfl rfl rfl rfl (by simp)) (W.call (Mp := ((b_s, .cells (List.toArray [.int .i64 c.fan, .int .i64 c.leaf, .int .i64 c.bud, .int .i64 c.slots, .int .i64 c.rest, .pointer (some ⟨b_a, 0, none⟩)]) 103 (0, 0)) :: Ms44)) (Mr := ((b41, .cells (List.toArray [.int .i64 (nextA (a) Nd.zero).1.1, .int .i64 x.level, .slice pa_x x.pivots.length pc_x, .slice ka_x x.kids.length kc_x, .string x.high.b, .bool x.top, .int .i64 x.right, .int .i64 x.seen, .slice ma_x x.msgs.length mc_x, .slice ra_x x.rows.length rc_x]) 47 (0, 0)) :: [])) (tset_fc (c := c) hR46 (show NodeC _ _ { x with slot := (nextA a Nd.zero).1.1 } from ⟨_, _, _, _, _, _, _, _, rfl, (hp_x.mono hG42), (hk_x.mono hG42), (hm_x.mono hG42), (hr_x.mono hG42), ⟨hai, hok_x.2⟩⟩)) rfl (((pmC pr9).cons _).trans ((List.Perm.swap _ _ _).trans (pr9.cons _))) ?_))))))))))))))
 intro v51 G48 Ms50 hG48 q49
 refine match q49 with | ⟨e_53, hS52⟩ => ?_
 subst e_53
 refine W.perm (pmC pr9).symm (W.as (W.as (W.nil (thn_n (WC.ret ?_)))))
 refine ⟨.inr rfl, [_, _], ⟨rfl, rfl, trivial⟩, (Ms50 ++ []), sr9.cons _, ?_⟩
 have hE := takeA_t (a := a) (x := x) p20
 exact ⟨congrArg (fun r : Int × Int => Value.tuple #[.int .i64 r.1, .int .i64 r.2]) (congrArg Prod.fst hE).symm, StA.cast (by have h := hS52; rw [List.append_nil]; exact h) (congrArg Prod.snd hE).symm⟩

theorem tnodes_fc {G : GH} {b_s : Nat} {c : Cfg} {b_a : Nat} {a : List Nd × List Bool} {Ms_a : MH} (h_a : ArR eNode 47 4 3 182 b_a G a Ms_a) :
    Fc Tryz.prog 18 [.pointer (some ⟨b_s, 0, none⟩)] G ((b_s, .cells (List.toArray [.int .i64 c.fan, .int .i64 c.leaf, .int .i64 c.bud, .int .i64 c.slots, .int .i64 c.rest, .pointer (some ⟨b_a, 0, none⟩)]) 103 (0, 0)) :: (Ms_a)) (fun v G' M' => SlR eNode G' v ((usedN a.2).map (fun i => getA a i Nd.zero)) ∧ M' = (b_s, .cells (List.toArray [.int .i64 c.fan, .int .i64 c.leaf, .int .i64 c.bud, .int .i64 c.slots, .int .i64 c.rest, .pointer (some ⟨b_a, 0, none⟩)]) 103 (0, 0)) :: Ms_a) := by
 have hal : a.2.length ≤ 4096 := by obtain ⟨f, _, _, h, _⟩ := h_a; exact h
 have hul := usedK_len a.2 a.2.length
 rw [← used_eq] at hul
 refine Fc.intro (rs := [.tmp 2]) cl18 Tryz.func18 rfl Tryz.ntmps18 rfl rfl (fun w0 => ?_)
 refine WC.perm (M' := ((b_s, .cells (List.toArray [.int .i64 c.fan, .int .i64 c.leaf, .int .i64 c.bud, .int .i64 c.slots, .int .i64 c.rest, .pointer (some ⟨b_a, 0, none⟩)]) 103 (0, 0)) :: (Ms_a ++ []))) (by simp) (WC.seq (WC.region (W.as (W.nil (thn_n (WC.seq (WC.region (W.as (W.nil (thn_n (WC.seq (WC.seq (WC.region (W.mv (W.ok (ok_eqlPN pp27 rfl rfl) ?_)))))))))))))))
 refine W.nil (thn_n (WC.cond_f rfl rfl (WC.skip (thn_n (WC.seq (WC.seq (WC.region (W.mv (W.ok (ok_nilP rfl) (W.ok (ok_fieldB fd103_1 rfl) (W.ok (ok_loadB (i := 0) (vs := [.pointer _]) ty101 rfl rfl rfl rfl (by simp)) (W.call (Mp := Ms_a) (olistn h_a) rfl (pmC pr9) ?_))))))))))))
 intro v57 G54 Ms56 hG54 q55
 refine match q55 with | ⟨hR58, eeq55⟩ => ?_
 have eeq55 := eeq55.symm
 subst eeq55
 refine W.perm (pmC pr9).symm ?_
 have q60 := hR58.form
 refine match q60 with | ⟨sa_hR58, sc_hR58, e_59⟩ => ?_
 subst e_59
 refine W.ok (ok_len sl44 hR58 rfl) (W.mv (W.nil (thn_n (WC.block ?_))))
 refine WC.loop (X := (Nat) × Value × MH) (fun k => [(16, .int .i64 ((k.1 : Nat) : Int)), (0, .pointer (some ⟨b_s, 0, none⟩)), (14, .slice sa_hR58 ((usedN (a).2)).length sc_hR58), (15, .int .i64 ((((usedN (a).2)).length : Nat) : Int)), (3, k.2.1)]) (fun k G Ml => Ml = ((b_s, .cells (List.toArray [.int .i64 c.fan, .int .i64 c.leaf, .int .i64 c.bud, .int .i64 c.slots, .int .i64 c.rest, .pointer (some ⟨b_a, 0, none⟩)]) 103 (0, 0)) :: (k.2.2 ++ (Ms_a ++ []))) ∧ OwnR eNode 47 G k.2.1 (((usedN a.2).take k.1).map (fun i => getA a i Nd.zero)) k.2.2 ∧ k.1 ≤ (usedN a.2).length) (fun k => (usedN a.2).length - k.1) (0, .slice none 0 0, ([] : MH)) ⟨eqv, eqv, eqv, eqv, eqv, trivial⟩ ?_ ?_
 ·exact ⟨rfl, (by simpa using OwnR.nil), by omega⟩
 rintro ⟨k, v_3, M_3⟩ gG61 G61 _ hG61 ⟨rfl, ho_3, hk⟩
 try dsimp only at ho_3 hk
 refine WC.fr (f := setL gG61 [(16, .int .i64 ((k : Nat) : Int)), (0, .pointer (some ⟨b_s, 0, none⟩)), (14, .slice sa_hR58 ((usedN (a).2)).length sc_hR58), (15, .int .i64 ((((usedN (a).2)).length : Nat) : Int)), (3, v_3)]) rfl (WC.seq (WC.region (W.ok (ok_lss rfl rfl) (W.nil (thn_n (WC.seq ?_))))))
 refine WC.cond (b := _) rfl (fun h17 => ?_) (fun h17 => ?_)
 ·have p17 := of_decide_eq_true h17
  refine WC.skip (thn_n (WC.seq (WC.block (WC.seq (WC.region ?_)))))
  have q65 := (hR58.mono hG61).at (i := k) (by omega)
  refine match q65 with | ⟨_, he62, ⟨e_64, hi63⟩⟩ => ?_
  subst e_64
  refine W.ok (ok_indexAddr (i := k) sl44 ty3 (hR58.mono hG61) rfl rfl ⟨by omega, by omega⟩) (W.ok (ok_loadE (vs := [.int .i64 _]) ty3 he62 rfl rfl rfl (by simp)) (W.as (W.nil (thn_n (WC.seq (WC.region (W.mv (W.mv (W.call (Mp := ((b_s, .cells (List.toArray [.int .i64 c.fan, .int .i64 c.leaf, .int .i64 c.bud, .int .i64 c.slots, .int .i64 c.rest, .pointer (some ⟨b_a, 0, none⟩)]) 103 (0, 0)) :: Ms_a)) (Mr := (M_3 ++ [])) (tnode_fc (c := c) (ArR.mono (hG54.trans hG61) h_a) _) rfl (((pmA pr9).cons _).trans pr9) ?_)))))))))
  intro v69 G66 Ms68 hG66 q67
  refine match q67 with | ⟨⟨_, e_71, ⟨_, _, _, _, _, _, _, _, e_72, hp_n70, hk_n70, hm_n70, hr_n70, hok_n70⟩⟩, e_73⟩ => ?_
  subst e_71
  subst e_72
  subst e_73
  refine W.perm (M' := ((b_s, .cells (List.toArray [.int .i64 c.fan, .int .i64 c.leaf, .int .i64 c.bud, .int .i64 c.slots, .int .i64 c.rest, .pointer (some ⟨b_a, 0, none⟩)]) 103 (0, 0)) :: (Ms_a ++ (M_3 ++ [])))) ((pr9.cons _).trans pr9).symm (W.mv (W.ok (ok_extract rfl rfl) (W.ok (ok_extract rfl rfl) (W.alloc zr47 (fun b74 => (W.store (i := 0) (vs := (nd9 _ _ _ _ _ _ _ _ _ _ _ _ _ _ _ _ _ _)) (L' := (nd9 _ _ _ _ _ _ _ _ _ _ _ _ _ _ _ _ _ _)) ty47 rfl rfl rfl rfl rfl rfl rfl rfl (W.as (W.nil (thn_n (WC.region (W.mv (W.ok (ok_loadB (i := 0) (vs := (nd9 _ _ _ _ _ _ _ _ _ _ _ _ _ _ _ _ _ _)) ty47 rfl rfl rfl rfl (by simp)) (W.lit (e := eNode) (l := [(getA a ((usedN a.2)[k]'_) Nd.zero)]) (css := [(nd9 _ _ _ _ _ _ _ _ _ _ _ _ _ _ _ _ _ _)]) sl24 ty47 zr47 rfl rfl rfl rfl rfl rfl ⟨⟨_, _, _, _, _, _, _, _, rfl, hp_n70, hk_n70, hm_n70, hr_n70, hok_n70⟩, trivial⟩ (fun bl75 G75 hG75 hv75 => (W.app (e := eNode) sl24 ty47 zr47 rfl by47 rfl rfl ((ho_3.mono (hG66.trans hG75))) (hv75) (pmC (pmC (pmA pr9))) (by show (List.length _ + 1) * 152 ≤ _; rw [List.length_map, List.length_take]; omega) (fun v76 Ms77 ho78 => (W.perm (pmC (pmC pr9)).symm ?_)))))))))))))))))
  refine W.as (W.nil (blk_n (thn_n (WC.region (W.ok (ok_add rfl rfl (by omega)) (W.mv (W.sub (sr9.cons _) (W.nil (thn_n ?_)))))))))
  exact ⟨(hG66.trans hG75), (k + 1, v76, Ms77), ⟨eqv, eqv, eqv, eqv, eqv, trivial⟩, ⟨rfl, (by have h := ho78; rw [List.take_succ_eq_append_getElem (by omega), List.map_append]; exact h), by omega⟩, by omega⟩
 have p17 := of_decide_eq_false h17
 refine WC.exit (thn_x (thn_x (blk_h (thn_n (WC.seq (WC.region (W.mv (W.as (W.nil (thn_n (WC.giveO ho_3 (pmC pr9) (fun G79 hG79 hv79 => (WC.ret ?_)))))))))))))
 refine ⟨.inr rfl, [_], ⟨rfl, trivial⟩, ((b_s, .cells (List.toArray [.int .i64 c.fan, .int .i64 c.leaf, .int .i64 c.bud, .int .i64 c.slots, .int .i64 c.rest, .pointer (some ⟨b_a, 0, none⟩)]) 103 (0, 0)) :: (Ms_a ++ [])), sr9.k9, ?_⟩
 exact ⟨SlR.cast hv79 (by rw [List.take_of_length_le (by omega)]), congrArg _ (List.append_nil _)⟩

end Go.Proofs.YtebkfinhhpelbaaGreat

namespace Go.Fw
open Go Go.RowKit
theorem or3 {a b c d : Prop} (h : a ∨ (b ∧ (c ∨ d))) : a ∨ (b ∧ c) ∨ (b ∧ d) := h.imp id fun ⟨h1, h2⟩ => h2.imp (fun h3 => ⟨h1, h3⟩) (fun h3 => ⟨h1, h3⟩)
theorem leafN_ok {s : Int} (hs : i64 s) : (leafN s).Ok := ⟨hs, ⟨by show (-9223372036854775808 : Int) ≤ 0; omega, by show (0 : Int) ≤ 9223372036854775807; omega⟩, ⟨by show (-9223372036854775808 : Int) ≤ -1; omega, by show (-1 : Int) ≤ 9223372036854775807; omega⟩, ⟨by show (-9223372036854775808 : Int) ≤ 0; omega, by show (0 : Int) ≤ 9223372036854775807; omega⟩⟩
theorem pick_first {n : Nat} (h : 0 < n) : arOf n [] = arOf n [] ∧ takeL n [] (leafN 0) = ((0, 0), [leafN 0]) := ⟨rfl, by rw [takeL_t (by simpa using h)]; rfl⟩
def placedF (i : Int) : List Nd → Bool
 | [] => true
 | n :: l => decide (n.slot = i) && placedF (i + 1) l
theorem placed_iff : ∀ {l : List Nd} {i : Int}, placedF i l = true ↔ ∀ k (h : k < l.length), l[k].slot = i + k
 | [], i => by simp [placedF]
 | n :: l, i => by
  rw [placedF, Bool.and_eq_true, decide_eq_true_iff, placed_iff]
  constructor
  ·rintro ⟨h1, h2⟩ k hk
   cases k with
   | zero => simpa using h1
   | succ k => have := h2 k (by simp at hk; omega); simp; omega
  ·intro h
   refine ⟨by have := h 0 (by simp); simpa using this, fun k hk => ?_⟩
   have := h (k + 1) (by simp; omega)
   simp at this; omega
theorem placed_app : ∀ (a b : List Nd) (i : Int), placedF i (a ++ b) = (placedF i a && placedF (i + a.length) b)
 | [], b, i => by simp [placedF]
 | n :: a, b, i => by
  have e : i + ((n :: a).length : Nat) = i + 1 + (a.length : Nat) := by simp; omega
  rw [List.cons_append, placedF, placedF, placed_app a b, e, Bool.and_assoc]
theorem placed_succ {l : List Nd} {k : Nat} (hk : k < l.length) : placedF 0 (l.take (k + 1)) = (placedF 0 (l.take k) && decide (l[k].slot = k)) := by
 rw [List.take_succ_eq_append_getElem hk, placed_app]
 have e : (List.take k l).length = k := by rw [List.length_take]; omega
 rw [e]; simp [placedF]
theorem placed_step {l : List Nd} {k : Nat} (hk : k < l.length) (h : placedF 0 (l.take k) = true) (hs : l[k].slot = k) : placedF 0 (l.take (k + 1)) = true := by rw [placed_succ hk, h, decide_eq_true hs]; rfl
theorem placed_at {l : List Nd} (h : placedF 0 l = true) {k : Nat} (hk : k < l.length) : l[k].slot = k := by have := placed_iff.1 h k hk; omega
theorem placed_not {l : List Nd} {k : Nat} (hk : k < l.length) (h : ¬ l[k].slot = k) : placedF 0 l = false := by
 cases e : placedF 0 l
 ·rfl
 ·exact absurd (placed_at e hk) h
def ldN (l : List Nd) (k : Nat) : List Nd := if k = 0 then [leafN 0] else l.take k
theorem ld_len {l : List Nd} {k : Nat} (hk : k ≤ l.length) (h0 : 0 < k) : (ldN l k).length = k := by unfold ldN; rw [if_neg (by omega), List.length_take]; omega
theorem ld_0 {l : List Nd} (h : 0 < l.length) (hs : l[0].slot = 0) : (putL (ldN l 0) l[0]).2 = ldN l 1 := by
 have e : ldN l 0 = [leafN 0] := rfl
 rw [e, putL_t (by rw [hs]; exact ⟨by omega, by simp⟩), hs]
 unfold ldN
 rw [if_neg (by omega)]
 cases l with
 | nil => simp at h
 | cons n l => rfl
theorem ld_take {l : List Nd} {n k : Nat} (hk : k < l.length) (h0 : 0 < k) (hn : k < n) (hs : l[k].slot = k) : takeL n (ldN l k) l[k] = (((k : Int), 0), ldN l (k + 1)) := by
 have hl := ld_len (l := l) (k := k) (by omega) h0
 rw [takeL_t (by omega), hl]
 refine congrArg (Prod.mk _) ?_
 unfold ldN
 rw [if_neg (by omega), if_neg (by omega), List.take_succ_eq_append_getElem hk]
 congr 2
 rw [← hs]
theorem ld_full {l : List Nd} {n k : Nat} (hk : k ≤ l.length) (h0 : 0 < k) (hn : ¬ k < n) (x : Nd) : takeL n (ldN l k) x = ((0, 4), ldN l k) := takeL_f (by rw [ld_len hk h0]; exact hn)
theorem ld_put {l : List Nd} {k : Nat} (hk : k < l.length) (hs : l[k].slot = k) : (putL (ldN l (k + 1)) l[k]).2 = ldN l (k + 1) := by
 have hl := ld_len (l := l) (k := k + 1) (by omega) (by omega)
 rw [putL_t (by rw [hs, hl]; omega), hs]
 show (ldN l (k + 1)).set ((k : Int)).toNat l[k] = _
 rw [Int.toNat_natCast]
 unfold ldN
 rw [if_neg (by omega)]
 refine List.ext_getElem (by simp) fun i h1 h2 => ?_
 rw [List.getElem_set]
 split
 ·rename_i e; subst e; rw [List.getElem_take]
 ·rfl
theorem ld_all {l : List Nd} (h : 0 < l.length) : ldN l l.length = l := by unfold ldN; rw [if_neg (by omega), List.take_of_length_le (Nat.le_refl _)]
end Go.Fw
