/- Arenas made anew, and what is done with an arena. -/
import Derived.Test.YtmbafmifalppaaaQaU1
set_option maxRecDepth 100000
set_option maxHeartbeats 1600000
set_option linter.unusedVariables false
set_option linter.unusedSimpArgs false
set_option linter.unnecessarySimpa false
namespace Go.Proofs.Ytmbafmifalppaaa
open Go Go.Fw Go.RowKit
theorem snewn_fc {G : GH} (n : Int) :
    Fc Try.prog 81 [.int .i64 n] G [] (fun v G' M' => (¬ (1 ≤ n ∧ n ≤ 4096) ∧ v = .tuple #[.pointer none, .int .i64 2] ∧ M' = []) ∨ ((1 ≤ n ∧ n ≤ 4096) ∧ ∃ b, v = .tuple #[.pointer (some ⟨b, 0, none⟩), .int .i64 0] ∧ ArR eNode 35 4 3 179 b G' (List.replicate n.toNat Nd.zero, List.replicate n.toNat false) M')) := by
 refine Fc.intro (rs := [.tmp 2, .tmp 3]) cl81 Try.func81 rfl Try.ntmps81 rfl rfl (fun w0 => ?_)
 refine WC.seq (WC.region (W.as (W.as (W.nil (thn_n (WC.seq (WC.seq (WC.region (W.mv (W.ok (ok_lss rfl rfl) (W.mv ?_)))))))))))
 refine W.sp 8 rfl (fun h7 => ?_) (fun h7 => ?_)
 ·have p7 := of_decide_eq_true h7
  refine W.no (dj := 8) rfl rfl h7 (W.no (dj := 8) rfl rfl h7 (W.ok (ok_pick_t rfl h7) (W.nil (thn_n (WC.cond_t rfl rfl (WC.seq (WC.region (W.as (W.as (W.nil (thn_n (WC.ret (thn_r ?_)))))))))))))
  refine ⟨.inr rfl, [_, _], ⟨rfl, rfl, trivial⟩, [], sr9, ?_⟩
  exact .inl ⟨by omega, rfl, rfl⟩
 have p7 := of_decide_eq_false h7
 refine W.yes (dj := 8) rfl rfl h7 (W.mv (W.yes (dj := 8) rfl rfl h7 (W.ok (ok_gtr rfl rfl) (W.ok (ok_pick_f rfl h7) (W.nil (thn_n ?_))))))
 refine WC.cond (b := _) rfl (fun h10 => ?_) (fun h10 => ?_)
 ·have p10 := of_decide_eq_true h10
  refine WC.seq (WC.region (W.as (W.as (W.nil (thn_n (WC.ret (thn_r ?_)))))))
  refine ⟨.inr rfl, [_, _], ⟨rfl, rfl, trivial⟩, [], sr9, ?_⟩
  exact .inl ⟨by omega, rfl, rfl⟩
 have p10 := of_decide_eq_false h10
 obtain ⟨m, rfl⟩ : ∃ m : Nat, n = (m : Int) := ⟨n.toNat, by omega⟩
 refine WC.skip (thn_n (WC.seq (WC.drawW _ sr9 mix (by rintro _ _ _ _ ⟨h | h, _⟩ <;> cases h) (WD.tk 0 rfl (ok_mv) (WD.tk 2 rfl (ok_mv) ?_)))))
 refine WD.any [1, 3] (by kernel_rfl) rfl ⟨⟨_, rfl, rfl, ?_⟩, ⟨_, rfl, rfl, ?_⟩, trivial⟩
 ·refine W.mkSl (e := eNode) (a0 := Nd.zero) (n := (m)) sl24 ty35 zr35 rfl by35 (⟨_, _, _, _, _, _, _, _, rfl, SlR.nil, SlR.nil, SlR.nil, SlR.nil, Nd.zero_ok⟩) rfl rfl (by first | (show _ * 152 ≤ 140737488355328; omega) | (show _ * 10 ≤ 16777216; omega) | (show _ * 1 ≤ 140737488355328; omega) | (show _ * 1 ≤ 16777216; omega)) (by first | (show _ * 152 ≤ 140737488355328; omega) | (show _ * 10 ≤ 16777216; omega) | (show _ * 1 ≤ 140737488355328; omega) | (show _ * 1 ≤ 16777216; omega)) (fun v1 Ms2 ho3 => ?_)
  have q7 := ho3.form
  refine match q7 with | ⟨sa4, sc5, e_6⟩ => ?_
  subst e_6
  refine W.nil (WD.n9 Le.rfl sn9 (WD.a1 3 rfl (W.mkSl (e := eBool) (a0 := false) (n := (m)) sl176 ty4 zr4 rfl by4 (rfl) rfl rfl (by first | (show _ * 152 ≤ 140737488355328; omega) | (show _ * 10 ≤ 16777216; omega) | (show _ * 1 ≤ 140737488355328; omega) | (show _ * 1 ≤ 16777216; omega)) (by first | (show _ * 152 ≤ 140737488355328; omega) | (show _ * 10 ≤ 16777216; omega) | (show _ * 1 ≤ 140737488355328; omega) | (show _ * 1 ≤ 16777216; omega)) (fun v8 Ms9 ho10 => ?_))))
  have q14 := ho10.form
  refine match q14 with | ⟨sa11, sc12, e_13⟩ => ?_
  subst e_13
  refine W.nil (WD.n9 Le.rfl sn9 (WD.tk 4 rfl (ok_build (L := [.slice _ _ _, .slice _ _ _, .slice _ _ _]) pl179 zr179 rfl rfl rfl) (WD.a1 5 rfl (W.box (L := [.slice _ _ _, .slice _ _ _, .slice _ _ _]) rfl rfl (fun b15 => (W.nil (WD.n9 Le.rfl (sn9.cons _) (WD.tk 6 rfl (ok_as) (WD.done (by kernel_rfl) (thn_n (WC.seq (WC.seq ?_))))))))))))
  have hR16 : ArP eNode 35 4 3 179 b15 G (List.replicate m Nd.zero, List.replicate m false, iotaN 0) ((b15, .cells (List.toArray [.slice sa4 ((List.replicate ((m)) Nd.zero)).length sc5, .slice sa11 ((List.replicate ((m)) false)).length sc12, .slice none 0 0]) 179 (0, 0)) :: (Ms2 ++ (Ms9 ++ []))) := ⟨_, _, _, _, _, _, rfl, ho3, ho10, OwnR.nil⟩
  refine WC.perm (M' := (((b15, .cells (List.toArray [.slice sa4 ((List.replicate ((m)) Nd.zero)).length sc5, .slice sa11 ((List.replicate ((m)) false)).length sc12, .slice none 0 0]) 179 (0, 0)) :: (Ms2 ++ (Ms9 ++ []))) ++ [])) (pr9.symm.trans ((((pmF ((pmF pr9).trans pr9)).trans (pmA pr9)).cons _).trans pr9)) (WC.region (W.mv (W.mv (W.nil (thn_n (WC.block ?_))))))
  refine WC.loop (X := (Nat) × MH) (fun k => [(19, .int .i64 ((k.1 : Nat) : Int)), (18, .int .i64 ((m : Nat) : Int)), (4, .pointer (some ⟨b15, 0, none⟩))]) (fun k G Ml => Ml = (k.2 ++ []) ∧ ArP eNode 35 4 3 179 b15 G ((List.replicate m Nd.zero, List.replicate m false, iotaN k.1)) k.2 ∧ k.1 ≤ m) (fun k => m - k.1) (0, ((b15, .cells (List.toArray [.slice sa4 ((List.replicate ((m)) Nd.zero)).length sc5, .slice sa11 ((List.replicate ((m)) false)).length sc12, .slice none 0 0]) 179 (0, 0)) :: (Ms2 ++ (Ms9 ++ [])))) ⟨eqv, eqv, eqv, trivial⟩ ?_ ?_
  ·exact ⟨rfl, (by exact hR16), by omega⟩
  rintro ⟨k, M_4⟩ gG17 G17 _ hG17 ⟨rfl, ho_4, hk⟩
  try dsimp only at ho_4 hk
  refine WC.fr (f := setL gG17 [(19, .int .i64 ((k : Nat) : Int)), (18, .int .i64 ((m : Nat) : Int)), (4, .pointer (some ⟨b15, 0, none⟩))]) rfl (WC.seq (WC.region (W.ok (ok_lss rfl rfl) (W.nil (thn_n (WC.seq ?_))))))
  refine WC.cond (b := _) rfl (fun h20 => ?_) (fun h20 => ?_)
  ·have p20 := of_decide_eq_true h20
   refine WC.skip (thn_n (WC.seq (WC.block (WC.seq (WC.region (W.mv (W.as (W.nil (thn_n ?_)))))))))
   refine match ho_4 with | ⟨vc_u18, vu_u18, vf_u18, Mc_u18, Mu_u18, Mf_u18, eM_, hc_u18, hu_u18, hf_u18⟩ => ?_
   subst eM_
   refine WC.perm (M' := ((b15, .cells (List.toArray [vc_u18, vu_u18, vf_u18]) 179 (0, 0)) :: (Mc_u18 ++ (Mu_u18 ++ (Mf_u18 ++ []))))) ((pmF (pmF pr9)).cons _).symm ?_
   dsimp only at hc_u18 hu_u18 hf_u18
   refine match hc_u18.form with | ⟨sac_u18, scc_u18, eV_⟩ => ?_
   subst eV_
   refine match hu_u18.form with | ⟨sau_u18, scu_u18, eV_⟩ => ?_
   subst eV_
   refine match hf_u18.form with | ⟨saf_u18, scf_u18, eV_⟩ => ?_
   subst eV_
   refine WC.region (W.mv (W.mv (W.ok (ok_nilP rfl) (W.ok (ok_fieldB fd179_2 rfl) (W.ok (ok_loadB (i := 0) (vs := [.slice _ _ _]) ty177 rfl rfl rfl rfl (by simp)) (W.mv (W.lit (e := eInt) (l := [((k : Nat) : Int)]) (css := [[.int .i64 _]]) sl177 ty3 zr3 rfl rfl rfl rfl rfl rfl ⟨⟨rfl, by omega, by omega⟩, trivial⟩ (fun bl19 G19 hG19 hv19 => (W.app (e := eInt) sl177 ty3 zr3 rfl by3 rfl rfl ((hf_u18.mono hG19)) (hv19) (pmC (pmA (pmA pr9))) (by show (_ + 1) * 8 ≤ _; rw [iota_len]; omega) (fun v20 Ms21 ho22 => (W.perm (pmC pr9).symm ?_)))))))))))
   have q26 := ho22.form
   refine match q26 with | ⟨sa23, sc24, e_25⟩ => ?_
   subst e_25
   refine W.ok (ok_nilP rfl) (W.ok (ok_fieldB fd179_2 rfl) (W.store (i := 0) (vs := [.slice _ _ _]) (L' := [.slice _ _ _, .slice _ _ _, .slice _ _ _]) ty177 rfl rfl rfl rfl rfl rfl rfl rfl (W.nil (blk_n (thn_n ?_)))))
   have hR27 : ArP eNode 35 4 3 179 b15 G19 (List.replicate m Nd.zero, List.replicate m false, iotaN (k + 1)) ((b15, .cells (List.toArray [.slice sac_u18 (List.replicate m Nd.zero).length scc_u18, .slice sau_u18 (List.replicate m false).length scu_u18, .slice sa23 ((iotaN k ++ [((k : Nat) : Int)])).length sc24]) 179 (0, 0)) :: (Mc_u18 ++ (Mu_u18 ++ Ms21))) := ⟨_, _, _, _, _, _, rfl, (hc_u18.mono hG19), (hu_u18.mono hG19), (by rw [iota_succ]; exact ho22)⟩
   refine WC.perm (M' := (((b15, .cells (List.toArray [.slice sac_u18 (List.replicate m Nd.zero).length scc_u18, .slice sau_u18 (List.replicate m false).length scu_u18, .slice sa23 ((iotaN k ++ [((k : Nat) : Int)])).length sc24]) 179 (0, 0)) :: (Mc_u18 ++ (Mu_u18 ++ Ms21))) ++ [])) (pr9.symm.trans ((((pmF ((pmF pr9).trans (pmA pr9))).trans (pmA pr9)).cons _).trans pr9)) (WC.region (W.ok (ok_add rfl rfl (by omega)) (W.mv (W.nil (thn_n ?_)))))
   exact ⟨hG19, (k + 1, ((b15, .cells (List.toArray [.slice sac_u18 (List.replicate m Nd.zero).length scc_u18, .slice sau_u18 (List.replicate m false).length scu_u18, .slice sa23 ((iotaN k ++ [((k : Nat) : Int)])).length sc24]) 179 (0, 0)) :: (Mc_u18 ++ (Mu_u18 ++ Ms21)))), ⟨eqv, eqv, eqv, trivial⟩, ⟨rfl, (by exact hR27), by omega⟩, by omega⟩
  have p20 := of_decide_eq_false h20
  refine WC.exit (thn_x (thn_x (blk_h (thn_n (WC.seq ?_)))))
  obtain rfl : k = m := by omega
  refine match ho_4 with | ⟨vc_u28, vu_u28, vf_u28, Mc_u28, Mu_u28, Mf_u28, eM_, hc_u28, hu_u28, hf_u28⟩ => ?_
  subst eM_
  refine WC.perm (M' := ((b15, .cells (List.toArray [vc_u28, vu_u28, vf_u28]) 179 (0, 0)) :: (Mc_u28 ++ (Mu_u28 ++ (Mf_u28 ++ []))))) ((pmF (pmF pr9)).cons _).symm ?_
  dsimp only at hc_u28 hu_u28 hf_u28
  refine match hc_u28.form with | ⟨sac_u28, scc_u28, eV_⟩ => ?_
  subst eV_
  refine match hu_u28.form with | ⟨sau_u28, scu_u28, eV_⟩ => ?_
  subst eV_
  refine match hf_u28.form with | ⟨saf_u28, scf_u28, eV_⟩ => ?_
  subst eV_
  refine WC.region (W.mv (W.ok (ok_nilP rfl) (W.ok (ok_fieldB fd179_2 rfl) (W.ok (ok_mkI pi181 rfl) (W.call (Mp := ((b15, .cells (List.toArray [.slice sac_u28 (List.replicate k Nd.zero).length scc_u28, .slice sau_u28 (List.replicate k false).length scu_u28, .slice saf_u28 (iotaN k).length scf_u28]) 179 (0, 0)) :: Mf_u28)) (Mr := (Mc_u28 ++ (Mu_u28 ++ []))) (hinit_fc (least_heap (b := b15) (Tb := 179) (c0 := .slice sac_u28 (List.replicate k Nd.zero).length scc_u28) (c1 := .slice sau_u28 (List.replicate k false).length scu_u28)) ⟨_, _, rfl, hf_u28⟩ (iota_heap k) (by rw [iota_len]; omega)) rfl (((pmA (pmA pr9)).cons _).trans pr9) ?_)))))
  intro v32 G29 Ms31 hG29 q30
  refine match q30 with | ⟨e_34, ⟨vf_z33, Mf_z33, e_35, hf_z33⟩⟩ => ?_
  subst e_34
  subst e_35
  have q37 := hf_z33.form
  refine match q37 with | ⟨sa_z33, sc_z33, e_36⟩ => ?_
  subst e_36
  refine W.perm (M' := ((b15, .cells (List.toArray [.slice sac_u28 (List.replicate k Nd.zero).length scc_u28, .slice sau_u28 (List.replicate k false).length scu_u28, .slice sa_z33 (iotaN k).length sc_z33]) 179 (0, 0)) :: (Mf_z33 ++ (Mc_u28 ++ (Mu_u28 ++ []))))) ((pr9.cons _).trans pr9).symm (W.nil (thn_n (WC.seq (WC.region (W.mv (W.as (W.as (W.nil (thn_n (WC.perm (M' := ((b15, .cells (List.toArray [.slice sac_u28 (List.replicate k Nd.zero).length scc_u28, .slice sau_u28 (List.replicate k false).length scu_u28, .slice sa_z33 (iotaN k).length sc_z33]) 179 (0, 0)) :: (Mc_u28 ++ (Mu_u28 ++ (Mf_z33 ++ []))))) (((List.Perm.append_left _ ((List.Perm.append_left _ ((List.Perm.append_left _ pr9).trans pr9)).trans (pmA pr9))).trans (pmA pr9)).cons _) (WC.ret ?_)))))))))))
  refine ⟨.inr rfl, [_, _], ⟨rfl, rfl, trivial⟩, ((b15, .cells (List.toArray [.slice sac_u28 (List.replicate k Nd.zero).length scc_u28, .slice sau_u28 (List.replicate k false).length scu_u28, .slice sa_z33 (iotaN k).length sc_z33]) 179 (0, 0)) :: (Mc_u28 ++ (Mu_u28 ++ (Mf_z33 ++ [])))), sr9.k9, ?_⟩
  exact .inr ⟨by omega, _, rfl, ArR.cast (st := (List.replicate k Nd.zero, List.replicate k false)) ⟨_, ⟨_, _, _, _, _, _, rfl, (hc_u28.mono hG29), (hu_u28.mono hG29), hf_z33⟩, by simp, by simp; omega, iota_heap k, List.Perm.of_eq (iota_free k)⟩ (by simp) (by simp)⟩
 refine W.mkSl (e := eBool) (a0 := false) (n := (m)) sl176 ty4 zr4 rfl by4 (rfl) rfl rfl (by first | (show _ * 152 ≤ 140737488355328; omega) | (show _ * 10 ≤ 16777216; omega) | (show _ * 1 ≤ 140737488355328; omega) | (show _ * 1 ≤ 16777216; omega)) (by first | (show _ * 152 ≤ 140737488355328; omega) | (show _ * 10 ≤ 16777216; omega) | (show _ * 1 ≤ 140737488355328; omega) | (show _ * 1 ≤ 16777216; omega)) (fun v38 Ms39 ho40 => ?_)
 have q44 := ho40.form
 refine match q44 with | ⟨sa41, sc42, e_43⟩ => ?_
 subst e_43
 refine W.nil (WD.n9 Le.rfl sn9 (WD.a1 1 rfl (W.mkSl (e := eNode) (a0 := Nd.zero) (n := (m)) sl24 ty35 zr35 rfl by35 (⟨_, _, _, _, _, _, _, _, rfl, SlR.nil, SlR.nil, SlR.nil, SlR.nil, Nd.zero_ok⟩) rfl rfl (by first | (show _ * 152 ≤ 140737488355328; omega) | (show _ * 10 ≤ 16777216; omega) | (show _ * 1 ≤ 140737488355328; omega) | (show _ * 1 ≤ 16777216; omega)) (by first | (show _ * 152 ≤ 140737488355328; omega) | (show _ * 10 ≤ 16777216; omega) | (show _ * 1 ≤ 140737488355328; omega) | (show _ * 1 ≤ 16777216; omega)) (fun v45 Ms46 ho47 => ?_))))
 have q51 := ho47.form
 refine match q51 with | ⟨sa48, sc49, e_50⟩ => ?_
 subst e_50
 refine W.nil (WD.n9 Le.rfl sn9 (WD.tk 4 rfl (ok_build (L := [.slice _ _ _, .slice _ _ _, .slice _ _ _]) pl179 zr179 rfl rfl rfl) (WD.a1 5 rfl (W.box (L := [.slice _ _ _, .slice _ _ _, .slice _ _ _]) rfl rfl (fun b52 => (W.nil (WD.n9 Le.rfl (sn9.cons _) (WD.tk 6 rfl (ok_as) (WD.done (by kernel_rfl) (thn_n (WC.seq (WC.seq ?_))))))))))))
 have hR53 : ArP eNode 35 4 3 179 b52 G (List.replicate m Nd.zero, List.replicate m false, iotaN 0) ((b52, .cells (List.toArray [.slice sa48 ((List.replicate ((m)) Nd.zero)).length sc49, .slice sa41 ((List.replicate ((m)) false)).length sc42, .slice none 0 0]) 179 (0, 0)) :: (Ms46 ++ (Ms39 ++ []))) := ⟨_, _, _, _, _, _, rfl, ho47, ho40, OwnR.nil⟩
 refine WC.perm (M' := (((b52, .cells (List.toArray [.slice sa48 ((List.replicate ((m)) Nd.zero)).length sc49, .slice sa41 ((List.replicate ((m)) false)).length sc42, .slice none 0 0]) 179 (0, 0)) :: (Ms46 ++ (Ms39 ++ []))) ++ [])) (pr9.symm.trans ((((pmF ((pmF pr9).trans pr9)).trans pr9).cons _).trans pr9)) (WC.region (W.mv (W.mv (W.nil (thn_n (WC.block ?_))))))
 refine WC.loop (X := (Nat) × MH) (fun k => [(19, .int .i64 ((k.1 : Nat) : Int)), (18, .int .i64 ((m : Nat) : Int)), (4, .pointer (some ⟨b52, 0, none⟩))]) (fun k G Ml => Ml = (k.2 ++ []) ∧ ArP eNode 35 4 3 179 b52 G ((List.replicate m Nd.zero, List.replicate m false, iotaN k.1)) k.2 ∧ k.1 ≤ m) (fun k => m - k.1) (0, ((b52, .cells (List.toArray [.slice sa48 ((List.replicate ((m)) Nd.zero)).length sc49, .slice sa41 ((List.replicate ((m)) false)).length sc42, .slice none 0 0]) 179 (0, 0)) :: (Ms46 ++ (Ms39 ++ [])))) ⟨eqv, eqv, eqv, trivial⟩ ?_ ?_
 ·exact ⟨rfl, (by exact hR53), by omega⟩
 rintro ⟨k, M_4⟩ gG54 G54 _ hG54 ⟨rfl, ho_4, hk⟩
 try dsimp only at ho_4 hk
 refine WC.fr (f := setL gG54 [(19, .int .i64 ((k : Nat) : Int)), (18, .int .i64 ((m : Nat) : Int)), (4, .pointer (some ⟨b52, 0, none⟩))]) rfl (WC.seq (WC.region (W.ok (ok_lss rfl rfl) (W.nil (thn_n (WC.seq ?_))))))
 refine WC.cond (b := _) rfl (fun h20 => ?_) (fun h20 => ?_)
 ·have p20 := of_decide_eq_true h20
  refine WC.skip (thn_n (WC.seq (WC.block (WC.seq (WC.region (W.mv (W.as (W.nil (thn_n ?_)))))))))
  refine match ho_4 with | ⟨vc_u55, vu_u55, vf_u55, Mc_u55, Mu_u55, Mf_u55, eM_, hc_u55, hu_u55, hf_u55⟩ => ?_
  subst eM_
  refine WC.perm (M' := ((b52, .cells (List.toArray [vc_u55, vu_u55, vf_u55]) 179 (0, 0)) :: (Mc_u55 ++ (Mu_u55 ++ (Mf_u55 ++ []))))) ((pmF (pmF pr9)).cons _).symm ?_
  dsimp only at hc_u55 hu_u55 hf_u55
  refine match hc_u55.form with | ⟨sac_u55, scc_u55, eV_⟩ => ?_
  subst eV_
  refine match hu_u55.form with | ⟨sau_u55, scu_u55, eV_⟩ => ?_
  subst eV_
  refine match hf_u55.form with | ⟨saf_u55, scf_u55, eV_⟩ => ?_
  subst eV_
  refine WC.region (W.mv (W.mv (W.ok (ok_nilP rfl) (W.ok (ok_fieldB fd179_2 rfl) (W.ok (ok_loadB (i := 0) (vs := [.slice _ _ _]) ty177 rfl rfl rfl rfl (by simp)) (W.mv (W.lit (e := eInt) (l := [((k : Nat) : Int)]) (css := [[.int .i64 _]]) sl177 ty3 zr3 rfl rfl rfl rfl rfl rfl ⟨⟨rfl, by omega, by omega⟩, trivial⟩ (fun bl56 G56 hG56 hv56 => (W.app (e := eInt) sl177 ty3 zr3 rfl by3 rfl rfl ((hf_u55.mono hG56)) (hv56) (pmC (pmA (pmA pr9))) (by show (_ + 1) * 8 ≤ _; rw [iota_len]; omega) (fun v57 Ms58 ho59 => (W.perm (pmC pr9).symm ?_)))))))))))
  have q63 := ho59.form
  refine match q63 with | ⟨sa60, sc61, e_62⟩ => ?_
  subst e_62
  refine W.ok (ok_nilP rfl) (W.ok (ok_fieldB fd179_2 rfl) (W.store (i := 0) (vs := [.slice _ _ _]) (L' := [.slice _ _ _, .slice _ _ _, .slice _ _ _]) ty177 rfl rfl rfl rfl rfl rfl rfl rfl (W.nil (blk_n (thn_n ?_)))))
  have hR64 : ArP eNode 35 4 3 179 b52 G56 (List.replicate m Nd.zero, List.replicate m false, iotaN (k + 1)) ((b52, .cells (List.toArray [.slice sac_u55 (List.replicate m Nd.zero).length scc_u55, .slice sau_u55 (List.replicate m false).length scu_u55, .slice sa60 ((iotaN k ++ [((k : Nat) : Int)])).length sc61]) 179 (0, 0)) :: (Mc_u55 ++ (Mu_u55 ++ Ms58))) := ⟨_, _, _, _, _, _, rfl, (hc_u55.mono hG56), (hu_u55.mono hG56), (by rw [iota_succ]; exact ho59)⟩
  refine WC.perm (M' := (((b52, .cells (List.toArray [.slice sac_u55 (List.replicate m Nd.zero).length scc_u55, .slice sau_u55 (List.replicate m false).length scu_u55, .slice sa60 ((iotaN k ++ [((k : Nat) : Int)])).length sc61]) 179 (0, 0)) :: (Mc_u55 ++ (Mu_u55 ++ Ms58))) ++ [])) (pr9.symm.trans ((((pmF ((pmF pr9).trans (pmA pr9))).trans (pmA pr9)).cons _).trans pr9)) (WC.region (W.ok (ok_add rfl rfl (by omega)) (W.mv (W.nil (thn_n ?_)))))
  exact ⟨hG56, (k + 1, ((b52, .cells (List.toArray [.slice sac_u55 (List.replicate m Nd.zero).length scc_u55, .slice sau_u55 (List.replicate m false).length scu_u55, .slice sa60 ((iotaN k ++ [((k : Nat) : Int)])).length sc61]) 179 (0, 0)) :: (Mc_u55 ++ (Mu_u55 ++ Ms58)))), ⟨eqv, eqv, eqv, trivial⟩, ⟨rfl, (by exact hR64), by omega⟩, by omega⟩
 have p20 := of_decide_eq_false h20
 refine WC.exit (thn_x (thn_x (blk_h (thn_n (WC.seq ?_)))))
 obtain rfl : k = m := by omega
 refine match ho_4 with | ⟨vc_u65, vu_u65, vf_u65, Mc_u65, Mu_u65, Mf_u65, eM_, hc_u65, hu_u65, hf_u65⟩ => ?_
 subst eM_
 refine WC.perm (M' := ((b52, .cells (List.toArray [vc_u65, vu_u65, vf_u65]) 179 (0, 0)) :: (Mc_u65 ++ (Mu_u65 ++ (Mf_u65 ++ []))))) ((pmF (pmF pr9)).cons _).symm ?_
 dsimp only at hc_u65 hu_u65 hf_u65
 refine match hc_u65.form with | ⟨sac_u65, scc_u65, eV_⟩ => ?_
 subst eV_
 refine match hu_u65.form with | ⟨sau_u65, scu_u65, eV_⟩ => ?_
 subst eV_
 refine match hf_u65.form with | ⟨saf_u65, scf_u65, eV_⟩ => ?_
 subst eV_
 refine WC.region (W.mv (W.ok (ok_nilP rfl) (W.ok (ok_fieldB fd179_2 rfl) (W.ok (ok_mkI pi181 rfl) (W.call (Mp := ((b52, .cells (List.toArray [.slice sac_u65 (List.replicate k Nd.zero).length scc_u65, .slice sau_u65 (List.replicate k false).length scu_u65, .slice saf_u65 (iotaN k).length scf_u65]) 179 (0, 0)) :: Mf_u65)) (Mr := (Mc_u65 ++ (Mu_u65 ++ []))) (hinit_fc (least_heap (b := b52) (Tb := 179) (c0 := .slice sac_u65 (List.replicate k Nd.zero).length scc_u65) (c1 := .slice sau_u65 (List.replicate k false).length scu_u65)) ⟨_, _, rfl, hf_u65⟩ (iota_heap k) (by rw [iota_len]; omega)) rfl (((pmA (pmA pr9)).cons _).trans pr9) ?_)))))
 intro v69 G66 Ms68 hG66 q67
 refine match q67 with | ⟨e_71, ⟨vf_z70, Mf_z70, e_72, hf_z70⟩⟩ => ?_
 subst e_71
 subst e_72
 have q74 := hf_z70.form
 refine match q74 with | ⟨sa_z70, sc_z70, e_73⟩ => ?_
 subst e_73
 refine W.perm (M' := ((b52, .cells (List.toArray [.slice sac_u65 (List.replicate k Nd.zero).length scc_u65, .slice sau_u65 (List.replicate k false).length scu_u65, .slice sa_z70 (iotaN k).length sc_z70]) 179 (0, 0)) :: (Mf_z70 ++ (Mc_u65 ++ (Mu_u65 ++ []))))) ((pr9.cons _).trans pr9).symm (W.nil (thn_n (WC.seq (WC.region (W.mv (W.as (W.as (W.nil (thn_n (WC.perm (M' := ((b52, .cells (List.toArray [.slice sac_u65 (List.replicate k Nd.zero).length scc_u65, .slice sau_u65 (List.replicate k false).length scu_u65, .slice sa_z70 (iotaN k).length sc_z70]) 179 (0, 0)) :: (Mc_u65 ++ (Mu_u65 ++ (Mf_z70 ++ []))))) (((List.Perm.append_left _ ((List.Perm.append_left _ ((List.Perm.append_left _ pr9).trans pr9)).trans (pmA pr9))).trans (pmA pr9)).cons _) (WC.ret ?_)))))))))))
 refine ⟨.inr rfl, [_, _], ⟨rfl, rfl, trivial⟩, ((b52, .cells (List.toArray [.slice sac_u65 (List.replicate k Nd.zero).length scc_u65, .slice sau_u65 (List.replicate k false).length scu_u65, .slice sa_z70 (iotaN k).length sc_z70]) 179 (0, 0)) :: (Mc_u65 ++ (Mu_u65 ++ (Mf_z70 ++ [])))), sr9.k9, ?_⟩
 exact .inr ⟨by omega, _, rfl, ArR.cast (st := (List.replicate k Nd.zero, List.replicate k false)) ⟨_, ⟨_, _, _, _, _, _, rfl, (hc_u65.mono hG66), (hu_u65.mono hG66), hf_z70⟩, by simp, by simp; omega, iota_heap k, List.Perm.of_eq (iota_free k)⟩ (by simp) (by simp)⟩

theorem osetn {G : GH} {b : Nat} {st : List Nd × List Bool} {M : MH} (h : ArR eNode 35 4 3 179 b G st M) (i : Int) {cs : List Value} {x : Nd} (hx : NodeC G cs x) : Fc Try.prog 84 [.pointer (some ⟨b, 0, none⟩), .int .i64 i, .agg (List.toArray cs)] G M (fun v G' M' => v = .int .i64 (layA st i x).1 ∧ ArR eNode 35 4 3 179 b G' (layA st i x).2 M') := by
  have h0 := h
  obtain ⟨f, ⟨vc, vu, vf, Mc, Mu, Mf, rfl, h1, h2, h3⟩, h4, h5, h6, h7⟩ := h
  exact ssetn_fc h1 h2 h3 i hx h4 h5 h6 h7
theorem oallocn {G : GH} {b : Nat} {st : List Nd × List Bool} {M : MH} (h : ArR eNode 35 4 3 179 b G st M) {cs : List Value} {x : Nd} (hx : NodeC G cs x) : Fc Try.prog 86 [.pointer (some ⟨b, 0, none⟩), .agg (List.toArray cs)] G M (fun v G' M' => v = .tuple #[.int .i64 (nextA st x).1.1, .int .i64 (nextA st x).1.2] ∧ ArR eNode 35 4 3 179 b G' (nextA st x).2 M') := by
  have h0 := h
  obtain ⟨f, ⟨vc, vu, vf, Mc, Mu, Mf, rfl, h1, h2, h3⟩, h4, h5, h6, h7⟩ := h
  exact sallocn_fc h1 h2 h3 hx h4 h5 h6 h7
theorem ogetn {G : GH} {b : Nat} {st : List Nd × List Bool} {M : MH} (h : ArR eNode 35 4 3 179 b G st M) (i : Int) : Fc Try.prog 87 [.pointer (some ⟨b, 0, none⟩), .int .i64 i] G M (fun v G' M' => (∃ cs, v = .tuple #[.agg (List.toArray cs), .bool (hasN st.2 i)] ∧ NodeC G' cs (getA st i Nd.zero)) ∧ M' = M) := by
  have h0 := h
  obtain ⟨f, ⟨vc, vu, vf, Mc, Mu, Mf, rfl, h1, h2, h3⟩, h4, h5, h6, h7⟩ := h
  exact (sgetn_fc h1 h2 h3 i h4).mono fun v G' M' hl ⟨cs, e1, e2, e3⟩ => ⟨⟨cs, e1, e2⟩, e3⟩
theorem ousedn {G : GH} {b : Nat} {st : List Nd × List Bool} {M : MH} (h : ArR eNode 35 4 3 179 b G st M)  : Fc Try.prog 91 [.pointer (some ⟨b, 0, none⟩)] G M (fun v G' M' => v = .int .i64 ((usedN st.2).length : Int) ∧ M' = M) := by
  have h0 := h
  obtain ⟨f, ⟨vc, vu, vf, Mc, Mu, Mf, rfl, h1, h2, h3⟩, h4, h5, h6, h7⟩ := h
  exact (susedn_fc h1 h2 h3 h4 h5 h6 h7).mono fun v G' M' hl hq => hq
theorem oroomn {G : GH} {b : Nat} {st : List Nd × List Bool} {M : MH} (h : ArR eNode 35 4 3 179 b G st M)  : Fc Try.prog 92 [.pointer (some ⟨b, 0, none⟩)] G M (fun v G' M' => v = .int .i64 ((freeN st.2).length : Int) ∧ M' = M) := by
  have h0 := h
  obtain ⟨f, ⟨vc, vu, vf, Mc, Mu, Mf, rfl, h1, h2, h3⟩, h4, h5, h6, h7⟩ := h
  exact (sroomn_fc h1 h2 h3 h4 h5 h6 h7).mono fun v G' M' hl hq => hq
theorem olistn {G : GH} {b : Nat} {st : List Nd × List Bool} {M : MH} (h : ArR eNode 35 4 3 179 b G st M)  : Fc Try.prog 90 [.pointer (some ⟨b, 0, none⟩)] G M (fun v G' M' => SlR eInt G' v (usedN st.2) ∧ M' = M) := by
  have h0 := h
  obtain ⟨f, ⟨vc, vu, vf, Mc, Mu, Mf, rfl, h1, h2, h3⟩, h4, h5, h6, h7⟩ := h
  exact (slistn_fc h1 h2 h3 h4 h5 h6 h7).mono fun v G' M' hl hq => hq
end Go.Proofs.Ytmbafmifalppaaa
