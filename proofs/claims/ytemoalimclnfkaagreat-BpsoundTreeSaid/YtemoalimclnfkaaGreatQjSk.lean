/- The walk of an effect on a key. -/
import Derived.Test.YtemoalimclnfkaaGreatQjSj
import Derived.Test.YtemoalimclnfkaaGreatQjRs
set_option maxRecDepth 100000
set_option maxHeartbeats 1600000
set_option linter.unusedVariables false
set_option linter.unusedSimpArgs false
set_option linter.unnecessarySimpa false
namespace Go.Proofs.YtemoalimclnfkaaGreat
open Go Go.Fw Go.RowKit
attribute [local irreducible] Ok W WC
theorem bput_fc {G : GH} {b_t : Nat} {ba : Nat} {st : List (Option Nat) × List Bool} {Ma : MH} (h_a : ArR ePt 64 4 3 114 ba G st Ma) {root : Int} {fan : Int} {leaf : Int} (k : Str) (ek : Int) (ev : Str) {kk : Nat} {y : BT kk} {Mn : MH} (h_n : NsM 70 9 st.1 (nds kk y) G Mn) (hT : TOk fan leaf (⟨kk, y, st.2⟩ : BTr)) (hroot : root = y.slot) (hk12 : ek = 1 ∨ ek = 2) (hk16 : k.b.size ≤ 16) (hv16 : ev.b.size ≤ 16) (hg9 : Grows ⟨ek, ev⟩) :
    Fc Tryz.prog 39 [pt9 b_t, sV k.b, .agg #[iV ek, sV ev.b]] G ((b_t, ce9 66 [pt9 ba, iV root, iV fan, iV leaf]) :: (Ma ++ (Mn))) (fun v G' M' => v = iV (putT fan leaf k (⟨ek, ev⟩ : Eff) (⟨kk, y, st.2⟩ : BTr)).1 ∧ BpM (fun ba => ArR ePt 64 4 3 114 ba) 66 70 9 b_t fan leaf G' (putT fan leaf k (⟨ek, ev⟩ : Eff) (⟨kk, y, st.2⟩ : BTr)).2 M') := by
 have hok := hT.ok
 have hus := hT.us
 have hnd := hT.nd
 have hcfg := hT.cfg
 have hkk := hT.high
 dsimp only at hok hus hnd hkk
 have hul9 := hT.len
 dsimp only at hul9
 have hru9 : hasN st.2 y.slot = true := by have h9 := hus _ nds_head; rw [ndB_slot] at h9; exact h9
 obtain ⟨hrt0, hrt1, hrt2⟩ := hasN_lt hru9
 have hrm9 := fun h => hT.room (e := ⟨ek, ev⟩) (key := k) hk12 h
 dsimp only at hrm9
 obtain ⟨R9, hR9⟩ : ∃ R, insB fan leaf k ⟨ek, ev⟩ kk y st.2 = R := ⟨_, rfl⟩
 have hsr9 : R9.1.1.slot = root := by rw [← hR9, hroot]; exact ins_slot
 have hso9 := ins_some (key := k) (e := ⟨ek, ev⟩) (u := st.2) allS_norm hok
 have hin9 := fun h => ins_new (key := k) (e := ⟨ek, ev⟩) (u := st.2) hcfg.1 allS_norm hok h
 rw [hR9] at hso9 hin9
 refine Fc.go [.tmp 6] Tryz.func39 Tryz.ntmps39 rfl (fun w0 => (WC.perm (M' := ((b_t, ce9 66 [pt9 ba, iV root, iV fan, iV leaf]) :: (Ma ++ (Mn ++ [])))) (by simp) (g9 2 ?_)))
 refine W.box (L := [iV _, sV _]) rfl rfl (fun b1 => (g9 7 ?_))
 refine W.lendO (R := fun v Mq => ∀ G9, OwnR ePt 64 G9 v ((pathB k kk y).map (ptB st.1)) Mq) (fun G1 hl1 hn1 => (bpath_fc (ArR.lent h_a hl1 (sub_of (((List.sublist_append_left _ _).cons _).cons _) hn1) (in_of (i := 1) hn1 rfl)) k kk y _ _ _ allS_norm hok (NsM.lent hl1 h_n (sub_of ((((List.sublist_append_left _ _).trans (List.sublist_append_right _ _)).cons _).cons _) hn1)) hus hroot om9).mono fun v G2 M2 hl2 h2 G9 => flat_pt.own h2) cl33 rfl (fun v2 G4 Mq3 hG4 hqv2 => (W.perm (M' := ((b1, ce9 90 [iV ek, sV ev.b]) :: ((b_t, ce9 66 [pt9 ba, iV root, iV fan, iV leaf]) :: (Mq3 ++ (Ma ++ (Mn ++ [])))))) (of_mq (show mq ((b1, ce9 90 [iV ek, sV ev.b]) :: ((b_t, ce9 66 [pt9 ba, iV root, iV fan, iV leaf]) :: (Mq3 ++ (Ma ++ (Mn ++ []))))) = mq (((b1, ce9 90 [iV ek, sV ev.b]) :: ((b_t, ce9 66 [pt9 ba, iV root, iV fan, iV leaf]) :: (Ma ++ (Mn ++ [])))) ++ Mq3) by simp only [mq_app, mq_cons, mq_zero]; ac_rfl)) ?_))
 have hpv2 := hqv2 G4
 have q8 := hpv2.form
 refine match q8 with | ⟨sa5, sc6, e_7⟩ => ?_
 subst e_7
 refine g9 5 ?_
 have q9 := NsM.leaf (key := k) allS_norm hok (NsM.mono hG4 h_n)
 refine match q9 with | ⟨b_l, lv_l, vp_l, vk_l, vr_l, hm_l, hr_l, hkl9, hlp9⟩ => ?_
 have q11 := hr_l.form
 refine match q11 with | ⟨sa_l, sc_l, e_10⟩ => ?_
 subst e_10
 have hpl9 : ((pathB k kk y).map (ptB st.1)).length = kk + 1 := by rw [List.length_map, pathB_len]
 have hPl9 := leafB_ok (fan := fan) (leaf := leaf) (key := k) allS_norm (allS_has k) hok
 refine g9 5 ?_
 refine hpv2.a1 (i := kk) om9 (fun he12 => (W.ok (ok_indexAddrO (i := kk) sl80 ty64 hpv2 rfl rfl ⟨by rw [hpl9]; omega, om9⟩) (W.ok (Ok.to (v := Value.pointer ((((pathB k kk y).map (ptB st.1))[kk]'hkl9).map fun b => ⟨b, 0, none⟩)) (ok_loadO (b := false) (j := 1) (vs := [.pointer _]) ty64 he12 (pmC (pmC pr9)) rfl rfl rfl (by simp)) (show Value.pointer ((((pathB k kk y).map (ptB st.1))[kk]'hkl9).map fun b => ⟨b, 0, none⟩) = pt9 b_l by rw [hlp9]; rfl)) (g9 2 ?_))))
 refine W.ok (ok_loadM (vs := lc9) ((((((List.sublist_append_left _ _).trans (List.sublist_append_right _ _)).trans (List.sublist_append_right _ _)).cons _).cons _).subset hm_l) ty31 rfl rfl rfl (by simp)) (g9 6 ?_)
 refine W.qcall (rowfits_fc hr_l k ek ev leaf hPl9.1.srt) rfl (g9 2 ?_)
 refine W.sp 31 rfl (fun h30 => ?_) (fun h30 => ?_)
 ·refine g9 9 ?_
  refine W.lendQ (fun G1 hl1 hn1 => groomp_fc (ArR.lent (ArR.mono hG4 h_a) hl1 (sub_of ((((List.sublist_append_left _ _).trans (List.sublist_append_right _ _)).cons _).cons _) hn1) (in_of (i := 1) hn1 rfl))) cl75 rfl (g9 5 ?_)
  refine W.lendQ (fun G1 hl1 hn1 => bneeds_fc (ArR.lent (ArR.mono hG4 h_a) hl1 (sub_of ((((List.sublist_append_left _ _).trans (List.sublist_append_right _ _)).cons _).cons _) hn1) (in_of (i := 1) hn1 rfl)) (hpv2.lent hl1 (sub_of (((List.sublist_append_left _ _).cons _).cons _) hn1)) (pathB k kk y) rfl (fun n hn => NsM.lent hl1 (NsM.mono hG4 h_n) (sub_of (((((List.sublist_append_left _ _).trans (List.sublist_append_right _ _)).trans (List.sublist_append_right _ _)).cons _).cons _) hn1) n (path_mem allS_norm hok n hn))) cl76 rfl (g9 5 ?_)
  refine WC.cd (fun h40 p40 => ?_) (fun h40 p40 => ?_)
  ·refine g9 5 ?_
   refine WC.sub (M' := ((b_t, ce9 66 [pt9 ba, iV root, iV fan, iV leaf]) :: (Ma ++ (Mn ++ [])))) ((((List.Sublist.append_left (List.Sublist.append_left sr9 _) _).trans (List.sublist_append_right _ _)).k9).cons _) (g9 2 ?_)
   refine ⟨.inr rfl, [_], ⟨rfl, trivial⟩, ((b_t, ce9 66 [pt9 ba, iV root, iV fan, iV leaf]) :: (Ma ++ Mn)), (List.Sublist.append_left (List.sublist_append_left _ _) _).k9, ?_⟩
   have hroom : roomT fan leaf k ⟨ek, ev⟩ ⟨kk, y, st.2⟩ = false := by unfold roomT needT; rw [show fitsN (leafB k kk y) k ⟨ek, ev⟩ leaf = false by simpa using h30]; exact decide_eq_false (by dsimp only; omega)
   have hE := putT_f hroom
   have hE1 := congrArg Prod.fst hE
   have hE2 := congrArg Prod.snd hE
   exact ⟨congrArg (Value.int .i64) hE1.symm, BpM.to hE2 ⟨_, _, _, _, _, pr9, hroot, (ArR.mono hG4 h_a), (NsM.mono hG4 h_n)⟩⟩
  refine g9 4 ?_
  refine WC.dw (sn9.k9.k9) (d9 [0, 1, 2, 3, 4, 5, 6] ?_)
  refine WD.a1 7 rfl ?_
  have hroom : roomT fan leaf k ⟨ek, ev⟩ ⟨kk, y, st.2⟩ = true := by unfold roomT needT; rw [Bool.or_eq_true]; right; exact decide_eq_true (by dsimp only; omega)
  have q16 := hrm9 hroom
  refine match q16 with | ⟨hsp1, hsp2⟩ => ?_
  refine W.call (Mp := ((b_t, ce9 66 [pt9 ba, iV root, iV fan, iV leaf]) :: (Ma ++ Mn))) (Mr := ((b1, ce9 90 [iV ek, sV ev.b]) :: (Mq3 ++ []))) (binsert_all kk (ArR.mono hG4 h_a) root k ek ev (NsM.mono hG4 h_n) _ allS allS_norm (allS_has k) hok hus hroot hcfg hk16 hv16 hg9 hsp1) rfl (((pmC ((pmF (pmA pr9)).trans (pmA pr9))).cons _).trans ((List.Perm.swap _ _ _).trans (pr9.cons _))) ?_
  intro v20 G17 Ms19 hG17 q18
  rw [hR9] at q18
  refine match q18 with | ⟨cells_r15, Ma_r15, Mn_r15, hP_r15, ha_r15, hn_r15, hag_r15, e_21⟩ => ?_
  subst e_21
  refine W.perm (M' := ((b_t, ce9 66 [pt9 ba, iV root, iV fan, iV leaf]) :: (Ma_r15 ++ Mn_r15)) ++ ((b1, ce9 90 [iV ek, sV ev.b]) :: (Mq3 ++ []))) (List.Perm.append_right _ hP_r15.symm) ?_
  have hcl_u : cells_r15.length = R9.2.length := by obtain ⟨_, _, h9, _⟩ := ha_r15; exact h9
  have hul_u : R9.2.length ≤ 4096 := by obtain ⟨_, _, _, h9, _⟩ := ha_r15; exact h9
  have hbk_u := hn_r15.blk
  refine W.perm (M' := ((b1, ce9 90 [iV ek, sV ev.b]) :: ((b_t, ce9 66 [pt9 ba, iV root, iV fan, iV leaf]) :: (Ma_r15 ++ (Mn_r15 ++ (Mq3 ++ [])))))) (((pmC ((pmF pr9).trans pr9)).cons _).trans ((List.Perm.swap _ _ _).trans (pr9.cons _))).symm (W.nn (d9 [8, 9, 10, 11, 12] ?_))
  refine g9 8 ?_
  refine WC.cn (fun h54 p54 => ?_) (fun h54 p54 => ?_)
  ·have hex9 : ∃ w, R9.1.2 = some w := by
     cases h9 : R9.1.2 with
     | none => rw [h9] at p54; exact absurd rfl p54
     | some w => exact ⟨w, rfl⟩
   refine match hex9 with | ⟨w9, hw9⟩ => ?_
   have hU9 : btU R9.1.2 = w9.1 := by rw [hw9]; rfl
   have hS9 : btS R9.1.2 = w9.2.slot := by rw [hw9]; rfl
   have q22 := hbk_u (ndB kk w9.2) (by rw [btN_s hw9]; exact List.mem_append_right _ nds_head)
   refine match q22 with | ⟨b8, hb8⟩ => ?_
   rw [ndB_slot] at hb8
   have q23 := hb8.lt
   refine match q23 with | ⟨hb7, hb6⟩ => ?_
   have hv9 : i64 (btS R9.1.2) := by rw [hS9]; exact ⟨om9, om9⟩
   have hsp9 := hso9.1 (by rw [hw9]; rfl)
   have q24 := hin9 hsp1
   refine match q24 with | ⟨nw9, w1, w2, w3, w4⟩ => ?_
   have hus9 : UsN R9.2 (btN R9.1) := w1.us hus w2
   have hi6 : i64 root := by rw [hroot]; exact ⟨om9, om9⟩
   have hnr9 : ndB kk R9.1.1 ∈ btN R9.1 := by unfold btN; exact List.mem_append_left _ nds_head
   refine WC.seq (WC.dw (sr9.k9.k9) (d9 [0, 1, 2, 3, 4, 10, 12, 13, 14, 15, 16] ?_))
   refine WD.any [5, 11, 17] (by kernel_rfl) rfl ⟨WD.ap ?_, WD.ap ?_, WD.ap ?_, trivial⟩
   ·have q25 := hn_r15.mem _ hnr9
    refine match q25 with | ⟨b_r, vp_r, vk_r, vr_r, Mp_r, hb_r, hm_r, _, _, _, _⟩ => ?_
    rw [ndB_slot, hsr9] at hb_r
    have hu_r := hus9 _ hnr9
    rw [ndB_slot, hsr9] at hu_r
    have hlv_r : (ndB kk R9.1.1).lvl = (kk : Int) := ndB_lvl
    refine W.lendQ (fun G1 hl1 hn1 => bat_fc (ArR.lent ha_r15 hl1 (sub_of (((List.sublist_append_left _ _).cons _).cons _) hn1) (in_of (i := 1) hn1 rfl)) _ b_r hb_r hu_r) cl43 rfl (W.nn (d9 [6, 7] ?_))
    refine WD.tk 8 rfl (ok_loadM (vs := ic9) (((((List.sublist_append_left _ _).trans (List.sublist_append_right _ _)).cons _).cons _).subset hm_r) ty3 rfl rfl rfl (by simp)) (WD.tk 9 rfl (Ok.int (n := ((kk + 1 : Nat) : Int)) (ok_add rfl rfl om9) om9) ?_)
    refine WD.any [11, 17] (by kernel_rfl) rfl ⟨WD.ap ?_, WD.ap ?_, trivial⟩
    ·refine W.litO (e := eStr) (l := [(btU R9.1.2)]) (css := [[sV _]]) sl54 ty9 zr9 rfl rfl rfl rfl rfl rfl ⟨rfl, trivial⟩ (fun v26 Ms27 ho28 => (W.perm (pmC (pmC pr9)).symm ?_))
     have q32 := ho28.form
     refine match q32 with | ⟨sa29, sc30, e_31⟩ => ?_
     subst e_31
     refine W.nil (WD.n9 Le.rfl (((sr9.trans (List.sublist_append_right _ _)).k9).k9) (WD.a1 17 rfl (W.lit (e := eInt) (l := [root, (btS R9.1.2)]) (css := [[iV _], [iV _]]) sl55 ty3 zr3 rfl rfl rfl rfl rfl rfl ⟨⟨rfl, by first | exact hi6 | exact hv9⟩, ⟨rfl, by first | exact hi6 | exact hv9⟩, trivial⟩ (fun bl33 G33 hG33 hv33 => (W.nil (WD.n9 hG33 (((sr9.trans (List.sublist_append_right _ _)).k9).k9) (WD.tk 18 rfl (ok_build (L := [iV _, lV _ _ _, lV _ _ _, lV _ _ _]) pl70 zr70 rfl rfl rfl) (WD.a1 19 rfl (W.box (L := [iV _, lV _ _ _, lV _ _ _, lV _ _ _]) rfl rfl (fun b34 => (W.nil (WD.n9 Le.rfl ((((sr9.trans (List.sublist_append_right _ _)).k9).k9).cons _) (d9 [20] ?_)))))))))))))
     refine g9 9 ?_
     have hlt_al35 := firstN_lt (u := (((cells_r15, R9.2) : List (Option Nat) × List Bool)).2) (by show 0 < (freeN R9.2).length; have h9 := hsp2 hsp9; omega)
     refine W.call (Mp := Ma_r15) (oallocp (ArR.mono hG33 ha_r15) b34) rfl (pmC (pmC (pmC (pmA pr9)))) ?_
     intro v39 G36 Ms38 hG36 q37
     refine match q37 with | ⟨hv_hR40, hR40⟩ => ?_
     refine W.perm (pmC (pmC (pmC pr9))).symm ?_
     rw [nextA_t hlt_al35] at hv_hR40 hR40
     subst hv_hR40
     try dsimp only at hR40
     refine g9 13 ?_
     refine WC.sub (M' := ((b34, ce9 70 [nt9 (kk + 1), lV sa29 ([(btU R9.1.2)]).length sc30, lV (some ⟨bl33, 0, none⟩) 2 2, lV none 0 0]) :: ((b_t, ce9 66 [pt9 ba, nt9 (firstN (((cells_r15, R9.2) : List (Option Nat) × List Bool)).2), iV fan, iV leaf]) :: (Ms38 ++ (Ms27 ++ (Mn_r15 ++ [])))))) ((((List.Sublist.append_left (List.Sublist.append_left (List.Sublist.append_left (sr9.trans (List.sublist_append_right _ _)) _) _) _).k9).cons _).k9) (WC.perm (M' := ((b_t, ce9 66 [pt9 ba, nt9 (firstN (((cells_r15, R9.2) : List (Option Nat) × List Bool)).2), iV fan, iV leaf]) :: ((b34, ce9 70 [nt9 (kk + 1), lV sa29 ([(btU R9.1.2)]).length sc30, lV (some ⟨bl33, 0, none⟩) 2 2, lV none 0 0]) :: (Ms38 ++ (Ms27 ++ (Mn_r15 ++ [])))))) ((((pr9.cons _).trans pr9).cons _).trans ((List.Perm.swap _ _ _).trans (pr9.cons _))) (WC.ret ?_))
     refine ⟨.inr rfl, [_], ⟨rfl, trivial⟩, ((b_t, ce9 66 [pt9 ba, nt9 (firstN (((cells_r15, R9.2) : List (Option Nat) × List Bool)).2), iV fan, iV leaf]) :: ((b34, ce9 70 [nt9 (kk + 1), lV sa29 ([(btU R9.1.2)]).length sc30, lV (some ⟨bl33, 0, none⟩) 2 2, lV none 0 0]) :: (Ms38 ++ (Ms27 ++ Mn_r15)))), ((List.Sublist.append_left (List.Sublist.append_left (List.sublist_append_left _ _) _) _).k9).k9, ?_⟩
     have hE := putT_t hroom
     have hE1 := congrArg Prod.fst hE
     have hE2 := congrArg Prod.snd hE
     dsimp only at hE1 hE2
     rw [hR9] at hE2
     have hag2 : ∀ j : Nat, R9.2[j]? = some true → (cells_r15.set (firstN R9.2) (some b34))[j]? = cells_r15[j]? := fun j hj => agree_set hlt_al35 hj
     have hp8 := OwnR.to (ho28.mono (hG33.trans hG36)) (congrArg (fun s => [s]) hU9)
     have hk8 := SlR.cast (hv33.mono hG36) (show _ = ([R9.1.1, w9.2] : List (BT kk)).map BT.slot by rw [List.map_cons, List.map_cons, List.map_nil, hsr9, hS9])
     have hfl : ([R9.1.1, w9.2] : List (BT kk)).flatMap (nds kk) = btN R9.1 := by rw [btN_s hw9, List.flatMap_cons, List.flatMap_cons, List.flatMap_nil, List.append_nil]
     exact ⟨congrArg (Value.int .i64) hE1.symm, BpM.to (hE2.trans (rootB_s hw9)) ⟨_, _, _, _, _, pmN1, rfl, hR40, NsM.pack1 (blk_set (show firstN R9.2 < cells_r15.length by rw [hcl_u]; exact hlt_al35)) hp8 hk8 SlR.nil ((((NsM.mono lec hn_r15)).agreeU hus9 hag2).to hfl.symm)⟩⟩
    refine W.lit (e := eInt) (l := [root, (btS R9.1.2)]) (css := [[iV _], [iV _]]) sl55 ty3 zr3 rfl rfl rfl rfl rfl rfl ⟨⟨rfl, by first | exact hi6 | exact hv9⟩, ⟨rfl, by first | exact hi6 | exact hv9⟩, trivial⟩ (fun bl41 G41 hG41 hv41 => (W.nn (WD.a1 11 rfl (W.litO (e := eStr) (l := [(btU R9.1.2)]) (css := [[sV _]]) sl54 ty9 zr9 rfl rfl rfl rfl rfl rfl ⟨rfl, trivial⟩ (fun v42 Ms43 ho44 => (W.perm (pmC (pmC pr9)).symm ?_))))))
    have q48 := ho44.form
    refine match q48 with | ⟨sa45, sc46, e_47⟩ => ?_
    subst e_47
    refine W.nil (WD.n9 Le.rfl (((sr9.trans (List.sublist_append_right _ _)).k9).k9) (WD.tk 18 rfl (ok_build (L := [iV _, lV _ _ _, lV _ _ _, lV _ _ _]) pl70 zr70 rfl rfl rfl) (WD.a1 19 rfl (W.box (L := [iV _, lV _ _ _, lV _ _ _, lV _ _ _]) rfl rfl (fun b49 => (W.nil (WD.n9 Le.rfl ((((sr9.trans (List.sublist_append_right _ _)).k9).k9).cons _) (d9 [20] ?_))))))))
    refine g9 9 ?_
    have hlt_al50 := firstN_lt (u := (((cells_r15, R9.2) : List (Option Nat) × List Bool)).2) (by show 0 < (freeN R9.2).length; have h9 := hsp2 hsp9; omega)
    refine W.call (Mp := Ma_r15) (oallocp (ArR.mono hG41 ha_r15) b49) rfl (pmC (pmC (pmC (pmA pr9)))) ?_
    intro v54 G51 Ms53 hG51 q52
    refine match q52 with | ⟨hv_hR55, hR55⟩ => ?_
    refine W.perm (pmC (pmC (pmC pr9))).symm ?_
    rw [nextA_t hlt_al50] at hv_hR55 hR55
    subst hv_hR55
    try dsimp only at hR55
    refine g9 13 ?_
    refine WC.sub (M' := ((b49, ce9 70 [nt9 (kk + 1), lV sa45 ([(btU R9.1.2)]).length sc46, lV (some ⟨bl41, 0, none⟩) 2 2, lV none 0 0]) :: ((b_t, ce9 66 [pt9 ba, nt9 (firstN (((cells_r15, R9.2) : List (Option Nat) × List Bool)).2), iV fan, iV leaf]) :: (Ms53 ++ (Ms43 ++ (Mn_r15 ++ [])))))) ((((List.Sublist.append_left (List.Sublist.append_left (List.Sublist.append_left (sr9.trans (List.sublist_append_right _ _)) _) _) _).k9).cons _).k9) (WC.perm (M' := ((b_t, ce9 66 [pt9 ba, nt9 (firstN (((cells_r15, R9.2) : List (Option Nat) × List Bool)).2), iV fan, iV leaf]) :: ((b49, ce9 70 [nt9 (kk + 1), lV sa45 ([(btU R9.1.2)]).length sc46, lV (some ⟨bl41, 0, none⟩) 2 2, lV none 0 0]) :: (Ms53 ++ (Ms43 ++ (Mn_r15 ++ [])))))) ((((pr9.cons _).trans pr9).cons _).trans ((List.Perm.swap _ _ _).trans (pr9.cons _))) (WC.ret ?_))
    refine ⟨.inr rfl, [_], ⟨rfl, trivial⟩, ((b_t, ce9 66 [pt9 ba, nt9 (firstN (((cells_r15, R9.2) : List (Option Nat) × List Bool)).2), iV fan, iV leaf]) :: ((b49, ce9 70 [nt9 (kk + 1), lV sa45 ([(btU R9.1.2)]).length sc46, lV (some ⟨bl41, 0, none⟩) 2 2, lV none 0 0]) :: (Ms53 ++ (Ms43 ++ Mn_r15)))), ((List.Sublist.append_left (List.Sublist.append_left (List.sublist_append_left _ _) _) _).k9).k9, ?_⟩
    have hE := putT_t hroom
    have hE1 := congrArg Prod.fst hE
    have hE2 := congrArg Prod.snd hE
    dsimp only at hE1 hE2
    rw [hR9] at hE2
    have hag2 : ∀ j : Nat, R9.2[j]? = some true → (cells_r15.set (firstN R9.2) (some b49))[j]? = cells_r15[j]? := fun j hj => agree_set hlt_al50 hj
    have hp8 := OwnR.to (ho44.mono hG51) (congrArg (fun s => [s]) hU9)
    have hk8 := SlR.cast (hv41.mono hG51) (show _ = ([R9.1.1, w9.2] : List (BT kk)).map BT.slot by rw [List.map_cons, List.map_cons, List.map_nil, hsr9, hS9])
    have hfl : ([R9.1.1, w9.2] : List (BT kk)).flatMap (nds kk) = btN R9.1 := by rw [btN_s hw9, List.flatMap_cons, List.flatMap_cons, List.flatMap_nil, List.append_nil]
    exact ⟨congrArg (Value.int .i64) hE1.symm, BpM.to (hE2.trans (rootB_s hw9)) ⟨_, _, _, _, _, pmN1, rfl, hR55, NsM.pack1 (blk_set (show firstN R9.2 < cells_r15.length by rw [hcl_u]; exact hlt_al50)) hp8 hk8 SlR.nil ((((NsM.mono lec hn_r15)).agreeU hus9 hag2).to hfl.symm)⟩⟩
   ·refine W.litO (e := eStr) (l := [(btU R9.1.2)]) (css := [[sV _]]) sl54 ty9 zr9 rfl rfl rfl rfl rfl rfl ⟨rfl, trivial⟩ (fun v56 Ms57 ho58 => (W.perm (pmC (pmC pr9)).symm ?_))
    have q62 := ho58.form
    refine match q62 with | ⟨sa59, sc60, e_61⟩ => ?_
    subst e_61
    refine W.nil (WD.n9 Le.rfl (((sr9.trans (List.sublist_append_right _ _)).k9).k9) ?_)
    refine WD.any [5, 17] (by kernel_rfl) rfl ⟨WD.ap ?_, WD.ap ?_, trivial⟩
    ·have q63 := hn_r15.mem _ hnr9
     refine match q63 with | ⟨b_r, vp_r, vk_r, vr_r, Mp_r, hb_r, hm_r, _, _, _, _⟩ => ?_
     rw [ndB_slot, hsr9] at hb_r
     have hu_r := hus9 _ hnr9
     rw [ndB_slot, hsr9] at hu_r
     have hlv_r : (ndB kk R9.1.1).lvl = (kk : Int) := ndB_lvl
     refine W.lendQ (fun G1 hl1 hn1 => bat_fc (ArR.lent ha_r15 hl1 (sub_of ((((List.sublist_append_left _ _).trans (List.sublist_append_right _ _)).cons _).cons _) hn1) (in_of (i := 1) hn1 rfl)) _ b_r hb_r hu_r) cl43 rfl (W.nil (WD.n9 Le.rfl (((sr9.trans (List.sublist_append_right _ _)).k9).k9) (d9 [6, 7] ?_)))
     refine WD.tk 8 rfl (ok_loadM (vs := ic9) (((((List.sublist_append_left _ _).trans (List.sublist_append_right _ _)).cons _).cons _).subset hm_r) ty3 rfl rfl rfl (by simp)) (WD.tk 9 rfl (Ok.int (n := ((kk + 1 : Nat) : Int)) (ok_add rfl rfl om9) om9) (WD.a1 17 rfl (W.lit (e := eInt) (l := [root, (btS R9.1.2)]) (css := [[iV _], [iV _]]) sl55 ty3 zr3 rfl rfl rfl rfl rfl rfl ⟨⟨rfl, by first | exact hi6 | exact hv9⟩, ⟨rfl, by first | exact hi6 | exact hv9⟩, trivial⟩ (fun bl64 G64 hG64 hv64 => (W.nil (WD.n9 hG64 (((sr9.trans (List.sublist_append_right _ _)).k9).k9) (WD.tk 18 rfl (ok_build (L := [iV _, lV _ _ _, lV _ _ _, lV _ _ _]) pl70 zr70 rfl rfl rfl) (WD.a1 19 rfl (W.box (L := [iV _, lV _ _ _, lV _ _ _, lV _ _ _]) rfl rfl (fun b65 => (W.nil (WD.n9 Le.rfl ((((sr9.trans (List.sublist_append_right _ _)).k9).k9).cons _) (d9 [20] ?_)))))))))))))
     refine g9 9 ?_
     have hlt_al66 := firstN_lt (u := (((cells_r15, R9.2) : List (Option Nat) × List Bool)).2) (by show 0 < (freeN R9.2).length; have h9 := hsp2 hsp9; omega)
     refine W.call (Mp := Ma_r15) (oallocp (ArR.mono hG64 ha_r15) b65) rfl (pmC (pmC (pmC (pmA pr9)))) ?_
     intro v70 G67 Ms69 hG67 q68
     refine match q68 with | ⟨hv_hR71, hR71⟩ => ?_
     refine W.perm (pmC (pmC (pmC pr9))).symm ?_
     rw [nextA_t hlt_al66] at hv_hR71 hR71
     subst hv_hR71
     try dsimp only at hR71
     refine g9 13 ?_
     refine WC.sub (M' := ((b65, ce9 70 [nt9 (kk + 1), lV sa59 ([(btU R9.1.2)]).length sc60, lV (some ⟨bl64, 0, none⟩) 2 2, lV none 0 0]) :: ((b_t, ce9 66 [pt9 ba, nt9 (firstN (((cells_r15, R9.2) : List (Option Nat) × List Bool)).2), iV fan, iV leaf]) :: (Ms69 ++ (Ms57 ++ (Mn_r15 ++ [])))))) ((((List.Sublist.append_left (List.Sublist.append_left (List.Sublist.append_left (sr9.trans (List.sublist_append_right _ _)) _) _) _).k9).cons _).k9) (WC.perm (M' := ((b_t, ce9 66 [pt9 ba, nt9 (firstN (((cells_r15, R9.2) : List (Option Nat) × List Bool)).2), iV fan, iV leaf]) :: ((b65, ce9 70 [nt9 (kk + 1), lV sa59 ([(btU R9.1.2)]).length sc60, lV (some ⟨bl64, 0, none⟩) 2 2, lV none 0 0]) :: (Ms69 ++ (Ms57 ++ (Mn_r15 ++ [])))))) ((((pr9.cons _).trans pr9).cons _).trans ((List.Perm.swap _ _ _).trans (pr9.cons _))) (WC.ret ?_))
     refine ⟨.inr rfl, [_], ⟨rfl, trivial⟩, ((b_t, ce9 66 [pt9 ba, nt9 (firstN (((cells_r15, R9.2) : List (Option Nat) × List Bool)).2), iV fan, iV leaf]) :: ((b65, ce9 70 [nt9 (kk + 1), lV sa59 ([(btU R9.1.2)]).length sc60, lV (some ⟨bl64, 0, none⟩) 2 2, lV none 0 0]) :: (Ms69 ++ (Ms57 ++ Mn_r15)))), ((List.Sublist.append_left (List.Sublist.append_left (List.sublist_append_left _ _) _) _).k9).k9, ?_⟩
     have hE := putT_t hroom
     have hE1 := congrArg Prod.fst hE
     have hE2 := congrArg Prod.snd hE
     dsimp only at hE1 hE2
     rw [hR9] at hE2
     have hag2 : ∀ j : Nat, R9.2[j]? = some true → (cells_r15.set (firstN R9.2) (some b65))[j]? = cells_r15[j]? := fun j hj => agree_set hlt_al66 hj
     have hp8 := OwnR.to (ho58.mono (hG64.trans hG67)) (congrArg (fun s => [s]) hU9)
     have hk8 := SlR.cast (hv64.mono hG67) (show _ = ([R9.1.1, w9.2] : List (BT kk)).map BT.slot by rw [List.map_cons, List.map_cons, List.map_nil, hsr9, hS9])
     have hfl : ([R9.1.1, w9.2] : List (BT kk)).flatMap (nds kk) = btN R9.1 := by rw [btN_s hw9, List.flatMap_cons, List.flatMap_cons, List.flatMap_nil, List.append_nil]
     exact ⟨congrArg (Value.int .i64) hE1.symm, BpM.to (hE2.trans (rootB_s hw9)) ⟨_, _, _, _, _, pmN1, rfl, hR71, NsM.pack1 (blk_set (show firstN R9.2 < cells_r15.length by rw [hcl_u]; exact hlt_al66)) hp8 hk8 SlR.nil ((((NsM.mono lec hn_r15)).agreeU hus9 hag2).to hfl.symm)⟩⟩
    refine W.lit (e := eInt) (l := [root, (btS R9.1.2)]) (css := [[iV _], [iV _]]) sl55 ty3 zr3 rfl rfl rfl rfl rfl rfl ⟨⟨rfl, by first | exact hi6 | exact hv9⟩, ⟨rfl, by first | exact hi6 | exact hv9⟩, trivial⟩ (fun bl72 G72 hG72 hv72 => (W.nil (WD.n9 hG72 (((sr9.trans (List.sublist_append_right _ _)).k9).k9) (WD.a1 5 rfl ?_))))
    have q73 := (NsM.mono hG72 hn_r15).mem _ hnr9
    refine match q73 with | ⟨b_r, vp_r, vk_r, vr_r, Mp_r, hb_r, hm_r, _, _, _, _⟩ => ?_
    rw [ndB_slot, hsr9] at hb_r
    have hu_r := hus9 _ hnr9
    rw [ndB_slot, hsr9] at hu_r
    have hlv_r : (ndB kk R9.1.1).lvl = (kk : Int) := ndB_lvl
    refine W.lendQ (fun G1 hl1 hn1 => bat_fc (ArR.lent (ArR.mono hG72 ha_r15) hl1 (sub_of ((((List.sublist_append_left _ _).trans (List.sublist_append_right _ _)).cons _).cons _) hn1) (in_of (i := 1) hn1 rfl)) _ b_r hb_r hu_r) cl43 rfl (W.nil (WD.n9 Le.rfl (((sr9.trans (List.sublist_append_right _ _)).k9).k9) (d9 [6, 7] ?_)))
    refine WD.tk 8 rfl (ok_loadM (vs := ic9) (((((List.sublist_append_left _ _).trans (List.sublist_append_right _ _)).cons _).cons _).subset hm_r) ty3 rfl rfl rfl (by simp)) (WD.tk 9 rfl (Ok.int (n := ((kk + 1 : Nat) : Int)) (ok_add rfl rfl om9) om9) (WD.tk 18 rfl (ok_build (L := [iV _, lV _ _ _, lV _ _ _, lV _ _ _]) pl70 zr70 rfl rfl rfl) (WD.a1 19 rfl (W.box (L := [iV _, lV _ _ _, lV _ _ _, lV _ _ _]) rfl rfl (fun b74 => (W.nil (WD.n9 Le.rfl ((((sr9.trans (List.sublist_append_right _ _)).k9).k9).cons _) (d9 [20] ?_))))))))
    refine g9 9 ?_
    have hlt_al75 := firstN_lt (u := (((cells_r15, R9.2) : List (Option Nat) × List Bool)).2) (by show 0 < (freeN R9.2).length; have h9 := hsp2 hsp9; omega)
    refine W.call (Mp := Ma_r15) (oallocp (ArR.mono hG72 ha_r15) b74) rfl (pmC (pmC (pmC (pmA pr9)))) ?_
    intro v79 G76 Ms78 hG76 q77
    refine match q77 with | ⟨hv_hR80, hR80⟩ => ?_
    refine W.perm (pmC (pmC (pmC pr9))).symm ?_
    rw [nextA_t hlt_al75] at hv_hR80 hR80
    subst hv_hR80
    try dsimp only at hR80
    refine g9 13 ?_
    refine WC.sub (M' := ((b74, ce9 70 [nt9 (kk + 1), lV sa59 ([(btU R9.1.2)]).length sc60, lV (some ⟨bl72, 0, none⟩) 2 2, lV none 0 0]) :: ((b_t, ce9 66 [pt9 ba, nt9 (firstN (((cells_r15, R9.2) : List (Option Nat) × List Bool)).2), iV fan, iV leaf]) :: (Ms78 ++ (Ms57 ++ (Mn_r15 ++ [])))))) ((((List.Sublist.append_left (List.Sublist.append_left (List.Sublist.append_left (sr9.trans (List.sublist_append_right _ _)) _) _) _).k9).cons _).k9) (WC.perm (M' := ((b_t, ce9 66 [pt9 ba, nt9 (firstN (((cells_r15, R9.2) : List (Option Nat) × List Bool)).2), iV fan, iV leaf]) :: ((b74, ce9 70 [nt9 (kk + 1), lV sa59 ([(btU R9.1.2)]).length sc60, lV (some ⟨bl72, 0, none⟩) 2 2, lV none 0 0]) :: (Ms78 ++ (Ms57 ++ (Mn_r15 ++ [])))))) ((((pr9.cons _).trans pr9).cons _).trans ((List.Perm.swap _ _ _).trans (pr9.cons _))) (WC.ret ?_))
    refine ⟨.inr rfl, [_], ⟨rfl, trivial⟩, ((b_t, ce9 66 [pt9 ba, nt9 (firstN (((cells_r15, R9.2) : List (Option Nat) × List Bool)).2), iV fan, iV leaf]) :: ((b74, ce9 70 [nt9 (kk + 1), lV sa59 ([(btU R9.1.2)]).length sc60, lV (some ⟨bl72, 0, none⟩) 2 2, lV none 0 0]) :: (Ms78 ++ (Ms57 ++ Mn_r15)))), ((List.Sublist.append_left (List.Sublist.append_left (List.sublist_append_left _ _) _) _).k9).k9, ?_⟩
    have hE := putT_t hroom
    have hE1 := congrArg Prod.fst hE
    have hE2 := congrArg Prod.snd hE
    dsimp only at hE1 hE2
    rw [hR9] at hE2
    have hag2 : ∀ j : Nat, R9.2[j]? = some true → (cells_r15.set (firstN R9.2) (some b74))[j]? = cells_r15[j]? := fun j hj => agree_set hlt_al75 hj
    have hp8 := OwnR.to (ho58.mono (hG72.trans hG76)) (congrArg (fun s => [s]) hU9)
    have hk8 := SlR.cast (hv72.mono hG76) (show _ = ([R9.1.1, w9.2] : List (BT kk)).map BT.slot by rw [List.map_cons, List.map_cons, List.map_nil, hsr9, hS9])
    have hfl : ([R9.1.1, w9.2] : List (BT kk)).flatMap (nds kk) = btN R9.1 := by rw [btN_s hw9, List.flatMap_cons, List.flatMap_cons, List.flatMap_nil, List.append_nil]
    exact ⟨congrArg (Value.int .i64) hE1.symm, BpM.to (hE2.trans (rootB_s hw9)) ⟨_, _, _, _, _, pmN1, rfl, hR80, NsM.pack1 (blk_set (show firstN R9.2 < cells_r15.length by rw [hcl_u]; exact hlt_al75)) hp8 hk8 SlR.nil ((((NsM.mono lec hn_r15)).agreeU hus9 hag2).to hfl.symm)⟩⟩
   refine W.lit (e := eInt) (l := [root, (btS R9.1.2)]) (css := [[iV _], [iV _]]) sl55 ty3 zr3 rfl rfl rfl rfl rfl rfl ⟨⟨rfl, by first | exact hi6 | exact hv9⟩, ⟨rfl, by first | exact hi6 | exact hv9⟩, trivial⟩ (fun bl81 G81 hG81 hv81 => (W.nn ?_))
   refine WD.any [5, 11] (by kernel_rfl) rfl ⟨WD.ap ?_, WD.ap ?_, trivial⟩
   ·have q82 := (NsM.mono hG81 hn_r15).mem _ hnr9
    refine match q82 with | ⟨b_r, vp_r, vk_r, vr_r, Mp_r, hb_r, hm_r, _, _, _, _⟩ => ?_
    rw [ndB_slot, hsr9] at hb_r
    have hu_r := hus9 _ hnr9
    rw [ndB_slot, hsr9] at hu_r
    have hlv_r : (ndB kk R9.1.1).lvl = (kk : Int) := ndB_lvl
    refine W.lendQ (fun G1 hl1 hn1 => bat_fc (ArR.lent (ArR.mono hG81 ha_r15) hl1 (sub_of (((List.sublist_append_left _ _).cons _).cons _) hn1) (in_of (i := 1) hn1 rfl)) _ b_r hb_r hu_r) cl43 rfl (W.nn (d9 [6, 7] ?_))
    refine WD.tk 8 rfl (ok_loadM (vs := ic9) (((((List.sublist_append_left _ _).trans (List.sublist_append_right _ _)).cons _).cons _).subset hm_r) ty3 rfl rfl rfl (by simp)) (WD.tk 9 rfl (Ok.int (n := ((kk + 1 : Nat) : Int)) (ok_add rfl rfl om9) om9) (WD.a1 11 rfl (W.litO (e := eStr) (l := [(btU R9.1.2)]) (css := [[sV _]]) sl54 ty9 zr9 rfl rfl rfl rfl rfl rfl ⟨rfl, trivial⟩ (fun v83 Ms84 ho85 => (W.perm (pmC (pmC pr9)).symm ?_)))))
    have q89 := ho85.form
    refine match q89 with | ⟨sa86, sc87, e_88⟩ => ?_
    subst e_88
    refine W.nil (WD.n9 Le.rfl (((sr9.trans (List.sublist_append_right _ _)).k9).k9) (WD.tk 18 rfl (ok_build (L := [iV _, lV _ _ _, lV _ _ _, lV _ _ _]) pl70 zr70 rfl rfl rfl) (WD.a1 19 rfl (W.box (L := [iV _, lV _ _ _, lV _ _ _, lV _ _ _]) rfl rfl (fun b90 => (W.nil (WD.n9 Le.rfl ((((sr9.trans (List.sublist_append_right _ _)).k9).k9).cons _) (d9 [20] ?_))))))))
    refine g9 9 ?_
    have hlt_al91 := firstN_lt (u := (((cells_r15, R9.2) : List (Option Nat) × List Bool)).2) (by show 0 < (freeN R9.2).length; have h9 := hsp2 hsp9; omega)
    refine W.call (Mp := Ma_r15) (oallocp (ArR.mono hG81 ha_r15) b90) rfl (pmC (pmC (pmC (pmA pr9)))) ?_
    intro v95 G92 Ms94 hG92 q93
    refine match q93 with | ⟨hv_hR96, hR96⟩ => ?_
    refine W.perm (pmC (pmC (pmC pr9))).symm ?_
    rw [nextA_t hlt_al91] at hv_hR96 hR96
    subst hv_hR96
    try dsimp only at hR96
    refine g9 13 ?_
    refine WC.sub (M' := ((b90, ce9 70 [nt9 (kk + 1), lV sa86 ([(btU R9.1.2)]).length sc87, lV (some ⟨bl81, 0, none⟩) 2 2, lV none 0 0]) :: ((b_t, ce9 66 [pt9 ba, nt9 (firstN (((cells_r15, R9.2) : List (Option Nat) × List Bool)).2), iV fan, iV leaf]) :: (Ms94 ++ (Ms84 ++ (Mn_r15 ++ [])))))) ((((List.Sublist.append_left (List.Sublist.append_left (List.Sublist.append_left (sr9.trans (List.sublist_append_right _ _)) _) _) _).k9).cons _).k9) (WC.perm (M' := ((b_t, ce9 66 [pt9 ba, nt9 (firstN (((cells_r15, R9.2) : List (Option Nat) × List Bool)).2), iV fan, iV leaf]) :: ((b90, ce9 70 [nt9 (kk + 1), lV sa86 ([(btU R9.1.2)]).length sc87, lV (some ⟨bl81, 0, none⟩) 2 2, lV none 0 0]) :: (Ms94 ++ (Ms84 ++ (Mn_r15 ++ [])))))) ((((pr9.cons _).trans pr9).cons _).trans ((List.Perm.swap _ _ _).trans (pr9.cons _))) (WC.ret ?_))
    refine ⟨.inr rfl, [_], ⟨rfl, trivial⟩, ((b_t, ce9 66 [pt9 ba, nt9 (firstN (((cells_r15, R9.2) : List (Option Nat) × List Bool)).2), iV fan, iV leaf]) :: ((b90, ce9 70 [nt9 (kk + 1), lV sa86 ([(btU R9.1.2)]).length sc87, lV (some ⟨bl81, 0, none⟩) 2 2, lV none 0 0]) :: (Ms94 ++ (Ms84 ++ Mn_r15)))), ((List.Sublist.append_left (List.Sublist.append_left (List.sublist_append_left _ _) _) _).k9).k9, ?_⟩
    have hE := putT_t hroom
    have hE1 := congrArg Prod.fst hE
    have hE2 := congrArg Prod.snd hE
    dsimp only at hE1 hE2
    rw [hR9] at hE2
    have hag2 : ∀ j : Nat, R9.2[j]? = some true → (cells_r15.set (firstN R9.2) (some b90))[j]? = cells_r15[j]? := fun j hj => agree_set hlt_al91 hj
    have hp8 := OwnR.to (ho85.mono hG92) (congrArg (fun s => [s]) hU9)
    have hk8 := SlR.cast (hv81.mono hG92) (show _ = ([R9.1.1, w9.2] : List (BT kk)).map BT.slot by rw [List.map_cons, List.map_cons, List.map_nil, hsr9, hS9])
    have hfl : ([R9.1.1, w9.2] : List (BT kk)).flatMap (nds kk) = btN R9.1 := by rw [btN_s hw9, List.flatMap_cons, List.flatMap_cons, List.flatMap_nil, List.append_nil]
    exact ⟨congrArg (Value.int .i64) hE1.symm, BpM.to (hE2.trans (rootB_s hw9)) ⟨_, _, _, _, _, pmN1, rfl, hR96, NsM.pack1 (blk_set (show firstN R9.2 < cells_r15.length by rw [hcl_u]; exact hlt_al91)) hp8 hk8 SlR.nil ((((NsM.mono lec hn_r15)).agreeU hus9 hag2).to hfl.symm)⟩⟩
   refine W.litO (e := eStr) (l := [(btU R9.1.2)]) (css := [[sV _]]) sl54 ty9 zr9 rfl rfl rfl rfl rfl rfl ⟨rfl, trivial⟩ (fun v97 Ms98 ho99 => (W.perm (pmC (pmC pr9)).symm ?_))
   have q103 := ho99.form
   refine match q103 with | ⟨sa100, sc101, e_102⟩ => ?_
   subst e_102
   refine W.nil (WD.n9 Le.rfl (((sr9.trans (List.sublist_append_right _ _)).k9).k9) (WD.a1 5 rfl ?_))
   have q104 := (NsM.mono hG81 hn_r15).mem _ hnr9
   refine match q104 with | ⟨b_r, vp_r, vk_r, vr_r, Mp_r, hb_r, hm_r, _, _, _, _⟩ => ?_
   rw [ndB_slot, hsr9] at hb_r
   have hu_r := hus9 _ hnr9
   rw [ndB_slot, hsr9] at hu_r
   have hlv_r : (ndB kk R9.1.1).lvl = (kk : Int) := ndB_lvl
   refine W.lendQ (fun G1 hl1 hn1 => bat_fc (ArR.lent (ArR.mono hG81 ha_r15) hl1 (sub_of ((((List.sublist_append_left _ _).trans (List.sublist_append_right _ _)).cons _).cons _) hn1) (in_of (i := 1) hn1 rfl)) _ b_r hb_r hu_r) cl43 rfl (W.nil (WD.n9 Le.rfl (((sr9.trans (List.sublist_append_right _ _)).k9).k9) (d9 [6, 7] ?_)))
   refine WD.tk 8 rfl (ok_loadM (vs := ic9) (((((List.sublist_append_left _ _).trans (List.sublist_append_right _ _)).cons _).cons _).subset hm_r) ty3 rfl rfl rfl (by simp)) (WD.tk 9 rfl (Ok.int (n := ((kk + 1 : Nat) : Int)) (ok_add rfl rfl om9) om9) (WD.tk 18 rfl (ok_build (L := [iV _, lV _ _ _, lV _ _ _, lV _ _ _]) pl70 zr70 rfl rfl rfl) (WD.a1 19 rfl (W.box (L := [iV _, lV _ _ _, lV _ _ _, lV _ _ _]) rfl rfl (fun b105 => (W.nil (WD.n9 Le.rfl ((((sr9.trans (List.sublist_append_right _ _)).k9).k9).cons _) (d9 [20] ?_))))))))
   refine g9 9 ?_
   have hlt_al106 := firstN_lt (u := (((cells_r15, R9.2) : List (Option Nat) × List Bool)).2) (by show 0 < (freeN R9.2).length; have h9 := hsp2 hsp9; omega)
   refine W.call (Mp := Ma_r15) (oallocp (ArR.mono hG81 ha_r15) b105) rfl (pmC (pmC (pmC (pmA pr9)))) ?_
   intro v110 G107 Ms109 hG107 q108
   refine match q108 with | ⟨hv_hR111, hR111⟩ => ?_
   refine W.perm (pmC (pmC (pmC pr9))).symm ?_
   rw [nextA_t hlt_al106] at hv_hR111 hR111
   subst hv_hR111
   try dsimp only at hR111
   refine g9 13 ?_
   refine WC.sub (M' := ((b105, ce9 70 [nt9 (kk + 1), lV sa100 ([(btU R9.1.2)]).length sc101, lV (some ⟨bl81, 0, none⟩) 2 2, lV none 0 0]) :: ((b_t, ce9 66 [pt9 ba, nt9 (firstN (((cells_r15, R9.2) : List (Option Nat) × List Bool)).2), iV fan, iV leaf]) :: (Ms109 ++ (Ms98 ++ (Mn_r15 ++ [])))))) ((((List.Sublist.append_left (List.Sublist.append_left (List.Sublist.append_left (sr9.trans (List.sublist_append_right _ _)) _) _) _).k9).cons _).k9) (WC.perm (M' := ((b_t, ce9 66 [pt9 ba, nt9 (firstN (((cells_r15, R9.2) : List (Option Nat) × List Bool)).2), iV fan, iV leaf]) :: ((b105, ce9 70 [nt9 (kk + 1), lV sa100 ([(btU R9.1.2)]).length sc101, lV (some ⟨bl81, 0, none⟩) 2 2, lV none 0 0]) :: (Ms109 ++ (Ms98 ++ (Mn_r15 ++ [])))))) ((((pr9.cons _).trans pr9).cons _).trans ((List.Perm.swap _ _ _).trans (pr9.cons _))) (WC.ret ?_))
   refine ⟨.inr rfl, [_], ⟨rfl, trivial⟩, ((b_t, ce9 66 [pt9 ba, nt9 (firstN (((cells_r15, R9.2) : List (Option Nat) × List Bool)).2), iV fan, iV leaf]) :: ((b105, ce9 70 [nt9 (kk + 1), lV sa100 ([(btU R9.1.2)]).length sc101, lV (some ⟨bl81, 0, none⟩) 2 2, lV none 0 0]) :: (Ms109 ++ (Ms98 ++ Mn_r15)))), ((List.Sublist.append_left (List.Sublist.append_left (List.sublist_append_left _ _) _) _).k9).k9, ?_⟩
   have hE := putT_t hroom
   have hE1 := congrArg Prod.fst hE
   have hE2 := congrArg Prod.snd hE
   dsimp only at hE1 hE2
   rw [hR9] at hE2
   have hag2 : ∀ j : Nat, R9.2[j]? = some true → (cells_r15.set (firstN R9.2) (some b105))[j]? = cells_r15[j]? := fun j hj => agree_set hlt_al106 hj
   have hp8 := OwnR.to (ho99.mono hG107) (congrArg (fun s => [s]) hU9)
   have hk8 := SlR.cast (hv81.mono hG107) (show _ = ([R9.1.1, w9.2] : List (BT kk)).map BT.slot by rw [List.map_cons, List.map_cons, List.map_nil, hsr9, hS9])
   have hfl : ([R9.1.1, w9.2] : List (BT kk)).flatMap (nds kk) = btN R9.1 := by rw [btN_s hw9, List.flatMap_cons, List.flatMap_cons, List.flatMap_nil, List.append_nil]
   exact ⟨congrArg (Value.int .i64) hE1.symm, BpM.to (hE2.trans (rootB_s hw9)) ⟨_, _, _, _, _, pmN1, rfl, hR111, NsM.pack1 (blk_set (show firstN R9.2 < cells_r15.length by rw [hcl_u]; exact hlt_al106)) hp8 hk8 SlR.nil ((((NsM.mono lec hn_r15)).agreeU hus9 hag2).to hfl.symm)⟩⟩
  refine g9 7 ?_
  refine WC.sub (M' := ((b_t, ce9 66 [pt9 ba, iV root, iV fan, iV leaf]) :: (Ma_r15 ++ (Mn_r15 ++ [])))) (((List.Sublist.append_left (List.Sublist.append_left (sr9.trans (List.sublist_append_right _ _)) _) _).k9).cons _) (WC.ret ?_)
  refine ⟨.inr rfl, [_], ⟨rfl, trivial⟩, ((b_t, ce9 66 [pt9 ba, iV root, iV fan, iV leaf]) :: (Ma_r15 ++ Mn_r15)), (List.Sublist.append_left (List.sublist_append_left _ _) _).k9, ?_⟩
  have hE := putT_t hroom
  have hE1 := congrArg Prod.fst hE
  have hE2 := congrArg Prod.snd hE
  dsimp only at hE1 hE2
  rw [hR9] at hE2
  have hr9 : R9.1.2 = none := btS_none p54 fun w hw => by
    obtain ⟨b9, h9⟩ := hbk_u (ndB kk w.2) (by rw [btN_s hw]; exact List.mem_append_right _ nds_head)
    rw [ndB_slot] at h9; exact h9.1
  exact ⟨congrArg (Value.int .i64) hE1.symm, BpM.to (hE2.trans (rootB_n hr9)) ⟨_, _, _, _, _, pr9, hsr9.symm, ha_r15, (hn_r15).to (btN_n hr9)⟩⟩
 refine g9 17 ?_
 refine WC.dw (sn9.k9.k9) (d9 [0, 1, 2, 3, 4, 5, 6] ?_)
 refine WD.a1 7 rfl ?_
 have hroom : roomT fan leaf k ⟨ek, ev⟩ ⟨kk, y, st.2⟩ = true := by unfold roomT needT; rw [show fitsN (leafB k kk y) k ⟨ek, ev⟩ leaf = true by simpa using h30]; rfl
 have q113 := hrm9 hroom
 refine match q113 with | ⟨hsp1, hsp2⟩ => ?_
 refine W.call (Mp := ((b_t, ce9 66 [pt9 ba, iV root, iV fan, iV leaf]) :: (Ma ++ Mn))) (Mr := ((b1, ce9 90 [iV ek, sV ev.b]) :: (Mq3 ++ []))) (binsert_all kk (ArR.mono hG4 h_a) root k ek ev (NsM.mono hG4 h_n) _ allS allS_norm (allS_has k) hok hus hroot hcfg hk16 hv16 hg9 hsp1) rfl (((pmC ((pmF (pmA pr9)).trans (pmA pr9))).cons _).trans ((List.Perm.swap _ _ _).trans (pr9.cons _))) ?_
 intro v117 G114 Ms116 hG114 q115
 rw [hR9] at q115
 refine match q115 with | ⟨cells_r112, Ma_r112, Mn_r112, hP_r112, ha_r112, hn_r112, hag_r112, e_118⟩ => ?_
 subst e_118
 refine W.perm (M' := ((b_t, ce9 66 [pt9 ba, iV root, iV fan, iV leaf]) :: (Ma_r112 ++ Mn_r112)) ++ ((b1, ce9 90 [iV ek, sV ev.b]) :: (Mq3 ++ []))) (List.Perm.append_right _ hP_r112.symm) ?_
 have hcl_u : cells_r112.length = R9.2.length := by obtain ⟨_, _, h9, _⟩ := ha_r112; exact h9
 have hul_u : R9.2.length ≤ 4096 := by obtain ⟨_, _, _, h9, _⟩ := ha_r112; exact h9
 have hbk_u := hn_r112.blk
 refine W.perm (M' := ((b1, ce9 90 [iV ek, sV ev.b]) :: ((b_t, ce9 66 [pt9 ba, iV root, iV fan, iV leaf]) :: (Ma_r112 ++ (Mn_r112 ++ (Mq3 ++ [])))))) (((pmC ((pmF pr9).trans pr9)).cons _).trans ((List.Perm.swap _ _ _).trans (pr9.cons _))).symm (W.nn (d9 [8, 9, 10, 11, 12] ?_))
 refine g9 8 ?_
 refine WC.cn (fun h54 p54 => ?_) (fun h54 p54 => ?_)
 ·have hex9 : ∃ w, R9.1.2 = some w := by
    cases h9 : R9.1.2 with
    | none => rw [h9] at p54; exact absurd rfl p54
    | some w => exact ⟨w, rfl⟩
  refine match hex9 with | ⟨w9, hw9⟩ => ?_
  have hU9 : btU R9.1.2 = w9.1 := by rw [hw9]; rfl
  have hS9 : btS R9.1.2 = w9.2.slot := by rw [hw9]; rfl
  have q119 := hbk_u (ndB kk w9.2) (by rw [btN_s hw9]; exact List.mem_append_right _ nds_head)
  refine match q119 with | ⟨b8, hb8⟩ => ?_
  rw [ndB_slot] at hb8
  have q120 := hb8.lt
  refine match q120 with | ⟨hb7, hb6⟩ => ?_
  have hv9 : i64 (btS R9.1.2) := by rw [hS9]; exact ⟨om9, om9⟩
  have hsp9 := hso9.1 (by rw [hw9]; rfl)
  have q121 := hin9 hsp1
  refine match q121 with | ⟨nw9, w1, w2, w3, w4⟩ => ?_
  have hus9 : UsN R9.2 (btN R9.1) := w1.us hus w2
  have hi6 : i64 root := by rw [hroot]; exact ⟨om9, om9⟩
  have hnr9 : ndB kk R9.1.1 ∈ btN R9.1 := by unfold btN; exact List.mem_append_left _ nds_head
  refine WC.seq (WC.dw (sr9.k9.k9) (d9 [0, 1, 2, 3, 4, 10, 12, 13, 14, 15, 16] ?_))
  refine WD.any [5, 11, 17] (by kernel_rfl) rfl ⟨WD.ap ?_, WD.ap ?_, WD.ap ?_, trivial⟩
  ·have q122 := hn_r112.mem _ hnr9
   refine match q122 with | ⟨b_r, vp_r, vk_r, vr_r, Mp_r, hb_r, hm_r, _, _, _, _⟩ => ?_
   rw [ndB_slot, hsr9] at hb_r
   have hu_r := hus9 _ hnr9
   rw [ndB_slot, hsr9] at hu_r
   have hlv_r : (ndB kk R9.1.1).lvl = (kk : Int) := ndB_lvl
   refine W.lendQ (fun G1 hl1 hn1 => bat_fc (ArR.lent ha_r112 hl1 (sub_of (((List.sublist_append_left _ _).cons _).cons _) hn1) (in_of (i := 1) hn1 rfl)) _ b_r hb_r hu_r) cl43 rfl (W.nn (d9 [6, 7] ?_))
   refine WD.tk 8 rfl (ok_loadM (vs := ic9) (((((List.sublist_append_left _ _).trans (List.sublist_append_right _ _)).cons _).cons _).subset hm_r) ty3 rfl rfl rfl (by simp)) (WD.tk 9 rfl (Ok.int (n := ((kk + 1 : Nat) : Int)) (ok_add rfl rfl om9) om9) ?_)
   refine WD.any [11, 17] (by kernel_rfl) rfl ⟨WD.ap ?_, WD.ap ?_, trivial⟩
   ·refine W.litO (e := eStr) (l := [(btU R9.1.2)]) (css := [[sV _]]) sl54 ty9 zr9 rfl rfl rfl rfl rfl rfl ⟨rfl, trivial⟩ (fun v123 Ms124 ho125 => (W.perm (pmC (pmC pr9)).symm ?_))
    have q129 := ho125.form
    refine match q129 with | ⟨sa126, sc127, e_128⟩ => ?_
    subst e_128
    refine W.nil (WD.n9 Le.rfl (((sr9.trans (List.sublist_append_right _ _)).k9).k9) (WD.a1 17 rfl (W.lit (e := eInt) (l := [root, (btS R9.1.2)]) (css := [[iV _], [iV _]]) sl55 ty3 zr3 rfl rfl rfl rfl rfl rfl ⟨⟨rfl, by first | exact hi6 | exact hv9⟩, ⟨rfl, by first | exact hi6 | exact hv9⟩, trivial⟩ (fun bl130 G130 hG130 hv130 => (W.nil (WD.n9 hG130 (((sr9.trans (List.sublist_append_right _ _)).k9).k9) (WD.tk 18 rfl (ok_build (L := [iV _, lV _ _ _, lV _ _ _, lV _ _ _]) pl70 zr70 rfl rfl rfl) (WD.a1 19 rfl (W.box (L := [iV _, lV _ _ _, lV _ _ _, lV _ _ _]) rfl rfl (fun b131 => (W.nil (WD.n9 Le.rfl ((((sr9.trans (List.sublist_append_right _ _)).k9).k9).cons _) (d9 [20] ?_)))))))))))))
    refine g9 9 ?_
    have hlt_al132 := firstN_lt (u := (((cells_r112, R9.2) : List (Option Nat) × List Bool)).2) (by show 0 < (freeN R9.2).length; have h9 := hsp2 hsp9; omega)
    refine W.call (Mp := Ma_r112) (oallocp (ArR.mono hG130 ha_r112) b131) rfl (pmC (pmC (pmC (pmA pr9)))) ?_
    intro v136 G133 Ms135 hG133 q134
    refine match q134 with | ⟨hv_hR137, hR137⟩ => ?_
    refine W.perm (pmC (pmC (pmC pr9))).symm ?_
    rw [nextA_t hlt_al132] at hv_hR137 hR137
    subst hv_hR137
    try dsimp only at hR137
    refine g9 13 ?_
    refine WC.sub (M' := ((b131, ce9 70 [nt9 (kk + 1), lV sa126 ([(btU R9.1.2)]).length sc127, lV (some ⟨bl130, 0, none⟩) 2 2, lV none 0 0]) :: ((b_t, ce9 66 [pt9 ba, nt9 (firstN (((cells_r112, R9.2) : List (Option Nat) × List Bool)).2), iV fan, iV leaf]) :: (Ms135 ++ (Ms124 ++ (Mn_r112 ++ [])))))) ((((List.Sublist.append_left (List.Sublist.append_left (List.Sublist.append_left (sr9.trans (List.sublist_append_right _ _)) _) _) _).k9).cons _).k9) (WC.perm (M' := ((b_t, ce9 66 [pt9 ba, nt9 (firstN (((cells_r112, R9.2) : List (Option Nat) × List Bool)).2), iV fan, iV leaf]) :: ((b131, ce9 70 [nt9 (kk + 1), lV sa126 ([(btU R9.1.2)]).length sc127, lV (some ⟨bl130, 0, none⟩) 2 2, lV none 0 0]) :: (Ms135 ++ (Ms124 ++ (Mn_r112 ++ [])))))) ((((pr9.cons _).trans pr9).cons _).trans ((List.Perm.swap _ _ _).trans (pr9.cons _))) (WC.ret ?_))
    refine ⟨.inr rfl, [_], ⟨rfl, trivial⟩, ((b_t, ce9 66 [pt9 ba, nt9 (firstN (((cells_r112, R9.2) : List (Option Nat) × List Bool)).2), iV fan, iV leaf]) :: ((b131, ce9 70 [nt9 (kk + 1), lV sa126 ([(btU R9.1.2)]).length sc127, lV (some ⟨bl130, 0, none⟩) 2 2, lV none 0 0]) :: (Ms135 ++ (Ms124 ++ Mn_r112)))), ((List.Sublist.append_left (List.Sublist.append_left (List.sublist_append_left _ _) _) _).k9).k9, ?_⟩
    have hE := putT_t hroom
    have hE1 := congrArg Prod.fst hE
    have hE2 := congrArg Prod.snd hE
    dsimp only at hE1 hE2
    rw [hR9] at hE2
    have hag2 : ∀ j : Nat, R9.2[j]? = some true → (cells_r112.set (firstN R9.2) (some b131))[j]? = cells_r112[j]? := fun j hj => agree_set hlt_al132 hj
    have hp8 := OwnR.to (ho125.mono (hG130.trans hG133)) (congrArg (fun s => [s]) hU9)
    have hk8 := SlR.cast (hv130.mono hG133) (show _ = ([R9.1.1, w9.2] : List (BT kk)).map BT.slot by rw [List.map_cons, List.map_cons, List.map_nil, hsr9, hS9])
    have hfl : ([R9.1.1, w9.2] : List (BT kk)).flatMap (nds kk) = btN R9.1 := by rw [btN_s hw9, List.flatMap_cons, List.flatMap_cons, List.flatMap_nil, List.append_nil]
    exact ⟨congrArg (Value.int .i64) hE1.symm, BpM.to (hE2.trans (rootB_s hw9)) ⟨_, _, _, _, _, pmN1, rfl, hR137, NsM.pack1 (blk_set (show firstN R9.2 < cells_r112.length by rw [hcl_u]; exact hlt_al132)) hp8 hk8 SlR.nil ((((NsM.mono lec hn_r112)).agreeU hus9 hag2).to hfl.symm)⟩⟩
   refine W.lit (e := eInt) (l := [root, (btS R9.1.2)]) (css := [[iV _], [iV _]]) sl55 ty3 zr3 rfl rfl rfl rfl rfl rfl ⟨⟨rfl, by first | exact hi6 | exact hv9⟩, ⟨rfl, by first | exact hi6 | exact hv9⟩, trivial⟩ (fun bl138 G138 hG138 hv138 => (W.nn (WD.a1 11 rfl (W.litO (e := eStr) (l := [(btU R9.1.2)]) (css := [[sV _]]) sl54 ty9 zr9 rfl rfl rfl rfl rfl rfl ⟨rfl, trivial⟩ (fun v139 Ms140 ho141 => (W.perm (pmC (pmC pr9)).symm ?_))))))
   have q145 := ho141.form
   refine match q145 with | ⟨sa142, sc143, e_144⟩ => ?_
   subst e_144
   refine W.nil (WD.n9 Le.rfl (((sr9.trans (List.sublist_append_right _ _)).k9).k9) (WD.tk 18 rfl (ok_build (L := [iV _, lV _ _ _, lV _ _ _, lV _ _ _]) pl70 zr70 rfl rfl rfl) (WD.a1 19 rfl (W.box (L := [iV _, lV _ _ _, lV _ _ _, lV _ _ _]) rfl rfl (fun b146 => (W.nil (WD.n9 Le.rfl ((((sr9.trans (List.sublist_append_right _ _)).k9).k9).cons _) (d9 [20] ?_))))))))
   refine g9 9 ?_
   have hlt_al147 := firstN_lt (u := (((cells_r112, R9.2) : List (Option Nat) × List Bool)).2) (by show 0 < (freeN R9.2).length; have h9 := hsp2 hsp9; omega)
   refine W.call (Mp := Ma_r112) (oallocp (ArR.mono hG138 ha_r112) b146) rfl (pmC (pmC (pmC (pmA pr9)))) ?_
   intro v151 G148 Ms150 hG148 q149
   refine match q149 with | ⟨hv_hR152, hR152⟩ => ?_
   refine W.perm (pmC (pmC (pmC pr9))).symm ?_
   rw [nextA_t hlt_al147] at hv_hR152 hR152
   subst hv_hR152
   try dsimp only at hR152
   refine g9 13 ?_
   refine WC.sub (M' := ((b146, ce9 70 [nt9 (kk + 1), lV sa142 ([(btU R9.1.2)]).length sc143, lV (some ⟨bl138, 0, none⟩) 2 2, lV none 0 0]) :: ((b_t, ce9 66 [pt9 ba, nt9 (firstN (((cells_r112, R9.2) : List (Option Nat) × List Bool)).2), iV fan, iV leaf]) :: (Ms150 ++ (Ms140 ++ (Mn_r112 ++ [])))))) ((((List.Sublist.append_left (List.Sublist.append_left (List.Sublist.append_left (sr9.trans (List.sublist_append_right _ _)) _) _) _).k9).cons _).k9) (WC.perm (M' := ((b_t, ce9 66 [pt9 ba, nt9 (firstN (((cells_r112, R9.2) : List (Option Nat) × List Bool)).2), iV fan, iV leaf]) :: ((b146, ce9 70 [nt9 (kk + 1), lV sa142 ([(btU R9.1.2)]).length sc143, lV (some ⟨bl138, 0, none⟩) 2 2, lV none 0 0]) :: (Ms150 ++ (Ms140 ++ (Mn_r112 ++ [])))))) ((((pr9.cons _).trans pr9).cons _).trans ((List.Perm.swap _ _ _).trans (pr9.cons _))) (WC.ret ?_))
   refine ⟨.inr rfl, [_], ⟨rfl, trivial⟩, ((b_t, ce9 66 [pt9 ba, nt9 (firstN (((cells_r112, R9.2) : List (Option Nat) × List Bool)).2), iV fan, iV leaf]) :: ((b146, ce9 70 [nt9 (kk + 1), lV sa142 ([(btU R9.1.2)]).length sc143, lV (some ⟨bl138, 0, none⟩) 2 2, lV none 0 0]) :: (Ms150 ++ (Ms140 ++ Mn_r112)))), ((List.Sublist.append_left (List.Sublist.append_left (List.sublist_append_left _ _) _) _).k9).k9, ?_⟩
   have hE := putT_t hroom
   have hE1 := congrArg Prod.fst hE
   have hE2 := congrArg Prod.snd hE
   dsimp only at hE1 hE2
   rw [hR9] at hE2
   have hag2 : ∀ j : Nat, R9.2[j]? = some true → (cells_r112.set (firstN R9.2) (some b146))[j]? = cells_r112[j]? := fun j hj => agree_set hlt_al147 hj
   have hp8 := OwnR.to (ho141.mono hG148) (congrArg (fun s => [s]) hU9)
   have hk8 := SlR.cast (hv138.mono hG148) (show _ = ([R9.1.1, w9.2] : List (BT kk)).map BT.slot by rw [List.map_cons, List.map_cons, List.map_nil, hsr9, hS9])
   have hfl : ([R9.1.1, w9.2] : List (BT kk)).flatMap (nds kk) = btN R9.1 := by rw [btN_s hw9, List.flatMap_cons, List.flatMap_cons, List.flatMap_nil, List.append_nil]
   exact ⟨congrArg (Value.int .i64) hE1.symm, BpM.to (hE2.trans (rootB_s hw9)) ⟨_, _, _, _, _, pmN1, rfl, hR152, NsM.pack1 (blk_set (show firstN R9.2 < cells_r112.length by rw [hcl_u]; exact hlt_al147)) hp8 hk8 SlR.nil ((((NsM.mono lec hn_r112)).agreeU hus9 hag2).to hfl.symm)⟩⟩
  ·refine W.litO (e := eStr) (l := [(btU R9.1.2)]) (css := [[sV _]]) sl54 ty9 zr9 rfl rfl rfl rfl rfl rfl ⟨rfl, trivial⟩ (fun v153 Ms154 ho155 => (W.perm (pmC (pmC pr9)).symm ?_))
   have q159 := ho155.form
   refine match q159 with | ⟨sa156, sc157, e_158⟩ => ?_
   subst e_158
   refine W.nil (WD.n9 Le.rfl (((sr9.trans (List.sublist_append_right _ _)).k9).k9) ?_)
   refine WD.any [5, 17] (by kernel_rfl) rfl ⟨WD.ap ?_, WD.ap ?_, trivial⟩
   ·have q160 := hn_r112.mem _ hnr9
    refine match q160 with | ⟨b_r, vp_r, vk_r, vr_r, Mp_r, hb_r, hm_r, _, _, _, _⟩ => ?_
    rw [ndB_slot, hsr9] at hb_r
    have hu_r := hus9 _ hnr9
    rw [ndB_slot, hsr9] at hu_r
    have hlv_r : (ndB kk R9.1.1).lvl = (kk : Int) := ndB_lvl
    refine W.lendQ (fun G1 hl1 hn1 => bat_fc (ArR.lent ha_r112 hl1 (sub_of ((((List.sublist_append_left _ _).trans (List.sublist_append_right _ _)).cons _).cons _) hn1) (in_of (i := 1) hn1 rfl)) _ b_r hb_r hu_r) cl43 rfl (W.nil (WD.n9 Le.rfl (((sr9.trans (List.sublist_append_right _ _)).k9).k9) (d9 [6, 7] ?_)))
    refine WD.tk 8 rfl (ok_loadM (vs := ic9) (((((List.sublist_append_left _ _).trans (List.sublist_append_right _ _)).cons _).cons _).subset hm_r) ty3 rfl rfl rfl (by simp)) (WD.tk 9 rfl (Ok.int (n := ((kk + 1 : Nat) : Int)) (ok_add rfl rfl om9) om9) (WD.a1 17 rfl (W.lit (e := eInt) (l := [root, (btS R9.1.2)]) (css := [[iV _], [iV _]]) sl55 ty3 zr3 rfl rfl rfl rfl rfl rfl ⟨⟨rfl, by first | exact hi6 | exact hv9⟩, ⟨rfl, by first | exact hi6 | exact hv9⟩, trivial⟩ (fun bl161 G161 hG161 hv161 => (W.nil (WD.n9 hG161 (((sr9.trans (List.sublist_append_right _ _)).k9).k9) (WD.tk 18 rfl (ok_build (L := [iV _, lV _ _ _, lV _ _ _, lV _ _ _]) pl70 zr70 rfl rfl rfl) (WD.a1 19 rfl (W.box (L := [iV _, lV _ _ _, lV _ _ _, lV _ _ _]) rfl rfl (fun b162 => (W.nil (WD.n9 Le.rfl ((((sr9.trans (List.sublist_append_right _ _)).k9).k9).cons _) (d9 [20] ?_)))))))))))))
    refine g9 9 ?_
    have hlt_al163 := firstN_lt (u := (((cells_r112, R9.2) : List (Option Nat) × List Bool)).2) (by show 0 < (freeN R9.2).length; have h9 := hsp2 hsp9; omega)
    refine W.call (Mp := Ma_r112) (oallocp (ArR.mono hG161 ha_r112) b162) rfl (pmC (pmC (pmC (pmA pr9)))) ?_
    intro v167 G164 Ms166 hG164 q165
    refine match q165 with | ⟨hv_hR168, hR168⟩ => ?_
    refine W.perm (pmC (pmC (pmC pr9))).symm ?_
    rw [nextA_t hlt_al163] at hv_hR168 hR168
    subst hv_hR168
    try dsimp only at hR168
    refine g9 13 ?_
    refine WC.sub (M' := ((b162, ce9 70 [nt9 (kk + 1), lV sa156 ([(btU R9.1.2)]).length sc157, lV (some ⟨bl161, 0, none⟩) 2 2, lV none 0 0]) :: ((b_t, ce9 66 [pt9 ba, nt9 (firstN (((cells_r112, R9.2) : List (Option Nat) × List Bool)).2), iV fan, iV leaf]) :: (Ms166 ++ (Ms154 ++ (Mn_r112 ++ [])))))) ((((List.Sublist.append_left (List.Sublist.append_left (List.Sublist.append_left (sr9.trans (List.sublist_append_right _ _)) _) _) _).k9).cons _).k9) (WC.perm (M' := ((b_t, ce9 66 [pt9 ba, nt9 (firstN (((cells_r112, R9.2) : List (Option Nat) × List Bool)).2), iV fan, iV leaf]) :: ((b162, ce9 70 [nt9 (kk + 1), lV sa156 ([(btU R9.1.2)]).length sc157, lV (some ⟨bl161, 0, none⟩) 2 2, lV none 0 0]) :: (Ms166 ++ (Ms154 ++ (Mn_r112 ++ [])))))) ((((pr9.cons _).trans pr9).cons _).trans ((List.Perm.swap _ _ _).trans (pr9.cons _))) (WC.ret ?_))
    refine ⟨.inr rfl, [_], ⟨rfl, trivial⟩, ((b_t, ce9 66 [pt9 ba, nt9 (firstN (((cells_r112, R9.2) : List (Option Nat) × List Bool)).2), iV fan, iV leaf]) :: ((b162, ce9 70 [nt9 (kk + 1), lV sa156 ([(btU R9.1.2)]).length sc157, lV (some ⟨bl161, 0, none⟩) 2 2, lV none 0 0]) :: (Ms166 ++ (Ms154 ++ Mn_r112)))), ((List.Sublist.append_left (List.Sublist.append_left (List.sublist_append_left _ _) _) _).k9).k9, ?_⟩
    have hE := putT_t hroom
    have hE1 := congrArg Prod.fst hE
    have hE2 := congrArg Prod.snd hE
    dsimp only at hE1 hE2
    rw [hR9] at hE2
    have hag2 : ∀ j : Nat, R9.2[j]? = some true → (cells_r112.set (firstN R9.2) (some b162))[j]? = cells_r112[j]? := fun j hj => agree_set hlt_al163 hj
    have hp8 := OwnR.to (ho155.mono (hG161.trans hG164)) (congrArg (fun s => [s]) hU9)
    have hk8 := SlR.cast (hv161.mono hG164) (show _ = ([R9.1.1, w9.2] : List (BT kk)).map BT.slot by rw [List.map_cons, List.map_cons, List.map_nil, hsr9, hS9])
    have hfl : ([R9.1.1, w9.2] : List (BT kk)).flatMap (nds kk) = btN R9.1 := by rw [btN_s hw9, List.flatMap_cons, List.flatMap_cons, List.flatMap_nil, List.append_nil]
    exact ⟨congrArg (Value.int .i64) hE1.symm, BpM.to (hE2.trans (rootB_s hw9)) ⟨_, _, _, _, _, pmN1, rfl, hR168, NsM.pack1 (blk_set (show firstN R9.2 < cells_r112.length by rw [hcl_u]; exact hlt_al163)) hp8 hk8 SlR.nil ((((NsM.mono lec hn_r112)).agreeU hus9 hag2).to hfl.symm)⟩⟩
   refine W.lit (e := eInt) (l := [root, (btS R9.1.2)]) (css := [[iV _], [iV _]]) sl55 ty3 zr3 rfl rfl rfl rfl rfl rfl ⟨⟨rfl, by first | exact hi6 | exact hv9⟩, ⟨rfl, by first | exact hi6 | exact hv9⟩, trivial⟩ (fun bl169 G169 hG169 hv169 => (W.nil (WD.n9 hG169 (((sr9.trans (List.sublist_append_right _ _)).k9).k9) (WD.a1 5 rfl ?_))))
   have q170 := (NsM.mono hG169 hn_r112).mem _ hnr9
   refine match q170 with | ⟨b_r, vp_r, vk_r, vr_r, Mp_r, hb_r, hm_r, _, _, _, _⟩ => ?_
   rw [ndB_slot, hsr9] at hb_r
   have hu_r := hus9 _ hnr9
   rw [ndB_slot, hsr9] at hu_r
   have hlv_r : (ndB kk R9.1.1).lvl = (kk : Int) := ndB_lvl
   refine W.lendQ (fun G1 hl1 hn1 => bat_fc (ArR.lent (ArR.mono hG169 ha_r112) hl1 (sub_of ((((List.sublist_append_left _ _).trans (List.sublist_append_right _ _)).cons _).cons _) hn1) (in_of (i := 1) hn1 rfl)) _ b_r hb_r hu_r) cl43 rfl (W.nil (WD.n9 Le.rfl (((sr9.trans (List.sublist_append_right _ _)).k9).k9) (d9 [6, 7] ?_)))
   refine WD.tk 8 rfl (ok_loadM (vs := ic9) (((((List.sublist_append_left _ _).trans (List.sublist_append_right _ _)).cons _).cons _).subset hm_r) ty3 rfl rfl rfl (by simp)) (WD.tk 9 rfl (Ok.int (n := ((kk + 1 : Nat) : Int)) (ok_add rfl rfl om9) om9) (WD.tk 18 rfl (ok_build (L := [iV _, lV _ _ _, lV _ _ _, lV _ _ _]) pl70 zr70 rfl rfl rfl) (WD.a1 19 rfl (W.box (L := [iV _, lV _ _ _, lV _ _ _, lV _ _ _]) rfl rfl (fun b171 => (W.nil (WD.n9 Le.rfl ((((sr9.trans (List.sublist_append_right _ _)).k9).k9).cons _) (d9 [20] ?_))))))))
   refine g9 9 ?_
   have hlt_al172 := firstN_lt (u := (((cells_r112, R9.2) : List (Option Nat) × List Bool)).2) (by show 0 < (freeN R9.2).length; have h9 := hsp2 hsp9; omega)
   refine W.call (Mp := Ma_r112) (oallocp (ArR.mono hG169 ha_r112) b171) rfl (pmC (pmC (pmC (pmA pr9)))) ?_
   intro v176 G173 Ms175 hG173 q174
   refine match q174 with | ⟨hv_hR177, hR177⟩ => ?_
   refine W.perm (pmC (pmC (pmC pr9))).symm ?_
   rw [nextA_t hlt_al172] at hv_hR177 hR177
   subst hv_hR177
   try dsimp only at hR177
   refine g9 13 ?_
   refine WC.sub (M' := ((b171, ce9 70 [nt9 (kk + 1), lV sa156 ([(btU R9.1.2)]).length sc157, lV (some ⟨bl169, 0, none⟩) 2 2, lV none 0 0]) :: ((b_t, ce9 66 [pt9 ba, nt9 (firstN (((cells_r112, R9.2) : List (Option Nat) × List Bool)).2), iV fan, iV leaf]) :: (Ms175 ++ (Ms154 ++ (Mn_r112 ++ [])))))) ((((List.Sublist.append_left (List.Sublist.append_left (List.Sublist.append_left (sr9.trans (List.sublist_append_right _ _)) _) _) _).k9).cons _).k9) (WC.perm (M' := ((b_t, ce9 66 [pt9 ba, nt9 (firstN (((cells_r112, R9.2) : List (Option Nat) × List Bool)).2), iV fan, iV leaf]) :: ((b171, ce9 70 [nt9 (kk + 1), lV sa156 ([(btU R9.1.2)]).length sc157, lV (some ⟨bl169, 0, none⟩) 2 2, lV none 0 0]) :: (Ms175 ++ (Ms154 ++ (Mn_r112 ++ [])))))) ((((pr9.cons _).trans pr9).cons _).trans ((List.Perm.swap _ _ _).trans (pr9.cons _))) (WC.ret ?_))
   refine ⟨.inr rfl, [_], ⟨rfl, trivial⟩, ((b_t, ce9 66 [pt9 ba, nt9 (firstN (((cells_r112, R9.2) : List (Option Nat) × List Bool)).2), iV fan, iV leaf]) :: ((b171, ce9 70 [nt9 (kk + 1), lV sa156 ([(btU R9.1.2)]).length sc157, lV (some ⟨bl169, 0, none⟩) 2 2, lV none 0 0]) :: (Ms175 ++ (Ms154 ++ Mn_r112)))), ((List.Sublist.append_left (List.Sublist.append_left (List.sublist_append_left _ _) _) _).k9).k9, ?_⟩
   have hE := putT_t hroom
   have hE1 := congrArg Prod.fst hE
   have hE2 := congrArg Prod.snd hE
   dsimp only at hE1 hE2
   rw [hR9] at hE2
   have hag2 : ∀ j : Nat, R9.2[j]? = some true → (cells_r112.set (firstN R9.2) (some b171))[j]? = cells_r112[j]? := fun j hj => agree_set hlt_al172 hj
   have hp8 := OwnR.to (ho155.mono (hG169.trans hG173)) (congrArg (fun s => [s]) hU9)
   have hk8 := SlR.cast (hv169.mono hG173) (show _ = ([R9.1.1, w9.2] : List (BT kk)).map BT.slot by rw [List.map_cons, List.map_cons, List.map_nil, hsr9, hS9])
   have hfl : ([R9.1.1, w9.2] : List (BT kk)).flatMap (nds kk) = btN R9.1 := by rw [btN_s hw9, List.flatMap_cons, List.flatMap_cons, List.flatMap_nil, List.append_nil]
   exact ⟨congrArg (Value.int .i64) hE1.symm, BpM.to (hE2.trans (rootB_s hw9)) ⟨_, _, _, _, _, pmN1, rfl, hR177, NsM.pack1 (blk_set (show firstN R9.2 < cells_r112.length by rw [hcl_u]; exact hlt_al172)) hp8 hk8 SlR.nil ((((NsM.mono lec hn_r112)).agreeU hus9 hag2).to hfl.symm)⟩⟩
  refine W.lit (e := eInt) (l := [root, (btS R9.1.2)]) (css := [[iV _], [iV _]]) sl55 ty3 zr3 rfl rfl rfl rfl rfl rfl ⟨⟨rfl, by first | exact hi6 | exact hv9⟩, ⟨rfl, by first | exact hi6 | exact hv9⟩, trivial⟩ (fun bl178 G178 hG178 hv178 => (W.nn ?_))
  refine WD.any [5, 11] (by kernel_rfl) rfl ⟨WD.ap ?_, WD.ap ?_, trivial⟩
  ·have q179 := (NsM.mono hG178 hn_r112).mem _ hnr9
   refine match q179 with | ⟨b_r, vp_r, vk_r, vr_r, Mp_r, hb_r, hm_r, _, _, _, _⟩ => ?_
   rw [ndB_slot, hsr9] at hb_r
   have hu_r := hus9 _ hnr9
   rw [ndB_slot, hsr9] at hu_r
   have hlv_r : (ndB kk R9.1.1).lvl = (kk : Int) := ndB_lvl
   refine W.lendQ (fun G1 hl1 hn1 => bat_fc (ArR.lent (ArR.mono hG178 ha_r112) hl1 (sub_of (((List.sublist_append_left _ _).cons _).cons _) hn1) (in_of (i := 1) hn1 rfl)) _ b_r hb_r hu_r) cl43 rfl (W.nn (d9 [6, 7] ?_))
   refine WD.tk 8 rfl (ok_loadM (vs := ic9) (((((List.sublist_append_left _ _).trans (List.sublist_append_right _ _)).cons _).cons _).subset hm_r) ty3 rfl rfl rfl (by simp)) (WD.tk 9 rfl (Ok.int (n := ((kk + 1 : Nat) : Int)) (ok_add rfl rfl om9) om9) (WD.a1 11 rfl (W.litO (e := eStr) (l := [(btU R9.1.2)]) (css := [[sV _]]) sl54 ty9 zr9 rfl rfl rfl rfl rfl rfl ⟨rfl, trivial⟩ (fun v180 Ms181 ho182 => (W.perm (pmC (pmC pr9)).symm ?_)))))
   have q186 := ho182.form
   refine match q186 with | ⟨sa183, sc184, e_185⟩ => ?_
   subst e_185
   refine W.nil (WD.n9 Le.rfl (((sr9.trans (List.sublist_append_right _ _)).k9).k9) (WD.tk 18 rfl (ok_build (L := [iV _, lV _ _ _, lV _ _ _, lV _ _ _]) pl70 zr70 rfl rfl rfl) (WD.a1 19 rfl (W.box (L := [iV _, lV _ _ _, lV _ _ _, lV _ _ _]) rfl rfl (fun b187 => (W.nil (WD.n9 Le.rfl ((((sr9.trans (List.sublist_append_right _ _)).k9).k9).cons _) (d9 [20] ?_))))))))
   refine g9 9 ?_
   have hlt_al188 := firstN_lt (u := (((cells_r112, R9.2) : List (Option Nat) × List Bool)).2) (by show 0 < (freeN R9.2).length; have h9 := hsp2 hsp9; omega)
   refine W.call (Mp := Ma_r112) (oallocp (ArR.mono hG178 ha_r112) b187) rfl (pmC (pmC (pmC (pmA pr9)))) ?_
   intro v192 G189 Ms191 hG189 q190
   refine match q190 with | ⟨hv_hR193, hR193⟩ => ?_
   refine W.perm (pmC (pmC (pmC pr9))).symm ?_
   rw [nextA_t hlt_al188] at hv_hR193 hR193
   subst hv_hR193
   try dsimp only at hR193
   refine g9 13 ?_
   refine WC.sub (M' := ((b187, ce9 70 [nt9 (kk + 1), lV sa183 ([(btU R9.1.2)]).length sc184, lV (some ⟨bl178, 0, none⟩) 2 2, lV none 0 0]) :: ((b_t, ce9 66 [pt9 ba, nt9 (firstN (((cells_r112, R9.2) : List (Option Nat) × List Bool)).2), iV fan, iV leaf]) :: (Ms191 ++ (Ms181 ++ (Mn_r112 ++ [])))))) ((((List.Sublist.append_left (List.Sublist.append_left (List.Sublist.append_left (sr9.trans (List.sublist_append_right _ _)) _) _) _).k9).cons _).k9) (WC.perm (M' := ((b_t, ce9 66 [pt9 ba, nt9 (firstN (((cells_r112, R9.2) : List (Option Nat) × List Bool)).2), iV fan, iV leaf]) :: ((b187, ce9 70 [nt9 (kk + 1), lV sa183 ([(btU R9.1.2)]).length sc184, lV (some ⟨bl178, 0, none⟩) 2 2, lV none 0 0]) :: (Ms191 ++ (Ms181 ++ (Mn_r112 ++ [])))))) ((((pr9.cons _).trans pr9).cons _).trans ((List.Perm.swap _ _ _).trans (pr9.cons _))) (WC.ret ?_))
   refine ⟨.inr rfl, [_], ⟨rfl, trivial⟩, ((b_t, ce9 66 [pt9 ba, nt9 (firstN (((cells_r112, R9.2) : List (Option Nat) × List Bool)).2), iV fan, iV leaf]) :: ((b187, ce9 70 [nt9 (kk + 1), lV sa183 ([(btU R9.1.2)]).length sc184, lV (some ⟨bl178, 0, none⟩) 2 2, lV none 0 0]) :: (Ms191 ++ (Ms181 ++ Mn_r112)))), ((List.Sublist.append_left (List.Sublist.append_left (List.sublist_append_left _ _) _) _).k9).k9, ?_⟩
   have hE := putT_t hroom
   have hE1 := congrArg Prod.fst hE
   have hE2 := congrArg Prod.snd hE
   dsimp only at hE1 hE2
   rw [hR9] at hE2
   have hag2 : ∀ j : Nat, R9.2[j]? = some true → (cells_r112.set (firstN R9.2) (some b187))[j]? = cells_r112[j]? := fun j hj => agree_set hlt_al188 hj
   have hp8 := OwnR.to (ho182.mono hG189) (congrArg (fun s => [s]) hU9)
   have hk8 := SlR.cast (hv178.mono hG189) (show _ = ([R9.1.1, w9.2] : List (BT kk)).map BT.slot by rw [List.map_cons, List.map_cons, List.map_nil, hsr9, hS9])
   have hfl : ([R9.1.1, w9.2] : List (BT kk)).flatMap (nds kk) = btN R9.1 := by rw [btN_s hw9, List.flatMap_cons, List.flatMap_cons, List.flatMap_nil, List.append_nil]
   exact ⟨congrArg (Value.int .i64) hE1.symm, BpM.to (hE2.trans (rootB_s hw9)) ⟨_, _, _, _, _, pmN1, rfl, hR193, NsM.pack1 (blk_set (show firstN R9.2 < cells_r112.length by rw [hcl_u]; exact hlt_al188)) hp8 hk8 SlR.nil ((((NsM.mono lec hn_r112)).agreeU hus9 hag2).to hfl.symm)⟩⟩
  refine W.litO (e := eStr) (l := [(btU R9.1.2)]) (css := [[sV _]]) sl54 ty9 zr9 rfl rfl rfl rfl rfl rfl ⟨rfl, trivial⟩ (fun v194 Ms195 ho196 => (W.perm (pmC (pmC pr9)).symm ?_))
  have q200 := ho196.form
  refine match q200 with | ⟨sa197, sc198, e_199⟩ => ?_
  subst e_199
  refine W.nil (WD.n9 Le.rfl (((sr9.trans (List.sublist_append_right _ _)).k9).k9) (WD.a1 5 rfl ?_))
  have q201 := (NsM.mono hG178 hn_r112).mem _ hnr9
  refine match q201 with | ⟨b_r, vp_r, vk_r, vr_r, Mp_r, hb_r, hm_r, _, _, _, _⟩ => ?_
  rw [ndB_slot, hsr9] at hb_r
  have hu_r := hus9 _ hnr9
  rw [ndB_slot, hsr9] at hu_r
  have hlv_r : (ndB kk R9.1.1).lvl = (kk : Int) := ndB_lvl
  refine W.lendQ (fun G1 hl1 hn1 => bat_fc (ArR.lent (ArR.mono hG178 ha_r112) hl1 (sub_of ((((List.sublist_append_left _ _).trans (List.sublist_append_right _ _)).cons _).cons _) hn1) (in_of (i := 1) hn1 rfl)) _ b_r hb_r hu_r) cl43 rfl (W.nil (WD.n9 Le.rfl (((sr9.trans (List.sublist_append_right _ _)).k9).k9) (d9 [6, 7] ?_)))
  refine WD.tk 8 rfl (ok_loadM (vs := ic9) (((((List.sublist_append_left _ _).trans (List.sublist_append_right _ _)).cons _).cons _).subset hm_r) ty3 rfl rfl rfl (by simp)) (WD.tk 9 rfl (Ok.int (n := ((kk + 1 : Nat) : Int)) (ok_add rfl rfl om9) om9) (WD.tk 18 rfl (ok_build (L := [iV _, lV _ _ _, lV _ _ _, lV _ _ _]) pl70 zr70 rfl rfl rfl) (WD.a1 19 rfl (W.box (L := [iV _, lV _ _ _, lV _ _ _, lV _ _ _]) rfl rfl (fun b202 => (W.nil (WD.n9 Le.rfl ((((sr9.trans (List.sublist_append_right _ _)).k9).k9).cons _) (d9 [20] ?_))))))))
  refine g9 9 ?_
  have hlt_al203 := firstN_lt (u := (((cells_r112, R9.2) : List (Option Nat) × List Bool)).2) (by show 0 < (freeN R9.2).length; have h9 := hsp2 hsp9; omega)
  refine W.call (Mp := Ma_r112) (oallocp (ArR.mono hG178 ha_r112) b202) rfl (pmC (pmC (pmC (pmA pr9)))) ?_
  intro v207 G204 Ms206 hG204 q205
  refine match q205 with | ⟨hv_hR208, hR208⟩ => ?_
  refine W.perm (pmC (pmC (pmC pr9))).symm ?_
  rw [nextA_t hlt_al203] at hv_hR208 hR208
  subst hv_hR208
  try dsimp only at hR208
  refine g9 13 ?_
  refine WC.sub (M' := ((b202, ce9 70 [nt9 (kk + 1), lV sa197 ([(btU R9.1.2)]).length sc198, lV (some ⟨bl178, 0, none⟩) 2 2, lV none 0 0]) :: ((b_t, ce9 66 [pt9 ba, nt9 (firstN (((cells_r112, R9.2) : List (Option Nat) × List Bool)).2), iV fan, iV leaf]) :: (Ms206 ++ (Ms195 ++ (Mn_r112 ++ [])))))) ((((List.Sublist.append_left (List.Sublist.append_left (List.Sublist.append_left (sr9.trans (List.sublist_append_right _ _)) _) _) _).k9).cons _).k9) (WC.perm (M' := ((b_t, ce9 66 [pt9 ba, nt9 (firstN (((cells_r112, R9.2) : List (Option Nat) × List Bool)).2), iV fan, iV leaf]) :: ((b202, ce9 70 [nt9 (kk + 1), lV sa197 ([(btU R9.1.2)]).length sc198, lV (some ⟨bl178, 0, none⟩) 2 2, lV none 0 0]) :: (Ms206 ++ (Ms195 ++ (Mn_r112 ++ [])))))) ((((pr9.cons _).trans pr9).cons _).trans ((List.Perm.swap _ _ _).trans (pr9.cons _))) (WC.ret ?_))
  refine ⟨.inr rfl, [_], ⟨rfl, trivial⟩, ((b_t, ce9 66 [pt9 ba, nt9 (firstN (((cells_r112, R9.2) : List (Option Nat) × List Bool)).2), iV fan, iV leaf]) :: ((b202, ce9 70 [nt9 (kk + 1), lV sa197 ([(btU R9.1.2)]).length sc198, lV (some ⟨bl178, 0, none⟩) 2 2, lV none 0 0]) :: (Ms206 ++ (Ms195 ++ Mn_r112)))), ((List.Sublist.append_left (List.Sublist.append_left (List.sublist_append_left _ _) _) _).k9).k9, ?_⟩
  have hE := putT_t hroom
  have hE1 := congrArg Prod.fst hE
  have hE2 := congrArg Prod.snd hE
  dsimp only at hE1 hE2
  rw [hR9] at hE2
  have hag2 : ∀ j : Nat, R9.2[j]? = some true → (cells_r112.set (firstN R9.2) (some b202))[j]? = cells_r112[j]? := fun j hj => agree_set hlt_al203 hj
  have hp8 := OwnR.to (ho196.mono hG204) (congrArg (fun s => [s]) hU9)
  have hk8 := SlR.cast (hv178.mono hG204) (show _ = ([R9.1.1, w9.2] : List (BT kk)).map BT.slot by rw [List.map_cons, List.map_cons, List.map_nil, hsr9, hS9])
  have hfl : ([R9.1.1, w9.2] : List (BT kk)).flatMap (nds kk) = btN R9.1 := by rw [btN_s hw9, List.flatMap_cons, List.flatMap_cons, List.flatMap_nil, List.append_nil]
  exact ⟨congrArg (Value.int .i64) hE1.symm, BpM.to (hE2.trans (rootB_s hw9)) ⟨_, _, _, _, _, pmN1, rfl, hR208, NsM.pack1 (blk_set (show firstN R9.2 < cells_r112.length by rw [hcl_u]; exact hlt_al203)) hp8 hk8 SlR.nil ((((NsM.mono lec hn_r112)).agreeU hus9 hag2).to hfl.symm)⟩⟩
 refine g9 7 ?_
 refine WC.sub (M' := ((b_t, ce9 66 [pt9 ba, iV root, iV fan, iV leaf]) :: (Ma_r112 ++ (Mn_r112 ++ [])))) (((List.Sublist.append_left (List.Sublist.append_left (sr9.trans (List.sublist_append_right _ _)) _) _).k9).cons _) (WC.ret ?_)
 refine ⟨.inr rfl, [_], ⟨rfl, trivial⟩, ((b_t, ce9 66 [pt9 ba, iV root, iV fan, iV leaf]) :: (Ma_r112 ++ Mn_r112)), (List.Sublist.append_left (List.sublist_append_left _ _) _).k9, ?_⟩
 have hE := putT_t hroom
 have hE1 := congrArg Prod.fst hE
 have hE2 := congrArg Prod.snd hE
 dsimp only at hE1 hE2
 rw [hR9] at hE2
 have hr9 : R9.1.2 = none := btS_none p54 fun w hw => by
   obtain ⟨b9, h9⟩ := hbk_u (ndB kk w.2) (by rw [btN_s hw]; exact List.mem_append_right _ nds_head)
   rw [ndB_slot] at h9; exact h9.1
 exact ⟨congrArg (Value.int .i64) hE1.symm, BpM.to (hE2.trans (rootB_n hr9)) ⟨_, _, _, _, _, pr9, hsr9.symm, ha_r112, (hn_r112).to (btN_n hr9)⟩⟩

end Go.Proofs.YtemoalimclnfkaaGreat
