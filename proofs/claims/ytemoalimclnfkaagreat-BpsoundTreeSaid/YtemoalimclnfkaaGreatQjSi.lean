/- The walk of an insertion. -/
import Derived.Test.YtemoalimclnfkaaGreatQjSh
import Derived.Test.YtemoalimclnfkaaGreatQjRo
set_option maxRecDepth 100000
set_option maxHeartbeats 1600000
set_option linter.unusedVariables false
set_option linter.unusedSimpArgs false
set_option linter.unnecessarySimpa false
namespace Go.Proofs.YtemoalimclnfkaaGreat
open Go Go.Fw Go.RowKit
attribute [local irreducible] Ok W WC
def InsC (kk : Nat) : Prop := ∀ {G : GH} {b_t ba : Nat} {st : List (Option Nat) × List Bool} {Ma : MH} (h_a : ArR ePt 64 4 3 114 ba G st Ma) {root fan leaf : Int} (i : Int) (k : Str) (ek : Int) (ev : Str) {y : BT kk} {Mn : MH} (h_n : NsM 70 9 st.1 (nds kk y) G Mn) (lo : Int) (sp : Span) (hs : sp.norm = sp) (hk : sp.has k = true) (hok : BT.ok fan leaf kk lo (mxB fan leaf kk) sp y) (hus : UsN st.2 (nds kk y)) (hi9 : i = y.slot) (hb9 : 4 ≤ fan ∧ fan ≤ 64 ∧ 2 ≤ leaf ∧ leaf ≤ 64) (hk16 : k.b.size ≤ 16) (hv16 : ev.b.size ≤ 16) (hg9 : Grows ⟨ek, ev⟩) (hroom : spB fan leaf k ⟨ek, ev⟩ kk y ≤ (freeN st.2).length),
    Fc Tryz.prog 77 [pt9 b_t, iV i, sV k.b, .agg (List.toArray [iV ek, sV ev.b])] G ((b_t, Obj.cells (List.toArray [pt9 ba, iV root, iV fan, iV leaf]) 66 (0, 0)) :: (Ma ++ Mn)) (fun v G' M' => InsQ (ArR ePt 64 4 3 114 ba) 70 9 (b_t, Obj.cells (List.toArray [pt9 ba, iV root, iV fan, iV leaf]) 66 (0, 0)) st (insB fan leaf k (⟨ek, ev⟩ : Eff) kk y st.2) v G' M')
theorem binsert0_fc {G : GH} {b_t : Nat} {ba : Nat} {st : List (Option Nat) × List Bool} {Ma : MH} (h_a : ArR ePt 64 4 3 114 ba G st Ma) {root : Int} {fan : Int} {leaf : Int} (i : Int) (k : Str) (ek : Int) (ev : Str) {y : BT 0} {Mn : MH} (h_n : NsM 70 9 st.1 (nds 0 y) G Mn) (lo : Int) (sp : Span) (hs : sp.norm = sp) (hk : sp.has k = true) (hok : BT.ok fan leaf 0 lo (mxB fan leaf 0) sp y) (hus : UsN st.2 (nds 0 y)) (hi9 : i = y.slot) (hb9 : 4 ≤ fan ∧ fan ≤ 64 ∧ 2 ≤ leaf ∧ leaf ≤ 64) (hk16 : k.b.size ≤ 16) (hv16 : ev.b.size ≤ 16) (hg9 : Grows ⟨ek, ev⟩) (hroom : spB fan leaf k ⟨ek, ev⟩ 0 y ≤ (freeN st.2).length) :
    Fc Tryz.prog 77 [pt9 b_t, iV i, sV k.b, .agg #[iV ek, sV ev.b]] G ((b_t, ce9 66 [pt9 ba, iV root, iV fan, iV leaf]) :: (Ma ++ (Mn))) (fun v G' M' => InsQ (ArR ePt 64 4 3 114 ba) 70 9 (b_t, Obj.cells (List.toArray [pt9 ba, iV root, iV fan, iV leaf]) 66 (0, 0)) st (insB fan leaf k (⟨ek, ev⟩ : Eff) 0 y st.2) v G' M') := by
 have hlr9 : (lfR y).length ≤ 64 := by have h9 : ((lfR y).length : Int) ≤ leaf := hok.1.2; omega
 have hwl9 := hok.2.1.srt.with_len k (⟨ek, ev⟩ : Eff)
 have hwl8 := with_ge hok.2.1.srt (k := k) hg9
 refine Fc.go [.tmp 8, .tmp 9] Tryz.func77 Tryz.ntmps77 rfl (fun w0 => (WC.perm (M' := ((b_t, ce9 66 [pt9 ba, iV root, iV fan, iV leaf]) :: (Ma ++ (Mn ++ [])))) (by simp) (WC.seq ?_)))
 refine match (NsM.open0 h_n) with | ⟨b_n, vp_n, vk_n, vr_n, Mp_n, eM_, hb_n, hp_n, hk_n, hr_n⟩ => ?_
 subst eM_
 refine WC.perm (M' := ((b_n, ce9 70 [iV 0, vp_n, vk_n, vr_n]) :: ((b_t, ce9 66 [pt9 ba, iV root, iV fan, iV leaf]) :: (Ma ++ (Mp_n ++ []))))) (pmD (pmB pr9)).symm ?_
 refine match hp_n.form with | ⟨pa_n, pc_n, eV_⟩ => ?_
 subst eV_
 refine match hk_n.form with | ⟨ka_n, kc_n, eV_⟩ => ?_
 subst eV_
 refine match hr_n.form with | ⟨_, _, eV_⟩ => ?_
 subst eV_
 have hbi : Blk st.1 i b_n := by rw [hi9]; exact hb_n
 have hu9 : hasN st.2 y.slot = true := by have h9 := hus _ nds_head; rw [ndB_slot] at h9; exact h9
 have hui : hasN st.2 i = true := by rw [hi9]; exact hu9
 refine g9 1 ?_
 refine W.box (L := [iV _, sV _]) rfl rfl (fun b1 => (g9 8 ?_))
 refine W.lendQ (fun G1 hl1 hn1 => bat_fc (ArR.lent h_a hl1 (sub_of ((((List.sublist_append_left _ _).cons _).cons _).cons _) hn1) (in_of (i := 2) hn1 rfl)) _ b_n hbi hui) cl43 rfl (g9 15 ?_)
 refine WC.dw ((sn9.k9.cons _).k9) (d9 [0, 1, 2, 3, 5, 6] ?_)
 refine WD.a1 4 rfl (g9 1 ?_)
 refine W.nn (WD.a1 7 rfl (W.cS (mwith_fc hr_n k ek ev hok.2.1 om9 om9) rfl (fun sa_hv3 sc_hv3 G2 hG2 hv3 => (W.nn (d9 [8, 9, 10] ?_)))))
 refine g9 17 ?_
 refine WC.cd (fun h52 p52 => ?_) (fun h52 p52 => ?_)
 ·refine g9 6 ?_
  refine WC.sub (M' := ((b_n, ce9 70 [iV 0, lV pa_n ([]).length pc_n, lV ka_n ([]).length kc_n, lV sa_hv3 ((withN (lfR y) k (⟨ek, ev⟩ : Eff))).length sc_hv3]) :: ((b_t, ce9 66 [pt9 ba, iV root, iV fan, iV leaf]) :: (Ma ++ (Mp_n ++ []))))) ((((List.Sublist.append_left (List.Sublist.append_left sr9 _) _).k9).k9).cons _) (WC.perm (M' := ((b_t, ce9 66 [pt9 ba, iV root, iV fan, iV leaf]) :: ((b_n, ce9 70 [iV 0, lV pa_n ([]).length pc_n, lV ka_n ([]).length kc_n, lV sa_hv3 ((withN (lfR y) k (⟨ek, ev⟩ : Eff))).length sc_hv3]) :: (Ma ++ (Mp_n ++ []))))) ((((pr9.cons _).trans pr9).cons _).trans ((List.Perm.swap _ _ _).trans (pr9.cons _))) (g9 3 ?_))
  refine ⟨.inr rfl, [_, _], ⟨rfl, rfl, trivial⟩, ((b_t, ce9 66 [pt9 ba, iV root, iV fan, iV leaf]) :: ((b_n, ce9 70 [iV 0, lV pa_n ([]).length pc_n, lV ka_n ([]).length kc_n, lV sa_hv3 ((withN (lfR y) k (⟨ek, ev⟩ : Eff))).length sc_hv3]) :: (Ma ++ Mp_n))), ((List.Sublist.append_left (List.sublist_append_left _ _) _).k9).k9, ?_⟩
  exact InsQ.of (insB_0t p52) ⟨_, _, _, pmN0, (ArR.mono hG2 h_a), (NsM.pack0 hb_n (hp_n.mono hG2) (hk_n.mono hG2) hv3).bn, fun j _ => rfl, rfl⟩
 refine g9 8 ?_
 refine W.call (Mp := []) (rowsh_fc hv3) rfl pr9 ?_
 intro _ G9 _ hG9 q12
 refine match q12 with | ⟨e_13, _, e_14, _, _, e_15, hv10, hv11⟩ => ?_
 subst e_13
 subst e_14
 subst e_15
 have q17 := hv10.form
 refine match q17 with | ⟨sa_hv10, sc_hv10, e_16⟩ => ?_
 subst e_16
 have q19 := hv11.form
 refine match q19 with | ⟨sa_hv11, sc_hv11, e_18⟩ => ?_
 subst e_18
 refine g9 27 ?_
 refine W.ok (ok_build (L := [iV _, lV _ _ _, lV _ _ _, lV _ _ _]) pl70 zr70 rfl rfl rfl) (W.box (L := [iV _, lV _ _ _, lV _ _ _, lV _ _ _]) rfl rfl (fun b20 => ?_))
 have hlt_al21 := firstN_lt (u := (st).2) (by unfold spB at hroom; rw [if_neg p52] at hroom; omega)
 refine W.call (Mp := Ma) (oallocp (ArR.mono lec h_a) b20) rfl (pmC (pmC (pmC (pmC pr9)))) ?_
 intro v25 G22 Ms24 hG22 q23
 refine match q23 with | ⟨hv_hR26, hR26⟩ => ?_
 refine W.perm (pmC (pmC (pmC (pmC pr9)))).symm ?_
 rw [nextA_t hlt_al21] at hv_hR26 hR26
 subst hv_hR26
 try dsimp only at hR26
 refine g9 15 ?_
 refine WC.sub (M' := ((b20, ce9 70 [iV 0, lV none 0 0, lV none 0 0, lV sa_hv11 ((rowsN ((withN (lfR y) k (⟨ek, ev⟩ : Eff)))).2.1).length sc_hv11]) :: ((b_n, ce9 70 [iV 0, lV pa_n ([]).length pc_n, lV ka_n ([]).length kc_n, lV sa_hv10 ((rowsN ((withN (lfR y) k (⟨ek, ev⟩ : Eff)))).1).length sc_hv10]) :: ((b_t, ce9 66 [pt9 ba, iV root, iV fan, iV leaf]) :: (Ms24 ++ (Mp_n ++ [])))))) (((((List.Sublist.append_left (List.Sublist.append_left sr9 _) _).k9).k9).cons _).k9) (WC.perm (M' := ((b_t, ce9 66 [pt9 ba, iV root, iV fan, iV leaf]) :: ((b_n, ce9 70 [iV 0, lV pa_n ([]).length pc_n, lV ka_n ([]).length kc_n, lV sa_hv10 ((rowsN ((withN (lfR y) k (⟨ek, ev⟩ : Eff)))).1).length sc_hv10]) :: ((b20, ce9 70 [iV 0, lV none 0 0, lV none 0 0, lV sa_hv11 ((rowsN ((withN (lfR y) k (⟨ek, ev⟩ : Eff)))).2.1).length sc_hv11]) :: (Ms24 ++ (Mp_n ++ [])))))) ((((((pr9.cons _).trans pr9).cons _).trans ((List.Perm.swap _ _ _).trans (pr9.cons _))).cons _).trans ((List.Perm.swap _ _ _).trans (((List.Perm.swap _ _ _).trans (pr9.cons _)).cons _))) (g9 2 ?_))
 refine ⟨.inr rfl, [_, _], ⟨rfl, rfl, trivial⟩, ((b_t, ce9 66 [pt9 ba, iV root, iV fan, iV leaf]) :: ((b_n, ce9 70 [iV 0, lV pa_n ([]).length pc_n, lV ka_n ([]).length kc_n, lV sa_hv10 ((rowsN ((withN (lfR y) k (⟨ek, ev⟩ : Eff)))).1).length sc_hv10]) :: ((b20, ce9 70 [iV 0, lV none 0 0, lV none 0 0, lV sa_hv11 ((rowsN ((withN (lfR y) k (⟨ek, ev⟩ : Eff)))).2.1).length sc_hv11]) :: (Ms24 ++ Mp_n)))), (((List.Sublist.append_left (List.sublist_append_left _ _) _).k9).k9).k9, ?_⟩
 have hcl9 : st.1.length = st.2.length := by obtain ⟨_, _, h9, _⟩ := h_a; exact h9
 have hrt9 := rowsN_t (l := (withN (lfR y) k (⟨ek, ev⟩ : Eff))) om9
 have hra : SlR ePair _ _ (rhA (withN (lfR y) k (⟨ek, ev⟩ : Eff))) := SlR.cast (hv10.mono hG22) (by rw [hrt9]; rfl)
 have hrb : SlR ePair _ _ (rhB (withN (lfR y) k (⟨ek, ev⟩ : Eff))) := SlR.cast (hv11.mono hG22) (by rw [hrt9]; rfl)
 exact InsQ.of (insB_0f p52) ⟨_, _, _, pmN3, hR26, (NsM.pack0 (hb_n.agreeU hu9 fun j hj => agree_set hlt_al21 hj) (hp_n.mono lec) (hk_n.mono lec) hra).two (NsM.pack0 (blk_set om9) OwnR.nil SlR.nil hrb), fun j hj => agree_set hlt_al21 hj, rfl⟩

theorem binsert1_fc {G : GH} {b_t : Nat} {ba : Nat} {st : List (Option Nat) × List Bool} {Ma : MH} (h_a : ArR ePt 64 4 3 114 ba G st Ma) {root : Int} {fan : Int} {leaf : Int} (i : Int) (k : Str) (ek : Int) (ev : Str) {kk : Nat} {y : BT (kk + 1)} {Mn : MH} (h_n : NsM 70 9 st.1 (nds (kk + 1) y) G Mn) (lo : Int) (sp : Span) (hs : sp.norm = sp) (hk : sp.has k = true) (hok : BT.ok fan leaf (kk + 1) lo (mxB fan leaf (kk + 1)) sp y) (hus : UsN st.2 (nds (kk + 1) y)) (hi9 : i = y.slot) (hb9 : 4 ≤ fan ∧ fan ≤ 64 ∧ 2 ≤ leaf ∧ leaf ≤ 64) (hk16 : k.b.size ≤ 16) (hv16 : ev.b.size ≤ 16) (hg9 : Grows ⟨ek, ev⟩) (hroom : spB fan leaf k ⟨ek, ev⟩ (kk + 1) y ≤ (freeN st.2).length) (ih : InsC kk) :
    Fc Tryz.prog 77 [pt9 b_t, iV i, sV k.b, .agg #[iV ek, sV ev.b]] G ((b_t, ce9 66 [pt9 ba, iV root, iV fan, iV leaf]) :: (Ma ++ (Mn))) (fun v G' M' => InsQ (ArR ePt 64 4 3 114 ba) 70 9 (b_t, Obj.cells (List.toArray [pt9 ba, iV root, iV fan, iV leaf]) 66 (0, 0)) st (insB fan leaf k (⟨ek, ev⟩ : Eff) (kk + 1) y st.2) v G' M') := by
 have hl9 := kid_at hs hok k
 have hch9 := hok.2
 obtain ⟨v9, hv8, v1, v2, v3, v4⟩ := hch9.at hs (i := routeN (ndP y) k) (List.length_filter_le _ _)
 have hvk : v9.has k = true := by rw [v2, hk, decide_eq_true rfl]; rfl
 have hpl9 := hch9.len
 have hK64 : ((ndK y).length : Int) ≤ 64 := by have h9 : ((ndK y).length : Int) ≤ fan := hok.1.2; omega
 have hrs9 := (hch9.piv hs).1
 have hKsl : ((ndK y).map BT.slot).length = (ndK y).length := List.length_map ..
 have hcl9 : st.1.length = st.2.length := by obtain ⟨_, _, h9, _⟩ := h_a; exact h9
 have hul9 : st.2.length ≤ 4096 := by obtain ⟨_, _, _, h9, _⟩ := h_a; exact h9
 obtain ⟨hle9, hle8⟩ := sp_kid hl9 hroom
 have hnw := ins_new (key := k) (e := ⟨ek, ev⟩) hb9.1 v1 v3 hle9
 have hso9 := ins_some (key := k) (e := ⟨ek, ev⟩) (u := st.2) v1 v3
 have hrg9 := fun w => ins_range9 (key := k) (e := ⟨ek, ev⟩) om9 om9 hg9 hk16 hv16 hs hk hok (u := st.2) hl9 (w := w)
 have hsl9 : (insB fan leaf k ⟨ek, ev⟩ kk ((ndK y)[routeN (ndP y) k]'hl9) st.2).1.1.slot = ((ndK y)[routeN (ndP y) k]'hl9).slot := ins_slot
 have hIB : insB fan leaf k ⟨ek, ev⟩ (kk + 1) y st.2 = upB fan y (routeN (ndP y) k) (insB fan leaf k ⟨ek, ev⟩ kk ((ndK y)[routeN (ndP y) k]'hl9) st.2) := insB_at hl9
 generalize hR9 : insB fan leaf k ⟨ek, ev⟩ kk ((ndK y)[routeN (ndP y) k]'hl9) st.2 = R9 at hnw hso9 hrg9 hsl9 hIB
 obtain ⟨nw9, w1, w2, w3, w4⟩ := hnw
 have hus9 : UsN R9.2 (btN R9.1) := w1.us (us_kid hus (List.getElem_mem hl9)) w2
 have hP9l : ((ndP y).take (routeN (ndP y) k) ++ ([btU R9.1.2] ++ (ndP y).drop (routeN (ndP y) k))).length = (ndP y).length + 1 := by simp only [List.length_append, List.length_cons, List.length_nil, List.length_take, List.length_drop]; omega
 have hK9l : (((ndK y).map BT.slot).take ((routeN (ndP y) k) + 1) ++ ([btS R9.1.2] ++ ((ndK y).map BT.slot).drop ((routeN (ndP y) k) + 1))).length = (ndK y).length + 1 := by simp only [List.length_append, List.length_cons, List.length_nil, List.length_take, List.length_drop]; omega
 refine Fc.go [.tmp 8, .tmp 9] Tryz.func77 Tryz.ntmps77 rfl (fun w0 => (WC.perm (M' := ((b_t, ce9 66 [pt9 ba, iV root, iV fan, iV leaf]) :: (Ma ++ (Mn ++ [])))) (by simp) (WC.seq ?_)))
 refine match (NsM.open1 h_n) with | ⟨b_n, vp_n, vk_n, vr_n, Mp_n, B_n, eM_, hb_n, hp_n, hk_n, hr_n, hB_n⟩ => ?_
 subst eM_
 refine WC.perm (M' := ((b_n, ce9 70 [nt9 (kk + 1), vp_n, vk_n, vr_n]) :: ((b_t, ce9 66 [pt9 ba, iV root, iV fan, iV leaf]) :: (Ma ++ (Mp_n ++ (B_n ++ [])))))) (pmD (pmB ((pmF pr9).cons _))).symm ?_
 refine match hp_n.form with | ⟨pa_n, pc_n, eV_⟩ => ?_
 subst eV_
 refine match hk_n.form with | ⟨ka_n, kc_n, eV_⟩ => ?_
 subst eV_
 refine match hr_n.form with | ⟨ra_n, rc_n, eV_⟩ => ?_
 subst eV_
 have hbi : Blk st.1 i b_n := by rw [hi9]; exact hb_n
 have hu9 : hasN st.2 y.slot = true := by have h9 := hus _ nds_head; rw [ndB_slot] at h9; exact h9
 have hui : hasN st.2 i = true := by rw [hi9]; exact hu9
 refine match NsM.kid hl9 hB_n with | ⟨A_n, D_n, C_n, eB_n, hA_n, hD_n, hC_n⟩ => ?_
 subst eB_n
 refine WC.perm (M' := ((b_n, ce9 70 [nt9 (kk + 1), lV pa_n ((ndP y)).length pc_n, lV ka_n (((ndK y).map BT.slot)).length kc_n, lV ra_n ([]).length rc_n]) :: ((b_t, ce9 66 [pt9 ba, iV root, iV fan, iV leaf]) :: (Ma ++ (Mp_n ++ (A_n ++ (D_n ++ (C_n ++ [])))))))) (List.Perm.of_eq (by first | (simp only [List.append_assoc]; done) | (simp only [List.append_assoc]; rfl))) (g9 1 ?_)
 refine W.box (L := [iV _, sV _]) rfl rfl (fun b27 => (g9 8 ?_))
 refine W.lendQ (fun G1 hl1 hn1 => bat_fc (ArR.lent h_a hl1 (sub_of ((((List.sublist_append_left _ _).cons _).cons _).cons _) hn1) (in_of (i := 2) hn1 rfl)) _ b_n hbi hui) cl43 rfl (g9 13 ?_)
 refine WC.cd (fun h32 p32 => ?_) (fun h32 p32 => ?_)
 ·exact absurd p32 om9
 refine g9 9 ?_
 refine W.lendQ (fun G1 hl1 hn1 => broute_fc (hp_n.lent hl1 (sub_of (((((List.sublist_append_left _ _).trans (List.sublist_append_right _ _)).cons _).cons _).cons _) hn1)) k hrs9) cl65 rfl (g9 4 ?_)
 refine WC.dw ((sn9.k9.k9).k9) (d9 [0, 1, 2, 3, 4, 5] ?_)
 refine hk_n.a2 (i := (routeN (ndP y) k)) om9 (fun he28 hi29 => (WD.tk 6 rfl (ok_indexAddr (i := (routeN (ndP y) k)) sl55 ty3 hk_n rfl rfl ⟨om9, om9⟩) (d9 [7, 8, 9] ?_)))
 refine WD.a1 10 rfl (W.call (Mp := ((b_t, ce9 66 [pt9 ba, iV root, iV fan, iV leaf]) :: (Ma ++ D_n))) (Mr := ((b27, ce9 90 [iV ek, sV ev.b]) :: ((b_n, ce9 70 [nt9 (kk + 1), lV pa_n ((ndP y)).length pc_n, lV ka_n (((ndK y).map BT.slot)).length kc_n, lV ra_n ([]).length rc_n]) :: (Mp_n ++ (A_n ++ (C_n ++ [])))))) (ih h_a _ k ek ev hD_n _ v9 v1 hvk v3 (us_kid hus (List.getElem_mem hl9)) (List.getElem_map ..) hb9 hk16 hv16 hg9 hle9) rfl (((pmC (pmC ((pmF (pmA (pmA pr9))).trans pr9))).cons _).trans ((List.Perm.swap _ _ _).trans (((List.Perm.swap _ _ _).trans (pr9.cons _)).cons _))) ?_)
 intro v36 G33 Ms35 hG33 q34
 rw [hR9] at q34
 refine match q34 with | ⟨cells_r32, Ma_r32, Mn_r32, hP_r32, ha_r32, hn_r32, hag_r32, e_37⟩ => ?_
 subst e_37
 refine W.perm (M' := ((b_t, ce9 66 [pt9 ba, iV root, iV fan, iV leaf]) :: (Ma_r32 ++ Mn_r32)) ++ ((b27, ce9 90 [iV ek, sV ev.b]) :: ((b_n, ce9 70 [nt9 (kk + 1), lV pa_n ((ndP y)).length pc_n, lV ka_n (((ndK y).map BT.slot)).length kc_n, lV ra_n ([]).length rc_n]) :: (Mp_n ++ (A_n ++ (C_n ++ [])))))) (List.Perm.append_right _ hP_r32.symm) ?_
 have hcl_u : cells_r32.length = R9.2.length := by obtain ⟨_, _, h9, _⟩ := ha_r32; exact h9
 have hul_u : R9.2.length ≤ 4096 := by obtain ⟨_, _, _, h9, _⟩ := ha_r32; exact h9
 have hbk_u := hn_r32.blk
 have hbn_u := hb_n.agreeU hu9 hag_r32
 refine W.perm (M' := ((b27, ce9 90 [iV ek, sV ev.b]) :: ((b_n, ce9 70 [nt9 (kk + 1), lV pa_n ((ndP y)).length pc_n, lV ka_n (((ndK y).map BT.slot)).length kc_n, lV ra_n ([]).length rc_n]) :: ((b_t, ce9 66 [pt9 ba, iV root, iV fan, iV leaf]) :: (Ma_r32 ++ (Mn_r32 ++ (Mp_n ++ (A_n ++ (C_n ++ []))))))))) (((pmC (pmC ((pmF pr9).trans pr9))).cons _).trans ((List.Perm.swap _ _ _).trans (((List.Perm.swap _ _ _).trans (pr9.cons _)).cons _))).symm (W.nn (d9 [11, 12, 13, 14, 15] ?_))
 refine g9 9 ?_
 refine WC.cd (fun h101 p101 => ?_) (fun h101 p101 => ?_)
 ·have hr9 : R9.1.2 = none := btS_none p101 fun w hw => by
    obtain ⟨b9, h9⟩ := hbk_u (ndB kk w.2) (by rw [btN_s hw]; exact List.mem_append_right _ nds_head)
    rw [ndB_slot] at h9; exact h9.1
  refine g9 6 ?_
  refine WC.sub (M' := ((b_n, ce9 70 [nt9 (kk + 1), lV pa_n ((ndP y)).length pc_n, lV ka_n (((ndK y).map BT.slot)).length kc_n, lV ra_n ([]).length rc_n]) :: ((b_t, ce9 66 [pt9 ba, iV root, iV fan, iV leaf]) :: (Ma_r32 ++ (Mn_r32 ++ (Mp_n ++ (A_n ++ (C_n ++ [])))))))) ((((List.Sublist.append_left (List.Sublist.append_left (List.Sublist.append_left (List.Sublist.append_left (List.Sublist.append_left sr9 _) _) _) _) _).k9).k9).cons _) (WC.perm (M' := ((b_t, ce9 66 [pt9 ba, iV root, iV fan, iV leaf]) :: ((b_n, ce9 70 [nt9 (kk + 1), lV pa_n ((ndP y)).length pc_n, lV ka_n (((ndK y).map BT.slot)).length kc_n, lV ra_n ([]).length rc_n]) :: (Ma_r32 ++ (Mn_r32 ++ (Mp_n ++ (A_n ++ (C_n ++ [])))))))) ((((pr9.cons _).trans pr9).cons _).trans ((List.Perm.swap _ _ _).trans (pr9.cons _))) (WC.perm (M' := ((b_t, ce9 66 [pt9 ba, iV root, iV fan, iV leaf]) :: ((b_n, ce9 70 [nt9 (kk + 1), lV pa_n ((ndP y)).length pc_n, lV ka_n (((ndK y).map BT.slot)).length kc_n, lV ra_n ([]).length rc_n]) :: (Ma_r32 ++ (Mp_n ++ (A_n ++ (Mn_r32 ++ (C_n ++ [])))))))) ((((List.Perm.append_left _ ((List.Perm.append_left _ ((List.Perm.append_left _ ((List.Perm.append_left _ ((List.Perm.append_left _ pr9).trans pr9)).trans pr9)).trans (pmA pr9))).trans (pmA pr9))).trans pr9).cons _).cons _) (g9 2 ?_)))
  refine ⟨.inr rfl, [_, _], ⟨rfl, rfl, trivial⟩, ((b_t, ce9 66 [pt9 ba, iV root, iV fan, iV leaf]) :: ((b_n, ce9 70 [nt9 (kk + 1), lV pa_n ((ndP y)).length pc_n, lV ka_n (((ndK y).map BT.slot)).length kc_n, lV ra_n ([]).length rc_n]) :: (Ma_r32 ++ (Mp_n ++ (A_n ++ (Mn_r32 ++ C_n)))))), ((List.Sublist.append_left (List.Sublist.append_left (List.Sublist.append_left (List.Sublist.append_left (List.sublist_append_left _ _) _) _) _) _).k9).k9, ?_⟩
  have hE : insB fan leaf k ⟨ek, ev⟩ (kk + 1) y st.2 = ((mkN y.slot (ndP y) ((ndK y).set (routeN (ndP y) k) R9.1.1), none), R9.2) := by rw [hIB]; unfold upB; rw [hr9]
  have hX := NsM.set_kid hl9 (((NsM.mono hG33 hA_n)).agreeU (us_take hus _) hag_r32) ((hn_r32).to (btN_n hr9)) (((NsM.mono hG33 hC_n)).agreeU (us_drop hus _) hag_r32)
  have hk8 := SlR.cast (hk_n.mono hG33) (K_set hl9 hsl9).symm
  exact InsQ.of hE ⟨_, _, _, pmN1, ha_r32, (NsM.pack1 hbn_u (hp_n.mono hG33) hk8 (hr_n.mono hG33) hX).bn, hag_r32, rfl⟩
 obtain ⟨w9, hw9⟩ : ∃ w, R9.1.2 = some w := by
   cases h9 : R9.1.2 with
   | none => rw [h9] at p101; exact absurd rfl p101
   | some w => exact ⟨w, rfl⟩
 have hU9 : btU R9.1.2 = w9.1 := by rw [hw9]; rfl
 have hS9 : btS R9.1.2 = w9.2.slot := by rw [hw9]; rfl
 obtain ⟨b8, hb8⟩ := hbk_u (ndB kk w9.2) (by rw [btN_s hw9]; exact List.mem_append_right _ nds_head)
 rw [ndB_slot] at hb8
 obtain ⟨hb7, hb6⟩ := hb8.lt
 have hv9 : i64 (btS R9.1.2) := by rw [hS9]; exact ⟨om9, om9⟩
 obtain ⟨hh9, hl8⟩ := hrg9 w9 hw9
 rw [← hU9] at hh9 hl8
 have hsp9 := hso9.1 (by rw [hw9]; rfl)
 refine g9 3 ?_
 refine WC.dw ((sn9.k9.cons _).k9) (d9 [0, 1, 2, 3, 4, 6, 7, 8, 10, 11, 12] ?_)
 refine WD.any [5, 9] (by kernel_rfl) rfl ⟨WD.ap ?_, WD.ap ?_, trivial⟩
 ·refine g9 1 ?_
  refine W.nn (WD.a1 9 rfl (g9 1 ?_))
  refine W.nn (WD.a1 13 rfl (W.giveO (hp_n.mono hG33) (pmC (pmC (pmC (pmA (pmA pr9))))) (fun G38 hG38 hv38 => (W.call (Mp := []) (binsO_fc hv38 (hk_n.mono lec) (routeN (ndP y) k) (btU R9.1.2) (btS R9.1.2) om9 om9 om9 hh9 hl8 hv9) rfl pr9 ?_))))
  intro v42 G39 Ms41 hG39 q40
  refine match q40 with | ⟨vp_z43, vk_z43, e_44, hp_z43, hk_z43⟩ => ?_
  subst e_44
  refine W.perm (pmC (pmC (pmC pr9))).symm ?_
  have q48 := hp_z43.form
  refine match q48 with | ⟨sa45, sc46, e_47⟩ => ?_
  subst e_47
  have q52 := hk_z43.form
  refine match q52 with | ⟨sa49, sc50, e_51⟩ => ?_
  subst e_51
  refine W.nn (d9 [14, 15, 16, 17, 18, 19, 20, 21, 22] ?_)
  refine g9 17 ?_
  refine WC.cd (fun h132 p132 => ?_) (fun h132 p132 => ?_)
  ·refine g9 6 ?_
   refine WC.sub (M' := ((b_n, ce9 70 [nt9 (kk + 1), lV sa45 (((ndP y).take (routeN (ndP y) k) ++ ([btU R9.1.2] ++ (ndP y).drop (routeN (ndP y) k)))).length sc46, lV sa49 ((((ndK y).map BT.slot).take ((routeN (ndP y) k) + 1) ++ ([btS R9.1.2] ++ ((ndK y).map BT.slot).drop ((routeN (ndP y) k) + 1)))).length sc50, lV ra_n ([]).length rc_n]) :: ((b_t, ce9 66 [pt9 ba, iV root, iV fan, iV leaf]) :: (Ms41 ++ (Ma_r32 ++ (Mn_r32 ++ (A_n ++ (C_n ++ [])))))))) ((((List.Sublist.append_left (List.Sublist.append_left (List.Sublist.append_left (List.Sublist.append_left (List.Sublist.append_left sr9 _) _) _) _) _).k9).k9).cons _) (WC.perm (M' := ((b_t, ce9 66 [pt9 ba, iV root, iV fan, iV leaf]) :: ((b_n, ce9 70 [nt9 (kk + 1), lV sa45 (((ndP y).take (routeN (ndP y) k) ++ ([btU R9.1.2] ++ (ndP y).drop (routeN (ndP y) k)))).length sc46, lV sa49 ((((ndK y).map BT.slot).take ((routeN (ndP y) k) + 1) ++ ([btS R9.1.2] ++ ((ndK y).map BT.slot).drop ((routeN (ndP y) k) + 1)))).length sc50, lV ra_n ([]).length rc_n]) :: (Ms41 ++ (Ma_r32 ++ (Mn_r32 ++ (A_n ++ (C_n ++ [])))))))) ((((pr9.cons _).trans pr9).cons _).trans ((List.Perm.swap _ _ _).trans (pr9.cons _))) (WC.perm (M' := ((b_t, ce9 66 [pt9 ba, iV root, iV fan, iV leaf]) :: ((b_n, ce9 70 [nt9 (kk + 1), lV sa45 (((ndP y).take (routeN (ndP y) k) ++ ([btU R9.1.2] ++ (ndP y).drop (routeN (ndP y) k)))).length sc46, lV sa49 ((((ndK y).map BT.slot).take ((routeN (ndP y) k) + 1) ++ ([btS R9.1.2] ++ ((ndK y).map BT.slot).drop ((routeN (ndP y) k) + 1)))).length sc50, lV ra_n ([]).length rc_n]) :: (Ma_r32 ++ (Ms41 ++ (A_n ++ (Mn_r32 ++ (C_n ++ [])))))))) ((((List.Perm.append_left _ ((List.Perm.append_left _ ((List.Perm.append_left _ ((List.Perm.append_left _ ((List.Perm.append_left _ pr9).trans pr9)).trans pr9)).trans (pmA pr9))).trans pr9)).trans (pmA pr9)).cons _).cons _) (g9 2 ?_)))
   refine ⟨.inr rfl, [_, _], ⟨rfl, rfl, trivial⟩, ((b_t, ce9 66 [pt9 ba, iV root, iV fan, iV leaf]) :: ((b_n, ce9 70 [nt9 (kk + 1), lV sa45 (((ndP y).take (routeN (ndP y) k) ++ ([btU R9.1.2] ++ (ndP y).drop (routeN (ndP y) k)))).length sc46, lV sa49 ((((ndK y).map BT.slot).take ((routeN (ndP y) k) + 1) ++ ([btS R9.1.2] ++ ((ndK y).map BT.slot).drop ((routeN (ndP y) k) + 1)))).length sc50, lV ra_n ([]).length rc_n]) :: (Ma_r32 ++ (Ms41 ++ (A_n ++ (Mn_r32 ++ C_n)))))), ((List.Sublist.append_left (List.Sublist.append_left (List.Sublist.append_left (List.Sublist.append_left (List.sublist_append_left _ _) _) _) _) _).k9).k9, ?_⟩
   have hKt := K_two (w := w9.2) hl9 hsl9
   rw [← hS9] at hKt
   have hup := up_len hl9 R9.1.1 w9.2
   have hX := NsM.two_kids (((NsM.mono ((hG33.trans hG38).trans hG39) hA_n)).agreeU (us_take hus _) hag_r32) (((NsM.mono (hG38.trans hG39) hn_r32)).to (btN_s hw9)) (((NsM.mono ((hG33.trans hG38).trans hG39) hC_n)).agreeU (us_drop hus _) hag_r32)
   have hE : insB fan leaf k ⟨ek, ev⟩ (kk + 1) y st.2 = ((mkN y.slot ((ndP y).take (routeN (ndP y) k) ++ ([btU R9.1.2] ++ (ndP y).drop (routeN (ndP y) k))) ((ndK y).take (routeN (ndP y) k) ++ ([R9.1.1, w9.2] ++ (ndK y).drop ((routeN (ndP y) k) + 1))), none), R9.2) := by rw [hIB, hU9]; unfold upB; rw [hw9]; exact spl_none om9
   have hk8 := SlR.cast hk_z43 hKt.symm
   exact InsQ.of hE ⟨_, _, _, pmN1, (ArR.mono lec ha_r32), (NsM.pack1 hbn_u hp_z43 hk8 (hr_n.mono lec) hX).bn, hag_r32, rfl⟩
  refine g9 3 ?_
  refine WC.dw ((sn9.k9.k9).k9) (d9 [0, 1, 2, 3, 4, 5, 6, 7] ?_)
  refine WD.a1 8 rfl (W.giveO hp_z43 (pmC (pmC (pmC pr9))) (fun G53 hG53 hv53 => (W.call (Mp := []) (bhalveO_fc hv53 (hk_z43.mono hG53) ⟨om9, om9⟩) rfl pr9 ?_)))
  intro v57 G54 Ms56 hG54 q55
  refine match q55 with | ⟨va_z58, _, vb_z58, kb_z58, Ma_z58, Mb_z58, K_z58, e_59, e_60, hK_z58, ha_z58, hka_z58, hb_z58, hkb_z58⟩ => ?_
  subst e_59
  subst e_60
  refine W.perm (M' := ((b27, ce9 90 [iV ek, sV ev.b]) :: ((b_n, ce9 70 [nt9 (kk + 1), lV sa45 (((ndP y).take (routeN (ndP y) k) ++ ([btU R9.1.2] ++ (ndP y).drop (routeN (ndP y) k)))).length sc46, lV sa49 ((((ndK y).map BT.slot).take ((routeN (ndP y) k) + 1) ++ ([btS R9.1.2] ++ ((ndK y).map BT.slot).drop ((routeN (ndP y) k) + 1)))).length sc50, lV ra_n ([]).length rc_n]) :: ((b_t, ce9 66 [pt9 ba, iV root, iV fan, iV leaf]) :: (Ma_z58 ++ (Mb_z58 ++ (Ma_r32 ++ (Mn_r32 ++ (A_n ++ (C_n ++ [])))))))))) (pmC (Ms := Ma_z58 ++ Mb_z58) (pmC (Ms := Ma_z58 ++ Mb_z58) (pmC (Ms := Ma_z58 ++ Mb_z58) (List.Perm.of_eq (List.append_assoc _ _ _))))).symm ?_
  have q64 := ha_z58.form
  refine match q64 with | ⟨sa61, sc62, e_63⟩ => ?_
  subst e_63
  have q68 := hka_z58.form
  refine match q68 with | ⟨sa65, sc66, e_67⟩ => ?_
  subst e_67
  have q72 := hb_z58.form
  refine match q72 with | ⟨sa69, sc70, e_71⟩ => ?_
  subst e_71
  have q76 := hkb_z58.form
  refine match q76 with | ⟨sa73, sc74, e_75⟩ => ?_
  subst e_75
  refine W.nn (d9 [9, 10, 11, 12, 13, 14, 15, 16, 17, 18, 19, 20, 21] ?_)
  refine g9 17 ?_
  refine WC.dw ((sn9.k9.k9).k9) (d9 [0, 1, 2, 3, 4, 5, 6, 7, 8, 9] ?_)
  refine WD.tk 10 rfl (ok_build (L := [iV _, lV _ _ _, lV _ _ _, lV _ _ _]) pl70 zr70 rfl rfl rfl) (WD.a1 11 rfl (W.box (L := [iV _, lV _ _ _, lV _ _ _, lV _ _ _]) rfl rfl (fun b77 => (W.nn (WD.a1 12 rfl ?_)))))
  have hlt_al78 := firstN_lt (u := (((cells_r32, R9.2) : List (Option Nat) × List Bool)).2) (by show 0 < (freeN R9.2).length; have h9 := hle8 hsp9 om9; omega)
  refine W.call (Mp := Ma_r32) (oallocp (ArR.mono lec ha_r32) b77) rfl (pmC (pmC (pmC (pmC (pmA (pmA pr9)))))) ?_
  intro v82 G79 Ms81 hG79 q80
  refine match q80 with | ⟨hv_hR83, hR83⟩ => ?_
  refine W.perm (pmC (pmC (pmC (pmC pr9)))).symm ?_
  rw [nextA_t hlt_al78] at hv_hR83 hR83
  subst hv_hR83
  try dsimp only at hR83
  refine W.nn (d9 [13, 14, 15, 16] ?_)
  refine g9 10 ?_
  refine WC.sub (M' := ((b77, ce9 70 [nt9 (kk + 1), lV sa69 ((((ndP y).take (routeN (ndP y) k) ++ ([btU R9.1.2] ++ (ndP y).drop (routeN (ndP y) k))).drop (((((ndK y).map BT.slot).take ((routeN (ndP y) k) + 1) ++ ([btS R9.1.2] ++ ((ndK y).map BT.slot).drop ((routeN (ndP y) k) + 1))).length + 1) / 2))).length sc70, lV sa73 (((((ndK y).map BT.slot).take ((routeN (ndP y) k) + 1) ++ ([btS R9.1.2] ++ ((ndK y).map BT.slot).drop ((routeN (ndP y) k) + 1))).drop (((((ndK y).map BT.slot).take ((routeN (ndP y) k) + 1) ++ ([btS R9.1.2] ++ ((ndK y).map BT.slot).drop ((routeN (ndP y) k) + 1))).length + 1) / 2))).length sc74, lV none 0 0]) :: ((b_n, ce9 70 [nt9 (kk + 1), lV sa61 ((((ndP y).take (routeN (ndP y) k) ++ ([btU R9.1.2] ++ (ndP y).drop (routeN (ndP y) k))).take ((((((ndK y).map BT.slot).take ((routeN (ndP y) k) + 1) ++ ([btS R9.1.2] ++ ((ndK y).map BT.slot).drop ((routeN (ndP y) k) + 1))).length + 1) / 2) - 1))).length sc62, lV sa65 (((((ndK y).map BT.slot).take ((routeN (ndP y) k) + 1) ++ ([btS R9.1.2] ++ ((ndK y).map BT.slot).drop ((routeN (ndP y) k) + 1))).take (((((ndK y).map BT.slot).take ((routeN (ndP y) k) + 1) ++ ([btS R9.1.2] ++ ((ndK y).map BT.slot).drop ((routeN (ndP y) k) + 1))).length + 1) / 2))).length sc66, lV ra_n ([]).length rc_n]) :: ((b_t, ce9 66 [pt9 ba, iV root, iV fan, iV leaf]) :: (Ms81 ++ (Ma_z58 ++ (Mb_z58 ++ (Mn_r32 ++ (A_n ++ (C_n ++ [])))))))))) (((((List.Sublist.append_left (List.Sublist.append_left (List.Sublist.append_left (List.Sublist.append_left (List.Sublist.append_left (List.Sublist.append_left sr9 _) _) _) _) _) _).k9).k9).cons _).k9) (WC.perm (M' := ((b_t, ce9 66 [pt9 ba, iV root, iV fan, iV leaf]) :: ((b_n, ce9 70 [nt9 (kk + 1), lV sa61 ((((ndP y).take (routeN (ndP y) k) ++ ([btU R9.1.2] ++ (ndP y).drop (routeN (ndP y) k))).take ((((((ndK y).map BT.slot).take ((routeN (ndP y) k) + 1) ++ ([btS R9.1.2] ++ ((ndK y).map BT.slot).drop ((routeN (ndP y) k) + 1))).length + 1) / 2) - 1))).length sc62, lV sa65 (((((ndK y).map BT.slot).take ((routeN (ndP y) k) + 1) ++ ([btS R9.1.2] ++ ((ndK y).map BT.slot).drop ((routeN (ndP y) k) + 1))).take (((((ndK y).map BT.slot).take ((routeN (ndP y) k) + 1) ++ ([btS R9.1.2] ++ ((ndK y).map BT.slot).drop ((routeN (ndP y) k) + 1))).length + 1) / 2))).length sc66, lV ra_n ([]).length rc_n]) :: ((b77, ce9 70 [nt9 (kk + 1), lV sa69 ((((ndP y).take (routeN (ndP y) k) ++ ([btU R9.1.2] ++ (ndP y).drop (routeN (ndP y) k))).drop (((((ndK y).map BT.slot).take ((routeN (ndP y) k) + 1) ++ ([btS R9.1.2] ++ ((ndK y).map BT.slot).drop ((routeN (ndP y) k) + 1))).length + 1) / 2))).length sc70, lV sa73 (((((ndK y).map BT.slot).take ((routeN (ndP y) k) + 1) ++ ([btS R9.1.2] ++ ((ndK y).map BT.slot).drop ((routeN (ndP y) k) + 1))).drop (((((ndK y).map BT.slot).take ((routeN (ndP y) k) + 1) ++ ([btS R9.1.2] ++ ((ndK y).map BT.slot).drop ((routeN (ndP y) k) + 1))).length + 1) / 2))).length sc74, lV none 0 0]) :: (Ms81 ++ (Ma_z58 ++ (Mb_z58 ++ (Mn_r32 ++ (A_n ++ (C_n ++ [])))))))))) ((((((pr9.cons _).trans pr9).cons _).trans ((List.Perm.swap _ _ _).trans (pr9.cons _))).cons _).trans ((List.Perm.swap _ _ _).trans (((List.Perm.swap _ _ _).trans (pr9.cons _)).cons _))) (WC.perm (M' := ((b_t, ce9 66 [pt9 ba, iV root, iV fan, iV leaf]) :: ((b_n, ce9 70 [nt9 (kk + 1), lV sa61 ((((ndP y).take (routeN (ndP y) k) ++ ([btU R9.1.2] ++ (ndP y).drop (routeN (ndP y) k))).take ((((((ndK y).map BT.slot).take ((routeN (ndP y) k) + 1) ++ ([btS R9.1.2] ++ ((ndK y).map BT.slot).drop ((routeN (ndP y) k) + 1))).length + 1) / 2) - 1))).length sc62, lV sa65 (((((ndK y).map BT.slot).take ((routeN (ndP y) k) + 1) ++ ([btS R9.1.2] ++ ((ndK y).map BT.slot).drop ((routeN (ndP y) k) + 1))).take (((((ndK y).map BT.slot).take ((routeN (ndP y) k) + 1) ++ ([btS R9.1.2] ++ ((ndK y).map BT.slot).drop ((routeN (ndP y) k) + 1))).length + 1) / 2))).length sc66, lV ra_n ([]).length rc_n]) :: ((b77, ce9 70 [nt9 (kk + 1), lV sa69 ((((ndP y).take (routeN (ndP y) k) ++ ([btU R9.1.2] ++ (ndP y).drop (routeN (ndP y) k))).drop (((((ndK y).map BT.slot).take ((routeN (ndP y) k) + 1) ++ ([btS R9.1.2] ++ ((ndK y).map BT.slot).drop ((routeN (ndP y) k) + 1))).length + 1) / 2))).length sc70, lV sa73 (((((ndK y).map BT.slot).take ((routeN (ndP y) k) + 1) ++ ([btS R9.1.2] ++ ((ndK y).map BT.slot).drop ((routeN (ndP y) k) + 1))).drop (((((ndK y).map BT.slot).take ((routeN (ndP y) k) + 1) ++ ([btS R9.1.2] ++ ((ndK y).map BT.slot).drop ((routeN (ndP y) k) + 1))).length + 1) / 2))).length sc74, lV none 0 0]) :: (Ms81 ++ (Ma_z58 ++ (Mb_z58 ++ (A_n ++ (Mn_r32 ++ (C_n ++ [])))))))))) (((((List.Perm.append_left _ ((List.Perm.append_left _ ((List.Perm.append_left _ ((List.Perm.append_left _ ((List.Perm.append_left _ ((List.Perm.append_left _ pr9).trans pr9)).trans pr9)).trans (pmA pr9))).trans pr9)).trans pr9)).trans pr9).cons _).cons _).cons _) (WC.ret ?_)))
  refine ⟨.inr rfl, [_, _], ⟨rfl, rfl, trivial⟩, ((b_t, ce9 66 [pt9 ba, iV root, iV fan, iV leaf]) :: ((b_n, ce9 70 [nt9 (kk + 1), lV sa61 ((((ndP y).take (routeN (ndP y) k) ++ ([btU R9.1.2] ++ (ndP y).drop (routeN (ndP y) k))).take ((((((ndK y).map BT.slot).take ((routeN (ndP y) k) + 1) ++ ([btS R9.1.2] ++ ((ndK y).map BT.slot).drop ((routeN (ndP y) k) + 1))).length + 1) / 2) - 1))).length sc62, lV sa65 (((((ndK y).map BT.slot).take ((routeN (ndP y) k) + 1) ++ ([btS R9.1.2] ++ ((ndK y).map BT.slot).drop ((routeN (ndP y) k) + 1))).take (((((ndK y).map BT.slot).take ((routeN (ndP y) k) + 1) ++ ([btS R9.1.2] ++ ((ndK y).map BT.slot).drop ((routeN (ndP y) k) + 1))).length + 1) / 2))).length sc66, lV ra_n ([]).length rc_n]) :: ((b77, ce9 70 [nt9 (kk + 1), lV sa69 ((((ndP y).take (routeN (ndP y) k) ++ ([btU R9.1.2] ++ (ndP y).drop (routeN (ndP y) k))).drop (((((ndK y).map BT.slot).take ((routeN (ndP y) k) + 1) ++ ([btS R9.1.2] ++ ((ndK y).map BT.slot).drop ((routeN (ndP y) k) + 1))).length + 1) / 2))).length sc70, lV sa73 (((((ndK y).map BT.slot).take ((routeN (ndP y) k) + 1) ++ ([btS R9.1.2] ++ ((ndK y).map BT.slot).drop ((routeN (ndP y) k) + 1))).drop (((((ndK y).map BT.slot).take ((routeN (ndP y) k) + 1) ++ ([btS R9.1.2] ++ ((ndK y).map BT.slot).drop ((routeN (ndP y) k) + 1))).length + 1) / 2))).length sc74, lV none 0 0]) :: (Ms81 ++ (Ma_z58 ++ (Mb_z58 ++ (A_n ++ (Mn_r32 ++ C_n)))))))), (((List.Sublist.append_left (List.Sublist.append_left (List.Sublist.append_left (List.Sublist.append_left (List.Sublist.append_left (List.sublist_append_left _ _) _) _) _) _) _).k9).k9).k9, ?_⟩
  have hKt := K_two (w := w9.2) hl9 hsl9
  rw [← hS9] at hKt
  have hup := up_len hl9 R9.1.1 w9.2
  have hX := NsM.two_kids (((NsM.mono (((((hG33.trans hG38).trans hG39).trans hG53).trans hG54).trans hG79) hA_n)).agreeU (us_take hus _) hag_r32) (((NsM.mono ((((hG38.trans hG39).trans hG53).trans hG54).trans hG79) hn_r32)).to (btN_s hw9)) (((NsM.mono (((((hG33.trans hG38).trans hG39).trans hG53).trans hG54).trans hG79) hC_n)).agreeU (us_drop hus _) hag_r32)
  have hlen9 : (((ndK y).map BT.slot).take ((routeN (ndP y) k) + 1) ++ ([btS R9.1.2] ++ ((ndK y).map BT.slot).drop ((routeN (ndP y) k) + 1))).length = ((ndK y).take (routeN (ndP y) k) ++ ([R9.1.1, w9.2] ++ (ndK y).drop ((routeN (ndP y) k) + 1))).length := by omega
  have hE : insB fan leaf k ⟨ek, ev⟩ (kk + 1) y st.2 = ((mkN y.slot (((ndP y).take (routeN (ndP y) k) ++ ([btU R9.1.2] ++ (ndP y).drop (routeN (ndP y) k))).take (((((ndK y).take (routeN (ndP y) k) ++ ([R9.1.1, w9.2] ++ (ndK y).drop ((routeN (ndP y) k) + 1))).length + 1) / 2) - 1)) (((ndK y).take (routeN (ndP y) k) ++ ([R9.1.1, w9.2] ++ (ndK y).drop ((routeN (ndP y) k) + 1))).take ((((ndK y).take (routeN (ndP y) k) ++ ([R9.1.1, w9.2] ++ (ndK y).drop ((routeN (ndP y) k) + 1))).length + 1) / 2)), some (((ndP y).take (routeN (ndP y) k) ++ ([btU R9.1.2] ++ (ndP y).drop (routeN (ndP y) k))).getD (((((ndK y).take (routeN (ndP y) k) ++ ([R9.1.1, w9.2] ++ (ndK y).drop ((routeN (ndP y) k) + 1))).length + 1) / 2) - 1) Str.nil, mkN (firstN R9.2 : Int) (((ndP y).take (routeN (ndP y) k) ++ ([btU R9.1.2] ++ (ndP y).drop (routeN (ndP y) k))).drop ((((ndK y).take (routeN (ndP y) k) ++ ([R9.1.1, w9.2] ++ (ndK y).drop ((routeN (ndP y) k) + 1))).length + 1) / 2)) (((ndK y).take (routeN (ndP y) k) ++ ([R9.1.1, w9.2] ++ (ndK y).drop ((routeN (ndP y) k) + 1))).drop ((((ndK y).take (routeN (ndP y) k) ++ ([R9.1.1, w9.2] ++ (ndK y).drop ((routeN (ndP y) k) + 1))).length + 1) / 2)))), R9.2.set (firstN R9.2) true) := by rw [hIB, hU9]; unfold upB; rw [hw9]; exact spl_some om9
  have hag2 : ∀ j : Nat, R9.2[j]? = some true → (cells_r32.set (firstN R9.2) (some b77))[j]? = cells_r32[j]? := fun j hj => agree_set hlt_al78 hj
  have hag3 : ∀ j : Nat, st.2[j]? = some true → (cells_r32.set (firstN R9.2) (some b77))[j]? = cells_r32[j]? := fun j hj => hag2 j (w1.get hj)
  have hY := (NsM.two_kids ((((NsM.mono (((((hG33.trans hG38).trans hG39).trans hG53).trans hG54).trans hG79) hA_n)).agreeU (us_take hus _) hag_r32).agreeU (us_take hus _) hag3) ((((NsM.mono ((((hG38.trans hG39).trans hG53).trans hG54).trans hG79) hn_r32)).to (btN_s hw9)).agreeU (by rw [← btN_s hw9]; exact hus9) hag2) ((((NsM.mono (((((hG33.trans hG38).trans hG39).trans hG53).trans hG54).trans hG79) hC_n)).agreeU (us_drop hus _) hag_r32).agreeU (us_drop hus _) hag3))
  have hL9 : (((ndK y).take (routeN (ndP y) k) ++ ([R9.1.1, w9.2] ++ (ndK y).drop ((routeN (ndP y) k) + 1)))).flatMap (nds kk) = (((ndK y).take (routeN (ndP y) k) ++ ([R9.1.1, w9.2] ++ (ndK y).drop ((routeN (ndP y) k) + 1))).take ((((ndK y).take (routeN (ndP y) k) ++ ([R9.1.1, w9.2] ++ (ndK y).drop ((routeN (ndP y) k) + 1))).length + 1) / 2)).flatMap (nds kk) ++ (((ndK y).take (routeN (ndP y) k) ++ ([R9.1.1, w9.2] ++ (ndK y).drop ((routeN (ndP y) k) + 1))).drop ((((ndK y).take (routeN (ndP y) k) ++ ([R9.1.1, w9.2] ++ (ndK y).drop ((routeN (ndP y) k) + 1))).length + 1) / 2)).flatMap (nds kk) := by rw [← List.flatMap_append, List.take_append_drop]
  have hq9 := NsM.app.1 (hY.to hL9)
  refine match hq9 with | ⟨X9, Y9, hXY, hx9, hy9⟩ => ?_
  have hp1 := OwnR.to (ha_z58.mono hG79) (congrArg (fun n => ((ndP y).take (routeN (ndP y) k) ++ ([btU R9.1.2] ++ (ndP y).drop (routeN (ndP y) k))).take ((n + 1) / 2 - 1)) hlen9)
  have hp2 := OwnR.to (hb_z58.mono hG79) (congrArg (fun n => ((ndP y).take (routeN (ndP y) k) ++ ([btU R9.1.2] ++ (ndP y).drop (routeN (ndP y) k))).drop ((n + 1) / 2)) hlen9)
  have hk1 := SlR.cast (hka_z58.mono hG79) (show _ = (((ndK y).take (routeN (ndP y) k) ++ ([R9.1.1, w9.2] ++ (ndK y).drop ((routeN (ndP y) k) + 1))).take ((((ndK y).take (routeN (ndP y) k) ++ ([R9.1.1, w9.2] ++ (ndK y).drop ((routeN (ndP y) k) + 1))).length + 1) / 2)).map BT.slot by rw [hlen9, ← hKt, List.map_take])
  have hk2 := SlR.cast (hkb_z58.mono hG79) (show _ = (((ndK y).take (routeN (ndP y) k) ++ ([R9.1.1, w9.2] ++ (ndK y).drop ((routeN (ndP y) k) + 1))).drop ((((ndK y).take (routeN (ndP y) k) ++ ([R9.1.1, w9.2] ++ (ndK y).drop ((routeN (ndP y) k) + 1))).length + 1) / 2)).map BT.slot by rw [hlen9, ← hKt, List.map_drop])
  have hK8 : K_z58 = ((ndP y).take (routeN (ndP y) k) ++ ([btU R9.1.2] ++ (ndP y).drop (routeN (ndP y) k))).getD (((((ndK y).take (routeN (ndP y) k) ++ ([R9.1.1, w9.2] ++ (ndK y).drop ((routeN (ndP y) k) + 1))).length + 1) / 2) - 1) Str.nil := by rw [hK_z58, hlen9]
  subst hK8
  exact InsQ.of hE ⟨_, _, _, pmN2 hXY, hR83, (NsM.pack1 (hbn_u.agreeU (w1.keep hu9) hag2) hp1 hk1 (hr_n.mono lec) hx9).two (NsM.pack1 (blk_set (show firstN R9.2 < cells_r32.length by rw [hcl_u]; exact hlt_al78)) hp2 hk2 SlR.nil hy9), fun j hj => (hag3 j hj).trans (hag_r32 j hj), rfl⟩
 refine g9 1 ?_
 refine W.nn (WD.a1 5 rfl (g9 1 ?_))
 refine W.nn (WD.a1 13 rfl (W.giveO (hp_n.mono hG33) (pmC (pmC (pmC (pmA (pmA pr9))))) (fun G84 hG84 hv84 => (W.call (Mp := []) (binsO_fc hv84 (hk_n.mono lec) (routeN (ndP y) k) (btU R9.1.2) (btS R9.1.2) om9 om9 om9 hh9 hl8 hv9) rfl pr9 ?_))))
 intro v88 G85 Ms87 hG85 q86
 refine match q86 with | ⟨vp_z89, vk_z89, e_90, hp_z89, hk_z89⟩ => ?_
 subst e_90
 refine W.perm (pmC (pmC (pmC pr9))).symm ?_
 have q94 := hp_z89.form
 refine match q94 with | ⟨sa91, sc92, e_93⟩ => ?_
 subst e_93
 have q98 := hk_z89.form
 refine match q98 with | ⟨sa95, sc96, e_97⟩ => ?_
 subst e_97
 refine W.nn (d9 [14, 15, 16, 17, 18, 19, 20, 21, 22] ?_)
 refine g9 17 ?_
 refine WC.cd (fun h132 p132 => ?_) (fun h132 p132 => ?_)
 ·refine g9 6 ?_
  refine WC.sub (M' := ((b_n, ce9 70 [nt9 (kk + 1), lV sa91 (((ndP y).take (routeN (ndP y) k) ++ ([btU R9.1.2] ++ (ndP y).drop (routeN (ndP y) k)))).length sc92, lV sa95 ((((ndK y).map BT.slot).take ((routeN (ndP y) k) + 1) ++ ([btS R9.1.2] ++ ((ndK y).map BT.slot).drop ((routeN (ndP y) k) + 1)))).length sc96, lV ra_n ([]).length rc_n]) :: ((b_t, ce9 66 [pt9 ba, iV root, iV fan, iV leaf]) :: (Ms87 ++ (Ma_r32 ++ (Mn_r32 ++ (A_n ++ (C_n ++ [])))))))) ((((List.Sublist.append_left (List.Sublist.append_left (List.Sublist.append_left (List.Sublist.append_left (List.Sublist.append_left sr9 _) _) _) _) _).k9).k9).cons _) (WC.perm (M' := ((b_t, ce9 66 [pt9 ba, iV root, iV fan, iV leaf]) :: ((b_n, ce9 70 [nt9 (kk + 1), lV sa91 (((ndP y).take (routeN (ndP y) k) ++ ([btU R9.1.2] ++ (ndP y).drop (routeN (ndP y) k)))).length sc92, lV sa95 ((((ndK y).map BT.slot).take ((routeN (ndP y) k) + 1) ++ ([btS R9.1.2] ++ ((ndK y).map BT.slot).drop ((routeN (ndP y) k) + 1)))).length sc96, lV ra_n ([]).length rc_n]) :: (Ms87 ++ (Ma_r32 ++ (Mn_r32 ++ (A_n ++ (C_n ++ [])))))))) ((((pr9.cons _).trans pr9).cons _).trans ((List.Perm.swap _ _ _).trans (pr9.cons _))) (WC.perm (M' := ((b_t, ce9 66 [pt9 ba, iV root, iV fan, iV leaf]) :: ((b_n, ce9 70 [nt9 (kk + 1), lV sa91 (((ndP y).take (routeN (ndP y) k) ++ ([btU R9.1.2] ++ (ndP y).drop (routeN (ndP y) k)))).length sc92, lV sa95 ((((ndK y).map BT.slot).take ((routeN (ndP y) k) + 1) ++ ([btS R9.1.2] ++ ((ndK y).map BT.slot).drop ((routeN (ndP y) k) + 1)))).length sc96, lV ra_n ([]).length rc_n]) :: (Ma_r32 ++ (Ms87 ++ (A_n ++ (Mn_r32 ++ (C_n ++ [])))))))) ((((List.Perm.append_left _ ((List.Perm.append_left _ ((List.Perm.append_left _ ((List.Perm.append_left _ ((List.Perm.append_left _ pr9).trans pr9)).trans pr9)).trans (pmA pr9))).trans pr9)).trans (pmA pr9)).cons _).cons _) (g9 2 ?_)))
  refine ⟨.inr rfl, [_, _], ⟨rfl, rfl, trivial⟩, ((b_t, ce9 66 [pt9 ba, iV root, iV fan, iV leaf]) :: ((b_n, ce9 70 [nt9 (kk + 1), lV sa91 (((ndP y).take (routeN (ndP y) k) ++ ([btU R9.1.2] ++ (ndP y).drop (routeN (ndP y) k)))).length sc92, lV sa95 ((((ndK y).map BT.slot).take ((routeN (ndP y) k) + 1) ++ ([btS R9.1.2] ++ ((ndK y).map BT.slot).drop ((routeN (ndP y) k) + 1)))).length sc96, lV ra_n ([]).length rc_n]) :: (Ma_r32 ++ (Ms87 ++ (A_n ++ (Mn_r32 ++ C_n)))))), ((List.Sublist.append_left (List.Sublist.append_left (List.Sublist.append_left (List.Sublist.append_left (List.sublist_append_left _ _) _) _) _) _).k9).k9, ?_⟩
  have hKt := K_two (w := w9.2) hl9 hsl9
  rw [← hS9] at hKt
  have hup := up_len hl9 R9.1.1 w9.2
  have hX := NsM.two_kids (((NsM.mono ((hG33.trans hG84).trans hG85) hA_n)).agreeU (us_take hus _) hag_r32) (((NsM.mono (hG84.trans hG85) hn_r32)).to (btN_s hw9)) (((NsM.mono ((hG33.trans hG84).trans hG85) hC_n)).agreeU (us_drop hus _) hag_r32)
  have hE : insB fan leaf k ⟨ek, ev⟩ (kk + 1) y st.2 = ((mkN y.slot ((ndP y).take (routeN (ndP y) k) ++ ([btU R9.1.2] ++ (ndP y).drop (routeN (ndP y) k))) ((ndK y).take (routeN (ndP y) k) ++ ([R9.1.1, w9.2] ++ (ndK y).drop ((routeN (ndP y) k) + 1))), none), R9.2) := by rw [hIB, hU9]; unfold upB; rw [hw9]; exact spl_none om9
  have hk8 := SlR.cast hk_z89 hKt.symm
  exact InsQ.of hE ⟨_, _, _, pmN1, (ArR.mono lec ha_r32), (NsM.pack1 hbn_u hp_z89 hk8 (hr_n.mono lec) hX).bn, hag_r32, rfl⟩
 refine g9 3 ?_
 refine WC.dw ((sn9.k9.k9).k9) (d9 [0, 1, 2, 3, 4, 5, 6, 7] ?_)
 refine WD.a1 8 rfl (W.giveO hp_z89 (pmC (pmC (pmC pr9))) (fun G99 hG99 hv99 => (W.call (Mp := []) (bhalveO_fc hv99 (hk_z89.mono hG99) ⟨om9, om9⟩) rfl pr9 ?_)))
 intro v103 G100 Ms102 hG100 q101
 refine match q101 with | ⟨va_z104, _, vb_z104, kb_z104, Ma_z104, Mb_z104, K_z104, e_105, e_106, hK_z104, ha_z104, hka_z104, hb_z104, hkb_z104⟩ => ?_
 subst e_105
 subst e_106
 refine W.perm (M' := ((b27, ce9 90 [iV ek, sV ev.b]) :: ((b_n, ce9 70 [nt9 (kk + 1), lV sa91 (((ndP y).take (routeN (ndP y) k) ++ ([btU R9.1.2] ++ (ndP y).drop (routeN (ndP y) k)))).length sc92, lV sa95 ((((ndK y).map BT.slot).take ((routeN (ndP y) k) + 1) ++ ([btS R9.1.2] ++ ((ndK y).map BT.slot).drop ((routeN (ndP y) k) + 1)))).length sc96, lV ra_n ([]).length rc_n]) :: ((b_t, ce9 66 [pt9 ba, iV root, iV fan, iV leaf]) :: (Ma_z104 ++ (Mb_z104 ++ (Ma_r32 ++ (Mn_r32 ++ (A_n ++ (C_n ++ [])))))))))) (pmC (Ms := Ma_z104 ++ Mb_z104) (pmC (Ms := Ma_z104 ++ Mb_z104) (pmC (Ms := Ma_z104 ++ Mb_z104) (List.Perm.of_eq (List.append_assoc _ _ _))))).symm ?_
 have q110 := ha_z104.form
 refine match q110 with | ⟨sa107, sc108, e_109⟩ => ?_
 subst e_109
 have q114 := hka_z104.form
 refine match q114 with | ⟨sa111, sc112, e_113⟩ => ?_
 subst e_113
 have q118 := hb_z104.form
 refine match q118 with | ⟨sa115, sc116, e_117⟩ => ?_
 subst e_117
 have q122 := hkb_z104.form
 refine match q122 with | ⟨sa119, sc120, e_121⟩ => ?_
 subst e_121
 refine W.nn (d9 [9, 10, 11, 12, 13, 14, 15, 16, 17, 18, 19, 20, 21] ?_)
 refine g9 17 ?_
 refine WC.dw ((sn9.k9.k9).k9) (d9 [0, 1, 2, 3, 4, 5, 6, 7, 8, 9] ?_)
 refine WD.tk 10 rfl (ok_build (L := [iV _, lV _ _ _, lV _ _ _, lV _ _ _]) pl70 zr70 rfl rfl rfl) (WD.a1 11 rfl (W.box (L := [iV _, lV _ _ _, lV _ _ _, lV _ _ _]) rfl rfl (fun b123 => (W.nn (WD.a1 12 rfl ?_)))))
 have hlt_al124 := firstN_lt (u := (((cells_r32, R9.2) : List (Option Nat) × List Bool)).2) (by show 0 < (freeN R9.2).length; have h9 := hle8 hsp9 om9; omega)
 refine W.call (Mp := Ma_r32) (oallocp (ArR.mono lec ha_r32) b123) rfl (pmC (pmC (pmC (pmC (pmA (pmA pr9)))))) ?_
 intro v128 G125 Ms127 hG125 q126
 refine match q126 with | ⟨hv_hR129, hR129⟩ => ?_
 refine W.perm (pmC (pmC (pmC (pmC pr9)))).symm ?_
 rw [nextA_t hlt_al124] at hv_hR129 hR129
 subst hv_hR129
 try dsimp only at hR129
 refine W.nn (d9 [13, 14, 15, 16] ?_)
 refine g9 10 ?_
 refine WC.sub (M' := ((b123, ce9 70 [nt9 (kk + 1), lV sa115 ((((ndP y).take (routeN (ndP y) k) ++ ([btU R9.1.2] ++ (ndP y).drop (routeN (ndP y) k))).drop (((((ndK y).map BT.slot).take ((routeN (ndP y) k) + 1) ++ ([btS R9.1.2] ++ ((ndK y).map BT.slot).drop ((routeN (ndP y) k) + 1))).length + 1) / 2))).length sc116, lV sa119 (((((ndK y).map BT.slot).take ((routeN (ndP y) k) + 1) ++ ([btS R9.1.2] ++ ((ndK y).map BT.slot).drop ((routeN (ndP y) k) + 1))).drop (((((ndK y).map BT.slot).take ((routeN (ndP y) k) + 1) ++ ([btS R9.1.2] ++ ((ndK y).map BT.slot).drop ((routeN (ndP y) k) + 1))).length + 1) / 2))).length sc120, lV none 0 0]) :: ((b_n, ce9 70 [nt9 (kk + 1), lV sa107 ((((ndP y).take (routeN (ndP y) k) ++ ([btU R9.1.2] ++ (ndP y).drop (routeN (ndP y) k))).take ((((((ndK y).map BT.slot).take ((routeN (ndP y) k) + 1) ++ ([btS R9.1.2] ++ ((ndK y).map BT.slot).drop ((routeN (ndP y) k) + 1))).length + 1) / 2) - 1))).length sc108, lV sa111 (((((ndK y).map BT.slot).take ((routeN (ndP y) k) + 1) ++ ([btS R9.1.2] ++ ((ndK y).map BT.slot).drop ((routeN (ndP y) k) + 1))).take (((((ndK y).map BT.slot).take ((routeN (ndP y) k) + 1) ++ ([btS R9.1.2] ++ ((ndK y).map BT.slot).drop ((routeN (ndP y) k) + 1))).length + 1) / 2))).length sc112, lV ra_n ([]).length rc_n]) :: ((b_t, ce9 66 [pt9 ba, iV root, iV fan, iV leaf]) :: (Ms127 ++ (Ma_z104 ++ (Mb_z104 ++ (Mn_r32 ++ (A_n ++ (C_n ++ [])))))))))) (((((List.Sublist.append_left (List.Sublist.append_left (List.Sublist.append_left (List.Sublist.append_left (List.Sublist.append_left (List.Sublist.append_left sr9 _) _) _) _) _) _).k9).k9).cons _).k9) (WC.perm (M' := ((b_t, ce9 66 [pt9 ba, iV root, iV fan, iV leaf]) :: ((b_n, ce9 70 [nt9 (kk + 1), lV sa107 ((((ndP y).take (routeN (ndP y) k) ++ ([btU R9.1.2] ++ (ndP y).drop (routeN (ndP y) k))).take ((((((ndK y).map BT.slot).take ((routeN (ndP y) k) + 1) ++ ([btS R9.1.2] ++ ((ndK y).map BT.slot).drop ((routeN (ndP y) k) + 1))).length + 1) / 2) - 1))).length sc108, lV sa111 (((((ndK y).map BT.slot).take ((routeN (ndP y) k) + 1) ++ ([btS R9.1.2] ++ ((ndK y).map BT.slot).drop ((routeN (ndP y) k) + 1))).take (((((ndK y).map BT.slot).take ((routeN (ndP y) k) + 1) ++ ([btS R9.1.2] ++ ((ndK y).map BT.slot).drop ((routeN (ndP y) k) + 1))).length + 1) / 2))).length sc112, lV ra_n ([]).length rc_n]) :: ((b123, ce9 70 [nt9 (kk + 1), lV sa115 ((((ndP y).take (routeN (ndP y) k) ++ ([btU R9.1.2] ++ (ndP y).drop (routeN (ndP y) k))).drop (((((ndK y).map BT.slot).take ((routeN (ndP y) k) + 1) ++ ([btS R9.1.2] ++ ((ndK y).map BT.slot).drop ((routeN (ndP y) k) + 1))).length + 1) / 2))).length sc116, lV sa119 (((((ndK y).map BT.slot).take ((routeN (ndP y) k) + 1) ++ ([btS R9.1.2] ++ ((ndK y).map BT.slot).drop ((routeN (ndP y) k) + 1))).drop (((((ndK y).map BT.slot).take ((routeN (ndP y) k) + 1) ++ ([btS R9.1.2] ++ ((ndK y).map BT.slot).drop ((routeN (ndP y) k) + 1))).length + 1) / 2))).length sc120, lV none 0 0]) :: (Ms127 ++ (Ma_z104 ++ (Mb_z104 ++ (Mn_r32 ++ (A_n ++ (C_n ++ [])))))))))) ((((((pr9.cons _).trans pr9).cons _).trans ((List.Perm.swap _ _ _).trans (pr9.cons _))).cons _).trans ((List.Perm.swap _ _ _).trans (((List.Perm.swap _ _ _).trans (pr9.cons _)).cons _))) (WC.perm (M' := ((b_t, ce9 66 [pt9 ba, iV root, iV fan, iV leaf]) :: ((b_n, ce9 70 [nt9 (kk + 1), lV sa107 ((((ndP y).take (routeN (ndP y) k) ++ ([btU R9.1.2] ++ (ndP y).drop (routeN (ndP y) k))).take ((((((ndK y).map BT.slot).take ((routeN (ndP y) k) + 1) ++ ([btS R9.1.2] ++ ((ndK y).map BT.slot).drop ((routeN (ndP y) k) + 1))).length + 1) / 2) - 1))).length sc108, lV sa111 (((((ndK y).map BT.slot).take ((routeN (ndP y) k) + 1) ++ ([btS R9.1.2] ++ ((ndK y).map BT.slot).drop ((routeN (ndP y) k) + 1))).take (((((ndK y).map BT.slot).take ((routeN (ndP y) k) + 1) ++ ([btS R9.1.2] ++ ((ndK y).map BT.slot).drop ((routeN (ndP y) k) + 1))).length + 1) / 2))).length sc112, lV ra_n ([]).length rc_n]) :: ((b123, ce9 70 [nt9 (kk + 1), lV sa115 ((((ndP y).take (routeN (ndP y) k) ++ ([btU R9.1.2] ++ (ndP y).drop (routeN (ndP y) k))).drop (((((ndK y).map BT.slot).take ((routeN (ndP y) k) + 1) ++ ([btS R9.1.2] ++ ((ndK y).map BT.slot).drop ((routeN (ndP y) k) + 1))).length + 1) / 2))).length sc116, lV sa119 (((((ndK y).map BT.slot).take ((routeN (ndP y) k) + 1) ++ ([btS R9.1.2] ++ ((ndK y).map BT.slot).drop ((routeN (ndP y) k) + 1))).drop (((((ndK y).map BT.slot).take ((routeN (ndP y) k) + 1) ++ ([btS R9.1.2] ++ ((ndK y).map BT.slot).drop ((routeN (ndP y) k) + 1))).length + 1) / 2))).length sc120, lV none 0 0]) :: (Ms127 ++ (Ma_z104 ++ (Mb_z104 ++ (A_n ++ (Mn_r32 ++ (C_n ++ [])))))))))) (((((List.Perm.append_left _ ((List.Perm.append_left _ ((List.Perm.append_left _ ((List.Perm.append_left _ ((List.Perm.append_left _ ((List.Perm.append_left _ pr9).trans pr9)).trans pr9)).trans (pmA pr9))).trans pr9)).trans pr9)).trans pr9).cons _).cons _).cons _) (WC.ret ?_)))
 refine ⟨.inr rfl, [_, _], ⟨rfl, rfl, trivial⟩, ((b_t, ce9 66 [pt9 ba, iV root, iV fan, iV leaf]) :: ((b_n, ce9 70 [nt9 (kk + 1), lV sa107 ((((ndP y).take (routeN (ndP y) k) ++ ([btU R9.1.2] ++ (ndP y).drop (routeN (ndP y) k))).take ((((((ndK y).map BT.slot).take ((routeN (ndP y) k) + 1) ++ ([btS R9.1.2] ++ ((ndK y).map BT.slot).drop ((routeN (ndP y) k) + 1))).length + 1) / 2) - 1))).length sc108, lV sa111 (((((ndK y).map BT.slot).take ((routeN (ndP y) k) + 1) ++ ([btS R9.1.2] ++ ((ndK y).map BT.slot).drop ((routeN (ndP y) k) + 1))).take (((((ndK y).map BT.slot).take ((routeN (ndP y) k) + 1) ++ ([btS R9.1.2] ++ ((ndK y).map BT.slot).drop ((routeN (ndP y) k) + 1))).length + 1) / 2))).length sc112, lV ra_n ([]).length rc_n]) :: ((b123, ce9 70 [nt9 (kk + 1), lV sa115 ((((ndP y).take (routeN (ndP y) k) ++ ([btU R9.1.2] ++ (ndP y).drop (routeN (ndP y) k))).drop (((((ndK y).map BT.slot).take ((routeN (ndP y) k) + 1) ++ ([btS R9.1.2] ++ ((ndK y).map BT.slot).drop ((routeN (ndP y) k) + 1))).length + 1) / 2))).length sc116, lV sa119 (((((ndK y).map BT.slot).take ((routeN (ndP y) k) + 1) ++ ([btS R9.1.2] ++ ((ndK y).map BT.slot).drop ((routeN (ndP y) k) + 1))).drop (((((ndK y).map BT.slot).take ((routeN (ndP y) k) + 1) ++ ([btS R9.1.2] ++ ((ndK y).map BT.slot).drop ((routeN (ndP y) k) + 1))).length + 1) / 2))).length sc120, lV none 0 0]) :: (Ms127 ++ (Ma_z104 ++ (Mb_z104 ++ (A_n ++ (Mn_r32 ++ C_n)))))))), (((List.Sublist.append_left (List.Sublist.append_left (List.Sublist.append_left (List.Sublist.append_left (List.Sublist.append_left (List.sublist_append_left _ _) _) _) _) _) _).k9).k9).k9, ?_⟩
 have hKt := K_two (w := w9.2) hl9 hsl9
 rw [← hS9] at hKt
 have hup := up_len hl9 R9.1.1 w9.2
 have hX := NsM.two_kids (((NsM.mono (((((hG33.trans hG84).trans hG85).trans hG99).trans hG100).trans hG125) hA_n)).agreeU (us_take hus _) hag_r32) (((NsM.mono ((((hG84.trans hG85).trans hG99).trans hG100).trans hG125) hn_r32)).to (btN_s hw9)) (((NsM.mono (((((hG33.trans hG84).trans hG85).trans hG99).trans hG100).trans hG125) hC_n)).agreeU (us_drop hus _) hag_r32)
 have hlen9 : (((ndK y).map BT.slot).take ((routeN (ndP y) k) + 1) ++ ([btS R9.1.2] ++ ((ndK y).map BT.slot).drop ((routeN (ndP y) k) + 1))).length = ((ndK y).take (routeN (ndP y) k) ++ ([R9.1.1, w9.2] ++ (ndK y).drop ((routeN (ndP y) k) + 1))).length := by omega
 have hE : insB fan leaf k ⟨ek, ev⟩ (kk + 1) y st.2 = ((mkN y.slot (((ndP y).take (routeN (ndP y) k) ++ ([btU R9.1.2] ++ (ndP y).drop (routeN (ndP y) k))).take (((((ndK y).take (routeN (ndP y) k) ++ ([R9.1.1, w9.2] ++ (ndK y).drop ((routeN (ndP y) k) + 1))).length + 1) / 2) - 1)) (((ndK y).take (routeN (ndP y) k) ++ ([R9.1.1, w9.2] ++ (ndK y).drop ((routeN (ndP y) k) + 1))).take ((((ndK y).take (routeN (ndP y) k) ++ ([R9.1.1, w9.2] ++ (ndK y).drop ((routeN (ndP y) k) + 1))).length + 1) / 2)), some (((ndP y).take (routeN (ndP y) k) ++ ([btU R9.1.2] ++ (ndP y).drop (routeN (ndP y) k))).getD (((((ndK y).take (routeN (ndP y) k) ++ ([R9.1.1, w9.2] ++ (ndK y).drop ((routeN (ndP y) k) + 1))).length + 1) / 2) - 1) Str.nil, mkN (firstN R9.2 : Int) (((ndP y).take (routeN (ndP y) k) ++ ([btU R9.1.2] ++ (ndP y).drop (routeN (ndP y) k))).drop ((((ndK y).take (routeN (ndP y) k) ++ ([R9.1.1, w9.2] ++ (ndK y).drop ((routeN (ndP y) k) + 1))).length + 1) / 2)) (((ndK y).take (routeN (ndP y) k) ++ ([R9.1.1, w9.2] ++ (ndK y).drop ((routeN (ndP y) k) + 1))).drop ((((ndK y).take (routeN (ndP y) k) ++ ([R9.1.1, w9.2] ++ (ndK y).drop ((routeN (ndP y) k) + 1))).length + 1) / 2)))), R9.2.set (firstN R9.2) true) := by rw [hIB, hU9]; unfold upB; rw [hw9]; exact spl_some om9
 have hag2 : ∀ j : Nat, R9.2[j]? = some true → (cells_r32.set (firstN R9.2) (some b123))[j]? = cells_r32[j]? := fun j hj => agree_set hlt_al124 hj
 have hag3 : ∀ j : Nat, st.2[j]? = some true → (cells_r32.set (firstN R9.2) (some b123))[j]? = cells_r32[j]? := fun j hj => hag2 j (w1.get hj)
 have hY := (NsM.two_kids ((((NsM.mono (((((hG33.trans hG84).trans hG85).trans hG99).trans hG100).trans hG125) hA_n)).agreeU (us_take hus _) hag_r32).agreeU (us_take hus _) hag3) ((((NsM.mono ((((hG84.trans hG85).trans hG99).trans hG100).trans hG125) hn_r32)).to (btN_s hw9)).agreeU (by rw [← btN_s hw9]; exact hus9) hag2) ((((NsM.mono (((((hG33.trans hG84).trans hG85).trans hG99).trans hG100).trans hG125) hC_n)).agreeU (us_drop hus _) hag_r32).agreeU (us_drop hus _) hag3))
 have hL9 : (((ndK y).take (routeN (ndP y) k) ++ ([R9.1.1, w9.2] ++ (ndK y).drop ((routeN (ndP y) k) + 1)))).flatMap (nds kk) = (((ndK y).take (routeN (ndP y) k) ++ ([R9.1.1, w9.2] ++ (ndK y).drop ((routeN (ndP y) k) + 1))).take ((((ndK y).take (routeN (ndP y) k) ++ ([R9.1.1, w9.2] ++ (ndK y).drop ((routeN (ndP y) k) + 1))).length + 1) / 2)).flatMap (nds kk) ++ (((ndK y).take (routeN (ndP y) k) ++ ([R9.1.1, w9.2] ++ (ndK y).drop ((routeN (ndP y) k) + 1))).drop ((((ndK y).take (routeN (ndP y) k) ++ ([R9.1.1, w9.2] ++ (ndK y).drop ((routeN (ndP y) k) + 1))).length + 1) / 2)).flatMap (nds kk) := by rw [← List.flatMap_append, List.take_append_drop]
 have hq9 := NsM.app.1 (hY.to hL9)
 refine match hq9 with | ⟨X9, Y9, hXY, hx9, hy9⟩ => ?_
 have hp1 := OwnR.to (ha_z104.mono hG125) (congrArg (fun n => ((ndP y).take (routeN (ndP y) k) ++ ([btU R9.1.2] ++ (ndP y).drop (routeN (ndP y) k))).take ((n + 1) / 2 - 1)) hlen9)
 have hp2 := OwnR.to (hb_z104.mono hG125) (congrArg (fun n => ((ndP y).take (routeN (ndP y) k) ++ ([btU R9.1.2] ++ (ndP y).drop (routeN (ndP y) k))).drop ((n + 1) / 2)) hlen9)
 have hk1 := SlR.cast (hka_z104.mono hG125) (show _ = (((ndK y).take (routeN (ndP y) k) ++ ([R9.1.1, w9.2] ++ (ndK y).drop ((routeN (ndP y) k) + 1))).take ((((ndK y).take (routeN (ndP y) k) ++ ([R9.1.1, w9.2] ++ (ndK y).drop ((routeN (ndP y) k) + 1))).length + 1) / 2)).map BT.slot by rw [hlen9, ← hKt, List.map_take])
 have hk2 := SlR.cast (hkb_z104.mono hG125) (show _ = (((ndK y).take (routeN (ndP y) k) ++ ([R9.1.1, w9.2] ++ (ndK y).drop ((routeN (ndP y) k) + 1))).drop ((((ndK y).take (routeN (ndP y) k) ++ ([R9.1.1, w9.2] ++ (ndK y).drop ((routeN (ndP y) k) + 1))).length + 1) / 2)).map BT.slot by rw [hlen9, ← hKt, List.map_drop])
 have hK8 : K_z104 = ((ndP y).take (routeN (ndP y) k) ++ ([btU R9.1.2] ++ (ndP y).drop (routeN (ndP y) k))).getD (((((ndK y).take (routeN (ndP y) k) ++ ([R9.1.1, w9.2] ++ (ndK y).drop ((routeN (ndP y) k) + 1))).length + 1) / 2) - 1) Str.nil := by rw [hK_z104, hlen9]
 subst hK8
 exact InsQ.of hE ⟨_, _, _, pmN2 hXY, hR129, (NsM.pack1 (hbn_u.agreeU (w1.keep hu9) hag2) hp1 hk1 (hr_n.mono lec) hx9).two (NsM.pack1 (blk_set (show firstN R9.2 < cells_r32.length by rw [hcl_u]; exact hlt_al124)) hp2 hk2 SlR.nil hy9), fun j hj => (hag3 j hj).trans (hag_r32 j hj), rfl⟩

theorem binsert_all : ∀ kk, InsC kk
  | 0 => fun h_a _ _ _ i k ek ev _ _ h_n lo sp hs hk hok hus hi9 hb9 hk16 hv16 hg9 hroom => binsert0_fc h_a i k ek ev h_n lo sp hs hk hok hus hi9 hb9 hk16 hv16 hg9 hroom
  | kk + 1 => fun h_a _ _ _ i k ek ev _ _ h_n lo sp hs hk hok hus hi9 hb9 hk16 hv16 hg9 hroom => binsert1_fc h_a i k ek ev h_n lo sp hs hk hok hus hi9 hb9 hk16 hv16 hg9 hroom (binsert_all kk)
end Go.Proofs.YtemoalimclnfkaaGreat
