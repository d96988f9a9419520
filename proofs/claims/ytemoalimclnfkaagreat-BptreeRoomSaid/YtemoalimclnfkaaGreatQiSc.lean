/- The walk of a scan. -/
import Derived.Test.YtemoalimclnfkaaGreatQiW2
set_option maxRecDepth 100000
set_option maxHeartbeats 1600000
set_option linter.unusedVariables false
set_option linter.unusedSimpArgs false
set_option linter.unnecessarySimpa false
namespace Go.Proofs.YtemoalimclnfkaaGreat
open Go Go.Fw Go.RowKit
attribute [local irreducible] Ok W WC
def ScanC (kk : Nat) : Prop := ∀ {G : GH} {bt ba : Nat} {root fan leaf : Int} {cells : List (Option Nat)} {u : List Bool} (h_t : TrG bt ba root fan leaf cells u G) (i : Int) (slo shi : Str) (so : Bool) (lim : Int) {v_out : Value} {out : List Pair} {Ms_out : MH} (h_out : OwnR ePair 84 G v_out out Ms_out)
    (y : BT kk) (lo hi : Int) (sp : Span) (hs : sp.norm = sp) (hok : BT.ok fan leaf kk lo hi sp y) (hNs : NsG cells (nds kk y) G) (hus : UsN u (nds kk y)) (hi9 : i = y.slot) (hb9 : fan ≤ 4096 ∧ leaf ≤ 4096 ∧ hi ≤ 4096) (hlim : lim ≤ 1000000),
    Fc Tryz.prog 35 [pt9 bt, iV i, .agg (List.toArray [sV slo.b, sV shi.b, .bool so]), iV lim, v_out] G Ms_out (fun v G' M' => OwnR ePair 84 G' v (scB ⟨slo, shi, so⟩ lim out (BT.rows kk y)) M')
theorem bscan0_fc {G : GH} {bt ba : Nat} {root fan leaf : Int} {cells : List (Option Nat)} {u : List Bool} (h_t : TrG bt ba root fan leaf cells u G) (i : Int) (slo : Str) (shi : Str) (so : Bool) (lim : Int) {v_out : Value} {out : List Pair} {Ms_out : MH} (h_out : OwnR ePair 84 G v_out out Ms_out) (y : BT 0) (lo : Int) (hi : Int) (sp : Span) (hs : sp.norm = sp) (hok : BT.ok fan leaf 0 lo hi sp y) (hNs : NsG cells (nds 0 y) G) (hus : UsN u (nds 0 y)) (hi9 : i = y.slot) (hb9 : fan ≤ 4096 ∧ leaf ≤ 4096 ∧ hi ≤ 4096) (hlim : lim ≤ 1000000) :
    Fc Tryz.prog 35 [pt9 bt, iV i, .agg #[sV slo.b, sV shi.b, .bool so], iV lim, v_out] G Ms_out (fun v G' M' => OwnR ePair 84 G' v (scB ⟨slo, shi, so⟩ lim out (BT.rows 0 y)) M') := by
 obtain ⟨hT, vc, vu, vf, hA, hc, hu, hcu, hn, hf9⟩ := h_t
 have h_t : TrG bt ba root fan leaf cells u G := ⟨hT, vc, vu, vf, hA, hc, hu, hcu, hn, hf9⟩
 obtain ⟨sa_hc, sc_hc, rfl⟩ := hc.form
 obtain ⟨sa_hu, sc_hu, rfl⟩ := hu.form
 have hlo9 := h_out.len47
 have hlr9 : (ndB 0 y).R.length ≤ 4096 := by have h9 := hok.1.2; show (lfR y).length ≤ 4096; omega
 have hF9 : ((ndB 0 y).R.filter (fun p : Pair => Span.has (⟨slo, shi, so⟩ : Span) p.key)).length ≤ 4096 := Nat.le_trans (List.length_filter_le _ _) hlr9
 refine Fc.go [.tmp 10] Tryz.func35 Tryz.ntmps35 rfl (fun w0 => (WC.perm (M' := (Ms_out ++ [])) (by simp) (WC.sr (W.box (L := [sV _, sV _, .bool _]) rfl rfl (fun b1 => (W.as (W.ns (W.mv (W.mv ?_)))))))))
 have hu9 := hus _ nds_head
 rw [ndB_slot] at hu9
 have q2 := hNs _ nds_head
 refine match q2 with | ⟨b0, hb0, hB0⟩ => ?_
 rw [ndB_slot] at hb0
 rw [← hi9] at hb0 hu9
 refine W.qcall (bat_fc h_t i b0 hb0 hu9) rfl ?_
 refine match hB0 with | ⟨vp_c, vk_c, vr_c, hN_c, hp_c, hk_c, hr_c⟩ => ?_
 refine match hp_c.form with | ⟨_, _, eV_⟩ => ?_
 subst eV_
 refine match hk_c.form with | ⟨_, _, eV_⟩ => ?_
 subst eV_
 refine match hr_c.form with | ⟨_, _, eV_⟩ => ?_
 subst eV_
 refine W.an (WC.seq (WC.sr (W.mv (W.ok (ok_nilP rfl) (W.fb fd70_0 rfl (W.ok (ok_loadG (vs := ic9) ty3 hN_c rfl rfl rfl (by simp)) (W.ok (ok_eql rfl rfl) (W.nt (WC.cond_t rfl rfl (WC.seq (WC.seq (WC.dw sn9.k9 (WD.tk 0 rfl (ok_mv) ?_)))))))))))))
 refine WD.tk 1 rfl (ok_nilP rfl) (WD.tk 2 rfl (ok_fieldB fd70_3 rfl) (WD.tk 3 rfl (ok_loadG (vs := lc9) ty31 (hN_c.drop 3) rfl rfl rfl (by simp)) (WD.tk 4 rfl (ok_ld 0 sp9 ty74 rfl) (WD.tk 7 rfl (ok_mv) (WD.a1 5 rfl (W.cS (within_fc hr_c slo shi so om9) rfl (fun sa_hv4 sc_hv4 G3 hG3 hv4 => (W.nn (WD.tk 6 rfl (ok_len sl31 hv4 rfl) (WD.dn (WC.block ?_)))))))))))
 refine WC.loop (X := (Nat × List Pair) × Value × MH) (fun x => [(31, nt9 x.1.1), (3, iV lim), (29, lV sa_hv4 ((ndB 0 y).R.filter (fun p : Pair => Span.has (⟨slo, shi, so⟩ : Span) p.key)).length sc_hv4), (30, nt9 (((ndB 0 y).R.filter (fun p : Pair => Span.has (⟨slo, shi, so⟩ : Span) p.key)).length)), (4, x.2.1)]) (fun x G Ml => Ml = ((b1, ce9 74 [sV slo.b, sV shi.b, .bool so]) :: (x.2.2 ++ [])) ∧ OwnR ePair 84 G x.2.1 (x.1.2) x.2.2 ∧ x.1.1 ≤ ((ndB 0 y).R.filter (fun p : Pair => Span.has (⟨slo, shi, so⟩ : Span) p.key)).length ∧ x.1.2 = scB ⟨slo, shi, so⟩ lim out (((ndB 0 y).R.filter (fun p : Pair => Span.has (⟨slo, shi, so⟩ : Span) p.key)).take x.1.1)) (fun x => ((ndB 0 y).R.filter (fun p : Pair => Span.has (⟨slo, shi, so⟩ : Span) p.key)).length - x.1.1) (((0, out) : Nat × List Pair), v_out, Ms_out) hs9 ?_ ?_
 ·exact ⟨rfl, (by exact (h_out.mono hG3)), Nat.zero_le _, scB_nil.symm⟩
 rintro ⟨⟨k, o⟩, v_4, M_4⟩ gG10 G10 _ hG10 ⟨rfl, ho_4, hk, hoe⟩
 try dsimp only at ho_4 hk hoe
 refine WC.fr (f := setL gG10 [(31, nt9 k), (3, iV lim), (29, lV sa_hv4 ((ndB 0 y).R.filter (fun p : Pair => Span.has (⟨slo, shi, so⟩ : Span) p.key)).length sc_hv4), (30, nt9 (((ndB 0 y).R.filter (fun p : Pair => Span.has (⟨slo, shi, so⟩ : Span) p.key)).length)), (4, v_4)]) rfl (WC.sr (W.ok (ok_lss rfl rfl) (W.nt (WC.seq ?_))))
 refine WC.cd (fun h32 p32 => ?_) (fun h32 p32 => ?_)
 ·try dsimp only at p32
  refine WC.sk (WC.seq (WC.block (WC.sr ((hv4.mono hG10).a1 (i := k) om9 (fun he11 => (W.ok (ok_indexAddr (i := k) sl31 ty84 (hv4.mono hG10) rfl rfl ⟨om9, om9⟩) (W.ok (ok_loadE (vs := pr29) ty84 he11 rfl rfl rfl (by simp)) (W.alloc zr84 (fun b14 => (W.st 0 pr29 pr29 ty84 rfl (W.ns (W.mv (W.ok (ok_lenO sl31 ho_4 rfl) (W.mv (W.ok (ok_lss rfl rfl) ?_)))))))))))))))
  refine W.nt ?_
  refine WC.cd (fun h38 p38 => ?_) (fun h38 p38 => ?_)
  ·try dsimp only at p38
   refine WC.region (W.mv (W.ok (ok_ld 0 pr29 ty84 rfl) (W.lit (e := ePair) (l := [⟨(((ndB 0 y).R.filter (fun p : Pair => Span.has (⟨slo, shi, so⟩ : Span) p.key))[k]).key, (((ndB 0 y).R.filter (fun p : Pair => Span.has (⟨slo, shi, so⟩ : Span) p.key))[k]).val⟩]) (css := [[sV _, sV _]]) sl31 ty84 zr84 rfl rfl rfl rfl rfl rfl ⟨rfl, trivial⟩ (fun bl15 G15 hG15 hv15 => (W.app (e := ePair) sl31 ty84 zr84 rfl by84 rfl rfl ((ho_4.mono hG15)) (hv15) (pmC (pmC pr9)) (by show (_ + 1) * 32 ≤ _; omega) (fun v16 Ms17 ho18 => (W.perm (pmC (pmC pr9)).symm (W.as (W.nil (blk_n (thn_n (WC.region (W.ok (ok_add rfl rfl om9) (W.mv (W.sub (sr9.cons _) (W.nt ?_))))))))))))))))
   exact ⟨hG15, (((k + 1, o ++ [((ndB 0 y).R.filter (fun p : Pair => Span.has (⟨slo, shi, so⟩ : Span) p.key))[k]'om9]) : Nat × List Pair), v16, Ms17), hs9, ⟨rfl, (by exact ho18), by dsimp only; omega, by dsimp only; rw [scB_step om9, ← hoe, if_pos p38]⟩, by dsimp only; omega⟩
  try dsimp only at p38
  refine WC.skip (blk_n (thn_n (WC.region (W.ok (ok_add rfl rfl om9) (W.mv (W.sub (sr9.cons _) (W.nt ?_)))))))
  exact ⟨Le.rfl, (((k + 1, o) : Nat × List Pair), v_4, M_4), hs9, ⟨rfl, (by exact ho_4), by dsimp only; omega, by dsimp only; rw [scB_step om9, ← hoe, if_neg p38]⟩, by dsimp only; omega⟩
 try dsimp only at p32
 refine WC.exit (thn_x (thn_x (blk_h (thn_n (WC.sr (W.mv (W.an (WC.rt ?_))))))))
 refine ⟨.inr rfl, [_], ⟨rfl, trivial⟩, M_4, (List.sublist_append_left _ _).cons _, ?_⟩
 have hk9 : k = ((ndB 0 y).R.filter (fun p : Pair => Span.has (⟨slo, shi, so⟩ : Span) p.key)).length := by omega
 rw [hk9, List.take_length, scB_all] at hoe
 rw [show BT.rows 0 y = (ndB 0 y).R from rfl, ← hoe]
 exact ho_4

theorem bscan1_fc {G : GH} {bt ba : Nat} {root fan leaf : Int} {cells : List (Option Nat)} {u : List Bool} (h_t : TrG bt ba root fan leaf cells u G) (i : Int) (slo : Str) (shi : Str) (so : Bool) (lim : Int) {v_out : Value} {out : List Pair} {Ms_out : MH} (h_out : OwnR ePair 84 G v_out out Ms_out) (kk : Nat) (ih : ScanC kk) (y : BT (kk + 1)) (lo : Int) (hi : Int) (sp : Span) (hs : sp.norm = sp) (hok : BT.ok fan leaf (kk + 1) lo hi sp y) (hNs : NsG cells (nds (kk + 1) y) G) (hus : UsN u (nds (kk + 1) y)) (hi9 : i = y.slot) (hb9 : fan ≤ 4096 ∧ leaf ≤ 4096 ∧ hi ≤ 4096) (hlim : lim ≤ 1000000) :
    Fc Tryz.prog 35 [pt9 bt, iV i, .agg #[sV slo.b, sV shi.b, .bool so], iV lim, v_out] G Ms_out (fun v G' M' => OwnR ePair 84 G' v (scB ⟨slo, shi, so⟩ lim out (BT.rows (kk + 1) y)) M') := by
 obtain ⟨hT, vc, vu, vf, hA, hc, hu, hcu, hn, hf9⟩ := h_t
 have h_t : TrG bt ba root fan leaf cells u G := ⟨hT, vc, vu, vf, hA, hc, hu, hcu, hn, hf9⟩
 obtain ⟨sa_hc, sc_hc, rfl⟩ := hc.form
 obtain ⟨sa_hu, sc_hu, rfl⟩ := hu.form
 have hlo9 := h_out.len47
 have hK9 : (ndB (kk + 1) y).K.length = (ndK y).length := List.length_map ..
 have hK8 : (ndK y).length ≤ 4096 := by have h9 := hok.1.2; omega
 refine Fc.go [.tmp 10] Tryz.func35 Tryz.ntmps35 rfl (fun w0 => (WC.perm (M' := (Ms_out ++ [])) (by simp) (g9 2 ?_)))
 refine W.box (L := [sV _, sV _, .bool _]) rfl rfl (fun b19 => (g9 7 ?_))
 have hu9 := hus _ nds_head
 rw [ndB_slot] at hu9
 have q20 := hNs _ nds_head
 refine match q20 with | ⟨b0, hb0, hB0⟩ => ?_
 rw [ndB_slot] at hb0
 rw [← hi9] at hb0 hu9
 refine W.qcall (bat_fc h_t i b0 hb0 hu9) rfl ?_
 refine match hB0 with | ⟨vp_c, vk_c, vr_c, hN_c, hp_c, hk_c, hr_c⟩ => ?_
 refine match hp_c.form with | ⟨_, _, eV_⟩ => ?_
 subst eV_
 refine match hk_c.form with | ⟨ka_c, kc_c, eV_⟩ => ?_
 subst eV_
 refine match hr_c.form with | ⟨_, _, eV_⟩ => ?_
 subst eV_
 refine g9 9 ?_
 refine W.ok (ok_loadG (vs := ic9) ty3 hN_c rfl rfl rfl (by simp)) (g9 3 ?_)
 refine WC.cd (fun h23 p23 => ?_) (fun h23 p23 => ?_)
 ·try dsimp only at p23
  exact absurd p23 (by rw [ndB_lvl]; omega)
 try dsimp only at p23
 refine g9 8 ?_
 refine W.ok (ok_loadG (vs := lc9) ty55 (hN_c.drop 2) rfl rfl rfl (by simp)) (g9 5 ?_)
 refine WC.loop (X := (Nat × List Pair) × Value × MH) (fun x => [(50, nt9 x.1.1), (7, pt9 b19), (0, pt9 bt), (3, iV lim), (11, pt9 b0), (48, lV ka_c ((ndB (kk + 1) y).K).length kc_c), (49, nt9 (((ndB (kk + 1) y).K).length)), (4, x.2.1)]) (fun x G Ml => Ml = ((b19, ce9 74 [sV slo.b, sV shi.b, .bool so]) :: (x.2.2 ++ [])) ∧ OwnR ePair 84 G x.2.1 (x.1.2) x.2.2 ∧ x.1.1 ≤ (ndK y).length ∧ x.1.2 = scB ⟨slo, shi, so⟩ lim out (((ndK y).take x.1.1).flatMap (BT.rows kk))) (fun x => (ndK y).length - x.1.1) (((0, out) : Nat × List Pair), v_out, Ms_out) hs9 ?_ ?_
 ·exact ⟨rfl, (by exact h_out), Nat.zero_le _, scB_nil.symm⟩
 rintro ⟨⟨j, o⟩, v_4, M_4⟩ gG21 G21 _ hG21 ⟨rfl, ho_4, hk, hoe⟩
 try dsimp only at ho_4 hk hoe
 refine WC.fr (f := setL gG21 [(50, nt9 j), (7, pt9 b19), (0, pt9 bt), (3, iV lim), (11, pt9 b0), (48, lV ka_c ((ndB (kk + 1) y).K).length kc_c), (49, nt9 (((ndB (kk + 1) y).K).length)), (4, v_4)]) rfl (g9 6 ?_)
 refine WC.cd (fun h51 p51 => ?_) (fun h51 p51 => ?_)
 ·try dsimp only at p51
  refine g9 7 ?_
  refine (hk_c.mono hG21).a2 (i := j) om9 (fun he22 hi23 => (g9 13 ?_))
  refine W.sd 59 (fun h58 p58 => ?_) (fun h58 p58 => ?_)
  ·try dsimp only at p58
   refine g9 7 ?_
   refine W.ok (ok_loadG (vs := lc9) ty54 ((hN_c.mono hG21).drop 1) rfl rfl rfl (by simp)) (g9 3 ?_)
   refine W.qcall (brange_fc (hp_c.mono hG21) _ ⟨om9, by have h9 := hok.1.2; omega⟩) rfl (g9 3 ?_)
   refine W.qcall (touch_fc _ _ _ _ _ _) rfl (g9 3 ?_)
   refine WC.cond rfl (fun h67 => ?_) (fun h67 => ?_)
   ·refine g9 6 ?_
    have hj9 : j < (ndK y).length := by simpa [ndB] using p51
    have q26 := hok.2.at hs (i := j) (by have := hok.2.len; omega)
    refine match q26 with | ⟨u9, hj8, v1, v2, v3, v4⟩ => ?_
    refine W.call (Mp := M_4) (ih (h_t.mono hG21) _ slo shi so lim ho_4 ((ndK y)[j]'hj9) _ _ u9 v1 v3 (fun n hn => (hNs.mono hG21) n (nds_kid (List.getElem_mem _) hn)) (fun n hn => hus n (nds_kid (List.getElem_mem _) hn)) (List.getElem_map ..) ⟨hb9.1, hb9.2.1, by unfold mxB; split <;> omega⟩ hlim) rfl (pmC pr9) ?_
    rintro v28 G27 Ms29 hG27 ho30
    refine W.perm (pmC pr9).symm (g9 9 ?_)
    exact ⟨hG27, (((j + 1, scB ⟨slo, shi, so⟩ lim o (BT.rows kk ((ndK y)[j]'hj9))) : Nat × List Pair), v28, Ms29), hs9, ⟨rfl, (by exact ho30), by dsimp only; omega, by dsimp only; rw [rows_take hj9, ← scB_app, ← hoe]⟩, by dsimp only; omega⟩
   refine g9 8 ?_
   exact ⟨Le.rfl, (((j + 1, o) : Nat × List Pair), v_4, M_4), hs9, ⟨rfl, (by exact ho_4), by dsimp only; omega, by dsimp only; rw [rows_take om9, ← scB_app, ← hoe]; exact (scB_none (scB_skip hs hok om9 (by have h9 : (!(Span.meet (rangeN (ndP y) (j : Int)) ⟨slo, shi, so⟩).empty) = false := h67; simpa using h9))).symm⟩, by dsimp only; omega⟩
  try dsimp only at p58
  refine g9 20 ?_
  exact ⟨Le.rfl, (((j + 1, o) : Nat × List Pair), v_4, M_4), hs9, ⟨rfl, (by exact ho_4), by dsimp only; omega, by dsimp only; rw [rows_take om9, ← scB_app, ← hoe]; exact (scB_full p58).symm⟩, by dsimp only; omega⟩
 try dsimp only at p51
 refine g9 12 ?_
 refine ⟨.inr rfl, [_], ⟨rfl, trivial⟩, M_4, (List.sublist_append_left _ _).cons _, ?_⟩
 have hk9 : j = (ndK y).length := by omega
 rw [hk9, List.take_length] at hoe
 rw [show BT.rows (kk + 1) y = (ndK y).flatMap (BT.rows kk) from rfl, ← hoe]
 exact ho_4

theorem bscan_all : ∀ kk, ScanC kk
  | 0 => fun h_t i slo shi so lim _ _ _ h_out y lo hi sp hs hok hNs hus hi9 hb9 hlim => bscan0_fc h_t i slo shi so lim h_out y lo hi sp hs hok hNs hus hi9 hb9 hlim
  | kk + 1 => fun h_t i slo shi so lim _ _ _ h_out y lo hi sp hs hok hNs hus hi9 hb9 hlim => bscan1_fc h_t i slo shi so lim h_out kk (bscan_all kk) y lo hi sp hs hok hNs hus hi9 hb9 hlim
theorem insp_fc {G : GH} {v_s : Value} {s : List Pair} {Ms_s : MH} (h_s : OwnR ePair 84 G v_s s Ms_s) (i : Nat) {v_u : Value} {u : List Pair} {Ms_u : MH} (h_u : OwnR ePair 84 G v_u u Ms_u) (hi : i ≤ s.length) (hu : 0 < u.length) (hw : (s.length + u.length) * 32 ≤ 140737488355328) :
    Fc Tryz.prog 118 [v_s, nt9 i, v_u] G (Ms_s ++ Ms_u) (fun v G' M' => OwnR ePair 84 G' v ((s.take i ++ u) ++ s.drop i) M') := by
 have hs := h_s.len47
 have hul := h_u.len47
 have hcs := h_s.cap_le
 refine Fc.go [.tmp 6] Tryz.func118 Tryz.ntmps118 rfl (fun w0 => (WC.perm (M' := (Ms_s ++ (Ms_u ++ []))) (by simp) (g9 9 ?_)))
 refine W.ok (ok_sliceO (i) (s.length) sl31 ty84 h_s rfl ⟨_, _, rfl, om9⟩ rfl ⟨om9, .inl om9⟩) (g9 16 ?_)
 refine WC.cd (fun h16 p16 => ?_) (fun h16 p16 => ?_)
 ·exact absurd p16 om9
 refine g9 17 ?_
 refine WC.cd (fun h22 p22 => ?_) (fun h22 p22 => ?_)
 ·refine g9 4 ?_
  refine W.giveO h_u (pmA pr9) (fun G1 hG1 hv1 => ?_)
  have q3 := hv1.form
  refine match q3 with | ⟨_, _, e_2⟩ => ?_
  subst e_2
  refine W.app (e := ePair) sl31 ty84 zr84 rfl by84 rfl rfl ((h_s.mono hG1)) (hv1) pr9 (hw) (fun v4 Ms5 ho6 => (g9 5 ?_))
  refine ⟨.inr rfl, [_], ⟨rfl, trivial⟩, Ms5, List.sublist_append_left _ _, ?_⟩
  have h := ho6
  rw [show (s.take i ++ u) ++ s.drop i = s ++ u from by rw [List.take_of_length_le om9, List.drop_eq_nil_of_le om9, List.append_nil]]
  exact h
 refine g9 7 ?_
 refine W.ok (Ok.int (n := ((s.length + u.length : Nat) : Int)) (ok_add rfl rfl om9) om9) (W.mv ?_)
 have q7 := h_s.capForm
 refine match q7 with | ⟨ac30, hcf30⟩ => ?_
 refine W.ok (ok_capO (c := capV v_s) sl31 hcf30) (g9 3 ?_)
 refine WC.cd (fun h31 p31 => ?_) (fun h31 p31 => ?_)
 ·refine g9 4 ?_
  refine W.ok (ok_sliceO (0) (i) sl31 ty84 h_s rfl rfl ⟨_, _, rfl, om9⟩ ⟨om9, .inl om9⟩) (g9 2 ?_)
  refine W.ok (Ok.int (n := ((s.length + u.length : Nat) : Int)) (ok_add rfl rfl om9) om9) (W.mv (W.ok (Ok.int (n := ((s.length + u.length - i : Nat) : Int)) (ok_sub rfl rfl om9) om9) (W.appZ (e := ePair) (i := i) (c := s.length + u.length - i) sl31 ty84 zr84 rfl by84 Tryz.underlying3 h_s pr9 rfl rfl om9 om9 om9 om9 (by rw [show i + (s.length + u.length - i) = s.length + u.length from by omega]; exact hw) rfl (fun v40 Ms40 hp40 => (g9 7 ?_)))))
  refine W.ok (ok_sliceP (i) (i + (s.length + u.length - i)) sl31 ty84 hp40 rfl ⟨_, _, rfl, om9⟩ rfl ⟨om9, by have := OwnP.cap_le hp40; omega⟩) (W.mv (W.copyP (i) (by simp; omega) sl31 ty84 hp40 pr9 (Src.ofOwn0 h_u (pmA (pmA pr9)) om9) rfl rfl om9 om9 (fun z45 Ms45 hp45 => (g9 3 ?_))))
  refine WC.dw sn9 (d9 [0, 1, 2] ?_)
  refine WD.tk 3 rfl (Ok.int (n := ((i + u.length : Nat) : Int)) (ok_add rfl rfl om9) om9) (WD.tk 4 rfl (ok_sliceP (i + u.length) (i + (s.length + u.length - i)) sl31 ty84 hp45 rfl ⟨_, _, rfl, om9⟩ rfl ⟨om9, by have := OwnP.cap_le hp45; omega⟩) (d9 [5, 6] ?_))
  refine WD.tk 7 rfl (ok_sliceO (i) (s.length) sl31 ty84 h_s rfl ⟨_, _, rfl, om9⟩ rfl ⟨om9, .inl om9⟩) (WD.a1 8 rfl (W.copyP (i + u.length) (by simp; omega) sl31 ty84 hp45 pr9 (Src.ofOwn (lo := i) h_s (pmA pr9) om9 om9) rfl rfl (by simp; omega) om9 (fun z54 Ms54 hp54 => (W.nn (g9 10 ?_)))))
  refine ⟨.inr rfl, [_], ⟨rfl, trivial⟩, Ms54, List.sublist_append_left _ _, ?_⟩
  have h := (hp54.own' (by simp; omega))
  rw [List.append_nil] at h
  exact h
 refine g9 7 ?_
 refine W.ok (Ok.int (n := ((s.length + u.length : Nat) : Int)) (ok_add rfl rfl om9) om9) (W.ok (ok_sliceO 0 (s.length + u.length) sl31 ty84 h_s rfl rfl ⟨_, _, rfl, om9⟩ ⟨om9, .inr om9⟩) ?_)
 have hp60 := OwnP.extend (m := u.length) (OwnR.open h_s om9) om9 hw om9
 refine g9 10 ?_
 refine W.ok (Ok.int (n := ((i + u.length : Nat) : Int)) (ok_add rfl rfl om9) om9) (W.ok (ok_sliceP (i + u.length) (s.length + u.length) sl31 ty84 hp60 rfl ⟨_, _, rfl, om9⟩ rfl ⟨om9, by have := OwnP.cap_le hp60; omega⟩) ?_)
 have hc67 := OwnP.cap_le hp60
 refine W.ok (ok_overlaps (fn := Tryz.f133) (tR := 4) (lo := i + u.length) (hi := s.length + u.length) Tryz.func133 (by kernel_rfl) (by kernel_rfl) (by kernel_rfl) (by kernel_rfl) sl31 ty84 h_u hp60 ((List.Perm.append_left _ pr9).trans (pmA pr9)) om9 om9 rfl rfl rfl) (g9 5 ?_)
 refine WC.dw sn9 (d9 [0, 1, 2] ?_)
 refine WD.tk 3 rfl (Ok.int (n := ((i + u.length : Nat) : Int)) (ok_add rfl rfl om9) om9) (WD.tk 4 rfl (ok_sliceP (i + u.length) (s.length + u.length) sl31 ty84 hp60 rfl ⟨_, _, rfl, om9⟩ rfl ⟨om9, by have := OwnP.cap_le hp60; omega⟩) (d9 [5, 6] ?_))
 refine WD.tk 7 rfl (ok_sliceP (i) (s.length + u.length) sl31 ty84 hp60 rfl ⟨_, _, rfl, om9⟩ rfl ⟨om9, by have := OwnP.cap_le hp60; omega⟩) (WD.a1 8 rfl (W.copyShift (i := i) sl31 ty84 hp60 pr9 rfl rfl om9 (fun z77 Ms77 hp77 => (W.nn (g9 6 ?_)))))
 refine W.ok (ok_sliceP (i) (s.length + u.length) sl31 ty84 hp77 rfl ⟨_, _, rfl, om9⟩ rfl ⟨om9, by have := OwnP.cap_le hp77; omega⟩) (W.mv (W.copyP (i) (by simp; omega) sl31 ty84 hp77 pr9 (Src.ofOwn0 h_u (pmA pr9) om9) rfl rfl om9 om9 (fun z82 Ms82 hp82 => (g9 10 ?_))))
 refine ⟨.inr rfl, [_], ⟨rfl, trivial⟩, Ms82, List.sublist_append_left _ _, ?_⟩
 exact (hp82.own' om9)

theorem delp_fc {G : GH} {v_s : Value} {s : List Pair} {Ms_s : MH} (h_s : OwnR ePair 84 G v_s s Ms_s) (i : Nat) (j : Nat) (hij : i < j ∧ j ≤ s.length) :
    Fc Tryz.prog 119 [v_s, nt9 i, nt9 j] G Ms_s (fun v G' M' => OwnR ePair 84 G' v (s.take i ++ s.drop j) M') := by
 have hs := h_s.len47
 obtain ⟨hij1, hij2⟩ := hij
 refine Fc.go [.tmp 6] Tryz.func119 Tryz.ntmps119 rfl (fun w0 => (WC.perm (M' := (Ms_s ++ [])) (by simp) (g9 12 ?_)))
 have q8 := h_s.capForm
 refine match q8 with | ⟨ac13, hcf13⟩ => ?_
 have hcl13 := h_s.cap_le
 refine W.okx (ok_slice3 i j s.length sl31 ty84 hcf13 ⟨_, _, rfl, om9⟩ ⟨_, _, rfl, om9⟩ ⟨_, _, rfl, om9⟩ ⟨om9, om9, om9⟩) (fun u13 => (g9 10 ?_))
 refine WC.cd (fun h16 p16 => ?_) (fun h16 p16 => ?_)
 ·exact absurd p16 om9
 refine g9 10 ?_
 refine WC.dw sn9 (d9 [0, 1] ?_)
 refine WD.tk 2 rfl (ok_sliceO (0) (i) sl31 ty84 h_s rfl rfl ⟨_, _, rfl, om9⟩ ⟨om9, .inl om9⟩) (d9 [3, 4] ?_)
 refine WD.tk 5 rfl (ok_sliceO (j) (s.length) sl31 ty84 h_s rfl ⟨_, _, rfl, om9⟩ rfl ⟨om9, .inl om9⟩) (WD.a1 6 rfl (W.appDel (e := ePair) (i := i) (j := j) sl31 ty84 zr84 rfl h_s pr9 rfl rfl om9 om9 om9 (fun v26 Ms26 ho26 hc26 hf26 => (W.nn (d9 [7] ?_)))))
 refine g9 8 ?_
 have hl31 : (s.take i ++ s.drop j).length = i + (s.length - j) := by simp; omega
 refine W.ok (ok_sliceO (s.take i ++ s.drop j).length s.length sl31 ty84 ho26 rfl ⟨_, _, rfl, om9⟩ ⟨_, _, rfl, om9⟩ ⟨om9, .inr om9⟩) (W.clearT (e := ePair) (lo := (s.take i ++ s.drop j).length) (hi := s.length) sl31 ty84 zr84 rfl rfl ho26 pr9 rfl om9 hc26 hf26 om9 (fun Ms31 ho31 => (g9 9 ?_)))
 refine ⟨.inr rfl, [_], ⟨rfl, trivial⟩, Ms31, List.sublist_append_left _ _, ?_⟩
 exact ho31

theorem clonepo_fc {G : GH} {v_a : Value} {a : List Pair} (h_a : SlR ePair G v_a a) :
    Fc Tryz.prog 47 [v_a] G [] (fun v G' M' => OwnR ePair 84 G' v (a) M') := by
 obtain ⟨sa_a, sc_a, rfl⟩ := h_a.form
 have ha := h_a.bytes
 refine Fc.go [.tmp 2] Tryz.func47 Tryz.ntmps47 rfl (fun w0 => (g9 9 ?_))
 refine W.ok (ok_eqlNil sl31 rfl rfl) (g9 2 ?_)
 refine WC.cond rfl (fun h4 => ?_) (fun h4 => ?_)
 ·have hn := SlR.isNone h_a h4
  subst hn
  refine g9 8 ?_
  exact OwnR.nil
 refine g9 4 ?_
 refine W.lit0 (e := ePair) sl31 ty84 zr84 rfl (fun v1 Ms2 ho3 => (W.mv (W.app (e := ePair) sl31 ty84 zr84 rfl by84 rfl rfl (ho3) (h_a) pr9 (by simpa using ha) (fun v4 Ms5 ho6 => (g9 4 ?_)))))
 refine ⟨.inr rfl, [_], ⟨rfl, trivial⟩, Ms5, List.sublist_append_left _ _, ?_⟩
 have h := ho6
 rw [List.nil_append] at h
 exact h

theorem mwith_fc {G : GH} {v_l : Value} {l : List Pair} (h_l : SlR ePair G v_l l) (k : Str) (ek : Int) (ev : Str) (hP : PairsR l) (hn : l.length ≤ 1000000) (he : ev.b.size ≤ 1048576) :
    Fc Tryz.prog 98 [v_l, sV k.b, .agg #[iV ek, sV ev.b]] G [] (fun v G' M' => M' = [] ∧ ∃ u0, v = u0 ∧ SlR ePair G' u0 (withN l k (⟨ek, ev⟩ : Eff))) := by
 obtain ⟨sa_l, sc_l, rfl⟩ := h_l.form
 have hl := h_l.len47
 have hgv := hP.val k
 have hr := hP.srt
 have hh := hr.has k
 have hfl := fndN_le l k
 refine Fc.go [.tmp 6] Tryz.func98 Tryz.ntmps98 rfl (fun w0 => (g9 2 ?_))
 refine W.box (L := [iV _, sV _]) rfl rfl (fun b7 => (g9 7 ?_))
 refine W.qcall (find_fc h_l _ (by assumption)) rfl (g9 18 ?_)
 refine WC.cond rfl (fun h16_1 => ?_) (fun h16_1 => ?_)
 ·have hs1 : (getN l k).isSome = true := h16_1
  obtain ⟨q1, q2⟩ := odt (hh.symm.trans hs1)
  have hvk := hr.val q1 q2
  refine g9 3 ?_
  refine h_l.a1 (i := fndN l k) (q1) (fun he8 => (W.ok (ok_indexAddr (i := fndN l k) sl31 ty84 h_l rfl rfl ⟨om9, q1⟩) (g9 8 ?_)))
  refine W.call (Mp := []) (clonepo_fc h_l) rfl pr9 ?_
  rintro v12 G11 Ms13 hG11 ho14
  refine W.perm (pmC pr9).symm (g9 9 ?_)
  refine W.qcall (eapply_fc ek ev (getN l k).isSome l[fndN l k].val om9 (by rw [hvk] at hgv; simpa using Nat.le_trans hgv (by decide))) rfl (g9 12 ?_)
  refine W.sp 36 rfl (fun h31_0 => ?_) (fun h31_0 => ?_)
  ·have hap : Eff.apply (⟨ek, ev⟩ : Eff) (getN l k) = some ((Eff.apply (⟨ek, ev⟩ : Eff) (optS (getN l k).isSome l[fndN l k].val)).getD Str.nil) := by
     rw [hs1, hvk] at *; simp only [optS, if_true] at *; exact isSome_getD h31_0
   refine g9 11 ?_
   refine ho14.a1 (i := fndN l k) (q1) (fun he15 => (W.ok (ok_indexAddrO (i := fndN l k) sl31 ty84 ho14 rfl rfl ⟨om9, q1⟩) (g9 1 ?_)))
   refine W.storeO (i := fndN l k) (o := 1) (vs := sc9) (a' := ⟨l[fndN l k].key, (((Eff.apply (⟨ek, ev⟩ : Eff) (optS (getN l k).isSome l[fndN l k].val))).getD Str.nil)⟩) ty9 rfl rfl rfl rfl rfl (ho14) (pmC pr9) om9 (by decide) (fun cs h => by rw [h]; rfl) (fun Ms18 ho19 => (W.perm (pmC pr9).symm (g9 9 ?_)))
   refine WC.giveO ho19 (pmC pr9) (fun G20 hG20 hv20 => (g9 2 ?_))
   refine ⟨rfl, _, rfl, ?_⟩
   · have h := hv20; rw [with_set hr q1 q2 hap] at h; exact h
  have hap : Eff.apply (⟨ek, ev⟩ : Eff) (getN l k) = none := by
    rw [hs1, hvk] at *; simp only [optS, if_true] at *; simpa using h31_0
  refine g9 24 ?_
  refine W.ok (Ok.int (n := ((fndN l k + 1 : Nat) : Int)) (ok_add rfl rfl om9) om9) (W.call (Mp := Ms13) (delp_fc ho14 _ _ (by first | assumption | omega)) rfl (pmC pr9) ?_)
  rintro v22 G21 Ms23 hG21 ho24
  refine W.perm (pmC pr9).symm (g9 10 ?_)
  refine WC.giveO ho24 (pmC pr9) (fun G25 hG25 hv25 => (g9 2 ?_))
  refine ⟨rfl, _, rfl, ?_⟩
  · have h := hv25; rw [with_del hr q1 q2 hap] at h; exact h
 have hn0 : (getN l k).isSome = false := h16_1
 have hnn : getN l k = none := by simpa using hn0
 refine g9 5 ?_
 refine W.call (Mp := []) (clonepo_fc h_l) rfl pr9 ?_
 rintro v27 G26 Ms28 hG26 ho29
 refine W.perm (pmC pr9).symm (g9 9 ?_)
 refine W.qcall (eapply_fc ek ev (getN l k).isSome Str.nil om9 (by show (ByteArray.mk #[]).size ≤ _; decide)) rfl (g9 12 ?_)
 refine W.sp 36 rfl (fun h31_0 => ?_) (fun h31_0 => ?_)
 ·have hap : Eff.apply (⟨ek, ev⟩ : Eff) (getN l k) = some ((Eff.apply (⟨ek, ev⟩ : Eff) (optS (getN l k).isSome Str.nil)).getD Str.nil) := by
    rw [hn0, hnn] at *; simp only [optS] at *; exact isSome_getD h31_0
  refine g9 19 ?_
  refine W.ok (ok_build (L := [sV _, sV _]) pl84 zr84 rfl rfl rfl) (W.litO (e := ePair) (l := [⟨k, (((Eff.apply (⟨ek, ev⟩ : Eff) (optS (getN l k).isSome Str.nil))).getD Str.nil)⟩]) (css := [[sV _, sV _]]) sl31 ty84 zr84 rfl rfl rfl rfl rfl rfl ⟨rfl, trivial⟩ (fun v30 Ms31 ho32 => (W.perm (pmC pr9).symm (W.call (Mp := Ms28 ++ Ms31) (insp_fc ho29 _ ho32 (by first | assumption | omega) (by first | assumption | omega | simp) (by first | assumption | omega | (simp; omega))) rfl ((List.Perm.of_eq (List.append_assoc _ _ _)).trans ((List.Perm.append_left _ (pmC pr9)).trans (pmC (pmA pr9)))) ?_))))
  rintro v34 G33 Ms35 hG33 ho36
  refine W.perm (pmC pr9).symm (g9 10 ?_)
  refine WC.giveO ho36 (pmC pr9) (fun G37 hG37 hv37 => (g9 2 ?_))
  refine ⟨rfl, _, rfl, ?_⟩
  · have h := hv37; rw [with_ins hr hn0 hap] at h; exact h
 have hap : Eff.apply (⟨ek, ev⟩ : Eff) (getN l k) = none := by
   rw [hn0, hnn] at *; simp only [optS] at *; simpa using h31_0
 refine g9 29 ?_
 refine WC.giveO ho29 (pmC pr9) (fun G38 hG38 hv38 => (g9 2 ?_))
 refine ⟨rfl, _, rfl, ?_⟩
 · have h := hv38; rw [with_not hr hn0 hap] at h; exact h

end Go.Proofs.YtemoalimclnfkaaGreat
