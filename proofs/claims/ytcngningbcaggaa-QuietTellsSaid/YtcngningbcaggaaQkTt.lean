/- Walks of the nodes of a level, one by one. -/
import Derived.Test.YtcngningbcaggaaQkW9
set_option maxRecDepth 100000
set_option maxHeartbeats 1600000
set_option linter.unusedVariables false
set_option linter.unusedSimpArgs false
set_option linter.unnecessarySimpa false
namespace Go.Proofs.Ytcngningbcaggaa
open Go Go.Fw Go.RowKit
attribute [local irreducible] Ok W WC
theorem qnodes1_fc {G : GH} {ly : Nat} (Y : YS Try.prog ly) {Ms_y : MH} (h_y : JR Y G ([] : List Nd) Ms_y) {b_1 : Nat} {v_l : Value} {c : Cfg} {l : List Nd} {ss : List Seat} (h_b1 : CellsG G b_1 0 [v_l]) (h_l : SlR eNode G v_l l) (t : Tree c l ss) {b_2 : Nat} {lv : Int} (h_b2 : CellsG G b_2 0 [iV lv]) :
    Fc Try.prog 68 [.func (.yield ly) #[] #[], pt9 b_1, pt9 b_2] G Ms_y (fun v G' M' => JR Y G' ((lvlS ss lv).map (fun x : Seat => x.n)) M') := by
 obtain ⟨sa_l, sc_l, rfl⟩ := h_l.form
 have hl := h_l.len47
 have hsl := t.sml.1
 have hcl := lvlS_len t lv
 refine Fc.go [] Try.func68 Try.ntmps68 rfl (fun w0 => (WC.perm (M' := (Ms_y ++ [])) (by simp) (WC.sr (W.ok (ok_loadG (vs := lc9) ty24 h_b1 rfl rfl rfl (by simp)) (W.call (Mp := []) (qbysl_fc h_l) rfl pr9 ?_)))))
 intro v1 G2 G2 hG2 q3
 refine match q3 with | ⟨e_6, hmp5⟩ => ?_
 subst e_6
 have q8 := hmp5.form
 refine match q8 with | ⟨b4, e_7⟩ => ?_
 subst e_7
 refine W.as (W.ns (W.mv (W.ok (ok_loadG (vs := ic9) ty3 (h_b2.mono hG2) rfl rfl rfl (by simp)) (W.call (Mp := []) (qfirst_fc hmp5 t lv) rfl pr9 ?_))))
 intro v9 G10 _ hG10 q11
 refine match q11 with | ⟨e_12, _, nf, e_13, ⟨pa_fs9, pc_fs9, ka_fs9, kc_fs9, ma_fs9, mc_fs9, ra_fs9, rc_fs9, e_14, hp_fs9, hk_fs9, hm_fs9, hr_fs9, hok_fs9⟩, hnf⟩ => ?_
 subst e_12
 subst e_13
 subst e_14
 refine W.mv (W.ok (ok_extract rfl rfl) (W.ok (ok_extract rfl rfl) (W.alloc zr35 (fun b15 => (W.st 0 nd9 nd9 ty35 rfl (W.as (W.ns (W.ok (ok_loadG (vs := lc9) ty24 (h_b1.mono lec) rfl rfl rfl (by simp)) (W.ok (ok_len sl24 (h_l.mono lec) rfl) (W.an (WC.block ?_)))))))))))
 refine WC.loop (X := (Nat × Nd) × MH × List Value) (fun x => [(6, .bool (decide (x.1.1 < (lvlS ss lv).length))), (7, iV ((l.length : Int) - ((x.1.1 : Nat) : Int))), (5, pt9 b15), (2, pt9 b_2), (4, .map (some b4)), (0, .func (.yield ly) #[] #[])]) (fun x G Ml => Ml = ((b15, .cells (List.toArray x.2.2) 35 (0, 0)) :: (x.2.1 ++ [])) ∧ JR Y G (chnN ss lv x.1.1) x.2.1 ∧ NodeC G x.2.2 (x.1.2) ∧ x.1.1 ≤ (lvlS ss lv).length ∧ ∀ h : x.1.1 < (lvlS ss lv).length, x.1.2 = ((lvlS ss lv)[x.1.1]).n) (fun x => (lvlS ss lv).length - x.1.1) (((0, nf) : Nat × Nd), Ms_y, ((ndl nf pa_fs9 pc_fs9 ka_fs9 kc_fs9 ma_fs9 mc_fs9 ra_fs9 rc_fs9) : List Value)) hs9 ?_ ?_
 ·exact ⟨rfl, (by exact (JR.mono lec h_y)), (by exact (nk9 hp_fs9 hk_fs9 hm_fs9 hr_fs9 hok_fs9)), Nat.zero_le _, hnf⟩
 rintro ⟨⟨i, n⟩, M_0, C_5⟩ gG16 G16 _ hG16 ⟨rfl, ho_0, ho_5, hi, hn9⟩
 try dsimp only at ho_0 ho_5 hi hn9
 refine match ho_5 with | ⟨_, _, _, _, _, _, _, _, e_18, hp_nb17, hk_nb17, hm_nb17, hr_nb17, hok_nb17⟩ => ?_
 subst e_18
 refine WC.fr (f := setL gG16 [(6, .bool (decide (i < (lvlS ss lv).length))), (7, iV ((l.length : Int) - ((i : Nat) : Int))), (5, pt9 b15), (2, pt9 b_2), (4, .map (some b4)), (0, .func (.yield ly) #[] #[])]) rfl (WC.seq (WC.seq (WC.regionY 14 rfl (W.mv (W.mv ?_)))))
 refine W.sp 19 rfl (fun hok9 => ?_) (fun hok9 => ?_)
 ·have hi9 : i < (lvlS ss lv).length := odt hok9
  have hnn := hn9 hi9
  have hmm := lvlS_mem t hi9
  have hns : NdS n := by rw [hnn]; exact t.sml.at (.inr (t.nd hmm.1).2.2)
  refine W.y9 hok9 rfl (W.mv (W.y9 hok9 rfl (W.ok (ok_gtr rfl rfl) (W.ok (ok_pick_t rfl hok9) (W.mv ?_)))))
  refine W.sd 23 (fun h21 p21 => ?_) (fun h21 p21 => ?_)
  ·try dsimp only at p21
   refine W.y9 h21 rfl (W.fb fd35_1 rfl (W.y9 h21 rfl (W.ok (ok_ld 0 ic9 ty3 rfl) (W.y9 h21 rfl (W.ok (ok_loadG (vs := ic9) ty3 (h_b2.mono lec) rfl rfl rfl (by simp)) (W.y9 h21 rfl (W.ok (ok_eql rfl rfl) (W.ok (ok_pick_t rfl h21) (W.mv ?_)))))))))
   refine W.sd 29 (fun h27 p27 => ?_) (fun h27 p27 => ?_)
   ·try dsimp only at p27
    refine W.y9 h27 rfl (W.mv (W.y9 h27 rfl (W.ok (ok_ld 0 nd9 ty35 rfl) (W.nil (WI.yield (Mp := M_0) (j := 11) (dj := 29) (Y.call (x := n) (ho_0 : Y.J _ _ _) (nk9 hp_nb17 hk_nb17 hm_nb17 hr_nb17 hok_nb17) (by have := chnN_len ss lv i; omega) hns) rfl rfl h27 rfl rfl (pmC pr9) ?_)))))
    intro v19 G20 Ms22 hG20 q21
    refine match q21 with | ⟨e_24, hJ23⟩ => ?_
    subst e_24
    replace hJ23 : JR Y _ _ _ := hJ23
    refine WI.w (W.perm (pmC pr9).symm (W.ok (ok_pick_t rfl h27) (W.nt (WC.cond_t rfl rfl (WC.sk (WC.seq (WC.block (WC.region (W.mv (W.fb fd35_6 rfl (W.ok (ok_ld 0 ic9 ty3 rfl) (W.lookG (V := vNode) mk71 mz35 ⟨_, rfl, ⟨_, _, _, _, _, _, _, _, rfl, SlR.nil, SlR.nil, SlR.nil, SlR.nil, Nd.zero_ok⟩⟩ (hmp5.mono lec) rfl rfl (fun v25 hv26 => ?_))))))))))))) (noDefer_of rfl)
    refine match hv26 with | ⟨_, e_28, ⟨pa_mn27, pc_mn27, ka_mn27, kc_mn27, ma_mn27, mc_mn27, ra_mn27, rc_mn27, e_29, hp_mn27, hk_mn27, hm_mn27, hr_mn27, hok_mn27⟩⟩ => ?_
    subst e_28
    subst e_29
    refine W.mv (W.ok (ok_extract rfl rfl) (W.ok (ok_extract rfl rfl) (W.st 0 nd9 nd9 ty35 rfl (W.as (W.nil (blk_n (thn_n (WC.region (W.mv (W.ok (ok_sub rfl rfl om9) (W.an ?_)))))))))))
    exact ⟨hG20, (((i + 1, (getM (bySl l) n.right).getD Nd.zero) : Nat × Nd), Ms22, (ndl ((getM (bySl l) ((n).right)).getD Nd.zero) pa_mn27 pc_mn27 ka_mn27 kc_mn27 ma_mn27 mc_mn27 ra_mn27 rc_mn27)), ⟨(congrArg Value.bool (by rw [hnn]; exact chn_ok t om9)), eqv, eqv, eqv, eqv, eqv, trivial⟩, ⟨rfl, (by have h := hJ23; rw [hnn, ← chn_take om9] at h; exact h), (by exact (nk9 hp_mn27 hk_mn27 hm_mn27 hr_mn27 hok_mn27)), by dsimp only; omega, fun h9 => by dsimp only at h9 ⊢; rw [hnn]; exact chn_nd t h9⟩, by dsimp only; omega⟩
   try dsimp only at p27
   exfalso; exact p27 (by rw [hnn]; exact hmm.2)
  try dsimp only at p21
  exfalso; omega
 have hi9 : ¬ i < (lvlS ss lv).length := odf hok9
 refine W.n8 hok9 rfl (W.n8 hok9 rfl (W.ok (ok_pick_f rfl hok9) (W.mv (W.n8 rfl rfl (W.n8 rfl rfl (W.n8 rfl rfl (W.n8 rfl rfl (W.ok (ok_pick_f rfl rfl) (W.mv (W.n8 rfl rfl (W.n8 rfl rfl (W.nil (WI.w ?_ (noDefer_of rfl))))))))))))))
 refine W.n8 rfl rfl (W.ok (ok_pick_f rfl rfl) (W.nt (WC.cond_f rfl rfl (WC.exit (thn_x (thn_x (blk_h ?_)))))))
 refine ⟨.inl rfl, [], trivial, M_0, (List.sublist_append_left _ _).cons _, ?_⟩
 have hob := ho_0
 rw [chnN_all om9] at hob
 exact hob

theorem qnodes_fc {G : GH} {v_l : Value} {l : List Nd} (h_l : SlR eNode G v_l l) (lv : Int) :
    Fc Try.prog 39 [v_l, iV lv] G [] (fun v G' M' => M' = [] ∧ ∃ b1 b2 vl, v = .func (.func 68) #[] #[pt9 b1, pt9 b2] ∧ CellsG G' b1 0 [vl] ∧ SlR eNode G' vl l ∧ CellsG G' b2 0 [iV lv]) := by
 obtain ⟨sa_l, sc_l, rfl⟩ := h_l.form
 have hl := h_l.len47
 refine Fc.go [.tmp 4] Try.func39 Try.ntmps39 rfl (fun w0 => (g9 2 ?_))
 refine W.box (L := [lV _ _ _]) rfl rfl (fun b30 => (W.box (L := [iV _]) rfl rfl (fun b31 => (g9 5 ?_))))
 refine W.giveB (b := b30) (L := [lV _ _ _]) ((List.Perm.swap _ _ _).trans (pr9.cons _)) (fun G32 hG32 hc32 => (W.giveB (b := b31) (L := [iV _]) pr9 (fun G33 hG33 hc33 => (W.ok (ok_makeFn (fst := []) (caps := [.tmp 2, .tmp 3]) (vs := []) (ws := [pt9 b30, pt9 b31]) rfl rfl) (g9 5 ?_)))))
 exact ⟨rfl, _, _, _, rfl, (hc32.mono hG33), (h_l.mono lec), hc33⟩

theorem qchain_fc {G : GH} {v_l : Value} {l : List Nd} (h_l : SlR eNode G v_l l) (lv : Int) {c : Cfg} {ss : List Seat} (t : Tree c l ss) :
    Fc Try.prog 12 [v_l, iV lv] G [] (fun v G' M' => M' = [] ∧ SlR eInt G' v ((List.map (fun n : Nd => n.slot)) ((lvlS ss lv).map (fun x : Seat => x.n)))) := by
 obtain ⟨sa_l, sc_l, rfl⟩ := h_l.form
 have hl := h_l.len47
 refine Fc.range (rs := [.tmp 4]) cl12 Try.func12 rfl Try.ntmps12 rfl rfl rfl rfl rfl rfl rfl rfl rfl (fun w0 => (W.as (W.nil (W.alloc zr30 (fun b1 => (W.nil (W.mv (W.mv (W.call (Mp := []) (qnodes_fc h_l lv) rfl pr9 ?_)))))))))
 intro v5 G2 Ms4 hG2 q3
 refine match q3 with | ⟨e_6, b_1, b_2, vl9, e_7, hb1, hl9, hb2⟩ => ?_
 subst e_6
 subst e_7
 refine W.nil ?_
 refine ⟨_, _, rfl, fun l9 rO hY => ?_⟩
 have hcall : ∀ {G : GH} {s : List Nd} {M : MH} {cs : List Value} {x : Nd}, AccJ eInt 3 30 (List.map (fun n : Nd => n.slot)) (l9, rO .ready) b1 G s M → NodeC G cs x → s.length < 4096 → NdS x → Yn Try.prog l9 [.agg (List.toArray cs)] G M (fun v G' M' => v = .bool true ∧ AccJ eInt 3 30 (List.map (fun n : Nd => n.slot)) (l9, rO .ready) b1 G' (s ++ [x]) M') := by
  intro G s M cs x hJ hx9 hsl9 hns9
  obtain ⟨hall9, v9, Mo, rfl, ho⟩ := hJ
  obtain ⟨sa_o, sc_o, rfl⟩ := ho.form
  obtain ⟨pa_a, pc_a, ka_a, kc_a, ma_a, mc_a, ra_a, rc_a, rfl, hp_a, hk_a, hm_a, hr_a, hok_a⟩ := hx9
  have hfr9 := flat_rows hall9
  have hrw9 := hns9.2.2.2.1
  obtain ⟨hso1, hso2⟩ := hok_a.1
  refine AccJ.next hall9 hns9 (hY _ _ _ _ (fun w0 own => (W.perm (M' := ((b1, ce9 30 [lV sa_o ((List.map (fun n : Nd => n.slot)) s).length sc_o]) :: (Mo ++ ([(l9, rO .ready)] ++ [])))) (by rw [← List.cons_append]; exact (pmE _ _).symm) (W.alloc zr35 (fun b8 => (W.st 0 nd9 nd9 ty35 rfl (W.nil ⟨((b8, ce9 35 (ndl x pa_a pc_a ka_a kc_a ma_a mc_a ra_a rc_a)) :: ((b1, ce9 30 [lV sa_o ((List.map (fun n : Nd => n.slot)) s).length sc_o]) :: (Mo ++ []))), (List.Perm.of_eq List.singleton_append).symm.trans (show (([(l9, rO .ready)] : MH) ++ (((b8, ce9 35 (ndl x pa_a pc_a ka_a kc_a ma_a mc_a ra_a rc_a)) :: ((b1, ce9 30 [lV sa_o ((List.map (fun n : Nd => n.slot)) s).length sc_o]) :: (Mo ++ []))) : MH)).Perm (((b8, ce9 35 (ndl x pa_a pc_a ka_a kc_a ma_a mc_a ra_a rc_a)) :: ((b1, ce9 30 [lV sa_o ((List.map (fun n : Nd => n.slot)) s).length sc_o]) :: (Mo ++ ([(l9, rO .ready)] ++ [])))) : MH) from pmC (pmC (pmA pr9))), (W.perm (M' := ((b8, ce9 35 (ndl x pa_a pc_a ka_a kc_a ma_a mc_a ra_a rc_a)) :: ((b1, ce9 30 [lV sa_o ((List.map (fun n : Nd => n.slot)) s).length sc_o]) :: (Mo ++ ([(l9, rO .busy)] ++ []))))) ((show (([(l9, rO .busy)] : MH) ++ (((b8, ce9 35 (ndl x pa_a pc_a ka_a kc_a ma_a mc_a ra_a rc_a)) :: ((b1, ce9 30 [lV sa_o ((List.map (fun n : Nd => n.slot)) s).length sc_o]) :: (Mo ++ []))) : MH)).Perm (((b8, ce9 35 (ndl x pa_a pc_a ka_a kc_a ma_a mc_a ra_a rc_a)) :: ((b1, ce9 30 [lV sa_o ((List.map (fun n : Nd => n.slot)) s).length sc_o]) :: (Mo ++ ([(l9, rO .busy)] ++ [])))) : MH) from pmC (pmC (pmA pr9))).symm.trans (List.Perm.of_eq List.singleton_append)) (W.ok (ok_ld 1 lc9 ty30 rfl) (W.fb fd35_0 rfl (W.ok (ok_ld 0 ic9 ty3 rfl) (W.lit (e := eInt) (l := [_]) (css := [[iV _]]) sl30 ty3 zr3 rfl rfl rfl rfl rfl rfl ⟨⟨rfl, om9, om9⟩, trivial⟩ (fun bl9 G9 hG9 hv9 => (W.app (e := eInt) sl30 ty3 zr3 rfl by3 rfl rfl ((ho.mono hG9)) (hv9) (pmC (pmC pr9)) (by show (List.length _ + 1) * 8 ≤ _; simp; omega) (fun v10 Ms11 ho12 => (W.perm (pmC (pmC pr9)).symm ?_)))))))))⟩)))))))
  have q16 := ho12.form
  refine match q16 with | ⟨sa13, sc14, e_15⟩ => ?_
  subst e_15
  refine W.st 1 lc9 lc9 ty30 rfl (W.nil ⟨((b8, ce9 35 (ndl x pa_a pc_a ka_a kc_a ma_a mc_a ra_a rc_a)) :: ((b1, ce9 30 [lV sa13 ((((List.map (fun n : Nd => n.slot)) s) ++ _)).length sc14]) :: (Ms11 ++ []))), ((b1, ce9 30 [lV sa13 ((((List.map (fun n : Nd => n.slot)) s) ++ _)).length sc14]) :: (Ms11 ++ [])), (List.Perm.of_eq List.singleton_append).symm.trans (show (([(l9, rO .busy)] : MH) ++ (((b8, ce9 35 (ndl x pa_a pc_a ka_a kc_a ma_a mc_a ra_a rc_a)) :: ((b1, ce9 30 [lV sa13 ((((List.map (fun n : Nd => n.slot)) s) ++ _)).length sc14]) :: (Ms11 ++ []))) : MH)).Perm (((b8, ce9 35 (ndl x pa_a pc_a ka_a kc_a ma_a mc_a ra_a rc_a)) :: ((b1, ce9 30 [lV sa13 ((((List.map (fun n : Nd => n.slot)) s) ++ _)).length sc14]) :: (Ms11 ++ ([(l9, rO .busy)] ++ [])))) : MH) from pmC (pmC (pmA pr9))), sr9.cons _, _, _, rfl, ?_⟩)
  rw [List.append_nil]
  have h := ho12; rw [List.map_append]; exact h
 refine (qnodes1_fc (⟨AccJ eInt 3 30 (List.map (fun n : Nd => n.slot)) (l9, rO .ready) b1, fun hl h => h.mono hl, hcall⟩ : YS Try.prog l9) (show AccJ eInt 3 30 (List.map (fun n : Nd => n.slot)) (l9, rO .ready) b1 _ [] _ from ⟨fun y hy => (by cases hy), _, [], rfl, OwnR.nil⟩) hb1 hl9 t hb2).mono ?_
 rintro v8 G8 M8 hG8 ⟨_, v9, Mo9, rfl, ho9⟩
 obtain ⟨sa9, sc9, rfl⟩ := ho9.form
 refine ⟨_, pr9, fun Md => ?_⟩
 refine W.perm (M' := ((b1, ce9 30 [lV sa9 (((List.map (fun n : Nd => n.slot)) ((lvlS ss lv).map (fun x : Seat => x.n)))).length sc9]) :: (Mo9 ++ (Md ++ [])))) (by simp) (W.ok (ok_ld 0 lc9 ty30 rfl) (W.as (W.giveO ho9 (pmC pr9) (fun G9 hG9 hv9 => (W.nil ⟨[_], [], ⟨rfl, trivial⟩, sr9.cons _, rfl, hv9⟩)))))

theorem qrows_fc {G : GH} {v_l : Value} {l : List Nd} (h_l : SlR eNode G v_l l) {c : Cfg} {ss : List Seat} (t : Tree c l ss) :
    Fc Try.prog 14 [v_l] G [] (fun v G' M' => M' = [] ∧ SlR ePair G' v ((List.flatMap (fun n : Nd => n.rows)) ((lvlS ss 0).map (fun x : Seat => x.n)))) := by
 obtain ⟨sa_l, sc_l, rfl⟩ := h_l.form
 have hl := h_l.len47
 refine Fc.range (rs := [.tmp 2]) cl14 Try.func14 rfl Try.ntmps14 rfl rfl rfl rfl rfl rfl rfl rfl rfl (fun w0 => (W.as (W.nil (W.alloc zr31 (fun b17 => (W.nil (W.mv (W.call (Mp := []) (qnodes_fc h_l 0) rfl pr9 ?_))))))))
 intro v21 G18 Ms20 hG18 q19
 refine match q19 with | ⟨e_22, b_1, b_2, vl9, e_23, hb1, hl9, hb2⟩ => ?_
 subst e_22
 subst e_23
 refine W.nil ?_
 refine ⟨_, _, rfl, fun l9 rO hY => ?_⟩
 have hcall : ∀ {G : GH} {s : List Nd} {M : MH} {cs : List Value} {x : Nd}, AccJ ePair 68 31 (List.flatMap (fun n : Nd => n.rows)) (l9, rO .ready) b17 G s M → NodeC G cs x → s.length < 4096 → NdS x → Yn Try.prog l9 [.agg (List.toArray cs)] G M (fun v G' M' => v = .bool true ∧ AccJ ePair 68 31 (List.flatMap (fun n : Nd => n.rows)) (l9, rO .ready) b17 G' (s ++ [x]) M') := by
  intro G s M cs x hJ hx9 hsl9 hns9
  obtain ⟨hall9, v9, Mo, rfl, ho⟩ := hJ
  obtain ⟨sa_o, sc_o, rfl⟩ := ho.form
  obtain ⟨pa_a, pc_a, ka_a, kc_a, ma_a, mc_a, ra_a, rc_a, rfl, hp_a, hk_a, hm_a, hr_a, hok_a⟩ := hx9
  have hfr9 := flat_rows hall9
  have hrw9 := hns9.2.2.2.1
  obtain ⟨hso1, hso2⟩ := hok_a.1
  refine AccJ.next hall9 hns9 (hY _ _ _ _ (fun w0 own => (W.perm (M' := ((b17, ce9 31 [lV sa_o ((List.flatMap (fun n : Nd => n.rows)) s).length sc_o]) :: (Mo ++ ([(l9, rO .ready)] ++ [])))) (by rw [← List.cons_append]; exact (pmE _ _).symm) (W.alloc zr35 (fun b24 => (W.st 0 nd9 nd9 ty35 rfl (W.nil ⟨((b24, ce9 35 (ndl x pa_a pc_a ka_a kc_a ma_a mc_a ra_a rc_a)) :: ((b17, ce9 31 [lV sa_o ((List.flatMap (fun n : Nd => n.rows)) s).length sc_o]) :: (Mo ++ []))), (List.Perm.of_eq List.singleton_append).symm.trans (show (([(l9, rO .ready)] : MH) ++ (((b24, ce9 35 (ndl x pa_a pc_a ka_a kc_a ma_a mc_a ra_a rc_a)) :: ((b17, ce9 31 [lV sa_o ((List.flatMap (fun n : Nd => n.rows)) s).length sc_o]) :: (Mo ++ []))) : MH)).Perm (((b24, ce9 35 (ndl x pa_a pc_a ka_a kc_a ma_a mc_a ra_a rc_a)) :: ((b17, ce9 31 [lV sa_o ((List.flatMap (fun n : Nd => n.rows)) s).length sc_o]) :: (Mo ++ ([(l9, rO .ready)] ++ [])))) : MH) from pmC (pmC (pmA pr9))), (W.perm (M' := ((b24, ce9 35 (ndl x pa_a pc_a ka_a kc_a ma_a mc_a ra_a rc_a)) :: ((b17, ce9 31 [lV sa_o ((List.flatMap (fun n : Nd => n.rows)) s).length sc_o]) :: (Mo ++ ([(l9, rO .busy)] ++ []))))) ((show (([(l9, rO .busy)] : MH) ++ (((b24, ce9 35 (ndl x pa_a pc_a ka_a kc_a ma_a mc_a ra_a rc_a)) :: ((b17, ce9 31 [lV sa_o ((List.flatMap (fun n : Nd => n.rows)) s).length sc_o]) :: (Mo ++ []))) : MH)).Perm (((b24, ce9 35 (ndl x pa_a pc_a ka_a kc_a ma_a mc_a ra_a rc_a)) :: ((b17, ce9 31 [lV sa_o ((List.flatMap (fun n : Nd => n.rows)) s).length sc_o]) :: (Mo ++ ([(l9, rO .busy)] ++ [])))) : MH) from pmC (pmC (pmA pr9))).symm.trans (List.Perm.of_eq List.singleton_append)) (W.ok (ok_ld 1 lc9 ty31 rfl) (W.fb fd35_9 rfl (W.ok (ok_ld 0 lc9 ty31 rfl) (W.app (e := ePair) sl31 ty68 zr68 rfl by68 rfl rfl (ho) (hr_a) (pmC (pmC pr9)) (by show (List.length _ + List.length _) * 32 ≤ _; omega) (fun v25 Ms26 ho27 => (W.perm (pmC (pmC pr9)).symm ?_)))))))⟩)))))))
  have q31 := ho27.form
  refine match q31 with | ⟨sa28, sc29, e_30⟩ => ?_
  subst e_30
  refine W.st 1 lc9 lc9 ty31 rfl (W.nil ⟨((b24, ce9 35 (ndl x pa_a pc_a ka_a kc_a ma_a mc_a ra_a rc_a)) :: ((b17, ce9 31 [lV sa28 ((((List.flatMap (fun n : Nd => n.rows)) s) ++ x.rows)).length sc29]) :: (Ms26 ++ []))), ((b17, ce9 31 [lV sa28 ((((List.flatMap (fun n : Nd => n.rows)) s) ++ x.rows)).length sc29]) :: (Ms26 ++ [])), (List.Perm.of_eq List.singleton_append).symm.trans (show (([(l9, rO .busy)] : MH) ++ (((b24, ce9 35 (ndl x pa_a pc_a ka_a kc_a ma_a mc_a ra_a rc_a)) :: ((b17, ce9 31 [lV sa28 ((((List.flatMap (fun n : Nd => n.rows)) s) ++ x.rows)).length sc29]) :: (Ms26 ++ []))) : MH)).Perm (((b24, ce9 35 (ndl x pa_a pc_a ka_a kc_a ma_a mc_a ra_a rc_a)) :: ((b17, ce9 31 [lV sa28 ((((List.flatMap (fun n : Nd => n.rows)) s) ++ x.rows)).length sc29]) :: (Ms26 ++ ([(l9, rO .busy)] ++ [])))) : MH) from pmC (pmC (pmA pr9))), sr9.cons _, _, _, rfl, ?_⟩)
  rw [List.append_nil]
  have h := ho27; rw [List.flatMap_append]; simpa using h
 refine (qnodes1_fc (⟨AccJ ePair 68 31 (List.flatMap (fun n : Nd => n.rows)) (l9, rO .ready) b17, fun hl h => h.mono hl, hcall⟩ : YS Try.prog l9) (show AccJ ePair 68 31 (List.flatMap (fun n : Nd => n.rows)) (l9, rO .ready) b17 _ [] _ from ⟨fun y hy => (by cases hy), _, [], rfl, OwnR.nil⟩) hb1 hl9 t hb2).mono ?_
 rintro v8 G8 M8 hG8 ⟨_, v9, Mo9, rfl, ho9⟩
 obtain ⟨sa9, sc9, rfl⟩ := ho9.form
 refine ⟨_, pr9, fun Md => ?_⟩
 refine W.perm (M' := ((b17, ce9 31 [lV sa9 (((List.flatMap (fun n : Nd => n.rows)) ((lvlS ss 0).map (fun x : Seat => x.n)))).length sc9]) :: (Mo9 ++ (Md ++ [])))) (by simp) (W.ok (ok_ld 0 lc9 ty31 rfl) (W.as (W.giveO ho9 (pmC pr9) (fun G9 hG9 hv9 => (W.nil ⟨[_], [], ⟨rfl, trivial⟩, sr9.cons _, rfl, hv9⟩)))))

end Go.Proofs.Ytcngningbcaggaa
