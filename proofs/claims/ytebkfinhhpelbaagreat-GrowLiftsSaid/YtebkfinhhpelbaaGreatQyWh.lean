/- Walks of views and fresh messages. -/
import Derived.Test.YtebkfinhhpelbaaGreatQyWd
import Derived.Test.YtebkfinhhpelbaaGreatQyWg
import Derived.Test.YtebkfinhhpelbaaGreatQyUc
import Derived.Test.YtebkfinhhpelbaaGreatQyNq
namespace Go.Proofs.YtebkfinhhpelbaaGreat
open Go Go.Fw Go.RowKit
set_option maxRecDepth 100000
set_option maxHeartbeats 1600000
set_option linter.unusedVariables false
set_option linter.unusedSimpArgs false
set_option linter.unnecessarySimpa false
theorem rview_fc {G : GH} {v_l : Value} {l : List Pair} (h_l : SlR ePair G v_l l) (slo : Str) (shi : Str) (so : Bool) {v_ms : Value} {ms : List Msg} (h_ms : SlR eMsg G v_ms ms) (hP : PairsR l) (hn : l.length + ms.length ≤ 1000000) (hm : ∀ m ∈ ms, m.key.b.size ≤ 16 ∧ m.val.b.size ≤ 16) (hs : slo.b.size ≤ 300) :
    Fc Tryz.prog 69 [v_l, .agg #[.string slo.b, .string shi.b, .bool so], v_ms] G [] (fun v G' M' => M' = [] ∧ ∃ u0, v = u0 ∧ SlR ePair G' u0 (foldN (l.filter fun p => Span.has ⟨slo, shi, so⟩ p.key) (clips ⟨slo, shi, so⟩ ms))) := by
 obtain ⟨sa_l, sc_l, rfl⟩ := h_l.form
 obtain ⟨sa_ms, sc_ms, rfl⟩ := h_ms.form
 have hPf : PairsR (l.filter fun p => Span.has ⟨slo, shi, so⟩ p.key) := hP.filter _
 have hcm := clips_fit (s := ⟨slo, shi, so⟩) hs hm
 have hcl : (clips ⟨slo, shi, so⟩ ms).length ≤ ms.length := clips_le
 have hfl := List.length_filter_le (fun p : Pair => Span.has ⟨slo, shi, so⟩ p.key) l
 have hks : ∀ m ∈ ms, m.key.b.size < 140737488355328 := fun m h => by have := (hm m h).1; omega
 refine Fc.intro (rs := [.tmp 6]) cl69 Tryz.func69 rfl Tryz.ntmps69 rfl rfl (fun w0 => ?_)
 refine WC.seq (WC.region (W.box (L := [.string _, .string _, .bool _]) rfl rfl (fun b23 => (W.as (W.nil (thn_n (WC.seq (WC.drawW _ ((List.Sublist.refl _).cons_cons _) mix (by rintro _ _ _ _ ⟨h | h, _⟩ <;> cases h) (WD.take 0 rfl rfl rfl (by kernel_rfl) (by kernel_rfl) (by kernel_rfl) (ok_mv) ?_)))))))))
 refine WD.take 1 rfl rfl rfl (by kernel_rfl) (by kernel_rfl) (by kernel_rfl) (ok_loadB (i := 0) (vs := [.string _, .string _, .bool _]) ty52 rfl rfl rfl rfl (by simp)) (WD.take 2 rfl rfl rfl (by kernel_rfl) (by kernel_rfl) (by kernel_rfl) (ok_mv) (WD.take 3 rfl rfl rfl (by kernel_rfl) (by kernel_rfl) (by kernel_rfl) (ok_len sl41 h_l rfl) (WD.take 5 rfl rfl rfl (by kernel_rfl) (by kernel_rfl) (by kernel_rfl) (ok_mv) (WD.take 6 rfl rfl rfl (by kernel_rfl) (by kernel_rfl) (by kernel_rfl) (ok_loadB (i := 0) (vs := [.string _, .string _, .bool _]) ty52 rfl rfl rfl rfl (by simp)) (WD.any [4] (by kernel_rfl) rfl ⟨⟨_, rfl, rfl, (W.call (Mp := []) (rscan_fc h_l slo shi so (l.length : Int) (by omega)) rfl (List.Perm.refl _) ?_)⟩, trivial⟩)))))
 intro _ G24 _ hG24 q26
 refine match q26 with | ⟨e_27, _, e_28, hv25⟩ => ?_
 subst e_27
 subst e_28
 have q30 := hv25.form
 refine match q30 with | ⟨sa_hv25, sc_hv25, e_29⟩ => ?_
 subst e_29
 refine W.nil ⟨hG24, (List.Sublist.refl _).cons_cons _, _, (List.Sublist.refl _).cons_cons _, List.Sublist.refl _, (WD.any [7] (by kernel_rfl) rfl ⟨⟨_, rfl, rfl, (W.call (Mp := []) (rclips_fc (h_ms.mono hG24) slo shi so hks) rfl (List.Perm.refl _) ?_)⟩, trivial⟩)⟩
 intro _ G31 _ hG31 q33
 refine match q33 with | ⟨e_34, _, e_35, hv32⟩ => ?_
 subst e_34
 subst e_35
 have q37 := hv32.form
 refine match q37 with | ⟨sa_hv32, sc_hv32, e_36⟩ => ?_
 subst e_36
 refine W.nil ⟨hG31, (List.Sublist.refl _).cons_cons _, _, (List.Sublist.refl _).cons_cons _, List.Sublist.refl _, (WD.any [8] (by kernel_rfl) rfl ⟨⟨_, rfl, rfl, (W.call (Mp := []) (rfoldF_fc (SlR.cast (hv25.mono hG31) (scan_whole l ⟨slo, shi, so⟩)) hv32 hPf (by omega) hcm) rfl (List.Perm.refl _) ?_)⟩, trivial⟩)⟩
 intro _ G38 _ hG38 q40
 refine match q40 with | ⟨e_41, _, e_42, hv39⟩ => ?_
 subst e_41
 subst e_42
 have q44 := hv39.form
 refine match q44 with | ⟨sa_hv39, sc_hv39, e_43⟩ => ?_
 subst e_43
 refine W.nil ⟨hG38, (List.Sublist.refl _).cons_cons _, _, (List.Sublist.refl _).cons_cons _, List.Sublist.refl _, (WD.take 9 rfl rfl rfl (by kernel_rfl) (by kernel_rfl) (by kernel_rfl) (ok_as) (WD.done (by kernel_rfl) (thn_n (WC.ret ?_))))⟩
 refine ⟨.inr rfl, [_], ⟨rfl, trivial⟩, [], List.nil_sublist _, ?_⟩
 refine ⟨rfl, _, rfl, ?_⟩
 · exact hv39

end Go.Proofs.YtebkfinhhpelbaaGreat
/- The walk of the map that a sound tree stands for, by definition. -/
namespace Go.Proofs.YtebkfinhhpelbaaGreat
open Go Go.Fw Go.RowKit
set_option maxRecDepth 100000
set_option maxHeartbeats 1600000
set_option linter.unusedVariables false
set_option linter.unusedSimpArgs false
set_option linter.unnecessarySimpa false
theorem map27_fc {G : GH} {v_l : Value} {l : List Nd} (h_l : SlR eNode G v_l l) (c2 : Cfg) (ss : List Seat) (t : Tree c2 l ss) :
    Fc Tryz.prog 21 [v_l] G [] (fun v G' M' => M' = [] ∧ ∃ u0, v = u0 ∧ SlR ePair G' u0 (mapN l)) := by
 obtain ⟨sa_l, sc_l, rfl⟩ := h_l.form
 have hl := h_l.len47
 have hS := t.sml
 have hl100 := hS.1
 have hsl := t.len
 refine Fc.intro (rs := [.tmp 2]) cl21 Tryz.func21 rfl Tryz.ntmps21 rfl rfl (fun w0 => ?_)
 refine WC.seq (WC.region (W.as (W.nil (thn_n (WC.seq (WC.region (W.as (W.nil (thn_n ?_)))))))))
 refine WC.seq (WC.region (W.mv (W.call (Mp := []) (seats_fc h_l _ (by assumption)) rfl (List.Perm.refl _) ?_)))
 intro v3 G1 _ hG1 q2
 have q4 := q2.1
 subst q4
 have q5 := q2.2
 refine Or.elim q5 (fun q6 => ?_) (fun q7 => ?_)
 ·refine match q6 with | ⟨u_s8, ssq, hssq, e_9, hv_s8, hqsq⟩ => ?_
  subst e_9
  have q11 := hv_s8.form
  refine match q11 with | ⟨sa_s8, sc_s8, e_10⟩ => ?_
  subst e_10
  have e9 : ss = ssq := Option.some.inj (t.sts.symm.trans hssq)
  subst e9
  have hss47q := hv_s8.len47
  refine W.mv (W.ok (ok_extract rfl rfl) (W.ok (ok_extract rfl rfl) (W.as (W.as (W.nil (thn_n (WC.seq (WC.seq ?_))))))))
  refine WC.region (W.mv (W.ok (ok_not rfl) (W.nil (thn_n (WC.cond_f rfl rfl (WC.skip (thn_n (WC.seq (WC.seq ?_)))))))))
  refine WC.region (W.as (W.nil (thn_n (WC.block ?_))))
  refine WC.loop (X := (Nat) × Value × MH) (fun i => [(6, .int .i64 ((i.1 : Nat) : Int)), (4, .slice sa_s8 ss.length sc_s8), (3, i.2.1)]) (fun i G Ml => Ml = (i.2.2 ++ []) ∧ OwnR ePair 69 G i.2.1 ((leavesS (ss.take i.1)).flatMap viewS) i.2.2 ∧ i.1 ≤ ss.length) (fun i => ss.length - i.1) (0, .slice none 0 0, ([] : MH)) ⟨eqv, eqv, eqv, trivial⟩ ?_ ?_
  ·exact ⟨rfl, (by exact OwnR.nil), by omega⟩
  ·rintro ⟨i, v_3, M_3⟩ gG12 G12 _ hG12 ⟨rfl, ho_3, hi⟩
   try dsimp only at ho_3 hi
   have hvl := t.views_len i
   refine WC.fr (f := setL gG12 [(6, .int .i64 ((i : Nat) : Int)), (4, .slice sa_s8 ss.length sc_s8), (3, v_3)]) rfl (WC.seq (WC.seq (WC.region (W.mv (W.mv (W.ok (ok_len sl105 (hv_s8.mono hG12) rfl) (W.ok (ok_lss rfl rfl) ?_)))))))
   refine W.nil (thn_n ?_)
   refine WC.cond (b := _) rfl (fun h17 => ?_) (fun h17 => ?_)
   ·have p17 := of_decide_eq_true h17
    refine WC.skip (thn_n (WC.seq (WC.block (WC.seq (WC.region (W.mv (W.mv ?_)))))))
    have q16 := (hv_s8.mono hG12).at (i := i) (by omega)
    refine match q16 with | ⟨_, he13, ⟨pa_t14, pc_t14, ka_t14, kc_t14, ma_t14, mc_t14, ra_t14, rc_t14, qa_t14, qc_t14, e_15, hp_t14, hk_t14, hm_t14, hr_t14, hq_t14, hok_t14⟩⟩ => ?_
    subst e_15
    refine W.ok (ok_indexAddr (i := i) sl105 ty111 (hv_s8.mono hG12) rfl rfl ⟨by omega, by omega⟩) (W.ok (ok_fieldE fd111_0 rfl he13.form) (W.ok (ok_fieldE fd47_1 rfl he13.form) (W.ok (ok_loadE (vs := [.int .i64 _]) ty3 he13 rfl rfl rfl (by simp)) (W.ok (ok_eql rfl rfl) (W.nil (thn_n ?_))))))
    refine WC.cond (b := _) rfl (fun h26 => ?_) (fun h26 => ?_)
    ·have p26 := of_decide_eq_true h26
     have hmem : (ss[i]'(by omega)) ∈ ss := List.getElem_mem _
     have htf := t.fits _ hmem
     have hvx := t.view_len hmem
     have hrx : (ss[i]'(by omega)).n.rows.length ≤ 4000 := (t.sml.at (.inr (t.nd hmem).2.2)).2.2.2.1
     have hmx := (hqsq i (by omega)).ms
     refine WC.drawW _ (List.nil_sublist _) mix (by rintro _ _ _ _ ⟨h | h, _⟩ <;> cases h) (WD.take 0 rfl rfl rfl (by kernel_rfl) (by kernel_rfl) (by kernel_rfl) (ok_mv) (WD.take 1 rfl rfl rfl (by kernel_rfl) (by kernel_rfl) (by kernel_rfl) (ok_mv) (WD.take 2 rfl rfl rfl (by kernel_rfl) (by kernel_rfl) (by kernel_rfl) (ok_mv) ?_)))
     have q20 := (hv_s8.mono hG12).at (i := i) (by omega)
     refine match q20 with | ⟨_, he17, ⟨pa_t18, pc_t18, ka_t18, kc_t18, ma_t18, mc_t18, ra_t18, rc_t18, qa_t18, qc_t18, e_19, hp_t18, hk_t18, hm_t18, hr_t18, hq_t18, hok_t18⟩⟩ => ?_
     subst e_19
     refine WD.take 3 rfl rfl rfl (by kernel_rfl) (by kernel_rfl) (by kernel_rfl) (ok_indexAddr (i := i) sl105 ty111 (hv_s8.mono hG12) rfl rfl ⟨by omega, by omega⟩) (WD.take 4 rfl rfl rfl (by kernel_rfl) (by kernel_rfl) (by kernel_rfl) (ok_fieldE fd111_0 rfl he17.form) (WD.take 5 rfl rfl rfl (by kernel_rfl) (by kernel_rfl) (by kernel_rfl) (ok_fieldE fd47_9 rfl he17.form) (WD.take 6 rfl rfl rfl (by kernel_rfl) (by kernel_rfl) (by kernel_rfl) (ok_loadE (vs := [.slice _ _ _]) ty41 he17 rfl rfl rfl (by simp)) (WD.take 7 rfl rfl rfl (by kernel_rfl) (by kernel_rfl) (by kernel_rfl) (ok_mv) (WD.take 8 rfl rfl rfl (by kernel_rfl) (by kernel_rfl) (by kernel_rfl) (ok_mv) ?_)))))
     have q24 := (hv_s8.mono hG12).at (i := i) (by omega)
     refine match q24 with | ⟨_, he21, ⟨pa_t22, pc_t22, ka_t22, kc_t22, ma_t22, mc_t22, ra_t22, rc_t22, qa_t22, qc_t22, e_23, hp_t22, hk_t22, hm_t22, hr_t22, hq_t22, hok_t22⟩⟩ => ?_
     subst e_23
     refine WD.take 9 rfl rfl rfl (by kernel_rfl) (by kernel_rfl) (by kernel_rfl) (ok_indexAddr (i := i) sl105 ty111 (hv_s8.mono hG12) rfl rfl ⟨by omega, by omega⟩) (WD.take 10 rfl rfl rfl (by kernel_rfl) (by kernel_rfl) (by kernel_rfl) (ok_fieldE fd111_1 rfl he21.form) (WD.take 11 rfl rfl rfl (by kernel_rfl) (by kernel_rfl) (by kernel_rfl) (ok_loadE (vs := [.string _, .string _, .bool _]) ty52 he21 rfl rfl rfl (by simp)) (WD.take 12 rfl rfl rfl (by kernel_rfl) (by kernel_rfl) (by kernel_rfl) (ok_mv) (WD.take 13 rfl rfl rfl (by kernel_rfl) (by kernel_rfl) (by kernel_rfl) (ok_mv) ?_))))
     have q28 := (hv_s8.mono hG12).at (i := i) (by omega)
     refine match q28 with | ⟨_, he25, ⟨pa_t26, pc_t26, ka_t26, kc_t26, ma_t26, mc_t26, ra_t26, rc_t26, qa_t26, qc_t26, e_27, hp_t26, hk_t26, hm_t26, hr_t26, hq_t26, hok_t26⟩⟩ => ?_
     subst e_27
     refine WD.take 14 rfl rfl rfl (by kernel_rfl) (by kernel_rfl) (by kernel_rfl) (ok_indexAddr (i := i) sl105 ty111 (hv_s8.mono hG12) rfl rfl ⟨by omega, by omega⟩) (WD.take 15 rfl rfl rfl (by kernel_rfl) (by kernel_rfl) (by kernel_rfl) (ok_fieldE fd111_2 rfl he25.form) (WD.take 16 rfl rfl rfl (by kernel_rfl) (by kernel_rfl) (by kernel_rfl) (ok_loadE (vs := [.slice _ _ _]) ty45 he25 rfl rfl rfl (by simp)) (WD.any [17] (by kernel_rfl) rfl ⟨⟨_, rfl, rfl, (W.call (Mp := []) (rview_fc hr_t18 (ss[i]'(by omega)).s.lo (ss[i]'(by omega)).s.hi (ss[i]'(by omega)).s.opn hq_t26 (t.rows hmem) (by omega) (fun m hm => msgR_key (htf.2 m hm)) (by have := htf.1.1; omega)) rfl (List.Perm.refl _) ?_)⟩, trivial⟩)))
     intro _ G29 _ hG29 q31
     refine match q31 with | ⟨e_32, _, e_33, hv30⟩ => ?_
     subst e_32
     subst e_33
     have hc34 := SlR.cast hv30 (l' := viewS (ss[i]'(by omega))) (rfl)
     have q36 := hc34.form
     refine match q36 with | ⟨sa_hc34, sc_hc34, e_35⟩ => ?_
     subst e_35
     refine W.nil ⟨hG29, List.nil_sublist _, _, List.nil_sublist _, List.Sublist.refl _, (WD.any [18] (by kernel_rfl) rfl ⟨⟨_, rfl, rfl, (W.app (e := ePair) sl41 ty69 zr69 rfl by69 rfl rfl ((ho_3.mono hG29)) (hc34) (List.Perm.refl _) (by show (List.length _ + List.length _) * 32 ≤ _; omega) (fun v37 Ms38 ho39 => (W.nil ⟨Le.rfl, List.nil_sublist _, _, List.nil_sublist _, List.Sublist.refl _, (WD.take 19 rfl rfl rfl (by kernel_rfl) (by kernel_rfl) (by kernel_rfl) (ok_as) (WD.done (by kernel_rfl) (blk_n (thn_n (WC.region (W.mv ?_))))))⟩)))⟩, trivial⟩)⟩
     refine W.ok (ok_add rfl rfl (by omega)) (W.as (W.nil (thn_n ?_)))
     exact ⟨hG29, (i + 1, v37, Ms38), ⟨eqv, eqv, eqv, trivial⟩, ⟨rfl, (by have h := ho39; rw [leaves_t (by omega) p26, List.flatMap_append, List.flatMap_singleton]; exact h), by omega⟩, by omega⟩
    ·have p26 := of_decide_eq_false h26
     refine WC.skip (blk_n (thn_n (WC.region (W.mv (W.ok (ok_add rfl rfl (by omega)) (W.as (W.nil (thn_n ?_))))))))
     exact ⟨Le.rfl, (i + 1, v_3, M_3), ⟨eqv, eqv, eqv, trivial⟩, ⟨rfl, (by have h := ho_3; rw [leaves_f (by omega) p26]; exact h), by omega⟩, by omega⟩
   ·have p17 := of_decide_eq_false h17
    refine WC.exit (thn_x (thn_x (blk_h (thn_n (WC.seq (WC.region (W.mv (W.as (W.nil (thn_n (WC.giveO ho_3 (List.Perm.refl _) (fun G40 hG40 hv40 => (WC.ret ?_)))))))))))))
    refine ⟨.inr rfl, [_], ⟨rfl, trivial⟩, [], List.nil_sublist _, ?_⟩
    refine ⟨rfl, _, rfl, ?_⟩
    · exact SlR.cast hv40 (by rw [mapN_t t.sts, List.take_of_length_le (by omega)])
 ·exact absurd (t.sts.symm.trans (by obtain ⟨_, _, h0, _⟩ := q7; exact h0)) (by simp)

end Go.Proofs.YtebkfinhhpelbaaGreat
