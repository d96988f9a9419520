/- Walks of parting a kid by definition, of any index. -/
import Derived.Test.YtebkfinhhpelbaaGreatQzUu
set_option maxRecDepth 100000
set_option maxHeartbeats 1600000
set_option linter.unusedVariables false
set_option linter.unusedSimpArgs false
set_option linter.unnecessarySimpa false
namespace Go.Proofs.YtebkfinhhpelbaaGreat
open Go Go.Fw Go.RowKit
theorem rpartn26_fc {G : GH} {b_s : Nat} {c : Cfg} {v_l : Value} {l : List Nd} {Ms_l : MH} (h_l : OwnR eNode 47 G v_l l Ms_l) (p : Int) (i : Int) (hn9 : i < 0) :
    Fc Tryz.prog 41 [.pointer (some ⟨b_s, 0, none⟩), .int .i64 p, .int .i64 i] G ((b_s, .cells (List.toArray [.int .i64 c.fan, .int .i64 c.leaf, .int .i64 c.bud, .int .i64 c.slots, .int .i64 c.rest, v_l]) 38 (0, 0)) :: (Ms_l)) (fun v G' M' => v = .int .i64 8 ∧ M' = (b_s, .cells (List.toArray [.int .i64 c.fan, .int .i64 c.leaf, .int .i64 c.bud, .int .i64 c.slots, .int .i64 c.rest, v_l]) 38 (0, 0)) :: Ms_l) := by
 obtain ⟨sa_l, sc_l, rfl⟩ := h_l.form
 have hl := h_l.len47
 refine Fc.intro (rs := [.tmp 6]) cl41 Tryz.func41 rfl Tryz.ntmps41 rfl rfl (fun w0 => ?_)
 refine WC.perm (M' := ((b_s, .cells (List.toArray [.int .i64 c.fan, .int .i64 c.leaf, .int .i64 c.bud, .int .i64 c.slots, .int .i64 c.rest, .slice sa_l l.length sc_l]) 38 (0, 0)) :: (Ms_l ++ []))) (by simp) (WC.seq (WC.region (W.as (W.nil (thn_n (WC.seq (WC.seq (WC.region (W.mv (W.mv (W.call (Mp := ((b_s, .cells (List.toArray [.int .i64 c.fan, .int .i64 c.leaf, .int .i64 c.bud, .int .i64 c.slots, .int .i64 c.rest, .slice sa_l l.length sc_l]) 38 (0, 0)) :: Ms_l)) (Mr := []) (rhas25_fc (c := c) h_l _) rfl ((pr9.cons _).trans pr9) ?_)))))))))))
 intro v4 G1 Ms3 hG1 q2
 refine match q2 with | ⟨e_5, e_6⟩ => ?_
 subst e_5
 subst e_6
 refine W.perm (M' := ((b_s, .cells (List.toArray [.int .i64 c.fan, .int .i64 c.leaf, .int .i64 c.bud, .int .i64 c.slots, .int .i64 c.rest, .slice sa_l l.length sc_l]) 38 (0, 0)) :: (Ms_l ++ []))) ((pr9.cons _).trans pr9).symm (W.ok (ok_not rfl) (W.mv ?_))
 refine W.sp 18 rfl (fun h17 => ?_) (fun h17 => ?_)
 ·have p17 := nd_t h17
  refine W.no (dj := 18) rfl rfl h17 (W.no (dj := 18) rfl rfl h17 (W.ok (ok_pick_t rfl h17) (W.mv (W.no (dj := 22) rfl rfl rfl (W.no (dj := 22) rfl rfl rfl (W.no (dj := 22) rfl rfl rfl (W.no (dj := 22) rfl rfl rfl (W.no (dj := 22) rfl rfl rfl (W.no (dj := 22) rfl rfl rfl (W.no (dj := 22) rfl rfl rfl (W.no (dj := 22) rfl rfl rfl (W.no (dj := 22) rfl rfl rfl (W.no (dj := 22) rfl rfl rfl ?_)))))))))))))
  refine W.no (dj := 22) rfl rfl rfl (W.ok (ok_pick_t rfl rfl) (W.mv (W.no (dj := 35) rfl rfl rfl (W.no (dj := 35) rfl rfl rfl (W.no (dj := 35) rfl rfl rfl (W.no (dj := 35) rfl rfl rfl (W.no (dj := 35) rfl rfl rfl (W.no (dj := 35) rfl rfl rfl (W.no (dj := 35) rfl rfl rfl (W.no (dj := 35) rfl rfl rfl (W.no (dj := 35) rfl rfl rfl (W.no (dj := 35) rfl rfl rfl (W.no (dj := 35) rfl rfl rfl ?_)))))))))))))
  refine W.no (dj := 35) rfl rfl rfl (W.no (dj := 35) rfl rfl rfl (W.no (dj := 35) rfl rfl rfl (W.ok (ok_pick_t rfl rfl) (W.nil (thn_n (WC.cond_t rfl rfl (WC.seq (WC.region (W.as (W.nil (thn_n (WC.ret (thn_r ?_)))))))))))))
  refine ⟨.inr rfl, [_], ⟨rfl, trivial⟩, ((b_s, .cells (List.toArray [.int .i64 c.fan, .int .i64 c.leaf, .int .i64 c.bud, .int .i64 c.slots, .int .i64 c.rest, .slice sa_l l.length sc_l]) 38 (0, 0)) :: (Ms_l ++ [])), sr9.k9, ?_⟩
  exact ⟨rfl, congrArg _ (List.append_nil _)⟩
 have p17 := nd_f h17
 refine W.yes (dj := 18) rfl rfl h17 (W.mv (W.yes (dj := 18) rfl rfl h17 (W.ok (ok_lss rfl rfl) (W.ok (ok_pick_f rfl h17) (W.mv ?_)))))
 refine W.sp 22 rfl (fun h20 => ?_) (fun h20 => ?_)
 ·have p20 := of_decide_eq_true h20
  refine W.no (dj := 22) rfl rfl h20 (W.no (dj := 22) rfl rfl h20 (W.no (dj := 22) rfl rfl h20 (W.no (dj := 22) rfl rfl h20 (W.no (dj := 22) rfl rfl h20 (W.no (dj := 22) rfl rfl h20 (W.no (dj := 22) rfl rfl h20 (W.no (dj := 22) rfl rfl h20 (W.no (dj := 22) rfl rfl h20 (W.no (dj := 22) rfl rfl h20 (W.no (dj := 22) rfl rfl h20 (W.ok (ok_pick_t rfl h20) (W.mv (W.no (dj := 35) rfl rfl rfl ?_)))))))))))))
  refine W.no (dj := 35) rfl rfl rfl (W.no (dj := 35) rfl rfl rfl (W.no (dj := 35) rfl rfl rfl (W.no (dj := 35) rfl rfl rfl (W.no (dj := 35) rfl rfl rfl (W.no (dj := 35) rfl rfl rfl (W.no (dj := 35) rfl rfl rfl (W.no (dj := 35) rfl rfl rfl (W.no (dj := 35) rfl rfl rfl (W.no (dj := 35) rfl rfl rfl (W.no (dj := 35) rfl rfl rfl (W.no (dj := 35) rfl rfl rfl (W.no (dj := 35) rfl rfl rfl (W.ok (ok_pick_t rfl rfl) ?_)))))))))))))
  refine W.nil (thn_n (WC.cond_t rfl rfl (WC.seq (WC.region (W.as (W.nil (thn_n (WC.ret (thn_r ?_)))))))))
  refine ⟨.inr rfl, [_], ⟨rfl, trivial⟩, ((b_s, .cells (List.toArray [.int .i64 c.fan, .int .i64 c.leaf, .int .i64 c.bud, .int .i64 c.slots, .int .i64 c.rest, .slice sa_l l.length sc_l]) 38 (0, 0)) :: (Ms_l ++ [])), sr9.k9, ?_⟩
  exact ⟨rfl, congrArg _ (List.append_nil _)⟩
 have p20 := of_decide_eq_false h20
 exfalso; omega

theorem rparti_fc {G : GH} {b_s : Nat} {c : Cfg} {v_l : Value} {l : List Nd} {Ms_l : MH} (h_l : OwnR eNode 47 G v_l l Ms_l) (p i : Int) (hi : i64 i) (hS : Sml l) (hSl : SlotsP l) : Fc Tryz.prog 41 [.pointer (some ⟨b_s, 0, none⟩), .int .i64 p, .int .i64 i] G ((b_s, .cells (List.toArray [.int .i64 c.fan, .int .i64 c.leaf, .int .i64 c.bud, .int .i64 c.slots, .int .i64 c.rest, v_l]) 38 (0, 0)) :: Ms_l) (fun v G' M' => v = .int .i64 (partI c l p i).1 ∧ RfR 47 38 b_s c G' (partI c l p i).2 M') := by
  by_cases hn : i < 0
  · refine (rpartn26_fc h_l p i hn).mono fun v G' M' hle ⟨e1, e2⟩ => ?_
    unfold partI
    rw [if_pos hn]
    exact ⟨e1, _, _, e2, h_l.mono hle⟩
  obtain ⟨n, rfl⟩ : ∃ n : Nat, i = (n : Int) := ⟨i.toNat, by omega⟩
  have h0 := rpart26_fc (b_s := b_s) (c := c) h_l p n hi hS hSl
  unfold partI
  rw [if_neg hn]
  exact h0
end Go.Proofs.YtebkfinhhpelbaaGreat
namespace Go.Proofs.YtebkfinhhpelbaaGreat
open Go Go.Fw Go.RowKit
theorem rview_fc {G : GH} {v_l : Value} {l : List Pair} (h_l : SlR ePair G v_l l) (slo : Str) (shi : Str) (so : Bool) {v_ms : Value} {ms : List Msg} (h_ms : SlR eMsg G v_ms ms) (hP : PairsR l) (hn : l.length + ms.length ≤ 1000000) (hm : ∀ m ∈ ms, m.key.b.size ≤ 16 ∧ m.val.b.size ≤ 16) (hs : slo.b.size ≤ 300) :
    Fc Tryz.prog 69 [v_l, .agg #[.string slo.b, .string shi.b, .bool so], v_ms] G [] (fun v G' M' => M' = [] ∧ ∃ u0, v = u0 ∧ SlR ePair G' u0 (foldN (l.filter fun p => Span.has ⟨slo, shi, so⟩ p.key) (clips ⟨slo, shi, so⟩ ms))) := by
 obtain ⟨sa_l, sc_l, rfl⟩ := h_l.form
 obtain ⟨sa_ms, sc_ms, rfl⟩ := h_ms.form
 have hPf : PairsR (l.filter fun p => Span.has ⟨slo, shi, so⟩ p.key) := hP.filter _
 have hcm := clips_fit (s := ⟨slo, shi, so⟩) hs hm
 have hcl : (clips ⟨slo, shi, so⟩ ms).length ≤ ms.length := clips_le
 have hfl := List.length_filter_le (fun p : Pair => Span.has ⟨slo, shi, so⟩ p.key) l
 have hks : ∀ m ∈ ms, m.key.b.size < 140737488355328 := fun m h => by have := (hm m h).1; omega
 refine Fc.intro (rs := [.tmp 6]) cl69 Tryz.func69 rfl Tryz.ntmps69 rfl rfl (fun w0 => ?_)
 refine WC.seq (WC.region (W.box (L := [.string _, .string _, .bool _]) rfl rfl (fun b23 => (W.as (W.nil (thn_n (WC.seq (WC.drawW _ sr9.k9 mix (by rintro _ _ _ _ ⟨h | h, _⟩ <;> cases h) (WD.tk 0 rfl (ok_mv) (WD.tk 1 rfl (ok_loadB (i := 0) (vs := [.string _, .string _, .bool _]) ty52 rfl rfl rfl rfl (by simp)) (WD.tk 2 rfl (ok_mv) (WD.tk 3 rfl (ok_len sl41 h_l rfl) (WD.tk 5 rfl (ok_mv) (WD.tk 6 rfl (ok_loadB (i := 0) (vs := [.string _, .string _, .bool _]) ty52 rfl rfl rfl rfl (by simp)) (WD.a1 4 rfl ?_)))))))))))))))
 refine W.call (Mp := []) (rscan_fc h_l slo shi so (l.length : Int) (by omega)) rfl pr9 ?_
 intro _ G24 _ hG24 q26
 refine match q26 with | ⟨e_27, _, e_28, hv25⟩ => ?_
 subst e_27
 subst e_28
 have q30 := hv25.form
 refine match q30 with | ⟨sa_hv25, sc_hv25, e_29⟩ => ?_
 subst e_29
 refine W.nil (WD.n9 hG24 sr9.k9 (WD.a1 7 rfl (W.call (Mp := []) (rclips_fc (h_ms.mono hG24) slo shi so hks) rfl pr9 ?_)))
 intro _ G31 _ hG31 q33
 refine match q33 with | ⟨e_34, _, e_35, hv32⟩ => ?_
 subst e_34
 subst e_35
 have q37 := hv32.form
 refine match q37 with | ⟨sa_hv32, sc_hv32, e_36⟩ => ?_
 subst e_36
 refine W.nil (WD.n9 hG31 sr9.k9 (WD.a1 8 rfl (W.call (Mp := []) (rfoldF_fc (SlR.cast (hv25.mono hG31) (scan_whole l ⟨slo, shi, so⟩)) hv32 hPf (by omega) hcm) rfl pr9 ?_)))
 intro _ G38 _ hG38 q40
 refine match q40 with | ⟨e_41, _, e_42, hv39⟩ => ?_
 subst e_41
 subst e_42
 have q44 := hv39.form
 refine match q44 with | ⟨sa_hv39, sc_hv39, e_43⟩ => ?_
 subst e_43
 refine W.nil (WD.n9 hG38 sr9.k9 (WD.tk 9 rfl (ok_as) (WD.done (by kernel_rfl) (thn_n (WC.ret ?_)))))
 refine ⟨.inr rfl, [_], ⟨rfl, trivial⟩, [], sn9, ?_⟩
 refine ⟨rfl, _, rfl, ?_⟩
 · exact hv39

end Go.Proofs.YtebkfinhhpelbaaGreat
namespace Go.Proofs.YtebkfinhhpelbaaGreat
open Go Go.Fw Go.RowKit
theorem map27_fc {G : GH} {v_l : Value} {l : List Nd} (h_l : SlR eNode G v_l l) (c2 : Cfg) (ss : List Seat) (t : Tree c2 l ss) :
    Fc Tryz.prog 21 [v_l] G [] (fun v G' M' => M' = [] ∧ ∃ u0, v = u0 ∧ SlR ePair G' u0 (mapN l)) := by
 obtain ⟨sa_l, sc_l, rfl⟩ := h_l.form
 have hl := h_l.len47
 have hS := t.sml
 have hl100 := hS.1
 have hsl := t.len
 refine Fc.intro (rs := [.tmp 2]) cl21 Tryz.func21 rfl Tryz.ntmps21 rfl rfl (fun w0 => ?_)
 refine WC.seq (WC.region (W.as (W.nil (thn_n (WC.seq (WC.region (W.as (W.nil (thn_n (WC.seq (WC.region (W.mv (W.call (Mp := []) (seats_fc h_l _ (by assumption)) rfl pr9 ?_)))))))))))))
 intro v3 G1 _ hG1 q2
 have q4 := q2.1
 subst q4
 have q5 := q2.2
 refine Or.elim q5 (fun q6 => ?_) (fun q7 => ?_)
 ·refine match q6 with | ⟨u_s8, ssq, hssq, e_9, hv_s8, hqsq⟩ => ?_
  subst e_9
  have q11 := hv_s8.form
  refine match q11 with | ⟨sa_s8, sc_s8, e_10⟩ => ?_
  subst e_10
  have e9 : ss = ssq := Option.some.inj (t.sts.symm.trans hssq)
  subst e9
  have hss47q := hv_s8.len47
  refine W.mv (W.ok (ok_extract rfl rfl) (W.ok (ok_extract rfl rfl) (W.as (W.as (W.nil (thn_n (WC.seq (WC.seq (WC.region (W.mv (W.ok (ok_not rfl) (W.nil (thn_n (WC.cond_f rfl rfl (WC.skip (thn_n ?_))))))))))))))))
  refine WC.seq (WC.seq (WC.region (W.as (W.nil (thn_n (WC.block ?_))))))
  refine WC.loop (X := (Nat) × Value × MH) (fun i => [(6, .int .i64 ((i.1 : Nat) : Int)), (4, .slice sa_s8 ss.length sc_s8), (3, i.2.1)]) (fun i G Ml => Ml = (i.2.2 ++ []) ∧ OwnR ePair 69 G i.2.1 ((leavesS (ss.take i.1)).flatMap viewS) i.2.2 ∧ i.1 ≤ ss.length) (fun i => ss.length - i.1) (0, .slice none 0 0, ([] : MH)) ⟨eqv, eqv, eqv, trivial⟩ ?_ ?_
  ·exact ⟨rfl, (by exact OwnR.nil), by omega⟩
  rintro ⟨i, v_3, M_3⟩ gG12 G12 _ hG12 ⟨rfl, ho_3, hi⟩
  try dsimp only at ho_3 hi
  have hvl := t.views_len i
  refine WC.fr (f := setL gG12 [(6, .int .i64 ((i : Nat) : Int)), (4, .slice sa_s8 ss.length sc_s8), (3, v_3)]) rfl (WC.seq (WC.seq (WC.region (W.mv (W.mv (W.ok (ok_len sl105 (hv_s8.mono hG12) rfl) (W.ok (ok_lss rfl rfl) (W.nil (thn_n ?_)))))))))
  refine WC.cond (b := _) rfl (fun h17 => ?_) (fun h17 => ?_)
  ·have p17 := of_decide_eq_true h17
   refine WC.skip (thn_n (WC.seq (WC.block (WC.seq (WC.region (W.mv (W.mv ?_)))))))
   have q16 := (hv_s8.mono hG12).at (i := i) (by omega)
   refine match q16 with | ⟨_, he13, ⟨pa_t14, pc_t14, ka_t14, kc_t14, ma_t14, mc_t14, ra_t14, rc_t14, qa_t14, qc_t14, e_15, hp_t14, hk_t14, hm_t14, hr_t14, hq_t14, hok_t14⟩⟩ => ?_
   subst e_15
   refine W.ok (ok_indexAddr (i := i) sl105 ty111 (hv_s8.mono hG12) rfl rfl ⟨by omega, by omega⟩) (W.ok (ok_fieldE fd111_0 rfl he13.form) (W.ok (ok_fieldE fd47_1 rfl he13.form) (W.ok (ok_loadE (vs := [.int .i64 _]) ty3 he13 rfl rfl rfl (by simp)) (W.ok (ok_eql rfl rfl) (W.nil (thn_n ?_))))))
   refine WC.cond (b := _) rfl (fun h26 => ?_) (fun h26 => ?_)
   ·have p26 := of_decide_eq_true h26
    have hmem : (ss[i]'(by omega)) ∈ ss := List.getElem_mem _
    have htf := t.fits _ hmem
    have hvx := t.view_len hmem
    have hrx : (ss[i]'(by omega)).n.rows.length ≤ 4000 := (t.sml.at (.inr (t.nd hmem).2.2)).2.2.2.1
    have hmx := (hqsq i (by omega)).ms
    refine WC.drawW _ sn9 mix (by rintro _ _ _ _ ⟨h | h, _⟩ <;> cases h) (WD.tk 0 rfl (ok_mv) (WD.tk 1 rfl (ok_mv) (WD.tk 2 rfl (ok_mv) ?_)))
    have q20 := (hv_s8.mono hG12).at (i := i) (by omega)
    refine match q20 with | ⟨_, he17, ⟨pa_t18, pc_t18, ka_t18, kc_t18, ma_t18, mc_t18, ra_t18, rc_t18, qa_t18, qc_t18, e_19, hp_t18, hk_t18, hm_t18, hr_t18, hq_t18, hok_t18⟩⟩ => ?_
    subst e_19
    refine WD.tk 3 rfl (ok_indexAddr (i := i) sl105 ty111 (hv_s8.mono hG12) rfl rfl ⟨by omega, by omega⟩) (WD.tk 4 rfl (ok_fieldE fd111_0 rfl he17.form) (WD.tk 5 rfl (ok_fieldE fd47_9 rfl he17.form) (WD.tk 6 rfl (ok_loadE (vs := [.slice _ _ _]) ty41 he17 rfl rfl rfl (by simp)) (WD.tk 7 rfl (ok_mv) (WD.tk 8 rfl (ok_mv) ?_)))))
    have q24 := (hv_s8.mono hG12).at (i := i) (by omega)
    refine match q24 with | ⟨_, he21, ⟨pa_t22, pc_t22, ka_t22, kc_t22, ma_t22, mc_t22, ra_t22, rc_t22, qa_t22, qc_t22, e_23, hp_t22, hk_t22, hm_t22, hr_t22, hq_t22, hok_t22⟩⟩ => ?_
    subst e_23
    refine WD.tk 9 rfl (ok_indexAddr (i := i) sl105 ty111 (hv_s8.mono hG12) rfl rfl ⟨by omega, by omega⟩) (WD.tk 10 rfl (ok_fieldE fd111_1 rfl he21.form) (WD.tk 11 rfl (ok_loadE (vs := [.string _, .string _, .bool _]) ty52 he21 rfl rfl rfl (by simp)) (WD.tk 12 rfl (ok_mv) (WD.tk 13 rfl (ok_mv) ?_))))
    have q28 := (hv_s8.mono hG12).at (i := i) (by omega)
    refine match q28 with | ⟨_, he25, ⟨pa_t26, pc_t26, ka_t26, kc_t26, ma_t26, mc_t26, ra_t26, rc_t26, qa_t26, qc_t26, e_27, hp_t26, hk_t26, hm_t26, hr_t26, hq_t26, hok_t26⟩⟩ => ?_
    subst e_27
    refine WD.tk 14 rfl (ok_indexAddr (i := i) sl105 ty111 (hv_s8.mono hG12) rfl rfl ⟨by omega, by omega⟩) (WD.tk 15 rfl (ok_fieldE fd111_2 rfl he25.form) (WD.tk 16 rfl (ok_loadE (vs := [.slice _ _ _]) ty45 he25 rfl rfl rfl (by simp)) (WD.a1 17 rfl (W.call (Mp := []) (rview_fc hr_t18 (ss[i]'(by omega)).s.lo (ss[i]'(by omega)).s.hi (ss[i]'(by omega)).s.opn hq_t26 (t.rows hmem) (by omega) (fun m hm => msgR_key (htf.2 m hm)) (by have := htf.1.1; omega)) rfl pr9 ?_))))
    intro _ G29 _ hG29 q31
    refine match q31 with | ⟨e_32, _, e_33, hv30⟩ => ?_
    subst e_32
    subst e_33
    have hc34 := SlR.cast hv30 (l' := viewS (ss[i]'(by omega))) (rfl)
    have q36 := hc34.form
    refine match q36 with | ⟨sa_hc34, sc_hc34, e_35⟩ => ?_
    subst e_35
    refine W.nil (WD.n9 hG29 sn9 (WD.a1 18 rfl (W.app (e := ePair) sl41 ty69 zr69 rfl by69 rfl rfl ((ho_3.mono hG29)) (hc34) pr9 (by show (List.length _ + List.length _) * 32 ≤ _; omega) (fun v37 Ms38 ho39 => (W.nil (WD.n9 Le.rfl sn9 (WD.tk 19 rfl (ok_as) (WD.done (by kernel_rfl) (blk_n (thn_n (WC.region (W.mv (W.ok (ok_add rfl rfl (by omega)) (W.as (W.nil (thn_n ?_))))))))))))))))
    exact ⟨hG29, (i + 1, v37, Ms38), ⟨eqv, eqv, eqv, trivial⟩, ⟨rfl, (by have h := ho39; rw [leaves_t (by omega) p26, List.flatMap_append, List.flatMap_singleton]; exact h), by omega⟩, by omega⟩
   have p26 := of_decide_eq_false h26
   refine WC.skip (blk_n (thn_n (WC.region (W.mv (W.ok (ok_add rfl rfl (by omega)) (W.as (W.nil (thn_n ?_))))))))
   exact ⟨Le.rfl, (i + 1, v_3, M_3), ⟨eqv, eqv, eqv, trivial⟩, ⟨rfl, (by have h := ho_3; rw [leaves_f (by omega) p26]; exact h), by omega⟩, by omega⟩
  have p17 := of_decide_eq_false h17
  refine WC.exit (thn_x (thn_x (blk_h (thn_n (WC.seq (WC.region (W.mv (W.as (W.nil (thn_n (WC.giveO ho_3 pr9 (fun G40 hG40 hv40 => (WC.ret ?_)))))))))))))
  refine ⟨.inr rfl, [_], ⟨rfl, trivial⟩, [], sn9, ?_⟩
  refine ⟨rfl, _, rfl, ?_⟩
  · exact SlR.cast hv40 (by rw [mapN_t t.sts, List.take_of_length_le (by omega)])
 exact absurd (t.sts.symm.trans (by obtain ⟨_, _, h0, _⟩ := q7; exact h0)) (by simp)

end Go.Proofs.YtebkfinhhpelbaaGreat

namespace Go.Fw
open Go Go.RowKit
variable {c : Cfg} {l : List Nd} {ss : List Seat}
def Wst (l : List Msg) : Prop := l.Pairwise fun a b => a.stamp ≤ b.stamp
theorem Rst.wst {l : List Msg} (h : Rst l) : Wst l := h.imp fun h => Int.le_of_lt h
theorem merge_wst : ∀ (n : Nat) (C : Ls), totN C = n → (∀ L ∈ C, Wst L) → Wst (mergeN C) := by
 intro n
 induction n with
 | zero =>
  intro C h _
  rcases best_or C with h1 | ⟨b, hb⟩
  ·rw [merge_nil h1]; exact List.Pairwise.nil
  ·have := totN_set hb; omega
 | succ n ih =>
  intro C h hC
  rcases best_or C with h1 | ⟨b, hb⟩
  ·rw [merge_nil h1]; exact List.Pairwise.nil
  ·rw [merge_step hb]
   refine List.pairwise_cons.2 ⟨fun m hm => ?_, ih _ (by have := totN_set hb; omega) ?_⟩
   ·have hm2 : m ∈ C.flatten := (flat_best hb).mem_iff.1 (List.mem_cons_of_mem _ ((merge_perm _ _ rfl).mem_iff.1 hm))
    obtain ⟨L, hL, hmL⟩ := List.mem_flatten.1 hm2
    obtain ⟨j, hj, rfl⟩ := List.getElem_of_mem hL
    obtain ⟨q, hq, rfl⟩ := List.getElem_of_mem hmL
    have h3 := (hb.min j hj (by omega)).1
    rw [stN_at hb.ne, stN_at (show 0 < C[j].length by omega)] at h3
    have h4 : (C[j][0]'(by omega)).stamp ≤ C[j][q].stamp := by
     by_cases e0 : q = 0
     ·subst e0; exact Int.le_refl _
     ·exact List.pairwise_iff_getElem.1 (hC _ (List.getElem_mem hj)) 0 q (by omega) hq (by omega)
    omega
   ·intro L hL
    rcases List.mem_or_eq_of_mem_set hL with h | h
    ·exact hC _ h
    ·subst h; exact List.Pairwise.sublist (List.drop_sublist _ _) (hC _ (List.getElem_mem _))
theorem clips_wst {s : Span} {A : List Msg} (h : Wst A) : Wst (clips s A) := by
 unfold Wst clips
 rw [List.pairwise_filterMap]
 refine List.Pairwise.imp (fun {a b} hab x hx y hy => ?_) h
 split at hx
 ·split at hy
  ·rename_i h1 h2
   cases hx; cases hy
   rw [clip_stamp h1, clip_stamp h2]; exact hab
  ·cases hy
 ·cases hx
theorem wst_eq : ∀ {A B : List Msg}, Wst A → Rst B → A.Perm B → A = B
 | [], B, _, _, h => h.symm.eq_nil.symm ▸ rfl
 | a :: A, [], _, _, h => absurd h.length_eq (by simp)
 | a :: A, b :: B, ha, hb, h => by
  have h1 := List.pairwise_cons.1 ha
  have h2 := List.pairwise_cons.1 hb
  have e : a = b := by
   have m1 : a ∈ b :: B := h.mem_iff.1 (by simp)
   have m2 : b ∈ a :: A := h.mem_iff.2 (by simp)
   rcases List.mem_cons.1 m1 with e | m1
   ·exact e
   ·rcases List.mem_cons.1 m2 with e | m2
    ·exact e.symm
    ·have := h2.1 a m1; have := h1.1 b m2; omega
  subst e
  rw [wst_eq h1.2 h2.2 (List.Perm.cons_inv h)]
theorem on_clip {m : Msg} {s : Span} {k : Str} (hk : s.has k = true) : (m.clip s).2 = true → (m.clip s).1.on k = m.on k := fun h => by
 by_cases h4 : m.kind = 4
 ·have h5 := clip_span h h4
  have k2 : (m.clip s).1.kind = 4 := by rw [(clip_of h).2, if_pos h4]; exact h4
  unfold Msg.on
  rw [h5, meet_has, hk, Bool.and_true, k2, h4]; rfl
 ·rw [(clip_of h).2, if_neg h4]
theorem ons_clips {s : Span} {k : Str} (hk : s.has k = true) : ∀ (A : List Msg) (o : Option Str), (clips s A).foldl (fun o m => (m.on k).apply o) o = A.foldl (fun o m => (m.on k).apply o) o
 | [], o => rfl
 | m :: A, o => by
  rw [clips_cons, List.foldl_cons]
  cases h : (m.clip s).2
  ·rw [if_neg (by simp), ons_clips hk A]
   have := empty_iff.1 (clip_no.1 h) k
   rw [meet_has, hk, Bool.and_true] at this
   have e : m.on k = Eff.zero := by unfold Msg.on; rw [if_pos (.inl this)]
   rw [e]; rfl
  ·rw [if_pos rfl, List.foldl_cons, on_clip hk h, ons_clips hk A]
theorem ons_clips' {s : Span} {k : Str} (hk : s.has k = true) (A : List Msg) (o : Option Str) : (onsN (clips s A) k).apply o = (onsN A k).apply o := by
 rw [onsN_apply, onsN_apply, ons_clips hk]
def ptS (k : Str) : Span := ⟨k, k.next, false⟩
theorem pt_in {k : Str} (hk : k.b.size < 140737488355328) {s : Span} (h : s.has k = true) : ∀ q, (ptS k).has q = true → s.has q = true := fun q hq => by
 rw [show (ptS k).has q = decide (q = k) from point_has hk] at hq
 rw [of_decide_eq_true hq]; exact h
structure Gp (l : List Nd) (ss : List Seat) (k : Str) (x : Seat) (W : List Msg) : Prop where
 mem : x ∈ ss
 has : x.s.has k = true
 wst : Wst W
 eq : clips (ptS k) W = clips (ptS k) x.ms
 fit : ∀ m ∈ W, m.R
 len : W.length ≤ 1024 * ((rootS l 0).n.level - x.n.level).toNat
theorem Gp.init (t : Tree c l ss) (k : Str) : Gp l ss k (rootS l 0) [] := ⟨t.root, all_has k, List.Pairwise.nil, rfl, (fun m hm => by cases hm), Nat.zero_le _⟩
theorem Gp.next (t : Tree c l ss) {k : Str} (hk : k.b.size < 140737488355328) {x : Seat} {W : List Msg} (g : Gp l ss k x W) (h0 : ¬ x.n.level ≤ 0) : Gp l ss k (kidSt l x (routeN x.n.pivots k)) (mergeN [x.n.msgs, W]) := by
 have h3 := t.right g.mem h0
 have hj := t.route g.mem h0 k
 have ha := t.at g.mem (by omega) hj
 have hh : (kidSt l x (routeN x.n.pivots k)).s.has k = true := by rw [kidSt_has h3 hj, g.has]; simp
 have hp := merge_perm _ [x.n.msgs, W] rfl
 have hf : [x.n.msgs, W].flatten = x.n.msgs ++ W := by simp
 rw [hf] at hp
 obtain ⟨q1, q2, q3⟩ := t.msgs g.mem
 have hms := t.kid_ms g.mem (t.rst x g.mem) (routeN x.n.pivots k)
 refine ⟨ha.1, hh, merge_wst _ _ rfl ?_, ?_, fun m hm => ?_, ?_⟩
 ·intro L hL
  simp only [List.mem_cons, List.not_mem_nil, or_false] at hL
  rcases hL with rfl | rfl
  ·exact q1.wst
  ·exact g.wst
 ·have e1 : clips (ptS k) (kidSt l x (routeN x.n.pivots k)).ms = clips (ptS k) (x.n.msgs ++ W) := by
   rw [hms.1, clips_append, clips_append, clips_clips (pt_in hk hh), clips_clips (pt_in hk hh), g.eq]
  refine (wst_eq (clips_wst (merge_wst _ _ rfl ?_)) (clips_rst hms.2) ((clips_perm hp).trans (List.Perm.of_eq e1.symm)))
  intro L hL
  simp only [List.mem_cons, List.not_mem_nil, or_false] at hL
  rcases hL with rfl | rfl
  ·exact q1.wst
  ·exact g.wst
 ·rcases List.mem_append.1 (hp.mem_iff.1 hm) with h | h
  ·exact q2 m h
  ·exact g.fit m h
 ·have h1 := hp.length_eq
  rw [List.length_append] at h1
  have h2 := t.msgs_len g.mem
  have h4 := g.len
  have h5 := t.ms_small x g.mem
  have : ((rootS l 0).n.level - (kidSt l x (routeN x.n.pivots k)).n.level).toNat = ((rootS l 0).n.level - x.n.level).toNat + 1 := by omega
  rw [this]; omega
theorem Gp.get (t : Tree c l ss) {k : Str} (hk : k.b.size < 140737488355328) {x : Seat} {W : List Msg} (g : Gp l ss k x W) (h0 : x.n.level = 0) : Eff.apply (onsN W k) (getN x.n.rows k) = getN (mapN l) k := by
 have e := t.leaf_eq g.mem g.has h0
 rw [← t.lookup k, ← e]
 have h : (ptS k).has k = true := (point_has hk).trans (decide_eq_true rfl)
 rw [← ons_clips' h W, ← ons_clips' h x.ms, g.eq]
theorem tree_len {most : Int} (h : treeN c l most = true) : (l.length : Int) ≤ most := by
 unfold treeN at h
 rw [Bool.and_eq_true, decide_eq_true_eq] at h
 exact h.1.2.2.1.1
def WayC (G : GH) (cs : List Value) (s : Span) (ms : List Msg) : Prop := ∃ v, cs = [.string s.lo.b, .string s.hi.b, .bool s.opn, v] ∧ SlR eMsg G v ms
theorem WayC.mono {G G' : GH} {cs : List Value} {s : Span} {ms : List Msg} (hl : Le G G') (h : WayC G cs s ms) : WayC G' cs s ms := by
 obtain ⟨v, h1, h2⟩ := h
 exact ⟨v, h1, h2.mono hl⟩
section
variable {α : Type} {E : Env} {f : Fr} {G : GH} {M Mk Ms Mr : MH} {ops rest : List Oper} {q : Bool} {K : Kt} {d : Nat} {ty : TypeId} {pos : String} {aft : Array Edge} {t et : TypeId} {x y kk : Operand} {b : Nat} {k : Int} {m : List (Int × α)} {V : VEnc α}
end
end Go.Fw
