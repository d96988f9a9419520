/- Walks of whether messages wait, whether nodes are filled, and of the height. -/
import Derived.Test.YtcngningbcaggaaQkTt
import Derived.Test.YtcngningbcaggaaQkUc
set_option maxRecDepth 100000
set_option maxHeartbeats 1600000
set_option linter.unusedVariables false
set_option linter.unusedSimpArgs false
set_option linter.unnecessarySimpa false
namespace Go.Proofs.Ytcngningbcaggaa
open Go Go.Fw Go.RowKit
attribute [local irreducible] Ok W WC
theorem qfl1_fc {G : GH} {cs_n : List Value} {n : Nd} (h_n : NodeC G cs_n n) (cfan : Int) (cleaf : Int) (cbud : Int) (cslots : Int) (crest : Int) {b_c : Nat} (h_c : CellsG G b_c 0 [iV cfan, iV cleaf, iV cbud, iV cslots, iV crest]) (hif : i64 cfan) :
    Fc Try.prog 41 [.agg (List.toArray cs_n), pt9 b_c] G [] (fun v _ _ => v = .bool (unfB (⟨cfan, cleaf, cbud, cslots, crest⟩ : Cfg) n)) := by
 obtain ⟨_, _, _, _, _, _, _, _, rfl, hp_n, hk_n, hm_n, hr_n, hok_n⟩ := h_n
 have h1 := hk_n.len47
 refine Fc.go [.tmp 3] Try.func41 Try.ntmps41 rfl (fun w0 => (g9 2 ?_))
 refine W.box (L := [iV _, iV _, lV _ _ _, lV _ _ _, sV _, .bool _, iV _, iV _, lV _ _ _, lV _ _ _]) rfl rfl (fun b1 => (g9 9 ?_))
 refine W.sm 7 (fun h6 p6 => ?_) (fun h6 p6 => ?_)
 ·refine g9 8 ?_
  refine W.sd 12 (fun h10 p10 => ?_) (fun h10 p10 => ?_)
  ·refine g9 9 ?_
   refine W.ok (ok_loadG (vs := ic9) ty3 h_c rfl rfl rfl (by simp)) (g9 1 ?_)
   refine W.ok (ok_quo rfl rfl (by decide) (tdiv2 hif)) (g9 8 ?_)
   refine congrArg Value.bool ?_
   unfold unfB
   rw [decide_eq_true (p := ¬ n.slot = 0) (by simpa using h6), Bool.true_and]
   rw [h10]; rfl
  refine g9 13 ?_
  refine congrArg Value.bool ?_
  unfold unfB
  rw [decide_eq_true (p := ¬ n.slot = 0) (by simpa using h6), Bool.true_and]
  rw [h10]; rfl
 refine g9 18 ?_
 refine congrArg Value.bool ?_
 unfold unfB
 rw [decide_eq_false (p := ¬ n.slot = 0) (by simpa using h6)]; rfl

theorem ixq_fc {G : GH} {v_l : Value} {l : List Nd} (h_l : SlR eNode G v_l l) (cfan : Int) (cleaf : Int) (cbud : Int) (cslots : Int) (crest : Int) {b_c : Nat} (h_c : CellsG G b_c 0 [iV cfan, iV cleaf, iV cbud, iV cslots, iV crest]) (hif : i64 cfan) :
    Fc Try.prog 70 [v_l, .func (.func 41) #[] #[pt9 b_c]] G [] (fun v _ _ => v = iV (idxN (unfB (⟨cfan, cleaf, cbud, cslots, crest⟩ : Cfg)) l)) := by
 obtain ⟨sa_l, sc_l, rfl⟩ := h_l.form
 have hl := h_l.len47
 refine Fc.go [.tmp 4] Try.func70 Try.ntmps70 rfl (fun w0 => (g9 14 ?_))
 refine WC.loop (X := Nat) (fun k => [(8, nt9 k), (0, lV sa_l l.length sc_l), (1, .func (.func 41) #[] #[pt9 b_c]), (7, nt9 ((l).length))]) (fun k _ Ml => Ml = [] ∧ k ≤ l.length ∧ ∀ j (h : j < l.length), j < k → (unfB (⟨cfan, cleaf, cbud, cslots, crest⟩ : Cfg)) l[j] = false) (fun k => l.length - k) 0 hs9 ?_ ?_
 ·exact ⟨rfl, om9, fun j _ h => by omega⟩
 rintro k gG2 G2 _ hG2 ⟨rfl, hk, hj⟩
 refine g9 6 ?_
 refine WC.cd (fun h9 p9 => ?_) (fun h9 p9 => ?_)
 ·refine g9 15 ?_
  refine (h_l.mono hG2).aN (i := k) om9 (fun _ _ _ _ _ _ _ _ he3 hp_n4 hk_n4 hm_n4 hr_n4 hok_n4 => (g9 2 ?_))
  refine W.qcallV (fst := []) (caps := [pt9 b_c]) rfl (qfl1_fc (nk9 hp_n4 hk_n4 hm_n4 hr_n4 hok_n4) _ _ _ _ _ (h_c.mono hG2) (by assumption)) rfl (g9 2 ?_)
  refine WC.cond rfl (fun h16 => ?_) (fun h16 => ?_)
  ·refine g9 13 ?_
   refine congrArg (Value.int .i64) ?_
   exact (idxN_at (q := (unfB (⟨cfan, cleaf, cbud, cslots, crest⟩ : Cfg))) om9 h16 hj).symm
  refine g9 8 ?_
  exact ⟨Le.rfl, k + 1, hs9, ⟨rfl, om9, fun j h hji => by
      by_cases e2 : j = k
      · subst e2; exact h16
      · exact hj j h om9⟩, om9⟩
 refine g9 12 ?_
 refine congrArg (Value.int .i64) ?_
 exact (idxN_no (q := (unfB (⟨cfan, cleaf, cbud, cslots, crest⟩ : Cfg))) (fun j h => hj j om9 om9)).symm

theorem cfq_fc {G : GH} {v_l : Value} {l : List Nd} (h_l : SlR eNode G v_l l) (cfan : Int) (cleaf : Int) (cbud : Int) (cslots : Int) (crest : Int) {b_c : Nat} (h_c : CellsG G b_c 0 [iV cfan, iV cleaf, iV cbud, iV cslots, iV crest]) (hif : i64 cfan) :
    Fc Try.prog 40 [v_l, .func (.func 41) #[] #[pt9 b_c]] G [] (fun v _ _ => v = .bool (decide ((0 : Int) ≤ idxN (unfB (⟨cfan, cleaf, cbud, cslots, crest⟩ : Cfg)) l))) := by
 obtain ⟨sa_l, sc_l, rfl⟩ := h_l.form
 refine Fc.go [.tmp 4] Try.func40 Try.ntmps40 rfl (fun w0 => (g9 9 ?_))
 refine W.qcall (ixq_fc h_l _ _ _ _ _ h_c (by assumption)) rfl (g9 6 ?_)
 rfl

theorem qfilled_fc {G : GH} (cfan : Int) (cleaf : Int) (cbud : Int) (cslots : Int) (crest : Int) {v_l : Value} {l : List Nd} (h_l : SlR eNode G v_l l) (hif : i64 cfan) :
    Fc Try.prog 15 [.agg #[iV cfan, iV cleaf, iV cbud, iV cslots, iV crest], v_l] G [] (fun v _ _ => v = .bool ((!decide ((0 : Int) ≤ idxN (unfB (⟨cfan, cleaf, cbud, cslots, crest⟩ : Cfg)) l)))) := by
 obtain ⟨sa_l, sc_l, rfl⟩ := h_l.form
 refine Fc.go [.tmp 4] Try.func15 Try.ntmps15 rfl (fun w0 => (g9 2 ?_))
 refine W.box (L := [iV _, iV _, iV _, iV _, iV _]) rfl rfl (fun b7 => (g9 6 ?_))
 refine W.giveB (b := b7) (L := [iV _, iV _, iV _, iV _, iV _]) pr9 (fun G8 hG8 hc8 => (W.ok (ok_makeFn (fst := []) (caps := [.tmp 2]) (vs := []) (ws := [pt9 b7]) rfl rfl) (W.qcall (cfq_fc (h_l.mono hG8) _ _ _ _ _ hc8 (by assumption)) rfl (g9 6 ?_))))
 rfl

theorem qwait_fc {G : GH} {v_l : Value} {l : List Nd} (h_l : SlR eNode G v_l l) (hS : Sml l) :
    Fc Try.prog 29 [v_l] G [] (fun v _ _ => v = nt9 (wmN l)) := by
 obtain ⟨sa_l, sc_l, rfl⟩ := h_l.form
 have hl := h_l.len47
 have hl100 := hS.1
 refine Fc.go [.tmp 2] Try.func29 Try.ntmps29 rfl (fun w0 => (g9 19 ?_))
 refine WC.loop (X := Nat) (fun i => [(3, nt9 ((wmN (l.take i)))), (8, nt9 i), (6, lV sa_l l.length sc_l), (7, nt9 ((l).length))]) (fun i _ Ml => Ml = [] ∧ i ≤ l.length) (fun i => l.length - i) 0 hs9 ?_ ?_
 ·exact ⟨rfl, om9⟩
 rintro i gG9 G9 _ hG9 ⟨rfl, hi⟩
 have hw9 := wmN_le hS i hi
 refine g9 6 ?_
 refine WC.cd (fun h9 p9 => ?_) (fun h9 p9 => ?_)
 ·have hm9 := (hS.at (.inr (List.getElem_mem (show i < l.length by omega)))).2.2.1
  refine g9 6 ?_
  refine (h_l.mono hG9).aN (i := i) om9 (fun _ _ _ _ _ _ _ _ he10 hp_n11 hk_n11 hm_n11 hr_n11 hok_n11 => (g9 2 ?_))
  refine W.alloc zr35 (fun b14 => (g9 16 ?_))
  refine W.sub (sr9.cons _) (g9 2 ?_)
  exact ⟨Le.rfl, i + 1, ⟨(iv (by rw [wmN_succ om9]; omega)), eqv, eqv, eqv, trivial⟩, ⟨rfl, om9⟩, om9⟩
 refine g9 13 ?_
 exact iv (by rw [List.take_of_length_le om9])

theorem qis_fc {G : GH} {v_l : Value} {l : List Nd} (h_l : SlR eNode G v_l l) (hS : Sml l) :
    Fc Try.prog 10 [v_l] G [] (fun v _ _ => v = .bool (quietB l)) := by
 obtain ⟨sa_l, sc_l, rfl⟩ := h_l.form
 refine Fc.go [.tmp 2] Try.func10 Try.ntmps10 rfl (fun w0 => (g9 8 ?_))
 refine W.qcall (qwait_fc h_l (by assumption)) rfl (g9 6 ?_)
 refine congrArg Value.bool ?_
 exact wm_quiet l

theorem rquiet_fc {G : GH} {v_l : Value} {l : List Nd} (h_l : SlR eNode G v_l l) :
    Fc Try.prog 9 [v_l] G [] (fun v _ _ => v = .bool (quietB l)) := by
 obtain ⟨sa_l, sc_l, rfl⟩ := h_l.form
 have hl := h_l.len47
 refine Fc.go [.tmp 2] Try.func9 Try.ntmps9 rfl (fun w0 => (g9 12 ?_))
 refine WC.loop (X := Nat) (fun k => [(3, nt9 k), (0, lV sa_l l.length sc_l)]) (fun k _ Ml => Ml = [] ∧ k ≤ l.length ∧ ∀ j (h : j < l.length), j < k → (l[j]).msgs.length = 0) (fun k => l.length - k) 0 hs9 ?_ ?_
 ·exact ⟨rfl, om9, fun j _ h => by omega⟩
 rintro k gG15 G15 _ hG15 ⟨rfl, hk, hj⟩
 refine g9 9 ?_
 refine WC.cd (fun h7 p7 => ?_) (fun h7 p7 => ?_)
 ·refine g9 8 ?_
  refine (h_l.mono hG15).aN (i := k) om9 (fun _ _ _ _ _ _ _ _ he16 hp_n17 hk_n17 hm_n17 hr_n17 hok_n17 => (g9 7 ?_))
  refine WC.cd (fun h16 p16 => ?_) (fun h16 p16 => ?_)
  ·refine g9 12 ?_
   refine congrArg Value.bool ?_
   exact (quiet_at (l := l) (j := k) om9 om9).symm
  refine g9 9 ?_
  exact ⟨Le.rfl, k + 1, hs9, ⟨rfl, om9, fun j h hji => by
      by_cases e2 : j = k
      · subst e2; omega
      · exact hj j h om9⟩, om9⟩
 refine g9 12 ?_
 refine congrArg Value.bool ?_
 exact (quiet_no fun j h => hj j h om9).symm

theorem qheight_fc {G : GH} {v_l : Value} {l : List Nd} (h_l : SlR eNode G v_l l) (c2 : Cfg) (ss : List Seat) (t : Tree c2 l ss) :
    Fc Try.prog 16 [v_l] G [] (fun v _ _ => v = iV ((rootS l 0).n.level + 1)) := by
 obtain ⟨sa_l, sc_l, rfl⟩ := h_l.form
 have hl := h_l.len47
 have hht := t.height
 have hl0 := t.lvl t.root
 refine Fc.go [.tmp 2] Try.func16 Try.ntmps16 rfl (fun w0 => (g9 8 ?_))
 refine W.call (Mp := []) (qbysl_fc h_l) rfl pr9 ?_
 intro v20 G21 G21 hG21 q22
 refine match q22 with | ⟨e_25, hmp24⟩ => ?_
 subst e_25
 have q27 := hmp24.form
 refine match q27 with | ⟨b23, e_26⟩ => ?_
 subst e_26
 refine W.lookS (V := vNode) (show getM (bySl l) 0 = some (rootS l 0).n from by have h := t.inMap t.root; rw [t.root0] at h; exact h) mk71 mz35 ⟨_, rfl, ⟨_, _, _, _, _, _, _, _, rfl, SlR.nil, SlR.nil, SlR.nil, SlR.nil, Nd.zero_ok⟩⟩ hmp24 rfl rfl (fun v28 hv29 => ?_)
 refine match hv29 with | ⟨_, e_31, ⟨_, _, _, _, _, _, _, _, e_32, hp_mn30, hk_mn30, hm_mn30, hr_mn30, hok_mn30⟩⟩ => ?_
 subst e_31
 subst e_32
 refine g9 3 ?_
 refine W.alloc zr35 (fun b33 => (g9 24 ?_))
 rfl

theorem map27_fc {G : GH} {v_l : Value} {l : List Nd} (h_l : SlR eNode G v_l l) (c2 : Cfg) (ss : List Seat) (t : Tree c2 l ss) :
    Fc Try.prog 17 [v_l] G [] (fun v G' M' => M' = [] ∧ ∃ u0, v = u0 ∧ SlR ePair G' u0 (mapN l)) := by
 obtain ⟨sa_l, sc_l, rfl⟩ := h_l.form
 have hl := h_l.len47
 have hS := t.sml
 have hl100 := hS.1
 have hsl := t.len
 refine Fc.go [.tmp 2] Try.func17 Try.ntmps17 rfl (fun w0 => (g9 13 ?_))
 refine W.call (Mp := []) (seats_fc h_l _ (by assumption)) rfl pr9 ?_
 intro v3 G1 _ hG1 q2
 have q4 := q2.1
 subst q4
 have q5 := q2.2
 refine Or.elim q5 (fun q6 => ?_) (fun q7 => ?_)
 ·refine match q6 with | ⟨u_s8, ssq, hssq, e_9, hv_s8, hqsq⟩ => ?_
  subst e_9
  have q11 := hv_s8.form
  refine match q11 with | ⟨sa_s8, sc_s8, e_10⟩ => ?_
  subst e_10
  have e9 : ss = ssq := Option.some.inj (t.sts.symm.trans hssq)
  subst e9
  have hss47q := hv_s8.len47
  refine g9 24 ?_
  refine WC.loop (X := (Nat) × Value × MH) (fun i => [(6, nt9 i.1), (4, lV sa_s8 ss.length sc_s8), (3, i.2.1)]) (fun i G Ml => Ml = (i.2.2 ++ []) ∧ OwnR ePair 68 G i.2.1 ((leavesS (ss.take i.1)).flatMap viewS) i.2.2 ∧ i.1 ≤ ss.length) (fun i => ss.length - i.1) (0, lV none 0 0, ([] : MH)) hs9 ?_ ?_
  ·exact ⟨rfl, (by exact OwnR.nil), om9⟩
  rintro ⟨i, v_3, M_3⟩ gG12 G12 _ hG12 ⟨rfl, ho_3, hi⟩
  try dsimp only at ho_3 hi
  have hvl := t.views_len i
  refine WC.fr (f := setL gG12 [(6, nt9 i), (4, lV sa_s8 ss.length sc_s8), (3, v_3)]) rfl (g9 9 ?_)
  refine WC.cd (fun h17 p17 => ?_) (fun h17 p17 => ?_)
  ·refine g9 8 ?_
   have q16 := (hv_s8.mono hG12).at (i := i) om9
   refine match q16 with | ⟨_, he13, ⟨_, _, _, _, _, _, _, _, qa_t14, qc_t14, e_15, hp_t14, hk_t14, hm_t14, hr_t14, hq_t14, hok_t14⟩⟩ => ?_
   subst e_15
   refine g9 7 ?_
   refine WC.cd (fun h26 p26 => ?_) (fun h26 p26 => ?_)
   ·have hmem : (ss[i]'om9) ∈ ss := List.getElem_mem _
    have htf := t.fits _ hmem
    have hvx := t.view_len hmem
    have hrx : (ss[i]'om9).n.rows.length ≤ 4000 := (t.sml.at (.inr (t.nd hmem).2.2)).2.2.2.1
    have hmx : (ss[i]'om9).ms.length ≤ 102400 := by have := (t.ms_len _ hmem).1; omega
    refine WC.dw sn9 (d9 [0, 1, 2] ?_)
    have q20 := (hv_s8.mono hG12).at (i := i) om9
    refine match q20 with | ⟨_, he17, ⟨_, _, _, _, _, _, _, _, qa_t18, qc_t18, e_19, hp_t18, hk_t18, hm_t18, hr_t18, hq_t18, hok_t18⟩⟩ => ?_
    subst e_19
    refine d9 [3, 4, 5, 6, 7, 8] ?_
    have q24 := (hv_s8.mono hG12).at (i := i) om9
    refine match q24 with | ⟨_, he21, ⟨_, _, _, _, _, _, _, _, qa_t22, qc_t22, e_23, hp_t22, hk_t22, hm_t22, hr_t22, hq_t22, hok_t22⟩⟩ => ?_
    subst e_23
    refine d9 [9, 10, 11, 12, 13] ?_
    have q28 := (hv_s8.mono hG12).at (i := i) om9
    refine match q28 with | ⟨_, he25, ⟨_, _, _, _, _, _, _, _, qa_t26, qc_t26, e_27, hp_t26, hk_t26, hm_t26, hr_t26, hq_t26, hok_t26⟩⟩ => ?_
    subst e_27
    refine d9 [14, 15, 16] ?_
    refine WD.a1 17 rfl (W.call (Mp := []) (rview_fc hr_t18 (ss[i]'om9).s.lo (ss[i]'om9).s.hi (ss[i]'om9).s.opn hq_t26 (t.rows hmem) om9 (fun m hm => msgR_key (htf.2 m hm)) (by have := htf.1.1; omega)) rfl pr9 ?_)
    intro _ G29 _ hG29 q31
    refine match q31 with | ⟨e_32, _, e_33, hv30⟩ => ?_
    subst e_32
    subst e_33
    have hc34 := SlR.cast hv30 (l' := viewS (ss[i]'om9)) (rfl)
    have q36 := hc34.form
    refine match q36 with | ⟨sa_hc34, sc_hc34, e_35⟩ => ?_
    subst e_35
    refine W.nn (WD.a1 18 rfl (W.app (e := ePair) sl31 ty68 zr68 rfl by68 rfl rfl ((ho_3.mono hG29)) (hc34) pr9 (by show (List.length _ + List.length _) * 32 ≤ _; omega) (fun v37 Ms38 ho39 => (W.nn (d9 [19] ?_)))))
    refine WD.done (by kernel_rfl) (blk_n (thn_n (g9 6 ?_)))
    exact ⟨hG29, (i + 1, v37, Ms38), hs9, ⟨rfl, (by have h := ho39; rw [leaves_t om9 p26, List.flatMap_append, List.flatMap_singleton]; exact h), om9⟩, om9⟩
   refine g9 9 ?_
   exact ⟨Le.rfl, (i + 1, v_3, M_3), hs9, ⟨rfl, (by have h := ho_3; rw [leaves_f om9 p26]; exact h), om9⟩, om9⟩
  refine g9 11 ?_
  refine WC.giveO ho_3 pr9 (fun G40 hG40 hv40 => (g9 2 ?_))
  refine ⟨rfl, _, rfl, ?_⟩
  · exact SlR.cast hv40 (by rw [mapN_t t.sts, List.take_of_length_le om9])
 exact absurd (t.sts.symm.trans (by obtain ⟨_, _, h0, _⟩ := q7; exact h0)) (by simp)

end Go.Proofs.Ytcngningbcaggaa
