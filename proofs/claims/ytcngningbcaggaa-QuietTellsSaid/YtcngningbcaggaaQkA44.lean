/- The example of chapter 44 is run by the evaluator. -/
import Derived.Test.YtcngningbcaggaaProg
import Derived.Test.YtcngningbcaggaaQkX5
import Derived.Test.YtcngningbcaggaaQkTv
set_option linter.unusedVariables false
set_option linter.unusedSimpArgs false
set_option linter.unnecessarySimpa false
set_option maxRecDepth 100000
set_option maxHeartbeats 1600000
namespace Go.Proofs.Ytcngningbcaggaa
open Go Go.Fw Go.RowKit
set_option maxRecDepth 1000000
theorem eawake44_7 : Callable Try.prog 7 := callable_of Try.func7 rfl (by decide)
theorem eawake44_10 : Callable Try.prog 10 := callable_of Try.func10 rfl (by decide)
theorem eawake44_29 : Callable Try.prog 29 := callable_of Try.func29 rfl (by decide)
theorem eawake44_33 : Callable Try.prog 33 := callable_of Try.func33 rfl (by decide)
theorem mawake44 : Try.prog.follows .mixedOrders = true := by kernel_rfl
theorem vawake44 : ∃ C : Ctx, C.P = Try.prog ∧ COk C ∧ evB C 1000000 7 [] = some true :=
  ⟨{ P := Try.prog, fn := FT.get (.n 29 Try.f29 (.n 10 Try.f10 (.n 7 Try.f7 (.e) (.e)) (.e)) (.n 33 Try.f33 (.e) (.e))), plan := fun g r => PT.get (.e) (g * 1000 + r), prim := fun _ => none }, rfl, COk.of ⟨⟨Try.func29, eawake44_29⟩, ⟨⟨Try.func10, eawake44_10⟩, ⟨⟨Try.func7, eawake44_7⟩, trivial, trivial⟩, trivial⟩, ⟨⟨Try.func33, eawake44_33⟩, trivial, trivial⟩⟩ mawake44, by kernel_rfl⟩
theorem awake44_fc {G : GH}  : Fc Try.prog 7 [] G [] (fun v _ _ => v = .bool true) := by
  obtain ⟨C, h1, h2, h3⟩ := vawake44
  rw [← h1]
  exact evB_ok h2 h3 (fun _ => .bool true) (fun _ => rfl) VRs.nil G
end Go.Proofs.Ytcngningbcaggaa
namespace Go.Proofs.Ytcngningbcaggaa
open Go Go.Fw Go.RowKit
attribute [local irreducible] Ok W WC
theorem quietTells_fc {G : GH} (cfan : Int) (cleaf : Int) (cbud : Int) (cslots : Int) (crest : Int) {v_l : Value} {l : List Nd} (h_l : SlR eNode G v_l l) (lv : Int) :
    Fc Try.prog 3 [.agg #[iV cfan, iV cleaf, iV cbud, iV cslots, iV crest], v_l, iV lv] G [] (fun v _ _ => v = .bool (true)) := by
 obtain ⟨sa_l, sc_l, rfl⟩ := h_l.form
 have hl := h_l.len47
 refine Fc.go [.tmp 6] Try.func3 Try.ntmps3 rfl (fun w0 => (g9 2 ?_))
 refine W.box (L := [iV _, iV _, iV _, iV _, iV _]) rfl rfl (fun b1 => (g9 8 ?_))
 refine W.qcall (tree_fc _ _ _ _ _ h_l _ om9) rfl (g9 3 ?_)
 refine WC.cond rfl (fun h18 => ?_) (fun h18 => ?_)
 ·refine g9 2 ?_
  refine W.qcall (awake44_fc) rfl (g9 6 ?_)
  rfl
 obtain ⟨ss, t⟩ := tree_of (c := (⟨cfan, cleaf, cbud, cslots, crest⟩ : Cfg)) (by simpa using h18) om9
 have hS := t.sml
 have hl100 := hS.1
 have hcf9 := t.cfg
 unfold CfgR at hcf9
 dsimp only at hcf9
 have hif : i64 cfan := ⟨om9, om9⟩
 have hsl9 := t.ss_len
 have hpos9 := t.pos
 have hrl9 := root_lvl t
 refine g9 5 ?_
 refine W.call (Mp := []) (seats_fc h_l _ (by assumption)) rfl pr9 ?_
 intro v4 G2 _ hG2 q3
 have q5 := q3.1
 subst q5
 have q6 := q3.2
 refine Or.elim q6 (fun q7 => ?_) (fun q8 => ?_)
 ·refine match q7 with | ⟨u_s9, ssq, hssq, e_10, hv_s9, hqsq⟩ => ?_
  subst e_10
  have q12 := hv_s9.form
  refine match q12 with | ⟨sa_s9, sc_s9, e_11⟩ => ?_
  subst e_11
  have e9 : ss = ssq := Option.some.inj (t.sts.symm.trans hssq)
  subst e9
  have hss47q := hv_s9.len47
  refine g9 31 ?_
  refine WC.loop (X := (Nat) × Value × MH × Value × MH) (fun i => [(11, .bool (decide (FillA (⟨cfan, cleaf, cbud, cslots, crest⟩ : Cfg) (ss.take i.1)))), (27, nt9 i.1), (3, pt9 b1), (1, lV sa_l l.length sc_l), (2, iV lv), (25, lV sa_s9 ss.length sc_s9), (26, nt9 ((ss).length)), (9, i.2.1), (10, i.2.2.2.1)]) (fun i G Ml => Ml = ((b1, ce9 23 [iV cfan, iV cleaf, iV cbud, iV cslots, iV crest]) :: (i.2.2.1 ++ (i.2.2.2.2 ++ []))) ∧ OwnR eInt 3 G i.2.1 (((lvlS (ss.take i.1) lv).map fun x : Seat => x.n.slot)) i.2.2.1 ∧ OwnR ePair 68 G i.2.2.2.1 (rowsS (ss.take i.1)) i.2.2.2.2 ∧ i.1 ≤ ss.length) (fun i => ss.length - i.1) (0, lV none 0 0, ([] : MH), lV none 0 0, ([] : MH)) ⟨(by first | rfl | exact congrArg Value.bool (decide_eq_true (fun x hx => by simp at hx)).symm), eqv, eqv, eqv, eqv, eqv, eqv, eqv, eqv, trivial⟩ ?_ ?_
  ·exact ⟨rfl, (by exact OwnR.nil), (by exact OwnR.nil), om9⟩
  rintro ⟨i, v_9, M_9, v_10, M_10⟩ gG13 G13 _ hG13 ⟨rfl, ho_9, ho_10, hi⟩
  try dsimp only at ho_9 ho_10 hi
  have hrl9 := rowsS_len t i
  have hcl9 := lvlS_tl ss lv i
  refine WC.fr (f := setL gG13 [(11, .bool (decide (FillA (⟨cfan, cleaf, cbud, cslots, crest⟩ : Cfg) (ss.take i)))), (27, nt9 i), (3, pt9 b1), (1, lV sa_l l.length sc_l), (2, iV lv), (25, lV sa_s9 ss.length sc_s9), (26, nt9 ((ss).length)), (9, v_9), (10, v_10)]) rfl (g9 6 ?_)
  refine WC.cd (fun h28 p28 => ?_) (fun h28 p28 => ?_)
  ·try dsimp only at p28
   refine g9 6 ?_
   have q17 := (hv_s9.mono hG13).at (i := i) om9
   refine match q17 with | ⟨_, he14, ⟨_, _, _, _, _, _, _, _, qa_t15, qc_t15, e_16, hp_t15, hk_t15, hm_t15, hr_t15, hq_t15, hok_t15⟩⟩ => ?_
   subst e_16
   obtain ⟨sx, hssx⟩ : ∃ y, y = ((ss)[i]) := ⟨_, rfl⟩
   rw [← hssx] at he14 hp_t15 hk_t15 hm_t15 hr_t15 hq_t15 hok_t15
   refine g9 2 ?_
   refine W.alloc zr39 (fun b18 => (g9 13 ?_))
   refine WC.cd (fun h35 p35 => ?_) (fun h35 p35 => ?_)
   ·try dsimp only at p35
    obtain ⟨⟨hso1, hso2⟩, _⟩ := t.nd (List.getElem_mem (show i < ss.length by omega))
    rw [← hssx] at hso1 hso2
    refine g9 5 ?_
    refine W.lit (e := eInt) (l := [_]) (css := [[iV _]]) sl30 ty3 zr3 rfl rfl rfl rfl rfl rfl ⟨⟨rfl, om9, om9⟩, trivial⟩ (fun bl19 G19 hG19 hv19 => (W.app (e := eInt) sl30 ty3 zr3 rfl by3 rfl rfl ((ho_9.mono hG19)) (hv19) (pmC (pmC pr9)) (by show (List.length _ + 1) * 8 ≤ _; rw [List.length_map]; omega) (fun v20 Ms21 ho22 => (W.perm (pmC (pmC pr9)).symm (g9 9 ?_)))))
    refine W.app (e := ePair) sl31 ty68 zr68 rfl by68 rfl rfl ((ho_10.mono hG19)) ((hr_t15.mono hG19)) (pmC (pmC (pmA pr9))) ((by have hx8 : sx.n.rows.length ≤ 4000 := (by rw [hssx]; exact (hS.at (.inr (t.nd (List.getElem_mem om9)).2.2)).2.2.2.1); show (List.length _ + List.length _) * 32 ≤ _; omega)) (fun v23 Ms24 ho25 => (W.perm (pmC (pmC pr9)).symm (g9 6 ?_)))
    refine W.sp 48 rfl (fun hfl9 => ?_) (fun hfl9 => ?_)
    ·refine g9 10 ?_
     refine W.sd 53 (fun h52 p52 => ?_) (fun h52 p52 => ?_)
     ·try dsimp only at p52
      refine g9 26 ?_
      refine W.sub (sr9.cons _) (W.perm (M' := ((b1, ce9 23 [iV cfan, iV cleaf, iV cbud, iV cslots, iV crest]) :: (Ms21 ++ (Ms24 ++ [])))) (((List.Perm.append_left _ ((List.Perm.append_left _ pr9).trans pr9)).trans (pmA pr9)).cons _) (g9 2 ?_))
      exact ⟨hG19, (i + 1, v20, Ms21, v23, Ms24), ⟨(congrArg Value.bool (by rw [fillA_succ om9, ← hssx, hfl9, Bool.true_and, decide_eq_true (p := fillP (⟨cfan, cleaf, cbud, cslots, crest⟩ : Cfg) sx.n) (.inl p52)])), eqv, eqv, eqv, eqv, eqv, eqv, eqv, eqv, trivial⟩, ⟨rfl, (by have h := ho22; rw [lvlS_succ om9, if_pos (by rw [← hssx]; exact p35), List.map_append, ← hssx]; exact h), (by have h := ho25; rw [rowsS_succ om9, ← hssx]; exact h), om9⟩, om9⟩
     try dsimp only at p52
     refine g9 12 ?_
     refine W.sd 59 (fun h57 p57 => ?_) (fun h57 p57 => ?_)
     ·try dsimp only at p57
      refine g9 18 ?_
      refine W.sub (sr9.cons _) (W.perm (M' := ((b1, ce9 23 [iV cfan, iV cleaf, iV cbud, iV cslots, iV crest]) :: (Ms21 ++ (Ms24 ++ [])))) (((List.Perm.append_left _ ((List.Perm.append_left _ pr9).trans pr9)).trans (pmA pr9)).cons _) (g9 2 ?_))
      exact ⟨hG19, (i + 1, v20, Ms21, v23, Ms24), ⟨(congrArg Value.bool (by rw [fillA_succ om9, ← hssx, hfl9, Bool.true_and, decide_eq_true (p := fillP (⟨cfan, cleaf, cbud, cslots, crest⟩ : Cfg) sx.n) (.inr (.inl p57))])), eqv, eqv, eqv, eqv, eqv, eqv, eqv, eqv, trivial⟩, ⟨rfl, (by have h := ho22; rw [lvlS_succ om9, if_pos (by rw [← hssx]; exact p35), List.map_append, ← hssx]; exact h), (by have h := ho25; rw [rowsS_succ om9, ← hssx]; exact h), om9⟩, om9⟩
     try dsimp only at p57
     refine g9 13 ?_
     refine W.ok (ok_quo rfl rfl (by decide) (tdiv2 hif)) (g9 12 ?_)
     refine W.sub (sr9.cons _) (W.perm (M' := ((b1, ce9 23 [iV cfan, iV cleaf, iV cbud, iV cslots, iV crest]) :: (Ms21 ++ (Ms24 ++ [])))) (((List.Perm.append_left _ ((List.Perm.append_left _ pr9).trans pr9)).trans (pmA pr9)).cons _) (g9 2 ?_))
     exact ⟨hG19, (i + 1, v20, Ms21, v23, Ms24), ⟨(congrArg Value.bool (by rw [fillA_succ om9, ← hssx, hfl9, Bool.true_and]; exact decide_eq_decide.2 ⟨fun h => .inr (.inr (by dsimp only; omega)), fun h => h.elim (fun h => absurd h p52) (fun h => h.elim (fun h => absurd h p57) (fun h => (by dsimp only at h; omega)))⟩)), eqv, eqv, eqv, eqv, eqv, eqv, eqv, eqv, trivial⟩, ⟨rfl, (by have h := ho22; rw [lvlS_succ om9, if_pos (by rw [← hssx]; exact p35), List.map_append, ← hssx]; exact h), (by have h := ho25; rw [rowsS_succ om9, ← hssx]; exact h), om9⟩, om9⟩
    refine g9 28 ?_
    refine W.sub (sr9.cons _) (W.perm (M' := ((b1, ce9 23 [iV cfan, iV cleaf, iV cbud, iV cslots, iV crest]) :: (Ms21 ++ (Ms24 ++ [])))) (((List.Perm.append_left _ ((List.Perm.append_left _ pr9).trans pr9)).trans (pmA pr9)).cons _) (g9 2 ?_))
    exact ⟨hG19, (i + 1, v20, Ms21, v23, Ms24), ⟨(congrArg Value.bool (by rw [fillA_succ om9, ← hssx, hfl9, Bool.false_and])), eqv, eqv, eqv, eqv, eqv, eqv, eqv, eqv, trivial⟩, ⟨rfl, (by have h := ho22; rw [lvlS_succ om9, if_pos (by rw [← hssx]; exact p35), List.map_append, ← hssx]; exact h), (by have h := ho25; rw [rowsS_succ om9, ← hssx]; exact h), om9⟩, om9⟩
   try dsimp only at p35
   refine g9 8 ?_
   refine W.app (e := ePair) sl31 ty68 zr68 rfl by68 rfl rfl (ho_10) (hr_t15) (pmC (pmC (pmA pr9))) ((by have hx8 : sx.n.rows.length ≤ 4000 := (by rw [hssx]; exact (hS.at (.inr (t.nd (List.getElem_mem om9)).2.2)).2.2.2.1); show (List.length _ + List.length _) * 32 ≤ _; omega)) (fun v26 Ms27 ho28 => (W.perm (pmC (pmC pr9)).symm (g9 6 ?_)))
   refine W.sp 48 rfl (fun hfl9 => ?_) (fun hfl9 => ?_)
   ·refine g9 10 ?_
    refine W.sd 53 (fun h52 p52 => ?_) (fun h52 p52 => ?_)
    ·try dsimp only at p52
     refine g9 26 ?_
     refine W.sub (sr9.cons _) (W.perm (M' := ((b1, ce9 23 [iV cfan, iV cleaf, iV cbud, iV cslots, iV crest]) :: (M_9 ++ (Ms27 ++ [])))) (((List.Perm.append_left _ ((List.Perm.append_left _ pr9).trans pr9)).trans (pmA pr9)).cons _) (g9 2 ?_))
     exact ⟨Le.rfl, (i + 1, v_9, M_9, v26, Ms27), ⟨(congrArg Value.bool (by rw [fillA_succ om9, ← hssx, hfl9, Bool.true_and, decide_eq_true (p := fillP (⟨cfan, cleaf, cbud, cslots, crest⟩ : Cfg) sx.n) (.inl p52)])), eqv, eqv, eqv, eqv, eqv, eqv, eqv, eqv, trivial⟩, ⟨rfl, (by have h := ho_9; rw [lvlS_succ om9, if_neg (by rw [← hssx]; exact p35)]; exact h), (by have h := ho28; rw [rowsS_succ om9, ← hssx]; exact h), om9⟩, om9⟩
    try dsimp only at p52
    refine g9 12 ?_
    refine W.sd 59 (fun h57 p57 => ?_) (fun h57 p57 => ?_)
    ·try dsimp only at p57
     refine g9 18 ?_
     refine W.sub (sr9.cons _) (W.perm (M' := ((b1, ce9 23 [iV cfan, iV cleaf, iV cbud, iV cslots, iV crest]) :: (M_9 ++ (Ms27 ++ [])))) (((List.Perm.append_left _ ((List.Perm.append_left _ pr9).trans pr9)).trans (pmA pr9)).cons _) (g9 2 ?_))
     exact ⟨Le.rfl, (i + 1, v_9, M_9, v26, Ms27), ⟨(congrArg Value.bool (by rw [fillA_succ om9, ← hssx, hfl9, Bool.true_and, decide_eq_true (p := fillP (⟨cfan, cleaf, cbud, cslots, crest⟩ : Cfg) sx.n) (.inr (.inl p57))])), eqv, eqv, eqv, eqv, eqv, eqv, eqv, eqv, trivial⟩, ⟨rfl, (by have h := ho_9; rw [lvlS_succ om9, if_neg (by rw [← hssx]; exact p35)]; exact h), (by have h := ho28; rw [rowsS_succ om9, ← hssx]; exact h), om9⟩, om9⟩
    try dsimp only at p57
    refine g9 13 ?_
    refine W.ok (ok_quo rfl rfl (by decide) (tdiv2 hif)) (g9 12 ?_)
    refine W.sub (sr9.cons _) (W.perm (M' := ((b1, ce9 23 [iV cfan, iV cleaf, iV cbud, iV cslots, iV crest]) :: (M_9 ++ (Ms27 ++ [])))) (((List.Perm.append_left _ ((List.Perm.append_left _ pr9).trans pr9)).trans (pmA pr9)).cons _) (g9 2 ?_))
    exact ⟨Le.rfl, (i + 1, v_9, M_9, v26, Ms27), ⟨(congrArg Value.bool (by rw [fillA_succ om9, ← hssx, hfl9, Bool.true_and]; exact decide_eq_decide.2 ⟨fun h => .inr (.inr (by dsimp only; omega)), fun h => h.elim (fun h => absurd h p52) (fun h => h.elim (fun h => absurd h p57) (fun h => (by dsimp only at h; omega)))⟩)), eqv, eqv, eqv, eqv, eqv, eqv, eqv, eqv, trivial⟩, ⟨rfl, (by have h := ho_9; rw [lvlS_succ om9, if_neg (by rw [← hssx]; exact p35)]; exact h), (by have h := ho28; rw [rowsS_succ om9, ← hssx]; exact h), om9⟩, om9⟩
   refine g9 28 ?_
   refine W.sub (sr9.cons _) (W.perm (M' := ((b1, ce9 23 [iV cfan, iV cleaf, iV cbud, iV cslots, iV crest]) :: (M_9 ++ (Ms27 ++ [])))) (((List.Perm.append_left _ ((List.Perm.append_left _ pr9).trans pr9)).trans (pmA pr9)).cons _) (g9 2 ?_))
   exact ⟨Le.rfl, (i + 1, v_9, M_9, v26, Ms27), ⟨(congrArg Value.bool (by rw [fillA_succ om9, ← hssx, hfl9, Bool.false_and])), eqv, eqv, eqv, eqv, eqv, eqv, eqv, eqv, trivial⟩, ⟨rfl, (by have h := ho_9; rw [lvlS_succ om9, if_neg (by rw [← hssx]; exact p35)]; exact h), (by have h := ho28; rw [rowsS_succ om9, ← hssx]; exact h), om9⟩, om9⟩
  try dsimp only at p28
  refine g9 8 ?_
  refine W.qcall (rquiet_fc (h_l.mono lec)) rfl (g9 5 ?_)
  refine WC.dw sn9.k9 (d9 [0, 2] ?_)
  refine WD.a1 1 rfl (W.qcall (qis_fc (h_l.mono lec) hS) rfl (W.nn (WD.tk 3 rfl (ok_neqB bo4 rfl rfl) (d9 [4] ?_))))
  refine WD.sp 77 rfl (fun h76 => ?_) (fun h76 => ?_)
  ·exfalso; simp at h76
  refine d9 [5, 6, 8] ?_
  refine WD.anyG [7] (by kernel_rfl) rfl ⟨⟨_, rfl, .inr ⟨_, 77, _, _, rfl, rfl, rfl, h76, rfl⟩, (W.call (Mp := []) (qchain_fc (lv := lv) (h_l.mono lec) t) rfl pr9 ?_)⟩, trivial⟩
  intro v32 G29 Ms31 hG29 q30
  refine match q30 with | ⟨e_34, hv33⟩ => ?_
  subst e_34
  have q37 := hv33.form
  refine match q37 with | ⟨sa_f35, sc_f35, e_36⟩ => ?_
  subst e_36
  refine W.nn (WD.anyG [9] (by kernel_rfl) rfl ⟨⟨_, rfl, .inr ⟨_, 77, _, _, rfl, rfl, rfl, h76, rfl⟩, (W.giveO (ho_9.mono hG29) (pmC pr9) (fun G38 hG38 hv38 => ?_))⟩, trivial⟩)
  have q40 := hv38.form
  refine match q40 with | ⟨_, _, e_39⟩ => ?_
  subst e_39
  refine W.qcall ((ints_fc (hv33.mono hG38) hv38).mono (fun v _ _ _ hv => hv.trans (congrArg Value.bool (decide_eq_true (by rw [List.take_of_length_le om9, List.map_map]; rfl))))) rfl (W.nn (d9 [10, 11, 12, 13, 15] ?_))
  refine WD.anyG [14] (by kernel_rfl) rfl ⟨⟨_, rfl, .inr ⟨_, 85, _, _, rfl, rfl, rfl, rfl, rfl⟩, (W.call (Mp := []) (qrows_fc (h_l.mono lec) t) rfl pr9 ?_)⟩, trivial⟩
  intro v44 G41 Ms43 hG41 q42
  refine match q42 with | ⟨e_46, hv45⟩ => ?_
  subst e_46
  have q49 := hv45.form
  refine match q49 with | ⟨sa_f47, sc_f47, e_48⟩ => ?_
  subst e_48
  refine W.nn (WD.anyG [16] (by kernel_rfl) rfl ⟨⟨_, rfl, .inr ⟨_, 85, _, _, rfl, rfl, rfl, rfl, rfl⟩, (W.giveO (ho_10.mono lec) (pmC pr9) (fun G50 hG50 hv50 => ?_))⟩, trivial⟩)
  have q52 := hv50.form
  refine match q52 with | ⟨_, _, e_51⟩ => ?_
  subst e_51
  refine W.qcall ((samep_fc (hv45.mono hG50) hv50).mono (fun v _ _ _ hv => hv.trans (congrArg Value.bool (decide_eq_true (by rw [List.take_of_length_le om9]; exact rows_chn t))))) rfl (W.nn (d9 [17, 18, 19, 20, 21, 23] ?_))
  refine WD.anyG [22] (by kernel_rfl) rfl ⟨⟨_, rfl, .inr ⟨_, 92, _, _, rfl, rfl, rfl, rfl, rfl⟩, (W.qcall ((qfilled_fc cfan cleaf cbud cslots crest (h_l.mono lec) hif).mono (fun v _ _ _ hv => hv.trans (congrArg Value.bool (fillA_eq t)))) rfl (W.nn (WD.takeY 24 92 rfl rfl rfl rfl rfl rfl (by kernel_rfl) (by kernel_rfl) (by kernel_rfl) (ok_neqB bo4 rfl rfl) (d9 [25, 26] ?_))))⟩, trivial⟩
  refine WD.sp 99 rfl (fun h97 => ?_) (fun h97 => ?_)
  ·exfalso; rw [List.take_of_length_le om9] at h97; simp at h97
  refine d9 [27, 29] ?_
  refine (h_l.mono (((((hG2.trans hG13).trans hG29).trans hG38).trans hG41).trans hG50)).aN (i := 0) om9 (fun _ _ _ _ _ _ _ _ he53 hp_n54 hk_n54 hm_n54 hr_n54 hok_n54 => (WD.takeY 30 99 rfl rfl rfl rfl rfl h97 (by kernel_rfl) (by kernel_rfl) (by kernel_rfl) (ok_indexAddr (i := 0) sl24 ty35 (h_l.mono lec) rfl rfl ⟨om9, om9⟩) (d9 [31, 32, 33] ?_)))
  refine WD.anyG [28] (by kernel_rfl) rfl ⟨⟨_, rfl, .inr ⟨_, 99, _, _, rfl, rfl, rfl, h97, rfl⟩, (W.qcall (qheight_fc (h_l.mono lec) _ _ t) rfl (W.nn (d9 [34, 35] ?_)))⟩, trivial⟩
  refine g9 2 ?_
  refine WC.cn (fun h107 p107 => ?_) (fun h107 p107 => ?_)
  ·try dsimp only at p107
   exfalso; exact p107 (by rw [t.rootn, show (0 : Int) = ((0 : Nat) : Int) from rfl, getL_at t.pos])
  try dsimp only at p107
  refine g9 7 ?_
  refine W.sp 111 rfl (fun h110 => ?_) (fun h110 => ?_)
  ·refine g9 7 ?_
   refine W.qcall (awake44_fc) rfl (g9 6 ?_)
   rfl
  refine g9 5 ?_
  refine W.cS (map27_fc (h_l.mono lec) _ _ t) rfl (fun sa_hv58 sc_hv58 G57 hG57 hv58 => (g9 1 ?_))
  refine W.qcall ((samep_fc (hv50.mono hG57) hv58).mono (fun v _ _ _ hv => hv.trans (congrArg Value.bool (decide_eq_true (by rw [List.take_of_length_le om9]; exact rows_map t (by simpa using h110)))))) rfl (g9 3 ?_)
  refine W.qcall (awake44_fc) rfl (g9 6 ?_)
  rfl
 exact absurd (t.sts.symm.trans (by obtain ⟨_, _, h0, _⟩ := q8; exact h0)) (by simp)

end Go.Proofs.Ytcngningbcaggaa
