/- Walks of operations on a map. -/
import Derived.Test.YtemoalimclnfkaaGreatQiSq
set_option maxRecDepth 100000
set_option maxHeartbeats 1600000
set_option linter.unusedVariables false
set_option linter.unusedSimpArgs false
set_option linter.unnecessarySimpa false
namespace Go.Proofs.YtemoalimclnfkaaGreat
open Go Go.Fw Go.RowKit
attribute [local irreducible] Ok W WC
theorem r7all_fc {G : GH} {v_l : Value} {l : List Opr} (h_l : SlR eOp G v_l l) (n : Int) :
    Fc Tryz.prog 6 [v_l, iV n] G [] (fun v _ _ => v = .bool (decide (∀ i (h : i < l.length), (l[i].key.b.size : Int) ≤ n ∧ (l[i].hi.b.size : Int) ≤ n ∧ (l[i].val.b.size : Int) ≤ n))) := by
 obtain ⟨sa_l, sc_l, rfl⟩ := h_l.form
 have hl := h_l.len47
 refine Fc.go [.tmp 4] Tryz.func6 Tryz.ntmps6 rfl (fun w0 => (g9 12 ?_))
 refine WC.loop (X := Nat) (fun k => [(5, nt9 k), (0, lV sa_l l.length sc_l), (1, iV n)]) (fun k _ Ml => Ml = [] ∧ ∀ i (h : i < l.length), i < k → ((l[i].key.b.size : Int) ≤ n ∧ (l[i].hi.b.size : Int) ≤ n ∧ (l[i].val.b.size : Int) ≤ n)) (fun k => l.length - k) 0 hs9 ?_ ?_
 ·exact ⟨rfl, fun i _ h => by omega⟩
 rintro k gG1 G1 _ hG1 ⟨rfl, hk⟩
 refine g9 9 ?_
 refine WC.cd (fun h9 p9 => ?_) (fun h9 p9 => ?_)
 ·refine g9 8 ?_
  refine (h_l.mono hG1).a2 (i := k) om9 (fun he2 hm3 => (g9 3 ?_))
  refine W.qcall (r7long_fc _ _ _ _ _ _ _) rfl (g9 3 ?_)
  refine WC.cond rfl (fun h18 => ?_) (fun h18 => ?_)
  ·refine g9 12 ?_
   refine congrArg Value.bool ?_
   exact (decide_eq_false fun h => by have h2 := h k om9; simp [h2] at h18).symm
  refine g9 9 ?_
  exact ⟨Le.rfl, k + 1, hs9, ⟨rfl, fun i h hi => by
      by_cases e : i = k
      · subst e; simpa using h18
      · exact hk i h om9⟩, om9⟩
 refine g9 12 ?_
 refine congrArg Value.bool ?_
 exact (decide_eq_true fun i h => hk i h om9).symm

theorem ranssame_fc {G : GH} {cs_a : List Value} {a : Ans} (h_a : AnsC G cs_a a) {cs_b : List Value} {b : Ans} (h_b : AnsC G cs_b b) :
    Fc Tryz.prog 10 [.agg (List.toArray cs_a), .agg (List.toArray cs_b)] G [] (fun v _ _ => v = .bool (decide (a = b))) := by
 obtain ⟨_, _, rfl, hw_a, hok_a⟩ := h_a
 obtain ⟨_, _, rfl, hw_b, hok_b⟩ := h_b
 refine Fc.go [.tmp 4] Tryz.func10 Tryz.ntmps10 rfl (fun w0 => (g9 2 ?_))
 refine W.box (L := [iV _, .bool _, sV _, lV _ _ _]) rfl rfl (fun b1 => (W.box (L := [iV _, .bool _, sV _, lV _ _ _]) rfl rfl (fun b2 => (g9 11 ?_))))
 refine W.sd 10 (fun h9 p9 => ?_) (fun h9 p9 => ?_)
 ·refine g9 9 ?_
  refine W.ok (ok_eqlB bo4 rfl rfl) (g9 2 ?_)
  refine W.sp 17 rfl (fun h15 => ?_) (fun h15 => ?_)
  ·refine g9 12 ?_
   refine W.sd 24 (fun h22 p22 => ?_) (fun h22 p22 => ?_)
   ·refine g9 9 ?_
    refine W.qcall (samep_fc hw_a hw_b) rfl (g9 6 ?_)
    refine congrArg Value.bool ?_
    rw [Bool.eq_iff_iff, decide_eq_true_iff]
    clear hw_a hok_a hw_b hok_b
    cases a; cases b
    simp_all [Str.b_inj]
   refine g9 11 ?_
   refine congrArg Value.bool ?_
   rw [Bool.eq_iff_iff, decide_eq_true_iff]
   clear hw_a hok_a hw_b hok_b
   cases a; cases b
   simp_all [Str.b_inj]
  refine g9 18 ?_
  refine congrArg Value.bool ?_
  rw [Bool.eq_iff_iff, decide_eq_true_iff]
  clear hw_a hok_a hw_b hok_b
  cases a; cases b
  simp_all [Str.b_inj]
 refine g9 25 ?_
 refine congrArg Value.bool ?_
 rw [Bool.eq_iff_iff, decide_eq_true_iff]
 clear hw_a hok_a hw_b hok_b
 cases a; cases b
 simp_all [Str.b_inj]

theorem bptreeDoes_fc {G : GH} (cfan : Int) (cleaf : Int) (cbud : Int) (cslots : Int) (crest : Int) {v_l : Value} {l : List Opr} (h_l : SlR eOp G v_l l) :
    Fc Tryz.prog 4 [.agg #[iV cfan, iV cleaf, iV cbud, iV cslots, iV crest], v_l] G [] (fun v _ _ => v = .bool (true)) := by
 obtain ⟨sa_l, sc_l, rfl⟩ := h_l.form
 have hl := h_l.len47
 refine Fc.go [.tmp 4] Tryz.func4 Tryz.ntmps4 rfl (fun w0 => (g9 2 ?_))
 refine W.box (L := [iV _, iV _, iV _, iV _, iV _]) rfl rfl (fun b1 => (g9 10 ?_))
 refine W.sd 20 (fun h19 p19 => ?_) (fun h19 p19 => ?_)
 ·try dsimp only at p19
  refine g9 9 ?_
  refine W.qcall (awake16_fc) rfl (g9 6 ?_)
  rfl
 try dsimp only at p19
 refine g9 3 ?_
 refine W.qcall (r7all_fc h_l 300) rfl (g9 5 ?_)
 refine WC.cond rfl (fun h23 => ?_) (fun h23 => ?_)
 ·refine g9 2 ?_
  refine W.qcall (awake16_fc) rfl (g9 6 ?_)
  rfl
 refine g9 5 ?_
 refine W.call (Mp := []) (bpnew_fc cfan cleaf cbud cslots crest) rfl pr9 ?_
 intro v5 G2 Ms4 hG2 q3
 refine Or.elim q3 (fun q6 => ?_) (fun q7 => ?_)
 ·refine match q6 with | ⟨hnc, e_8, e_9⟩ => ?_
  subst e_8
  subst e_9
  refine g9 11 ?_
  refine W.qcall ((bpright_fc _ _ _ _ _).mono (fun v _ _ _ hv => hv.trans (congrArg Value.bool (decide_eq_false hnc)))) rfl (g9 7 ?_)
  refine W.ok (ok_eqlPN pp27 rfl rfl) (g9 8 ?_)
  refine W.qcall (awake16_fc) rfl (g9 7 ?_)
  rfl
 refine match q7 with | ⟨hC, b_t, e_10, hB9⟩ => ?_
 subst e_10
 refine W.perm (pmC pr9).symm (g9 11 ?_)
 refine W.qcall ((bpright_fc _ _ _ _ _).mono (fun v _ _ _ hv => hv.trans (congrArg Value.bool (decide_eq_true hC)))) rfl (g9 10 ?_)
 refine W.ok (ok_eqlPN pp27 rfl rfl) (g9 25 ?_)
 refine WC.loop (X := (Nat × BTr × List Pair) × MH × Value) (fun x => [(51, nt9 x.1.1), (2, pt9 b1), (49, lV sa_l l.length sc_l), (50, nt9 ((l).length)), (5, pt9 b_t), (7, x.2.2)]) (fun x G Ml => Ml = ((b1, ce9 26 [iV cfan, iV cleaf, iV cbud, iV cslots, iV crest]) :: (x.2.1 ++ [])) ∧ BpM (fun ba => ArR ePt 64 4 3 114 ba) 66 70 9 b_t cfan cleaf G (x.1.2.1) x.2.1 ∧ SlR ePair G x.2.2 (x.1.2.2) ∧ x.1.1 ≤ l.length ∧ x.1.2.2.length ≤ x.1.1 ∧ BpK cfan cleaf cslots x.1.2.1 ∧ x.1.2.2 = x.1.2.1.rows) (fun x => l.length - x.1.1) (((0, newT cslots.toNat, []) : Nat × BTr × List Pair), Ms4, lV none 0 0) hs9 ?_ ?_
 ·exact ⟨rfl, (by exact hB9), (by simpa using SlR.nil), Nat.zero_le _, Nat.zero_le _, (by have h9 := (new_k (fan := cfan) (leaf := cleaf) (n := cslots.toNat) om9 ⟨hC.1, hC.2.1, hC.2.2.1, hC.2.2.2.1⟩).1; rw [show ((cslots.toNat : Nat) : Int) = cslots by omega] at h9; exact h9), rfl⟩
 rintro ⟨⟨k, t, m⟩, M_5, v_7⟩ gG11 G11 _ hG11 ⟨rfl, ho_5, ho_7, hk, hlm9, hK, hmm⟩
 try dsimp only at ho_5 ho_7 hk hlm9 hK hmm
 have hPm : PairsR m := by rw [hmm]; exact hK.ok.rows
 have hdR9 := fun o : Opr => (doN_R (o := o) hPm).2
 have hln9 := hK.len
 have hlu9 := hK.ok.len
 have hfu9 := free_used t.u
 have hkh9 := hK.ok.high
 refine WC.fr (f := setL gG11 [(51, nt9 k), (2, pt9 b1), (49, lV sa_l l.length sc_l), (50, nt9 ((l).length)), (5, pt9 b_t), (7, v_7)]) rfl (g9 6 ?_)
 refine WC.cd (fun h52 p52 => ?_) (fun h52 p52 => ?_)
 ·try dsimp only at p52
  refine g9 6 ?_
  refine (h_l.mono (hG2.trans hG11)).a2 (i := (k)) om9 (fun he12 hm13 => (W.ok (ok_indexAddr (i := (k)) sl22 ty33 (h_l.mono lec) rfl rfl ⟨om9, om9⟩) (g9 1 ?_)))
  refine W.alloc zr33 (fun b17 => (g9 8 ?_))
  refine W.qcall (rget_fc ho_7 _) rfl (g9 8 ?_)
  refine WC.dw (sn9.k9.k9) (d9 [0, 1, 2, 5] ?_)
  refine WD.a1 3 rfl (W.call (Mp := M_5) (bpused_fc ho_5 hK.ok) rfl (pmC (pmC pr9)) ?_)
  intro v21 G18 Ms20 hG18 q19
  refine match q19 with | ⟨e_23, hR22⟩ => ?_
  subst e_23
  refine W.perm (pmC (pmC pr9)).symm (W.nn (d9 [4] ?_))
  refine WD.a1 6 rfl (W.call (Mp := Ms20) (bpheight_fc hR22 hK.ok) rfl (pmC (pmC pr9)) ?_)
  intro v27 G24 Ms26 hG24 q25
  refine match q25 with | ⟨e_29, hR28⟩ => ?_
  subst e_29
  refine W.perm (pmC (pmC pr9)).symm (W.nn (d9 [7, 8, 9] ?_))
  refine g9 6 ?_
  refine W.call (Mp := []) (rdo_fc (ho_7.mono lec) l[k].kind l[k].key l[k].hi l[k].opn l[k].val l[k].lim hPm om9) rfl pr9 ?_
  intro _ G30 _ hG30 q33
  refine match q33 with | ⟨e_34, _, e_35, _, _, e_36, hv31, hv32⟩ => ?_
  subst e_34
  subst e_35
  subst e_36
  have q38 := hv31.form
  refine match q38 with | ⟨sa_hv31, sc_hv31, e_37⟩ => ?_
  subst e_37
  refine match hv32 with | ⟨pa_hv32, pc_hv32, e_39, hw_hv32, hok_hv32⟩ => ?_
  subst e_39
  refine g9 3 ?_
  refine W.alloc zr35 (fun b40 => (g9 8 ?_))
  refine W.call (Mp := Ms26) (bpdo_fc (bpM.mono hG30 hR28) l[k].kind l[k].key l[k].hi l[k].opn l[k].val l[k].lim hK.ok) rfl (pmC (pmC (pmC pr9))) ?_
  intro v44 G41 Ms43 hG41 q42
  refine match q42 with | ⟨⟨cs_a9, e_46, pa_a9, pc_a9, e_47, hw_a9, hok_a9⟩, hR45⟩ => ?_
  subst e_46
  subst e_47
  refine W.perm (pmC (pmC (pmC pr9))).symm ?_
  have hK2 := hK.do (o := l[k])
  refine W.alloc zr35 (fun b48 => (g9 3 ?_))
  refine WC.join (X := (Unit) × Value) (fun u22 => [(5, pt9 b_t), (2, pt9 b1), (49, lV sa_l l.length sc_l), (50, nt9 ((l).length)), (51, nt9 k), (7, u22.2)]) (fun u22 G Ml => Ml = ((b48, ce9 35 [iV ((doT cfan cleaf l[k] t).1).err, .bool ((doT cfan cleaf l[k] t).1).has, sV ((doT cfan cleaf l[k] t).1).val.b, lV pa_a9 ((doT cfan cleaf l[k] t).1).rows.length pc_a9]) :: ((b40, ce9 35 [iV ((doN m l[k]).2).err, .bool ((doN m l[k]).2).has, sV ((doN m l[k]).2).val.b, lV pa_hv32 ((doN m l[k]).2).rows.length pc_hv32]) :: ((b17, ce9 33 [iV ((l)[((k))]).kind, sV ((l)[((k))]).key.b, sV ((l)[((k))]).hi.b, .bool ((l)[((k))]).opn, sV ((l)[((k))]).val.b, iV ((l)[((k))]).lim]) :: ((b1, ce9 26 [iV cfan, iV cleaf, iV cbud, iV cslots, iV crest]) :: (Ms43 ++ []))))) ∧ SlR ePair G u22.2 ((doT cfan cleaf l[k] t).2.rows) ∧ ((doT cfan cleaf l[k] t).2.rows).length ≤ k + 1) ?_ ?_
  ·refine g9 7 ?_
   refine WC.cd (fun h82 p82 => ?_) (fun h82 p82 => ?_)
   ·try dsimp only at p82
    have hF9 := hK.full p82
    refine g9 6 ?_
    refine W.sm 86 (fun h85 p85 => ?_) (fun h85 p85 => ?_)
    ·try dsimp only at p85
     exact absurd (by rw [hmm]; exact hF9.2.1) p85
    try dsimp only at p85
    refine g9 8 ?_
    refine W.sm 90 (fun h89 p89 => ?_) (fun h89 p89 => ?_)
    ·try dsimp only at p89
     refine g9 10 ?_
     refine W.sm 96 (fun h93 p93 => ?_) (fun h93 p93 => ?_)
     ·try dsimp only at p93
      exfalso; rcases hF9.2.2.1 with h9 | h9 <;> (dsimp only at h9; omega)
     try dsimp only at p93
     refine g9 4 ?_
     refine W.sp 99 rfl (fun h59_1 => ?_) (fun h59_1 => ?_)
     ·exact absurd h59_1 (by rw [hmm, hF9.2.2.2.1]; decide)
     refine g9 6 ?_
     refine W.sm 103 (fun h101 p101 => ?_) (fun h101 p101 => ?_)
     ·try dsimp only at p101
      exfalso; have h9 := hF9.2.2.2.2; have h8 := h101; simp at h8; omega
     try dsimp only at p101
     refine g9 3 ?_
     refine W.ok (ok_build (L := [iV _, .bool _, sV _, lV _ _ _]) pl35 zr35 rfl rfl rfl) (g9 1 ?_)
     refine W.qcall ((ranssame_fc (b := ⟨4, false, Str.nil, []⟩) (show AnsC _ _ (doT cfan cleaf l[k] t).1 from ⟨_, _, rfl, hw_a9, hok_a9⟩) (show AnsC _ _ _ from ⟨_, _, rfl, SlR.nil, ⟨by decide, by decide⟩⟩)).mono (fun v _ _ _ hv => hv.trans (congrArg Value.bool (decide_eq_true (by rw [hF9.1]))))) rfl (g9 8 ?_)
     exact ⟨Le.rfl, ((), v_7), hs9, ⟨rfl, (by exact SlR.cast (ho_7.mono lec) (by rw [hF9.1]; exact hmm)), by rw [hF9.1, ← hmm]; omega⟩⟩
    try dsimp only at p89
    refine g9 11 ?_
    refine W.sp 99 rfl (fun h59_1 => ?_) (fun h59_1 => ?_)
    ·exact absurd h59_1 (by rw [hmm, hF9.2.2.2.1]; decide)
    refine g9 6 ?_
    refine W.sm 103 (fun h101 p101 => ?_) (fun h101 p101 => ?_)
    ·try dsimp only at p101
     exfalso; have h9 := hF9.2.2.2.2; have h8 := h101; simp at h8; omega
    try dsimp only at p101
    refine g9 3 ?_
    refine W.ok (ok_build (L := [iV _, .bool _, sV _, lV _ _ _]) pl35 zr35 rfl rfl rfl) (g9 1 ?_)
    refine W.qcall ((ranssame_fc (b := ⟨4, false, Str.nil, []⟩) (show AnsC _ _ (doT cfan cleaf l[k] t).1 from ⟨_, _, rfl, hw_a9, hok_a9⟩) (show AnsC _ _ _ from ⟨_, _, rfl, SlR.nil, ⟨by decide, by decide⟩⟩)).mono (fun v _ _ _ hv => hv.trans (congrArg Value.bool (decide_eq_true (by rw [hF9.1]))))) rfl (g9 8 ?_)
    exact ⟨Le.rfl, ((), v_7), hs9, ⟨rfl, (by exact SlR.cast (ho_7.mono lec) (by rw [hF9.1]; exact hmm)), by rw [hF9.1, ← hmm]; omega⟩⟩
   try dsimp only at p82
   have hN9 := hK.fine p82
   refine g9 10 ?_
   refine W.qcall ((ranssame_fc (show AnsC _ _ (doT cfan cleaf l[k] t).1 from ⟨_, _, rfl, hw_a9, hok_a9⟩) (show AnsC _ _ (doN m l[k]).2 from ⟨_, _, rfl, (hw_hv32.mono hG41), hok_hv32⟩)).mono (fun v _ _ _ hv => hv.trans (congrArg Value.bool (decide_eq_true (hN9.1.trans (by rw [hmm])))))) rfl (g9 6 ?_)
   exact ⟨Le.rfl, ((), lV sa_hv31 ((doN m l[k]).1).length sc_hv31), hs9, ⟨rfl, (by exact SlR.cast (hv31.mono hG41) (by rw [hN9.2, ← hmm])), by rw [hN9.2, ← hmm]; exact Nat.le_trans (hdR9 l[k]) om9⟩⟩
  rintro ⟨u22, v_7⟩ gG49 G49 _ hG49 ⟨rfl, ho_7, hl9⟩
  try dsimp only at ho_7 hl9
  refine WC.fr (f := setL gG49 [(5, pt9 b_t), (2, pt9 b1), (49, lV sa_l l.length sc_l), (50, nt9 ((l).length)), (51, nt9 k), (7, v_7)]) rfl (g9 3 ?_)
  refine W.call (Mp := Ms43) (bpnodes_fc (bpM.mono hG49 hR45) hK2.ok) rfl (pmC (pmC (pmC (pmC pr9)))) ?_
  intro v53 G50 Ms52 hG50 q51
  refine match q51 with | ⟨hv_hR54, hR54⟩ => ?_
  refine W.perm (pmC (pmC (pmC (pmC pr9)))).symm ?_
  have q58 := hv_hR54.form
  refine match q58 with | ⟨sa55, sc56, e_57⟩ => ?_
  subst e_57
  refine g9 4 ?_
  refine WC.dw (((sn9.k9.k9).k9).k9) (d9 [0, 2] ?_)
  refine WD.a1 1 rfl (W.call (Mp := Ms52) (bpmap_fc hR54 hK2.ok) rfl (pmC (pmC (pmC (pmC pr9)))) ?_)
  intro v62 G59 Ms61 hG59 q60
  refine match q60 with | ⟨hv_hR63, hR63⟩ => ?_
  refine W.perm (pmC (pmC (pmC (pmC pr9)))).symm ?_
  have q67 := hv_hR63.form
  refine match q67 with | ⟨sa64, sc65, e_66⟩ => ?_
  subst e_66
  refine W.nn (WD.a1 3 rfl (W.qcall ((samep_fc hv_hR63 (ho_7.mono lec)).mono (fun v _ _ _ hv => hv.trans (congrArg Value.bool (decide_eq_true rfl)))) rfl (W.nn (d9 [4, 5, 6, 7, 9] ?_))))
  refine WD.anyG [8] (by kernel_rfl) rfl ⟨⟨_, rfl, .inr ⟨_, 121, _, _, rfl, rfl, rfl, rfl, rfl⟩, (W.call (Mp := Ms61) (bproot_fc hR63 hK2.ok) rfl (pmC (pmC (pmC (pmC pr9)))) ?_)⟩, trivial⟩
  intro v71 G68 Ms70 hG68 q69
  refine match q69 with | ⟨e_73, hR72⟩ => ?_
  subst e_73
  refine W.perm (pmC (pmC (pmC (pmC pr9)))).symm (W.nn (WD.anyG [10] (by kernel_rfl) rfl ⟨⟨_, rfl, .inr ⟨_, 121, _, _, rfl, rfl, rfl, rfl, rfl⟩, (W.qcall ((sound17_fc _ _ _ _ _ _ (hv_hR54.mono lec) (hK2.ok.sml hK2.pv) ⟨om9, om9⟩ ⟨om9, om9⟩).mono (fun v _ _ _ hv => hv.trans (congrArg Value.bool (hK2.ok.sound rfl rfl)))) rfl (W.nn (d9 [11, 12, 13, 14, 16, 17] ?_)))⟩, trivial⟩))
  refine WD.anyG [15] (by kernel_rfl) rfl ⟨⟨_, rfl, .inr ⟨_, 129, _, _, rfl, rfl, rfl, rfl, rfl⟩, (W.call (Mp := Ms70) (bpused_fc hR72 hK2.ok) rfl (pmC (pmC (pmC (pmC pr9)))) ?_)⟩, trivial⟩
  intro v77 G74 Ms76 hG74 q75
  refine match q75 with | ⟨e_79, hR78⟩ => ?_
  subst e_79
  refine W.perm (pmC (pmC (pmC (pmC pr9)))).symm (W.nn (d9 [18, 19, 20] ?_))
  refine WD.sp 136 rfl (fun h134 => ?_) (fun h134 => ?_)
  ·have p134 := nd_t h134
   try dsimp only at p134
   exact absurd (congrArg (fun n : Nat => (n : Int)) hK2.ok.used) p134
  have p134 := nd_f h134
  try dsimp only at p134
  refine d9 [21, 23, 24] ?_
  refine WD.anyG [22] (by kernel_rfl) rfl ⟨⟨_, rfl, .inr ⟨_, 136, _, _, rfl, rfl, rfl, h134, rfl⟩, (W.call (Mp := Ms76) (bpused_fc hR78 hK2.ok) rfl (pmC (pmC (pmC (pmC pr9)))) ?_)⟩, trivial⟩
  intro v83 G80 Ms82 hG80 q81
  refine match q81 with | ⟨e_85, hR84⟩ => ?_
  subst e_85
  refine W.perm (pmC (pmC (pmC (pmC pr9)))).symm (W.nn (d9 [25, 26] ?_))
  refine g9 2 ?_
  refine WC.cd (fun h141 p141 => ?_) (fun h141 p141 => ?_)
  ·try dsimp only at p141
   exfalso; have h7 : cslots < ((usedN ((doT cfan cleaf l[k] t).2).u).length : Int) := p141; have h9 := hK2.len; have h8 := free_used ((doT cfan cleaf l[k] t).2).u; omega
  try dsimp only at p141
  refine g9 6 ?_
  refine W.sub (((sr9.cons _).cons _).cons _) (g9 2 ?_)
  exact ⟨lec, (((k + 1, (doT cfan cleaf l[k] t).2, (doT cfan cleaf l[k] t).2.rows) : Nat × BTr × List Pair), Ms82, v_7), hs9, ⟨rfl, (by exact hR84), (by simpa using (ho_7.mono lec)), by dsimp only; omega, hl9, hK2, rfl⟩, by dsimp only; omega⟩
 try dsimp only at p52
 refine g9 7 ?_
 refine W.qcall (awake16_fc) rfl (g9 5 ?_)
 rfl

theorem bptreeRoom_fc {G : GH} (fanout : Int) (leaf : Int) {v_l : Value} {l : List Opr} (h_l : SlR eOp G v_l l) :
    Fc Tryz.prog 3 [iV fanout, iV leaf, v_l] G [] (fun v _ _ => v = .bool (true)) := by
 obtain ⟨sa_l, sc_l, rfl⟩ := h_l.form
 have hl := h_l.len47
 obtain ⟨F9, hf9⟩ : ∃ x, max 4 (min fanout 64) = x := ⟨_, rfl⟩
 obtain ⟨L9, hl9⟩ : ∃ x, max 2 (min leaf 64) = x := ⟨_, rfl⟩
 obtain ⟨S9, hS9⟩ : ∃ x, 4 * (l.length : Int) + 8 = x := ⟨_, rfl⟩
 refine Fc.go [.tmp 6] Tryz.func3 Tryz.ntmps3 rfl (fun w0 => (g9 12 ?_))
 refine W.sd 17 (fun h16 p16 => ?_) (fun h16 p16 => ?_)
 ·try dsimp only at p16
  refine g9 9 ?_
  refine W.qcall (awake16_fc) rfl (g9 6 ?_)
  rfl
 try dsimp only at p16
 refine g9 3 ?_
 refine W.qcall (r7all_fc h_l 300) rfl (g9 5 ?_)
 refine WC.cond rfl (fun h20 => ?_) (fun h20 => ?_)
 ·refine g9 2 ?_
  refine W.qcall (awake16_fc) rfl (g9 6 ?_)
  rfl
 refine g9 5 ?_
 refine W.ok (Ok.to (v' := iV (min fanout 64)) (ok_mini rfl rfl) (rfl)) (W.ok (Ok.to (v' := iV F9) (ok_maxi rfl rfl) (congrArg (Value.int .i64) (hf9))) (W.mv (W.ok (Ok.to (v' := iV (min leaf 64)) (ok_mini rfl rfl) (rfl)) (W.ok (Ok.to (v' := iV L9) (ok_maxi rfl rfl) (congrArg (Value.int .i64) (hl9))) (g9 2 ?_)))))
 refine W.ok (ok_mul rfl rfl om9) (W.ok (Ok.to (v' := iV S9) (ok_add rfl rfl om9) (congrArg (Value.int .i64) (hS9))) (W.ok (ok_build (L := [iV _, iV _, iV _, iV _, iV _]) pl26 zr26 rfl rfl rfl) (W.alloc zr26 (fun b1 => (g9 6 ?_)))))
 refine W.call (Mp := []) (bpnew_fc F9 L9 0 S9 0) rfl pr9 ?_
 intro v5 G2 Ms4 hG2 q3
 refine Or.elim q3 (fun q6 => ?_) (fun q7 => ?_)
 ·exact absurd om9 q6.1
 refine match q7 with | ⟨hC, b_t, e_8, hB9⟩ => ?_
 subst e_8
 refine W.perm (pmC pr9).symm (g9 31 ?_)
 refine WC.loop (X := (Nat × BTr × List Pair) × MH × Value) (fun x => [(43, nt9 x.1.1), (41, lV sa_l l.length sc_l), (42, nt9 ((l).length)), (8, pt9 b_t), (10, x.2.2)]) (fun x G Ml => Ml = ((b1, ce9 26 [iV F9, iV L9, iV 0, iV S9, iV 0]) :: (x.2.1 ++ [])) ∧ BpM (fun ba => ArR ePt 64 4 3 114 ba) 66 70 9 b_t F9 L9 G (x.1.2.1) x.2.1 ∧ SlR ePair G x.2.2 (x.1.2.2) ∧ x.1.1 ≤ l.length ∧ x.1.2.2.length ≤ x.1.1 ∧ BpK F9 L9 S9 x.1.2.1 ∧ x.1.2.2 = x.1.2.1.rows) (fun x => l.length - x.1.1) (((0, newT S9.toNat, []) : Nat × BTr × List Pair), Ms4, lV none 0 0) hs9 ?_ ?_
 ·exact ⟨rfl, (by exact hB9), (by simpa using SlR.nil), Nat.zero_le _, Nat.zero_le _, (by have h9 := (new_k (fan := F9) (leaf := L9) (n := S9.toNat) om9 om9).1; rw [show ((S9.toNat : Nat) : Int) = S9 by omega] at h9; exact h9), rfl⟩
 rintro ⟨⟨k, t, m⟩, M_8, v_10⟩ gG9 G9 _ hG9 ⟨rfl, ho_8, ho_10, hk, hlm9, hK, hmm⟩
 try dsimp only at ho_8 ho_10 hk hlm9 hK hmm
 have hPm : PairsR m := by rw [hmm]; exact hK.ok.rows
 have hdR9 := fun o : Opr => (doN_R (o := o) hPm).2
 refine WC.fr (f := setL gG9 [(43, nt9 k), (41, lV sa_l l.length sc_l), (42, nt9 ((l).length)), (8, pt9 b_t), (10, v_10)]) rfl (g9 6 ?_)
 refine WC.cd (fun h44 p44 => ?_) (fun h44 p44 => ?_)
 ·try dsimp only at p44
  refine g9 6 ?_
  refine (h_l.mono (hG2.trans hG9)).a2 (i := (k)) om9 (fun he10 hm11 => (W.ok (ok_indexAddr (i := (k)) sl22 ty33 (h_l.mono lec) rfl rfl ⟨om9, om9⟩) (g9 1 ?_)))
  refine W.alloc zr33 (fun b15 => (g9 5 ?_))
  refine W.alloc zr35 (fun b16 => (g9 6 ?_))
  refine W.call (Mp := []) (rdo_fc ho_10 l[k].kind l[k].key l[k].hi l[k].opn l[k].val l[k].lim hPm om9) rfl pr9 ?_
  intro _ G17 _ hG17 q20
  refine match q20 with | ⟨e_21, _, e_22, _, _, e_23, hv18, hv19⟩ => ?_
  subst e_21
  subst e_22
  subst e_23
  have q25 := hv18.form
  refine match q25 with | ⟨sa_hv18, sc_hv18, e_24⟩ => ?_
  subst e_24
  refine match hv19 with | ⟨_, _, e_26, hw_hv19, hok_hv19⟩ => ?_
  subst e_26
  refine g9 8 ?_
  refine WC.dw ((sn9.k9.k9).k9) (d9 [0, 1, 3] ?_)
  refine WD.a1 2 rfl ?_
  have hN9 := hK.fine (o := l[k]) (by have h9 := hK; rw [← hS9] at h9; exact h9.room om9 (by rw [← hmm]; omega))
  refine W.call (Mp := M_8) (bpdo_fc (bpM.mono hG17 ho_8) l[k].kind l[k].key l[k].hi l[k].opn l[k].val l[k].lim hK.ok) rfl (pmC (pmC (pmC pr9))) ?_
  intro v30 G27 Ms29 hG27 q28
  refine match q28 with | ⟨⟨cs_a9, e_32, _, _, e_33, hw_a9, hok_a9⟩, hR31⟩ => ?_
  subst e_32
  subst e_33
  refine W.perm (pmC (pmC (pmC pr9))).symm ?_
  have hK2 := hK.do (o := l[k])
  refine W.nn (WD.a1 4 rfl (W.qcall ((ranssame_fc (show AnsC _ _ (doT F9 L9 l[k] t).1 from ⟨_, _, rfl, hw_a9, hok_a9⟩) (show AnsC _ _ (doN m l[k]).2 from ⟨_, _, rfl, (hw_hv19.mono hG27), hok_hv19⟩)).mono (fun v _ _ _ hv => hv.trans (congrArg Value.bool (decide_eq_true (hN9.1.trans (by rw [hmm])))))) rfl (W.nn (d9 [5] ?_))))
  refine g9 9 ?_
  refine W.sub ((sr9.cons _).cons _) (g9 2 ?_)
  exact ⟨lec, (((k + 1, (doT F9 L9 l[k] t).2, (doN m l[k]).1) : Nat × BTr × List Pair), Ms29, lV sa_hv18 ((doN m l[k]).1).length sc_hv18), hs9, ⟨rfl, (by exact hR31), (by simpa using (hv18.mono hG27)), by dsimp only; omega, Nat.le_trans (hdR9 l[k]) (by dsimp only; omega), hK2, by dsimp only; rw [hN9.2, hmm]⟩, by dsimp only; omega⟩
 try dsimp only at p44
 refine g9 8 ?_
 refine W.call (Mp := M_8) (bpmap_fc ho_8 hK.ok) rfl (pmC pr9) ?_
 intro v37 G34 Ms36 hG34 q35
 refine match q35 with | ⟨hv_hR38, hR38⟩ => ?_
 refine W.perm (pmC pr9).symm ?_
 have q42 := hv_hR38.form
 refine match q42 with | ⟨sa39, sc40, e_41⟩ => ?_
 subst e_41
 refine W.mv (W.qcall ((samep_fc hv_hR38 (ho_10.mono hG34)).mono (fun v _ _ _ hv => hv.trans (congrArg Value.bool (decide_eq_true hmm.symm)))) rfl (g9 2 ?_))
 refine W.qcall (awake16_fc) rfl (g9 6 ?_)
 rfl

end Go.Proofs.YtemoalimclnfkaaGreat
