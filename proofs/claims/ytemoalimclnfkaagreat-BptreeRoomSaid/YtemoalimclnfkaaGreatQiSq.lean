/- The walk of what makes a tree of rows. -/
import Derived.Test.YtemoalimclnfkaaGreatQiRw
set_option maxRecDepth 100000
set_option maxHeartbeats 1600000
set_option linter.unusedVariables false
set_option linter.unusedSimpArgs false
set_option linter.unnecessarySimpa false
namespace Go.Proofs.YtemoalimclnfkaaGreat
open Go Go.Fw Go.RowKit
attribute [local irreducible] Ok W WC
theorem bpnew_fc {G : GH} (cfan : Int) (cleaf : Int) (cbud : Int) (cslots : Int) (crest : Int) :
    Fc Tryz.prog 8 [.agg #[iV cfan, iV cleaf, iV cbud, iV cslots, iV crest]] G [] (fun v G' M' => (¬ (4 ≤ cfan ∧ cfan ≤ 64 ∧ 2 ≤ cleaf ∧ cleaf ≤ 64 ∧ 1 ≤ cslots ∧ cslots ≤ 4096) ∧ v = .tuple #[.pointer none, iV 2] ∧ M' = []) ∨ ((4 ≤ cfan ∧ cfan ≤ 64 ∧ 2 ≤ cleaf ∧ cleaf ≤ 64 ∧ 1 ≤ cslots ∧ cslots ≤ 4096) ∧ ∃ b_t, v = .tuple #[pt9 b_t, iV 0] ∧ BpM (fun ba => ArR ePt 64 4 3 114 ba) 66 70 9 b_t cfan cleaf G' (newT cslots.toNat) M')) := by
 refine Fc.go [.tmp 2, .tmp 3] Tryz.func8 Tryz.ntmps8 rfl (fun w0 => (g9 2 ?_))
 refine W.box (L := [iV _, iV _, iV _, iV _, iV _]) rfl rfl (fun b1 => (g9 11 ?_))
 refine W.sd 10 (fun h9 p9 => ?_) (fun h9 p9 => ?_)
 ·refine g9 23 ?_
  refine WC.sub (M' := []) (sr9.cons _) (g9 3 ?_)
  exact .inl ⟨om9, rfl, rfl⟩
 refine g9 8 ?_
 refine W.sd 15 (fun h13 p13 => ?_) (fun h13 p13 => ?_)
 ·refine g9 18 ?_
  refine WC.sub (M' := []) (sr9.cons _) (g9 3 ?_)
  exact .inl ⟨om9, rfl, rfl⟩
 refine g9 8 ?_
 refine W.sd 20 (fun h18 p18 => ?_) (fun h18 p18 => ?_)
 ·refine g9 13 ?_
  refine WC.sub (M' := []) (sr9.cons _) (g9 3 ?_)
  exact .inl ⟨om9, rfl, rfl⟩
 refine g9 9 ?_
 refine WC.cd (fun h23 p23 => ?_) (fun h23 p23 => ?_)
 ·refine g9 6 ?_
  refine WC.sub (M' := []) (sr9.cons _) (g9 3 ?_)
  exact .inl ⟨om9, rfl, rfl⟩
 refine g9 6 ?_
 refine W.call (Mp := []) (snewp_fc cslots) rfl pr9 ?_
 intro v5 G2 Ms4 hG2 q3
 refine Or.elim q3 (fun q6 => ?_) (fun q7 => ?_)
 ·refine match q6 with | ⟨hns9, e_8, e_9⟩ => ?_
  subst e_8
  subst e_9
  refine g9 22 ?_
  refine WC.sub (M' := []) (sr9.cons _) (g9 3 ?_)
  exact .inl ⟨om9, rfl, rfl⟩
 refine match q7 with | ⟨hC, ba, e_10, hA9⟩ => ?_
 subst e_10
 refine W.perm (pmC pr9).symm ?_
 obtain ⟨n9, hn9⟩ : ∃ n, cslots.toNat = n := ⟨_, rfl⟩
 rw [hn9] at hA9
 have hn8 : 1 ≤ n9 ∧ n9 ≤ 4096 := by omega
 refine g9 24 ?_
 refine W.ok (ok_build (L := [.pointer _, iV _, iV _, iV _]) pl66 zr66 rfl rfl rfl) (W.box (L := [.pointer _, iV _, iV _, iV _]) rfl rfl (fun b11 => (g9 7 ?_)))
 refine W.ok (ok_build (L := [iV _, lV _ _ _, lV _ _ _, lV _ _ _]) pl70 zr70 rfl rfl rfl) (W.box (L := [iV _, lV _ _ _, lV _ _ _, lV _ _ _]) rfl rfl (fun b12 => ?_))
 have hlt9 := new_first hn8.1
 refine W.call (Mp := Ms4) (oallocp hA9 b12) rfl (pmC (pmC (pmC pr9))) ?_
 intro v16 G13 Ms15 hG13 q14
 refine match q14 with | ⟨hv_hR17, hR17⟩ => ?_
 refine W.perm (pmC (pmC (pmC pr9))).symm ?_
 rw [nextA_t hlt9] at hv_hR17 hR17
 subst hv_hR17
 try dsimp only at hR17
 refine g9 17 ?_
 refine WC.sub (M' := ((b12, ce9 70 [iV 0, lV none 0 0, lV none 0 0, lV none 0 0]) :: ((b11, ce9 66 [pt9 ba, nt9 (firstN (List.replicate n9 false)), iV cfan, iV cleaf]) :: (Ms15 ++ [])))) ((((List.Sublist.append_left sr9 _).cons _).k9).k9) (WC.perm (M' := ((b11, ce9 66 [pt9 ba, nt9 (firstN (List.replicate n9 false)), iV cfan, iV cleaf]) :: ((b12, ce9 70 [iV 0, lV none 0 0, lV none 0 0, lV none 0 0]) :: (Ms15 ++ [])))) ((((pr9.cons _).trans pr9).cons _).trans ((List.Perm.swap _ _ _).trans (pr9.cons _))) (WC.ret ?_))
 refine ⟨.inr rfl, [_, _], ⟨rfl, rfl, trivial⟩, ((b11, ce9 66 [pt9 ba, nt9 (firstN (List.replicate n9 false)), iV cfan, iV cleaf]) :: ((b12, ce9 70 [iV 0, lV none 0 0, lV none 0 0, lV none 0 0]) :: (Ms15 ++ []))), sr9, ?_⟩
 refine .inr ⟨⟨om9, om9, om9, om9, hC.1, hC.2⟩, _, rfl, ?_⟩
 rw [hn9]
 refine ⟨ba, _, _, Ms15, [(b12, ce9 70 [iV 0, lV none 0 0, lV none 0 0, lV none 0 0])], ?_, rfl, hR17, NsM.pack0 (blk_set (by rw [List.length_replicate]; rw [List.length_replicate] at hlt9; exact hlt9)) OwnR.nil SlR.nil SlR.nil⟩
 refine List.Perm.cons _ ?_
 rw [List.append_nil]
 exact List.perm_append_comm (l₁ := [_])

theorem bpright_fc {G : GH} (cfan : Int) (cleaf : Int) (cbud : Int) (cslots : Int) (crest : Int) :
    Fc Tryz.prog 14 [.agg #[iV cfan, iV cleaf, iV cbud, iV cslots, iV crest]] G [] (fun v _ _ => v = .bool (decide (4 ≤ cfan ∧ cfan ≤ 64 ∧ 2 ≤ cleaf ∧ cleaf ≤ 64 ∧ 1 ≤ cslots ∧ cslots ≤ 4096))) := by
 refine Fc.go [.tmp 2] Tryz.func14 Tryz.ntmps14 rfl (fun w0 => (g9 2 ?_))
 refine W.box (L := [iV _, iV _, iV _, iV _, iV _]) rfl rfl (fun b18 => (g9 9 ?_))
 refine W.sd 6 (fun h5 p5 => ?_) (fun h5 p5 => ?_)
 ·refine g9 8 ?_
  refine W.sd 11 (fun h9 p9 => ?_) (fun h9 p9 => ?_)
  ·refine g9 8 ?_
   refine W.sd 16 (fun h14 p14 => ?_) (fun h14 p14 => ?_)
   ·refine g9 8 ?_
    refine W.sd 21 (fun h19 p19 => ?_) (fun h19 p19 => ?_)
    ·refine g9 8 ?_
     refine W.sd 26 (fun h24 p24 => ?_) (fun h24 p24 => ?_)
     ·refine g9 12 ?_
      refine congrArg Value.bool ?_
      rw [Bool.eq_iff_iff, decide_eq_true_iff]
      first | (simp_all; done) | (simp_all; omega)
     refine g9 9 ?_
     refine congrArg Value.bool ?_
     rw [Bool.eq_iff_iff, decide_eq_true_iff]
     first | (simp_all; done) | (simp_all; omega)
    refine g9 14 ?_
    refine congrArg Value.bool ?_
    rw [Bool.eq_iff_iff, decide_eq_true_iff]
    first | (simp_all; done) | (simp_all; omega)
   refine g9 19 ?_
   refine congrArg Value.bool ?_
   rw [Bool.eq_iff_iff, decide_eq_true_iff]
   first | (simp_all; done) | (simp_all; omega)
  refine g9 24 ?_
  refine congrArg Value.bool ?_
  rw [Bool.eq_iff_iff, decide_eq_true_iff]
  first | (simp_all; done) | (simp_all; omega)
 refine g9 29 ?_
 refine congrArg Value.bool ?_
 rw [Bool.eq_iff_iff, decide_eq_true_iff]
 first | (simp_all; done) | (simp_all; omega)

def S_97 : Str := ⟨⟨#[97]⟩, by decide⟩
def S_98 : Str := ⟨⟨#[98]⟩, by decide⟩
def S_99 : Str := ⟨⟨#[99]⟩, by decide⟩
theorem awake16_fc {G : GH}  :
    Fc Tryz.prog 7 [] G [] (fun v _ _ => v = .bool (true)) := by
 refine Fc.go [.tmp 0] Tryz.func7 Tryz.ntmps7 rfl (fun w0 => (g9 7 ?_))
 refine W.ok (ok_build (L := [iV _, iV _, iV _, iV _, iV _]) pl26 zr26 rfl rfl rfl) (W.call (Mp := []) (bpnew_fc 4 2 0 9 0) rfl pr9 ?_)
 intro v4 G1 Ms3 hG1 q2
 refine Or.elim q2 (fun q5 => ?_) (fun q6 => ?_)
 ·exact absurd (by decide) q5.1
 refine match q6 with | ⟨hC, b_t, e_7, hB9⟩ => ?_
 subst e_7
 have hB9 : BpM (fun ba => ArR ePt 64 4 3 114 ba) 66 70 9 b_t 4 2 G1 (newT 9) Ms3 := hB9
 refine g9 10 ?_
 refine W.lit (e := eStr) (l := [S_97, S_98, S_99]) (css := [[sV _], [sV _], [sV _]]) sl54 ty9 zr9 rfl rfl rfl rfl rfl rfl ⟨rfl, rfl, rfl, trivial⟩ (fun bl8 G8 hG8 hv8 => (g9 5 ?_))
 refine WC.loop (X := (Nat) × MH) (fun k => [(15, nt9 k.1), (2, iV 0), (13, lV (some ⟨bl8, 0, none⟩) 3 3), (14, nt9 (([S_97, S_98, S_99]).length)), (1, pt9 b_t)]) (fun k G Ml => Ml = (k.2 ++ []) ∧ BpM (fun ba => ArR ePt 64 4 3 114 ba) 66 70 9 b_t 4 2 G ((putsT 4 2 (([S_97, S_98, S_99] : List Str).take k.1) (newT 9))) k.2 ∧ k.1 ≤ ([S_97, S_98, S_99] : List Str).length) (fun k => ([S_97, S_98, S_99] : List Str).length - k.1) (0, Ms3) hs9 ?_ ?_
 ·exact ⟨rfl, (by exact (bpM.mono hG8 hB9)), Nat.zero_le _⟩
 rintro ⟨k, M_1⟩ gG9 G9 _ hG9 ⟨rfl, ho_1, hk⟩
 try dsimp only at ho_1 hk
 have hL3 : ([S_97, S_98, S_99] : List Str).length = 3 := rfl
 have hK := puts_k (([S_97, S_98, S_99] : List Str).take k) (new_k (fan := 4) (leaf := 2) (n := 9) (by decide) (by decide)).1
 refine WC.fr (f := setL gG9 [(15, nt9 k), (2, iV 0), (13, lV (some ⟨bl8, 0, none⟩) 3 3), (14, nt9 (([S_97, S_98, S_99]).length)), (1, pt9 b_t)]) rfl (g9 6 ?_)
 refine WC.cd (fun h16 p16 => ?_) (fun h16 p16 => ?_)
 ·try dsimp only at p16
  refine g9 6 ?_
  refine (hv8.mono hG9).a1 (i := k) om9 (fun he10 => (g9 9 ?_))
  refine W.ok (ok_build (L := [iV _, sV _, sV _, .bool _, sV _, iV _]) pl33 zr33 rfl rfl rfl) (W.call (Mp := M_1) (bpdo_fc ho_1 (1) (([S_97, S_98, S_99] : List Str)[k]'om9) (Str.nil) (false) (([S_97, S_98, S_99] : List Str)[k]'om9) (0) hK.ok) rfl pr9 ?_)
  intro v16 G13 Ms15 hG13 q14
  refine match q14 with | ⟨⟨cs_a9, e_18, _, _, e_19, hw_a9, hok_a9⟩, hR17⟩ => ?_
  subst e_18
  subst e_19
  have ha9 := hK.do (o := ⟨1, ([S_97, S_98, S_99] : List Str)[k]'om9, Str.nil, false, ([S_97, S_98, S_99] : List Str)[k]'om9, 0⟩)
  refine g9 8 ?_
  exact ⟨hG13, (k + 1, Ms15), hs9, ⟨rfl, (by have h := hR17; rw [puts_succ om9]; exact h), om9⟩, om9⟩
 try dsimp only at p16
 refine g9 6 ?_
 obtain rfl : k = 3 := by have h9 : ([S_97, S_98, S_99] : List Str).length = 3 := rfl; omega
 have hK := puts_k (([S_97, S_98, S_99] : List Str).take 3) (new_k (fan := 4) (leaf := 2) (n := 9) (by decide) (by decide)).1
 refine g9 2 ?_
 refine W.call (Mp := M_1) (bpnodes_fc ho_1 hK.ok) rfl pr9 ?_
 intro v23 G20 Ms22 hG20 q21
 refine match q21 with | ⟨hv_hR24, hR24⟩ => ?_
 have q28 := hv_hR24.form
 refine match q28 with | ⟨sa25, sc26, e_27⟩ => ?_
 subst e_27
 refine g9 6 ?_
 refine W.call (Mp := Ms22) (bpheight_fc hR24 hK.ok) rfl pr9 ?_
 intro v32 G29 Ms31 hG29 q30
 refine match q30 with | ⟨e_34, hR33⟩ => ?_
 subst e_34
 refine g9 6 ?_
 refine W.ok (ok_build (L := [iV _, sV _, sV _, .bool _, sV _, iV _]) pl33 zr33 rfl rfl rfl) (W.call (Mp := Ms31) (bpdo_fc hR33 (3) (S_97) (Str.nil) (false) (Str.nil) (0) hK.ok) rfl pr9 ?_)
 intro v38 G35 Ms37 hG35 q36
 refine match q36 with | ⟨⟨cs_K4, e_40, _, _, e_41, hw_K4, hok_K4⟩, hR39⟩ => ?_
 subst e_40
 subst e_41
 have hK4 := hK.do (o := ⟨3, S_97, Str.nil, false, Str.nil, 0⟩)
 refine g9 5 ?_
 refine W.ok (ok_build (L := [iV _, sV _, sV _, .bool _, sV _, iV _]) pl33 zr33 rfl rfl rfl) (W.call (Mp := Ms37) (bpdo_fc hR39 (3) (S_98) (Str.nil) (false) (Str.nil) (0) hK4.ok) rfl pr9 ?_)
 intro v45 G42 Ms44 hG42 q43
 refine match q43 with | ⟨⟨cs_K5, e_47, _, _, e_48, hw_K5, hok_K5⟩, hR46⟩ => ?_
 subst e_47
 subst e_48
 have hK5 := hK4.do (o := ⟨3, S_98, Str.nil, false, Str.nil, 0⟩)
 refine g9 5 ?_
 refine W.ok (ok_build (L := [iV _, sV _, sV _, .bool _, sV _, iV _]) pl33 zr33 rfl rfl rfl) (W.call (Mp := Ms44) (bpdo_fc hR46 (5) (S_99) (Str.nil) (false) (Str.nil) (0) hK5.ok) rfl pr9 ?_)
 intro v52 G49 Ms51 hG49 q50
 refine match q50 with | ⟨⟨cs_K6, e_54, _, _, e_55, hw_K6, hok_K6⟩, hR53⟩ => ?_
 subst e_54
 subst e_55
 have hK6 := hK5.do (o := ⟨5, S_99, Str.nil, false, Str.nil, 0⟩)
 refine W.alloc zr35 (fun b56 => (g9 16 ?_))
 refine W.sd 45 (fun h43 p43 => ?_) (fun h43 p43 => ?_)
 ·try dsimp only at p43
  refine g9 6 ?_
  refine W.sd 49 (fun h47 p47 => ?_) (fun h47 p47 => ?_)
  ·try dsimp only at p47
   refine g9 3 ?_
   refine W.call (Mp := Ms51) (bpheight_fc hR53 hK6.ok) rfl (pmC pr9) ?_
   intro v60 G57 Ms59 hG57 q58
   refine match q58 with | ⟨e_62, hR61⟩ => ?_
   subst e_62
   refine W.perm (pmC pr9).symm (g9 4 ?_)
   refine W.sd 54 (fun h52 p52 => ?_) (fun h52 p52 => ?_)
   ·try dsimp only at p52
    refine g9 3 ?_
    refine W.call (Mp := Ms59) (bpused_fc hR61 hK6.ok) rfl (pmC pr9) ?_
    intro v66 G63 Ms65 hG63 q64
    refine match q64 with | ⟨e_68, hR67⟩ => ?_
    subst e_68
    refine W.perm (pmC pr9).symm (g9 4 ?_)
    refine W.sd 59 (fun h57 p57 => ?_) (fun h57 p57 => ?_)
    ·try dsimp only at p57
     refine g9 6 ?_
     refine W.sp 63 rfl (fun hb_K6 => ?_) (fun hb_K6 => ?_)
     ·refine g9 12 ?_
      exact congrArg Value.bool (decide_eq_true (show ((doT 4 2 ⟨5, S_99, Str.nil, false, Str.nil, 0⟩ (doT 4 2 ⟨3, S_98, Str.nil, false, Str.nil, 0⟩ (doT 4 2 ⟨3, S_97, Str.nil, false, Str.nil, 0⟩ (putsT 4 2 (([S_97, S_98, S_99] : List Str).take 3) (newT 9))).2).2).1.val).b = S_99.b by kernel_rfl))
     exact absurd (hb_K6.symm.trans (show (doT 4 2 ⟨5, S_99, Str.nil, false, Str.nil, 0⟩ (doT 4 2 ⟨3, S_98, Str.nil, false, Str.nil, 0⟩ (doT 4 2 ⟨3, S_97, Str.nil, false, Str.nil, 0⟩ (putsT 4 2 (([S_97, S_98, S_99] : List Str).take 3) (newT 9))).2).2).1.has = true by kernel_rfl)) (by decide)
    try dsimp only at p57
    exact absurd (show ((usedN (doT 4 2 ⟨5, S_99, Str.nil, false, Str.nil, 0⟩ (doT 4 2 ⟨3, S_98, Str.nil, false, Str.nil, 0⟩ (doT 4 2 ⟨3, S_97, Str.nil, false, Str.nil, 0⟩ (putsT 4 2 (([S_97, S_98, S_99] : List Str).take 3) (newT 9))).2).2).2.u).length : Int) = 1 by kernel_rfl) p57
   try dsimp only at p52
   exact absurd (show (((doT 4 2 ⟨5, S_99, Str.nil, false, Str.nil, 0⟩ (doT 4 2 ⟨3, S_98, Str.nil, false, Str.nil, 0⟩ (doT 4 2 ⟨3, S_97, Str.nil, false, Str.nil, 0⟩ (putsT 4 2 (([S_97, S_98, S_99] : List Str).take 3) (newT 9))).2).2).2.k : Int) + 1) = 1 by kernel_rfl) p52
  try dsimp only at p47
  exact absurd (show (((putsT 4 2 (([S_97, S_98, S_99] : List Str).take 3) (newT 9)).k : Int) + 1) = 2 by kernel_rfl) p47
 try dsimp only at p43
 exact absurd (show ((ndsN (putsT 4 2 (([S_97, S_98, S_99] : List Str).take 3) (newT 9))).length : Int) = 3 by kernel_rfl) p43

theorem seats17_fc {G : GH} {v_l : Value} {l : List Nd} (h_l : SlR eNode G v_l l) (i : Int) (hS : Sml l) :
    Fc Tryz.prog 48 [v_l, iV i] G [] (fun v G' M' => M' = [] ∧ ((∃ u ss, seatsN l i = some ss ∧ v = .tuple #[u, .bool true] ∧ SlR eSeat17 G' u ss ∧ QS l ss) ∨ (∃ u ss, seatsN l i = none ∧ v = .tuple #[u, .bool false] ∧ SlR eSeat17 G' u ss))) := by
 obtain ⟨sa_l, sc_l, rfl⟩ := h_l.form
 have hl := h_l.len47
 have hl100 := hS.1
 refine Fc.go [.tmp 4, .tmp 5] Tryz.func48 Tryz.ntmps48 rfl (fun w0 => (g9 10 ?_))
 refine W.cN (findnd_fc h_l _) rfl (fun _ _ _ _ _ _ _ _ G1 hG1 hp_hv2 hk_hv2 hm_hv2 hr_hv2 hok_hv2 => (g9 3 ?_))
 refine W.alloc zr58 (fun b7 => (g9 11 ?_))
 refine WC.cond rfl (fun h21 => ?_) (fun h21 => ?_)
 ·refine g9 9 ?_
  exact ⟨rfl, .inr ⟨_, [], seats_none (by simpa using h21), rfl, SlR.nil⟩⟩
 have hq0 := QOk.init (l := l) (root := i) (by simpa using h21)
 refine g9 5 ?_
 refine W.ok (ok_build (L := [sV _, sV _, .bool _]) pl74 zr74 rfl rfl rfl) (W.ok (ok_build (L := [iV _, iV _, lV _ _ _, lV _ _ _, sV _, .bool _, iV _, iV _, lV _ _ _, lV _ _ _, sV _, sV _, .bool _]) pl103 zr103 rfl rfl rfl) (W.litO (e := eSeat17) (l := [(rootS l i)]) (css := [[iV _, iV _, lV _ _ _, lV _ _ _, sV _, .bool _, iV _, iV _, lV _ _ _, lV _ _ _, sV _, sV _, .bool _]]) sl98 ty103 zr103 rfl rfl rfl rfl rfl rfl ⟨⟨_, _, _, _, _, _, _, _, rfl, hok_hv2, hp_hv2, hk_hv2, hm_hv2, hr_hv2⟩, trivial⟩ (fun v8 Ms9 ho10 => (W.perm (pmC pr9).symm (g9 5 ?_)))))
 refine WC.sub (sr9.cons _) (g9 5 ?_)
 refine WC.loop (X := (Nat × List Seat) × Value × MH) (fun x => [(9, nt9 x.1.1), (0, lV sa_l l.length sc_l), (8, x.2.1)]) (fun x G Ml => Ml = (x.2.2 ++ []) ∧ OwnR eSeat17 103 G x.2.1 (x.1.2) x.2.2 ∧ QOk l i x.1.1 x.1.2 ∧ QS l x.1.2) (fun x => l.length + 1 - x.1.1) (((0, [rootS l i]) : Nat × List Seat), v8, Ms9) hs9 ?_ ?_
 ·exact ⟨rfl, (by exact ho10), hq0, QS.init hS i⟩
 rintro ⟨⟨q, out⟩, v_8, M_8⟩ gG11 G11 _ hG11 ⟨rfl, ho_8, hq, hqs⟩
 try dsimp only at ho_8 hq hqs
 have hq1 := hq.le
 have hq2 := hq.len
 have hq3 := hq.pos
 refine WC.fr (f := setL gG11 [(9, nt9 q), (0, lV sa_l l.length sc_l), (8, v_8)]) rfl (g9 9 ?_)
 refine WC.cd (fun h29 p29 => ?_) (fun h29 p29 => ?_)
 ·refine g9 8 ?_
  have q15 := ho_8.at (i := q) om9
  refine match q15 with | ⟨_, he12, ⟨pa_t13, pc_t13, ka_t13, kc_t13, ma_t13, mc_t13, ra_t13, rc_t13, e_14, hok_t13, hp_t13, hk_t13, hm_t13, hr_t13⟩⟩ => ?_
  subst e_14
  obtain ⟨sx, hssx⟩ : ∃ y, y = ((out)[q]) := ⟨_, rfl⟩
  rw [← hssx] at he12 hp_t13 hk_t13 hm_t13 hr_t13 hok_t13
  refine W.ok (ok_indexAddrO (i := q) sl98 ty103 ho_8 rfl rfl ⟨om9, om9⟩) (W.ok (ok_loadO (vs := [iV _, iV _, lV _ _ _, lV _ _ _, sV _, .bool _, iV _, iV _, lV _ _ _, lV _ _ _, sV _, sV _, .bool _]) ty103 he12 pr9 rfl rfl rfl (by simp)) (W.alloc zr103 (fun b16 => (g9 13 ?_))))
  refine WC.cd (fun h40 p40 => ?_) (fun h40 p40 => ?_)
  ·refine g9 7 ?_
   refine WC.giveO ho_8 (pmC pr9) (fun G17 hG17 hv17 => (g9 8 ?_))
   exact ⟨rfl, .inr ⟨_, _, hq.long om9 om9, rfl, hv17⟩⟩
  refine g9 4 ?_
  obtain ⟨hlv1, hlv2⟩ := hok_t13.2.1
  have hsx := hqs q om9
  rw [← hssx] at hsx
  have hnd := hS.at hsx.nd
  have hnk : sx.n.kids.length ≤ 4000 := hnd.1
  refine g9 7 ?_
  refine WC.cd (fun h45 p45 => ?_) (fun h45 p45 => ?_)
  ·refine g9 8 ?_
   refine W.sub (sr9.cons _) (g9 2 ?_)
   exact ⟨Le.rfl, (((q + 1, out ++ []) : Nat × List Seat), v_8, M_8), hs9, ⟨rfl, (by rw [List.append_nil]; exact ho_8), hq.next om9 om9 (by rw [← hssx]; exact kidsO_0 p45), by dsimp only; rw [List.append_nil]; exact hqs⟩, by dsimp only; omega⟩
  refine g9 10 ?_
  refine W.sd 50 (fun h49 p49 => ?_) (fun h49 p49 => ?_)
  ·refine g9 19 ?_
   refine WC.giveO ho_8 (pmC pr9) (fun G18 hG18 hv18 => (g9 8 ?_))
   exact ⟨rfl, .inr ⟨_, _, hq.none om9 (by rw [← hssx]; exact kidsO_n p45 (.inl p49)), rfl, hv18⟩⟩
  refine g9 13 ?_
  refine W.qcall (rright_fc hp_t13 hk_t13) rfl (g9 5 ?_)
  refine WC.cond rfl (fun h58 => ?_) (fun h58 => ?_)
  ·refine g9 7 ?_
   refine WC.giveO ho_8 (pmC pr9) (fun G19 hG19 hv19 => (g9 8 ?_))
   exact ⟨rfl, .inr ⟨_, _, hq.none om9 (by rw [← hssx]; exact kidsO_n p45 (.inr (by simpa using h58))), rfl, hv19⟩⟩
  refine g9 8 ?_
  refine WC.loop (X := (Nat) × Value × MH) (fun j => [(11, nt9 j.1), (10, pt9 b16), (0, lV sa_l l.length sc_l), (9, nt9 q), (8, j.2.1)]) (fun j G Ml => Ml = ((b16, ce9 103 [iV sx.n.slot, iV sx.n.level, lV pa_t13 (sx.n.pivots).length pc_t13, lV ka_t13 (sx.n.kids).length kc_t13, sV sx.n.high.b, .bool sx.n.top, iV sx.n.right, iV sx.n.seen, lV ma_t13 (sx.n.msgs).length mc_t13, lV ra_t13 (sx.n.rows).length rc_t13, sV (sx.s).lo.b, sV (sx.s).hi.b, .bool (sx.s).opn]) :: (j.2.2 ++ [])) ∧ OwnR eSeat17 103 G j.2.1 (out ++ kidsF l sx j.1) j.2.2 ∧ j.1 ≤ sx.n.kids.length ∧ (∀ j2, j2 < j.1 → kidOk l sx j2 = true) ∧ QS l (out ++ kidsF l sx j.1)) (fun j => sx.n.kids.length - j.1) (0, v_8, M_8) hs9 ?_ ?_
  ·exact ⟨rfl, (by rw [show kidsF l sx 0 = [] from rfl, List.append_nil]; exact ho_8), om9, (fun j2 h => by omega), by rw [show kidsF l sx 0 = [] from rfl, List.append_nil]; exact hqs⟩
  rintro ⟨j, v_8, M_8⟩ gG20 G20 _ hG20 ⟨rfl, ho_8, hj, hjk, hqj⟩
  try dsimp only at ho_8 hj hjk hqj
  have hkl := kidsF_len l sx j
  refine WC.fr (f := setL gG20 [(11, nt9 j), (10, pt9 b16), (0, lV sa_l l.length sc_l), (9, nt9 q), (8, v_8)]) rfl (g9 11 ?_)
  refine WC.cd (fun h66 p66 => ?_) (fun h66 p66 => ?_)
  ·refine g9 11 ?_
   refine (hk_t13.mono hG20).a2 (i := j) om9 (fun he21 hi22 => (g9 2 ?_))
   refine W.cN (findnd_fc (h_l.mono lec) (sx.n.kids[j]'om9)) rfl (fun _ _ _ _ _ _ _ _ G25 hG25 hp_hv26 hk_hv26 hm_hv26 hr_hv26 hok_hv26 => (g9 3 ?_))
   refine W.alloc zr58 (fun b31 => (g9 10 ?_))
   refine W.sp 82 rfl (fun h81 => ?_) (fun h81 => ?_)
   ·refine g9 18 ?_
    refine WC.giveO (ho_8.mono hG25) (pmC (pmC pr9)) (fun G32 hG32 hv32 => (g9 12 ?_))
    exact ⟨rfl, .inr ⟨_, _, hq.none om9 (by rw [← hssx]; exact kidsO_f (j := j) p45 om9 (kidOk_a om9 (by simpa using h81))), rfl, hv32⟩⟩
   refine g9 17 ?_
   refine WC.cn (fun h89 p89 => ?_) (fun h89 p89 => ?_)
   ·refine g9 7 ?_
    refine WC.giveO (ho_8.mono hG25) (pmC (pmC pr9)) (fun G33 hG33 hv33 => (g9 12 ?_))
    exact ⟨rfl, .inr ⟨_, _, hq.none om9 (by rw [← hssx]; exact kidsO_f (j := j) p45 om9 (kidOk_b om9 p89)), rfl, hv33⟩⟩
   refine g9 2 ?_
   refine WC.dw (sn9.k9.k9) (d9 [0, 1, 2, 3, 4, 5, 6, 7] ?_)
   refine WD.a1 8 rfl (W.qcall (rrange_fc (hp_t13.mono lec) _ ⟨om9, om9⟩) rfl (W.nn (WD.a1 9 rfl (W.qcall (rmeet_fc _ _ _ _ _ _) rfl (W.nn (WD.tk 10 rfl (ok_build (L := [iV _, iV _, lV _ _ _, lV _ _ _, sV _, .bool _, iV _, iV _, lV _ _ _, lV _ _ _, sV _, sV _, .bool _]) pl103 zr103 rfl rfl rfl) (WD.a1 11 rfl (W.lit (e := eSeat17) (l := [(kidSt l sx j)]) (css := [[iV _, iV _, lV _ _ _, lV _ _ _, sV _, .bool _, iV _, iV _, lV _ _ _, lV _ _ _, sV _, sV _, .bool _]]) sl98 ty103 zr103 rfl rfl rfl rfl rfl rfl ⟨kid_rel17 (ms := []) om9 ⟨_, _, _, _, _, _, _, _, rfl, hok_hv26, hp_hv26, hk_hv26, hm_hv26, hr_hv26⟩, trivial⟩ (fun bl34 G34 hG34 hv34 => (W.nn (WD.a1 12 rfl (W.app (e := eSeat17) sl98 ty103 zr103 rfl by103 rfl rfl ((ho_8.mono lec)) (hv34) (pmC (pmC pr9)) (by show (List.length _ + 1) * 192 ≤ _; rw [List.length_append]; omega) (fun v35 Ms36 ho37 => (W.perm (pmC (pmC pr9)).symm (W.nn ?_)))))))))))))))
   refine d9 [13] ?_
   refine WD.done (by kernel_rfl) (blk_n (thn_n (g9 4 ?_)))
   refine W.sub (sr9.cons _) (g9 2 ?_)
   exact ⟨lec, (j + 1, v35, Ms36), hs9, ⟨rfl, (by have h0 := ho37; rw [kidsF_succ, ← List.append_assoc]; exact h0), om9, kidOk_all om9 hjk (by simpa using h81) p89, (by rw [kidsF_succ, ← List.append_assoc]; exact hqj.snoc hS hsx (by rw [List.length_append]; omega) j)⟩, om9⟩
  refine g9 10 ?_
  refine W.sub (sr9.cons _) (g9 2 ?_)
  exact ⟨hG20, (((q + 1, out ++ kidsF l sx sx.n.kids.length) : Nat × List Seat), v_8, M_8), hs9, ⟨rfl, (by have h0 := ho_8; rw [show j = sx.n.kids.length by omega] at h0; exact h0), hq.next om9 om9 (by rw [← hssx]; exact kidsO_t p45 p49 (by simpa using h58) (fun j2 h2 => hjk j2 om9)), by dsimp only; rw [show sx.n.kids.length = j by omega]; exact hqj⟩, by dsimp only; omega⟩
 refine g9 12 ?_
 refine WC.giveO ho_8 pr9 (fun G38 hG38 hv38 => (g9 2 ?_))
 exact ⟨rfl, .inl ⟨_, _, hq.done om9, rfl, hv38, hqs⟩⟩

theorem once17_fc {G : GH} {v_l : Value} {l : List Nd} (h_l : SlR eNode G v_l l) {v_ss : Value} {ss : List Seat} (h_ss : SlR eSeat17 G v_ss ss) :
    Fc Tryz.prog 49 [v_l, v_ss] G [] (fun v _ _ => v = .bool (decide (OnceP l ss))) := by
 obtain ⟨sa_l, sc_l, rfl⟩ := h_l.form
 obtain ⟨sa_ss, sc_ss, rfl⟩ := h_ss.form
 have hl := h_l.len47
 have hl2 := h_ss.len47
 refine Fc.go [.tmp 4] Tryz.func49 Tryz.ntmps49 rfl (fun w0 => (g9 15 ?_))
 refine WC.cn (fun h12 p12 => ?_) (fun h12 p12 => ?_)
 ·refine g9 8 ?_
  refine congrArg Value.bool ?_
  exact (decide_eq_false fun h => by have := h.1; omega).symm
 refine g9 9 ?_
 refine WC.loop (X := Nat) (fun i => [(5, nt9 i), (0, lV sa_l l.length sc_l), (1, lV sa_ss ss.length sc_ss)]) (fun i _ Ml => Ml = [] ∧ i ≤ l.length ∧ ∀ j (h : j < l.length), j < i → (slotS ss l[j].slot).length = 1) (fun i => l.length - i) 0 hs9 ?_ ?_
 ·exact ⟨rfl, om9, fun j _ h => by omega⟩
 rintro i gG39 G39 _ hG39 ⟨rfl, hi, hi2⟩
 refine g9 9 ?_
 refine WC.cd (fun h16 p16 => ?_) (fun h16 p16 => ?_)
 ·refine g9 16 ?_
  refine WC.loop (X := Nat) (fun j => [(6, nt9 ((slotS (ss.take j) (l[i]'om9).slot).length)), (7, nt9 j), (0, lV sa_l l.length sc_l), (1, lV sa_ss ss.length sc_ss), (5, nt9 i)]) (fun j _ Ml => Ml = [] ∧ j ≤ ss.length) (fun j => ss.length - j) 0 hs9 ?_ ?_
  ·exact ⟨rfl, om9⟩
  rintro j gG40 G40 _ hG40 ⟨rfl, hj⟩
  have hsl := slotS_len ss (l[i]'om9).slot j
  refine g9 9 ?_
  refine WC.cd (fun h22 p22 => ?_) (fun h22 p22 => ?_)
  ·refine g9 8 ?_
   have q44 := (h_ss.mono (hG39.trans hG40)).at (i := j) om9
   refine match q44 with | ⟨_, he41, ⟨_, _, _, _, _, _, _, _, e_43, hok_t42, hp_t42, hk_t42, hm_t42, hr_t42⟩⟩ => ?_
   subst e_43
   refine g9 6 ?_
   refine (h_l.mono (hG39.trans hG40)).aN (i := i) om9 (fun _ _ _ _ _ _ _ _ he45 hp_n46 hk_n46 hm_n46 hr_n46 hok_n46 => (g9 6 ?_))
   refine WC.cd (fun h36 p36 => ?_) (fun h36 p36 => ?_)
   ·refine g9 13 ?_
    exact ⟨Le.rfl, j + 1, ⟨(congrArg (fun n : Nat => Value.int .i64 (n : Int)) (by rw [slotS_t om9 p36]; simp)), eqv, eqv, eqv, eqv, trivial⟩, ⟨rfl, om9⟩, om9⟩
   refine g9 9 ?_
   exact ⟨Le.rfl, j + 1, ⟨(congrArg (fun n : Nat => Value.int .i64 (n : Int)) (by rw [slotS_f om9 p36])), eqv, eqv, eqv, eqv, trivial⟩, ⟨rfl, om9⟩, om9⟩
  refine g9 11 ?_
  refine WC.cn (fun h40 p40 => ?_) (fun h40 p40 => ?_)
  ·refine g9 12 ?_
   refine congrArg Value.bool ?_
   exact (decide_eq_false fun h => (by have h0 := h.2 i om9; have h1 := p40; rw [List.take_of_length_le om9] at h1; omega)).symm
  refine g9 9 ?_
  exact ⟨hG40, i + 1, hs9, ⟨rfl, om9, fun j h hj => by
      by_cases e : j = i
      · subst e; have h0 := p40; rw [List.take_of_length_le om9] at h0; omega
      · exact hi2 j h om9⟩, om9⟩
 refine g9 12 ?_
 refine congrArg Value.bool ?_
 exact (decide_eq_true ⟨om9, fun j h => hi2 j h om9⟩).symm

theorem leaf17_fc {G : GH} {cs_x : List Value} {x : Seat} (h_x : SeatC17 G cs_x x) (least : Int) (most : Int) :
    Fc Tryz.prog 50 [.agg (List.toArray cs_x), iV least, iV most] G [] (fun v _ _ => v = .bool (decide (Leaf17 x least most))) := by
 obtain ⟨pa_x, pc_x, ka_x, kc_x, ma_x, mc_x, ra_x, rc_x, rfl, hok_x, hp_x, hk_x, hm_x, hr_x⟩ := h_x
 have h1 := hp_x.len47
 have h2 := hk_x.len47
 have h3 := hr_x.len47
 refine Fc.go [.tmp 6] Tryz.func50 Tryz.ntmps50 rfl (fun w0 => (g9 2 ?_))
 refine W.box (L := [iV _, iV _, lV _ _ _, lV _ _ _, sV _, .bool _, iV _, iV _, lV _ _ _, lV _ _ _, sV _, sV _, .bool _]) rfl rfl (fun b49 => (g9 17 ?_))
 refine W.sd 18 (fun h17 p17 => ?_) (fun h17 p17 => ?_)
 ·refine g9 33 ?_
  refine congrArg Value.bool ?_
  exact (decide_eq_false fun h => by have := h.1.1; omega).symm
 refine g9 14 ?_
 refine W.sd 26 (fun h24 p24 => ?_) (fun h24 p24 => ?_)
 ·refine g9 25 ?_
  refine congrArg Value.bool ?_
  exact (decide_eq_false fun h => by have := h.1.2.1; omega).symm
 refine g9 14 ?_
 refine W.sd 34 (fun h32 p32 => ?_) (fun h32 p32 => ?_)
 ·refine g9 17 ?_
  refine congrArg Value.bool ?_
  exact (decide_eq_false fun h => by have := h.1.2.2; omega).symm
 refine g9 7 ?_
 refine W.qcall (rightp_fc hr_x) rfl (g9 5 ?_)
 refine WC.cond rfl (fun h39 => ?_) (fun h39 => ?_)
 ·refine g9 8 ?_
  refine congrArg Value.bool ?_
  exact (decide_eq_false fun h => by have h1 := h.2.1; simp [h1] at h39).symm
 refine g9 9 ?_
 refine WC.loop (X := Nat) (fun k => [(7, nt9 k), (3, pt9 b49)]) (fun k _ Ml => Ml = [(b49, ce9 103 [iV x.n.slot, iV x.n.level, lV pa_x (x.n.pivots).length pc_x, lV ka_x (x.n.kids).length kc_x, sV x.n.high.b, .bool x.n.top, iV x.n.right, iV x.n.seen, lV ma_x (x.n.msgs).length mc_x, lV ra_x (x.n.rows).length rc_x, sV (x.s).lo.b, sV (x.s).hi.b, .bool (x.s).opn])] ∧ ∀ i (h : i < x.n.rows.length), i < k → x.s.has x.n.rows[i].key = true) (fun k => x.n.rows.length - k) 0 hs9 ?_ ?_
 ·exact ⟨rfl, fun i _ h => by omega⟩
 rintro k gG50 G50 _ hG50 ⟨rfl, hk1⟩
 refine g9 11 ?_
 refine WC.cond rfl (fun h46 => ?_) (fun h46 => ?_)
 ·have p46 := odt h46
  refine g9 12 ?_
  refine (hr_x.mono hG50).a1 (i := k) om9 (fun he51 => (g9 3 ?_))
  refine W.qcall (has_fc _ _ _ _) rfl (g9 3 ?_)
  refine WC.cond rfl (fun h59 => ?_) (fun h59 => ?_)
  ·refine g9 12 ?_
   refine congrArg Value.bool ?_
   exact (decide_eq_false fun h => by have h1 := h.2.2 k om9; rw [h1] at h59; simp at h59).symm
  refine g9 9 ?_
  exact ⟨Le.rfl, k + 1, hs9, ⟨rfl, fun i h hi => by
      by_cases e : i = k
      · subst e; simpa using h59
      · exact hk1 i h om9⟩, om9⟩
 have p46 := odf h46
 refine g9 12 ?_
 refine congrArg Value.bool ?_
 exact (decide_eq_true ⟨⟨om9, om9, om9⟩, by simpa using h39, fun i h => hk1 i h om9⟩).symm

theorem inner17_fc {G : GH} {cs_x : List Value} {x : Seat} (h_x : SeatC17 G cs_x x) (least : Int) (most : Int) :
    Fc Tryz.prog 51 [.agg (List.toArray cs_x), iV least, iV most] G [] (fun v _ _ => v = .bool (decide (Inner17 x least most))) := by
 obtain ⟨pa_x, pc_x, ka_x, kc_x, ma_x, mc_x, ra_x, rc_x, rfl, hok_x, hp_x, hk_x, hm_x, hr_x⟩ := h_x
 have h1 := hp_x.len47
 have h2 := hk_x.len47
 have h3 := hr_x.len47
 refine Fc.go [.tmp 6] Tryz.func51 Tryz.ntmps51 rfl (fun w0 => (g9 2 ?_))
 refine W.box (L := [iV _, iV _, lV _ _ _, lV _ _ _, sV _, .bool _, iV _, iV _, lV _ _ _, lV _ _ _, sV _, sV _, .bool _]) rfl rfl (fun b54 => (g9 12 ?_))
 refine W.sd 13 (fun h12 p12 => ?_) (fun h12 p12 => ?_)
 ·refine g9 26 ?_
  refine congrArg Value.bool ?_
  exact (decide_eq_false fun h => by have := h.1.1; omega).symm
 refine g9 14 ?_
 refine W.sd 21 (fun h19 p19 => ?_) (fun h19 p19 => ?_)
 ·refine g9 18 ?_
  refine congrArg Value.bool ?_
  exact (decide_eq_false fun h => by have := h.1.2.1; omega).symm
 refine g9 15 ?_
 refine WC.cd (fun h27 p27 => ?_) (fun h27 p27 => ?_)
 ·refine g9 8 ?_
  refine congrArg Value.bool ?_
  exact (decide_eq_false fun h => by have := h.1.2.2; omega).symm
 refine g9 9 ?_
 refine WC.loop (X := Nat) (fun k => [(7, nt9 k), (3, pt9 b54)]) (fun k _ Ml => Ml = [(b54, ce9 103 [iV x.n.slot, iV x.n.level, lV pa_x (x.n.pivots).length pc_x, lV ka_x (x.n.kids).length kc_x, sV x.n.high.b, .bool x.n.top, iV x.n.right, iV x.n.seen, lV ma_x (x.n.msgs).length mc_x, lV ra_x (x.n.rows).length rc_x, sV (x.s).lo.b, sV (x.s).hi.b, .bool (x.s).opn])] ∧ ∀ i (h : i < x.n.pivots.length), i < k → x.s.has x.n.pivots[i] = true ∧ x.n.pivots[i] ≠ x.s.lo) (fun k => x.n.pivots.length - k) 0 hs9 ?_ ?_
 ·exact ⟨rfl, fun i _ h => by omega⟩
 rintro k gG55 G55 _ hG55 ⟨rfl, hk1⟩
 refine g9 11 ?_
 refine WC.cd (fun h34 p34 => ?_) (fun h34 p34 => ?_)
 ·refine g9 12 ?_
  refine (hp_x.mono hG55).a1 (i := k) om9 (fun he56 => (g9 2 ?_))
  refine W.qcall (has_fc _ _ _ _) rfl (g9 2 ?_)
  refine W.sp 47 rfl (fun h46 => ?_) (fun h46 => ?_)
  ·refine g9 26 ?_
   refine congrArg Value.bool ?_
   exact (decide_eq_false fun h => by have h1 := (h.2 k om9).1; rw [h1] at h46; simp at h46).symm
  refine g9 9 ?_
  refine (hp_x.mono hG55).a1 (i := k) om9 (fun he59 => (g9 14 ?_))
  refine WC.cd (fun h57 p57 => ?_) (fun h57 p57 => ?_)
  ·refine g9 12 ?_
   refine congrArg Value.bool ?_
   exact (decide_eq_false fun h => by have h1 := (h.2 k om9).2; exact h1 (Str.ext' p57)).symm
  refine g9 9 ?_
  exact ⟨Le.rfl, k + 1, hs9, ⟨rfl, fun i h hi => by
      by_cases e : i = k
      · subst e; exact ⟨by simpa using h46, fun e => p57 (congrArg Str.b e)⟩
      · exact hk1 i h om9⟩, om9⟩
 refine g9 12 ?_
 refine congrArg Value.bool ?_
 exact (decide_eq_true ⟨⟨om9, om9, om9⟩, fun i h => hk1 i h om9⟩).symm

theorem sound17_fc {G : GH} (cfan : Int) (cleaf : Int) (cbud : Int) (cslots : Int) (crest : Int) (root : Int) {v_l : Value} {l : List Nd} (h_l : SlR eNode G v_l l) (hS : Sml l) (hi1 : i64 cfan) (hi2_ : i64 cleaf) :
    Fc Tryz.prog 19 [.agg #[iV cfan, iV cleaf, iV cbud, iV cslots, iV crest], iV root, v_l] G [] (fun v _ _ => v = .bool (sound17 (⟨cfan, cleaf, cbud, cslots, crest⟩ : Cfg) root l)) := by
 obtain ⟨sa_l, sc_l, rfl⟩ := h_l.form
 have hl := h_l.len47
 have hl100 := hS.1
 refine Fc.go [.tmp 6] Tryz.func19 Tryz.ntmps19 rfl (fun w0 => (g9 2 ?_))
 refine W.box (L := [iV _, iV _, iV _, iV _, iV _]) rfl rfl (fun b62 => (g9 7 ?_))
 refine W.call (Mp := []) (seats17_fc h_l root (by assumption)) rfl pr9 ?_
 intro v65 G63 _ hG63 q64
 have q66 := q64.1
 subst q66
 have q67 := q64.2
 refine Or.elim q67 (fun q68 => ?_) (fun q69 => ?_)
 ·refine match q68 with | ⟨u_s70, ss, hss, e_71, hv_s70, hqs⟩ => ?_
  subst e_71
  have q73 := hv_s70.form
  refine match q73 with | ⟨sa_s70, sc_s70, e_72⟩ => ?_
  subst e_72
  have hss47 := hv_s70.len47
  refine g9 18 ?_
  refine W.qcall (once17_fc (h_l.mono hG63) hv_s70) rfl (g9 5 ?_)
  refine WC.cond rfl (fun h25 => ?_) (fun h25 => ?_)
  ·refine g9 8 ?_
   refine congrArg Value.bool ?_
   rw [sound17_t hss]
   exact (decide_eq_false fun h => by have h1 := h.1; simp [h1] at h25).symm
  refine g9 9 ?_
  refine WC.loop (X := Nat) (fun i => [(9, nt9 i), (3, pt9 b62), (7, lV sa_s70 ss.length sc_s70)]) (fun i _ Ml => Ml = [(b62, ce9 26 [iV cfan, iV cleaf, iV cbud, iV cslots, iV crest])] ∧ i ≤ ss.length ∧ ∀ j (h : j < ss.length), j < i → Seat17 (⟨cfan, cleaf, cbud, cslots, crest⟩ : Cfg) (decide (j = 0)) ss[j]) (fun i => ss.length - i) 0 hs9 ?_ ?_
  ·exact ⟨rfl, om9, fun j _ h => by omega⟩
  rintro i gG74 G74 _ hG74 ⟨rfl, hi, hi2⟩
  refine g9 9 ?_
  refine WC.cd (fun h30 p30 => ?_) (fun h30 p30 => ?_)
  ·try dsimp only at p30
   refine g9 8 ?_
   have q78 := (hv_s70.mono hG74).at (i := i) om9
   refine match q78 with | ⟨_, he75, ⟨_, _, _, _, _, _, _, _, e_77, hok_t76, hp_t76, hk_t76, hm_t76, hr_t76⟩⟩ => ?_
   subst e_77
   obtain ⟨sx, hssx⟩ : ∃ y, y = ((ss)[i]) := ⟨_, rfl⟩
   rw [← hssx] at he75 hp_t76 hk_t76 hm_t76 hr_t76 hok_t76
   refine g9 2 ?_
   refine W.alloc zr103 (fun b79 => (g9 7 ?_))
   refine W.ok (ok_quo rfl rfl (by decide) (tdiv2 hi2_)) (g9 2 ?_)
   refine W.ok (ok_quo rfl rfl (by decide) (tdiv2 hi1)) (g9 11 ?_)
   refine WC.cd (fun h44 p44 => ?_) (fun h44 p44 => ?_)
   ·try dsimp only at p44
    have hsq : Seat17 (⟨cfan, cleaf, cbud, cslots, crest⟩ : Cfg) (decide (i = 0)) ss[i] ↔ Seat17 (⟨cfan, cleaf, cbud, cslots, crest⟩ : Cfg) true sx := by rw [← hssx, decide_eq_true om9]
    refine g9 12 ?_
    refine W.sp 49 rfl (fun h48 => ?_) (fun h48 => ?_)
    ·have p48 := odt h48
     try dsimp only at p48
     refine g9 9 ?_
     refine W.qcall (leaf17_fc ⟨_, _, _, _, _, _, _, _, rfl, hok_t76, hp_t76, hk_t76, hm_t76, hr_t76⟩ 0 cleaf) rfl (g9 4 ?_)
     refine W.sp 57 rfl (fun h55 => ?_) (fun h55 => ?_)
     ·refine g9 28 ?_
      refine congrArg Value.bool ?_
      rw [sound17_t hss]
      exact (decide_eq_false fun h => by have h1 : Leaf17 sx 0 cleaf := (seat17_l p48).1 (hsq.1 (h.2 i om9)); simp [h1] at h55).symm
     refine g9 10 ?_
     refine W.sm 62 (fun h61 p61 => ?_) (fun h61 p61 => ?_)
     ·try dsimp only at p61
      exact absurd p48 p61
     try dsimp only at p61
     refine g9 19 ?_
     refine W.sub (sr9.cons _) (g9 2 ?_)
     exact ⟨Le.rfl, i + 1, hs9, ⟨rfl, om9, fun j2 h hj2 => by
      by_cases e : j2 = i
      · subst e; exact hsq.2 ((seat17_l p48).2 (by simpa using h55))
      · exact hi2 j2 h om9⟩, om9⟩
    have p48 := odf h48
    try dsimp only at p48
    refine g9 18 ?_
    refine W.sp 62 rfl (fun h61 => ?_) (fun h61 => ?_)
    ·have p61 := nd_t h61
     try dsimp only at p61
     refine g9 9 ?_
     refine W.qcall (inner17_fc ⟨_, _, _, _, _, _, _, _, rfl, hok_t76, hp_t76, hk_t76, hm_t76, hr_t76⟩ 2 cfan) rfl (g9 7 ?_)
     refine WC.cond rfl (fun h68 => ?_) (fun h68 => ?_)
     ·refine g9 12 ?_
      refine congrArg Value.bool ?_
      rw [sound17_t hss]
      exact (decide_eq_false fun h => by have h1 : Inner17 sx 2 cfan := (seat17_i p48).1 (hsq.1 (h.2 i om9)); simp [h1] at h68).symm
     refine g9 7 ?_
     refine W.sub (sr9.cons _) (g9 2 ?_)
     exact ⟨Le.rfl, i + 1, hs9, ⟨rfl, om9, fun j2 h hj2 => by
      by_cases e : j2 = i
      · subst e; exact hsq.2 ((seat17_i p48).2 (by simpa using h68))
      · exact hi2 j2 h om9⟩, om9⟩
    have p61 := nd_f h61
    try dsimp only at p61
    exact absurd p61 p48
   try dsimp only at p44
   have hsq : Seat17 (⟨cfan, cleaf, cbud, cslots, crest⟩ : Cfg) (decide (i = 0)) ss[i] ↔ Seat17 (⟨cfan, cleaf, cbud, cslots, crest⟩ : Cfg) false sx := by rw [← hssx, decide_eq_false om9]
   refine g9 9 ?_
   refine W.sp 49 rfl (fun h48 => ?_) (fun h48 => ?_)
   ·have p48 := odt h48
    try dsimp only at p48
    refine g9 9 ?_
    refine W.qcall (leaf17_fc ⟨_, _, _, _, _, _, _, _, rfl, hok_t76, hp_t76, hk_t76, hm_t76, hr_t76⟩ (cleaf.tdiv 2) cleaf) rfl (g9 4 ?_)
    refine W.sp 57 rfl (fun h55 => ?_) (fun h55 => ?_)
    ·refine g9 28 ?_
     refine congrArg Value.bool ?_
     rw [sound17_t hss]
     exact (decide_eq_false fun h => by have h1 : Leaf17 sx (cleaf.tdiv 2) cleaf := (seat17_l p48).1 (hsq.1 (h.2 i om9)); simp [h1] at h55).symm
    refine g9 10 ?_
    refine W.sm 62 (fun h61 p61 => ?_) (fun h61 p61 => ?_)
    ·try dsimp only at p61
     exact absurd p48 p61
    try dsimp only at p61
    refine g9 19 ?_
    refine W.sub (sr9.cons _) (g9 2 ?_)
    exact ⟨Le.rfl, i + 1, hs9, ⟨rfl, om9, fun j2 h hj2 => by
      by_cases e : j2 = i
      · subst e; exact hsq.2 ((seat17_l p48).2 (by simpa using h55))
      · exact hi2 j2 h om9⟩, om9⟩
   have p48 := odf h48
   try dsimp only at p48
   refine g9 18 ?_
   refine W.sp 62 rfl (fun h61 => ?_) (fun h61 => ?_)
   ·have p61 := nd_t h61
    try dsimp only at p61
    refine g9 9 ?_
    refine W.qcall (inner17_fc ⟨_, _, _, _, _, _, _, _, rfl, hok_t76, hp_t76, hk_t76, hm_t76, hr_t76⟩ (cfan.tdiv 2) cfan) rfl (g9 7 ?_)
    refine WC.cond rfl (fun h68 => ?_) (fun h68 => ?_)
    ·refine g9 12 ?_
     refine congrArg Value.bool ?_
     rw [sound17_t hss]
     exact (decide_eq_false fun h => by have h1 : Inner17 sx (cfan.tdiv 2) cfan := (seat17_i p48).1 (hsq.1 (h.2 i om9)); simp [h1] at h68).symm
    refine g9 7 ?_
    refine W.sub (sr9.cons _) (g9 2 ?_)
    exact ⟨Le.rfl, i + 1, hs9, ⟨rfl, om9, fun j2 h hj2 => by
      by_cases e : j2 = i
      · subst e; exact hsq.2 ((seat17_i p48).2 (by simpa using h68))
      · exact hi2 j2 h om9⟩, om9⟩
   have p61 := nd_f h61
   try dsimp only at p61
   exact absurd p61 p48
  try dsimp only at p30
  refine g9 12 ?_
  refine congrArg Value.bool ?_
  rw [sound17_t hss]
  exact (decide_eq_true ⟨by simpa using h25, fun j h => hi2 j h om9⟩).symm
 refine match q69 with | ⟨u_s80, sxs80, hsn, e_81, hv_s80⟩ => ?_
 subst e_81
 refine g9 29 ?_
 refine congrArg Value.bool ?_
 exact (sound17_f hsn).symm

end Go.Proofs.YtemoalimclnfkaaGreat
