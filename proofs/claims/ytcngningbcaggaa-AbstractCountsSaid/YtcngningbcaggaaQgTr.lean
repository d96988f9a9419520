/- The law AbstractCounts is walked. -/
import Derived.Test.YtcngningbcaggaaQgTq
import Derived.Test.YtcngningbcaggaaQgQd
import Derived.Test.YtcngningbcaggaaQgNs
import Derived.Test.YtcngningbcaggaaQgA42
set_option maxRecDepth 100000
set_option maxHeartbeats 1600000
set_option linter.unusedVariables false
set_option linter.unusedSimpArgs false
set_option linter.unnecessarySimpa false
namespace Go.Proofs.Ytcngningbcaggaa
open Go Go.Fw Go.RowKit
attribute [local irreducible] Ok W WC
theorem bysl_fc {G : GH} {v_l : Value} {l : List Nd} (h_l : SlR eNode G v_l l) :
    Fc Try.prog 52 [v_l] G [] (fun v G' M' => M' = [] ∧ MpG vNode G' v (bySl l)) := by
 obtain ⟨sa_l, sc_l, rfl⟩ := h_l.form
 have hl := h_l.len47
 refine Fc.go [.tmp 2] Try.func52 Try.ntmps52 rfl (fun w0 => (g9 7 ?_))
 refine W.makeMap (V := vNode) (fun bm1 hm2 => (g9 12 ?_))
 refine WC.loop (X := (Nat) × MH) (fun i => [(9, nt9 i.1), (7, lV sa_l l.length sc_l), (8, nt9 ((l).length)), (3, .map (some bm1))]) (fun i G Ml => Ml = (i.2 ++ []) ∧ MpR vNode bm1 G (bySl (l.take i.1)) i.2 ∧ i.1 ≤ l.length) (fun i => l.length - i.1) (0, [(bm1, Obj.map #[] 0)]) hs9 ?_ ?_
 ·exact ⟨rfl, (by exact hm2), om9⟩
 rintro ⟨i, M_3⟩ gG3 G3 _ hG3 ⟨rfl, ho_3, hi⟩
 try dsimp only at ho_3 hi
 refine WC.fr (f := setL gG3 [(9, nt9 i), (7, lV sa_l l.length sc_l), (8, nt9 ((l).length)), (3, .map (some bm1))]) rfl (g9 6 ?_)
 refine WC.cd (fun h10 p10 => ?_) (fun h10 p10 => ?_)
 ·refine g9 6 ?_
  refine (h_l.mono hG3).aN (i := i) om9 (fun _ _ _ _ _ _ _ _ he4 hp_n5 hk_n5 hm_n5 hr_n5 hok_n5 => (g9 2 ?_))
  refine W.alloc zr35 (fun b8 => (g9 8 ?_))
  refine W.mapUp (V := vNode) (k := ((l)[i]).slot) mk71 rfl rfl rfl ho_3 (pmC pr9) ⟨_, rfl, (nk9 hp_n5 hk_n5 hm_n5 hr_n5 hok_n5)⟩ (fun Ms9 hm10 => (W.perm (pmC pr9).symm (g9 6 ?_)))
  refine W.sub (sr9.cons _) (g9 2 ?_)
  exact ⟨Le.rfl, (i + 1, Ms9), hs9, ⟨rfl, (by have h := hm10; rw [← bySl_succ om9] at h; exact h), om9⟩, om9⟩
 refine g9 6 ?_
 have hob := ho_3
 rw [List.take_of_length_le om9] at hob
 refine WC.giveMap hob pr9 (fun G11 hG11 hvG11 => (g9 7 ?_))
 exact ⟨rfl, hvG11⟩

theorem light_fc {G : GH} {v_l : Value} {l : List Nd} (h_l : SlR eNode G v_l l) (n : Int) (m : Int) (hm : 0 ≤ m ∧ m ≤ 1073741824) :
    Fc Try.prog 18 [v_l, iV n, iV m] G [] (fun v _ _ => v = .bool (decide (Light l n m))) := by
 obtain ⟨sa_l, sc_l, rfl⟩ := h_l.form
 have hl := h_l.len47
 refine Fc.go [.tmp 6] Try.func18 Try.ntmps18 rfl (fun w0 => (g9 14 ?_))
 refine WC.cd (fun h11 p11 => ?_) (fun h11 p11 => ?_)
 ·refine g9 8 ?_
  refine congrArg Value.bool ?_
  exact (decide_eq_false fun h => by have := h.1; omega).symm
 refine g9 9 ?_
 refine WC.loop (X := Nat) (fun k => [(7, nt9 k), (0, lV sa_l l.length sc_l), (1, iV n), (2, iV m)]) (fun k _ Ml => Ml = [] ∧ ∀ i (h : i < l.length), i < k → l[i].light m) (fun k => l.length - k) 0 hs9 ?_ ?_
 ·exact ⟨rfl, fun i _ h => by omega⟩
 rintro k gG12 G12 _ hG12 ⟨rfl, hk⟩
 refine g9 9 ?_
 refine WC.cd (fun h15 p15 => ?_) (fun h15 p15 => ?_)
 ·refine g9 8 ?_
  refine (h_l.mono hG12).aN (i := k) om9 (fun _ _ _ _ _ _ _ _ he13 hp_n14 hk_n14 hm_n14 hr_n14 hok_n14 => (g9 4 ?_))
  refine W.qcall (longp_fc hr_n14 _ om9) rfl (g9 2 ?_)
  refine W.sp 26 rfl (fun h25 => ?_) (fun h25 => ?_)
  ·refine g9 55 ?_
   refine congrArg Value.bool ?_
   exact (decide_eq_false fun h => by obtain ⟨q1, q2, q3, q4, q5⟩ := h.2 k om9; first | omega | (simp at h25; omega) | (simp at h55; omega)).symm
  refine g9 5 ?_
  refine (h_l.mono hG12).aN (i := k) om9 (fun _ _ _ _ _ _ _ _ he17 hp_n18 hk_n18 hm_n18 hr_n18 hok_n18 => (g9 8 ?_))
  refine W.qcall (rlong_fc hp_n18 _ om9) rfl (g9 6 ?_)
  refine W.sd 37 (fun h35 p35 => ?_) (fun h35 p35 => ?_)
  ·refine g9 44 ?_
   refine congrArg Value.bool ?_
   exact (decide_eq_false fun h => by obtain ⟨q1, q2, q3, q4, q5⟩ := h.2 k om9; first | omega | (simp at h25; omega) | (simp at h55; omega)).symm
  refine g9 5 ?_
  refine (h_l.mono hG12).aN (i := k) om9 (fun _ _ _ _ _ _ _ _ he21 hp_n22 hk_n22 hm_n22 hr_n22 hok_n22 => (g9 13 ?_))
  refine W.sd 47 (fun h45 p45 => ?_) (fun h45 p45 => ?_)
  ·refine g9 34 ?_
   refine congrArg Value.bool ?_
   exact (decide_eq_false fun h => by obtain ⟨q1, q2, q3, q4, q5⟩ := h.2 k om9; first | omega | (simp at h25; omega) | (simp at h55; omega)).symm
  refine g9 5 ?_
  refine (h_l.mono hG12).aN (i := k) om9 (fun _ _ _ _ _ _ _ _ he25 hp_n26 hk_n26 hm_n26 hr_n26 hok_n26 => (g9 8 ?_))
  refine W.qcall (few_fc hm_n26 _ om9) rfl (g9 4 ?_)
  refine W.sp 57 rfl (fun h55 => ?_) (fun h55 => ?_)
  ·refine g9 24 ?_
   refine congrArg Value.bool ?_
   exact (decide_eq_false fun h => by obtain ⟨q1, q2, q3, q4, q5⟩ := h.2 k om9; first | omega | (simp at h25; omega) | (simp at h55; omega)).symm
  refine g9 5 ?_
  refine (h_l.mono hG12).aN (i := k) om9 (fun _ _ _ _ _ _ _ _ he29 hp_n30 hk_n30 hm_n30 hr_n30 hok_n30 => (g9 14 ?_))
  refine WC.cd (fun h65 p65 => ?_) (fun h65 p65 => ?_)
  ·refine g9 12 ?_
   refine congrArg Value.bool ?_
   exact (decide_eq_false fun h => by obtain ⟨q1, q2, q3, q4, q5⟩ := h.2 k om9; first | omega | (simp at h25; omega) | (simp at h55; omega)).symm
  refine g9 9 ?_
  exact ⟨Le.rfl, k + 1, hs9, ⟨rfl, fun i h hi => by
      by_cases e : i = k
      · subst e; exact ⟨by simpa using h25, om9, om9, by simpa using h55, om9⟩
      · exact hk i h om9⟩, om9⟩
 refine g9 12 ?_
 refine congrArg Value.bool ?_
 exact (decide_eq_true ⟨om9, fun i h => hk i h om9⟩).symm

theorem absmapB_fc {G : GH} {v_l : Value} {l : List Nd} (h_l : SlR eNode G v_l l) (hS : Sml l) (hl30 : l.length ≤ 30) :
    Fc Try.prog 27 [v_l] G [] (fun v G' M' => M' = []) := by
 obtain ⟨sa_l, sc_l, rfl⟩ := h_l.form
 have hl := h_l.len47
 refine Fc.go [.tmp 2] Try.func27 Try.ntmps27 rfl (fun w0 => (g9 7 ?_))
 refine W.alloc zr31 (fun b33 => (g9 5 ?_))
 refine W.call (Mp := []) (bysl_fc h_l) rfl pr9 ?_
 intro v34 G35 _ hG35 q36
 refine match q36 with | ⟨e_39, hmp38⟩ => ?_
 subst e_39
 have q41 := hmp38.form
 refine match q41 with | ⟨b37, e_40⟩ => ?_
 subst e_40
 refine W.makeMap (V := vBool) (fun bm42 hm43 => (W.perm (pmC (Ms := [(bm42, Obj.map #[] 0)]) pr9).symm (W.ok (ok_makeFn (fst := []) (caps := [.tmp 3]) (vs := []) (ws := [pt9 b33]) rfl rfl) (W.ok (ok_build (L := [.map _, .map _, _]) pl97 zr97 rfl rfl rfl) (W.box (L := [.map _, .map _, _]) rfl rfl (fun b44 => (g9 6 ?_)))))))
 refine W.qcall (spanall_fc ) rfl (W.ok (ok_build (L := [sV _, sV _, .bool _, lV _ _ _]) pl93 zr93 rfl rfl rfl) ?_)
 have hR45 : WkR 53 97 31 68 b44 b33 (bySl l) G35 ([], []) ((b44, ce9 97 [.map (some b37), .map (some bm42), .func (.func 53) #[] #[pt9 b33]]) :: ((b33, ce9 31 [lV none 0 0]) :: [(bm42, Obj.map #[] 0)])) := ⟨_, _, _, [(bm42, Obj.map #[] 0)], [], rfl, hmp38, hm43, OwnR.nil⟩
 refine W.call (Mp := ((b44, ce9 97 [.map (some b37), .map (some bm42), .func (.func 53) #[] #[pt9 b33]]) :: ((b33, ce9 31 [lV none 0 0]) :: [(bm42, Obj.map #[] 0)]))) (Mr := []) (absB_all hS hl30 l.length hR45 0 rfl (SeatS.rootB l 0) (Met.nil l) (by simp) (by simp) SlR.nil) rfl ((((pr9.cons _).trans pr9).cons _).trans pr9) ?_
 intro v47 G48 Ms49 hG48 q46
 refine match q46 with | ⟨e_50, mt9, out9, _, _, _, vat9, bm9, vo9, Mm9, Mo9, eM9, hat9, hmt9, ho9⟩ => ?_
 subst e_50
 subst eM9
 have q52 := ho9.form
 refine match q52 with | ⟨sa9, sc9, e_51⟩ => ?_
 subst e_51
 refine W.perm (M' := ((b44, ce9 97 [vat9, .map (some bm9), .func (.func 53) #[] #[pt9 b33]]) :: ((b33, ce9 31 [lV sa9 out9.length sc9]) :: (Mm9 ++ (Mo9 ++ []))))) ((((((pmF pr9).trans pr9).cons _).trans pr9).cons _).trans pr9).symm (g9 8 ?_)
 refine WC.giveO ho9 (pmC (pmC (pmA pr9))) (fun G53 hG53 hv53 => (g9 2 ?_))
 exact rfl

theorem absgetB_fc {G : GH} {v_l : Value} {l : List Nd} (h_l : SlR eNode G v_l l) (k : Str) (hS : Sml l) (hl30 : l.length ≤ 30) (hk : k.b.size ≤ 300) :
    Fc Try.prog 28 [v_l, sV k.b] G [] (fun v G' M' => M' = []) := by
 obtain ⟨sa_l, sc_l, rfl⟩ := h_l.form
 have hl := h_l.len47
 have hl100 := hS.1
 refine Fc.go [.tmp 4, .tmp 5] Try.func28 Try.ntmps28 rfl (fun w0 => (g9 9 ?_))
 refine W.call (Mp := []) (bysl_fc h_l) rfl pr9 ?_
 intro v54 G55 _ hG55 q56
 refine match q56 with | ⟨e_59, hmp58⟩ => ?_
 subst e_59
 have q61 := hmp58.form
 refine match q61 with | ⟨b57, e_60⟩ => ?_
 subst e_60
 refine W.qcall (spanall_fc ) rfl (W.ok (ok_build (L := [sV _, sV _, .bool _, lV _ _ _]) pl93 zr93 rfl rfl rfl) (W.alloc zr93 (fun b62 => (g9 7 ?_))))
 refine W.lookG (V := vNode) mk71 mz35 ⟨_, rfl, ⟨_, _, _, _, _, _, _, _, rfl, SlR.nil, SlR.nil, SlR.nil, SlR.nil, Nd.zero_ok⟩⟩ hmp58 rfl rfl (fun v63 hv64 => ?_)
 refine match hv64 with | ⟨_, e_66, ⟨pa_mn65, pc_mn65, ka_mn65, kc_mn65, ma_mn65, mc_mn65, ra_mn65, rc_mn65, e_67, hp_mn65, hk_mn65, hm_mn65, hr_mn65, hok_mn65⟩⟩ => ?_
 subst e_66
 subst e_67
 refine g9 3 ?_
 refine W.alloc zr35 (fun b68 => (g9 13 ?_))
 refine WC.loop (X := (Seat × Bool × Nat) × List Value × List Value) (fun x => [(9, .bool x.1.2.1), (10, iV ((l.length : Int) - ((x.1.2.2 : Nat) : Int))), (7, pt9 b62), (8, pt9 b68), (1, sV k.b), (6, .map (some b57))]) (fun x G Ml => Ml = [(b68, .cells (List.toArray x.2.2) 35 (0, 0)), (b62, .cells (List.toArray x.2.1) 93 (0, 0))] ∧ WayC G x.2.1 Span.all (x.1.1.ms) ∧ NodeC G x.2.2 (x.1.1.n) ∧ SeatS l x.1.2.2 x.1.1 ∧ x.1.2.2 ≤ l.length + 1) (fun x => l.length + 2 - x.1.2.2) (((⟨(getM (bySl l) 0).getD Nd.zero, Span.all, []⟩, (getM (bySl l) 0).isSome, 0) : Seat × Bool × Nat), ([sV (Span.all).lo.b, sV (Span.all).hi.b, .bool (Span.all).opn, lV none 0 0] : List Value), ((ndl ((getM (bySl l) (0)).getD Nd.zero) pa_mn65 pc_mn65 ka_mn65 kc_mn65 ma_mn65 mc_mn65 ra_mn65 rc_mn65) : List Value)) hs9 ?_ ?_
 ·exact ⟨rfl, (by exact ⟨_, rfl, SlR.nil⟩), (by exact (nk9 hp_mn65 hk_mn65 hm_mn65 hr_mn65 hok_mn65)), SeatS.rootB l 0, by dsimp only; omega⟩
 rintro ⟨⟨x, b, i⟩, C_7, C_8⟩ gG69 G69 _ hG69 ⟨rfl, ho_7, ho_8, hxS, hi⟩
 try dsimp only at ho_7 ho_8 hxS hi
 have hnd := hS.at hxS.nd
 have hml4 := hnd.2.2.1
 have hms4 := hxS.ms
 have hnk := hnd.1
 have hnp := hnd.2.1
 have hrt := rbS_le x.n.pivots k
 have hRB : RB x.n.rows := fun p hp => hnd.2.2.2.2.2.2.2 p hp
 have hMB : MB x.ms := hxS.key
 refine match ho_7 with | ⟨vw7, e_70, hw7⟩ => ?_
 subst e_70
 have q72 := hw7.form
 refine match q72 with | ⟨sa_w7, sc_w7, e_71⟩ => ?_
 subst e_71
 refine match ho_8 with | ⟨_, _, _, _, _, _, _, _, e_74, hp_nb73, hk_nb73, hm_nb73, hr_nb73, hok_nb73⟩ => ?_
 subst e_74
 refine WC.fr (f := setL gG69 [(9, .bool b), (10, iV ((l.length : Int) - ((i : Nat) : Int))), (7, pt9 b62), (8, pt9 b68), (1, sV k.b), (6, .map (some b57))]) rfl (g9 5 ?_)
 refine W.sp 23 rfl (fun hb9 => ?_) (fun hb9 => ?_)
 ·refine g9 8 ?_
  refine W.sd 28 (fun h26 p26 => ?_) (fun h26 p26 => ?_)
  ·try dsimp only at p26
   refine g9 6 ?_
   refine W.sd 32 (fun h30 p30 => ?_) (fun h30 p30 => ?_)
   ·try dsimp only at p30
    refine g9 17 ?_
    refine WC.cd (fun h39 p39 => ?_) (fun h39 p39 => ?_)
    ·try dsimp only at p39
     refine g9 10 ?_
     refine W.lit (e := (eSl eMsg)) (l := [(x.n).msgs, x.ms]) (css := [[lV _ _ _], [lV _ _ _]]) sl63 ty33 zr33 rfl rfl rfl rfl rfl rfl ⟨⟨_, rfl, hm_nb73⟩, ⟨_, rfl, hw7⟩, trivial⟩ (fun bl75 G75 hG75 hv75 => (W.cS (mlists_fc hv75 (by have h9 : totN [] = 0 := rfl; rw [totN_cons, totN_cons, h9]; omega) (by show 2 ≤ 100000; omega)) rfl (fun sa_hv77 sc_hv77 G76 hG76 hv77 => (g9 4 ?_))))
     refine WC.dw (sr9.k9.cons _) (d9 [0, 1, 3, 5] ?_)
     refine WD.any [2, 4] (by kernel_rfl) rfl ⟨WD.ap ?_, WD.ap ?_, trivial⟩
     ·refine g9 1 ?_
      refine W.nn (WD.a1 4 rfl (g9 1 ?_))
      refine W.nn (WD.a1 6 rfl (W.qcall (brouteB_fc (hp_nb73.mono lec) _) rfl (W.nn ((hk_nb73.mono (hG75.trans hG76)).a2 (i := rbS x.n.pivots k) om9 (fun he83 hi84 => (WD.tk 7 rfl (ok_indexAddr (i := rbS x.n.pivots k) sl30 ty3 (hk_nb73.mono lec) rfl rfl ⟨om9, om9⟩) (d9 [8] ?_)))))))
      have q89 := look_ghA (P := Try.prog) (V := vNode) ((x.n.kids[rbS x.n.pivots k]'om9)) mk71 mz35 ⟨_, rfl, ⟨_, _, _, _, _, _, _, _, rfl, SlR.nil, SlR.nil, SlR.nil, SlR.nil, Nd.zero_ok⟩⟩ (hmp58.mono ((hG69.trans hG75).trans hG76))
      refine match q89 with | ⟨v87, hv88, hl90, hl91⟩ => ?_
      refine WD.tk 9 rfl (hl90 rfl rfl rfl) ?_
      refine match hv88 with | ⟨_, e_93, ⟨pa_mn92, pc_mn92, ka_mn92, kc_mn92, ma_mn92, mc_mn92, ra_mn92, rc_mn92, e_94, hp_mn92, hk_mn92, hm_mn92, hr_mn92, hok_mn92⟩⟩ => ?_
      subst e_93
      subst e_94
      refine d9 [10, 11, 12, 13, 14] ?_
      refine WD.done (by kernel_rfl) (blk_n (thn_n (g9 6 ?_)))
      exact ⟨lec, (((⟨(getM (bySl l) (x.n.kids[rbS x.n.pivots k]'om9)).getD Nd.zero, Span.all, mergeN [x.n.msgs, x.ms]⟩, (getM (bySl l) (x.n.kids[rbS x.n.pivots k]'om9)).isSome, i + 1) : Seat × Bool × Nat), [sV (Span.all).lo.b, sV (Span.all).hi.b, .bool (Span.all).opn, lV sa_hv77 (mergeN [x.n.msgs, x.ms]).length sc_hv77], (ndl ((getM (bySl l) ((x.n.kids[rbS x.n.pivots k]'om9))).getD Nd.zero) pa_mn92 pc_mn92 ka_mn92 kc_mn92 ma_mn92 mc_mn92 ra_mn92 rc_mn92)), hs9, ⟨rfl, (by exact ⟨_, rfl, hv77⟩), (by exact (nk9 hp_mn92 hk_mn92 hm_mn92 hr_mn92 hok_mn92)), hxS.down hS _, by dsimp only; omega⟩, by dsimp only; omega⟩
     refine g9 1 ?_
     refine W.nn ?_
     refine WD.any [2, 6] (by kernel_rfl) rfl ⟨WD.ap ?_, WD.ap ?_, trivial⟩
     ·refine g9 1 ?_
      refine W.nn (WD.a1 6 rfl (W.qcall (brouteB_fc (hp_nb73.mono lec) _) rfl (W.nn ((hk_nb73.mono (hG75.trans hG76)).a2 (i := rbS x.n.pivots k) om9 (fun he95 hi96 => (WD.tk 7 rfl (ok_indexAddr (i := rbS x.n.pivots k) sl30 ty3 (hk_nb73.mono lec) rfl rfl ⟨om9, om9⟩) (d9 [8] ?_)))))))
      have q101 := look_ghA (P := Try.prog) (V := vNode) ((x.n.kids[rbS x.n.pivots k]'om9)) mk71 mz35 ⟨_, rfl, ⟨_, _, _, _, _, _, _, _, rfl, SlR.nil, SlR.nil, SlR.nil, SlR.nil, Nd.zero_ok⟩⟩ (hmp58.mono ((hG69.trans hG75).trans hG76))
      refine match q101 with | ⟨v99, hv100, hl102, hl103⟩ => ?_
      refine WD.tk 9 rfl (hl102 rfl rfl rfl) ?_
      refine match hv100 with | ⟨_, e_105, ⟨pa_mn104, pc_mn104, ka_mn104, kc_mn104, ma_mn104, mc_mn104, ra_mn104, rc_mn104, e_106, hp_mn104, hk_mn104, hm_mn104, hr_mn104, hok_mn104⟩⟩ => ?_
      subst e_105
      subst e_106
      refine d9 [10, 11, 12, 13, 14] ?_
      refine WD.done (by kernel_rfl) (blk_n (thn_n (g9 6 ?_)))
      exact ⟨lec, (((⟨(getM (bySl l) (x.n.kids[rbS x.n.pivots k]'om9)).getD Nd.zero, Span.all, mergeN [x.n.msgs, x.ms]⟩, (getM (bySl l) (x.n.kids[rbS x.n.pivots k]'om9)).isSome, i + 1) : Seat × Bool × Nat), [sV (Span.all).lo.b, sV (Span.all).hi.b, .bool (Span.all).opn, lV sa_hv77 (mergeN [x.n.msgs, x.ms]).length sc_hv77], (ndl ((getM (bySl l) ((x.n.kids[rbS x.n.pivots k]'om9))).getD Nd.zero) pa_mn104 pc_mn104 ka_mn104 kc_mn104 ma_mn104 mc_mn104 ra_mn104 rc_mn104)), hs9, ⟨rfl, (by exact ⟨_, rfl, hv77⟩), (by exact (nk9 hp_mn104 hk_mn104 hm_mn104 hr_mn104 hok_mn104)), hxS.down hS _, by dsimp only; omega⟩, by dsimp only; omega⟩
     refine W.qcall (brouteB_fc (hp_nb73.mono lec) _) rfl (W.nn (WD.a1 2 rfl (g9 1 ?_)))
     refine W.nn ((hk_nb73.mono (hG75.trans hG76)).a2 (i := rbS x.n.pivots k) om9 (fun he107 hi108 => (WD.tk 7 rfl (ok_indexAddr (i := rbS x.n.pivots k) sl30 ty3 (hk_nb73.mono lec) rfl rfl ⟨om9, om9⟩) (d9 [8] ?_))))
     have q113 := look_ghA (P := Try.prog) (V := vNode) ((x.n.kids[rbS x.n.pivots k]'om9)) mk71 mz35 ⟨_, rfl, ⟨_, _, _, _, _, _, _, _, rfl, SlR.nil, SlR.nil, SlR.nil, SlR.nil, Nd.zero_ok⟩⟩ (hmp58.mono ((hG69.trans hG75).trans hG76))
     refine match q113 with | ⟨v111, hv112, hl114, hl115⟩ => ?_
     refine WD.tk 9 rfl (hl114 rfl rfl rfl) ?_
     refine match hv112 with | ⟨_, e_117, ⟨pa_mn116, pc_mn116, ka_mn116, kc_mn116, ma_mn116, mc_mn116, ra_mn116, rc_mn116, e_118, hp_mn116, hk_mn116, hm_mn116, hr_mn116, hok_mn116⟩⟩ => ?_
     subst e_117
     subst e_118
     refine d9 [10, 11, 12, 13, 14] ?_
     refine WD.done (by kernel_rfl) (blk_n (thn_n (g9 6 ?_)))
     exact ⟨lec, (((⟨(getM (bySl l) (x.n.kids[rbS x.n.pivots k]'om9)).getD Nd.zero, Span.all, mergeN [x.n.msgs, x.ms]⟩, (getM (bySl l) (x.n.kids[rbS x.n.pivots k]'om9)).isSome, i + 1) : Seat × Bool × Nat), [sV (Span.all).lo.b, sV (Span.all).hi.b, .bool (Span.all).opn, lV sa_hv77 (mergeN [x.n.msgs, x.ms]).length sc_hv77], (ndl ((getM (bySl l) ((x.n.kids[rbS x.n.pivots k]'om9))).getD Nd.zero) pa_mn116 pc_mn116 ka_mn116 kc_mn116 ma_mn116 mc_mn116 ra_mn116 rc_mn116)), hs9, ⟨rfl, (by exact ⟨_, rfl, hv77⟩), (by exact (nk9 hp_mn116 hk_mn116 hm_mn116 hr_mn116 hok_mn116)), hxS.down hS _, by dsimp only; omega⟩, by dsimp only; omega⟩
    try dsimp only at p39
    refine g9 20 ?_
    refine WC.cn (fun h68 p68 => ?_) (fun h68 p68 => ?_)
    ·try dsimp only at p68
     refine g9 9 ?_
     exact rfl
    try dsimp only at p68
    refine g9 9 ?_
    refine W.qcall (mergetB_fc hr_nb73 k hw7 hRB hMB) rfl (g9 8 ?_)
    exact rfl
   try dsimp only at p30
   refine g9 31 ?_
   refine WC.cn (fun h68 p68 => ?_) (fun h68 p68 => ?_)
   ·try dsimp only at p68
    refine g9 9 ?_
    exact rfl
   try dsimp only at p68
   refine g9 9 ?_
   refine W.qcall (mergetB_fc hr_nb73 k hw7 hRB hMB) rfl (g9 8 ?_)
   exact rfl
  try dsimp only at p26
  refine g9 35 ?_
  refine WC.cn (fun h68 p68 => ?_) (fun h68 p68 => ?_)
  ·try dsimp only at p68
   refine g9 9 ?_
   exact rfl
  try dsimp only at p68
  refine g9 9 ?_
  refine W.qcall (mergetB_fc hr_nb73 k hw7 hRB hMB) rfl (g9 8 ?_)
  exact rfl
 refine g9 47 ?_
 exact rfl

theorem waitB_fc {G : GH} {v_l : Value} {l : List Nd} (h_l : SlR eNode G v_l l) (hS : Sml l) :
    Fc Try.prog 29 [v_l] G [] (fun v _ _ => v = nt9 (wtN l)) := by
 obtain ⟨sa_l, sc_l, rfl⟩ := h_l.form
 have hl := h_l.len47
 have hl100 := hS.1
 refine Fc.go [.tmp 2] Try.func29 Try.ntmps29 rfl (fun w0 => (g9 19 ?_))
 refine WC.loop (X := Nat) (fun i => [(3, nt9 ((wtN (l.take i)))), (8, nt9 i), (6, lV sa_l l.length sc_l), (7, nt9 ((l).length))]) (fun i _ Ml => Ml = [] ∧ i ≤ l.length) (fun i => l.length - i) 0 hs9 ?_ ?_
 ·exact ⟨rfl, om9⟩
 rintro i gG119 G119 _ hG119 ⟨rfl, hi⟩
 have hw9 := wtN_le hS i hi
 refine g9 6 ?_
 refine WC.cd (fun h9 p9 => ?_) (fun h9 p9 => ?_)
 ·have hm9 := (hS.at (.inr (List.getElem_mem (show i < l.length by omega)))).2.2.1
  refine g9 6 ?_
  refine (h_l.mono hG119).aN (i := i) om9 (fun _ _ _ _ _ _ _ _ he120 hp_n121 hk_n121 hm_n121 hr_n121 hok_n121 => (g9 2 ?_))
  refine W.alloc zr35 (fun b124 => (g9 16 ?_))
  refine W.sub (sr9.cons _) (g9 2 ?_)
  exact ⟨Le.rfl, i + 1, ⟨(iv (by rw [wtN_succ om9]; omega)), eqv, eqv, eqv, trivial⟩, ⟨rfl, om9⟩, om9⟩
 refine g9 13 ?_
 exact iv (by rw [List.take_of_length_le om9])

theorem leavesB_fc {G : GH} {v_l : Value} {l : List Nd} (h_l : SlR eNode G v_l l) :
    Fc Try.prog 30 [v_l] G [] (fun v _ _ => v = nt9 (lfN l)) := by
 obtain ⟨sa_l, sc_l, rfl⟩ := h_l.form
 have hl := h_l.len47
 refine Fc.go [.tmp 2] Try.func30 Try.ntmps30 rfl (fun w0 => (g9 19 ?_))
 refine WC.loop (X := Nat) (fun i => [(3, nt9 ((lfN (l.take i)))), (8, nt9 i), (6, lV sa_l l.length sc_l), (7, nt9 ((l).length))]) (fun i _ Ml => Ml = [] ∧ i ≤ l.length) (fun i => l.length - i) 0 hs9 ?_ ?_
 ·exact ⟨rfl, om9⟩
 rintro i gG125 G125 _ hG125 ⟨rfl, hi⟩
 have hw9 := lfN_le (l := l) (i := i)
 refine g9 6 ?_
 refine WC.cd (fun h9 p9 => ?_) (fun h9 p9 => ?_)
 ·refine g9 6 ?_
  refine (h_l.mono hG125).aN (i := i) om9 (fun _ _ _ _ _ _ _ _ he126 hp_n127 hk_n127 hm_n127 hr_n127 hok_n127 => (g9 2 ?_))
  refine W.alloc zr35 (fun b130 => (g9 10 ?_))
  refine WC.cd (fun h14 p14 => ?_) (fun h14 p14 => ?_)
  ·refine g9 10 ?_
   refine W.sub (sr9.cons _) (g9 2 ?_)
   exact ⟨Le.rfl, i + 1, ⟨(iv (by rw [lfN_t om9 p14]; omega)), eqv, eqv, eqv, trivial⟩, ⟨rfl, om9⟩, om9⟩
  refine g9 6 ?_
  refine W.sub (sr9.cons _) (g9 2 ?_)
  exact ⟨Le.rfl, i + 1, ⟨(iv (by rw [lfN_f om9 p14])), eqv, eqv, eqv, trivial⟩, ⟨rfl, om9⟩, om9⟩
 refine g9 13 ?_
 exact iv (by rw [List.take_of_length_le om9])

theorem abstractCounts_fc {G : GH} {v_l : Value} {l : List Nd} (h_l : SlR eNode G v_l l) (k : Str) :
    Fc Try.prog 5 [v_l, sV k.b] G [] (fun v _ _ => v = .bool (true)) := by
 obtain ⟨sa_l, sc_l, rfl⟩ := h_l.form
 have hl := h_l.len47
 have hkle := k.le
 refine Fc.go [.tmp 4] Try.func5 Try.ntmps5 rfl (fun w0 => (g9 9 ?_))
 refine W.qcall (light_fc h_l _ _ om9) rfl (g9 2 ?_)
 refine W.sp 12 rfl (fun h11 => ?_) (fun h11 => ?_)
 ·refine g9 9 ?_
  refine W.qcall (awake42_fc) rfl (g9 6 ?_)
  rfl
 have hL9 : Light l 30 1000 := by simpa using h11
 have hS : Sml l := sml_light2 hL9 om9 om9 om9
 have hl30 : l.length ≤ 30 := by have := hL9.1; omega
 refine g9 9 ?_
 refine WC.cd (fun h15 p15 => ?_) (fun h15 p15 => ?_)
 ·try dsimp only at p15
  refine g9 2 ?_
  refine W.qcall (awake42_fc) rfl (g9 6 ?_)
  rfl
 try dsimp only at p15
 refine g9 17 ?_
 refine WC.loop (X := Nat) (fun i => [(5, nt9 ((wtN (l.take i)))), (6, nt9 ((lfN (l.take i)))), (20, nt9 i), (0, lV sa_l l.length sc_l), (1, sV k.b), (18, lV sa_l l.length sc_l), (19, nt9 ((l).length))]) (fun i _ Ml => Ml = [] ∧ i ≤ l.length) (fun i => l.length - i) 0 hs9 ?_ ?_
 ·exact ⟨rfl, om9⟩
 rintro i gG131 G131 _ hG131 ⟨rfl, hi⟩
 have hw9 := wtN_le hS i hi
 have hv9 := lfN_le (l := l) (i := i)
 have hm9 : ∀ h : i < l.length, l[i].msgs.length ≤ 4000 := fun h => (hS.at (.inr (List.getElem_mem h))).2.2.1
 refine g9 6 ?_
 refine WC.cd (fun h21 p21 => ?_) (fun h21 p21 => ?_)
 ·try dsimp only at p21
  have hm8 := hm9 om9
  refine g9 6 ?_
  refine (h_l.mono hG131).aN (i := i) om9 (fun _ _ _ _ _ _ _ _ he132 hp_n133 hk_n133 hm_n133 hr_n133 hok_n133 => (g9 2 ?_))
  refine W.alloc zr35 (fun b136 => (g9 20 ?_))
  refine WC.cd (fun h31 p31 => ?_) (fun h31 p31 => ?_)
  ·try dsimp only at p31
   refine g9 10 ?_
   refine W.sub (sr9.cons _) (g9 2 ?_)
   exact ⟨Le.rfl, i + 1, ⟨(iv (by rw [wtN_succ om9]; omega)), (iv (by rw [lfN_t om9 p31]; omega)), eqv, eqv, eqv, eqv, eqv, trivial⟩, ⟨rfl, om9⟩, om9⟩
  try dsimp only at p31
  refine g9 6 ?_
  refine W.sub (sr9.cons _) (g9 2 ?_)
  exact ⟨Le.rfl, i + 1, ⟨(iv (by rw [wtN_succ om9]; omega)), (iv (by rw [lfN_f om9 p31])), eqv, eqv, eqv, eqv, eqv, trivial⟩, ⟨rfl, om9⟩, om9⟩
 try dsimp only at p21
 refine g9 8 ?_
 refine W.call (Mp := []) (absmapB_fc (h_l.mono hG131) hS hl30) rfl pr9 ?_
 intro v140 G137 Ms139 hG137 q138
 subst q138
 refine g9 6 ?_
 refine W.call (Mp := []) (absgetB_fc (h_l.mono lec) k hS hl30 om9) rfl pr9 ?_
 intro v144 G141 Ms143 hG141 q142
 subst q142
 refine g9 5 ?_
 refine W.qcall (waitB_fc (h_l.mono lec) hS) rfl (g9 3 ?_)
 refine W.sd 44 (fun h43 p43 => ?_) (fun h43 p43 => ?_)
 ·try dsimp only at p43
  refine g9 3 ?_
  refine W.qcall (leavesB_fc (h_l.mono lec)) rfl (g9 6 ?_)
  refine W.sd 50 (fun h48 p48 => ?_) (fun h48 p48 => ?_)
  ·try dsimp only at p48
   refine g9 1 ?_
   refine W.qcall (awake42_fc) rfl (g9 6 ?_)
   rfl
  try dsimp only at p48
  exact (p48 (by rw [List.take_of_length_le om9])).elim
 try dsimp only at p43
 exact (p43 (by rw [List.take_of_length_le om9])).elim

end Go.Proofs.Ytcngningbcaggaa
