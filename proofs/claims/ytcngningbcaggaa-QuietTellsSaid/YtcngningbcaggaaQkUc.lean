/- Walks of functions that tell whether nodes are a sound tree. -/
import Derived.Test.YtcngningbcaggaaQkUb
set_option maxRecDepth 100000
set_option maxHeartbeats 1600000
set_option linter.unusedVariables false
set_option linter.unusedSimpArgs false
set_option linter.unnecessarySimpa false
namespace Go.Proofs.Ytcngningbcaggaa
open Go Go.Fw Go.RowKit
attribute [local irreducible] Ok W WC
theorem light_fc {G : GH} {v_l : Value} {l : List Nd} (h_l : SlR eNode G v_l l) (n : Int) (m : Int) (hm : 0 ≤ m ∧ m ≤ 1073741824) :
    Fc Try.prog 18 [v_l, iV n, iV m] G [] (fun v _ _ => v = .bool (decide (Light l n m))) := by
 obtain ⟨sa_l, sc_l, rfl⟩ := h_l.form
 have hl := h_l.len47
 refine Fc.go [.tmp 6] Try.func18 Try.ntmps18 rfl (fun w0 => (g9 14 ?_))
 refine WC.cd (fun h11 p11 => ?_) (fun h11 p11 => ?_)
 ·refine g9 8 ?_
  refine congrArg Value.bool ?_
  exact (decide_eq_false fun h => by have := h.1; omega).symm
 refine g9 9 ?_
 refine WC.loop (X := Nat) (fun k => [(7, nt9 k), (0, lV sa_l l.length sc_l), (1, iV n), (2, iV m)]) (fun k _ Ml => Ml = [] ∧ ∀ i (h : i < l.length), i < k → l[i].light m) (fun k => l.length - k) 0 hs9 ?_ ?_
 ·exact ⟨rfl, fun i _ h => by omega⟩
 rintro k gG1 G1 _ hG1 ⟨rfl, hk⟩
 refine g9 9 ?_
 refine WC.cd (fun h15 p15 => ?_) (fun h15 p15 => ?_)
 ·refine g9 8 ?_
  refine (h_l.mono hG1).aN (i := k) om9 (fun _ _ _ _ _ _ _ _ he2 hp_n3 hk_n3 hm_n3 hr_n3 hok_n3 => (g9 4 ?_))
  refine W.qcall (longp_fc hr_n3 _ om9) rfl (g9 2 ?_)
  refine W.sp 26 rfl (fun h25 => ?_) (fun h25 => ?_)
  ·refine g9 55 ?_
   refine congrArg Value.bool ?_
   exact (decide_eq_false fun h => by obtain ⟨q1, q2, q3, q4, q5⟩ := h.2 k om9; first | omega | (simp at h25; omega) | (simp at h55; omega)).symm
  refine g9 5 ?_
  refine (h_l.mono hG1).aN (i := k) om9 (fun _ _ _ _ _ _ _ _ he6 hp_n7 hk_n7 hm_n7 hr_n7 hok_n7 => (g9 8 ?_))
  refine W.qcall (rlong_fc hp_n7 _ om9) rfl (g9 6 ?_)
  refine W.sd 37 (fun h35 p35 => ?_) (fun h35 p35 => ?_)
  ·refine g9 44 ?_
   refine congrArg Value.bool ?_
   exact (decide_eq_false fun h => by obtain ⟨q1, q2, q3, q4, q5⟩ := h.2 k om9; first | omega | (simp at h25; omega) | (simp at h55; omega)).symm
  refine g9 5 ?_
  refine (h_l.mono hG1).aN (i := k) om9 (fun _ _ _ _ _ _ _ _ he10 hp_n11 hk_n11 hm_n11 hr_n11 hok_n11 => (g9 13 ?_))
  refine W.sd 47 (fun h45 p45 => ?_) (fun h45 p45 => ?_)
  ·refine g9 34 ?_
   refine congrArg Value.bool ?_
   exact (decide_eq_false fun h => by obtain ⟨q1, q2, q3, q4, q5⟩ := h.2 k om9; first | omega | (simp at h25; omega) | (simp at h55; omega)).symm
  refine g9 5 ?_
  refine (h_l.mono hG1).aN (i := k) om9 (fun _ _ _ _ _ _ _ _ he14 hp_n15 hk_n15 hm_n15 hr_n15 hok_n15 => (g9 8 ?_))
  refine W.qcall (few_fc hm_n15 _ om9) rfl (g9 4 ?_)
  refine W.sp 57 rfl (fun h55 => ?_) (fun h55 => ?_)
  ·refine g9 24 ?_
   refine congrArg Value.bool ?_
   exact (decide_eq_false fun h => by obtain ⟨q1, q2, q3, q4, q5⟩ := h.2 k om9; first | omega | (simp at h25; omega) | (simp at h55; omega)).symm
  refine g9 5 ?_
  refine (h_l.mono hG1).aN (i := k) om9 (fun _ _ _ _ _ _ _ _ he18 hp_n19 hk_n19 hm_n19 hr_n19 hok_n19 => (g9 14 ?_))
  refine WC.cd (fun h65 p65 => ?_) (fun h65 p65 => ?_)
  ·refine g9 12 ?_
   refine congrArg Value.bool ?_
   exact (decide_eq_false fun h => by obtain ⟨q1, q2, q3, q4, q5⟩ := h.2 k om9; first | omega | (simp at h25; omega) | (simp at h55; omega)).symm
  refine g9 9 ?_
  exact ⟨Le.rfl, k + 1, hs9, ⟨rfl, fun i h hi => by
      by_cases e : i = k
      · subst e; exact ⟨by simpa using h25, om9, om9, by simpa using h55, om9⟩
      · exact hk i h om9⟩, om9⟩
 refine g9 12 ?_
 refine congrArg Value.bool ?_
 exact (decide_eq_true ⟨om9, fun i h => hk i h om9⟩).symm

theorem rright25_fc {G : GH} (cfan : Int) (cleaf : Int) (cbud : Int) (cslots : Int) (crest : Int) :
    Fc Try.prog 31 [.agg #[iV cfan, iV cleaf, iV cbud, iV cslots, iV crest]] G [] (fun v _ _ => v = .bool (decide (CfgR (⟨cfan, cleaf, cbud, cslots, crest⟩ : Cfg)))) := by
 refine Fc.go [.tmp 2] Try.func31 Try.ntmps31 rfl (fun w0 => (g9 2 ?_))
 refine W.box (L := [iV _, iV _, iV _, iV _, iV _]) rfl rfl (fun b22 => (g9 9 ?_))
 refine W.sd 6 (fun h5 p5 => ?_) (fun h5 p5 => ?_)
 ·refine g9 8 ?_
  refine W.sd 11 (fun h9 p9 => ?_) (fun h9 p9 => ?_)
  ·refine g9 8 ?_
   refine W.sd 16 (fun h14 p14 => ?_) (fun h14 p14 => ?_)
   ·refine g9 8 ?_
    refine W.sd 21 (fun h19 p19 => ?_) (fun h19 p19 => ?_)
    ·refine g9 8 ?_
     refine W.sd 26 (fun h24 p24 => ?_) (fun h24 p24 => ?_)
     ·refine g9 8 ?_
      refine W.sd 31 (fun h29 p29 => ?_) (fun h29 p29 => ?_)
      ·refine g9 8 ?_
       refine W.sd 36 (fun h34 p34 => ?_) (fun h34 p34 => ?_)
       ·refine g9 8 ?_
        refine W.sd 41 (fun h39 p39 => ?_) (fun h39 p39 => ?_)
        ·refine g9 8 ?_
         refine W.sd 46 (fun h44 p44 => ?_) (fun h44 p44 => ?_)
         ·refine g9 12 ?_
          refine congrArg Value.bool ?_
          rw [Bool.eq_iff_iff, decide_eq_true_iff]
          simp only [CfgR]
          first | (simp_all; done) | (simp_all; omega)
         refine g9 9 ?_
         refine congrArg Value.bool ?_
         rw [Bool.eq_iff_iff, decide_eq_true_iff]
         simp only [CfgR]
         first | (simp_all; done) | (simp_all; omega)
        refine g9 14 ?_
        refine congrArg Value.bool ?_
        rw [Bool.eq_iff_iff, decide_eq_true_iff]
        simp only [CfgR]
        first | (simp_all; done) | (simp_all; omega)
       refine g9 19 ?_
       refine congrArg Value.bool ?_
       rw [Bool.eq_iff_iff, decide_eq_true_iff]
       simp only [CfgR]
       first | (simp_all; done) | (simp_all; omega)
      refine g9 24 ?_
      refine congrArg Value.bool ?_
      rw [Bool.eq_iff_iff, decide_eq_true_iff]
      simp only [CfgR]
      first | (simp_all; done) | (simp_all; omega)
     refine g9 29 ?_
     refine congrArg Value.bool ?_
     rw [Bool.eq_iff_iff, decide_eq_true_iff]
     simp only [CfgR]
     first | (simp_all; done) | (simp_all; omega)
    refine g9 34 ?_
    refine congrArg Value.bool ?_
    rw [Bool.eq_iff_iff, decide_eq_true_iff]
    simp only [CfgR]
    first | (simp_all; done) | (simp_all; omega)
   refine g9 39 ?_
   refine congrArg Value.bool ?_
   rw [Bool.eq_iff_iff, decide_eq_true_iff]
   simp only [CfgR]
   first | (simp_all; done) | (simp_all; omega)
  refine g9 44 ?_
  refine congrArg Value.bool ?_
  rw [Bool.eq_iff_iff, decide_eq_true_iff]
  simp only [CfgR]
  first | (simp_all; done) | (simp_all; omega)
 refine g9 49 ?_
 refine congrArg Value.bool ?_
 rw [Bool.eq_iff_iff, decide_eq_true_iff]
 simp only [CfgR]
 first | (simp_all; done) | (simp_all; omega)

theorem linked_fc {G : GH} {v_ss : Value} {ss : List Seat} (h_ss : SlR eSeat G v_ss ss) :
    Fc Try.prog 61 [v_ss] G [] (fun v _ _ => v = .bool (decide (LinkedP ss))) := by
 obtain ⟨sa_ss, sc_ss, rfl⟩ := h_ss.form
 have hl := h_ss.len47
 refine Fc.go [.tmp 2] Try.func61 Try.ntmps61 rfl (fun w0 => (g9 12 ?_))
 refine WC.loop (X := Nat) (fun i => [(3, nt9 i), (0, lV sa_ss ss.length sc_ss)]) (fun i _ Ml => Ml = [] ∧ i ≤ ss.length ∧ ∀ j (h : j < ss.length), j < i → ss[j].n.right = wantN ss j) (fun i => ss.length - i) 0 hs9 ?_ ?_
 ·exact ⟨rfl, om9, fun j _ h => by omega⟩
 rintro i gG23 G23 _ hG23 ⟨rfl, hi, hi2⟩
 refine g9 9 ?_
 refine WC.cd (fun h8 p8 => ?_) (fun h8 p8 => ?_)
 ·refine g9 18 ?_
  refine W.sd 16 (fun h15 p15 => ?_) (fun h15 p15 => ?_)
  ·refine g9 7 ?_
   have q27 := (h_ss.mono hG23).at (i := i + 1) om9
   refine match q27 with | ⟨_, he24, ⟨_, _, _, _, _, _, _, _, qa_t25, qc_t25, e_26, hp_t25, hk_t25, hm_t25, hr_t25, hq_t25, hok_t25⟩⟩ => ?_
   subst e_26
   refine W.ok (ok_indexAddr (i := i + 1) sl27 ty39 (h_ss.mono hG23) rfl rfl ⟨om9, om9⟩) (g9 11 ?_)
   have q31 := (h_ss.mono hG23).at (i := i) om9
   refine match q31 with | ⟨_, he28, ⟨_, _, _, _, _, _, _, _, qa_t29, qc_t29, e_30, hp_t29, hk_t29, hm_t29, hr_t29, hq_t29, hok_t29⟩⟩ => ?_
   subst e_30
   refine g9 12 ?_
   refine WC.cd (fun h30 p30 => ?_) (fun h30 p30 => ?_)
   ·refine g9 4 ?_
    have q35 := (h_ss.mono hG23).at (i := i + 1) om9
    refine match q35 with | ⟨_, he32, ⟨_, _, _, _, _, _, _, _, qa_t33, qc_t33, e_34, hp_t33, hk_t33, hm_t33, hr_t33, hq_t33, hok_t33⟩⟩ => ?_
    subst e_34
    refine W.ok (ok_indexAddr (i := i + 1) sl27 ty39 (h_ss.mono hG23) rfl rfl ⟨om9, om9⟩) (g9 10 ?_)
    have q39 := (h_ss.mono hG23).at (i := i) om9
    refine match q39 with | ⟨_, he36, ⟨_, _, _, _, _, _, _, _, qa_t37, qc_t37, e_38, hp_t37, hk_t37, hm_t37, hr_t37, hq_t37, hok_t37⟩⟩ => ?_
    subst e_38
    refine g9 8 ?_
    refine WC.cn (fun h46 p46 => ?_) (fun h46 p46 => ?_)
    ·refine g9 12 ?_
     refine congrArg Value.bool ?_
     exact (decide_eq_false fun h => by have h := h i om9; rw [wantN_t om9 p30] at h; exact p46 h).symm
    refine g9 9 ?_
    exact ⟨Le.rfl, i + 1, hs9, ⟨rfl, om9, fun j h hj => by
      by_cases e : j = i
      · subst e; rw [wantN_t om9 p30]; exact p46
      · exact hi2 j h om9⟩, om9⟩
   refine g9 6 ?_
   have q43 := (h_ss.mono hG23).at (i := i) om9
   refine match q43 with | ⟨_, he40, ⟨_, _, _, _, _, _, _, _, qa_t41, qc_t41, e_42, hp_t41, hk_t41, hm_t41, hr_t41, hq_t41, hok_t41⟩⟩ => ?_
   subst e_42
   refine g9 8 ?_
   refine WC.cn (fun h46 p46 => ?_) (fun h46 p46 => ?_)
   ·refine g9 12 ?_
    refine congrArg Value.bool ?_
    exact (decide_eq_false fun h => by have h := h i om9; rw [wantN_g om9 p30] at h; exact p46 h).symm
   refine g9 9 ?_
   exact ⟨Le.rfl, i + 1, hs9, ⟨rfl, om9, fun j h hj => by
      by_cases e : j = i
      · subst e; rw [wantN_g om9 p30]; exact p46
      · exact hi2 j h om9⟩, om9⟩
  refine g9 24 ?_
  have q47 := (h_ss.mono hG23).at (i := i) om9
  refine match q47 with | ⟨_, he44, ⟨_, _, _, _, _, _, _, _, qa_t45, qc_t45, e_46, hp_t45, hk_t45, hm_t45, hr_t45, hq_t45, hok_t45⟩⟩ => ?_
  subst e_46
  refine g9 8 ?_
  refine WC.cn (fun h46 p46 => ?_) (fun h46 p46 => ?_)
  ·refine g9 12 ?_
   refine congrArg Value.bool ?_
   exact (decide_eq_false fun h => by have h := h i om9; rw [wantN_f om9] at h; exact p46 h).symm
  refine g9 9 ?_
  exact ⟨Le.rfl, i + 1, hs9, ⟨rfl, om9, fun j h hj => by
      by_cases e : j = i
      · subst e; rw [wantN_f om9]; exact p46
      · exact hi2 j h om9⟩, om9⟩
 refine g9 12 ?_
 refine congrArg Value.bool ?_
 exact (decide_eq_true (fun j h => hi2 j h om9)).symm

theorem once_fc {G : GH} {v_l : Value} {l : List Nd} (h_l : SlR eNode G v_l l) {v_ss : Value} {ss : List Seat} (h_ss : SlR eSeat G v_ss ss) :
    Fc Try.prog 60 [v_l, v_ss] G [] (fun v _ _ => v = .bool (decide (OnceP l ss))) := by
 obtain ⟨sa_l, sc_l, rfl⟩ := h_l.form
 obtain ⟨sa_ss, sc_ss, rfl⟩ := h_ss.form
 have hl := h_l.len47
 have hl2 := h_ss.len47
 refine Fc.go [.tmp 4] Try.func60 Try.ntmps60 rfl (fun w0 => (g9 15 ?_))
 refine WC.cn (fun h12 p12 => ?_) (fun h12 p12 => ?_)
 ·refine g9 8 ?_
  refine congrArg Value.bool ?_
  exact (decide_eq_false fun h => by have := h.1; omega).symm
 refine g9 9 ?_
 refine WC.loop (X := Nat) (fun i => [(5, nt9 i), (0, lV sa_l l.length sc_l), (1, lV sa_ss ss.length sc_ss)]) (fun i _ Ml => Ml = [] ∧ i ≤ l.length ∧ ∀ j (h : j < l.length), j < i → (slotS ss l[j].slot).length = 1) (fun i => l.length - i) 0 hs9 ?_ ?_
 ·exact ⟨rfl, om9, fun j _ h => by omega⟩
 rintro i gG48 G48 _ hG48 ⟨rfl, hi, hi2⟩
 refine g9 9 ?_
 refine WC.cd (fun h16 p16 => ?_) (fun h16 p16 => ?_)
 ·refine g9 16 ?_
  refine WC.loop (X := Nat) (fun j => [(6, nt9 ((slotS (ss.take j) (l[i]'om9).slot).length)), (7, nt9 j), (0, lV sa_l l.length sc_l), (1, lV sa_ss ss.length sc_ss), (5, nt9 i)]) (fun j _ Ml => Ml = [] ∧ j ≤ ss.length) (fun j => ss.length - j) 0 hs9 ?_ ?_
  ·exact ⟨rfl, om9⟩
  rintro j gG49 G49 _ hG49 ⟨rfl, hj⟩
  have hsl := slotS_len ss (l[i]'om9).slot j
  refine g9 9 ?_
  refine WC.cd (fun h22 p22 => ?_) (fun h22 p22 => ?_)
  ·refine g9 8 ?_
   have q53 := (h_ss.mono (hG48.trans hG49)).at (i := j) om9
   refine match q53 with | ⟨_, he50, ⟨_, _, _, _, _, _, _, _, qa_t51, qc_t51, e_52, hp_t51, hk_t51, hm_t51, hr_t51, hq_t51, hok_t51⟩⟩ => ?_
   subst e_52
   refine g9 6 ?_
   refine (h_l.mono (hG48.trans hG49)).aN (i := i) om9 (fun _ _ _ _ _ _ _ _ he54 hp_n55 hk_n55 hm_n55 hr_n55 hok_n55 => (g9 6 ?_))
   refine WC.cd (fun h36 p36 => ?_) (fun h36 p36 => ?_)
   ·refine g9 13 ?_
    exact ⟨Le.rfl, j + 1, ⟨(congrArg (fun n : Nat => Value.int .i64 (n : Int)) (by rw [slotS_t om9 p36]; simp)), eqv, eqv, eqv, eqv, trivial⟩, ⟨rfl, om9⟩, om9⟩
   refine g9 9 ?_
   exact ⟨Le.rfl, j + 1, ⟨(congrArg (fun n : Nat => Value.int .i64 (n : Int)) (by rw [slotS_f om9 p36])), eqv, eqv, eqv, eqv, trivial⟩, ⟨rfl, om9⟩, om9⟩
  refine g9 11 ?_
  refine WC.cn (fun h40 p40 => ?_) (fun h40 p40 => ?_)
  ·refine g9 12 ?_
   refine congrArg Value.bool ?_
   exact (decide_eq_false fun h => (by have h0 := h.2 i om9; have h1 := p40; rw [List.take_of_length_le om9] at h1; omega)).symm
  refine g9 9 ?_
  exact ⟨hG49, i + 1, hs9, ⟨rfl, om9, fun j h hj => by
      by_cases e : j = i
      · subst e; have h0 := p40; rw [List.take_of_length_le om9] at h0; omega
      · exact hi2 j h om9⟩, om9⟩
 refine g9 12 ?_
 refine congrArg Value.bool ?_
 exact (decide_eq_true ⟨om9, fun j h => hi2 j h om9⟩).symm

theorem placed_fc {G : GH} {cs_x : List Value} {x : Seat} (h_x : SeatC G cs_x x) (hks : ∀ m ∈ x.n.msgs, m.key.b.size < 140737488355328) :
    Fc Try.prog 63 [.agg (List.toArray cs_x)] G [] (fun v _ _ => v = .bool (decide (PlacedP x))) := by
 obtain ⟨pa_x, pc_x, ka_x, kc_x, ma_x, mc_x, ra_x, rc_x, qa_x, qc_x, rfl, hp_x, hk_x, hm_x, hr_x, hq_x, hok_x⟩ := h_x
 have h1 := hp_x.len47
 have h2 := hk_x.len47
 have h3 := hm_x.len47
 have h4 := hr_x.len47
 refine Fc.go [.tmp 2] Try.func63 Try.ntmps63 rfl (fun w0 => (g9 2 ?_))
 refine W.box (L := [iV _, iV _, lV _ _ _, lV _ _ _, sV _, .bool _, iV _, iV _, lV _ _ _, lV _ _ _, sV _, sV _, .bool _, lV _ _ _]) rfl rfl (fun b58 => (g9 12 ?_))
 refine W.ok (ok_neqB bo4 rfl rfl) (W.mv ?_)
 refine W.sp 14 rfl (fun h13 => ?_) (fun h13 => ?_)
 ·refine g9 19 ?_
  refine congrArg Value.bool ?_
  exact (decide_eq_false fun h => by have h1 := h.1.1; rw [h1] at h13; simp at h13).symm
 refine g9 17 ?_
 refine WC.cn (fun h21 p21 => ?_) (fun h21 p21 => ?_)
 ·refine g9 8 ?_
  refine congrArg Value.bool ?_
  exact (decide_eq_false fun h => by have h1 := h.1.2; rw [h1] at h21; simp at h21).symm
 refine g9 9 ?_
 refine WC.loop (X := Nat) (fun k => [(3, nt9 k), (1, pt9 b58)]) (fun k _ Ml => Ml = [(b58, ce9 39 [iV x.n.slot, iV x.n.level, lV pa_x (x.n.pivots).length pc_x, lV ka_x (x.n.kids).length kc_x, sV x.n.high.b, .bool x.n.top, iV x.n.right, iV x.n.seen, lV ma_x (x.n.msgs).length mc_x, lV ra_x (x.n.rows).length rc_x, sV (x.s).lo.b, sV (x.s).hi.b, .bool (x.s).opn, lV qa_x (x.ms).length qc_x])] ∧ ∀ i (h : i < x.n.rows.length), i < k → x.s.has x.n.rows[i].key = true) (fun k => x.n.rows.length - k) 0 hs9 ?_ ?_
 ·exact ⟨rfl, fun i _ h => by omega⟩
 rintro k gG59 G59 _ hG59 ⟨rfl, hk1⟩
 refine g9 11 ?_
 refine WC.cd (fun h28 p28 => ?_) (fun h28 p28 => ?_)
 ·refine g9 12 ?_
  refine (hr_x.mono hG59).a1 (i := k) om9 (fun he60 => (g9 3 ?_))
  refine W.qcall (has_fc _ _ _ _) rfl (g9 3 ?_)
  refine WC.cond rfl (fun h41 => ?_) (fun h41 => ?_)
  ·refine g9 12 ?_
   refine congrArg Value.bool ?_
   exact (decide_eq_false fun h => by have h1 := h.2.1 k om9; rw [h1] at h41; simp at h41).symm
  refine g9 9 ?_
  exact ⟨Le.rfl, k + 1, hs9, ⟨rfl, fun i h hi => by
      by_cases e : i = k
      · subst e; simpa using h41
      · exact hk1 i h om9⟩, om9⟩
 refine g9 12 ?_
 refine WC.loop (X := Nat) (fun k => [(4, nt9 k), (1, pt9 b58)]) (fun k _ Ml => Ml = [(b58, ce9 39 [iV x.n.slot, iV x.n.level, lV pa_x (x.n.pivots).length pc_x, lV ka_x (x.n.kids).length kc_x, sV x.n.high.b, .bool x.n.top, iV x.n.right, iV x.n.seen, lV ma_x (x.n.msgs).length mc_x, lV ra_x (x.n.rows).length rc_x, sV (x.s).lo.b, sV (x.s).hi.b, .bool (x.s).opn, lV qa_x (x.ms).length qc_x])] ∧ ∀ i (h : i < x.n.pivots.length), i < k → x.s.has x.n.pivots[i] = true ∧ x.n.pivots[i] ≠ x.s.lo) (fun k => x.n.pivots.length - k) 0 hs9 ?_ ?_
 ·exact ⟨rfl, fun i _ h => by omega⟩
 rintro k gG63 G63 _ hG63 ⟨rfl, hk2⟩
 refine g9 11 ?_
 refine WC.cond rfl (fun h47 => ?_) (fun h47 => ?_)
 ·have p47 := odt h47
  refine g9 12 ?_
  refine (hp_x.mono (hG59.trans hG63)).a1 (i := k) om9 (fun he64 => (g9 2 ?_))
  refine W.qcall (has_fc _ _ _ _) rfl (g9 2 ?_)
  refine W.sp 60 rfl (fun h59 => ?_) (fun h59 => ?_)
  ·refine g9 26 ?_
   refine congrArg Value.bool ?_
   exact (decide_eq_false fun h => by have h1 := (h.2.2.1 k om9).1; rw [h1] at h59; simp at h59).symm
  refine g9 9 ?_
  refine (hp_x.mono (hG59.trans hG63)).a1 (i := k) om9 (fun he67 => (g9 14 ?_))
  refine WC.cd (fun h70 p70 => ?_) (fun h70 p70 => ?_)
  ·refine g9 12 ?_
   refine congrArg Value.bool ?_
   exact (decide_eq_false fun h => by have h1 := (h.2.2.1 k om9).2; exact h1 (Str.ext' p70)).symm
  refine g9 9 ?_
  exact ⟨Le.rfl, k + 1, hs9, ⟨rfl, fun i h hi => by
      by_cases e : i = k
      · subst e; exact ⟨by simpa using h59, fun e => p70 (congrArg Str.b e)⟩
      · exact hk2 i h om9⟩, om9⟩
 have p47 := odf h47
 refine g9 12 ?_
 refine WC.loop (X := Nat) (fun k => [(5, nt9 k), (1, pt9 b58)]) (fun k _ Ml => Ml = [(b58, ce9 39 [iV x.n.slot, iV x.n.level, lV pa_x (x.n.pivots).length pc_x, lV ka_x (x.n.kids).length kc_x, sV x.n.high.b, .bool x.n.top, iV x.n.right, iV x.n.seen, lV ma_x (x.n.msgs).length mc_x, lV ra_x (x.n.rows).length rc_x, sV (x.s).lo.b, sV (x.s).hi.b, .bool (x.s).opn, lV qa_x (x.ms).length qc_x])] ∧ ∀ i (h : i < x.n.msgs.length), i < k → x.n.msgs[i].span.meet x.s = x.n.msgs[i].span.norm) (fun k => x.n.msgs.length - k) 0 hs9 ?_ ?_
 ·exact ⟨rfl, fun i _ h => by omega⟩
 rintro k gG70 G70 _ hG70 ⟨rfl, hk3⟩
 refine g9 11 ?_
 refine WC.cond rfl (fun h77 => ?_) (fun h77 => ?_)
 ·have p77 := odt h77
  refine g9 10 ?_
  refine (hm_x.mono ((hG59.trans hG63).trans hG70)).a2 (i := k) om9 (fun he71 hm72 => (g9 2 ?_))
  refine W.qcall (rspan_fc _ _ _ _ _ _ (hks _ (List.getElem_mem _))) rfl (W.alloc zr37 (fun b76 => (g9 8 ?_)))
  refine W.qcall (rmeet_fc _ _ _ _ _ _) rfl (g9 1 ?_)
  refine W.qcall (norm_fc _ _ _) rfl (W.ok (ok_neqA (L1 := [sV _, sV _, .bool _]) (L2 := [sV _, sV _, .bool _]) eq37 rfl rfl rfl rfl) (g9 2 ?_))
  refine WC.cond rfl (fun h93 => ?_) (fun h93 => ?_)
  ·refine g9 12 ?_
   refine congrArg Value.bool ?_
   exact (decide_eq_false fun h => by have h1 := h.2.2.2 k om9; have h0 : (!eqCells (((x.n.msgs[k]).span.meet x.s).cells) ((x.n.msgs[k]).span.norm.cells)) = true := h93; rw [Span.eqC, h1] at h0; simp at h0).symm
  refine g9 7 ?_
  refine W.sub (sr9.cons _) (g9 2 ?_)
  exact ⟨Le.rfl, k + 1, hs9, ⟨rfl, fun i h hi => by
      by_cases e : i = k
      · subst e; have h0 : (!eqCells (((x.n.msgs[i]).span.meet x.s).cells) ((x.n.msgs[i]).span.norm.cells)) = false := h93; rw [Span.eqC] at h0; simpa using h0
      · exact hk3 i h om9⟩, om9⟩
 have p77 := odf h77
 refine g9 12 ?_
 refine congrArg Value.bool ?_
 exact (decide_eq_true ⟨⟨by simpa using h13, Str.ext' p21⟩, (fun i h => hk1 i h om9), (fun i h => hk2 i h om9), fun i h => hk3 i h om9⟩).symm

theorem sound_fc {G : GH} (cfan : Int) (cleaf : Int) (cbud : Int) (cslots : Int) (crest : Int) {v_l : Value} {l : List Nd} (h_l : SlR eNode G v_l l) (hS : Sml l) :
    Fc Try.prog 32 [.agg #[iV cfan, iV cleaf, iV cbud, iV cslots, iV crest], v_l] G [] (fun v _ _ => v = .bool (soundN (⟨cfan, cleaf, cbud, cslots, crest⟩ : Cfg) l)) := by
 obtain ⟨sa_l, sc_l, rfl⟩ := h_l.form
 have hl := h_l.len47
 have hl100 := hS.1
 refine Fc.go [.tmp 4] Try.func32 Try.ntmps32 rfl (fun w0 => (g9 2 ?_))
 refine W.box (L := [iV _, iV _, iV _, iV _, iV _]) rfl rfl (fun b77 => (g9 6 ?_))
 refine W.call (Mp := []) (seats_fc h_l _ (by assumption)) rfl pr9 ?_
 intro v80 G78 _ hG78 q79
 have q81 := q79.1
 subst q81
 have q82 := q79.2
 refine Or.elim q82 (fun q83 => ?_) (fun q84 => ?_)
 ·refine match q83 with | ⟨u_s85, ss, hss, e_86, hv_s85, hqs⟩ => ?_
  subst e_86
  have q88 := hv_s85.form
  refine match q88 with | ⟨sa_s85, sc_s85, e_87⟩ => ?_
  subst e_87
  have hss47 := hv_s85.len47
  refine g9 18 ?_
  refine W.qcall (once_fc (h_l.mono hG78) hv_s85) rfl (g9 4 ?_)
  refine W.sp 23 rfl (fun h21 => ?_) (fun h21 => ?_)
  ·refine g9 22 ?_
   refine congrArg Value.bool ?_
   rw [soundN_t hss]
   exact (decide_eq_false fun h => by have h1 := h.1.1; simp [h1] at h21).symm
  refine g9 3 ?_
  refine W.qcall (linked_fc hv_s85) rfl (g9 4 ?_)
  refine W.sp 28 rfl (fun h26 => ?_) (fun h26 => ?_)
  ·refine g9 17 ?_
   refine congrArg Value.bool ?_
   rw [soundN_t hss]
   exact (decide_eq_false fun h => by have h1 := h.1.2.1; simp [h1] at h26).symm
  refine g9 13 ?_
  refine WC.cd (fun h33 p33 => ?_) (fun h33 p33 => ?_)
  ·refine g9 8 ?_
   refine congrArg Value.bool ?_
   rw [soundN_t hss]
   exact (decide_eq_false fun h => by have h1 := h.1.2.2; dsimp only at h1; omega).symm
  refine g9 9 ?_
  refine WC.loop (X := Nat) (fun i => [(7, nt9 i), (2, pt9 b77), (5, lV sa_s85 ss.length sc_s85)]) (fun i _ Ml => Ml = [(b77, ce9 23 [iV cfan, iV cleaf, iV cbud, iV cslots, iV crest])] ∧ i ≤ ss.length ∧ ∀ j (h : j < ss.length), j < i → SeatP (⟨cfan, cleaf, cbud, cslots, crest⟩ : Cfg) ss[j]) (fun i => ss.length - i) 0 hs9 ?_ ?_
  ·exact ⟨rfl, om9, fun j _ h => by omega⟩
  rintro i gG89 G89 _ hG89 ⟨rfl, hi, hi2⟩
  refine g9 9 ?_
  refine WC.cond rfl (fun h38 => ?_) (fun h38 => ?_)
  ·have p38 := odt h38
   refine g9 8 ?_
   have q93 := (hv_s85.mono hG89).at (i := i) om9
   refine match q93 with | ⟨_, he90, ⟨pa_t91, pc_t91, ka_t91, kc_t91, ma_t91, mc_t91, ra_t91, rc_t91, qa_t91, qc_t91, e_92, hp_t91, hk_t91, hm_t91, hr_t91, hq_t91, hok_t91⟩⟩ => ?_
   subst e_92
   obtain ⟨sx, hssx⟩ : ∃ y, y = ((ss)[i]) := ⟨_, rfl⟩
   rw [← hssx] at he90 hp_t91 hk_t91 hm_t91 hr_t91 hq_t91 hok_t91
   refine g9 2 ?_
   refine W.alloc zr39 (fun b94 => (g9 5 ?_))
   have hsx := hqs i om9
   rw [← hssx] at hsx
   have hms := hsx.ms
   have hnd := hS.at hsx.nd
   have hk1 : ∀ m ∈ sx.n.msgs, m.key.b.size < 140737488355328 := fun m hm => by have := hnd.2.2.2.2.2.1 m hm; omega
   refine g9 4 ?_
   refine W.qcall (nright_fc _ _ _ _ _ (nk9 hp_t91 hk_t91 hm_t91 hr_t91 hok_t91)) rfl (g9 2 ?_)
   refine W.sp 50 rfl (fun h49 => ?_) (fun h49 => ?_)
   ·refine g9 28 ?_
    refine congrArg Value.bool ?_
    rw [soundN_t hss]
    exact (decide_eq_false fun h => by have h1 := (h.2 i om9).1; rw [← hssx] at h1; dsimp only at h1; simp [h1] at h49).symm
   refine g9 3 ?_
   refine W.qcall (placed_fc ⟨_, _, _, _, _, _, _, _, _, _, rfl, hp_t91, hk_t91, hm_t91, hr_t91, hq_t91, hok_t91⟩ hk1) rfl (g9 4 ?_)
   refine W.sp 55 rfl (fun h53 => ?_) (fun h53 => ?_)
   ·refine g9 23 ?_
    refine congrArg Value.bool ?_
    rw [soundN_t hss]
    exact (decide_eq_false fun h => by have h1 := (h.2 i om9).2.1; rw [← hssx] at h1; simp [h1] at h53).symm
   refine g9 15 ?_
   refine WC.cd (fun h61 p61 => ?_) (fun h61 p61 => ?_)
   ·refine g9 13 ?_
    refine congrArg Value.bool ?_
    rw [soundN_t hss]
    exact (decide_eq_false fun h => by have h1 := (h.2 i om9).2.2.1; rw [← hssx] at h1; dsimp only at h1; omega).symm
   refine g9 8 ?_
   refine WC.loop (X := Nat) (fun j => [(9, nt9 j), (2, pt9 b77), (8, pt9 b94), (5, lV sa_s85 ss.length sc_s85), (7, nt9 i)]) (fun j _ Ml => Ml = [(b94, ce9 39 [iV sx.n.slot, iV sx.n.level, lV pa_t91 (sx.n.pivots).length pc_t91, lV ka_t91 (sx.n.kids).length kc_t91, sV sx.n.high.b, .bool sx.n.top, iV sx.n.right, iV sx.n.seen, lV ma_t91 (sx.n.msgs).length mc_t91, lV ra_t91 (sx.n.rows).length rc_t91, sV (sx.s).lo.b, sV (sx.s).hi.b, .bool (sx.s).opn, lV qa_t91 (sx.ms).length qc_t91]), (b77, ce9 23 [iV cfan, iV cleaf, iV cbud, iV cslots, iV crest])] ∧ ∀ j2 (h : j2 < sx.ms.length), j2 < j → sx.n.seen < sx.ms[j2].stamp) (fun j => sx.ms.length - j) 0 hs9 ?_ ?_
   ·exact ⟨rfl, fun i _ h => by omega⟩
   rintro j gG95 G95 _ hG95 ⟨rfl, hj2'⟩
   refine g9 10 ?_
   refine WC.cond rfl (fun h67 => ?_) (fun h67 => ?_)
   ·have p67 := odt h67
    refine g9 9 ?_
    refine (hq_t91.mono hG95).a2 (i := j) om9 (fun he96 hm97 => (g9 9 ?_))
    refine WC.cd (fun h79 p79 => ?_) (fun h79 p79 => ?_)
    ·refine g9 16 ?_
     refine congrArg Value.bool ?_
     rw [soundN_t hss]
     exact (decide_eq_false fun h => by have h1 := (h.2 i om9).2.2.2; rw [← hssx] at h1; have := h1 j om9; omega).symm
    refine g9 9 ?_
    exact ⟨Le.rfl, j + 1, hs9, ⟨rfl, fun i2 h hi3 => by
      by_cases e : i2 = j
      · subst e; omega
      · exact hj2' i2 h om9⟩, om9⟩
   have p67 := odf h67
   refine g9 10 ?_
   refine W.sub (sr9.cons _) (g9 2 ?_)
   exact ⟨hG95, i + 1, hs9, ⟨rfl, om9, fun j2 h hj2 => by
      by_cases e : j2 = i
      · subst e; rw [← hssx]; exact ⟨by simpa using h49, by simpa using h53, by dsimp only; omega, fun j2 h2 => hj2' j2 h2 om9⟩
      · exact hi2 j2 h om9⟩, om9⟩
  have p38 := odf h38
  refine g9 12 ?_
  refine congrArg Value.bool ?_
  rw [soundN_t hss]
  exact (decide_eq_true ⟨⟨by simpa using h21, by simpa using h26, by dsimp only; omega⟩, fun j h => hi2 j h om9⟩).symm
 refine match q84 with | ⟨u_s101, sxs101, hsn, e_102, hv_s101⟩ => ?_
 subst e_102
 refine g9 41 ?_
 refine congrArg Value.bool ?_
 exact (soundN_f hsn).symm

theorem tree_fc {G : GH} (cfan : Int) (cleaf : Int) (cbud : Int) (cslots : Int) (crest : Int) {v_l : Value} {l : List Nd} (h_l : SlR eNode G v_l l) (most : Int) (hm : 0 ≤ most ∧ most ≤ 60) :
    Fc Try.prog 6 [.agg #[iV cfan, iV cleaf, iV cbud, iV cslots, iV crest], v_l, iV most] G [] (fun v _ _ => v = .bool (treeN (⟨cfan, cleaf, cbud, cslots, crest⟩ : Cfg) l most)) := by
 obtain ⟨sa_l, sc_l, rfl⟩ := h_l.form
 have hl := h_l.len47
 refine Fc.go [.tmp 6] Try.func6 Try.ntmps6 rfl (fun w0 => (g9 2 ?_))
 refine W.box (L := [iV _, iV _, iV _, iV _, iV _]) rfl rfl (fun b103 => (g9 7 ?_))
 refine W.qcall (rright25_fc _ _ _ _ _) rfl (g9 2 ?_)
 refine W.sp 11 rfl (fun h10 => ?_) (fun h10 => ?_)
 ·refine g9 21 ?_
  refine congrArg Value.bool ?_
  exact (treeN_f fun h => by have h1 := h.1; simp [h1] at h10).symm
 refine g9 8 ?_
 refine W.sd 16 (fun h14 p14 => ?_) (fun h14 p14 => ?_)
 ·refine g9 16 ?_
  refine congrArg Value.bool ?_
  exact (treeN_f fun h => by have h1 := h.2.1; omega).symm
 refine g9 5 ?_
 refine W.qcall (light_fc h_l _ _ om9) rfl (g9 5 ?_)
 refine WC.cond rfl (fun h20 => ?_) (fun h20 => ?_)
 ·refine g9 8 ?_
  refine congrArg Value.bool ?_
  exact (treeN_f fun h => by have h1 := h.2.2.1; simp [h1] at h20).symm
 have hS : Sml l := sml_light (by simpa using h20) om9
 refine g9 9 ?_
 refine WC.loop (X := Nat) (fun i => [(7, nt9 i), (3, pt9 b103), (1, lV sa_l l.length sc_l)]) (fun i _ Ml => Ml = [(b103, ce9 23 [iV cfan, iV cleaf, iV cbud, iV cslots, iV crest])] ∧ i ≤ l.length ∧ ∀ j (h : j < l.length), j < i → l[j].slot = (j : Int) ∧ l[j].seen ≤ 1099511627776) (fun i => l.length - i) 0 hs9 ?_ ?_
 ·exact ⟨rfl, om9, fun j _ h => by omega⟩
 rintro i gG104 G104 _ hG104 ⟨rfl, hi, hi2⟩
 refine g9 9 ?_
 refine WC.cd (fun h25 p25 => ?_) (fun h25 p25 => ?_)
 ·refine g9 8 ?_
  refine (h_l.mono hG104).aN (i := i) om9 (fun _ _ _ _ _ _ _ _ he105 hp_n106 hk_n106 hm_n106 hr_n106 hok_n106 => (g9 6 ?_))
  refine W.sm 35 (fun h34 p34 => ?_) (fun h34 p34 => ?_)
  ·refine g9 22 ?_
   refine congrArg Value.bool ?_
   exact (treeN_f fun h => by have h1 := (h.2.2.2 i om9).1; omega).symm
  refine g9 5 ?_
  refine (h_l.mono hG104).aN (i := i) om9 (fun _ _ _ _ _ _ _ _ he109 hp_n110 hk_n110 hm_n110 hr_n110 hok_n110 => (g9 10 ?_))
  refine WC.cd (fun h41 p41 => ?_) (fun h41 p41 => ?_)
  ·refine g9 12 ?_
   refine congrArg Value.bool ?_
   exact (treeN_f fun h => by have h1 := (h.2.2.2 i om9).2; omega).symm
  refine g9 9 ?_
  exact ⟨Le.rfl, i + 1, hs9, ⟨rfl, om9, fun j h hj => by
      by_cases e : j = i
      · subst e; omega
      · exact hi2 j h om9⟩, om9⟩
 refine g9 9 ?_
 refine W.qcall (sound_fc _ _ _ _ _ (h_l.mono hG104) hS) rfl (g9 5 ?_)
 refine congrArg Value.bool ?_
 exact (treeN_t (by simpa using h10) om9 (by simpa using h20) fun j h => hi2 j h om9).symm

end Go.Proofs.Ytcngningbcaggaa
