/- Walks of functions that tell whether nodes are a sound tree. -/
import Derived.Test.YtfmigmijckdldaaGreatQgUo
set_option maxRecDepth 100000
set_option maxHeartbeats 1600000
set_option linter.unusedVariables false
set_option linter.unusedSimpArgs false
set_option linter.unnecessarySimpa false
namespace Go.Proofs.YtfmigmijckdldaaGreat
open Go Go.Fw Go.RowKit
attribute [local irreducible] Ok W WC
theorem linked_fc {G : GH} {v_ss : Value} {ss : List Seat} (h_ss : SlR eSeat G v_ss ss) :
    Fc Tryz.prog 39 [v_ss] G [] (fun v _ _ => v = .bool (decide (LinkedP ss))) := by
 obtain ⟨sa_ss, sc_ss, rfl⟩ := h_ss.form
 have hl := h_ss.len47
 refine Fc.go [.tmp 2] Tryz.func39 Tryz.ntmps39 rfl (fun w0 => (g9 12 ?_))
 refine WC.loop (X := Nat) (fun i => [(3, nt9 i), (0, lV sa_ss ss.length sc_ss)]) (fun i _ Ml => Ml = [] ∧ i ≤ ss.length ∧ ∀ j (h : j < ss.length), j < i → ss[j].n.right = wantN ss j) (fun i => ss.length - i) 0 hs9 ?_ ?_
 ·exact ⟨rfl, om9, fun j _ h => by omega⟩
 rintro i gG1 G1 _ hG1 ⟨rfl, hi, hi2⟩
 refine g9 9 ?_
 refine WC.cd (fun h8 p8 => ?_) (fun h8 p8 => ?_)
 ·refine g9 18 ?_
  refine W.sd 16 (fun h15 p15 => ?_) (fun h15 p15 => ?_)
  ·refine g9 7 ?_
   have q5 := (h_ss.mono hG1).at (i := i + 1) om9
   refine match q5 with | ⟨_, he2, ⟨_, _, _, _, _, _, _, _, qa_t3, qc_t3, e_4, hp_t3, hk_t3, hm_t3, hr_t3, hq_t3, hok_t3⟩⟩ => ?_
   subst e_4
   refine W.ok (ok_indexAddr (i := i + 1) sl46 ty57 (h_ss.mono hG1) rfl rfl ⟨om9, om9⟩) (g9 11 ?_)
   have q9 := (h_ss.mono hG1).at (i := i) om9
   refine match q9 with | ⟨_, he6, ⟨_, _, _, _, _, _, _, _, qa_t7, qc_t7, e_8, hp_t7, hk_t7, hm_t7, hr_t7, hq_t7, hok_t7⟩⟩ => ?_
   subst e_8
   refine g9 12 ?_
   refine WC.cd (fun h30 p30 => ?_) (fun h30 p30 => ?_)
   ·refine g9 4 ?_
    have q13 := (h_ss.mono hG1).at (i := i + 1) om9
    refine match q13 with | ⟨_, he10, ⟨_, _, _, _, _, _, _, _, qa_t11, qc_t11, e_12, hp_t11, hk_t11, hm_t11, hr_t11, hq_t11, hok_t11⟩⟩ => ?_
    subst e_12
    refine W.ok (ok_indexAddr (i := i + 1) sl46 ty57 (h_ss.mono hG1) rfl rfl ⟨om9, om9⟩) (g9 10 ?_)
    have q17 := (h_ss.mono hG1).at (i := i) om9
    refine match q17 with | ⟨_, he14, ⟨_, _, _, _, _, _, _, _, qa_t15, qc_t15, e_16, hp_t15, hk_t15, hm_t15, hr_t15, hq_t15, hok_t15⟩⟩ => ?_
    subst e_16
    refine g9 8 ?_
    refine WC.cn (fun h46 p46 => ?_) (fun h46 p46 => ?_)
    ·refine g9 12 ?_
     refine congrArg Value.bool ?_
     exact (decide_eq_false fun h => by have h := h i om9; rw [wantN_t om9 p30] at h; exact p46 h).symm
    refine g9 9 ?_
    exact ⟨Le.rfl, i + 1, hs9, ⟨rfl, om9, fun j h hj => by
      by_cases e : j = i
      · subst e; rw [wantN_t om9 p30]; exact p46
      · exact hi2 j h om9⟩, om9⟩
   refine g9 6 ?_
   have q21 := (h_ss.mono hG1).at (i := i) om9
   refine match q21 with | ⟨_, he18, ⟨_, _, _, _, _, _, _, _, qa_t19, qc_t19, e_20, hp_t19, hk_t19, hm_t19, hr_t19, hq_t19, hok_t19⟩⟩ => ?_
   subst e_20
   refine g9 8 ?_
   refine WC.cn (fun h46 p46 => ?_) (fun h46 p46 => ?_)
   ·refine g9 12 ?_
    refine congrArg Value.bool ?_
    exact (decide_eq_false fun h => by have h := h i om9; rw [wantN_g om9 p30] at h; exact p46 h).symm
   refine g9 9 ?_
   exact ⟨Le.rfl, i + 1, hs9, ⟨rfl, om9, fun j h hj => by
      by_cases e : j = i
      · subst e; rw [wantN_g om9 p30]; exact p46
      · exact hi2 j h om9⟩, om9⟩
  refine g9 24 ?_
  have q25 := (h_ss.mono hG1).at (i := i) om9
  refine match q25 with | ⟨_, he22, ⟨_, _, _, _, _, _, _, _, qa_t23, qc_t23, e_24, hp_t23, hk_t23, hm_t23, hr_t23, hq_t23, hok_t23⟩⟩ => ?_
  subst e_24
  refine g9 8 ?_
  refine WC.cn (fun h46 p46 => ?_) (fun h46 p46 => ?_)
  ·refine g9 12 ?_
   refine congrArg Value.bool ?_
   exact (decide_eq_false fun h => by have h := h i om9; rw [wantN_f om9] at h; exact p46 h).symm
  refine g9 9 ?_
  exact ⟨Le.rfl, i + 1, hs9, ⟨rfl, om9, fun j h hj => by
      by_cases e : j = i
      · subst e; rw [wantN_f om9]; exact p46
      · exact hi2 j h om9⟩, om9⟩
 refine g9 12 ?_
 refine congrArg Value.bool ?_
 exact (decide_eq_true (fun j h => hi2 j h om9)).symm

theorem once_fc {G : GH} {v_l : Value} {l : List Nd} (h_l : SlR eNode G v_l l) {v_ss : Value} {ss : List Seat} (h_ss : SlR eSeat G v_ss ss) :
    Fc Tryz.prog 38 [v_l, v_ss] G [] (fun v _ _ => v = .bool (decide (OnceP l ss))) := by
 obtain ⟨sa_l, sc_l, rfl⟩ := h_l.form
 obtain ⟨sa_ss, sc_ss, rfl⟩ := h_ss.form
 have hl := h_l.len47
 have hl2 := h_ss.len47
 refine Fc.go [.tmp 4] Tryz.func38 Tryz.ntmps38 rfl (fun w0 => (g9 15 ?_))
 refine WC.cn (fun h12 p12 => ?_) (fun h12 p12 => ?_)
 ·refine g9 8 ?_
  refine congrArg Value.bool ?_
  exact (decide_eq_false fun h => by have := h.1; omega).symm
 refine g9 9 ?_
 refine WC.loop (X := Nat) (fun i => [(5, nt9 i), (0, lV sa_l l.length sc_l), (1, lV sa_ss ss.length sc_ss)]) (fun i _ Ml => Ml = [] ∧ i ≤ l.length ∧ ∀ j (h : j < l.length), j < i → (slotS ss l[j].slot).length = 1) (fun i => l.length - i) 0 hs9 ?_ ?_
 ·exact ⟨rfl, om9, fun j _ h => by omega⟩
 rintro i gG26 G26 _ hG26 ⟨rfl, hi, hi2⟩
 refine g9 9 ?_
 refine WC.cd (fun h16 p16 => ?_) (fun h16 p16 => ?_)
 ·refine g9 16 ?_
  refine WC.loop (X := Nat) (fun j => [(6, nt9 ((slotS (ss.take j) (l[i]'om9).slot).length)), (7, nt9 j), (0, lV sa_l l.length sc_l), (1, lV sa_ss ss.length sc_ss), (5, nt9 i)]) (fun j _ Ml => Ml = [] ∧ j ≤ ss.length) (fun j => ss.length - j) 0 hs9 ?_ ?_
  ·exact ⟨rfl, om9⟩
  rintro j gG27 G27 _ hG27 ⟨rfl, hj⟩
  have hsl := slotS_len ss (l[i]'om9).slot j
  refine g9 9 ?_
  refine WC.cd (fun h22 p22 => ?_) (fun h22 p22 => ?_)
  ·refine g9 8 ?_
   have q31 := (h_ss.mono (hG26.trans hG27)).at (i := j) om9
   refine match q31 with | ⟨_, he28, ⟨_, _, _, _, _, _, _, _, qa_t29, qc_t29, e_30, hp_t29, hk_t29, hm_t29, hr_t29, hq_t29, hok_t29⟩⟩ => ?_
   subst e_30
   refine g9 6 ?_
   refine (h_l.mono (hG26.trans hG27)).aN (i := i) om9 (fun _ _ _ _ _ _ _ _ he32 hp_n33 hk_n33 hm_n33 hr_n33 hok_n33 => (g9 6 ?_))
   refine WC.cd (fun h36 p36 => ?_) (fun h36 p36 => ?_)
   ·refine g9 13 ?_
    exact ⟨Le.rfl, j + 1, ⟨(congrArg (fun n : Nat => Value.int .i64 (n : Int)) (by rw [slotS_t om9 p36]; simp)), eqv, eqv, eqv, eqv, trivial⟩, ⟨rfl, om9⟩, om9⟩
   refine g9 9 ?_
   exact ⟨Le.rfl, j + 1, ⟨(congrArg (fun n : Nat => Value.int .i64 (n : Int)) (by rw [slotS_f om9 p36])), eqv, eqv, eqv, eqv, trivial⟩, ⟨rfl, om9⟩, om9⟩
  refine g9 11 ?_
  refine WC.cn (fun h40 p40 => ?_) (fun h40 p40 => ?_)
  ·refine g9 12 ?_
   refine congrArg Value.bool ?_
   exact (decide_eq_false fun h => (by have h0 := h.2 i om9; have h1 := p40; rw [List.take_of_length_le om9] at h1; omega)).symm
  refine g9 9 ?_
  exact ⟨hG27, i + 1, hs9, ⟨rfl, om9, fun j h hj => by
      by_cases e : j = i
      · subst e; have h0 := p40; rw [List.take_of_length_le om9] at h0; omega
      · exact hi2 j h om9⟩, om9⟩
 refine g9 12 ?_
 refine congrArg Value.bool ?_
 exact (decide_eq_true ⟨om9, fun j h => hi2 j h om9⟩).symm

theorem placed_fc {G : GH} {cs_x : List Value} {x : Seat} (h_x : SeatC G cs_x x) (hks : ∀ m ∈ x.n.msgs, m.key.b.size < 140737488355328) :
    Fc Tryz.prog 41 [.agg (List.toArray cs_x)] G [] (fun v _ _ => v = .bool (decide (PlacedP x))) := by
 obtain ⟨pa_x, pc_x, ka_x, kc_x, ma_x, mc_x, ra_x, rc_x, qa_x, qc_x, rfl, hp_x, hk_x, hm_x, hr_x, hq_x, hok_x⟩ := h_x
 have h1 := hp_x.len47
 have h2 := hk_x.len47
 have h3 := hm_x.len47
 have h4 := hr_x.len47
 refine Fc.go [.tmp 2] Tryz.func41 Tryz.ntmps41 rfl (fun w0 => (g9 2 ?_))
 refine W.box (L := [iV _, iV _, lV _ _ _, lV _ _ _, sV _, .bool _, iV _, iV _, lV _ _ _, lV _ _ _, sV _, sV _, .bool _, lV _ _ _]) rfl rfl (fun b36 => (g9 12 ?_))
 refine W.ok (ok_neqB bo4 rfl rfl) (W.mv ?_)
 refine W.sp 14 rfl (fun h13 => ?_) (fun h13 => ?_)
 ·refine g9 19 ?_
  refine congrArg Value.bool ?_
  exact (decide_eq_false fun h => by have h1 := h.1.1; rw [h1] at h13; simp at h13).symm
 refine g9 17 ?_
 refine WC.cn (fun h21 p21 => ?_) (fun h21 p21 => ?_)
 ·refine g9 8 ?_
  refine congrArg Value.bool ?_
  exact (decide_eq_false fun h => by have h1 := h.1.2; rw [h1] at h21; simp at h21).symm
 refine g9 9 ?_
 refine WC.loop (X := Nat) (fun k => [(3, nt9 k), (1, pt9 b36)]) (fun k _ Ml => Ml = [(b36, ce9 57 [iV x.n.slot, iV x.n.level, lV pa_x (x.n.pivots).length pc_x, lV ka_x (x.n.kids).length kc_x, sV x.n.high.b, .bool x.n.top, iV x.n.right, iV x.n.seen, lV ma_x (x.n.msgs).length mc_x, lV ra_x (x.n.rows).length rc_x, sV (x.s).lo.b, sV (x.s).hi.b, .bool (x.s).opn, lV qa_x (x.ms).length qc_x])] ∧ ∀ i (h : i < x.n.rows.length), i < k → x.s.has x.n.rows[i].key = true) (fun k => x.n.rows.length - k) 0 hs9 ?_ ?_
 ·exact ⟨rfl, fun i _ h => by omega⟩
 rintro k gG37 G37 _ hG37 ⟨rfl, hk1⟩
 refine g9 11 ?_
 refine WC.cd (fun h28 p28 => ?_) (fun h28 p28 => ?_)
 ·refine g9 12 ?_
  refine (hr_x.mono hG37).a1 (i := k) om9 (fun he38 => (g9 3 ?_))
  refine W.qcall (has_fc _ _ _ _) rfl (g9 3 ?_)
  refine WC.cond rfl (fun h41 => ?_) (fun h41 => ?_)
  ·refine g9 12 ?_
   refine congrArg Value.bool ?_
   exact (decide_eq_false fun h => by have h1 := h.2.1 k om9; rw [h1] at h41; simp at h41).symm
  refine g9 9 ?_
  exact ⟨Le.rfl, k + 1, hs9, ⟨rfl, fun i h hi => by
      by_cases e : i = k
      · subst e; simpa using h41
      · exact hk1 i h om9⟩, om9⟩
 refine g9 12 ?_
 refine WC.loop (X := Nat) (fun k => [(4, nt9 k), (1, pt9 b36)]) (fun k _ Ml => Ml = [(b36, ce9 57 [iV x.n.slot, iV x.n.level, lV pa_x (x.n.pivots).length pc_x, lV ka_x (x.n.kids).length kc_x, sV x.n.high.b, .bool x.n.top, iV x.n.right, iV x.n.seen, lV ma_x (x.n.msgs).length mc_x, lV ra_x (x.n.rows).length rc_x, sV (x.s).lo.b, sV (x.s).hi.b, .bool (x.s).opn, lV qa_x (x.ms).length qc_x])] ∧ ∀ i (h : i < x.n.pivots.length), i < k → x.s.has x.n.pivots[i] = true ∧ x.n.pivots[i] ≠ x.s.lo) (fun k => x.n.pivots.length - k) 0 hs9 ?_ ?_
 ·exact ⟨rfl, fun i _ h => by omega⟩
 rintro k gG41 G41 _ hG41 ⟨rfl, hk2⟩
 refine g9 11 ?_
 refine WC.cond rfl (fun h47 => ?_) (fun h47 => ?_)
 ·have p47 := odt h47
  refine g9 12 ?_
  refine (hp_x.mono (hG37.trans hG41)).a1 (i := k) om9 (fun he42 => (g9 2 ?_))
  refine W.qcall (has_fc _ _ _ _) rfl (g9 2 ?_)
  refine W.sp 60 rfl (fun h59 => ?_) (fun h59 => ?_)
  ·refine g9 26 ?_
   refine congrArg Value.bool ?_
   exact (decide_eq_false fun h => by have h1 := (h.2.2.1 k om9).1; rw [h1] at h59; simp at h59).symm
  refine g9 9 ?_
  refine (hp_x.mono (hG37.trans hG41)).a1 (i := k) om9 (fun he45 => (g9 14 ?_))
  refine WC.cd (fun h70 p70 => ?_) (fun h70 p70 => ?_)
  ·refine g9 12 ?_
   refine congrArg Value.bool ?_
   exact (decide_eq_false fun h => by have h1 := (h.2.2.1 k om9).2; exact h1 (Str.ext' p70)).symm
  refine g9 9 ?_
  exact ⟨Le.rfl, k + 1, hs9, ⟨rfl, fun i h hi => by
      by_cases e : i = k
      · subst e; exact ⟨by simpa using h59, fun e => p70 (congrArg Str.b e)⟩
      · exact hk2 i h om9⟩, om9⟩
 have p47 := odf h47
 refine g9 12 ?_
 refine WC.loop (X := Nat) (fun k => [(5, nt9 k), (1, pt9 b36)]) (fun k _ Ml => Ml = [(b36, ce9 57 [iV x.n.slot, iV x.n.level, lV pa_x (x.n.pivots).length pc_x, lV ka_x (x.n.kids).length kc_x, sV x.n.high.b, .bool x.n.top, iV x.n.right, iV x.n.seen, lV ma_x (x.n.msgs).length mc_x, lV ra_x (x.n.rows).length rc_x, sV (x.s).lo.b, sV (x.s).hi.b, .bool (x.s).opn, lV qa_x (x.ms).length qc_x])] ∧ ∀ i (h : i < x.n.msgs.length), i < k → x.n.msgs[i].span.meet x.s = x.n.msgs[i].span.norm) (fun k => x.n.msgs.length - k) 0 hs9 ?_ ?_
 ·exact ⟨rfl, fun i _ h => by omega⟩
 rintro k gG48 G48 _ hG48 ⟨rfl, hk3⟩
 refine g9 11 ?_
 refine WC.cond rfl (fun h77 => ?_) (fun h77 => ?_)
 ·have p77 := odt h77
  refine g9 10 ?_
  refine (hm_x.mono ((hG37.trans hG41).trans hG48)).a2 (i := k) om9 (fun he49 hm50 => (g9 2 ?_))
  refine W.qcall (rspan_fc _ _ _ _ _ _ (hks _ (List.getElem_mem _))) rfl (W.alloc zr55 (fun b54 => (g9 8 ?_)))
  refine W.qcall (rmeet_fc _ _ _ _ _ _) rfl (g9 1 ?_)
  refine W.qcall (norm_fc _ _ _) rfl (W.ok (ok_neqA (L1 := [sV _, sV _, .bool _]) (L2 := [sV _, sV _, .bool _]) eq55 rfl rfl rfl rfl) (g9 2 ?_))
  refine WC.cond rfl (fun h93 => ?_) (fun h93 => ?_)
  ·refine g9 12 ?_
   refine congrArg Value.bool ?_
   exact (decide_eq_false fun h => by have h1 := h.2.2.2 k om9; have h0 : (!eqCells (((x.n.msgs[k]).span.meet x.s).cells) ((x.n.msgs[k]).span.norm.cells)) = true := h93; rw [Span.eqC, h1] at h0; simp at h0).symm
  refine g9 7 ?_
  refine W.sub (sr9.cons _) (g9 2 ?_)
  exact ⟨Le.rfl, k + 1, hs9, ⟨rfl, fun i h hi => by
      by_cases e : i = k
      · subst e; have h0 : (!eqCells (((x.n.msgs[i]).span.meet x.s).cells) ((x.n.msgs[i]).span.norm.cells)) = false := h93; rw [Span.eqC] at h0; simpa using h0
      · exact hk3 i h om9⟩, om9⟩
 have p77 := odf h77
 refine g9 12 ?_
 refine congrArg Value.bool ?_
 exact (decide_eq_true ⟨⟨by simpa using h13, Str.ext' p21⟩, (fun i h => hk1 i h om9), (fun i h => hk2 i h om9), fun i h => hk3 i h om9⟩).symm

theorem sound_fc {G : GH} (cfan : Int) (cleaf : Int) (cbud : Int) (cslots : Int) (crest : Int) {v_l : Value} {l : List Nd} (h_l : SlR eNode G v_l l) (hS : Sml l) :
    Fc Tryz.prog 13 [.agg #[iV cfan, iV cleaf, iV cbud, iV cslots, iV crest], v_l] G [] (fun v _ _ => v = .bool (soundN (⟨cfan, cleaf, cbud, cslots, crest⟩ : Cfg) l)) := by
 obtain ⟨sa_l, sc_l, rfl⟩ := h_l.form
 have hl := h_l.len47
 have hl100 := hS.1
 refine Fc.go [.tmp 4] Tryz.func13 Tryz.ntmps13 rfl (fun w0 => (g9 2 ?_))
 refine W.box (L := [iV _, iV _, iV _, iV _, iV _]) rfl rfl (fun b55 => (g9 6 ?_))
 refine W.call (Mp := []) (seats_fc h_l _ (by assumption)) rfl pr9 ?_
 intro v58 G56 _ hG56 q57
 have q59 := q57.1
 subst q59
 have q60 := q57.2
 refine Or.elim q60 (fun q61 => ?_) (fun q62 => ?_)
 ·refine match q61 with | ⟨u_s63, ss, hss, e_64, hv_s63, hqs⟩ => ?_
  subst e_64
  have q66 := hv_s63.form
  refine match q66 with | ⟨sa_s63, sc_s63, e_65⟩ => ?_
  subst e_65
  have hss47 := hv_s63.len47
  refine g9 18 ?_
  refine W.qcall (once_fc (h_l.mono hG56) hv_s63) rfl (g9 4 ?_)
  refine W.sp 23 rfl (fun h21 => ?_) (fun h21 => ?_)
  ·refine g9 22 ?_
   refine congrArg Value.bool ?_
   rw [soundN_t hss]
   exact (decide_eq_false fun h => by have h1 := h.1.1; simp [h1] at h21).symm
  refine g9 3 ?_
  refine W.qcall (linked_fc hv_s63) rfl (g9 4 ?_)
  refine W.sp 28 rfl (fun h26 => ?_) (fun h26 => ?_)
  ·refine g9 17 ?_
   refine congrArg Value.bool ?_
   rw [soundN_t hss]
   exact (decide_eq_false fun h => by have h1 := h.1.2.1; simp [h1] at h26).symm
  refine g9 13 ?_
  refine WC.cd (fun h33 p33 => ?_) (fun h33 p33 => ?_)
  ·refine g9 8 ?_
   refine congrArg Value.bool ?_
   rw [soundN_t hss]
   exact (decide_eq_false fun h => by have h1 := h.1.2.2; dsimp only at h1; omega).symm
  refine g9 9 ?_
  refine WC.loop (X := Nat) (fun i => [(7, nt9 i), (2, pt9 b55), (5, lV sa_s63 ss.length sc_s63)]) (fun i _ Ml => Ml = [(b55, ce9 23 [iV cfan, iV cleaf, iV cbud, iV cslots, iV crest])] ∧ i ≤ ss.length ∧ ∀ j (h : j < ss.length), j < i → SeatP (⟨cfan, cleaf, cbud, cslots, crest⟩ : Cfg) ss[j]) (fun i => ss.length - i) 0 hs9 ?_ ?_
  ·exact ⟨rfl, om9, fun j _ h => by omega⟩
  rintro i gG67 G67 _ hG67 ⟨rfl, hi, hi2⟩
  refine g9 9 ?_
  refine WC.cond rfl (fun h38 => ?_) (fun h38 => ?_)
  ·have p38 := odt h38
   refine g9 8 ?_
   have q71 := (hv_s63.mono hG67).at (i := i) om9
   refine match q71 with | ⟨_, he68, ⟨pa_t69, pc_t69, ka_t69, kc_t69, ma_t69, mc_t69, ra_t69, rc_t69, qa_t69, qc_t69, e_70, hp_t69, hk_t69, hm_t69, hr_t69, hq_t69, hok_t69⟩⟩ => ?_
   subst e_70
   obtain ⟨sx, hssx⟩ : ∃ y, y = ((ss)[i]) := ⟨_, rfl⟩
   rw [← hssx] at he68 hp_t69 hk_t69 hm_t69 hr_t69 hq_t69 hok_t69
   refine g9 2 ?_
   refine W.alloc zr57 (fun b72 => (g9 5 ?_))
   have hsx := hqs i om9
   rw [← hssx] at hsx
   have hms := hsx.ms
   have hnd := hS.at hsx.nd
   have hk1 : ∀ m ∈ sx.n.msgs, m.key.b.size < 140737488355328 := fun m hm => by have := hnd.2.2.2.2.2.1 m hm; omega
   refine g9 4 ?_
   refine W.qcall (nright_fc _ _ _ _ _ (nk9 hp_t69 hk_t69 hm_t69 hr_t69 hok_t69)) rfl (g9 2 ?_)
   refine W.sp 50 rfl (fun h49 => ?_) (fun h49 => ?_)
   ·refine g9 28 ?_
    refine congrArg Value.bool ?_
    rw [soundN_t hss]
    exact (decide_eq_false fun h => by have h1 := (h.2 i om9).1; rw [← hssx] at h1; dsimp only at h1; simp [h1] at h49).symm
   refine g9 3 ?_
   refine W.qcall (placed_fc ⟨_, _, _, _, _, _, _, _, _, _, rfl, hp_t69, hk_t69, hm_t69, hr_t69, hq_t69, hok_t69⟩ hk1) rfl (g9 4 ?_)
   refine W.sp 55 rfl (fun h53 => ?_) (fun h53 => ?_)
   ·refine g9 23 ?_
    refine congrArg Value.bool ?_
    rw [soundN_t hss]
    exact (decide_eq_false fun h => by have h1 := (h.2 i om9).2.1; rw [← hssx] at h1; simp [h1] at h53).symm
   refine g9 15 ?_
   refine WC.cd (fun h61 p61 => ?_) (fun h61 p61 => ?_)
   ·refine g9 13 ?_
    refine congrArg Value.bool ?_
    rw [soundN_t hss]
    exact (decide_eq_false fun h => by have h1 := (h.2 i om9).2.2.1; rw [← hssx] at h1; dsimp only at h1; omega).symm
   refine g9 8 ?_
   refine WC.loop (X := Nat) (fun j => [(9, nt9 j), (2, pt9 b55), (8, pt9 b72), (5, lV sa_s63 ss.length sc_s63), (7, nt9 i)]) (fun j _ Ml => Ml = [(b72, ce9 57 [iV sx.n.slot, iV sx.n.level, lV pa_t69 (sx.n.pivots).length pc_t69, lV ka_t69 (sx.n.kids).length kc_t69, sV sx.n.high.b, .bool sx.n.top, iV sx.n.right, iV sx.n.seen, lV ma_t69 (sx.n.msgs).length mc_t69, lV ra_t69 (sx.n.rows).length rc_t69, sV (sx.s).lo.b, sV (sx.s).hi.b, .bool (sx.s).opn, lV qa_t69 (sx.ms).length qc_t69]), (b55, ce9 23 [iV cfan, iV cleaf, iV cbud, iV cslots, iV crest])] ∧ ∀ j2 (h : j2 < sx.ms.length), j2 < j → sx.n.seen < sx.ms[j2].stamp) (fun j => sx.ms.length - j) 0 hs9 ?_ ?_
   ·exact ⟨rfl, fun i _ h => by omega⟩
   rintro j gG73 G73 _ hG73 ⟨rfl, hj2'⟩
   refine g9 10 ?_
   refine WC.cond rfl (fun h67 => ?_) (fun h67 => ?_)
   ·have p67 := odt h67
    refine g9 9 ?_
    refine (hq_t69.mono hG73).a2 (i := j) om9 (fun he74 hm75 => (g9 9 ?_))
    refine WC.cd (fun h79 p79 => ?_) (fun h79 p79 => ?_)
    ·refine g9 16 ?_
     refine congrArg Value.bool ?_
     rw [soundN_t hss]
     exact (decide_eq_false fun h => by have h1 := (h.2 i om9).2.2.2; rw [← hssx] at h1; have := h1 j om9; omega).symm
    refine g9 9 ?_
    exact ⟨Le.rfl, j + 1, hs9, ⟨rfl, fun i2 h hi3 => by
      by_cases e : i2 = j
      · subst e; omega
      · exact hj2' i2 h om9⟩, om9⟩
   have p67 := odf h67
   refine g9 10 ?_
   refine W.sub (sr9.cons _) (g9 2 ?_)
   exact ⟨hG73, i + 1, hs9, ⟨rfl, om9, fun j2 h hj2 => by
      by_cases e : j2 = i
      · subst e; rw [← hssx]; exact ⟨by simpa using h49, by simpa using h53, by dsimp only; omega, fun j2 h2 => hj2' j2 h2 om9⟩
      · exact hi2 j2 h om9⟩, om9⟩
  have p38 := odf h38
  refine g9 12 ?_
  refine congrArg Value.bool ?_
  rw [soundN_t hss]
  exact (decide_eq_true ⟨⟨by simpa using h21, by simpa using h26, by dsimp only; omega⟩, fun j h => hi2 j h om9⟩).symm
 refine match q62 with | ⟨u_s79, sxs79, hsn, e_80, hv_s79⟩ => ?_
 subst e_80
 refine g9 41 ?_
 refine congrArg Value.bool ?_
 exact (soundN_f hsn).symm

theorem tree_fc {G : GH} (cfan : Int) (cleaf : Int) (cbud : Int) (cslots : Int) (crest : Int) {v_l : Value} {l : List Nd} (h_l : SlR eNode G v_l l) (most : Int) (hm : 0 ≤ most ∧ most ≤ 60) :
    Fc Tryz.prog 5 [.agg #[iV cfan, iV cleaf, iV cbud, iV cslots, iV crest], v_l, iV most] G [] (fun v _ _ => v = .bool (treeN (⟨cfan, cleaf, cbud, cslots, crest⟩ : Cfg) l most)) := by
 obtain ⟨sa_l, sc_l, rfl⟩ := h_l.form
 have hl := h_l.len47
 refine Fc.go [.tmp 6] Tryz.func5 Tryz.ntmps5 rfl (fun w0 => (g9 2 ?_))
 refine W.box (L := [iV _, iV _, iV _, iV _, iV _]) rfl rfl (fun b81 => (g9 7 ?_))
 refine W.qcall (rright25_fc _ _ _ _ _) rfl (g9 2 ?_)
 refine W.sp 11 rfl (fun h10 => ?_) (fun h10 => ?_)
 ·refine g9 21 ?_
  refine congrArg Value.bool ?_
  exact (treeN_f fun h => by have h1 := h.1; simp [h1] at h10).symm
 refine g9 8 ?_
 refine W.sd 16 (fun h14 p14 => ?_) (fun h14 p14 => ?_)
 ·refine g9 16 ?_
  refine congrArg Value.bool ?_
  exact (treeN_f fun h => by have h1 := h.2.1; omega).symm
 refine g9 5 ?_
 refine W.qcall (light_fc h_l _ _ om9) rfl (g9 5 ?_)
 refine WC.cond rfl (fun h20 => ?_) (fun h20 => ?_)
 ·refine g9 8 ?_
  refine congrArg Value.bool ?_
  exact (treeN_f fun h => by have h1 := h.2.2.1; simp [h1] at h20).symm
 have hS : Sml l := sml_light (by simpa using h20) om9
 refine g9 9 ?_
 refine WC.loop (X := Nat) (fun i => [(7, nt9 i), (3, pt9 b81), (1, lV sa_l l.length sc_l)]) (fun i _ Ml => Ml = [(b81, ce9 23 [iV cfan, iV cleaf, iV cbud, iV cslots, iV crest])] ∧ i ≤ l.length ∧ ∀ j (h : j < l.length), j < i → l[j].slot = (j : Int) ∧ l[j].seen ≤ 1099511627776) (fun i => l.length - i) 0 hs9 ?_ ?_
 ·exact ⟨rfl, om9, fun j _ h => by omega⟩
 rintro i gG82 G82 _ hG82 ⟨rfl, hi, hi2⟩
 refine g9 9 ?_
 refine WC.cd (fun h25 p25 => ?_) (fun h25 p25 => ?_)
 ·refine g9 8 ?_
  refine (h_l.mono hG82).aN (i := i) om9 (fun _ _ _ _ _ _ _ _ he83 hp_n84 hk_n84 hm_n84 hr_n84 hok_n84 => (g9 6 ?_))
  refine W.sm 35 (fun h34 p34 => ?_) (fun h34 p34 => ?_)
  ·refine g9 22 ?_
   refine congrArg Value.bool ?_
   exact (treeN_f fun h => by have h1 := (h.2.2.2 i om9).1; omega).symm
  refine g9 5 ?_
  refine (h_l.mono hG82).aN (i := i) om9 (fun _ _ _ _ _ _ _ _ he87 hp_n88 hk_n88 hm_n88 hr_n88 hok_n88 => (g9 10 ?_))
  refine WC.cd (fun h41 p41 => ?_) (fun h41 p41 => ?_)
  ·refine g9 12 ?_
   refine congrArg Value.bool ?_
   exact (treeN_f fun h => by have h1 := (h.2.2.2 i om9).2; omega).symm
  refine g9 9 ?_
  exact ⟨Le.rfl, i + 1, hs9, ⟨rfl, om9, fun j h hj => by
      by_cases e : j = i
      · subst e; omega
      · exact hi2 j h om9⟩, om9⟩
 refine g9 9 ?_
 refine W.qcall (sound_fc _ _ _ _ _ (h_l.mono hG82) hS) rfl (g9 5 ?_)
 refine congrArg Value.bool ?_
 exact (treeN_t (by simpa using h10) om9 (by simpa using h20) fun j h => hi2 j h om9).symm

end Go.Proofs.YtfmigmijckdldaaGreat
namespace Go.Proofs.YtfmigmijckdldaaGreat
open Go Go.Fw Go.RowKit
attribute [local irreducible] Ok W WC
theorem ptake_at {G : GH} {b : Nat} {c : Cfg} {l : List Nd} {M : MH} (h : StR 53 4 3 125 78 b c G l M) (hr : l.length < c.slots.toNat) {cs : List Value} {x : Nd} (hx : NodeC G cs x) (k : Int) (hk : k = l.length) : Fc Tryz.prog 26 [pt9 b, .agg (List.toArray cs)] G M (fun v G' M' => v = .tuple #[iV k, iV 0] ∧ StR 53 4 3 125 78 b c G' (tk l x) M') :=
  (ptake_fc h hx).mono fun v G' M' _ ⟨e1, e2⟩ => by rw [take_tk hr] at e1 e2; exact ⟨by rw [e1, hk], e2⟩
theorem pset_at {G : GH} {b : Nat} {c : Cfg} {l : List Nd} {M : MH} (h : StR 53 4 3 125 78 b c G l M) {cs : List Value} {x : Nd} (hs : 0 ≤ x.slot ∧ x.slot < l.length) (hx : NodeC G cs x) : Fc Tryz.prog 27 [pt9 b, .agg (List.toArray cs)] G M (fun v G' M' => v = iV 0 ∧ StR 53 4 3 125 78 b c G' (l.set x.slot.toNat x) M') :=
  (pset_fc h hx).mono fun v G' M' _ ⟨e1, e2⟩ => by rw [putL_t hs] at e1 e2; exact ⟨e1, e2⟩
theorem StR.to {b : Nat} {c : Cfg} {G : GH} {l l' : List Nd} {M : MH} (h : StR 53 4 3 125 78 b c G l M) (e : l = l') : StR 53 4 3 125 78 b c G l' M := e ▸ h
theorem glift_fc {G : GH} {b_s : Nat} {c c2 : Cfg} {l : List Nd} {ss : List Seat} {Ms_s : MH} (h_s : StR 53 4 3 125 78 b_s c G l Ms_s) (t : Tree c2 l ss) :
    Fc Tryz.prog 29 [pt9 b_s] G Ms_s (fun v G' M' => v = iV (liftS c l).1 ∧ StR 53 4 3 125 78 b_s c G' (liftS c l).2 M') := by
 have hp0 := t.pos
 have hl100 := t.sml.1
 have hrn := t.rootn
 have hn0 : (getL l 0).slot = 0 := by rw [← hrn]; exact t.root0
 have hlvl := t.height
 rw [hrn] at hlvl
 have hlv0 := t.lvl t.root
 rw [hrn] at hlv0
 have hz0 : i64 0 := ⟨by decide, by decide⟩
 have hlv : i64 ((getL l 0).level + 1) := ⟨om9, om9⟩
 have hks : ∀ m ∈ (getL l 0).msgs, m.key.b.size < 140737488355328 := fun m hm => by rw [← hrn] at hm; have := (msgR_key ((t.msgs t.root).2.1 m hm)).1; omega
 have hxi : i64 (l.length : Int) := ⟨om9, om9⟩
 have hyi : i64 ((l.length : Int) + 1) := ⟨om9, om9⟩
 refine Fc.go [.tmp 2] Tryz.func29 Tryz.ntmps29 rfl (fun w0 => (WC.perm (M' := (Ms_s ++ [])) (by simp) (g9 8 ?_)))
 refine W.call (Mp := Ms_s) (pnode_fc h_s _) rfl pr9 ?_
 intro v11 G8 Ms10 hG8 q9
 refine match q9 with | ⟨⟨_, e_13, ⟨_, _, _, _, _, _, _, _, e_14, hp_hR12, hk_hR12, hm_hR12, hr_hR12, hok_hR12⟩⟩, eeq9⟩ => ?_
 subst e_13
 subst e_14
 have eeq9 := eeq9.symm
 subst eeq9
 refine g9 3 ?_
 refine W.alloc zr53 (fun b15 => (g9 11 ?_))
 refine WC.cn (fun h23 p23 => ?_) (fun h23 p23 => ?_)
 ·try dsimp only at p23
  exfalso; omega
 try dsimp only at p23
 refine g9 6 ?_
 refine W.call (Mp := []) (clift_fc (nk9 hp_hR12 hk_hR12 hm_hR12 hr_hR12 hok_hR12) 0 0 (by assumption) (by assumption) hlv hks) rfl pr9 ?_
 intro _ G16 _ hG16 q20
 refine match q20 with | ⟨e_21, _, e_22, _, _, _, e_23, hv17, hv18, hv19⟩ => ?_
 subst e_21
 subst e_22
 subst e_23
 refine match hv17 with | ⟨_, _, _, _, _, _, _, _, e_24, hp_hv17, hk_hv17, hm_hv17, hr_hv17, hok_hv17⟩ => ?_
 subst e_24
 refine match hv18 with | ⟨_, _, _, _, _, _, _, _, e_25, hp_hv18, hk_hv18, hm_hv18, hr_hv18, hok_hv18⟩ => ?_
 subst e_25
 refine match hv19 with | ⟨_, _, _, _, _, _, _, _, e_26, hp_hv19, hk_hv19, hm_hv19, hr_hv19, hok_hv19⟩ => ?_
 subst e_26
 refine g9 5 ?_
 refine W.alloc zr53 (fun b27 => (W.alloc zr53 (fun b28 => (W.alloc zr53 (fun b29 => (g9 12 ?_))))))
 refine WC.cond rfl (fun h32 => ?_) (fun h32 => ?_)
 ·refine g9 7 ?_
  refine ⟨.inr rfl, [_], ⟨rfl, trivial⟩, Ms_s, ((((List.sublist_append_left _ _).cons _).cons _).cons _).cons _, ?_⟩
  exact ⟨congrArg (fun p : Int × List Nd => Value.int .i64 p.1) (liftS_6 (by simpa using h32)).symm, StR.to (StR.mono lec h_s) (congrArg Prod.snd (liftS_6 (by simpa using h32))).symm⟩
 have hok : (liftN (getL l 0) 0 0).2.2.2 = true := by simpa using h32
 obtain ⟨hs1, hs2, hs3⟩ := liftN_slots (x := (l.length : Int)) (y := (l.length : Int) + 1) hok
 rw [hn0] at hs1
 refine g9 6 ?_
 refine W.call (Mp := Ms_s) (proom_fc (StR.mono lec h_s)) rfl (pmC (pmC (pmC (pmC pr9)))) ?_
 intro v33 G30 Ms32 hG30 q31
 refine match q31 with | ⟨e_35, eeq31⟩ => ?_
 subst e_35
 have eeq31 := eeq31.symm
 subst eeq31
 refine W.perm (pmC (pmC (pmC (pmC pr9)))).symm (g9 3 ?_)
 refine WC.cd (fun h35 p35 => ?_) (fun h35 p35 => ?_)
 ·try dsimp only at p35
  refine g9 7 ?_
  refine ⟨.inr rfl, [_], ⟨rfl, trivial⟩, Ms_s, ((((List.sublist_append_left _ _).cons _).cons _).cons _).cons _, ?_⟩
  exact ⟨congrArg (fun p : Int × List Nd => Value.int .i64 p.1) (liftS_4 hok om9).symm, StR.to (StR.mono lec h_s) (congrArg Prod.snd (liftS_4 hok om9)).symm⟩
 try dsimp only at p35
 refine g9 6 ?_
 refine W.call (Mp := Ms_s) (ptake_at (StR.mono lec h_s) om9 (nm9 lec hp_hR12 hk_hR12 hm_hR12 hr_hR12 hok_hR12) (l.length : Int) (by rfl)) rfl (pmC (pmC (pmC (pmC pr9)))) ?_
 intro v39 G36 Ms38 hG36 q37
 refine match q37 with | ⟨e_41, hR40⟩ => ?_
 subst e_41
 refine W.perm (pmC (pmC (pmC (pmC pr9)))).symm (g9 11 ?_)
 refine W.call (Mp := Ms38) (ptake_at hR40 (by rw [tk_len]; omega) (nm9 lec hp_hR12 hk_hR12 hm_hR12 hr_hR12 hok_hR12) ((l.length : Int) + 1) (by rw [tk_len]; omega)) rfl (pmC (pmC (pmC (pmC pr9)))) ?_
 intro v45 G42 Ms44 hG42 q43
 refine match q43 with | ⟨e_47, hR46⟩ => ?_
 subst e_47
 refine W.perm (pmC (pmC (pmC (pmC pr9)))).symm (g9 12 ?_)
 refine W.call (Mp := []) (clift_fc (nm9 lec hp_hR12 hk_hR12 hm_hR12 hr_hR12 hok_hR12) _ _ (by assumption) (by assumption) hlv hks) rfl pr9 ?_
 intro _ G48 _ hG48 q52
 refine match q52 with | ⟨e_53, _, e_54, _, _, _, e_55, hv49, hv50, hv51⟩ => ?_
 subst e_53
 subst e_54
 subst e_55
 refine match hv49 with | ⟨_, _, _, _, _, _, _, _, e_56, hp_hv49, hk_hv49, hm_hv49, hr_hv49, hok_hv49⟩ => ?_
 subst e_56
 refine match hv50 with | ⟨_, _, _, _, _, _, _, _, e_57, hp_hv50, hk_hv50, hm_hv50, hr_hv50, hok_hv50⟩ => ?_
 subst e_57
 refine match hv51 with | ⟨_, _, _, _, _, _, _, _, e_58, hp_hv51, hk_hv51, hm_hv51, hr_hv51, hok_hv51⟩ => ?_
 subst e_58
 refine g9 5 ?_
 refine W.alloc zr53 (fun b59 => (W.alloc zr53 (fun b60 => (W.alloc zr53 (fun b61 => (g9 10 ?_))))))
 refine W.call (Mp := Ms44) (pset_at (StR.mono hG48 hR46) (by simp only [List.length_set, tk_len]; omega) (nk9 hp_hv49 hk_hv49 hm_hv49 hr_hv49 hok_hv49)) rfl (pmC (pmC (pmC (pmC (pmC (pmC (pmC pr9))))))) ?_
 intro v65 G62 Ms64 hG62 q63
 refine match q63 with | ⟨e_67, hR66⟩ => ?_
 subst e_67
 refine W.perm (pmC (pmC (pmC (pmC (pmC (pmC (pmC pr9))))))).symm (g9 6 ?_)
 refine W.call (Mp := Ms64) (pset_at hR66 (by simp only [List.length_set, tk_len]; omega) (nm9 hG62 hp_hv50 hk_hv50 hm_hv50 hr_hv50 hok_hv50)) rfl (pmC (pmC (pmC (pmC (pmC (pmC (pmC pr9))))))) ?_
 intro v71 G68 Ms70 hG68 q69
 refine match q69 with | ⟨e_73, hR72⟩ => ?_
 subst e_73
 refine W.perm (pmC (pmC (pmC (pmC (pmC (pmC (pmC pr9))))))).symm (g9 6 ?_)
 refine W.call (Mp := Ms70) (pset_at hR72 (by simp only [List.length_set, tk_len]; omega) (nm9 lec hp_hv51 hk_hv51 hm_hv51 hr_hv51 hok_hv51)) rfl (pmC (pmC (pmC (pmC (pmC (pmC (pmC pr9))))))) ?_
 intro v77 G74 Ms76 hG74 q75
 refine match q75 with | ⟨e_79, hR78⟩ => ?_
 subst e_79
 refine W.perm (pmC (pmC (pmC (pmC (pmC (pmC (pmC pr9))))))).symm (g9 4 ?_)
 refine ⟨.inr rfl, [_], ⟨rfl, trivial⟩, Ms76, (((((((List.sublist_append_left _ _).cons _).cons _).cons _).cons _).cons _).cons _).cons _, ?_⟩
 exact ⟨congrArg (fun p : Int × List Nd => Value.int .i64 p.1) (liftS_0 hok om9).symm, StR.to hR78 ((lift_list om9 hs2 hs3 t.pos).trans (congrArg Prod.snd (liftS_0 hok om9)).symm)⟩

end Go.Proofs.YtfmigmijckdldaaGreat
namespace Go.Proofs.YtfmigmijckdldaaGreat
open Go Go.Fw Go.RowKit
attribute [local irreducible] Ok W WC
theorem tconfig_fc {G : GH} {b_s : Nat} {c : Cfg} {b_a : Nat} {a : List Nd × List Bool} {Ms_a : MH} (h_a : ArR eNode 53 4 3 125 b_a G a Ms_a) :
    Fc Tryz.prog 25 [pt9 b_s] G ((b_s, ce9 78 [iV c.fan, iV c.leaf, iV c.bud, iV c.slots, iV c.rest, pt9 b_a]) :: (Ms_a)) (fun v G' M' => v = .agg (List.toArray [iV c.fan, iV c.leaf, iV c.bud, iV c.slots, iV c.rest]) ∧ M' = (b_s, ce9 78 [iV c.fan, iV c.leaf, iV c.bud, iV c.slots, iV c.rest, pt9 b_a]) :: Ms_a) := by
 refine Fc.go [.cell 2 23] Tryz.func25 Tryz.ntmps25 rfl (fun w0 => (WC.perm (M' := ((b_s, ce9 78 [iV c.fan, iV c.leaf, iV c.bud, iV c.slots, iV c.rest, pt9 b_a]) :: (Ms_a ++ []))) (by simp) (g9 2 ?_)))
 refine W.alloc zr23 (fun b1 => (g9 6 ?_))
 refine W.ok (ok_eqlPN pp27 rfl rfl) (g9 15 ?_)
 refine ⟨.inr rfl, [_], ⟨⟨_, _, _, _, _, rfl, nthM_mem (i := 0) rfl, ty23, (by simp), rfl, rfl⟩, trivial⟩, ((b_s, ce9 78 [iV c.fan, iV c.leaf, iV c.bud, iV c.slots, iV c.rest, pt9 b_a]) :: (Ms_a ++ [])), sr9.k9.cons _, ?_⟩
 exact ⟨rfl, congrArg _ (List.append_nil _)⟩

theorem pconfig_fc {G : GH} {b : Nat} {c : Cfg} {l : List Nd} {M : MH} (h : StR 53 4 3 125 78 b c G l M) : Fc Tryz.prog 25 [pt9 b] G M (fun v G' M' => v = .agg (List.toArray [iV c.fan, iV c.leaf, iV c.bud, iV c.slots, iV c.rest]) ∧ M' = M) := by
  obtain ⟨hc, hl, b2, Ma, rfl, hA⟩ := h
  exact tconfig_fc (c := c) hA
theorem ptake_or {G : GH} {b : Nat} {c : Cfg} {l : List Nd} {M : MH} (h : StR 53 4 3 125 78 b c G l M) {cs : List Value} {x : Nd} (hx : NodeC G cs x) : Fc Tryz.prog 26 [pt9 b, .agg (List.toArray cs)] G M (fun v G' M' => (l.length < c.slots.toNat ∧ v = .tuple #[iV (l.length : Int), iV 0] ∧ StR 53 4 3 125 78 b c G' (tk l x) M') ∨ (¬ l.length < c.slots.toNat ∧ v = .tuple #[iV 0, iV 4] ∧ StR 53 4 3 125 78 b c G' l M')) := by
  refine (ptake_fc h hx).mono fun v G' M' _ ⟨e1, e2⟩ => ?_
  by_cases hr : l.length < c.slots.toNat
  · rw [take_tk hr] at e1 e2; exact .inl ⟨hr, e1, e2⟩
  rw [takeL_f hr] at e1 e2; exact .inr ⟨hr, e1, e2⟩
theorem gpart_fc {G : GH} {b_s : Nat} {c c2 : Cfg} {l : List Nd} {ss : List Seat} {Ms_s : MH} (h_s : StR 53 4 3 125 78 b_s c G l Ms_s) (t : Tree c2 l ss) (p : Int) (i : Nat) (hi9 : i64 ((i : Nat) : Int)) :
    Fc Tryz.prog 67 [pt9 b_s, iV p, nt9 i] G Ms_s (fun v G' M' => v = iV (partS c l p i).1 ∧ StR 53 4 3 125 78 b_s c G' (partS c l p i).2 M') := by
 have hl100 := t.sml.1
 have hz0 : i64 0 := ⟨by decide, by decide⟩
 have hyi : i64 (l.length : Int) := ⟨om9, om9⟩
 have hi1 := hi9.1
 have hi2 := hi9.2
 refine Fc.go [.tmp 6] Tryz.func67 Tryz.ntmps67 rfl (fun w0 => (WC.perm (M' := (Ms_s ++ [])) (by simp) (g9 9 ?_)))
 refine W.ok (ok_eqlPN pp27 rfl rfl) (g9 9 ?_)
 refine W.call (Mp := Ms_s) (pnode_fc h_s _) rfl pr9 ?_
 intro v5 G2 Ms4 hG2 q3
 refine match q3 with | ⟨⟨_, e_7, ⟨_, _, _, _, _, _, _, _, e_8, hp_hR6, hk_hR6, hm_hR6, hr_hR6, hok_hR6⟩⟩, eeq3⟩ => ?_
 subst e_7
 subst e_8
 have eeq3 := eeq3.symm
 subst eeq3
 refine g9 3 ?_
 refine W.alloc zr53 (fun b9 => (g9 10 ?_))
 refine W.sm 34 (fun h33 p33 => ?_) (fun h33 p33 => ?_)
 ·try dsimp only at p33
  refine g9 20 ?_
  refine ⟨.inr rfl, [_], ⟨rfl, trivial⟩, Ms_s, (List.sublist_append_left _ _).cons _, ?_⟩
  have hE := partS_8 (c := c) (l := l) (p := p) (i := i) (.inl (by simp at h33; omega))
  exact ⟨congrArg (fun q : Int × List Nd => Value.int .i64 q.1) hE.symm, StR.to (StR.mono hG2 h_s) (congrArg Prod.snd hE).symm⟩
 try dsimp only at p33
 have h1 : 0 ≤ p ∧ p < (l.length : Int) := by simpa using h33
 refine g9 6 ?_
 refine W.sd 38 (fun h36 p36 => ?_) (fun h36 p36 => ?_)
 ·try dsimp only at p36
  exfalso; omega
 try dsimp only at p36
 refine g9 13 ?_
 refine WC.cd (fun h43 p43 => ?_) (fun h43 p43 => ?_)
 ·try dsimp only at p43
  refine g9 7 ?_
  refine ⟨.inr rfl, [_], ⟨rfl, trivial⟩, Ms_s, (List.sublist_append_left _ _).cons _, ?_⟩
  have hE := partS_8 (c := c) (l := l) (p := p) (i := i) (.inr (.inl om9))
  exact ⟨congrArg (fun q : Int × List Nd => Value.int .i64 q.1) hE.symm, StR.to (StR.mono hG2 h_s) (congrArg Prod.snd hE).symm⟩
 try dsimp only at p43
 have h2 : ¬ (getL l p).kids.length ≤ i := by omega
 have hkd : (getL l p).kids[i]'om9 = kdN l p i := by unfold kdN; rw [List.getD_eq_getElem?_getD, List.getElem?_eq_getElem om9]; rfl
 refine g9 8 ?_
 refine hk_hR6.a2 (i := i) om9 (fun he10 hi11 => (g9 2 ?_))
 refine W.call (Mp := Ms_s) (pnode_fc (StR.mono hG2 h_s) (kdN l p i)) (congrArg (fun k : Int => [_, Value.int .i64 k]) hkd) (pmC pr9) ?_
 intro v17 G14 Ms16 hG14 q15
 refine match q15 with | ⟨⟨_, e_19, ⟨_, _, _, _, _, _, _, _, e_20, hp_hR18, hk_hR18, hm_hR18, hr_hR18, hok_hR18⟩⟩, eeq15⟩ => ?_
 subst e_19
 subst e_20
 have eeq15 := eeq15.symm
 subst eeq15
 refine W.perm (pmC pr9).symm (g9 3 ?_)
 refine W.alloc zr53 (fun b21 => (g9 13 ?_))
 refine WC.cn (fun h57 p57 => ?_) (fun h57 p57 => ?_)
 ·try dsimp only at p57
  refine g9 8 ?_
  refine ⟨.inr rfl, [_], ⟨rfl, trivial⟩, Ms_s, ((List.sublist_append_left _ _).cons _).cons _, ?_⟩
  have hE := partS_8 (c := c) (l := l) (p := p) (i := i) (.inr (.inr (by simp at h57; omega)))
  exact ⟨congrArg (fun q : Int × List Nd => Value.int .i64 q.1) hE.symm, StR.to (StR.mono lec h_s) (congrArg Prod.snd hE).symm⟩
 try dsimp only at p57
 have h3 : 0 ≤ kdN l p i ∧ kdN l p i < (l.length : Int) := by simpa using h57
 have hkm := getL_slot t.slot h3
 have hpm := getL_slot t.slot h1
 have hks : ∀ m ∈ (getL l (kdN l p i)).msgs, m.key.b.size < 140737488355328 := fun m hm => by have := ((t.sml.2 _ hkm.2).2.2.2.2.2.1 m hm).1; omega
 have hz9 : (getL l p).pivots.length ≤ 1000000 ∧ (getL l p).kids.length ≤ 1000000 := by have := t.sml.2 _ hpm.2; exact ⟨by have := this.2.1; omega, by have := this.1; omega⟩
 refine WC.seq (WC.dw (sn9.k9.k9) (d9 [0, 2] ?_))
 refine WD.a1 1 rfl (W.call (Mp := Ms_s) (pconfig_fc (StR.mono lec h_s)) rfl (pmC (pmC pr9)) ?_)
 intro v25 G22 Ms24 hG22 q23
 refine match q23 with | ⟨e_27, eeq23⟩ => ?_
 subst e_27
 have eeq23 := eeq23.symm
 subst eeq23
 refine W.perm (pmC (pmC pr9)).symm (W.nn (WD.a1 3 rfl (W.qcall (nfull_fc _ _ _ _ _ (nm9 lec hp_hR6 hk_hR6 hm_hR6 hr_hR6 hok_hR6)) rfl (W.nn (d9 [4] ?_)))))
 refine g9 2 ?_
 refine WC.cond rfl (fun h62 => ?_) (fun h62 => ?_)
 ·refine g9 8 ?_
  refine ⟨.inr rfl, [_], ⟨rfl, trivial⟩, Ms_s, ((List.sublist_append_left _ _).cons _).cons _, ?_⟩
  have hE := partS_9 (c := c) h1 h2 h3 (by simpa using h62)
  exact ⟨congrArg (fun q : Int × List Nd => Value.int .i64 q.1) hE.symm, StR.to (StR.mono lec h_s) (congrArg Prod.snd hE).symm⟩
 have h4 : fullN c (getL l p) = false := by simpa using h62
 refine g9 6 ?_
 refine W.cM (ncleave_fc (nm9 hG22 hp_hR18 hk_hR18 hm_hR18 hr_hR18 hok_hR18) 0 hz0 hks) rfl (fun _ _ _ _ _ _ _ _ _ _ _ _ _ _ _ _ G28 hG28 hp_hv29 hk_hv29 hm_hv29 hr_hv29 hok_hv29 hp_hv30 hk_hv30 hm_hv30 hr_hv30 hok_hv30 => (g9 5 ?_))
 refine W.alloc zr53 (fun b37 => (W.alloc zr53 (fun b38 => (g9 12 ?_))))
 refine W.call (Mp := []) (canat_fc (nm9 lec hp_hR6 hk_hR6 hm_hR6 hr_hR6 hok_hR6) i (cleaveN (getL l (kdN l p i)) 0).2.2.1 0 hz9 hi9 hz0) rfl pr9 ?_
 intro _ G39 _ hG39 q41
 refine match q41 with | ⟨e_42, _, e_43, _, e_44, hv40⟩ => ?_
 subst e_42
 subst e_43
 subst e_44
 refine match hv40 with | ⟨_, _, _, _, _, _, _, _, e_45, hp_hv40, hk_hv40, hm_hv40, hr_hv40, hok_hv40⟩ => ?_
 subst e_45
 refine g9 3 ?_
 refine W.alloc zr53 (fun b46 => (g9 9 ?_))
 refine W.sp 79 rfl (fun h78 => ?_) (fun h78 => ?_)
 ·refine g9 13 ?_
  refine ⟨.inr rfl, [_], ⟨rfl, trivial⟩, Ms_s, (((((List.sublist_append_left _ _).cons _).cons _).cons _).cons _).cons _, ?_⟩
  have hE := partS_6 (c := c) h1 h2 h3 h4 (.inl (by unfold cutP; rw [cleave_okS _ _ 0]; simpa using h78))
  exact ⟨congrArg (fun q : Int × List Nd => Value.int .i64 q.1) hE.symm, StR.to (StR.mono lec h_s) (congrArg Prod.snd hE).symm⟩
 have h5 : (cutP l p i).2.2.2 = true := by unfold cutP; rw [cleave_okS _ _ 0]; simpa using h78
 refine g9 7 ?_
 refine WC.cond rfl (fun h81 => ?_) (fun h81 => ?_)
 ·refine g9 7 ?_
  refine ⟨.inr rfl, [_], ⟨rfl, trivial⟩, Ms_s, (((((List.sublist_append_left _ _).cons _).cons _).cons _).cons _).cons _, ?_⟩
  have hE := partS_6 (c := c) h1 h2 h3 h4 (.inr (by unfold adP cutP; rw [cleave_key _ _ 0, adopt_okS _ _ _ _ 0]; simpa using h81))
  exact ⟨congrArg (fun q : Int × List Nd => Value.int .i64 q.1) hE.symm, StR.to (StR.mono lec h_s) (congrArg Prod.snd hE).symm⟩
 have h6 : (adP l p i).2 = true := by unfold adP cutP; rw [cleave_key _ _ 0, adopt_okS _ _ _ _ 0]; simpa using h81
 have hcs := cut_slots h5
 have hs1 : (cleaveN (getL l (kdN l p i)) (l.length : Int)).1.slot = kdN l p i := hcs.1.trans hkm.1
 have hs3 : (cleaveN (getL l (kdN l p i)) (l.length : Int)).2.1.slot = (l.length : Int) := hcs.2
 have hs2 : 0 ≤ (cleaveN (getL l (kdN l p i)) (l.length : Int)).1.slot ∧ (cleaveN (getL l (kdN l p i)) (l.length : Int)).1.slot < (l.length : Int) := by rw [hs1]; exact h3
 have e9 : adP l p i = (adoptN (getL l p) i (cleaveN (getL l (kdN l p i)) 0).2.2.1 (l.length : Int)) := by unfold adP cutP; rw [cleave_key _ _ 0]
 have hs4 : (adoptN (getL l p) i (cleaveN (getL l (kdN l p i)) 0).2.2.1 (l.length : Int)).1.slot = p := by rw [← e9]; exact (ad_slot h6).trans hpm.1
 have hlst : ((l.set (cleaveN (getL l (kdN l p i)) (l.length : Int)).1.slot.toNat (cleaveN (getL l (kdN l p i)) (l.length : Int)).1).set p.toNat (adoptN (getL l p) i (cleaveN (getL l (kdN l p i)) 0).2.2.1 (l.length : Int)).1) ++ [(cleaveN (getL l (kdN l p i)) (l.length : Int)).2.1] = lstP l p i := by unfold lstP; rw [e9]; rfl
 refine g9 6 ?_
 refine W.call (Mp := Ms_s) (ptake_or (StR.mono lec h_s) (nm9 lec hp_hR18 hk_hR18 hm_hR18 hr_hR18 hok_hR18)) rfl (pmC (pmC (pmC (pmC (pmC pr9))))) ?_
 intro v50 G47 Ms49 hG47 q48
 refine Or.elim q48 (fun q51 => ?_) (fun q52 => ?_)
 ·refine match q51 with | ⟨hrm, e_53, hR9⟩ => ?_
  subst e_53
  refine W.perm (pmC (pmC (pmC (pmC (pmC pr9))))).symm (g9 21 ?_)
  refine W.cM (ncleave_fc (nm9 lec hp_hR18 hk_hR18 hm_hR18 hr_hR18 hok_hR18) (l.length : Int) hyi hks) rfl (fun _ _ _ _ _ _ _ _ _ _ _ _ _ _ _ _ G54 hG54 hp_hv55 hk_hv55 hm_hv55 hr_hv55 hok_hv55 hp_hv56 hk_hv56 hm_hv56 hr_hv56 hok_hv56 => (g9 5 ?_))
  refine W.alloc zr53 (fun b63 => (W.alloc zr53 (fun b64 => (g9 12 ?_))))
  refine W.call (Mp := []) (canat_fc ⟨_, _, _, _, _, _, _, _, rfl, (hp_hR6.mono lec), (hk_hR6.mono lec), (hm_hR6.mono lec), (hr_hR6.mono lec), hok_hR6⟩ i (cleaveN (getL l (kdN l p i)) 0).2.2.1 (l.length : Int) hz9 hi9 hyi) rfl pr9 ?_
  intro _ G65 _ hG65 q67
  refine match q67 with | ⟨e_68, _, e_69, _, e_70, hv66⟩ => ?_
  subst e_68
  subst e_69
  subst e_70
  refine match hv66 with | ⟨_, _, _, _, _, _, _, _, e_71, hp_hv66, hk_hv66, hm_hv66, hr_hv66, hok_hv66⟩ => ?_
  subst e_71
  refine g9 3 ?_
  refine W.alloc zr53 (fun b72 => (g9 8 ?_))
  refine W.call (Mp := Ms49) (pset_at (StR.mono lec hR9) (by simp only [List.length_set, tk_len]; omega) (nm9 hG65 hp_hv55 hk_hv55 hm_hv55 hr_hv55 hok_hv55)) rfl (pmC (pmC (pmC (pmC (pmC (pmC (pmC (pmC pr9)))))))) ?_
  intro v76 G73 Ms75 hG73 q74
  refine match q74 with | ⟨e_78, hR77⟩ => ?_
  subst e_78
  refine W.perm (pmC (pmC (pmC (pmC (pmC (pmC (pmC (pmC pr9)))))))).symm (g9 6 ?_)
  refine W.call (Mp := Ms75) (pset_at hR77 (by simp only [List.length_set, tk_len]; omega) (nm9 lec hp_hv56 hk_hv56 hm_hv56 hr_hv56 hok_hv56)) rfl (pmC (pmC (pmC (pmC (pmC (pmC (pmC (pmC pr9)))))))) ?_
  intro v82 G79 Ms81 hG79 q80
  refine match q80 with | ⟨e_84, hR83⟩ => ?_
  subst e_84
  refine W.perm (pmC (pmC (pmC (pmC (pmC (pmC (pmC (pmC pr9)))))))).symm (g9 6 ?_)
  refine W.call (Mp := Ms81) (pset_at hR83 (by simp only [List.length_set, tk_len]; omega) (nm9 lec hp_hv66 hk_hv66 hm_hv66 hr_hv66 hok_hv66)) rfl (pmC (pmC (pmC (pmC (pmC (pmC (pmC (pmC pr9)))))))) ?_
  intro v88 G85 Ms87 hG85 q86
  refine match q86 with | ⟨e_90, hR89⟩ => ?_
  subst e_90
  refine W.perm (pmC (pmC (pmC (pmC (pmC (pmC (pmC (pmC pr9)))))))).symm (g9 4 ?_)
  refine ⟨.inr rfl, [_], ⟨rfl, trivial⟩, Ms87, ((((((((List.sublist_append_left _ _).cons _).cons _).cons _).cons _).cons _).cons _).cons _).cons _, ?_⟩
  have hE := (partS_0 (c := c) h1 h2 h3 h4 h5 h6 om9)
  exact ⟨congrArg (fun q : Int × List Nd => Value.int .i64 q.1) hE.symm, StR.to hR89 ((part_list hs2 hs3 hs4 h1).trans ((hlst).trans (congrArg Prod.snd hE).symm))⟩
 refine match q52 with | ⟨hrm, e_91, hR9⟩ => ?_
 subst e_91
 refine W.perm (pmC (pmC (pmC (pmC (pmC pr9))))).symm (g9 23 ?_)
 refine ⟨.inr rfl, [_], ⟨rfl, trivial⟩, Ms49, (((((List.sublist_append_left _ _).cons _).cons _).cons _).cons _).cons _, ?_⟩
 have hE := partS_4 (c := c) h1 h2 h3 h4 h5 h6 om9
 exact ⟨congrArg (fun q : Int × List Nd => Value.int .i64 q.1) hE.symm, StR.to hR9 (congrArg Prod.snd hE).symm⟩

end Go.Proofs.YtfmigmijckdldaaGreat
namespace Go.Proofs.YtfmigmijckdldaaGreat
open Go Go.Fw Go.RowKit
attribute [local irreducible] Ok W WC
theorem gpartn_fc {G : GH} {b_s : Nat} {c c2 : Cfg} {l : List Nd} {ss : List Seat} {Ms_s : MH} (h_s : StR 53 4 3 125 78 b_s c G l Ms_s) (t : Tree c2 l ss) (p : Int) (i : Int) (hn9 : i < 0) :
    Fc Tryz.prog 67 [pt9 b_s, iV p, iV i] G Ms_s (fun v G' M' => M' = Ms_s ∧ v = iV 8) := by
 refine Fc.go [.tmp 6] Tryz.func67 Tryz.ntmps67 rfl (fun w0 => (WC.perm (M' := (Ms_s ++ [])) (by simp) (g9 9 ?_)))
 refine W.ok (ok_eqlPN pp27 rfl rfl) (g9 9 ?_)
 refine W.call (Mp := Ms_s) (pnode_fc h_s _) rfl pr9 ?_
 intro v4 G1 Ms3 hG1 q2
 refine match q2 with | ⟨⟨_, e_6, ⟨_, _, _, _, _, _, _, _, e_7, hp_hR5, hk_hR5, hm_hR5, hr_hR5, hok_hR5⟩⟩, eeq2⟩ => ?_
 subst e_6
 subst e_7
 have eeq2 := eeq2.symm
 subst eeq2
 refine g9 3 ?_
 refine W.alloc zr53 (fun b8 => (g9 10 ?_))
 refine W.sm 34 (fun h33 p33 => ?_) (fun h33 p33 => ?_)
 ·refine g9 20 ?_
  refine ⟨.inr rfl, [_], ⟨rfl, trivial⟩, Ms_s, (List.sublist_append_left _ _).cons _, ?_⟩
  exact ⟨rfl, rfl⟩
 refine g9 6 ?_
 refine W.sd 38 (fun h36 p36 => ?_) (fun h36 p36 => ?_)
 ·refine g9 16 ?_
  refine ⟨.inr rfl, [_], ⟨rfl, trivial⟩, Ms_s, (List.sublist_append_left _ _).cons _, ?_⟩
  exact ⟨rfl, rfl⟩
 exfalso; omega

theorem gparti_fc {G : GH} {b : Nat} {c c2 : Cfg} {l : List Nd} {ss : List Seat} {M : MH} (h : StR 53 4 3 125 78 b c G l M) (t : Tree c2 l ss) (p i : Int) (hi : i64 i) : Fc Tryz.prog 67 [pt9 b, iV p, iV i] G M (fun v G' M' => v = iV (partI c l p i).1 ∧ StR 53 4 3 125 78 b c G' (partI c l p i).2 M') := by
  by_cases hn : i < 0
  · refine (gpartn_fc h t p i hn).mono fun v G' M' hle ⟨e1, e2⟩ => ?_
    subst e1
    unfold partI
    rw [if_pos hn]
    exact ⟨e2, h.mono hle⟩
  obtain ⟨n, rfl⟩ : ∃ n : Nat, i = (n : Int) := ⟨i.toNat, om9⟩
  have h0 := gpart_fc h t p n hi
  unfold partI
  rw [if_neg hn]
  exact h0
end Go.Proofs.YtfmigmijckdldaaGreat
