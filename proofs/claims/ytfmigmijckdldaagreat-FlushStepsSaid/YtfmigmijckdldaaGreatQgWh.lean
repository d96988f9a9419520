/- Walks of views and fresh messages. -/
import Derived.Test.YtfmigmijckdldaaGreatQgVs
set_option maxRecDepth 100000
set_option maxHeartbeats 1600000
set_option linter.unusedVariables false
set_option linter.unusedSimpArgs false
set_option linter.unnecessarySimpa false
namespace Go.Proofs.YtfmigmijckdldaaGreat
open Go Go.Fw Go.RowKit
attribute [local irreducible] Ok W WC
theorem rview_fc {G : GH} {v_l : Value} {l : List Pair} (h_l : SlR ePair G v_l l) (slo : Str) (shi : Str) (so : Bool) {v_ms : Value} {ms : List Msg} (h_ms : SlR eMsg G v_ms ms) (hP : PairsR l) (hn : l.length + ms.length ≤ 1000000) (hm : ∀ m ∈ ms, m.key.b.size ≤ 16 ∧ m.val.b.size ≤ 16) (hs : slo.b.size ≤ 300) :
    Fc Tryz.prog 42 [v_l, .agg #[sV slo.b, sV shi.b, .bool so], v_ms] G [] (fun v G' M' => M' = [] ∧ ∃ u0, v = u0 ∧ SlR ePair G' u0 (foldN (l.filter fun p => Span.has ⟨slo, shi, so⟩ p.key) (clips ⟨slo, shi, so⟩ ms))) := by
 obtain ⟨sa_l, sc_l, rfl⟩ := h_l.form
 obtain ⟨sa_ms, sc_ms, rfl⟩ := h_ms.form
 have hPf : PairsR (l.filter fun p => Span.has ⟨slo, shi, so⟩ p.key) := hP.filter _
 have hcm := clips_fit (s := ⟨slo, shi, so⟩) hs hm
 have hcl : (clips ⟨slo, shi, so⟩ ms).length ≤ ms.length := clips_le
 have hfl := List.length_filter_le (fun p : Pair => Span.has ⟨slo, shi, so⟩ p.key) l
 have hks : ∀ m ∈ ms, m.key.b.size < 140737488355328 := fun m h => by have := (hm m h).1; omega
 refine Fc.go [.tmp 6] Tryz.func42 Tryz.ntmps42 rfl (fun w0 => (g9 2 ?_))
 refine W.box (L := [sV _, sV _, .bool _]) rfl rfl (fun b1 => (g9 4 ?_))
 refine WC.dw sr9.k9 (d9 [0, 1, 2, 3, 5, 6] ?_)
 refine WD.a1 4 rfl (W.cS (rscan_fc h_l slo shi so (l.length : Int) om9) rfl (fun sa_hv3 sc_hv3 G2 hG2 hv3 => (W.nn (WD.a1 7 rfl (W.cS (rclips_fc (h_ms.mono hG2) slo shi so hks) rfl (fun sa_hv10 sc_hv10 G9 hG9 hv10 => (W.nn (WD.a1 8 rfl (W.cS (rfoldF_fc (SlR.cast (hv3.mono hG9) (scan_whole l ⟨slo, shi, so⟩)) hv10 hPf om9 hcm) rfl (fun sa_hv17 sc_hv17 G16 hG16 hv17 => (W.nn (d9 [9] ?_))))))))))))
 refine g9 4 ?_
 refine ⟨rfl, _, rfl, ?_⟩
 · exact hv17

end Go.Proofs.YtfmigmijckdldaaGreat
namespace Go.Proofs.YtfmigmijckdldaaGreat
open Go Go.Fw Go.RowKit
attribute [local irreducible] Ok W WC
theorem map27_fc {G : GH} {v_l : Value} {l : List Nd} (h_l : SlR eNode G v_l l) (c2 : Cfg) (ss : List Seat) (t : Tree c2 l ss) :
    Fc Tryz.prog 15 [v_l] G [] (fun v G' M' => M' = [] ∧ ∃ u0, v = u0 ∧ SlR ePair G' u0 (mapN l)) := by
 obtain ⟨sa_l, sc_l, rfl⟩ := h_l.form
 have hl := h_l.len47
 have hS := t.sml
 have hl100 := hS.1
 have hsl := t.len
 refine Fc.go [.tmp 2] Tryz.func15 Tryz.ntmps15 rfl (fun w0 => (g9 13 ?_))
 refine W.call (Mp := []) (seats_fc h_l _ (by assumption)) rfl pr9 ?_
 intro v3 G1 _ hG1 q2
 have q4 := q2.1
 subst q4
 have q5 := q2.2
 refine Or.elim q5 (fun q6 => ?_) (fun q7 => ?_)
 ·refine match q6 with | ⟨u_s8, ssq, hssq, e_9, hv_s8, hqsq⟩ => ?_
  subst e_9
  have q11 := hv_s8.form
  refine match q11 with | ⟨sa_s8, sc_s8, e_10⟩ => ?_
  subst e_10
  have e9 : ss = ssq := Option.some.inj (t.sts.symm.trans hssq)
  subst e9
  have hss47q := hv_s8.len47
  refine g9 24 ?_
  refine WC.loop (X := (Nat) × Value × MH) (fun i => [(6, nt9 i.1), (4, lV sa_s8 ss.length sc_s8), (3, i.2.1)]) (fun i G Ml => Ml = (i.2.2 ++ []) ∧ OwnR ePair 92 G i.2.1 ((leavesS (ss.take i.1)).flatMap viewS) i.2.2 ∧ i.1 ≤ ss.length) (fun i => ss.length - i.1) (0, lV none 0 0, ([] : MH)) hs9 ?_ ?_
  ·exact ⟨rfl, (by exact OwnR.nil), om9⟩
  rintro ⟨i, v_3, M_3⟩ gG12 G12 _ hG12 ⟨rfl, ho_3, hi⟩
  try dsimp only at ho_3 hi
  have hvl := t.views_len i
  refine WC.fr (f := setL gG12 [(6, nt9 i), (4, lV sa_s8 ss.length sc_s8), (3, v_3)]) rfl (g9 9 ?_)
  refine WC.cd (fun h17 p17 => ?_) (fun h17 p17 => ?_)
  ·refine g9 8 ?_
   have q16 := (hv_s8.mono hG12).at (i := i) om9
   refine match q16 with | ⟨_, he13, ⟨_, _, _, _, _, _, _, _, qa_t14, qc_t14, e_15, hp_t14, hk_t14, hm_t14, hr_t14, hq_t14, hok_t14⟩⟩ => ?_
   subst e_15
   refine g9 7 ?_
   refine WC.cd (fun h26 p26 => ?_) (fun h26 p26 => ?_)
   ·have hmem : (ss[i]'om9) ∈ ss := List.getElem_mem _
    have htf := t.fits _ hmem
    have hvx := t.view_len hmem
    have hrx : (ss[i]'om9).n.rows.length ≤ 4000 := (t.sml.at (.inr (t.nd hmem).2.2)).2.2.2.1
    have hmx : (ss[i]'om9).ms.length ≤ 102400 := by have := (t.ms_len _ hmem).1; omega
    refine WC.dw sn9 (d9 [0, 1, 2] ?_)
    have q20 := (hv_s8.mono hG12).at (i := i) om9
    refine match q20 with | ⟨_, he17, ⟨_, _, _, _, _, _, _, _, qa_t18, qc_t18, e_19, hp_t18, hk_t18, hm_t18, hr_t18, hq_t18, hok_t18⟩⟩ => ?_
    subst e_19
    refine d9 [3, 4, 5, 6, 7, 8] ?_
    have q24 := (hv_s8.mono hG12).at (i := i) om9
    refine match q24 with | ⟨_, he21, ⟨_, _, _, _, _, _, _, _, qa_t22, qc_t22, e_23, hp_t22, hk_t22, hm_t22, hr_t22, hq_t22, hok_t22⟩⟩ => ?_
    subst e_23
    refine d9 [9, 10, 11, 12, 13] ?_
    have q28 := (hv_s8.mono hG12).at (i := i) om9
    refine match q28 with | ⟨_, he25, ⟨_, _, _, _, _, _, _, _, qa_t26, qc_t26, e_27, hp_t26, hk_t26, hm_t26, hr_t26, hq_t26, hok_t26⟩⟩ => ?_
    subst e_27
    refine d9 [14, 15, 16] ?_
    refine WD.a1 17 rfl (W.call (Mp := []) (rview_fc hr_t18 (ss[i]'om9).s.lo (ss[i]'om9).s.hi (ss[i]'om9).s.opn hq_t26 (t.rows hmem) om9 (fun m hm => msgR_key (htf.2 m hm)) (by have := htf.1.1; omega)) rfl pr9 ?_)
    intro _ G29 _ hG29 q31
    refine match q31 with | ⟨e_32, _, e_33, hv30⟩ => ?_
    subst e_32
    subst e_33
    have hc34 := SlR.cast hv30 (l' := viewS (ss[i]'om9)) (rfl)
    have q36 := hc34.form
    refine match q36 with | ⟨sa_hc34, sc_hc34, e_35⟩ => ?_
    subst e_35
    refine W.nn (WD.a1 18 rfl (W.app (e := ePair) sl42 ty92 zr92 rfl by92 rfl rfl ((ho_3.mono hG29)) (hc34) pr9 (by show (List.length _ + List.length _) * 32 ≤ _; omega) (fun v37 Ms38 ho39 => (W.nn (d9 [19] ?_)))))
    refine WD.done (by kernel_rfl) (blk_n (thn_n (g9 6 ?_)))
    exact ⟨hG29, (i + 1, v37, Ms38), hs9, ⟨rfl, (by have h := ho39; rw [leaves_t om9 p26, List.flatMap_append, List.flatMap_singleton]; exact h), om9⟩, om9⟩
   refine g9 9 ?_
   exact ⟨Le.rfl, (i + 1, v_3, M_3), hs9, ⟨rfl, (by have h := ho_3; rw [leaves_f om9 p26]; exact h), om9⟩, om9⟩
  refine g9 11 ?_
  refine WC.giveO ho_3 pr9 (fun G40 hG40 hv40 => (g9 2 ?_))
  refine ⟨rfl, _, rfl, ?_⟩
  · exact SlR.cast hv40 (by rw [mapN_t t.sts, List.take_of_length_le om9])
 exact absurd (t.sts.symm.trans (by obtain ⟨_, _, h0, _⟩ := q7; exact h0)) (by simp)

end Go.Proofs.YtfmigmijckdldaaGreat

namespace Go.Fw
open Go Go.RowKit
theorem lift_grow (c : Cfg) (l : List Nd) : l.length ≤ (liftS c l).2.length := by
 unfold liftS
 split
 ·exact Nat.le_refl _
 ·split
  ·exact Nat.le_refl _
  ·unfold liftL
   simp
theorem part_grow (c : Cfg) (l : List Nd) (p i : Int) : l.length ≤ (partI c l p i).2.length := by
 unfold partI
 split
 ·exact Nat.le_refl _
 ·unfold partS
  split
  ·exact Nat.le_refl _
  ·split
   ·exact Nat.le_refl _
   ·split
    ·exact Nat.le_refl _
    ·split
     ·exact Nat.le_refl _
     ·unfold lstP
      simp
theorem pour_grow (l : List Nd) (a b : Nd) : l.length ≤ (pourL l a b).length := by unfold pourL; simp
theorem kid_grow (c : Cfg) (l : List Nd) (a i : Int) : l.length ≤ (kidStep c l a i).2.length := by
 have hp := part_grow c l a i
 rcases decide_cases c (getL l a) (kidAt l a i) i with h | h | ⟨h, h2⟩ | h
 ·rw [kid_0 h]; exact Nat.le_refl _
 ·by_cases h3 : (partI c l a i).1 = 0
  ·rw [kid_3 h h3]; exact hp
  ·rw [kid_e h h3]; exact hp
 ·rw [kid_4 h]; exact pour_grow _ _ _
 ·rw [kid_5 h]; exact Nat.le_refl _
theorem step_grow (c : Cfg) (l : List Nd) (a : Int) (k : Str) : l.length ≤ (stepN c l a k).2.length := by
 have hl := lift_grow c l
 rcases choose_cases c (getL l a) k with h | h | ⟨h, _⟩
 ·rw [step_0 h]; exact Nat.le_refl _
 ·by_cases h3 : (liftS c l).1 = 0
  ·rw [step_1 h h3]; exact hl
  ·rw [step_e h h3]; exact hl
 ·rw [step_2 h]; exact kid_grow c l a _
theorem step_next {c : Cfg} {l : List Nd} {ss : List Seat} (t : Tree c l ss) {a : Int} (ha : 0 ≤ a ∧ a < l.length) (k : Str) : 0 ≤ (stepN c l a k).1.2.1 ∧ (stepN c l a k).1.2.1 < ((stepN c l a k).2.length : Int) := by
 have hg := step_grow c l a k
 rcases choose_cases c (getL l a) k with h | h | ⟨h, _⟩
 ·rw [step_0 h]; exact ha
 ·by_cases h3 : (liftS c l).1 = 0
  ·rw [step_1 h h3] at hg ⊢; exact ⟨ha.1, by show a < _; dsimp only at hg ⊢; omega⟩
  ·rw [step_e h h3] at hg ⊢; exact ⟨ha.1, by show a < _; dsimp only at hg ⊢; omega⟩
 ·obtain ⟨h0, hi⟩ := choose_in t ha h
  obtain ⟨P, s⟩ := step_at t ha h0 hi
  have hpg := part_grow c l a (chooseN c (getL l a) k).2
  rw [step_2 h]
  rcases decide_cases c (getL l a) (kidAt l a (chooseN c (getL l a) k).2) (chooseN c (getL l a) k).2 with h | h | ⟨h, h2⟩ | h
  ·rw [kid_0 h]; exact ha
  ·by_cases h3 : (partI c l a (chooseN c (getL l a) k).2).1 = 0
   ·rw [kid_3 h h3]; exact ⟨ha.1, by dsimp only; omega⟩
   ·rw [kid_e h h3]; exact ⟨ha.1, by dsimp only; omega⟩
  ·rw [kid_4 h]
   have := pour_grow l (pourN c.leaf c.bud (getL l a) (kidAt l a (chooseN c (getL l a) k).2) (chooseN c (getL l a) k).2).1 (pourN c.leaf c.bud (getL l a) (kidAt l a (chooseN c (getL l a) k).2) (chooseN c (getL l a) k).2).2.1
   exact ⟨ha.1, by dsimp only; omega⟩
  ·rw [kid_5 h]
   show 0 ≤ (kidAt _ _ _).slot ∧ (kidAt _ _ _).slot < _
   rw [s.ksl]
   exact s.kin
noncomputable def cycF (c : Cfg) (k : Str) : Nat → List Nd → Int → Int → Option (Int × Int × List Nd)
 | 0, _, _, _ => none
 | m + 1, l, a, n => if (stepN c l a k).1.1 = 0 then some (n, (stepN c l a k).1.2.2, (stepN c l a k).2) else cycF c k m (stepN c l a k).2 (stepN c l a k).1.2.1 (if (stepN c l a k).1.1 = 5 then n else n + 1)
theorem cyc_end {c : Cfg} {k : Str} {m : Nat} {l : List Nd} {a n : Int} (h : (stepN c l a k).1.1 = 0) : cycF c k (m + 1) l a n = some (n, (stepN c l a k).1.2.2, (stepN c l a k).2) := if_pos h
theorem cyc_down {c : Cfg} {k : Str} {m : Nat} {l : List Nd} {a n : Int} (h : (stepN c l a k).1.1 = 5) : cycF c k (m + 1) l a n = cycF c k m (stepN c l a k).2 (stepN c l a k).1.2.1 n := by
 show (if _ then _ else _) = _
 rw [if_neg (by omega), if_pos h]
theorem cyc_did {c : Cfg} {k : Str} {m : Nat} {l : List Nd} {a n : Int} (h : ¬ (stepN c l a k).1.1 = 0) (h2 : ¬ (stepN c l a k).1.1 = 5) : cycF c k (m + 1) l a n = cycF c k m (stepN c l a k).2 (stepN c l a k).1.2.1 (n + 1) := by
 show (if _ then _ else _) = _
 rw [if_neg h, if_neg h2]
end Go.Fw
namespace Go.Proofs.YtfmigmijckdldaaGreat
open Go Go.Fw Go.RowKit
attribute [local irreducible] Ok W WC
theorem fcycle_fc {G : GH} {b_s : Nat} {c c2 : Cfg} {l : List Nd} {ss : List Seat} {Ms_s : MH} (h_s : StR 53 4 3 125 78 b_s c G l Ms_s) (t : Tree c2 l ss) (k : Str) (hc9 : c = c2) (N : Nat) (r : Int × Int × List Nd) (hr : cycF c k N l 0 0 = some r) (hN : N ≤ 1000000) :
    Fc Tryz.prog 19 [pt9 b_s, sV k.b] G Ms_s (fun v G' M' => v = .tuple #[iV r.1, iV r.2.1] ∧ StR 53 4 3 125 78 b_s c G' r.2.2 M') := by
 subst hc9
 have htp := t.pos
 refine Fc.go [.tmp 4, .tmp 5] Tryz.func19 Tryz.ntmps19 rfl (fun w0 => (WC.perm (M' := (Ms_s ++ [])) (by simp) (g9 17 ?_)))
 refine WC.loop (X := (Nat × List Nd × Int × Int) × MH) (fun x => [(6, iV x.1.2.2.2), (7, iV x.1.2.2.1), (1, sV k.b), (0, pt9 b_s)]) (fun x G Ml => Ml = (x.2 ++ []) ∧ StR 53 4 3 125 78 b_s c G (x.1.2.1) x.2 ∧ cycF c k x.1.1 x.1.2.1 x.1.2.2.1 x.1.2.2.2 = some r ∧ (∃ T, Tree c x.1.2.1 T) ∧ (0 ≤ x.1.2.2.1 ∧ x.1.2.2.1 < (x.1.2.1.length : Int)) ∧ 0 ≤ x.1.2.2.2 ∧ x.1.2.2.2 + (x.1.1 : Int) ≤ 1000000) (fun x => x.1.1) (((N, l, 0, 0) : Nat × List Nd × Int × Int), Ms_s) hs9 ?_ ?_
 ·exact ⟨rfl, (by exact h_s), hr, ⟨ss, t⟩, ⟨by dsimp only; omega, by dsimp only; omega⟩, by dsimp only; omega, by dsimp only; omega⟩
 rintro ⟨⟨m, L, a, n⟩, M_0⟩ gG1 G1 _ hG1 ⟨rfl, ho_0, hcy, hTr, haL, hn0, hnm⟩
 try dsimp only at ho_0 hcy hTr haL hn0 hnm
 obtain ⟨T8, t9⟩ := hTr
 have hm1 : 0 < m := by
   rcases Nat.eq_zero_or_pos m with h | h
   · rw [h] at hcy; cases hcy
   exact h
 rw [show m = m - 1 + 1 by omega] at hcy
 have hnx := step_next t9 haL k
 obtain ⟨T9, hT9, hmp9⟩ := step_tree t9 haL k
 refine WC.fr (f := setL gG1 [(6, iV n), (7, iV a), (1, sV k.b), (0, pt9 b_s)]) rfl (g9 6 ?_)
 refine W.call (Mp := M_0) (fstep_in ho_0 t9 a k rfl haL) rfl pr9 ?_
 intro v5 G2 Ms4 hG2 q3
 refine match q3 with | ⟨e_7, hR6⟩ => ?_
 subst e_7
 refine g9 22 ?_
 refine WC.cd (fun h23 p23 => ?_) (fun h23 p23 => ?_)
 ·try dsimp only at p23
  refine g9 14 ?_
  refine ⟨.inr rfl, [_, _], ⟨rfl, rfl, trivial⟩, Ms4, List.sublist_append_left _ _, ?_⟩
  have hE := Option.some.inj ((cyc_end p23).symm.trans hcy)
  exact ⟨congrArg (fun q : Int × Int × List Nd => Value.tuple #[iV q.1, iV q.2.1]) hE, StR.to hR6 (congrArg (fun q : Int × Int × List Nd => q.2.2) hE)⟩
 try dsimp only at p23
 refine g9 6 ?_
 refine WC.cd (fun h27 p27 => ?_) (fun h27 p27 => ?_)
 ·try dsimp only at p27
  refine g9 9 ?_
  exact ⟨hG2, (((m - 1, (stepN c L a k).2, (stepN c L a k).1.2.1, n) : Nat × List Nd × Int × Int), Ms4), hs9, ⟨rfl, (by exact hR6), (cyc_down p27).symm.trans hcy, ⟨_, hT9⟩, hnx, by dsimp only; omega, by dsimp only; omega⟩, by dsimp only; omega⟩
 try dsimp only at p27
 refine g9 13 ?_
 exact ⟨hG2, (((m - 1, (stepN c L a k).2, (stepN c L a k).1.2.1, n + 1) : Nat × List Nd × Int × Int), Ms4), hs9, ⟨rfl, (by exact hR6), (cyc_did p23 p27).symm.trans hcy, ⟨_, hT9⟩, hnx, by dsimp only; omega, by dsimp only; omega⟩, by dsimp only; omega⟩

end Go.Proofs.YtfmigmijckdldaaGreat
namespace Go.Proofs.YtfmigmijckdldaaGreat
open Go Go.Fw Go.RowKit
attribute [local irreducible] Ok W WC
def S_109 : Str := ⟨⟨#[109]⟩, by decide⟩
def S_122 : Str := ⟨⟨#[122]⟩, by decide⟩
theorem cf31 : CfgR (⟨4, 2, 36, 3, 0⟩ : Cfg) := ⟨⟨by simp, by simp⟩, ⟨by simp, by simp⟩, ⟨by simp, by simp⟩, ⟨by simp, by simp⟩, by simp, by simp⟩
theorem t31 : Tree (⟨4, 2, 36, 3, 0⟩ : Cfg) [leafN 0] [oneS (leafN 0)] := tree_one cf31 rfl rfl (by decide) ⟨⟨by decide, by decide, by decide⟩, fun _ => ⟨rfl, rfl⟩, (fun h => by cases h), (by rw [if_pos (show (leafN 0).level = 0 from rfl)]; exact ⟨rfl, (by decide : ((0 : Nat) : Int) ≤ 2), pairsR_iff.2 ⟨(fun p hp => by cases hp), (by show Srt ([] : List Pair); simp [Srt])⟩, fun i h => rfl⟩)⟩ rfl (by
  refine ⟨by decide, by decide, by decide, by decide, by decide, (fun m hm => by cases hm), (fun m hm => by cases hm), fun p hp => by cases hp⟩)
theorem cyc31 : cycF (⟨4, 2, 36, 3, 0⟩ : Cfg) Str.nil 1 [leafN 0] 0 0 = some (0, 0, [leafN 0]) := by
  have h : stepN (⟨4, 2, 36, 3, 0⟩ : Cfg) [leafN 0] 0 Str.nil = ((0, 0, 0), [leafN 0]) := step_0 (by rw [choose_0 rfl])
  rw [cyc_end (by rw [h]), h]
def aw31 : Nd := { Nd.zero with level := 1, pivots := [S_109], kids := [1, 2] }
theorem aw31_ok : aw31.Ok := ⟨⟨by decide, by decide⟩, ⟨by decide, by decide⟩, ⟨by decide, by decide⟩, ⟨by decide, by decide⟩⟩
theorem cp31 : ChoosePre aw31 := fun _ => ⟨by decide, (fun m hm => by cases hm), by decide, by decide⟩
theorem awk31_fc {G : GH}  :
    Fc Tryz.prog 6 [] G [] (fun v _ _ => v = .bool (true)) := by
 refine Fc.go [.tmp 0] Tryz.func6 Tryz.ntmps6 rfl (fun w0 => (g9 7 ?_))
 refine W.ok (ok_build (L := [iV _, iV _, iV _, iV _, iV _]) pl23 zr23 rfl rfl rfl) (W.call (Mp := []) (stnew_fc (4) (2) (36) (3) (0)) rfl pr9 ?_)
 intro v4 G1 Ms3 hG1 q2
 refine Or.elim q2 (fun q5 => ?_) (fun q6 => ?_)
 ·refine match q5 with | ⟨hnc, e_7, e_8⟩ => ?_
  subst e_7
  subst e_8
  exact absurd (cf31) hnc
 refine match q6 with | ⟨hC, bSt, e_9, hS9⟩ => ?_
 subst e_9
 refine g9 10 ?_
 refine W.call (Mp := Ms3) (fcycle_fc hS9 t31 Str.nil rfl 1 _ cyc31 om9) rfl pr9 ?_
 intro v13 G10 Ms12 hG10 q11
 refine match q11 with | ⟨e_15, hR14⟩ => ?_
 subst e_15
 refine g9 10 ?_
 refine W.call (Mp := Ms12) (pconfig_fc hR14) rfl pr9 ?_
 intro v19 G16 Ms18 hG16 q17
 refine match q17 with | ⟨e_21, eeq17⟩ => ?_
 subst e_21
 have eeq17 := eeq17.symm
 subst eeq17
 refine W.lit (e := eInt) (l := [_, _]) (css := [[iV _], [iV _]]) sl50 ty3 zr3 rfl rfl rfl rfl rfl rfl ⟨⟨rfl, om9, om9⟩, ⟨rfl, om9, om9⟩, trivial⟩ (fun bl22 G22 hG22 hv22 => (W.lit (e := eStr) (l := [S_109]) (css := [[sV _]]) sl49 ty9 zr9 rfl rfl rfl rfl rfl rfl ⟨rfl, trivial⟩ (fun bl23 G23 hG23 hv23 => (W.ok (ok_build (L := [iV _, iV _, lV _ _ _, lV _ _ _, sV _, .bool _, iV _, iV _, lV _ _ _, lV _ _ _]) pl53 zr53 rfl rfl rfl) (W.qcall (fchoose_fc 4 2 36 3 0 (n := aw31) ⟨_, _, _, _, _, _, _, _, rfl, hv23, (hv22.mono hG23), SlR.nil, SlR.nil, aw31_ok⟩ S_122 cp31) rfl (g9 34 ?_))))))
 rfl

end Go.Proofs.YtfmigmijckdldaaGreat
namespace Go.Proofs.YtfmigmijckdldaaGreat
open Go Go.Fw Go.RowKit
attribute [local irreducible] Ok W WC
theorem fsteps_in {G : GH} (cfan : Int) (cleaf : Int) (cbud : Int) (cslots : Int) (crest : Int) {v_l : Value} {l : List Nd} (h_l : SlR eNode G v_l l) (p : Int) (k : Str) (ha : 0 ≤ p ∧ p < (l.length : Int)) :
    Fc Tryz.prog 3 [.agg #[iV cfan, iV cleaf, iV cbud, iV cslots, iV crest], v_l, iV p, sV k.b] G [] (fun v _ _ => v = .bool (true)) := by
 obtain ⟨sa_l, sc_l, rfl⟩ := h_l.form
 have hl := h_l.len47
 refine Fc.go [.tmp 8] Tryz.func3 Tryz.ntmps3 rfl (fun w0 => (g9 2 ?_))
 refine W.box (L := [iV _, iV _, iV _, iV _, iV _]) rfl rfl (fun b1 => (g9 8 ?_))
 refine W.qcall (tree_fc _ _ _ _ _ h_l _ om9) rfl (g9 2 ?_)
 refine W.sp 25 rfl (fun h24 => ?_) (fun h24 => ?_)
 ·refine g9 9 ?_
  refine W.qcall (awk31_fc) rfl (g9 6 ?_)
  rfl
 obtain ⟨ss, t⟩ := tree_of (c := (⟨cfan, cleaf, cbud, cslots, crest⟩ : Cfg)) (by simpa using h24) om9
 have hS := t.sml
 have hl100 := hS.1
 have hl60 := tree_len (most := 60) (c := (⟨cfan, cleaf, cbud, cslots, crest⟩ : Cfg)) (l := l) (by simpa using h24)
 obtain ⟨sT, tT, hmT⟩ := step_tree t ha k
 have hST := tT.sml
 refine g9 9 ?_
 refine WC.cd (fun h28 p28 => ?_) (fun h28 p28 => ?_)
 ·try dsimp only at p28
  refine g9 2 ?_
  refine W.qcall (awk31_fc) rfl (g9 6 ?_)
  rfl
 try dsimp only at p28
 refine g9 6 ?_
 refine W.call (Mp := []) (gload_fc (cfan) (cleaf) (cbud) (cslots) (crest) h_l) rfl pr9 ?_
 intro v5 G2 Ms4 hG2 q3
 have q6 := or3 q3
 refine Or.elim q6 (fun q7 => ?_) (fun q8 => ?_)
 ·refine match q7 with | ⟨hnl, e_9, e_10⟩ => ?_
  subst e_9
  subst e_10
  exact absurd ⟨t.cfg, t.pos, placed_of t.slot⟩ hnl
 refine Or.elim q8 (fun q11 => ?_) (fun q12 => ?_)
 ·refine match q11 with | ⟨hOK, hnle, e_13, e_14⟩ => ?_
  subst e_13
  subst e_14
  exact absurd t.q.1.2.2 hnle
 refine match q12 with | ⟨hOK, hle, bSt, e_15, hS9⟩ => ?_
 subst e_15
 refine W.perm (pmC pr9).symm (g9 11 ?_)
 refine W.call (Mp := []) (rof_fc (cfan) (cleaf) (cbud) (cslots) (crest) (h_l.mono hG2)) rfl pr9 ?_
 intro v19 G16 Ms18 hG16 q17
 refine match q17 with | ⟨bRf, e_20, vRf, MoRf, eRf, hoRf⟩ => ?_
 subst e_20
 subst eRf
 have q22 := hoRf.form
 refine match q22 with | ⟨saRf, scRf, e_21⟩ => ?_
 subst e_21
 refine W.perm (M' := ((bRf, ce9 39 [iV cfan, iV cleaf, iV cbud, iV cslots, iV crest, lV saRf l.length scRf]) :: ((b1, ce9 23 [iV cfan, iV cleaf, iV cbud, iV cslots, iV crest]) :: (MoRf ++ (Ms4 ++ []))))) (((pmC pr9).cons _).trans pr9).symm (g9 8 ?_)
 refine W.call (Mp := Ms4) (fstep_in (StR.mono hG16 hS9) t p k rfl ha) rfl (pmC (pmC (pmA pr9))) ?_
 intro v26 G23 Ms25 hG23 q24
 refine match q24 with | ⟨e_28, hR27⟩ => ?_
 subst e_28
 refine W.perm (pmC (pmC pr9)).symm (g9 15 ?_)
 refine W.sd 50 (fun h49 p49 => ?_) (fun h49 p49 => ?_)
 ·try dsimp only at p49
  exfalso; omega
 try dsimp only at p49
 refine g9 11 ?_
 refine WC.cd (fun h54 p54 => ?_) (fun h54 p54 => ?_)
 ·try dsimp only at p54
  exfalso; omega
 try dsimp only at p54
 refine g9 7 ?_
 refine W.call (Mp := ((bRf, ce9 39 [iV cfan, iV cleaf, iV cbud, iV cslots, iV crest, lV saRf l.length scRf]) :: MoRf)) (Mr := ((b1, ce9 23 [iV cfan, iV cleaf, iV cbud, iV cslots, iV crest]) :: (Ms25 ++ []))) (rstep_fc (c := (⟨cfan, cleaf, cbud, cslots, crest⟩ : Cfg)) (hoRf.mono hG23) p k _ t ha) rfl (((pmC (pmA pr9)).cons _).trans pr9) ?_
 intro v30 G31 Ms32 hG31 q29
 refine match q29 with | ⟨e_33, vRg, MoRg, eRg, hoRg⟩ => ?_
 subst e_33
 subst eRg
 have q35 := hoRg.form
 refine match q35 with | ⟨saRg, scRg, e_34⟩ => ?_
 subst e_34
 refine W.perm (M' := ((bRf, ce9 39 [iV cfan, iV cleaf, iV cbud, iV cslots, iV crest, lV saRg ((stepN (⟨cfan, cleaf, cbud, cslots, crest⟩ : Cfg) l p k).2).length scRg]) :: ((b1, ce9 23 [iV cfan, iV cleaf, iV cbud, iV cslots, iV crest]) :: (MoRg ++ (Ms25 ++ []))))) (((pmC pr9).cons _).trans pr9).symm (g9 11 ?_)
 refine WC.dw (sn9.k9.k9) (d9 [0, 1, 2, 3, 4, 5, 6, 7] ?_)
 refine WD.sp 95 rfl (fun h93 => ?_) (fun h93 => ?_)
 ·have p93 := nd_t h93
  try dsimp only at p93
  exact absurd rfl p93
 have p93 := nd_f h93
 try dsimp only at p93
 refine d9 [8, 9, 10, 11, 12] ?_
 refine WD.sp 100 rfl (fun h98 => ?_) (fun h98 => ?_)
 ·have p98 := nd_t h98
  try dsimp only at p98
  exact absurd rfl p98
 have p98 := nd_f h98
 try dsimp only at p98
 refine d9 [13, 14, 15, 16, 17] ?_
 refine WD.sp 105 rfl (fun h103 => ?_) (fun h103 => ?_)
 ·have p103 := nd_t h103
  try dsimp only at p103
  exact absurd rfl p103
 have p103 := nd_f h103
 try dsimp only at p103
 refine d9 [18, 20, 21, 22, 23] ?_
 refine WD.anyG [19] (by kernel_rfl) rfl ⟨⟨_, rfl, .inr ⟨_, 105, _, _, rfl, rfl, rfl, h103, rfl⟩, (W.call (Mp := Ms25) (pnodes_fc (StR.mono hG31 hR27)) rfl (pmC (pmC (pmA pr9))) ?_)⟩, trivial⟩
 intro v39 G36 Ms38 hG36 q37
 refine match q37 with | ⟨hR40, eeq37⟩ => ?_
 have eeq37 := eeq37.symm
 subst eeq37
 refine W.perm (pmC (pmC pr9)).symm ?_
 have q42 := hR40.form
 refine match q42 with | ⟨sa_hR40, sc_hR40, e_41⟩ => ?_
 subst e_41
 refine W.nn (WD.anyG [24] (by kernel_rfl) rfl ⟨⟨_, rfl, .inr ⟨_, 105, _, _, rfl, rfl, rfl, h103, rfl⟩, (W.giveO (hoRg.mono hG36) (pmC (pmC (pmA pr9))) (fun G43 hG43 hv43 => (W.qcall ((all21_fc (hR40.mono hG43) hv43).mono (fun v _ _ _ hv => hv.trans (congrArg Value.bool (decide_eq_true rfl)))) rfl (W.nn (d9 [25, 26] ?_)))))⟩, trivial⟩)
 refine g9 9 ?_
 refine W.qcall ((fstep_nil p k).mono (fun v _ _ _ hv => hv.1)) rfl (g9 10 ?_)
 refine WC.dw (sn9.k9.k9) (d9 [0, 1] ?_)
 refine WD.a1 2 rfl (W.call (Mp := Ms25) (pnodes_fc (StR.mono lec hR27)) rfl (pmC (pmC pr9)) ?_)
 intro v47 G44 Ms46 hG44 q45
 refine match q45 with | ⟨hR48, eeq45⟩ => ?_
 have eeq45 := eeq45.symm
 subst eeq45
 refine W.perm (pmC (pmC pr9)).symm ?_
 have q50 := hR48.form
 refine match q50 with | ⟨sa_hR48, sc_hR48, e_49⟩ => ?_
 subst e_49
 refine W.nn (WD.a1 3 rfl (W.qcall ((sound_fc _ _ _ _ _ hR48 hST).mono (fun v _ _ _ hv => hv.trans (congrArg Value.bool tT.sound))) rfl (W.nn (d9 [4, 5, 8] ?_))))
 refine WD.anyG [6] (by kernel_rfl) rfl ⟨⟨_, rfl, .inr ⟨_, 126, _, _, rfl, rfl, rfl, rfl, rfl⟩, (W.call (Mp := Ms25) (pnodes_fc (StR.mono lec hR27)) rfl (pmC (pmC pr9)) ?_)⟩, trivial⟩
 intro v54 G51 Ms53 hG51 q52
 refine match q52 with | ⟨hR55, eeq52⟩ => ?_
 have eeq52 := eeq52.symm
 subst eeq52
 refine W.perm (pmC (pmC pr9)).symm ?_
 have q57 := hR55.form
 refine match q57 with | ⟨sa_hR55, sc_hR55, e_56⟩ => ?_
 subst e_56
 refine W.nn (WD.anyG [7] (by kernel_rfl) rfl ⟨⟨_, rfl, .inr ⟨_, 126, _, _, rfl, rfl, rfl, rfl, rfl⟩, (W.cS (map27_fc hR55 _ _ tT) rfl (fun sa_hv59 sc_hv59 G58 hG58 hv59 => (W.nn (WD.anyG [9] (by kernel_rfl) rfl ⟨⟨_, rfl, .inr ⟨_, 126, _, _, rfl, rfl, rfl, rfl, rfl⟩, (W.cS (map27_fc (h_l.mono lec) _ _ t) rfl (fun sa_hv66 sc_hv66 G65 hG65 hv66 => (W.nn (WD.anyG [10] (by kernel_rfl) rfl ⟨⟨_, rfl, .inr ⟨_, 126, _, _, rfl, rfl, rfl, rfl, rfl⟩, (W.qcall ((samep_fc (hv59.mono hG65) hv66).mono (fun v _ _ _ hv => hv.trans (congrArg Value.bool (decide_eq_true hmT)))) rfl (W.nn (d9 [11, 12, 13, 14, 15, 16] ?_)))⟩, trivial⟩))))⟩, trivial⟩))))⟩, trivial⟩)
 refine WD.sp 138 rfl (fun h136 => ?_) (fun h136 => ?_)
 ·have p136 := odt h136
  try dsimp only at p136
  refine WD.anyG [17] (by kernel_rfl) rfl ⟨⟨_, rfl, .inr ⟨_, 138, _, _, rfl, rfl, rfl, h136, rfl⟩, (W.qcall (awk31_fc) rfl (W.nn (d9 [18, 19] ?_)))⟩, trivial⟩
  refine g9 4 ?_
  rfl
 have p136 := odf h136
 try dsimp only at p136
 exact absurd rfl p136

theorem fsteps_no {G : GH} (cfan : Int) (cleaf : Int) (cbud : Int) (cslots : Int) (crest : Int) {v_l : Value} {l : List Nd} (h_l : SlR eNode G v_l l) (p : Int) (k : Str) (ha : ¬ (0 ≤ p ∧ p < (l.length : Int))) :
    Fc Tryz.prog 3 [.agg #[iV cfan, iV cleaf, iV cbud, iV cslots, iV crest], v_l, iV p, sV k.b] G [] (fun v _ _ => v = .bool (true)) := by
 obtain ⟨sa_l, sc_l, rfl⟩ := h_l.form
 have hl := h_l.len47
 refine Fc.go [.tmp 8] Tryz.func3 Tryz.ntmps3 rfl (fun w0 => (g9 2 ?_))
 refine W.box (L := [iV _, iV _, iV _, iV _, iV _]) rfl rfl (fun b72 => (g9 8 ?_))
 refine W.qcall (tree_fc _ _ _ _ _ h_l _ om9) rfl (g9 2 ?_)
 refine W.sp 25 rfl (fun h24 => ?_) (fun h24 => ?_)
 ·refine g9 9 ?_
  refine W.qcall (awk31_fc) rfl (g9 6 ?_)
  rfl
 obtain ⟨ss, t⟩ := tree_of (c := (⟨cfan, cleaf, cbud, cslots, crest⟩ : Cfg)) (by simpa using h24) om9
 have hS := t.sml
 have hl100 := hS.1
 have hl60 := tree_len (most := 60) (c := (⟨cfan, cleaf, cbud, cslots, crest⟩ : Cfg)) (l := l) (by simpa using h24)
 refine g9 9 ?_
 refine WC.cd (fun h28 p28 => ?_) (fun h28 p28 => ?_)
 ·try dsimp only at p28
  refine g9 2 ?_
  refine W.qcall (awk31_fc) rfl (g9 6 ?_)
  rfl
 try dsimp only at p28
 refine g9 6 ?_
 refine W.call (Mp := []) (gload_fc (cfan) (cleaf) (cbud) (cslots) (crest) h_l) rfl pr9 ?_
 intro v76 G73 Ms75 hG73 q74
 have q77 := or3 q74
 refine Or.elim q77 (fun q78 => ?_) (fun q79 => ?_)
 ·refine match q78 with | ⟨hnl, e_80, e_81⟩ => ?_
  subst e_80
  subst e_81
  exact absurd ⟨t.cfg, t.pos, placed_of t.slot⟩ hnl
 refine Or.elim q79 (fun q82 => ?_) (fun q83 => ?_)
 ·refine match q82 with | ⟨hOK, hnle, e_84, e_85⟩ => ?_
  subst e_84
  subst e_85
  exact absurd t.q.1.2.2 hnle
 refine match q83 with | ⟨hOK, hle, bSt, e_86, hS9⟩ => ?_
 subst e_86
 refine W.perm (pmC pr9).symm (g9 11 ?_)
 refine W.call (Mp := []) (rof_fc (cfan) (cleaf) (cbud) (cslots) (crest) (h_l.mono hG73)) rfl pr9 ?_
 intro v90 G87 Ms89 hG87 q88
 refine match q88 with | ⟨bRf, e_91, vRf, MoRf, eRf, hoRf⟩ => ?_
 subst e_91
 subst eRf
 have q93 := hoRf.form
 refine match q93 with | ⟨saRf, scRf, e_92⟩ => ?_
 subst e_92
 refine W.perm (M' := ((bRf, ce9 39 [iV cfan, iV cleaf, iV cbud, iV cslots, iV crest, lV saRf l.length scRf]) :: ((b72, ce9 23 [iV cfan, iV cleaf, iV cbud, iV cslots, iV crest]) :: (MoRf ++ (Ms75 ++ []))))) (((pmC pr9).cons _).trans pr9).symm (g9 8 ?_)
 refine W.call (Mp := Ms75) (fstep_no (StR.mono hG87 hS9) t p k ha) rfl (pmC (pmC (pmA pr9))) ?_
 intro v97 G94 Ms96 hG94 q95
 refine match q95 with | ⟨e_99, hR98⟩ => ?_
 subst e_99
 refine W.perm (pmC (pmC pr9)).symm (g9 15 ?_)
 refine W.sd 50 (fun h49 p49 => ?_) (fun h49 p49 => ?_)
 ·try dsimp only at p49
  refine g9 19 ?_
  refine W.sd 62 (fun h60 p60 => ?_) (fun h60 p60 => ?_)
  ·try dsimp only at p60
   refine g9 8 ?_
   refine W.sd 67 (fun h65 p65 => ?_) (fun h65 p65 => ?_)
   ·try dsimp only at p65
    refine g9 6 ?_
    refine W.sd 71 (fun h69 p69 => ?_) (fun h69 p69 => ?_)
    ·try dsimp only at p69
     refine g9 3 ?_
     refine W.call (Mp := Ms96) (pnodes_fc hR98) rfl (pmC (pmC pr9)) ?_
     intro v103 G100 Ms102 hG100 q101
     refine match q101 with | ⟨hR104, eeq101⟩ => ?_
     have eeq101 := eeq101.symm
     subst eeq101
     refine W.perm (pmC (pmC pr9)).symm ?_
     have q106 := hR104.form
     refine match q106 with | ⟨sa_hR104, sc_hR104, e_105⟩ => ?_
     subst e_105
     refine g9 3 ?_
     refine W.qcall ((all21_fc hR104 (h_l.mono lec)).mono (fun v _ _ _ hv => hv.trans (congrArg Value.bool (decide_eq_true rfl)))) rfl (g9 3 ?_)
     refine W.qcall (awk31_fc) rfl (g9 7 ?_)
     rfl
    try dsimp only at p69
    exact absurd rfl p69
   try dsimp only at p65
   exact absurd rfl p65
  try dsimp only at p60
  exact absurd rfl p60
 try dsimp only at p49
 refine g9 11 ?_
 refine WC.cd (fun h54 p54 => ?_) (fun h54 p54 => ?_)
 ·try dsimp only at p54
  refine g9 11 ?_
  refine W.sd 62 (fun h60 p60 => ?_) (fun h60 p60 => ?_)
  ·try dsimp only at p60
   refine g9 8 ?_
   refine W.sd 67 (fun h65 p65 => ?_) (fun h65 p65 => ?_)
   ·try dsimp only at p65
    refine g9 6 ?_
    refine W.sd 71 (fun h69 p69 => ?_) (fun h69 p69 => ?_)
    ·try dsimp only at p69
     refine g9 3 ?_
     refine W.call (Mp := Ms96) (pnodes_fc hR98) rfl (pmC (pmC pr9)) ?_
     intro v110 G107 Ms109 hG107 q108
     refine match q108 with | ⟨hR111, eeq108⟩ => ?_
     have eeq108 := eeq108.symm
     subst eeq108
     refine W.perm (pmC (pmC pr9)).symm ?_
     have q113 := hR111.form
     refine match q113 with | ⟨sa_hR111, sc_hR111, e_112⟩ => ?_
     subst e_112
     refine g9 3 ?_
     refine W.qcall ((all21_fc hR111 (h_l.mono lec)).mono (fun v _ _ _ hv => hv.trans (congrArg Value.bool (decide_eq_true rfl)))) rfl (g9 3 ?_)
     refine W.qcall (awk31_fc) rfl (g9 7 ?_)
     rfl
    try dsimp only at p69
    exact absurd rfl p69
   try dsimp only at p65
   exact absurd rfl p65
  try dsimp only at p60
  exact absurd rfl p60
 try dsimp only at p54
 exfalso; omega

theorem flushSteps_fc {G : GH} (cfan cleaf cbud cslots crest : Int) {v_l : Value} {l : List Nd} (h_l : SlR eNode G v_l l) (p : Int) (k : Str) : Fc Tryz.prog 3 [.agg #[iV cfan, iV cleaf, iV cbud, iV cslots, iV crest], v_l, iV p, sV k.b] G [] (fun v _ _ => v = .bool true) := by
  by_cases ha : 0 ≤ p ∧ p < (l.length : Int)
  · exact fsteps_in cfan cleaf cbud cslots crest h_l p k ha
  exact fsteps_no cfan cleaf cbud cslots crest h_l p k ha
end Go.Proofs.YtfmigmijckdldaaGreat
