/- The law BpsoundTells is walked. -/
import Derived.Test.YtcngningbcaggaaQfTn
import Derived.Test.YtcngningbcaggaaQfA17
set_option maxRecDepth 100000
set_option maxHeartbeats 1600000
set_option linter.unusedVariables false
set_option linter.unusedSimpArgs false
set_option linter.unnecessarySimpa false
namespace Go.Proofs.Ytcngningbcaggaa
open Go Go.Fw Go.RowKit
attribute [local irreducible] Ok W WC
theorem light_fc {G : GH} {v_l : Value} {l : List Nd} (h_l : SlR eNode G v_l l) (n : Int) (m : Int) (hm : 0 ≤ m ∧ m ≤ 1073741824) :
    Fc Try.prog 18 [v_l, iV n, iV m] G [] (fun v _ _ => v = .bool (decide (Light l n m))) := by
 obtain ⟨sa_l, sc_l, rfl⟩ := h_l.form
 have hl := h_l.len47
 refine Fc.go [.tmp 6] Try.func18 Try.ntmps18 rfl (fun w0 => (g9 14 ?_))
 refine WC.cd (fun h11 p11 => ?_) (fun h11 p11 => ?_)
 ·refine g9 8 ?_
  refine congrArg Value.bool ?_
  exact (decide_eq_false fun h => by have := h.1; omega).symm
 refine g9 9 ?_
 refine WC.loop (X := Nat) (fun k => [(7, nt9 k), (0, lV sa_l l.length sc_l), (1, iV n), (2, iV m)]) (fun k _ Ml => Ml = [] ∧ ∀ i (h : i < l.length), i < k → l[i].light m) (fun k => l.length - k) 0 hs9 ?_ ?_
 ·exact ⟨rfl, fun i _ h => by omega⟩
 rintro k gG1 G1 _ hG1 ⟨rfl, hk⟩
 refine g9 9 ?_
 refine WC.cd (fun h15 p15 => ?_) (fun h15 p15 => ?_)
 ·refine g9 8 ?_
  refine (h_l.mono hG1).aN (i := k) om9 (fun _ _ _ _ _ _ _ _ he2 hp_n3 hk_n3 hm_n3 hr_n3 hok_n3 => (g9 4 ?_))
  refine W.qcall (longp_fc hr_n3 _ om9) rfl (g9 2 ?_)
  refine W.sp 26 rfl (fun h25 => ?_) (fun h25 => ?_)
  ·refine g9 55 ?_
   refine congrArg Value.bool ?_
   exact (decide_eq_false fun h => by obtain ⟨q1, q2, q3, q4, q5⟩ := h.2 k om9; first | omega | (simp at h25; omega) | (simp at h55; omega)).symm
  refine g9 5 ?_
  refine (h_l.mono hG1).aN (i := k) om9 (fun _ _ _ _ _ _ _ _ he6 hp_n7 hk_n7 hm_n7 hr_n7 hok_n7 => (g9 8 ?_))
  refine W.qcall (rlong_fc hp_n7 _ om9) rfl (g9 6 ?_)
  refine W.sd 37 (fun h35 p35 => ?_) (fun h35 p35 => ?_)
  ·refine g9 44 ?_
   refine congrArg Value.bool ?_
   exact (decide_eq_false fun h => by obtain ⟨q1, q2, q3, q4, q5⟩ := h.2 k om9; first | omega | (simp at h25; omega) | (simp at h55; omega)).symm
  refine g9 5 ?_
  refine (h_l.mono hG1).aN (i := k) om9 (fun _ _ _ _ _ _ _ _ he10 hp_n11 hk_n11 hm_n11 hr_n11 hok_n11 => (g9 13 ?_))
  refine W.sd 47 (fun h45 p45 => ?_) (fun h45 p45 => ?_)
  ·refine g9 34 ?_
   refine congrArg Value.bool ?_
   exact (decide_eq_false fun h => by obtain ⟨q1, q2, q3, q4, q5⟩ := h.2 k om9; first | omega | (simp at h25; omega) | (simp at h55; omega)).symm
  refine g9 5 ?_
  refine (h_l.mono hG1).aN (i := k) om9 (fun _ _ _ _ _ _ _ _ he14 hp_n15 hk_n15 hm_n15 hr_n15 hok_n15 => (g9 8 ?_))
  refine W.qcall (few_fc hm_n15 _ om9) rfl (g9 4 ?_)
  refine W.sp 57 rfl (fun h55 => ?_) (fun h55 => ?_)
  ·refine g9 24 ?_
   refine congrArg Value.bool ?_
   exact (decide_eq_false fun h => by obtain ⟨q1, q2, q3, q4, q5⟩ := h.2 k om9; first | omega | (simp at h25; omega) | (simp at h55; omega)).symm
  refine g9 5 ?_
  refine (h_l.mono hG1).aN (i := k) om9 (fun _ _ _ _ _ _ _ _ he18 hp_n19 hk_n19 hm_n19 hr_n19 hok_n19 => (g9 14 ?_))
  refine WC.cd (fun h65 p65 => ?_) (fun h65 p65 => ?_)
  ·refine g9 12 ?_
   refine congrArg Value.bool ?_
   exact (decide_eq_false fun h => by obtain ⟨q1, q2, q3, q4, q5⟩ := h.2 k om9; first | omega | (simp at h25; omega) | (simp at h55; omega)).symm
  refine g9 9 ?_
  exact ⟨Le.rfl, k + 1, hs9, ⟨rfl, fun i h hi => by
      by_cases e : i = k
      · subst e; exact ⟨by simpa using h25, om9, om9, by simpa using h55, om9⟩
      · exact hk i h om9⟩, om9⟩
 refine g9 12 ?_
 refine congrArg Value.bool ?_
 exact (decide_eq_true ⟨om9, fun i h => hk i h om9⟩).symm

theorem bpsoundTells_fc {G : GH} (cfan : Int) (cleaf : Int) (cbud : Int) (cslots : Int) (crest : Int) (root : Int) {v_l : Value} {l : List Nd} (h_l : SlR eNode G v_l l) (hi1 : i64 cfan) (hi2_ : i64 cleaf) :
    Fc Try.prog 4 [.agg #[iV cfan, iV cleaf, iV cbud, iV cslots, iV crest], iV root, v_l] G [] (fun v _ _ => v = .bool (true)) := by
 obtain ⟨sa_l, sc_l, rfl⟩ := h_l.form
 have hl := h_l.len47
 refine Fc.go [.tmp 6] Try.func4 Try.ntmps4 rfl (fun w0 => (g9 2 ?_))
 refine W.box (L := [iV _, iV _, iV _, iV _, iV _]) rfl rfl (fun b22 => (g9 7 ?_))
 refine W.qcall (light_fc h_l _ _ om9) rfl (g9 3 ?_)
 refine WC.cond rfl (fun h12 => ?_) (fun h12 => ?_)
 ·refine g9 2 ?_
  refine W.qcall (awake17_fc) rfl (g9 6 ?_)
  rfl
 have hS : Sml l := sml_light2 (m := 1000) (by simpa using h12) om9 om9 om9
 have hl100 := hS.1
 refine g9 7 ?_
 refine Or.elim (Bool.eq_false_or_eq_true (sound17 (⟨cfan, cleaf, cbud, cslots, crest⟩ : Cfg) root l)) (fun q23 => ?_) (fun q24 => ?_)
 ·have h17 := q23
  have hll := (sound_iff17.1 h17).lvl_le
  have hl0 := (sound_iff17.1 h17).lvl
  refine W.qcall ((sound17_fc cfan cleaf cbud cslots crest root h_l hS hi1 hi2_).mono (fun v _ _ _ hv => hv.trans (congrArg Value.bool h17))) rfl (g9 7 ?_)
  refine W.cN (findnd_fc h_l _) rfl (fun _ _ _ _ _ _ _ _ G25 hG25 hp_hv26 hk_hv26 hm_hv26 hr_hv26 hok_hv26 => (g9 3 ?_))
  refine W.alloc zr35 (fun b31 => (g9 6 ?_))
  refine WC.dw (sr9.k9.k9) (d9 [0, 1, 2, 4] ?_)
  refine WD.a1 3 rfl (W.qcall ((lksound_fc cfan cleaf cbud cslots crest root (h_l.mono hG25) hS hi1 hi2_).mono (fun v _ _ _ hv => hv.trans (congrArg Value.bool h17))) rfl (W.nn (WD.tk 5 rfl (ok_neqB bo4 rfl rfl) (d9 [6, 7, 8, 9, 11, 12, 13] ?_))))
  refine WD.anyG [10] (by kernel_rfl) rfl ⟨⟨_, rfl, .inr ⟨_, 30, _, _, rfl, rfl, rfl, rfl, rfl⟩, (W.cS (lkmap_fc cfan cleaf cbud cslots crest root (h_l.mono hG25) hS hi1 hi2_) rfl (fun sa_hv33 sc_hv33 G32 hG32 hv33 => (W.nn (WD.anyG [14] (by kernel_rfl) rfl ⟨⟨_, rfl, .inr ⟨_, 30, _, _, rfl, rfl, rfl, rfl, rfl⟩, (W.cS (map17_fc cfan cleaf cbud cslots crest root (h_l.mono lec) hS hi1 hi2_) rfl (fun sa_hv40 sc_hv40 G39 hG39 hv40 => (W.nn (WD.anyG [15] (by kernel_rfl) rfl ⟨⟨_, rfl, .inr ⟨_, 30, _, _, rfl, rfl, rfl, rfl, rfl⟩, (W.qcall ((samep_fc (hv33.mono hG39) hv40).mono (fun v _ _ _ hv => hv.trans (congrArg Value.bool (decide_eq_true rfl)))) rfl (W.nn (d9 [16, 17] ?_)))⟩, trivial⟩))))⟩, trivial⟩))))⟩, trivial⟩
  refine g9 16 ?_
  refine W.qcall ((lkheight_fc cfan cleaf cbud cslots crest root (h_l.mono lec) hS hi1 hi2_).mono (fun v _ _ _ hv => hv.trans (congrArg (Value.int .i64) (if_pos h17)))) rfl (g9 10 ?_)
  refine W.sd 53 (fun h51 p51 => ?_) (fun h51 p51 => ?_)
  ·try dsimp only at p51
   refine g9 12 ?_
   refine W.qcall (awake17_fc) rfl (g9 6 ?_)
   rfl
  try dsimp only at p51
  exact absurd rfl p51
 have h17 := q24
 refine W.qcall ((sound17_fc cfan cleaf cbud cslots crest root h_l hS hi1 hi2_).mono (fun v _ _ _ hv => hv.trans (congrArg Value.bool h17))) rfl (g9 7 ?_)
 refine W.cN (findnd_fc h_l _) rfl (fun _ _ _ _ _ _ _ _ G46 hG46 hp_hv47 hk_hv47 hm_hv47 hr_hv47 hok_hv47 => (g9 3 ?_))
 refine W.alloc zr35 (fun b52 => (g9 6 ?_))
 refine WC.dw (sr9.k9.k9) (d9 [0, 1, 2, 4] ?_)
 refine WD.a1 3 rfl (W.qcall ((lksound_fc cfan cleaf cbud cslots crest root (h_l.mono hG46) hS hi1 hi2_).mono (fun v _ _ _ hv => hv.trans (congrArg Value.bool h17))) rfl (W.nn (WD.tk 5 rfl (ok_neqB bo4 rfl rfl) (d9 [6, 7, 8, 9, 11, 12, 13] ?_))))
 refine WD.anyG [10] (by kernel_rfl) rfl ⟨⟨_, rfl, .inr ⟨_, 30, _, _, rfl, rfl, rfl, rfl, rfl⟩, (W.cS (lkmap_fc cfan cleaf cbud cslots crest root (h_l.mono hG46) hS hi1 hi2_) rfl (fun sa_hv54 sc_hv54 G53 hG53 hv54 => (W.nn (WD.anyG [14] (by kernel_rfl) rfl ⟨⟨_, rfl, .inr ⟨_, 30, _, _, rfl, rfl, rfl, rfl, rfl⟩, (W.cS (map17_fc cfan cleaf cbud cslots crest root (h_l.mono lec) hS hi1 hi2_) rfl (fun sa_hv61 sc_hv61 G60 hG60 hv61 => (W.nn (WD.anyG [15] (by kernel_rfl) rfl ⟨⟨_, rfl, .inr ⟨_, 30, _, _, rfl, rfl, rfl, rfl, rfl⟩, (W.qcall ((samep_fc (hv54.mono hG60) hv61).mono (fun v _ _ _ hv => hv.trans (congrArg Value.bool (decide_eq_true rfl)))) rfl (W.nn (d9 [16, 17] ?_)))⟩, trivial⟩))))⟩, trivial⟩))))⟩, trivial⟩
 refine g9 32 ?_
 refine W.qcall ((lkheight_fc cfan cleaf cbud cslots crest root (h_l.mono lec) hS hi1 hi2_).mono (fun v _ _ _ hv => hv.trans (congrArg (Value.int .i64) (if_neg (by rw [h17]; exact Bool.false_ne_true))))) rfl (g9 7 ?_)
 refine W.qcall (awake17_fc) rfl (g9 6 ?_)
 rfl

end Go.Proofs.Ytcngningbcaggaa
