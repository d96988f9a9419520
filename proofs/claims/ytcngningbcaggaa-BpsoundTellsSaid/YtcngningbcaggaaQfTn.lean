/- Walks of what tells of plain trees. -/
import Derived.Test.YtcngningbcaggaaQfTm
set_option maxRecDepth 100000
set_option maxHeartbeats 1600000
set_option linter.unusedVariables false
set_option linter.unusedSimpArgs false
set_option linter.unnecessarySimpa false
namespace Go.Proofs.Ytcngningbcaggaa
open Go Go.Fw Go.RowKit
attribute [local irreducible] Ok W WC
theorem lksound_fc {G : GH} (cfan : Int) (cleaf : Int) (cbud : Int) (cslots : Int) (crest : Int) (root : Int) {v_l : Value} {l : List Nd} (h_l : SlR eNode G v_l l) (hS : Sml l) (hi1 : i64 cfan) (hi2_ : i64 cleaf) :
    Fc Try.prog 22 [.agg #[iV cfan, iV cleaf, iV cbud, iV cslots, iV crest], iV root, v_l] G [] (fun v _ _ => v = .bool (sound17 (⟨cfan, cleaf, cbud, cslots, crest⟩ : Cfg) root l)) := by
 obtain ⟨sa_l, sc_l, rfl⟩ := h_l.form
 have hl := h_l.len47
 have hl100 := hS.1
 refine Fc.go [.tmp 6] Try.func22 Try.ntmps22 rfl (fun w0 => (g9 2 ?_))
 refine W.box (L := [iV _, iV _, iV _, iV _, iV _]) rfl rfl (fun b1 => (g9 8 ?_))
 refine W.call (Mp := []) (whole17_fc cfan cleaf cbud cslots crest root h_l hS hi1 hi2_) rfl pr9 ?_
 intro v5 G2 Ms4 hG2 q3
 refine Or.elim q3 (fun q6 => ?_) (fun q7 => ?_)
 ·refine match q6 with | ⟨hng, e_8, e_9⟩ => ?_
  subst e_8
  subst e_9
  refine W.ok (ok_neqPN pp84 rfl rfl) (g9 5 ?_)
  refine congrArg Value.bool ?_
  exact (Bool.eq_false_iff.2 fun h => hng (sound_iff17.1 h)).symm
 refine match q7 with | ⟨hg, bk, mt9, e_11, hK10⟩ => ?_
 subst e_11
 obtain ⟨vatlo12, bmlo12, volo12, Mmlo12, Molo12, eMlo12, hatlo12, hmtlo12, holo12⟩ := hK10
 subst eMlo12
 obtain ⟨balo12, rfl⟩ := hatlo12.form
 obtain ⟨sa_lo12, sc_lo12, rfl⟩ := holo12.form
 dsimp only at hmtlo12 holo12
 refine W.perm (M' := ((bk, ce9 88 [iV cfan, iV cleaf, iV cbud, iV cslots, iV crest, .map (some balo12), .map (some bmlo12), lV sa_lo12 ((map17 (⟨cfan, cleaf, cbud, cslots, crest⟩ : Cfg) root l)).length sc_lo12]) :: ((b1, ce9 23 [iV cfan, iV cleaf, iV cbud, iV cslots, iV crest]) :: (Mmlo12 ++ (Molo12 ++ []))))) (((pmC ((pmF pr9).trans pr9)).cons _).trans pr9).symm ?_
 have hbf := by_find hg.nd root
 have hll := hg.lvl_le
 have hl0 := hg.lvl
 refine W.ok (ok_neqPN pp84 rfl rfl) (g9 5 ?_)
 refine congrArg Value.bool ?_
 exact (sound_iff17.2 hg).symm

theorem lkmap_fc {G : GH} (cfan : Int) (cleaf : Int) (cbud : Int) (cslots : Int) (crest : Int) (root : Int) {v_l : Value} {l : List Nd} (h_l : SlR eNode G v_l l) (hS : Sml l) (hi1 : i64 cfan) (hi2_ : i64 cleaf) :
    Fc Try.prog 23 [.agg #[iV cfan, iV cleaf, iV cbud, iV cslots, iV crest], iV root, v_l] G [] (fun v G' M' => M' = [] ∧ ∃ u0, v = u0 ∧ SlR ePair G' u0 (map17 (⟨cfan, cleaf, cbud, cslots, crest⟩ : Cfg) root l)) := by
 obtain ⟨sa_l, sc_l, rfl⟩ := h_l.form
 have hl := h_l.len47
 have hl100 := hS.1
 refine Fc.go [.tmp 6] Try.func23 Try.ntmps23 rfl (fun w0 => (g9 2 ?_))
 refine W.box (L := [iV _, iV _, iV _, iV _, iV _]) rfl rfl (fun b13 => (g9 9 ?_))
 refine W.call (Mp := []) (whole17_fc cfan cleaf cbud cslots crest root h_l hS hi1 hi2_) rfl pr9 ?_
 intro v17 G14 Ms16 hG14 q15
 refine Or.elim q15 (fun q18 => ?_) (fun q19 => ?_)
 ·refine match q18 with | ⟨hng, e_20, e_21⟩ => ?_
  subst e_20
  subst e_21
  refine g9 6 ?_
  refine W.ok (ok_neqPN pp84 rfl rfl) (g9 12 ?_)
  refine ⟨rfl, _, rfl, ?_⟩
  · rw [map17_bad hng]; exact SlR.nil
 refine match q19 with | ⟨hg, bk, mt9, e_23, hK22⟩ => ?_
 subst e_23
 obtain ⟨vatlo24, bmlo24, volo24, Mmlo24, Molo24, eMlo24, hatlo24, hmtlo24, holo24⟩ := hK22
 subst eMlo24
 obtain ⟨balo24, rfl⟩ := hatlo24.form
 obtain ⟨sa_lo24, sc_lo24, rfl⟩ := holo24.form
 dsimp only at hmtlo24 holo24
 refine W.perm (M' := ((bk, ce9 88 [iV cfan, iV cleaf, iV cbud, iV cslots, iV crest, .map (some balo24), .map (some bmlo24), lV sa_lo24 ((map17 (⟨cfan, cleaf, cbud, cslots, crest⟩ : Cfg) root l)).length sc_lo24]) :: ((b13, ce9 23 [iV cfan, iV cleaf, iV cbud, iV cslots, iV crest]) :: (Mmlo24 ++ (Molo24 ++ []))))) (((pmC ((pmF pr9).trans pr9)).cons _).trans pr9).symm ?_
 have hbf := by_find hg.nd root
 have hll := hg.lvl_le
 have hl0 := hg.lvl
 refine g9 6 ?_
 refine W.ok (ok_neqPN pp84 rfl rfl) (g9 12 ?_)
 refine WC.giveO holo24 (pmC (pmC (pmA pr9))) (fun G25 hG25 hv25 => (g9 3 ?_))
 refine ⟨rfl, _, rfl, ?_⟩
 · exact hv25

theorem lkheight_fc {G : GH} (cfan : Int) (cleaf : Int) (cbud : Int) (cslots : Int) (crest : Int) (root : Int) {v_l : Value} {l : List Nd} (h_l : SlR eNode G v_l l) (hS : Sml l) (hi1 : i64 cfan) (hi2_ : i64 cleaf) :
    Fc Try.prog 25 [.agg #[iV cfan, iV cleaf, iV cbud, iV cslots, iV crest], iV root, v_l] G [] (fun v _ _ => v = iV ((if sound17 (⟨cfan, cleaf, cbud, cslots, crest⟩ : Cfg) root l = true then (findN l root).1.level + 1 else 0))) := by
 obtain ⟨sa_l, sc_l, rfl⟩ := h_l.form
 have hl := h_l.len47
 have hl100 := hS.1
 refine Fc.go [.tmp 6] Try.func25 Try.ntmps25 rfl (fun w0 => (g9 2 ?_))
 refine W.box (L := [iV _, iV _, iV _, iV _, iV _]) rfl rfl (fun b26 => (g9 9 ?_))
 refine W.call (Mp := []) (whole17_fc cfan cleaf cbud cslots crest root h_l hS hi1 hi2_) rfl pr9 ?_
 intro v30 G27 Ms29 hG27 q28
 refine Or.elim q28 (fun q31 => ?_) (fun q32 => ?_)
 ·refine match q31 with | ⟨hng, e_33, e_34⟩ => ?_
  subst e_33
  subst e_34
  refine g9 6 ?_
  refine W.ok (ok_neqPN pp84 rfl rfl) (g9 12 ?_)
  refine congrArg (Value.int .i64) ?_
  exact (if_neg fun h => hng (sound_iff17.1 h)).symm
 refine match q32 with | ⟨hg, bk, mt9, e_36, hK35⟩ => ?_
 subst e_36
 obtain ⟨vatlo37, bmlo37, volo37, Mmlo37, Molo37, eMlo37, hatlo37, hmtlo37, holo37⟩ := hK35
 subst eMlo37
 obtain ⟨balo37, rfl⟩ := hatlo37.form
 obtain ⟨sa_lo37, sc_lo37, rfl⟩ := holo37.form
 dsimp only at hmtlo37 holo37
 refine W.perm (M' := ((bk, ce9 88 [iV cfan, iV cleaf, iV cbud, iV cslots, iV crest, .map (some balo37), .map (some bmlo37), lV sa_lo37 ((map17 (⟨cfan, cleaf, cbud, cslots, crest⟩ : Cfg) root l)).length sc_lo37]) :: ((b26, ce9 23 [iV cfan, iV cleaf, iV cbud, iV cslots, iV crest]) :: (Mmlo37 ++ (Molo37 ++ []))))) (((pmC ((pmF pr9).trans pr9)).cons _).trans pr9).symm ?_
 have hbf := by_find hg.nd root
 have hll := hg.lvl_le
 have hl0 := hg.lvl
 refine g9 6 ?_
 refine W.ok (ok_neqPN pp84 rfl rfl) (g9 10 ?_)
 have q40 := look_ghA (P := Try.prog) (V := vNode) (root) mk71 mz35 ⟨_, rfl, ⟨_, _, _, _, _, _, _, _, rfl, SlR.nil, SlR.nil, SlR.nil, SlR.nil, Nd.zero_ok⟩⟩ hatlo37
 refine match q40 with | ⟨v38, hv39, hl41, hl42⟩ => ?_
 refine W.ok (hl42 rfl rfl rfl) ?_
 rw [hbf.2] at hv39
 refine match hv39 with | ⟨_, e_44, ⟨_, _, _, _, _, _, _, _, e_45, hp_mn43, hk_mn43, hm_mn43, hr_mn43, hok_mn43⟩⟩ => ?_
 subst e_44
 subst e_45
 refine W.ok (ok_field (L := [iV _, iV _, lV _ _ _, lV _ _ _, sV _, .bool _, iV _, iV _, lV _ _ _, lV _ _ _]) (vs := ic9) pt35_1 rfl rfl rfl) (g9 7 ?_)
 refine congrArg (Value.int .i64) ?_
 exact (if_pos (sound_iff17.2 hg)).symm

theorem map17_fc {G : GH} (cfan : Int) (cleaf : Int) (cbud : Int) (cslots : Int) (crest : Int) (root : Int) {v_l : Value} {l : List Nd} (h_l : SlR eNode G v_l l) (hS : Sml l) (hi1 : i64 cfan) (hi2_ : i64 cleaf) :
    Fc Try.prog 24 [.agg #[iV cfan, iV cleaf, iV cbud, iV cslots, iV crest], iV root, v_l] G [] (fun v G' M' => M' = [] ∧ ∃ u0, v = u0 ∧ SlR ePair G' u0 (map17 (⟨cfan, cleaf, cbud, cslots, crest⟩ : Cfg) root l)) := by
 obtain ⟨sa_l, sc_l, rfl⟩ := h_l.form
 have hl := h_l.len47
 have hl100 := hS.1
 refine Fc.go [.tmp 6] Try.func24 Try.ntmps24 rfl (fun w0 => (g9 2 ?_))
 refine W.box (L := [iV _, iV _, iV _, iV _, iV _]) rfl rfl (fun b46 => (g9 14 ?_))
 refine W.qcall (sound17_fc cfan cleaf cbud cslots crest root h_l hS hi1 hi2_) rfl (g9 3 ?_)
 refine WC.cond rfl (fun h15 => ?_) (fun h15 => ?_)
 ·refine g9 8 ?_
  refine ⟨rfl, _, rfl, ?_⟩
  · rw [map17_f (by simpa using h15)]; exact SlR.nil
 have h17t : sound17 (⟨cfan, cleaf, cbud, cslots, crest⟩ : Cfg) root l = true := by simpa using h15
 refine g9 6 ?_
 have hsn9 := sound_seats h17t
 refine W.call (Mp := []) (seats17_fc h_l root (by assumption)) rfl pr9 ?_
 intro v49 G47 _ hG47 q48
 have q50 := q48.1
 subst q50
 have q51 := q48.2
 refine Or.elim q51 (fun q52 => ?_) (fun q53 => ?_)
 ·refine match q52 with | ⟨u_s54, ss, hss, e_55, hv_s54, hqs⟩ => ?_
  subst e_55
  have q57 := hv_s54.form
  refine match q57 with | ⟨sa_s54, sc_s54, e_56⟩ => ?_
  subst e_56
  have hss47 := hv_s54.len47
  refine g9 14 ?_
  refine WC.loop (X := (Nat) × Value × MH) (fun i => [(10, nt9 i.1), (8, lV sa_s54 ss.length sc_s54), (7, i.2.1)]) (fun i G Ml => Ml = ((b46, ce9 23 [iV cfan, iV cleaf, iV cbud, iV cslots, iV crest]) :: (i.2.2 ++ [])) ∧ OwnR ePair 68 G i.2.1 (rows17 (ss.take i.1)) i.2.2 ∧ i.1 ≤ ss.length) (fun i => ss.length - i.1) (0, lV none 0 0, ([] : MH)) hs9 ?_ ?_
  ·exact ⟨rfl, (by exact OwnR.nil), om9⟩
  rintro ⟨i, v_7, M_7⟩ gG58 G58 _ hG58 ⟨rfl, ho_7, hi⟩
  try dsimp only at ho_7 hi
  have hsl9 := sound_len h17t hss
  have hrl9 := rows17_len hS hqs i hi
  refine WC.fr (f := setL gG58 [(10, nt9 i), (8, lV sa_s54 ss.length sc_s54), (7, v_7)]) rfl (g9 9 ?_)
  refine WC.cd (fun h25 p25 => ?_) (fun h25 p25 => ?_)
  ·refine g9 8 ?_
   have q62 := (hv_s54.mono hG58).at (i := i) om9
   refine match q62 with | ⟨_, he59, ⟨_, _, _, _, _, _, _, _, e_61, hok_t60, hp_t60, hk_t60, hm_t60, hr_t60⟩⟩ => ?_
   subst e_61
   obtain ⟨sx, hssx⟩ : ∃ y, y = ((ss)[i]) := ⟨_, rfl⟩
   rw [← hssx] at he59 hp_t60 hk_t60 hm_t60 hr_t60 hok_t60
   refine g9 4 ?_
   refine W.app (e := ePair) sl31 ty68 zr68 rfl by68 rfl rfl (ho_7) (hr_t60) (pmC pr9) (by have hx9 : sx.n.rows.length ≤ 4000 := (by rw [hssx]; exact (hS.at (hqs i om9).nd).2.2.2.1); show (List.length _ + List.length _) * 32 ≤ _; omega) (fun v63 Ms64 ho65 => (W.perm (pmC pr9).symm (g9 10 ?_)))
   exact ⟨Le.rfl, (i + 1, v63, Ms64), hs9, ⟨rfl, (by have h := ho65; rw [hssx, ← rows17_succ om9] at h; exact h), om9⟩, om9⟩
  refine g9 11 ?_
  refine WC.giveO ho_7 (pmC pr9) (fun G66 hG66 hv66 => (g9 2 ?_))
  refine ⟨rfl, _, rfl, ?_⟩
  · have h := hv66; rw [List.take_of_length_le om9, ← map17_t h17t hss] at h; exact h
 exact absurd (by obtain ⟨_, _, h0, _⟩ := q53; exact h0) hsn9

end Go.Proofs.Ytcngningbcaggaa
