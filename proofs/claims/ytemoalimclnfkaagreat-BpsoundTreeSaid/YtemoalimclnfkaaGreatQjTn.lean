/- Walks of what tells of plain trees. -/
import Derived.Test.YtemoalimclnfkaaGreatQjTm
set_option maxRecDepth 100000
set_option maxHeartbeats 1600000
set_option linter.unusedVariables false
set_option linter.unusedSimpArgs false
set_option linter.unnecessarySimpa false
namespace Go.Proofs.YtemoalimclnfkaaGreat
open Go Go.Fw Go.RowKit
attribute [local irreducible] Ok W WC
theorem lksound_fc {G : GH} (cfan : Int) (cleaf : Int) (cbud : Int) (cslots : Int) (crest : Int) (root : Int) {v_l : Value} {l : List Nd} (h_l : SlR eNode G v_l l) (hS : Sml l) (hi1 : i64 cfan) (hi2_ : i64 cleaf) :
    Fc Tryz.prog 22 [.agg #[iV cfan, iV cleaf, iV cbud, iV cslots, iV crest], iV root, v_l] G [] (fun v _ _ => v = .bool (sound17 (⟨cfan, cleaf, cbud, cslots, crest⟩ : Cfg) root l)) := by
 obtain ⟨sa_l, sc_l, rfl⟩ := h_l.form
 have hl := h_l.len47
 have hl100 := hS.1
 refine Fc.go [.tmp 6] Tryz.func22 Tryz.ntmps22 rfl (fun w0 => (g9 2 ?_))
 refine W.box (L := [iV _, iV _, iV _, iV _, iV _]) rfl rfl (fun b1 => (g9 8 ?_))
 refine W.call (Mp := []) (whole17_fc cfan cleaf cbud cslots crest root h_l hS hi1 hi2_) rfl pr9 ?_
 intro v5 G2 Ms4 hG2 q3
 refine Or.elim q3 (fun q6 => ?_) (fun q7 => ?_)
 ·refine match q6 with | ⟨hng, e_8, e_9⟩ => ?_
  subst e_8
  subst e_9
  refine W.ok (ok_neqPN pp105 rfl rfl) (g9 5 ?_)
  refine congrArg Value.bool ?_
  exact (Bool.eq_false_iff.2 fun h => hng (sound_iff17.1 h)).symm
 refine match q7 with | ⟨hg, bk, mt9, e_11, hK10⟩ => ?_
 subst e_11
 obtain ⟨vatlo12, bmlo12, volo12, Mmlo12, Molo12, eMlo12, hatlo12, hmtlo12, holo12⟩ := hK10
 subst eMlo12
 obtain ⟨balo12, rfl⟩ := hatlo12.form
 obtain ⟨sa_lo12, sc_lo12, rfl⟩ := holo12.form
 dsimp only at hmtlo12 holo12
 refine W.perm (M' := ((bk, ce9 110 [iV cfan, iV cleaf, iV cbud, iV cslots, iV crest, .map (some balo12), .map (some bmlo12), lV sa_lo12 ((map17 (⟨cfan, cleaf, cbud, cslots, crest⟩ : Cfg) root l)).length sc_lo12]) :: ((b1, ce9 26 [iV cfan, iV cleaf, iV cbud, iV cslots, iV crest]) :: (Mmlo12 ++ (Molo12 ++ []))))) (((pmC ((pmF pr9).trans pr9)).cons _).trans pr9).symm ?_
 have hbf := by_find hg.nd root
 have hll := hg.lvl_le
 have hl0 := hg.lvl
 refine W.ok (ok_neqPN pp105 rfl rfl) (g9 5 ?_)
 refine congrArg Value.bool ?_
 exact (sound_iff17.2 hg).symm

theorem lkmap_fc {G : GH} (cfan : Int) (cleaf : Int) (cbud : Int) (cslots : Int) (crest : Int) (root : Int) {v_l : Value} {l : List Nd} (h_l : SlR eNode G v_l l) (hS : Sml l) (hi1 : i64 cfan) (hi2_ : i64 cleaf) :
    Fc Tryz.prog 23 [.agg #[iV cfan, iV cleaf, iV cbud, iV cslots, iV crest], iV root, v_l] G [] (fun v G' M' => M' = [] ∧ ∃ u0, v = u0 ∧ SlR ePair G' u0 (map17 (⟨cfan, cleaf, cbud, cslots, crest⟩ : Cfg) root l)) := by
 obtain ⟨sa_l, sc_l, rfl⟩ := h_l.form
 have hl := h_l.len47
 have hl100 := hS.1
 refine Fc.go [.tmp 6] Tryz.func23 Tryz.ntmps23 rfl (fun w0 => (g9 2 ?_))
 refine W.box (L := [iV _, iV _, iV _, iV _, iV _]) rfl rfl (fun b13 => (g9 9 ?_))
 refine W.call (Mp := []) (whole17_fc cfan cleaf cbud cslots crest root h_l hS hi1 hi2_) rfl pr9 ?_
 intro v17 G14 Ms16 hG14 q15
 refine Or.elim q15 (fun q18 => ?_) (fun q19 => ?_)
 ·refine match q18 with | ⟨hng, e_20, e_21⟩ => ?_
  subst e_20
  subst e_21
  refine g9 6 ?_
  refine W.ok (ok_neqPN pp105 rfl rfl) (g9 12 ?_)
  refine ⟨rfl, _, rfl, ?_⟩
  · rw [map17_bad hng]; exact SlR.nil
 refine match q19 with | ⟨hg, bk, mt9, e_23, hK22⟩ => ?_
 subst e_23
 obtain ⟨vatlo24, bmlo24, volo24, Mmlo24, Molo24, eMlo24, hatlo24, hmtlo24, holo24⟩ := hK22
 subst eMlo24
 obtain ⟨balo24, rfl⟩ := hatlo24.form
 obtain ⟨sa_lo24, sc_lo24, rfl⟩ := holo24.form
 dsimp only at hmtlo24 holo24
 refine W.perm (M' := ((bk, ce9 110 [iV cfan, iV cleaf, iV cbud, iV cslots, iV crest, .map (some balo24), .map (some bmlo24), lV sa_lo24 ((map17 (⟨cfan, cleaf, cbud, cslots, crest⟩ : Cfg) root l)).length sc_lo24]) :: ((b13, ce9 26 [iV cfan, iV cleaf, iV cbud, iV cslots, iV crest]) :: (Mmlo24 ++ (Molo24 ++ []))))) (((pmC ((pmF pr9).trans pr9)).cons _).trans pr9).symm ?_
 have hbf := by_find hg.nd root
 have hll := hg.lvl_le
 have hl0 := hg.lvl
 refine g9 6 ?_
 refine W.ok (ok_neqPN pp105 rfl rfl) (g9 12 ?_)
 refine WC.giveO holo24 (pmC (pmC (pmA pr9))) (fun G25 hG25 hv25 => (g9 3 ?_))
 refine ⟨rfl, _, rfl, ?_⟩
 · exact hv25

theorem lkheight_fc {G : GH} (cfan : Int) (cleaf : Int) (cbud : Int) (cslots : Int) (crest : Int) (root : Int) {v_l : Value} {l : List Nd} (h_l : SlR eNode G v_l l) (hS : Sml l) (hi1 : i64 cfan) (hi2_ : i64 cleaf) :
    Fc Tryz.prog 24 [.agg #[iV cfan, iV cleaf, iV cbud, iV cslots, iV crest], iV root, v_l] G [] (fun v _ _ => v = iV ((if sound17 (⟨cfan, cleaf, cbud, cslots, crest⟩ : Cfg) root l = true then (findN l root).1.level + 1 else 0))) := by
 obtain ⟨sa_l, sc_l, rfl⟩ := h_l.form
 have hl := h_l.len47
 have hl100 := hS.1
 refine Fc.go [.tmp 6] Tryz.func24 Tryz.ntmps24 rfl (fun w0 => (g9 2 ?_))
 refine W.box (L := [iV _, iV _, iV _, iV _, iV _]) rfl rfl (fun b26 => (g9 9 ?_))
 refine W.call (Mp := []) (whole17_fc cfan cleaf cbud cslots crest root h_l hS hi1 hi2_) rfl pr9 ?_
 intro v30 G27 Ms29 hG27 q28
 refine Or.elim q28 (fun q31 => ?_) (fun q32 => ?_)
 ·refine match q31 with | ⟨hng, e_33, e_34⟩ => ?_
  subst e_33
  subst e_34
  refine g9 6 ?_
  refine W.ok (ok_neqPN pp105 rfl rfl) (g9 12 ?_)
  refine congrArg (Value.int .i64) ?_
  exact (if_neg fun h => hng (sound_iff17.1 h)).symm
 refine match q32 with | ⟨hg, bk, mt9, e_36, hK35⟩ => ?_
 subst e_36
 obtain ⟨vatlo37, bmlo37, volo37, Mmlo37, Molo37, eMlo37, hatlo37, hmtlo37, holo37⟩ := hK35
 subst eMlo37
 obtain ⟨balo37, rfl⟩ := hatlo37.form
 obtain ⟨sa_lo37, sc_lo37, rfl⟩ := holo37.form
 dsimp only at hmtlo37 holo37
 refine W.perm (M' := ((bk, ce9 110 [iV cfan, iV cleaf, iV cbud, iV cslots, iV crest, .map (some balo37), .map (some bmlo37), lV sa_lo37 ((map17 (⟨cfan, cleaf, cbud, cslots, crest⟩ : Cfg) root l)).length sc_lo37]) :: ((b26, ce9 26 [iV cfan, iV cleaf, iV cbud, iV cslots, iV crest]) :: (Mmlo37 ++ (Molo37 ++ []))))) (((pmC ((pmF pr9).trans pr9)).cons _).trans pr9).symm ?_
 have hbf := by_find hg.nd root
 have hll := hg.lvl_le
 have hl0 := hg.lvl
 refine g9 6 ?_
 refine W.ok (ok_neqPN pp105 rfl rfl) (g9 10 ?_)
 have q40 := look_ghA (P := Tryz.prog) (V := vNode) (root) mk107 mz58 ⟨_, rfl, ⟨_, _, _, _, _, _, _, _, rfl, SlR.nil, SlR.nil, SlR.nil, SlR.nil, Nd.zero_ok⟩⟩ hatlo37
 refine match q40 with | ⟨v38, hv39, hl41, hl42⟩ => ?_
 refine W.ok (hl42 rfl rfl rfl) ?_
 rw [hbf.2] at hv39
 refine match hv39 with | ⟨_, e_44, ⟨_, _, _, _, _, _, _, _, e_45, hp_mn43, hk_mn43, hm_mn43, hr_mn43, hok_mn43⟩⟩ => ?_
 subst e_44
 subst e_45
 refine W.ok (ok_field (L := [iV _, iV _, lV _ _ _, lV _ _ _, sV _, .bool _, iV _, iV _, lV _ _ _, lV _ _ _]) (vs := ic9) pt58_1 rfl rfl rfl) (g9 7 ?_)
 refine congrArg (Value.int .i64) ?_
 exact (if_pos (sound_iff17.2 hg)).symm

end Go.Proofs.YtemoalimclnfkaaGreat
namespace Go.Fw
open Go Go.RowKit
section
variable {fan leaf slots : Int} {t : BTr} {o : Opr}
theorem BpK.rows1 (h : BpK fan leaf slots t) : (doT fan leaf o t).2.rows.length ≤ t.rows.length + 1 := by
  by_cases he : (doT fan leaf o t).1.err = 4
  · rw [(h.full he).1]; exact Nat.le_succ _
  · rw [(h.fine he).2]; exact (doN_R h.ok.rows).2
theorem few_sub {l : List Nd} {i : Nat} : (l.take i ++ l.drop (i + 1)).Sublist l := by
  conv => rhs; rw [← List.take_append_drop i l]
  refine List.Sublist.append_left ?_ _
  rw [← List.drop_drop]
  exact List.drop_sublist ..
theorem sml_sub {l l' : List Nd} (h : Sml l) (hs : l'.Sublist l) : Sml l' := ⟨Nat.le_trans hs.length_le h.1, fun n hn => h.2 n (hs.subset hn)⟩
theorem sml_more {l : List Nd} (h : Sml l) {i : Nat} (hi : i < l.length) (hl : l.length < 4096) : Sml (l ++ [l[i]]) := by
  refine ⟨by rw [List.length_append]; exact hl, fun n hn => ?_⟩
  rcases List.mem_append.1 hn with h9 | h9
  · exact h.2 n h9
  · rw [List.mem_singleton.1 h9]; exact h.2 _ (List.getElem_mem hi)
theorem which9 {n : Nat} {m : Int} (hn : 1 ≤ n) : ∃ i : Nat, Int.tmod (IntKind.u64.wrap m) (max 1 (n : Int)) = (i : Int) ∧ i < n := by
  have h0 : 0 ≤ IntKind.u64.wrap m := by
    show 0 ≤ Int.emod m _
    exact Int.emod_nonneg _ (by decide)
  have e : max 1 (n : Int) = (n : Int) := by omega
  rw [e, Int.tmod_eq_emod_of_nonneg h0]
  have h1 := Int.emod_nonneg (IntKind.u64.wrap m) (b := (n : Int)) (by omega)
  have h2 := Int.emod_lt_of_pos (IntKind.u64.wrap m) (b := (n : Int)) (by omega)
  exact ⟨((IntKind.u64.wrap m) % (n : Int)).toNat, by omega, by omega⟩
end
def t17 : BTr := ⟨0, mkL 3 [], [false, false, false, true]⟩
def N17 : Nd := toNd ⟨3, 0, [], [], []⟩
theorem t17_ok : TOk 4 2 t17 := by
  refine ⟨⟨⟨Int.le_refl _, by show ((0 : Nat) : Int) ≤ 2; decide⟩, pairsR_iff.2 ⟨fun p hp => (by cases hp), List.Pairwise.nil⟩, fun p hp => (by cases hp)⟩, fun m hm => ?_, (by show [_].Nodup; simp), fun s hs => ?_, by decide, by decide⟩
  · rw [List.mem_singleton.1 (show m ∈ [ndB 0 (mkL 3 [])] from hm)]; rfl
  · obtain ⟨k, hk, e, h2⟩ := hasN_iff.1 hs
    have hk4 : k < 4 := hk
    match k, hk4, hk, h2 with
    | 3, _, _, _ => rw [e]; exact List.mem_singleton.2 rfl
theorem n17_sml : Sml [N17] := TOk.sml (t := t17) t17_ok fun p hp => by cases hp
theorem n17_yes {c : Cfg} (h1 : c.fan = 4) (h2 : c.leaf = 2) : sound17 c 3 [N17] = true := TOk.sound (t := t17) t17_ok h1 h2
theorem n17_no {c : Cfg} : sound17 c 2 [N17] = false := Bool.eq_false_iff.2 fun h => absurd (sound_iff17.1 h).found (by decide)
end Go.Fw
namespace Go.Proofs.YtemoalimclnfkaaGreat
open Go Go.Fw Go.RowKit
attribute [local irreducible] Ok W WC
theorem awake17_fc {G : GH}  :
    Fc Tryz.prog 21 [] G [] (fun v _ _ => v = .bool (true)) := by
 refine Fc.go [.tmp 0] Tryz.func21 Tryz.ntmps21 rfl (fun w0 => (g9 7 ?_))
 refine W.ok (ok_build (L := [iV _, iV _, lV _ _ _, lV _ _ _, sV _, .bool _, iV _, iV _, lV _ _ _, lV _ _ _]) pl58 zr58 rfl rfl rfl) (W.lit (e := eNode) (l := [N17]) (css := [[iV _, iV _, lV _ _ _, lV _ _ _, sV _, .bool _, iV _, iV _, lV _ _ _, lV _ _ _]]) sl47 ty58 zr58 rfl rfl rfl rfl rfl rfl ⟨⟨_, _, _, _, _, _, _, _, rfl, SlR.nil, SlR.nil, SlR.nil, SlR.nil, ⟨by decide, by decide⟩, ⟨by decide, by decide⟩, ⟨by decide, by decide⟩, ⟨by decide, by decide⟩⟩, trivial⟩ (fun bl1 G1 hG1 hv1 => (g9 5 ?_)))
 refine W.ok (ok_build (L := [iV _, iV _, iV _, iV _, iV _]) pl26 zr26 rfl rfl rfl) (W.alloc zr26 (fun b2 => (g9 7 ?_)))
 refine W.qcall ((lksound_fc 4 2 0 4 0 3 hv1 n17_sml ⟨by decide, by decide⟩ ⟨by decide, by decide⟩).mono (fun v _ _ _ hv => hv.trans (congrArg Value.bool (n17_yes rfl rfl)))) rfl (g9 6 ?_)
 refine W.qcall ((lkheight_fc 4 2 0 4 0 3 hv1 n17_sml ⟨by decide, by decide⟩ ⟨by decide, by decide⟩).mono (fun v _ _ _ hv => hv.trans (congrArg (Value.int .i64) ((if_pos (n17_yes rfl rfl)).trans (show (findN [N17] 3).1.level + 1 = 1 by decide))))) rfl (g9 9 ?_)
 refine W.qcall ((lksound_fc 4 2 0 4 0 2 hv1 n17_sml ⟨by decide, by decide⟩ ⟨by decide, by decide⟩).mono (fun v _ _ _ hv => hv.trans (congrArg Value.bool (n17_no)))) rfl (g9 8 ?_)
 rfl

theorem r7all_fc {G : GH} {v_l : Value} {l : List Opr} (h_l : SlR eOp G v_l l) (n : Int) :
    Fc Tryz.prog 6 [v_l, iV n] G [] (fun v _ _ => v = .bool (decide (∀ i (h : i < l.length), (l[i].key.b.size : Int) ≤ n ∧ (l[i].hi.b.size : Int) ≤ n ∧ (l[i].val.b.size : Int) ≤ n))) := by
 obtain ⟨sa_l, sc_l, rfl⟩ := h_l.form
 have hl := h_l.len47
 refine Fc.go [.tmp 4] Tryz.func6 Tryz.ntmps6 rfl (fun w0 => (g9 12 ?_))
 refine WC.loop (X := Nat) (fun k => [(5, nt9 k), (0, lV sa_l l.length sc_l), (1, iV n)]) (fun k _ Ml => Ml = [] ∧ ∀ i (h : i < l.length), i < k → ((l[i].key.b.size : Int) ≤ n ∧ (l[i].hi.b.size : Int) ≤ n ∧ (l[i].val.b.size : Int) ≤ n)) (fun k => l.length - k) 0 hs9 ?_ ?_
 ·exact ⟨rfl, fun i _ h => by omega⟩
 rintro k gG1 G1 _ hG1 ⟨rfl, hk⟩
 refine g9 9 ?_
 refine WC.cd (fun h9 p9 => ?_) (fun h9 p9 => ?_)
 ·refine g9 8 ?_
  refine (h_l.mono hG1).a2 (i := k) om9 (fun he2 hm3 => (g9 3 ?_))
  refine W.qcall (r7long_fc _ _ _ _ _ _ _) rfl (g9 3 ?_)
  refine WC.cond rfl (fun h18 => ?_) (fun h18 => ?_)
  ·refine g9 12 ?_
   refine congrArg Value.bool ?_
   exact (decide_eq_false fun h => by have h2 := h k om9; simp [h2] at h18).symm
  refine g9 9 ?_
  exact ⟨Le.rfl, k + 1, hs9, ⟨rfl, fun i h hi => by
      by_cases e : i = k
      · subst e; simpa using h18
      · exact hk i h om9⟩, om9⟩
 refine g9 12 ?_
 refine congrArg Value.bool ?_
 exact (decide_eq_true fun i h => hk i h om9).symm

theorem bpsoundTree_fc {G : GH} (cfan : Int) (cleaf : Int) (cbud : Int) (cslots : Int) (crest : Int) {v_l : Value} {l : List Opr} (h_l : SlR eOp G v_l l) (which : Int) (hi1 : i64 cfan) (hi2_ : i64 cleaf) :
    Fc Tryz.prog 5 [.agg #[iV cfan, iV cleaf, iV cbud, iV cslots, iV crest], v_l, iV which] G [] (fun v _ _ => v = .bool (true)) := by
 obtain ⟨sa_l, sc_l, rfl⟩ := h_l.form
 have hl := h_l.len47
 refine Fc.go [.tmp 6] Tryz.func5 Tryz.ntmps5 rfl (fun w0 => (g9 2 ?_))
 refine W.box (L := [iV _, iV _, iV _, iV _, iV _]) rfl rfl (fun b1 => (g9 10 ?_))
 refine W.sd 18 (fun h17 p17 => ?_) (fun h17 p17 => ?_)
 ·try dsimp only at p17
  refine g9 9 ?_
  refine W.qcall (awake17_fc) rfl (g9 6 ?_)
  rfl
 try dsimp only at p17
 refine g9 3 ?_
 refine W.qcall (r7all_fc h_l _) rfl (g9 5 ?_)
 refine WC.cond rfl (fun h21 => ?_) (fun h21 => ?_)
 ·refine g9 2 ?_
  refine W.qcall (awake17_fc) rfl (g9 6 ?_)
  rfl
 refine g9 5 ?_
 refine W.call (Mp := []) (bpnew_fc cfan cleaf cbud cslots crest) rfl pr9 ?_
 intro v5 G2 Ms4 hG2 q3
 refine Or.elim q3 (fun q6 => ?_) (fun q7 => ?_)
 ·refine match q6 with | ⟨hnc, e_8, e_9⟩ => ?_
  subst e_8
  subst e_9
  refine g9 17 ?_
  refine W.qcall (awake17_fc) rfl (g9 6 ?_)
  rfl
 refine match q7 with | ⟨hC, b_t, e_10, hB9⟩ => ?_
 subst e_10
 refine W.perm (pmC pr9).symm (g9 26 ?_)
 refine WC.loop (X := (Nat × BTr) × MH) (fun x => [(34, nt9 x.1.1), (3, pt9 b1), (2, iV which), (32, lV sa_l l.length sc_l), (33, nt9 ((l).length)), (7, pt9 b_t)]) (fun x G Ml => Ml = ((b1, ce9 26 [iV cfan, iV cleaf, iV cbud, iV cslots, iV crest]) :: (x.2 ++ [])) ∧ BpM (fun ba => ArR ePt 64 4 3 114 ba) 66 70 9 b_t cfan cleaf G (x.1.2) x.2 ∧ x.1.1 ≤ l.length ∧ x.1.2.rows.length ≤ x.1.1 ∧ BpK cfan cleaf cslots x.1.2) (fun x => l.length - x.1.1) (((0, newT cslots.toNat) : Nat × BTr), Ms4) hs9 ?_ ?_
 ·exact ⟨rfl, (by exact hB9), Nat.zero_le _, Nat.zero_le _, (by have h9 := (new_k (fan := cfan) (leaf := cleaf) (n := cslots.toNat) om9 ⟨hC.1, hC.2.1, hC.2.2.1, hC.2.2.2.1⟩).1; rw [show ((cslots.toNat : Nat) : Int) = cslots by omega] at h9; exact h9)⟩
 rintro ⟨⟨k, t⟩, M_7⟩ gG11 G11 _ hG11 ⟨rfl, ho_7, hk, hlm9, hK⟩
 try dsimp only at ho_7 hk hlm9 hK
 refine WC.fr (f := setL gG11 [(34, nt9 k), (3, pt9 b1), (2, iV which), (32, lV sa_l l.length sc_l), (33, nt9 ((l).length)), (7, pt9 b_t)]) rfl (g9 6 ?_)
 refine WC.cd (fun h35 p35 => ?_) (fun h35 p35 => ?_)
 ·try dsimp only at p35
  refine g9 6 ?_
  refine (h_l.mono (hG2.trans hG11)).a2 (i := (k)) om9 (fun he12 hm13 => (W.ok (ok_indexAddr (i := (k)) sl22 ty33 (h_l.mono lec) rfl rfl ⟨om9, om9⟩) (g9 1 ?_)))
  refine W.alloc zr33 (fun b17 => (g9 6 ?_))
  have hR9 := hK.rows1 (o := l[k])
  refine W.call (Mp := M_7) (bpdo_fc ho_7 l[k].kind l[k].key l[k].hi l[k].opn l[k].val l[k].lim hK.ok) rfl (pmC (pmC pr9)) ?_
  intro v21 G18 Ms20 hG18 q19
  refine match q19 with | ⟨⟨cs_a9, e_23, _, _, e_24, hw_a9, hok_a9⟩, hR22⟩ => ?_
  subst e_23
  subst e_24
  refine W.perm (pmC (pmC pr9)).symm ?_
  have hK2 := hK.do (o := l[k])
  refine g9 6 ?_
  refine W.sub (sr9.cons _) (g9 2 ?_)
  exact ⟨hG18, (((k + 1, (doT cfan cleaf l[k] t).2) : Nat × BTr), Ms20), hs9, ⟨rfl, (by exact hR22), by dsimp only; omega, Nat.le_trans hR9 (by dsimp only; omega), hK2⟩, by dsimp only; omega⟩
 try dsimp only at p35
 refine g9 6 ?_
 have hS := hK.ok.sml hK.pv
 have hnn9 := hK.ok.nodes
 have hnl9 := hK.ok.ndsL
 have hn19 := hK.ok.high9
 have hgd9 := hK.ok.good (c := (⟨cfan, cleaf, cbud, cslots, crest⟩ : Cfg)) rfl rfl
 have hsd9 := hK.ok.sound (c := (⟨cfan, cleaf, cbud, cslots, crest⟩ : Cfg)) rfl rfl
 have hrt9 := hK.ok.root
 have hkh9 := hK.ok.high
 refine g9 2 ?_
 refine W.call (Mp := M_7) (bpnodes_fc ho_7 hK.ok) rfl (pmC pr9) ?_
 intro v28 G25 Ms27 hG25 q26
 refine match q26 with | ⟨hv_hR29, hR29⟩ => ?_
 refine W.perm (pmC pr9).symm ?_
 have q33 := hv_hR29.form
 refine match q33 with | ⟨sa30, sc31, e_32⟩ => ?_
 subst e_32
 refine g9 6 ?_
 refine W.ok (ok_convW un3 un51 rfl) (g9 2 ?_)
 refine W.ok (ok_maxi rfl rfl) (W.ok (ok_convU un3 un51 rfl om9) (W.ok (ok_rem rfl rfl om9) ?_))
 obtain ⟨I9, hI8, hI9⟩ := which9 (n := (ndsN t).length) (m := which) om9
 refine W.ok (Ok.to (v' := nt9 I9) (ok_convI un51 un3 rfl (by rw [hI8]; omega)) (congrArg (Value.int .i64) hI8)) (g9 5 ?_)
 refine WC.dw sn9.k9 (d9 [0, 1, 3] ?_)
 refine WD.a1 2 rfl (W.call (Mp := Ms27) (bproot_fc hR29 hK.ok) rfl (pmC pr9) ?_)
 intro v37 G34 Ms36 hG34 q35
 refine match q35 with | ⟨e_39, hR38⟩ => ?_
 subst e_39
 refine W.perm (pmC pr9).symm (W.nn (WD.a1 4 rfl (W.qcall ((lksound_fc cfan cleaf cbud cslots crest t.y.slot (hv_hR29.mono hG34) hS hi1 hi2_).mono (fun v _ _ _ hv => hv.trans (congrArg Value.bool (hsd9)))) rfl (W.nn (d9 [5, 6, 7, 8, 10, 12] ?_)))))
 refine WD.anyG [9] (by kernel_rfl) rfl ⟨⟨_, rfl, .inr ⟨_, 58, _, _, rfl, rfl, rfl, rfl, rfl⟩, (W.call (Mp := Ms36) (bproot_fc hR38 hK.ok) rfl (pmC pr9) ?_)⟩, trivial⟩
 intro v43 G40 Ms42 hG40 q41
 refine match q41 with | ⟨e_45, hR44⟩ => ?_
 subst e_45
 refine W.perm (pmC pr9).symm (W.nn (WD.anyG [11] (by kernel_rfl) rfl ⟨⟨_, rfl, .inr ⟨_, 58, _, _, rfl, rfl, rfl, rfl, rfl⟩, (W.cS (lkmap_fc cfan cleaf cbud cslots crest t.y.slot (hv_hR29.mono lec) hS hi1 hi2_) rfl (fun sa_hv47 sc_hv47 G46 hG46 hv47 => (W.nn (WD.anyG [13] (by kernel_rfl) rfl ⟨⟨_, rfl, .inr ⟨_, 58, _, _, rfl, rfl, rfl, rfl, rfl⟩, (W.call (Mp := Ms42) (bpmap_fc (bpM.mono hG46 hR44) hK.ok) rfl (pmC pr9) ?_)⟩, trivial⟩))))⟩, trivial⟩))
 intro v56 G53 Ms55 hG53 q54
 refine match q54 with | ⟨hv_hR57, hR57⟩ => ?_
 refine W.perm (pmC pr9).symm ?_
 have q61 := hv_hR57.form
 refine match q61 with | ⟨sa58, sc59, e_60⟩ => ?_
 subst e_60
 refine W.nn (WD.anyG [14] (by kernel_rfl) rfl ⟨⟨_, rfl, .inr ⟨_, 58, _, _, rfl, rfl, rfl, rfl, rfl⟩, (W.qcall ((samep_fc (hv47.mono hG53) hv_hR57).mono (fun v _ _ _ hv => hv.trans (congrArg Value.bool (decide_eq_true hgd9.2)))) rfl (W.nn (d9 [15, 16, 17, 18, 19, 21, 23] ?_)))⟩, trivial⟩)
 refine WD.anyG [20] (by kernel_rfl) rfl ⟨⟨_, rfl, .inr ⟨_, 69, _, _, rfl, rfl, rfl, rfl, rfl⟩, (W.call (Mp := Ms55) (bproot_fc hR57 hK.ok) rfl (pmC pr9) ?_)⟩, trivial⟩
 intro v65 G62 Ms64 hG62 q63
 refine match q63 with | ⟨e_67, hR66⟩ => ?_
 subst e_67
 refine W.perm (pmC pr9).symm (W.nn (WD.anyG [22] (by kernel_rfl) rfl ⟨⟨_, rfl, .inr ⟨_, 69, _, _, rfl, rfl, rfl, rfl, rfl⟩, (W.qcall ((lkheight_fc cfan cleaf cbud cslots crest t.y.slot (hv_hR29.mono lec) hS hi1 hi2_).mono (fun v _ _ _ hv => hv.trans (congrArg (Value.int .i64) ((if_pos hsd9).trans (show (findN (ndsN t) t.y.slot).1.level + 1 = (t.k : Int) + 1 by rw [hrt9]; exact congrArg (· + 1) ndB_lvl))))) rfl (W.nn (WD.anyG [24] (by kernel_rfl) rfl ⟨⟨_, rfl, .inr ⟨_, 69, _, _, rfl, rfl, rfl, rfl, rfl⟩, (W.call (Mp := Ms64) (bpheight_fc hR66 hK.ok) rfl (pmC pr9) ?_)⟩, trivial⟩)))⟩, trivial⟩))
 intro v71 G68 Ms70 hG68 q69
 refine match q69 with | ⟨e_73, hR72⟩ => ?_
 subst e_73
 refine W.perm (pmC pr9).symm (W.nn (d9 [25, 26] ?_))
 refine g9 2 ?_
 refine WC.cn (fun h77 p77 => ?_) (fun h77 p77 => ?_)
 ·try dsimp only at p77
  exact absurd rfl p77
 try dsimp only at p77
 refine g9 3 ?_
 refine WC.dw sn9.k9 (d9 [1, 2] ?_)
 have hs74 := SlR.slice (hv_hR29.mono (((((hG34.trans hG40).trans hG46).trans hG53).trans hG62).trans hG68)) (lo := 0) (hi := I9) om9 om9
 refine WD.tk 3 rfl (ok_slice (0) (I9) sl47 ty58 (hv_hR29.mono lec) rfl rfl ⟨_, _, rfl, om9⟩ ⟨om9, om9⟩) (d9 [5, 6, 7] ?_)
 have hs75 := SlR.slice (hv_hR29.mono (((((hG34.trans hG40).trans hG46).trans hG53).trans hG62).trans hG68)) (lo := (I9 + 1)) (hi := (ndsN t).length) om9 om9
 refine WD.tk 8 rfl (ok_slice ((I9 + 1)) ((ndsN t).length) sl47 ty58 (hv_hR29.mono lec) rfl ⟨_, _, rfl, om9⟩ rfl ⟨om9, om9⟩) (WD.a1 0 rfl (W.lit0 (e := eNode) sl47 ty58 zr58 rfl (fun v76 Ms77 ho78 => (W.perm (pmC pr9).symm (W.nn (WD.a1 4 rfl (W.app (e := eNode) sl47 ty58 zr58 rfl by58 rfl rfl (ho78) (hs74) (pmC pr9) (by show (List.length _ + List.length _) * 152 ≤ _; simp only [List.length_nil, List.length_append, List.length_take, List.length_drop, List.length_cons]; omega) (fun v79 Ms80 ho81 => (W.perm (pmC pr9).symm (W.nn (WD.a1 9 rfl (W.app (e := eNode) sl47 ty58 zr58 rfl by58 rfl rfl (ho81) (hs75) (pmC pr9) (by show (List.length _ + List.length _) * 152 ≤ _; simp only [List.length_nil, List.length_append, List.length_take, List.length_drop, List.length_cons]; omega) (fun v82 Ms83 ho84 => (W.perm (pmC pr9).symm (W.nn (d9 [10] ?_))))))))))))))))
 refine g9 3 ?_
 refine WC.dw sn9.k9 (d9 [1, 3, 4] ?_)
 refine (hv_hR29.mono (((((hG34.trans hG40).trans hG46).trans hG53).trans hG62).trans hG68)).aN (i := I9) om9 (fun _ _ _ _ _ _ _ _ he85 hp_n86 hk_n86 hm_n86 hr_n86 hok_n86 => (WD.tk 5 rfl (ok_indexAddr (i := I9) sl47 ty58 (hv_hR29.mono lec) rfl rfl ⟨om9, om9⟩) (d9 [6] ?_)))
 refine WD.any [0, 7] (by kernel_rfl) rfl ⟨WD.ap ?_, WD.ap ?_, trivial⟩
 ·refine W.lit0 (e := eNode) sl47 ty58 zr58 rfl (fun v89 Ms90 ho91 => (W.perm (pmC pr9).symm (W.nn ?_)))
  refine WD.any [2, 7] (by kernel_rfl) rfl ⟨WD.ap ?_, WD.ap ?_, trivial⟩
  ·refine W.app (e := eNode) sl47 ty58 zr58 rfl by58 rfl rfl (ho91) ((hv_hR29.mono lec)) (pmC pr9) (by show (List.length _ + List.length _) * 152 ≤ _; simp only [List.length_nil, List.length_append, List.length_take, List.length_drop, List.length_cons]; omega) (fun v92 Ms93 ho94 => (W.perm (pmC pr9).symm (W.nn (WD.a1 7 rfl (W.lit (e := eNode) (l := [((ndsN t)[I9]'hI9)]) (css := [[iV _, iV _, lV _ _ _, lV _ _ _, sV _, .bool _, iV _, iV _, lV _ _ _, lV _ _ _]]) sl47 ty58 zr58 rfl rfl rfl rfl rfl rfl ⟨(nk9 hp_n86 hk_n86 hm_n86 hr_n86 hok_n86), trivial⟩ (fun bl95 G95 hG95 hv95 => (W.nn (WD.a1 8 rfl (W.app (e := eNode) sl47 ty58 zr58 rfl by58 rfl rfl ((ho94.mono hG95)) (hv95) (pmC pr9) (by show (List.length _ + List.length _) * 152 ≤ _; simp only [List.length_nil, List.length_append, List.length_take, List.length_drop, List.length_cons]; omega) (fun v96 Ms97 ho98 => (W.perm (pmC pr9).symm (W.nn (d9 [9] ?_)))))))))))))
   refine g9 3 ?_
   refine WC.dw sn9.k9 (d9 [0, 1, 3] ?_)
   refine WD.a1 2 rfl (W.call (Mp := Ms70) (bproot_fc (bpM.mono hG95 hR72) hK.ok) rfl (pmC (pmA (pmA pr9))) ?_)
   intro v102 G99 Ms101 hG99 q100
   refine match q100 with | ⟨e_104, hR103⟩ => ?_
   subst e_104
   refine W.perm (pmC pr9).symm (W.nn (WD.a1 4 rfl (W.giveO (ho84.mono lec) (pmC (pmA (pmA pr9))) (fun G105 hG105 hv105 => ?_))))
   have hc106 := SlR.cast hv105 (l' := ((ndsN t).take I9 ++ (ndsN t).drop (I9 + 1))) (by simp)
   have q108 := hc106.form
   refine match q108 with | ⟨_, _, e_107⟩ => ?_
   subst e_107
   refine W.qcall ((lksound_fc cfan cleaf cbud cslots crest t.y.slot hc106 (sml_sub hS few_sub) hi1 hi2_).mono (fun v _ _ _ hv => hv.trans (congrArg Value.bool (Bool.eq_false_iff.2 fun h => hK.fewer hI9 (sound_iff17.1 h))))) rfl (W.nn (d9 [5, 6, 7, 8, 10] ?_))
   refine WD.anyG [9] (by kernel_rfl) rfl ⟨⟨_, rfl, .inr ⟨_, 104, _, _, rfl, rfl, rfl, rfl, rfl⟩, (W.call (Mp := Ms101) (bproot_fc (bpM.mono hG105 hR103) hK.ok) rfl (pmC pr9) ?_)⟩, trivial⟩
   intro v112 G109 Ms111 hG109 q110
   refine match q110 with | ⟨e_114, hR113⟩ => ?_
   subst e_114
   refine W.perm (pmC pr9).symm (W.nn (WD.anyG [11] (by kernel_rfl) rfl ⟨⟨_, rfl, .inr ⟨_, 104, _, _, rfl, rfl, rfl, rfl, rfl⟩, (W.giveO (ho98.mono lec) (pmC (pmA pr9)) (fun G115 hG115 hv115 => ?_))⟩, trivial⟩))
   have hc116 := SlR.cast hv115 (l' := ((ndsN t) ++ [(ndsN t)[I9]'hI9])) (by simp)
   have q118 := hc116.form
   refine match q118 with | ⟨_, _, e_117⟩ => ?_
   subst e_117
   refine W.qcall ((lksound_fc cfan cleaf cbud cslots crest t.y.slot hc116 (sml_more hS hI9 om9) hi1 hi2_).mono (fun v _ _ _ hv => hv.trans (congrArg Value.bool (Bool.eq_false_iff.2 fun h => more_bad hI9 (sound_iff17.1 h))))) rfl (W.nn (d9 [12, 13, 14] ?_))
   refine WD.anyG [15] (by kernel_rfl) rfl ⟨⟨_, rfl, .inr ⟨_, 112, _, _, rfl, rfl, rfl, rfl, rfl⟩, (W.qcall (awake17_fc) rfl (W.nn (d9 [16, 17] ?_)))⟩, trivial⟩
   refine g9 4 ?_
   rfl
  refine W.lit (e := eNode) (l := [((ndsN t)[I9]'hI9)]) (css := [[iV _, iV _, lV _ _ _, lV _ _ _, sV _, .bool _, iV _, iV _, lV _ _ _, lV _ _ _]]) sl47 ty58 zr58 rfl rfl rfl rfl rfl rfl ⟨(nk9 hp_n86 hk_n86 hm_n86 hr_n86 hok_n86), trivial⟩ (fun bl119 G119 hG119 hv119 => (W.nn (WD.a1 2 rfl (W.app (e := eNode) sl47 ty58 zr58 rfl by58 rfl rfl ((ho91.mono hG119)) ((hv_hR29.mono lec)) (pmC pr9) (by show (List.length _ + List.length _) * 152 ≤ _; simp only [List.length_nil, List.length_append, List.length_take, List.length_drop, List.length_cons]; omega) (fun v120 Ms121 ho122 => (W.perm (pmC pr9).symm (W.nn (WD.a1 8 rfl (W.app (e := eNode) sl47 ty58 zr58 rfl by58 rfl rfl (ho122) (hv119) (pmC pr9) (by show (List.length _ + List.length _) * 152 ≤ _; simp only [List.length_nil, List.length_append, List.length_take, List.length_drop, List.length_cons]; omega) (fun v123 Ms124 ho125 => (W.perm (pmC pr9).symm (W.nn (d9 [9] ?_)))))))))))))
  refine g9 3 ?_
  refine WC.dw sn9.k9 (d9 [0, 1, 3] ?_)
  refine WD.a1 2 rfl (W.call (Mp := Ms70) (bproot_fc (bpM.mono hG119 hR72) hK.ok) rfl (pmC (pmA (pmA pr9))) ?_)
  intro v129 G126 Ms128 hG126 q127
  refine match q127 with | ⟨e_131, hR130⟩ => ?_
  subst e_131
  refine W.perm (pmC pr9).symm (W.nn (WD.a1 4 rfl (W.giveO (ho84.mono lec) (pmC (pmA (pmA pr9))) (fun G132 hG132 hv132 => ?_))))
  have hc133 := SlR.cast hv132 (l' := ((ndsN t).take I9 ++ (ndsN t).drop (I9 + 1))) (by simp)
  have q135 := hc133.form
  refine match q135 with | ⟨_, _, e_134⟩ => ?_
  subst e_134
  refine W.qcall ((lksound_fc cfan cleaf cbud cslots crest t.y.slot hc133 (sml_sub hS few_sub) hi1 hi2_).mono (fun v _ _ _ hv => hv.trans (congrArg Value.bool (Bool.eq_false_iff.2 fun h => hK.fewer hI9 (sound_iff17.1 h))))) rfl (W.nn (d9 [5, 6, 7, 8, 10] ?_))
  refine WD.anyG [9] (by kernel_rfl) rfl ⟨⟨_, rfl, .inr ⟨_, 104, _, _, rfl, rfl, rfl, rfl, rfl⟩, (W.call (Mp := Ms128) (bproot_fc (bpM.mono hG132 hR130) hK.ok) rfl (pmC pr9) ?_)⟩, trivial⟩
  intro v139 G136 Ms138 hG136 q137
  refine match q137 with | ⟨e_141, hR140⟩ => ?_
  subst e_141
  refine W.perm (pmC pr9).symm (W.nn (WD.anyG [11] (by kernel_rfl) rfl ⟨⟨_, rfl, .inr ⟨_, 104, _, _, rfl, rfl, rfl, rfl, rfl⟩, (W.giveO (ho125.mono lec) (pmC (pmA pr9)) (fun G142 hG142 hv142 => ?_))⟩, trivial⟩))
  have hc143 := SlR.cast hv142 (l' := ((ndsN t) ++ [(ndsN t)[I9]'hI9])) (by simp)
  have q145 := hc143.form
  refine match q145 with | ⟨_, _, e_144⟩ => ?_
  subst e_144
  refine W.qcall ((lksound_fc cfan cleaf cbud cslots crest t.y.slot hc143 (sml_more hS hI9 om9) hi1 hi2_).mono (fun v _ _ _ hv => hv.trans (congrArg Value.bool (Bool.eq_false_iff.2 fun h => more_bad hI9 (sound_iff17.1 h))))) rfl (W.nn (d9 [12, 13, 14] ?_))
  refine WD.anyG [15] (by kernel_rfl) rfl ⟨⟨_, rfl, .inr ⟨_, 112, _, _, rfl, rfl, rfl, rfl, rfl⟩, (W.qcall (awake17_fc) rfl (W.nn (d9 [16, 17] ?_)))⟩, trivial⟩
  refine g9 4 ?_
  rfl
 refine W.lit (e := eNode) (l := [((ndsN t)[I9]'hI9)]) (css := [[iV _, iV _, lV _ _ _, lV _ _ _, sV _, .bool _, iV _, iV _, lV _ _ _, lV _ _ _]]) sl47 ty58 zr58 rfl rfl rfl rfl rfl rfl ⟨(nk9 hp_n86 hk_n86 hm_n86 hr_n86 hok_n86), trivial⟩ (fun bl146 G146 hG146 hv146 => (W.nn (WD.a1 0 rfl (W.lit0 (e := eNode) sl47 ty58 zr58 rfl (fun v147 Ms148 ho149 => (W.perm (pmC pr9).symm (W.nn (WD.a1 2 rfl (W.app (e := eNode) sl47 ty58 zr58 rfl by58 rfl rfl (ho149) ((hv_hR29.mono lec)) (pmC pr9) (by show (List.length _ + List.length _) * 152 ≤ _; simp only [List.length_nil, List.length_append, List.length_take, List.length_drop, List.length_cons]; omega) (fun v150 Ms151 ho152 => (W.perm (pmC pr9).symm (W.nn (WD.a1 8 rfl (W.app (e := eNode) sl47 ty58 zr58 rfl by58 rfl rfl (ho152) (hv146) (pmC pr9) (by show (List.length _ + List.length _) * 152 ≤ _; simp only [List.length_nil, List.length_append, List.length_take, List.length_drop, List.length_cons]; omega) (fun v153 Ms154 ho155 => (W.perm (pmC pr9).symm (W.nn ?_)))))))))))))))))
 refine d9 [9] ?_
 refine g9 3 ?_
 refine WC.dw sn9.k9 (d9 [0, 1, 3] ?_)
 refine WD.a1 2 rfl (W.call (Mp := Ms70) (bproot_fc (bpM.mono hG146 hR72) hK.ok) rfl (pmC (pmA (pmA pr9))) ?_)
 intro v159 G156 Ms158 hG156 q157
 refine match q157 with | ⟨e_161, hR160⟩ => ?_
 subst e_161
 refine W.perm (pmC pr9).symm (W.nn (WD.a1 4 rfl (W.giveO (ho84.mono lec) (pmC (pmA (pmA pr9))) (fun G162 hG162 hv162 => ?_))))
 have hc163 := SlR.cast hv162 (l' := ((ndsN t).take I9 ++ (ndsN t).drop (I9 + 1))) (by simp)
 have q165 := hc163.form
 refine match q165 with | ⟨_, _, e_164⟩ => ?_
 subst e_164
 refine W.qcall ((lksound_fc cfan cleaf cbud cslots crest t.y.slot hc163 (sml_sub hS few_sub) hi1 hi2_).mono (fun v _ _ _ hv => hv.trans (congrArg Value.bool (Bool.eq_false_iff.2 fun h => hK.fewer hI9 (sound_iff17.1 h))))) rfl (W.nn (d9 [5, 6, 7, 8, 10] ?_))
 refine WD.anyG [9] (by kernel_rfl) rfl ⟨⟨_, rfl, .inr ⟨_, 104, _, _, rfl, rfl, rfl, rfl, rfl⟩, (W.call (Mp := Ms158) (bproot_fc (bpM.mono hG162 hR160) hK.ok) rfl (pmC pr9) ?_)⟩, trivial⟩
 intro v169 G166 Ms168 hG166 q167
 refine match q167 with | ⟨e_171, hR170⟩ => ?_
 subst e_171
 refine W.perm (pmC pr9).symm (W.nn (WD.anyG [11] (by kernel_rfl) rfl ⟨⟨_, rfl, .inr ⟨_, 104, _, _, rfl, rfl, rfl, rfl, rfl⟩, (W.giveO (ho155.mono lec) (pmC (pmA pr9)) (fun G172 hG172 hv172 => ?_))⟩, trivial⟩))
 have hc173 := SlR.cast hv172 (l' := ((ndsN t) ++ [(ndsN t)[I9]'hI9])) (by simp)
 have q175 := hc173.form
 refine match q175 with | ⟨_, _, e_174⟩ => ?_
 subst e_174
 refine W.qcall ((lksound_fc cfan cleaf cbud cslots crest t.y.slot hc173 (sml_more hS hI9 om9) hi1 hi2_).mono (fun v _ _ _ hv => hv.trans (congrArg Value.bool (Bool.eq_false_iff.2 fun h => more_bad hI9 (sound_iff17.1 h))))) rfl (W.nn (d9 [12, 13, 14] ?_))
 refine WD.anyG [15] (by kernel_rfl) rfl ⟨⟨_, rfl, .inr ⟨_, 112, _, _, rfl, rfl, rfl, rfl, rfl⟩, (W.qcall (awake17_fc) rfl (W.nn (d9 [16, 17] ?_)))⟩, trivial⟩
 refine g9 4 ?_
 rfl

end Go.Proofs.YtemoalimclnfkaaGreat
