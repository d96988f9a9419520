/- The walk of a key taken away. -/
import Derived.Test.YtemoalimclnfkaaGreatQjSk
set_option maxRecDepth 100000
set_option maxHeartbeats 1600000
set_option linter.unusedVariables false
set_option linter.unusedSimpArgs false
set_option linter.unnecessarySimpa false
namespace Go.Proofs.YtemoalimclnfkaaGreat
open Go Go.Fw Go.RowKit
attribute [local irreducible] Ok W WC
theorem bdel0_fc {G : GH} {b_t : Nat} {ba : Nat} {st : List (Option Nat) × List Bool} {Ma : MH} (h_a : ArR ePt 64 4 3 114 ba G st Ma) {root : Int} {fan : Int} {leaf : Int} (k : Str) {y : BT 0} {Mn : MH} (h_n : NsM 70 9 st.1 (nds 0 y) G Mn) (hT : TOk fan leaf (⟨0, y, st.2⟩ : BTr)) (hroot : root = y.slot) (hk16 : k.b.size ≤ 16) :
    Fc Tryz.prog 37 [pt9 b_t, sV k.b] G ((b_t, ce9 66 [pt9 ba, iV root, iV fan, iV leaf]) :: (Ma ++ (Mn))) (fun v G' M' => v = .tuple #[] ∧ BpM (fun ba => ArR ePt 64 4 3 114 ba) 66 70 9 b_t fan leaf G' (delT fan leaf k (⟨0, y, st.2⟩ : BTr)) M') := by
 have hok := hT.ok
 have hus := hT.us
 have hnd := hT.nd
 have hcfg := hT.cfg
 have hkk := hT.high
 dsimp only at hok hus hnd hkk
 have hul9 := hT.len
 dsimp only at hul9
 have hru9 : hasN st.2 y.slot = true := by have h9 := hus _ nds_head; rw [ndB_slot] at h9; exact h9
 obtain ⟨hrt0, hrt1, hrt2⟩ := hasN_lt hru9
 have hlo : 0 = 0 ∨ 2 ≤ (if 0 = 0 then (0 : Int) else 2) := by first | exact .inl rfl | (right; rw [if_neg om9]; omega)
 have hro := rem_ok (fan := fan) (leaf := leaf) (key := k) hcfg.1 hcfg.2.2.1 hk16 0 st.2 hlo allS_norm (allS_has k) hok
 have hrd := rem_del (fan := fan) (leaf := leaf) (key := k) hcfg.1 hcfg.2.2.1 hk16 0 st.2 hlo allS_norm (allS_has k) hok hus hnd
 obtain ⟨R9, hR9⟩ : ∃ R, remB fan leaf k 0 y st.2 = R := ⟨_, rfl⟩
 rw [hR9] at hro hrd
 obtain ⟨g1, g2, g3⟩ := hro
 obtain ⟨gone9, d1, p1⟩ := hrd
 have hnd2 := p1.nodup_iff.1 hnd
 rw [List.nodup_append] at hnd2
 have hus9 : UsN R9.2 (nds 0 R9.1) := us_slot.2 fun s hs => (d1.iff s).2 ⟨us_slot.1 hus s (p1.mem_iff.2 (List.mem_append_left _ hs)), fun h9 => hnd2.2.2 s hs s h9 rfl⟩
 have hE9 : delT fan leaf k ⟨0, y, st.2⟩ = rootD 0 R9.1 R9.2 := by unfold delT; rw [hR9]
 have hsr9 : R9.1.slot = root := by rw [g3, hroot]
 have hur9 : hasN R9.2 root = true := by have h9 := hus9 _ nds_head; rw [ndB_slot, hsr9] at h9; exact h9
 obtain ⟨hrr0, hrr1, hrr2⟩ := hasN_lt hur9
 have hrl9 : R9.2.length ≤ 4096 := by rw [d1.len]; exact hul9
 have hi6 : i64 root := ⟨om9, om9⟩
 refine Fc.go [] Tryz.func37 Tryz.ntmps37 rfl (fun w0 => (WC.perm (M' := ((b_t, ce9 66 [pt9 ba, iV root, iV fan, iV leaf]) :: (Ma ++ (Mn ++ [])))) (by simp) (g9 8 ?_)))
 refine W.call (Mp := ((b_t, ce9 66 [pt9 ba, iV root, iV fan, iV leaf]) :: (Ma ++ Mn))) (Mr := []) (bremove_all 0 h_a root k h_n _ allS allS_norm (allS_has k) hok hlo hus hnd hroot hcfg hk16) rfl ((((pmF pr9).trans pr9).cons _).trans pr9) ?_
 intro v5 G2 Ms4 hG2 q3
 rw [hR9] at q3
 refine match q3 with | ⟨cells_r1, Ma_r1, Mn_r1, hP_r1, ha_r1, hn_r1, hag_r1, e_6⟩ => ?_
 subst e_6
 refine W.perm (M' := ((b_t, ce9 66 [pt9 ba, iV root, iV fan, iV leaf]) :: (Ma_r1 ++ Mn_r1)) ++ []) (List.Perm.append_right _ hP_r1.symm) (W.perm (M' := ((b_t, ce9 66 [pt9 ba, iV root, iV fan, iV leaf]) :: (Ma_r1 ++ (Mn_r1 ++ [])))) ((((pmF pr9).trans pr9).cons _).trans pr9).symm (g9 9 ?_))
 have q7 := hn_r1.mem _ nds_head
 refine match q7 with | ⟨b_r, vp_r, vk_r, vr_r, Mp_r, hb_r, hm_r, _, _, hk_r, _⟩ => ?_
 rw [ndB_slot, hsr9] at hb_r
 have q9 := hk_r.form
 refine match q9 with | ⟨sa_r, sc_r, e_8⟩ => ?_
 subst e_8
 have hlv_r : (ndB 0 R9.1).lvl = ((0 : Nat) : Int) := ndB_lvl
 refine W.lendQ (fun G1 hl1 hn1 => bat_fc (ArR.lent ha_r1 hl1 (sub_of ((List.sublist_append_left _ _).cons _) hn1) (in_of (i := 0) hn1 rfl)) _ b_r hb_r hur9) cl43 rfl (g9 8 ?_)
 refine W.ok (ok_loadM (vs := ic9) ((((List.sublist_append_left _ _).trans (List.sublist_append_right _ _)).cons _).subset hm_r) ty3 rfl rfl rfl (by simp)) (g9 2 ?_)
 refine W.sd 23 (fun h22 p22 => ?_) (fun h22 p22 => ?_)
 ·exact absurd p22 om9
 refine g9 11 ?_
 refine ⟨.inl rfl, [], trivial, ((b_t, ce9 66 [pt9 ba, iV root, iV fan, iV leaf]) :: (Ma_r1 ++ Mn_r1)), (List.Sublist.append_left (List.sublist_append_left _ _) _).k9, ?_⟩
 exact ⟨rfl, BpM.to hE9 ⟨_, _, _, _, _, pr9, hsr9.symm, ha_r1, hn_r1⟩⟩

theorem bdel1_fc {G : GH} {b_t : Nat} {ba : Nat} {st : List (Option Nat) × List Bool} {Ma : MH} (h_a : ArR ePt 64 4 3 114 ba G st Ma) {root : Int} {fan : Int} {leaf : Int} (k : Str) {kk : Nat} {y : BT (kk + 1)} {Mn : MH} (h_n : NsM 70 9 st.1 (nds (kk + 1) y) G Mn) (hT : TOk fan leaf (⟨(kk + 1), y, st.2⟩ : BTr)) (hroot : root = y.slot) (hk16 : k.b.size ≤ 16) :
    Fc Tryz.prog 37 [pt9 b_t, sV k.b] G ((b_t, ce9 66 [pt9 ba, iV root, iV fan, iV leaf]) :: (Ma ++ (Mn))) (fun v G' M' => v = .tuple #[] ∧ BpM (fun ba => ArR ePt 64 4 3 114 ba) 66 70 9 b_t fan leaf G' (delT fan leaf k (⟨(kk + 1), y, st.2⟩ : BTr)) M') := by
 have hok := hT.ok
 have hus := hT.us
 have hnd := hT.nd
 have hcfg := hT.cfg
 have hkk := hT.high
 dsimp only at hok hus hnd hkk
 have hul9 := hT.len
 dsimp only at hul9
 have hru9 : hasN st.2 y.slot = true := by have h9 := hus _ nds_head; rw [ndB_slot] at h9; exact h9
 obtain ⟨hrt0, hrt1, hrt2⟩ := hasN_lt hru9
 have hlo : (kk + 1) = 0 ∨ 2 ≤ (if (kk + 1) = 0 then (0 : Int) else 2) := by first | exact .inl rfl | (right; rw [if_neg om9]; omega)
 have hro := rem_ok (fan := fan) (leaf := leaf) (key := k) hcfg.1 hcfg.2.2.1 hk16 (kk + 1) st.2 hlo allS_norm (allS_has k) hok
 have hrd := rem_del (fan := fan) (leaf := leaf) (key := k) hcfg.1 hcfg.2.2.1 hk16 (kk + 1) st.2 hlo allS_norm (allS_has k) hok hus hnd
 obtain ⟨R9, hR9⟩ : ∃ R, remB fan leaf k (kk + 1) y st.2 = R := ⟨_, rfl⟩
 rw [hR9] at hro hrd
 obtain ⟨g1, g2, g3⟩ := hro
 obtain ⟨gone9, d1, p1⟩ := hrd
 have hnd2 := p1.nodup_iff.1 hnd
 rw [List.nodup_append] at hnd2
 have hus9 : UsN R9.2 (nds (kk + 1) R9.1) := us_slot.2 fun s hs => (d1.iff s).2 ⟨us_slot.1 hus s (p1.mem_iff.2 (List.mem_append_left _ hs)), fun h9 => hnd2.2.2 s hs s h9 rfl⟩
 have hE9 : delT fan leaf k ⟨(kk + 1), y, st.2⟩ = rootD (kk + 1) R9.1 R9.2 := by unfold delT; rw [hR9]
 have hsr9 : R9.1.slot = root := by rw [g3, hroot]
 have hur9 : hasN R9.2 root = true := by have h9 := hus9 _ nds_head; rw [ndB_slot, hsr9] at h9; exact h9
 obtain ⟨hrr0, hrr1, hrr2⟩ := hasN_lt hur9
 have hrl9 : R9.2.length ≤ 4096 := by rw [d1.len]; exact hul9
 have hi6 : i64 root := ⟨om9, om9⟩
 refine Fc.go [] Tryz.func37 Tryz.ntmps37 rfl (fun w0 => (WC.perm (M' := ((b_t, ce9 66 [pt9 ba, iV root, iV fan, iV leaf]) :: (Ma ++ (Mn ++ [])))) (by simp) (g9 8 ?_)))
 refine W.call (Mp := ((b_t, ce9 66 [pt9 ba, iV root, iV fan, iV leaf]) :: (Ma ++ Mn))) (Mr := []) (bremove_all (kk + 1) h_a root k h_n _ allS allS_norm (allS_has k) hok hlo hus hnd hroot hcfg hk16) rfl ((((pmF pr9).trans pr9).cons _).trans pr9) ?_
 intro v14 G11 Ms13 hG11 q12
 rw [hR9] at q12
 refine match q12 with | ⟨cells_r10, Ma_r10, Mn_r10, hP_r10, ha_r10, hn_r10, hag_r10, e_15⟩ => ?_
 subst e_15
 refine W.perm (M' := ((b_t, ce9 66 [pt9 ba, iV root, iV fan, iV leaf]) :: (Ma_r10 ++ Mn_r10)) ++ []) (List.Perm.append_right _ hP_r10.symm) (W.perm (M' := ((b_t, ce9 66 [pt9 ba, iV root, iV fan, iV leaf]) :: (Ma_r10 ++ (Mn_r10 ++ [])))) ((((pmF pr9).trans pr9).cons _).trans pr9).symm (g9 9 ?_))
 have q16 := hn_r10.mem _ nds_head
 refine match q16 with | ⟨b_r, vp_r, vk_r, vr_r, Mp_r, hb_r, hm_r, _, _, hk_r, _⟩ => ?_
 rw [ndB_slot, hsr9] at hb_r
 have q18 := hk_r.form
 refine match q18 with | ⟨sa_r, sc_r, e_17⟩ => ?_
 subst e_17
 have hlv_r : (ndB (kk + 1) R9.1).lvl = (((kk + 1) : Nat) : Int) := ndB_lvl
 have hKr : (ndB (kk + 1) R9.1).K.length = (ndK R9.1).length := List.length_map ..
 refine W.lendQ (fun G1 hl1 hn1 => bat_fc (ArR.lent ha_r10 hl1 (sub_of ((List.sublist_append_left _ _).cons _) hn1) (in_of (i := 0) hn1 rfl)) _ b_r hb_r hur9) cl43 rfl (g9 8 ?_)
 refine W.ok (ok_loadM (vs := ic9) ((((List.sublist_append_left _ _).trans (List.sublist_append_right _ _)).cons _).subset hm_r) ty3 rfl rfl rfl (by simp)) (g9 2 ?_)
 refine W.sd 23 (fun h22 p22 => ?_) (fun h22 p22 => ?_)
 ·refine g9 7 ?_
  refine W.ok (ok_loadM (vs := lc9) ((((List.sublist_append_left _ _).trans (List.sublist_append_right _ _)).cons _).subset hm_r) ty55 rfl rfl rfl (by simp)) (g9 7 ?_)
  refine WC.cd (fun h29 p29 => ?_) (fun h29 p29 => ?_)
  ·refine WC.seq (WC.dw sn9.k9 (d9 [0, 1, 2, 3, 4, 5, 6, 7] ?_))
   refine WD.a1 8 rfl (W.call (Mp := Ma_r10) (ofreep ha_r10 root hi6) rfl (pmC pr9) ?_)
   intro v22 G19 Ms21 hG19 q20
   refine match q20 with | ⟨_, hR23⟩ => ?_
   refine W.perm (pmC pr9).symm ?_
   rw [freeA_t (st := (cells_r10, R9.2)) hur9] at hR23
   try dsimp only at hR23
   refine W.nn (g9 7 ?_)
   refine W.ok (ok_loadM (vs := lc9) ((((List.sublist_append_left _ _).trans (List.sublist_append_right _ _)).cons _).subset hm_r) ty55 rfl rfl rfl (by simp)) ((hk_r.mono hG19).a2 (i := 0) om9 (fun he24 hi25 => (W.ok (ok_indexAddr (i := 0) sl55 ty3 (hk_r.mono hG19) rfl rfl ⟨om9, om9⟩) (g9 4 ?_))))
   refine match (NsM.open1 (NsM.mono hG19 hn_r10)) with | ⟨b_n, vp_n, vk_n, vr_n, Mp_n, B_n, eM_, hb_n, hp_n, hk_n, hr_n, hB_n⟩ => ?_
   subst eM_
   refine W.perm (M' := ((b_n, ce9 70 [nt9 (kk + 1), vp_n, vk_n, vr_n]) :: ((b_t, ce9 66 [pt9 ba, iV ((ndB (kk + 1) R9.1).K[0]'om9), iV fan, iV leaf]) :: (Ms21 ++ (Mp_n ++ (B_n ++ [])))))) (pmD (pmB ((pmF pr9).cons _))).symm (W.sub (M' := ((b_t, ce9 66 [pt9 ba, iV ((ndB (kk + 1) R9.1).K[0]'om9), iV fan, iV leaf]) :: (Ms21 ++ (B_n ++ [])))) (((List.Sublist.append_left ((List.Sublist.append_left sr9 _).trans (List.sublist_append_right _ _)) _).k9).cons _) (W.nil ?_))
   refine ⟨.inl rfl, [], trivial, ((b_t, ce9 66 [pt9 ba, iV ((ndB (kk + 1) R9.1).K[0]'om9), iV fan, iV leaf]) :: (Ms21 ++ B_n)), (List.Sublist.append_left (List.sublist_append_left _ _) _).k9, ?_⟩
   have h19 : (ndK R9.1).length = 1 := by omega
   have hgk : (ndK R9.1).getD 0 default = (ndK R9.1)[0]'om9 := getD_lt om9
   have hfl : (ndK R9.1).flatMap (nds kk) = nds kk ((ndK R9.1).getD 0 default) := (congrArg (fun l => List.flatMap (nds kk) l) (one_list h19)).trans (by show nds kk _ ++ [] = _; rw [List.append_nil])
   have hn2 := hnd2.1
   rw [nds_succ, List.map_cons, List.nodup_cons, ndB_slot] at hn2
   have hne8 : ∀ n ∈ (ndK R9.1).flatMap (nds kk), n.slot.toNat ≠ root.toNat := fun n hn e => by
     have h9 := us_nn hus9 (List.mem_cons_of_mem _ hn : n ∈ nds (kk + 1) R9.1)
     exact hn2.1 (by rw [hsr9, show root = n.slot by omega]; exact List.mem_map_of_mem hn)
   exact ⟨rfl, BpM.to (hE9.trans ((if_pos h19).trans (by rw [hsr9]))) ⟨_, _, _, _, _, pr9, ((List.getElem_map BT.slot (l := ndK R9.1) (i := 0) (h := by rw [List.length_map]; omega)).trans (congrArg BT.slot hgk.symm)), hR23, (hB_n.ne hne8).to hfl⟩⟩
  refine g9 1 ?_
  refine ⟨.inl rfl, [], trivial, ((b_t, ce9 66 [pt9 ba, iV root, iV fan, iV leaf]) :: (Ma_r10 ++ Mn_r10)), (List.Sublist.append_left (List.sublist_append_left _ _) _).k9, ?_⟩
  have hne9 : ¬ (ndK R9.1).length = 1 := by omega
  exact ⟨rfl, BpM.to (hE9.trans (if_neg hne9)) ⟨_, _, _, _, _, pr9, hsr9.symm, ha_r10, hn_r10⟩⟩
 refine g9 11 ?_
 refine ⟨.inl rfl, [], trivial, ((b_t, ce9 66 [pt9 ba, iV root, iV fan, iV leaf]) :: (Ma_r10 ++ Mn_r10)), (List.Sublist.append_left (List.sublist_append_left _ _) _).k9, ?_⟩
 have hne9 : ¬ (ndK R9.1).length = 1 := by omega
 exact ⟨rfl, BpM.to (hE9.trans (if_neg hne9)) ⟨_, _, _, _, _, pr9, hsr9.symm, ha_r10, hn_r10⟩⟩

end Go.Proofs.YtemoalimclnfkaaGreat
namespace Go.Fw
open Go Go.RowKit
abbrev BTr.rows (t : BTr) : List Pair := BT.rows t.k t.y
def opE (o : Opr) : Eff := Msg.on (o.msg 1) o.key
def delsT (fan leaf : Int) (ps : List Pair) (t : BTr) : BTr := ps.foldl (fun t p => delT fan leaf p.key t) t
def doT (fan leaf : Int) (o : Opr) (t : BTr) : Ans × BTr :=
  if ¬ o.R then (⟨3, false, Str.nil, []⟩, t)
  else if o.kind = 5 then (⟨0, (getN t.rows o.key).isSome, (getN t.rows o.key).getD Str.nil, []⟩, t)
  else if o.kind = 6 then (⟨0, false, Str.nil, scanN t.rows o.span o.lim⟩, t)
  else if o.kind = 4 then (⟨0, false, Str.nil, []⟩, delsT fan leaf (scanN t.rows o.span 262144) t)
  else if o.kind = 3 then (⟨0, false, Str.nil, []⟩, delT fan leaf o.key t)
  else (⟨(putT fan leaf o.key (opE o) t).1, false, Str.nil, []⟩, (putT fan leaf o.key (opE o) t).2)
section
variable {fan leaf : Int} {o : Opr} {t : BTr}
theorem doT_0 (h : ¬ o.R) : doT fan leaf o t = (⟨3, false, Str.nil, []⟩, t) := if_pos h
theorem doT_5 (h : o.R) (h5 : o.kind = 5) : doT fan leaf o t = (⟨0, (getN t.rows o.key).isSome, (getN t.rows o.key).getD Str.nil, []⟩, t) := by rw [doT, if_neg (by simpa using h), if_pos h5]
theorem doT_6 (h : o.R) (h6 : o.kind = 6) : doT fan leaf o t = (⟨0, false, Str.nil, scanN t.rows o.span o.lim⟩, t) := by rw [doT, if_neg (by simpa using h), if_neg (by omega), if_pos h6]
theorem doT_4 (h : o.R) (h4 : o.kind = 4) : doT fan leaf o t = (⟨0, false, Str.nil, []⟩, delsT fan leaf (scanN t.rows o.span 262144) t) := by rw [doT, if_neg (by simpa using h), if_neg (by omega), if_neg (by omega), if_pos h4]
theorem doT_3 (h : o.R) (h3 : o.kind = 3) : doT fan leaf o t = (⟨0, false, Str.nil, []⟩, delT fan leaf o.key t) := by rw [doT, if_neg (by simpa using h), if_neg (by omega), if_neg (by omega), if_neg (by omega), if_pos h3]
theorem doT_p (h : o.R) (h5 : ¬ o.kind = 5) (h6 : ¬ o.kind = 6) (h4 : ¬ o.kind = 4) (h3 : ¬ o.kind = 3) : doT fan leaf o t = (⟨(putT fan leaf o.key (opE o) t).1, false, Str.nil, []⟩, (putT fan leaf o.key (opE o) t).2) := by rw [doT, if_neg (by simpa using h), if_neg h5, if_neg h6, if_neg h4, if_neg h3]
theorem AnsC.to {G : GH} {cs : List Value} {a b : Ans} (h : AnsC G cs a) (e : b = a) : AnsC G cs b := e ▸ h
theorem dels_succ {ps : List Pair} {j : Nat} (hj : j < ps.length) : delsT fan leaf (ps.take (j + 1)) t = delT fan leaf ps[j].key (delsT fan leaf (ps.take j) t) := by
  unfold delsT
  rw [List.take_succ_eq_append_getElem hj, List.foldl_append]; rfl
theorem del_filter : ∀ {l : List Pair}, Srt l → ∀ k : Str, (l.filter fun p => p.key.lt k) ++ (l.filter fun p => k.lt p.key) = l.filter fun p => !(decide (p.key = k))
  | [], _, _ => rfl
  | a :: l, h, k => by
    have h1 : ∀ b ∈ l, a.key.lt b.key = true := (List.pairwise_cons.1 h).1
    have h2 : Srt l := (List.pairwise_cons.1 h).2
    by_cases ha : a.key.lt k = true
    · have hk : k.lt a.key = false := Str.lt_asymm ha
      have hne : a.key ≠ k := lt_ne ha
      rw [List.filter_cons_of_pos (p := fun p : Pair => p.key.lt k) ha, List.filter_cons_of_neg (p := fun p : Pair => k.lt p.key) (by rw [hk]; simp), List.filter_cons_of_pos (p := fun p : Pair => !(decide (p.key = k))) (by simp [hne]), List.cons_append, del_filter h2 k]
    · have ha2 : a.key.lt k = false := by simpa using ha
      have h3 : ∀ b ∈ l, k.lt b.key = true := fun b hb => Str.lt_of_le_of_lt ha2 (h1 b hb)
      have e1 : (l.filter fun p => p.key.lt k) = [] := filt_none fun b hb => Str.lt_asymm (h3 b hb)
      have e2 : (l.filter fun p => k.lt p.key) = l := filt_all fun b hb => h3 b hb
      have e3 : (l.filter fun p => !(decide (p.key = k))) = l := filt_all fun b hb => by
        have : b.key ≠ k := fun e => lt_ne (h3 b hb) e.symm
        simp [this]
      rw [List.filter_cons_of_neg (p := fun p : Pair => p.key.lt k) (by rw [ha2]; simp), e1, List.nil_append]
      by_cases he : a.key = k
      · rw [List.filter_cons_of_neg (p := fun p : Pair => k.lt p.key) (by rw [he, Str.lt_irrefl]; simp), List.filter_cons_of_neg (p := fun p : Pair => !(decide (p.key = k))) (by simp [he]), e2, e3]
      · have : k.lt a.key = true := lt_of ha2 (fun e => he e.symm)
        rw [List.filter_cons_of_pos (p := fun p : Pair => k.lt p.key) this, List.filter_cons_of_pos (p := fun p : Pair => !(decide (p.key = k))) (by simp [he]), e2, e3]
theorem with_del_filter {l : List Pair} (h : Srt l) (k : Str) : withN l k delE = l.filter fun p => !(decide (p.key = k)) := by
  have hap : Eff.apply delE (getN l k) = none := by simp [Eff.apply, delE]
  rw [withN_mid, hap]
  show (l.filter _ ++ []) ++ _ = _
  rw [List.append_nil, del_filter h k]
theorem dels_ok : ∀ {ps : List Pair} {t : BTr}, TOk fan leaf t → (∀ p ∈ ps, p.key.b.size ≤ 16) → TOk fan leaf (delsT fan leaf ps t) ∧ (delsT fan leaf ps t).rows = t.rows.filter fun p => !(ps.any fun q => decide (p.key = q.key))
  | [], t, h, _ => ⟨h, (filt_all fun p _ => rfl).symm⟩
  | q :: ps, t, h, hk => by
    obtain ⟨a1, a2⟩ := del_ok h (hk q (List.mem_cons_self ..))
    obtain ⟨b1, b2⟩ := dels_ok a1 fun p hp => hk p (List.mem_cons_of_mem _ hp)
    refine ⟨b1, ?_⟩
    show (delsT fan leaf ps (delT fan leaf q.key t)).rows = _
    rw [b2, show (delT fan leaf q.key t).rows = _ from a2, with_del_filter h.rows.srt, List.filter_filter]
    congr 1
    funext p
    rw [List.any_cons, Bool.not_or, Bool.and_comm]
theorem flat_le9 {α : Type} {f : α → List Pair} {g : α → List BNd} : ∀ {l : List α}, (∀ c ∈ l, (f c).length ≤ 64 * (g c).length) → (l.flatMap f).length ≤ 64 * (l.flatMap g).length
  | [], _ => Nat.zero_le _
  | c :: l, h => by
    have h1 := h c (List.mem_cons_self ..)
    have h2 := flat_le9 (l := l) fun d hd => h d (List.mem_cons_of_mem _ hd)
    rw [List.flatMap_cons, List.flatMap_cons, List.length_append, List.length_append]
    omega
theorem rows_le (hl : leaf ≤ 64) : ∀ {k : Nat} {y : BT k} {lo : Int} {s : Span}, s.norm = s → BT.ok fan leaf k lo (mxB fan leaf k) s y → (BT.rows k y).length ≤ 64 * (nds k y).length
  | 0, y, lo, s, hs, h => by
    have h1 : ((lfR y).length : Int) ≤ leaf := h.1.2
    show (lfR y).length ≤ 64 * 1
    omega
  | k + 1, y, lo, s, hs, h => by
    have hlen := h.2.len
    have : ((ndK y).flatMap (BT.rows k)).length ≤ 64 * ((ndK y).flatMap (nds k)).length := flat_le9 fun c hc => by
      obtain ⟨i, hi, rfl⟩ := List.getElem_of_mem hc
      obtain ⟨v, _, v1, _, v3, _⟩ := h.2.at hs (i := i) (by omega)
      exact rows_le hl v1 v3
    rw [nds_succ, List.length_cons]
    show ((ndK y).flatMap (BT.rows k)).length ≤ _
    omega
theorem TOk.few {t : BTr} (h : TOk fan leaf t) : t.rows.length ≤ 262144 := by
  have h1 := rows_le h.cfg.2.2.2 allS_norm h.ok
  have h2 := h.count
  have h3 := free_used t.u
  have h4 := h.len
  show (BT.rows t.k t.y).length ≤ 262144
  omega
theorem scan_big {l : List Pair} (h : l.length ≤ 262144) {s : Span} : scanN l s 262144 = l.filter fun p => s.has p.key := by
  unfold scanN
  refine List.take_of_length_le ?_
  have := List.length_filter_le (fun p : Pair => s.has p.key) l
  show _ ≤ 262144
  omega
theorem wipe_ok {t : BTr} (h : TOk fan leaf t) {s : Span} : TOk fan leaf (delsT fan leaf (scanN t.rows s 262144) t) ∧ (delsT fan leaf (scanN t.rows s 262144) t).rows = t.rows.filter fun p => !s.has p.key := by
  rw [scan_big h.few]
  obtain ⟨a1, a2⟩ := dels_ok (ps := t.rows.filter fun p => s.has p.key) h fun p hp => ((pairsR_iff.1 h.rows).1 p (List.mem_filter.1 hp).1).1
  refine ⟨a1, a2.trans (List.filter_congr fun p hp => ?_)⟩
  congr 1
  cases hs : s.has p.key
  · refine List.any_eq_false.2 fun q hq => ?_
    have := (List.mem_filter.1 hq).2
    simp only [decide_eq_true_eq]
    intro e
    rw [e, this] at hs; cases hs
  · exact List.any_eq_true.2 ⟨p, List.mem_filter.2 ⟨hp, hs⟩, by simp⟩
theorem opE_eq (h : o.R) (h4 : ¬ o.kind = 4) (h6 : o.kind ≤ 4) : opE o = if 3 ≤ o.kind then ⟨3, Str.nil⟩ else ⟨o.kind, o.val⟩ := by
  have hk : o.key.b.size < 140737488355328 := by have := h.1.2.2.1; omega
  have hs : (o.msg 1).span.has o.key = true := by
    rw [Msg.span, if_neg (show ¬ (o.msg 1).kind = 4 from h4)]
    show Span.has ⟨o.key, o.key.next, false⟩ o.key = true
    rw [point_has hk]; simp
  have h1 := h.1.1
  unfold opE Msg.on
  rw [hs]
  show (if true = false ∨ o.kind < 1 ∨ 4 < o.kind then _ else _) = _
  rw [if_neg (by simp; omega)]
  rfl
theorem take_op (h : o.R) (h4 : ¬ o.kind = 4) (l : List Pair) : takeN l (o.msg 1) = withN l o.key (opE o) := by
  unfold takeN
  rw [if_neg (show ¬ (o.msg 1).kind = 4 from h4)]
  rfl
theorem do_ok (h : TOk fan leaf t) : TOk fan leaf (doT fan leaf o t).2 ∧ ((doT fan leaf o t = (⟨4, false, Str.nil, []⟩, t) ∧ o.R ∧ (o.kind = 1 ∨ o.kind = 2) ∧ roomT fan leaf o.key (opE o) t = false) ∨ ((doT fan leaf o t).1 = (doN t.rows o).2 ∧ (doT fan leaf o t).2.rows = (doN t.rows o).1)) := by
  by_cases hR : o.R
  · have hk1 := hR.1.1
    have hk6 := hR.1.2.1
    have hk16 := hR.1.2.2.1
    by_cases h5 : o.kind = 5
    · rw [doT_5 hR h5, doN_5 hR h5]; exact ⟨h, .inr ⟨rfl, rfl⟩⟩
    · by_cases h6 : o.kind = 6
      · rw [doT_6 hR h6, doN_6 hR h6]; exact ⟨h, .inr ⟨rfl, rfl⟩⟩
      · rw [doN_t hR h5 h6]
        by_cases h4 : o.kind = 4
        · rw [doT_4 hR h4]
          obtain ⟨a1, a2⟩ := wipe_ok h (s := o.span)
          refine ⟨a1, .inr ⟨rfl, a2.trans ?_⟩⟩
          unfold takeN
          rw [if_pos (show (o.msg 1).kind = 4 from h4)]
          have : (o.msg 1).span = o.span := by unfold Msg.span Opr.span; rw [if_pos (show (o.msg 1).kind = 4 from h4), if_pos (.inl h4)]; rfl
          rw [this]
        · have hE := opE_eq hR h4 (by omega)
          by_cases h3 : o.kind = 3
          · rw [doT_3 hR h3]
            obtain ⟨a1, a2⟩ := del_ok h hk16
            refine ⟨a1, .inr ⟨rfl, a2.trans ?_⟩⟩
            rw [take_op hR h4, hE, if_pos (by omega)]; rfl
          · rw [doT_p hR h5 h6 h4 h3]
            rw [if_neg (by omega)] at hE
            have hk12 : (opE o).kind = 1 ∨ (opE o).kind = 2 := by rw [hE]; show o.kind = 1 ∨ o.kind = 2; omega
            cases hr : roomT fan leaf o.key (opE o) t
            · rw [putT_f hr]
              exact ⟨h, .inl ⟨rfl, hR, by omega, rfl⟩⟩
            · have hg : Grows (opE o) := fun x hx => by
                unfold Eff.apply
                rcases hk12 with h9 | h9
                · rw [if_pos h9]; rfl
                · rw [if_neg (by omega), if_neg (by omega), if_pos h9]; rfl
              obtain ⟨a1, a2⟩ := put_ok h hg hk12 hk16 (by rw [hE]; exact hR.1.2.2.2.2) hr
              rw [putT_t hr]
              exact ⟨a1, .inr ⟨rfl, a2.trans (take_op hR h4 _).symm⟩⟩
  · rw [doT_0 hR, doN_0 hR]; exact ⟨h, .inr ⟨rfl, rfl⟩⟩
theorem grows_op (hR : o.R) (h4 : ¬ o.kind = 4) (h3 : ¬ o.kind = 3) (h5 : o.kind ≤ 4) : Grows (opE o) ∧ ((opE o).kind = 1 ∨ (opE o).kind = 2) ∧ (opE o).val.b.size ≤ 16 := by
  have hk1 := hR.1.1
  have hE := opE_eq hR h4 h5
  rw [if_neg (by omega)] at hE
  have hk12 : (opE o).kind = 1 ∨ (opE o).kind = 2 := by rw [hE]; show o.kind = 1 ∨ o.kind = 2; omega
  refine ⟨fun x hx => ?_, hk12, by rw [hE]; exact hR.1.2.2.2.2⟩
  unfold Eff.apply
  rcases hk12 with h9 | h9
  · rw [if_pos h9]; rfl
  · rw [if_neg (by omega), if_neg (by omega), if_pos h9]; rfl
end
end Go.Fw
