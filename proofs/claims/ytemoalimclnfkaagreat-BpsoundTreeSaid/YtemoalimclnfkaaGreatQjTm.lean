/- Walks of a look at all of a plain tree. -/
import Derived.Test.YtemoalimclnfkaaGreatQjTl
set_option maxRecDepth 100000
set_option maxHeartbeats 1600000
set_option linter.unusedVariables false
set_option linter.unusedSimpArgs false
set_option linter.unnecessarySimpa false
namespace Go.Proofs.YtemoalimclnfkaaGreat
open Go Go.Fw Go.RowKit
attribute [local irreducible] Ok W WC
theorem lkwalk_all {c : Cfg} {l : List Nd} (hS : Sml l) (hnd : SlotsNd l) (hcf : i64 c.fan) (hcl : i64 c.leaf) : ∀ n, DfsW c l n := by
  intro n
  induction n with
  | zero => intro G bk mt rows Ms_k h_k slot lv top x hx hlvi hmet hrw hlv; exact lkwalk_step h_k slot lv top x hx hlvi hmet hrw hlv (fun q hq => by omega) hS hnd hcf hcl
  | succ n ih => intro G bk mt rows Ms_k h_k slot lv top x hx hlvi hmet hrw hlv; exact lkwalk_step h_k slot lv top x hx hlvi hmet hrw hlv (fun q hq => by have e : q = n := om9; subst e; exact @ih) hS hnd hcf hcl
theorem begin17_fc {G : GH} (cfan : Int) (cleaf : Int) (cbud : Int) (cslots : Int) (crest : Int) {v_l : Value} {l : List Nd} (h_l : SlR eNode G v_l l) :
    Fc Tryz.prog 86 [.agg #[iV cfan, iV cleaf, iV cbud, iV cslots, iV crest], v_l] G [] (fun v G' M' => (¬ SlotsNd l ∧ v = .pointer none ∧ M' = []) ∨ (SlotsNd l ∧ ∃ bk, v = pt9 bk ∧ LkR 110 84 bk (⟨cfan, cleaf, cbud, cslots, crest⟩ : Cfg) (bySl l) G' ([], []) M')) := by
 obtain ⟨sa_l, sc_l, rfl⟩ := h_l.form
 have hl := h_l.len47
 refine Fc.go [.tmp 4] Tryz.func86 Tryz.ntmps86 rfl (fun w0 => (g9 2 ?_))
 refine W.box (L := [iV _, iV _, iV _, iV _, iV _]) rfl rfl (fun b1 => (g9 6 ?_))
 refine W.makeMap (V := vNode) (fun bm2 hm3 => (W.perm (pmC (Ms := [(bm2, Obj.map #[] 0)]) pr9).symm (W.makeMap (V := vBool) (fun bm4 hm5 => (W.perm (pmC (Ms := [(bm4, Obj.map #[] 0)]) pr9).symm (W.ok (ok_build (L := [iV _, iV _, iV _, iV _, iV _, .map _, .map _, lV _ _ _]) pl110 zr110 rfl rfl rfl) (W.box (L := [iV _, iV _, iV _, iV _, iV _, .map _, .map _, lV _ _ _]) rfl rfl (fun b6 => (g9 12 ?_)))))))))
 refine WC.perm (M' := ((b6, ce9 110 [iV cfan, iV cleaf, iV cbud, iV cslots, iV crest, .map (some bm2), .map (some bm4), lV none 0 0]) :: ((b1, ce9 26 [iV cfan, iV cleaf, iV cbud, iV cslots, iV crest]) :: ([(bm2, Obj.map #[] 0)] ++ ([(bm4, Obj.map #[] 0)] ++ []))))) ((((List.Perm.append_left _ pr9).trans (pmA pr9)).cons _).cons _) ?_
 refine WC.loop (X := (Nat) × MH) (fun i => [(17, nt9 i.1), (5, pt9 b6), (15, lV sa_l l.length sc_l), (16, nt9 ((l).length)), (11, .map (some bm2))]) (fun i G Ml => Ml = ((b6, ce9 110 [iV cfan, iV cleaf, iV cbud, iV cslots, iV crest, .map (some bm2), .map (some bm4), lV none 0 0]) :: ((b1, ce9 26 [iV cfan, iV cleaf, iV cbud, iV cslots, iV crest]) :: (i.2 ++ ([(bm4, Obj.map #[] 0)] ++ [])))) ∧ MpR vNode bm2 G (bySl (l.take i.1)) i.2 ∧ i.1 ≤ l.length ∧ SlotsNd (l.take i.1)) (fun i => l.length - i.1) (0, [(bm2, Obj.map #[] 0)]) hs9 ?_ ?_
 ·exact ⟨rfl, (by exact hm3), om9, by simp [SlotsNd]⟩
 rintro ⟨i, M_11⟩ gG7 G7 _ hG7 ⟨rfl, ho_11, hi, hnd9⟩
 try dsimp only at ho_11 hi hnd9
 refine WC.fr (f := setL gG7 [(17, nt9 i), (5, pt9 b6), (15, lV sa_l l.length sc_l), (16, nt9 ((l).length)), (11, .map (some bm2))]) rfl (g9 6 ?_)
 refine WC.cd (fun h18 p18 => ?_) (fun h18 p18 => ?_)
 ·try dsimp only at p18
  refine g9 6 ?_
  refine (h_l.mono hG7).aN (i := i) om9 (fun _ _ _ _ _ _ _ _ he8 hp_n9 hk_n9 hm_n9 hr_n9 hok_n9 => (g9 2 ?_))
  refine W.alloc zr58 (fun b12 => (g9 5 ?_))
  refine WC.dw ((sr9.k9.k9).k9) (d9 [0, 1, 2, 3, 4, 5] ?_)
  have q15 := look_owA (P := Tryz.prog) (V := vNode) (((l)[i]).slot) mk107 mz58 ⟨_, rfl, ⟨_, _, _, _, _, _, _, _, rfl, SlR.nil, SlR.nil, SlR.nil, SlR.nil, Nd.zero_ok⟩⟩ ho_11
  refine match q15 with | ⟨v13, hv14, hl16, hl17⟩ => ?_
  refine WD.tk 6 rfl (hl16 (pmC (pmC (pmC pr9))) rfl rfl rfl) ?_
  refine match hv14 with | ⟨_, e_19, ⟨_, _, _, _, _, _, _, _, e_20, hp_mn18, hk_mn18, hm_mn18, hr_mn18, hok_mn18⟩⟩ => ?_
  subst e_19
  subst e_20
  refine d9 [7, 8, 9] ?_
  refine WD.a1 10 rfl (W.alloc zr58 (fun b21 => (W.nn (d9 [11, 12] ?_))))
  refine g9 7 ?_
  refine WC.cond rfl (fun h28 => ?_) (fun h28 => ?_)
  ·refine g9 13 ?_
   exact .inl ⟨nd_not (i := i) om9 (by simpa using h28), rfl, rfl⟩
  refine g9 2 ?_
  refine WC.dw (((sn9.k9.k9).k9).k9) (d9 [0, 1, 2, 3, 4, 5, 6] ?_)
  refine WD.a1 7 rfl (W.mapUp (V := vNode) (k := ((l)[i]).slot) mk107 rfl rfl rfl ho_11 (pmC (pmC (pmC (pmC pr9)))) ⟨_, rfl, (nk9 hp_n9 hk_n9 hm_n9 hr_n9 hok_n9)⟩ (fun Ms22 hm23 => (W.perm (pmC (pmC (pmC (pmC pr9)))).symm (W.nn (WD.done (by kernel_rfl) (blk_n (thn_n (g9 3 ?_))))))))
  refine W.sub ((sr9.cons _).cons _) (g9 2 ?_)
  exact ⟨Le.rfl, (i + 1, Ms22), hs9, ⟨rfl, (by have h := hm23; rw [← bySl_succ om9] at h; exact h), by dsimp only; omega, by dsimp only; exact nd_take (i := i) om9 hnd9 (by simpa using h28)⟩, om9⟩
 try dsimp only at p18
 refine g9 6 ?_
 have hob := ho_11
 rw [List.take_of_length_le om9] at hob hnd9
 refine WC.giveMap hob (pmC (pmC pr9)) (fun G24 hG24 hvG24 => (g9 6 ?_))
 refine ⟨.inr rfl, [_], ⟨rfl, trivial⟩, ((b6, ce9 110 [iV cfan, iV cleaf, iV cbud, iV cslots, iV crest, .map (some bm2), .map (some bm4), lV none 0 0]) :: [(bm4, Obj.map #[] 0)]), (sr9.cons _).k9, ?_⟩
 exact .inr ⟨hnd9, _, rfl, _, _, _, [(bm4, Obj.map #[] 0)], [], rfl, hvG24, (MpR.mono lec hm5), OwnR.nil⟩

theorem whole17_fc {G : GH} (cfan : Int) (cleaf : Int) (cbud : Int) (cslots : Int) (crest : Int) (root : Int) {v_l : Value} {l : List Nd} (h_l : SlR eNode G v_l l) (hS : Sml l) (hi1 : i64 cfan) (hi2_ : i64 cleaf) :
    Fc Tryz.prog 52 [.agg #[iV cfan, iV cleaf, iV cbud, iV cslots, iV crest], iV root, v_l] G [] (fun v G' M' => (¬ Good17 (⟨cfan, cleaf, cbud, cslots, crest⟩ : Cfg) root l ∧ v = .pointer none ∧ M' = []) ∨ (Good17 (⟨cfan, cleaf, cbud, cslots, crest⟩ : Cfg) root l ∧ ∃ bk mt, v = pt9 bk ∧ LkR 110 84 bk (⟨cfan, cleaf, cbud, cslots, crest⟩ : Cfg) (bySl l) G' (mt, map17 (⟨cfan, cleaf, cbud, cslots, crest⟩ : Cfg) root l) M')) := by
 obtain ⟨sa_l, sc_l, rfl⟩ := h_l.form
 have hl := h_l.len47
 have hl100 := hS.1
 refine Fc.go [.tmp 6] Tryz.func52 Tryz.ntmps52 rfl (fun w0 => (WC.sr (W.box (L := [iV _, iV _, iV _, iV _, iV _]) rfl rfl (fun b25 => (W.as (W.ns (W.ok (ok_ld 0 cf9 ty26 rfl) (W.mv (W.call (Mp := []) (begin17_fc cfan cleaf cbud cslots crest h_l) rfl pr9 ?_)))))))))
 intro v29 G26 Ms28 hG26 q27
 refine Or.elim q27 (fun q30 => ?_) (fun q31 => ?_)
 ·refine match q30 with | ⟨hnd, e_32, e_33⟩ => ?_
  subst e_32
  subst e_33
  refine W.an (WC.seq (WC.seq (WC.dw sr9.k9 (WD.tk 0 rfl (ok_mv) (WD.tk 1 rfl (ok_eqlPN pp105 rfl rfl) (WD.tk 2 rfl (ok_mv) (WD.takeN 3 13 rfl rfl rfl rfl rfl rfl (by kernel_rfl) (by kernel_rfl) (by kernel_rfl) (WD.takeN 4 13 rfl rfl rfl rfl rfl rfl (by kernel_rfl) (by kernel_rfl) (by kernel_rfl) (WD.takeN 5 13 rfl rfl rfl rfl rfl rfl (by kernel_rfl) (by kernel_rfl) (by kernel_rfl) (WD.takeN 6 13 rfl rfl rfl rfl rfl rfl (by kernel_rfl) (by kernel_rfl) (by kernel_rfl) (WD.takeN 7 13 rfl rfl rfl rfl rfl rfl (by kernel_rfl) (by kernel_rfl) (by kernel_rfl) (WD.takeN 8 13 rfl rfl rfl rfl rfl rfl (by kernel_rfl) (by kernel_rfl) (by kernel_rfl) (WD.takeN 9 13 rfl rfl rfl rfl rfl rfl (by kernel_rfl) (by kernel_rfl) (by kernel_rfl) ?_)))))))))))))
  refine WD.takeN 10 13 rfl rfl rfl rfl rfl rfl (by kernel_rfl) (by kernel_rfl) (by kernel_rfl) (WD.takeN 11 13 rfl rfl rfl rfl rfl rfl (by kernel_rfl) (by kernel_rfl) (by kernel_rfl) (WD.takeN 12 13 rfl rfl rfl rfl rfl rfl (by kernel_rfl) (by kernel_rfl) (by kernel_rfl) (WD.takeN 13 13 rfl rfl rfl rfl rfl rfl (by kernel_rfl) (by kernel_rfl) (by kernel_rfl) (WD.takeN 14 13 rfl rfl rfl rfl rfl rfl (by kernel_rfl) (by kernel_rfl) (by kernel_rfl) (WD.tk 15 rfl (ok_pick_t rfl rfl) (WD.tk 16 rfl (ok_mv) (WD.takeN 17 27 rfl rfl rfl rfl rfl rfl (by kernel_rfl) (by kernel_rfl) (by kernel_rfl) (WD.takeN 18 27 rfl rfl rfl rfl rfl rfl (by kernel_rfl) (by kernel_rfl) (by kernel_rfl) (WD.takeN 19 27 rfl rfl rfl rfl rfl rfl (by kernel_rfl) (by kernel_rfl) (by kernel_rfl) (WD.takeN 20 27 rfl rfl rfl rfl rfl rfl (by kernel_rfl) (by kernel_rfl) (by kernel_rfl) (WD.takeN 21 27 rfl rfl rfl rfl rfl rfl (by kernel_rfl) (by kernel_rfl) (by kernel_rfl) (WD.takeN 22 27 rfl rfl rfl rfl rfl rfl (by kernel_rfl) (by kernel_rfl) (by kernel_rfl) (WD.takeN 23 27 rfl rfl rfl rfl rfl rfl (by kernel_rfl) (by kernel_rfl) (by kernel_rfl) ?_)))))))))))))
  refine WD.takeN 24 27 rfl rfl rfl rfl rfl rfl (by kernel_rfl) (by kernel_rfl) (by kernel_rfl) (WD.tk 25 rfl (ok_pick_t rfl rfl) (WD.dn (WC.cond_t rfl rfl (WC.sr (W.an (WC.rt ?_))))))
  refine ⟨.inr rfl, [_], ⟨rfl, trivial⟩, [], sn9, ?_⟩
  exact .inl ⟨nd_bad hnd, rfl, rfl⟩
 refine match q31 with | ⟨hnd, bk, e_35, hK34⟩ => ?_
 subst e_35
 obtain ⟨vatlo36, bmlo36, volo36, Mmlo36, Molo36, eMlo36, hatlo36, hmtlo36, holo36⟩ := hK34
 subst eMlo36
 obtain ⟨balo36, rfl⟩ := hatlo36.form
 obtain ⟨sa_lo36, sc_lo36, rfl⟩ := holo36.form
 dsimp only at hmtlo36 holo36
 refine W.perm (M' := ((bk, ce9 110 [iV cfan, iV cleaf, iV cbud, iV cslots, iV crest, .map (some balo36), .map (some bmlo36), lV sa_lo36 (([] : List Pair)).length sc_lo36]) :: ((b25, ce9 26 [iV cfan, iV cleaf, iV cbud, iV cslots, iV crest]) :: (Mmlo36 ++ (Molo36 ++ []))))) (((pmC ((pmF pr9).trans pr9)).cons _).trans pr9).symm ?_
 have hbf := by_find hnd root
 refine W.an (WC.seq (WC.seq (WC.dw (sn9.k9.cons _) (WD.tk 0 rfl (ok_mv) (WD.tk 1 rfl (ok_eqlPN pp105 rfl rfl) (WD.tk 2 rfl (ok_mv) (WD.takeY 3 13 rfl rfl rfl rfl rfl rfl (by kernel_rfl) (by kernel_rfl) (by kernel_rfl) (ok_mv) (WD.takeY 4 13 rfl rfl rfl rfl rfl rfl (by kernel_rfl) (by kernel_rfl) (by kernel_rfl) (ok_mv) (WD.takeY 5 13 rfl rfl rfl rfl rfl rfl (by kernel_rfl) (by kernel_rfl) (by kernel_rfl) (ok_mv) (WD.takeY 6 13 rfl rfl rfl rfl rfl rfl (by kernel_rfl) (by kernel_rfl) (by kernel_rfl) (ok_nilP rfl) (WD.takeY 7 13 rfl rfl rfl rfl rfl rfl (by kernel_rfl) (by kernel_rfl) (by kernel_rfl) (ok_fieldB fd110_1 rfl) (WD.takeY 9 13 rfl rfl rfl rfl rfl rfl (by kernel_rfl) (by kernel_rfl) (by kernel_rfl) (ok_mv) ?_))))))))))))
 refine WD.anyG [8, 12] (by kernel_rfl) rfl ⟨⟨_, rfl, .inr ⟨_, 13, _, _, rfl, rfl, rfl, rfl, rfl⟩, ?_⟩, ⟨_, rfl, .inr ⟨_, 13, _, _, rfl, rfl, rfl, rfl, rfl⟩, ?_⟩, trivial⟩
 ·refine W.ok (ok_ld 0 [.map _] ty107 rfl) (W.nn ?_)
  have q39 := look_ghA (P := Tryz.prog) (V := vNode) (root) mk107 mz58 ⟨_, rfl, ⟨_, _, _, _, _, _, _, _, rfl, SlR.nil, SlR.nil, SlR.nil, SlR.nil, Nd.zero_ok⟩⟩ hatlo36
  refine match q39 with | ⟨v37, hv38, hl40, hl41⟩ => ?_
  refine WD.takeY 10 13 rfl rfl rfl rfl rfl rfl (by kernel_rfl) (by kernel_rfl) (by kernel_rfl) (hl41 rfl rfl rfl) ?_
  rw [hbf.2] at hv38
  refine match hv38 with | ⟨_, e_43, ⟨_, _, _, _, _, _, _, _, e_44, hp_mn42, hk_mn42, hm_mn42, hr_mn42, hok_mn42⟩⟩ => ?_
  subst e_43
  subst e_44
  refine WD.takeY 11 13 rfl rfl rfl rfl rfl rfl (by kernel_rfl) (by kernel_rfl) (by kernel_rfl) (ok_field (L := [iV _, iV _, lV _ _ _, lV _ _ _, sV _, .bool _, iV _, iV _, lV _ _ _, lV _ _ _]) (vs := ic9) pt58_1 rfl rfl rfl) (WD.anyG [12] (by kernel_rfl) rfl ⟨⟨_, rfl, .inr ⟨_, 13, _, _, rfl, rfl, rfl, rfl, rfl⟩, (W.qcall (spanall_fc ) rfl (W.nn (WD.anyG [13] (by kernel_rfl) rfl ⟨⟨_, rfl, .inr ⟨_, 13, _, _, rfl, rfl, rfl, rfl, rfl⟩, ?_⟩, trivial⟩)))⟩, trivial⟩)
  have hR45 : LkR 110 84 bk (⟨cfan, cleaf, cbud, cslots, crest⟩ : Cfg) (bySl l) G26 ([], []) ((bk, ce9 110 [iV cfan, iV cleaf, iV cbud, iV cslots, iV crest, .map (some balo36), .map (some bmlo36), lV sa_lo36 (([] : List Pair)).length sc_lo36]) :: (Mmlo36 ++ Molo36)) := ⟨_, _, _, _, _, rfl, hatlo36, hmtlo36, holo36⟩
  refine W.call (Mp := ((bk, ce9 110 [iV cfan, iV cleaf, iV cbud, iV cslots, iV crest, .map (some balo36), .map (some bmlo36), lV sa_lo36 (([] : List Pair)).length sc_lo36]) :: (Mmlo36 ++ Molo36))) (Mr := ((b25, ce9 26 [iV cfan, iV cleaf, iV cbud, iV cslots, iV crest]) :: [])) (lkwalk_all (c := (⟨cfan, cleaf, cbud, cslots, crest⟩ : Cfg)) hS hnd hi1 hi2_ _ hR45 root (findN l root).1.level true (rootS l root) rfl hok_mn42.2.1 (Met.nil l) (by simp) rfl) rfl (((pmC ((pmF pr9).trans pr9)).cons _).trans pr9) ?_
  intro v47 G48 Ms49 hG48 q46
  refine match q46 with | ⟨b9, mt9, rw9, e_51, hD9, hK50⟩ => ?_
  subst e_51
  obtain ⟨vatlo52, bmlo52, volo52, Mmlo52, Molo52, eMlo52, hatlo52, hmtlo52, holo52⟩ := hK50
  subst eMlo52
  obtain ⟨balo52, rfl⟩ := hatlo52.form
  obtain ⟨sa_lo52, sc_lo52, rfl⟩ := holo52.form
  dsimp only at hmtlo52 holo52
  refine W.perm (M' := ((bk, ce9 110 [iV cfan, iV cleaf, iV cbud, iV cslots, iV crest, .map (some balo52), .map (some bmlo52), lV sa_lo52 (rw9).length sc_lo52]) :: ((b25, ce9 26 [iV cfan, iV cleaf, iV cbud, iV cslots, iV crest]) :: (Mmlo52 ++ (Molo52 ++ []))))) (((pmC ((pmF pr9).trans pr9)).cons _).trans pr9).symm (W.nn (WD.takeY 14 13 rfl rfl rfl rfl rfl rfl (by kernel_rfl) (by kernel_rfl) (by kernel_rfl) (ok_not rfl) (WD.tk 15 rfl (ok_pick_f rfl rfl) (WD.tk 16 rfl (ok_mv) ?_))))
  refine WD.sp 27 rfl (fun h25 => ?_) (fun h25 => ?_)
  ·refine WD.takeN 17 27 rfl rfl rfl rfl rfl h25 (by kernel_rfl) (by kernel_rfl) (by kernel_rfl) (WD.takeN 18 27 rfl rfl rfl rfl rfl h25 (by kernel_rfl) (by kernel_rfl) (by kernel_rfl) (WD.takeN 19 27 rfl rfl rfl rfl rfl h25 (by kernel_rfl) (by kernel_rfl) (by kernel_rfl) (WD.takeN 20 27 rfl rfl rfl rfl rfl h25 (by kernel_rfl) (by kernel_rfl) (by kernel_rfl) (WD.takeN 21 27 rfl rfl rfl rfl rfl h25 (by kernel_rfl) (by kernel_rfl) (by kernel_rfl) (WD.takeN 22 27 rfl rfl rfl rfl rfl h25 (by kernel_rfl) (by kernel_rfl) (by kernel_rfl) (WD.takeN 23 27 rfl rfl rfl rfl rfl h25 (by kernel_rfl) (by kernel_rfl) (by kernel_rfl) (WD.takeN 24 27 rfl rfl rfl rfl rfl h25 (by kernel_rfl) (by kernel_rfl) (by kernel_rfl) (WD.tk 25 rfl (ok_pick_t rfl h25) (WD.dn (WC.cond_t rfl rfl (WC.sr (W.an (WC.rt ?_)))))))))))))
   refine ⟨.inr rfl, [_], ⟨rfl, trivial⟩, [], sn9, ?_⟩
   exact .inl ⟨whole_f hD9 (by simpa using h25), rfl, rfl⟩
  refine WD.takeY 17 27 rfl rfl rfl rfl rfl h25 (by kernel_rfl) (by kernel_rfl) (by kernel_rfl) (ok_mv) (WD.takeY 18 27 rfl rfl rfl rfl rfl h25 (by kernel_rfl) (by kernel_rfl) (by kernel_rfl) (ok_nilP rfl) (WD.takeY 19 27 rfl rfl rfl rfl rfl h25 (by kernel_rfl) (by kernel_rfl) (by kernel_rfl) (ok_fieldB fd110_2 rfl) (WD.takeY 22 27 rfl rfl rfl rfl rfl h25 (by kernel_rfl) (by kernel_rfl) (by kernel_rfl) (ok_mv) (WD.takeY 23 27 rfl rfl rfl rfl rfl h25 (by kernel_rfl) (by kernel_rfl) (by kernel_rfl) (ok_len sl47 (h_l.mono lec) rfl) (WD.anyG [20] (by kernel_rfl) rfl ⟨⟨_, rfl, .inr ⟨_, 27, _, _, rfl, rfl, rfl, h25, rfl⟩, (W.ok (ok_ld 0 [.map _] ty108 rfl) (W.nn (WD.anyG [21] (by kernel_rfl) rfl ⟨⟨_, rfl, .inr ⟨_, 27, _, _, rfl, rfl, rfl, h25, rfl⟩, (W.ok (ok_lenM mk108 hmtlo52 (pmC (pmC pr9)) rfl) (W.nn (WD.takeY 24 27 rfl rfl rfl rfl rfl h25 (by kernel_rfl) (by kernel_rfl) (by kernel_rfl) (ok_neq rfl rfl) (WD.tk 25 rfl (ok_pick_f rfl h25) (WD.dn ?_)))))⟩, trivial⟩)))⟩, trivial⟩)))))
  refine WC.cn (fun h35 p35 => ?_) (fun h35 p35 => ?_)
  ·try dsimp only at p35
   refine WC.sr (W.an (WC.rt ?_))
   refine ⟨.inr rfl, [_], ⟨rfl, trivial⟩, [], sn9, ?_⟩
   exact .inl ⟨whole_l hD9 (by simpa using h25) om9, rfl, rfl⟩
  try dsimp only at p35
  refine WC.sk (WC.sr (W.mv (W.an (WC.ret ?_))))
  refine ⟨.inr rfl, [_], ⟨rfl, trivial⟩, ((bk, ce9 110 [iV cfan, iV cleaf, iV cbud, iV cslots, iV crest, .map (some balo52), .map (some bmlo52), lV sa_lo52 (rw9).length sc_lo52]) :: (Mmlo52 ++ Molo52)), (((List.Sublist.append_left (List.sublist_append_left _ _) _)).cons _).k9, ?_⟩
  obtain ⟨hg9, er9⟩ := whole_t hnd hD9 (by simpa using h25) om9
  subst er9
  exact .inr ⟨hg9, _, _, rfl, _, _, _, _, _, rfl, hatlo52, hmtlo52, holo52⟩
 refine W.qcall (spanall_fc ) rfl (W.nn (WD.anyG [8] (by kernel_rfl) rfl ⟨⟨_, rfl, .inr ⟨_, 13, _, _, rfl, rfl, rfl, rfl, rfl⟩, (W.ok (ok_ld 0 [.map _] ty107 rfl) (W.nn ?_))⟩, trivial⟩))
 have q55 := look_ghA (P := Tryz.prog) (V := vNode) (root) mk107 mz58 ⟨_, rfl, ⟨_, _, _, _, _, _, _, _, rfl, SlR.nil, SlR.nil, SlR.nil, SlR.nil, Nd.zero_ok⟩⟩ hatlo36
 refine match q55 with | ⟨v53, hv54, hl56, hl57⟩ => ?_
 refine WD.takeY 10 13 rfl rfl rfl rfl rfl rfl (by kernel_rfl) (by kernel_rfl) (by kernel_rfl) (hl57 rfl rfl rfl) ?_
 rw [hbf.2] at hv54
 refine match hv54 with | ⟨_, e_59, ⟨_, _, _, _, _, _, _, _, e_60, hp_mn58, hk_mn58, hm_mn58, hr_mn58, hok_mn58⟩⟩ => ?_
 subst e_59
 subst e_60
 refine WD.takeY 11 13 rfl rfl rfl rfl rfl rfl (by kernel_rfl) (by kernel_rfl) (by kernel_rfl) (ok_field (L := [iV _, iV _, lV _ _ _, lV _ _ _, sV _, .bool _, iV _, iV _, lV _ _ _, lV _ _ _]) (vs := ic9) pt58_1 rfl rfl rfl) (WD.anyG [13] (by kernel_rfl) rfl ⟨⟨_, rfl, .inr ⟨_, 13, _, _, rfl, rfl, rfl, rfl, rfl⟩, ?_⟩, trivial⟩)
 have hR61 : LkR 110 84 bk (⟨cfan, cleaf, cbud, cslots, crest⟩ : Cfg) (bySl l) G26 ([], []) ((bk, ce9 110 [iV cfan, iV cleaf, iV cbud, iV cslots, iV crest, .map (some balo36), .map (some bmlo36), lV sa_lo36 (([] : List Pair)).length sc_lo36]) :: (Mmlo36 ++ Molo36)) := ⟨_, _, _, _, _, rfl, hatlo36, hmtlo36, holo36⟩
 refine W.call (Mp := ((bk, ce9 110 [iV cfan, iV cleaf, iV cbud, iV cslots, iV crest, .map (some balo36), .map (some bmlo36), lV sa_lo36 (([] : List Pair)).length sc_lo36]) :: (Mmlo36 ++ Molo36))) (Mr := ((b25, ce9 26 [iV cfan, iV cleaf, iV cbud, iV cslots, iV crest]) :: [])) (lkwalk_all (c := (⟨cfan, cleaf, cbud, cslots, crest⟩ : Cfg)) hS hnd hi1 hi2_ _ hR61 root (findN l root).1.level true (rootS l root) rfl hok_mn58.2.1 (Met.nil l) (by simp) rfl) rfl (((pmC ((pmF pr9).trans pr9)).cons _).trans pr9) ?_
 intro v63 G64 Ms65 hG64 q62
 refine match q62 with | ⟨b9, mt9, rw9, e_67, hD9, hK66⟩ => ?_
 subst e_67
 obtain ⟨vatlo68, bmlo68, volo68, Mmlo68, Molo68, eMlo68, hatlo68, hmtlo68, holo68⟩ := hK66
 subst eMlo68
 obtain ⟨balo68, rfl⟩ := hatlo68.form
 obtain ⟨sa_lo68, sc_lo68, rfl⟩ := holo68.form
 dsimp only at hmtlo68 holo68
 refine W.perm (M' := ((bk, ce9 110 [iV cfan, iV cleaf, iV cbud, iV cslots, iV crest, .map (some balo68), .map (some bmlo68), lV sa_lo68 (rw9).length sc_lo68]) :: ((b25, ce9 26 [iV cfan, iV cleaf, iV cbud, iV cslots, iV crest]) :: (Mmlo68 ++ (Molo68 ++ []))))) (((pmC ((pmF pr9).trans pr9)).cons _).trans pr9).symm (W.nn (WD.takeY 14 13 rfl rfl rfl rfl rfl rfl (by kernel_rfl) (by kernel_rfl) (by kernel_rfl) (ok_not rfl) (WD.tk 15 rfl (ok_pick_f rfl rfl) (WD.tk 16 rfl (ok_mv) ?_))))
 refine WD.sp 27 rfl (fun h25 => ?_) (fun h25 => ?_)
 ·refine WD.takeN 17 27 rfl rfl rfl rfl rfl h25 (by kernel_rfl) (by kernel_rfl) (by kernel_rfl) (WD.takeN 18 27 rfl rfl rfl rfl rfl h25 (by kernel_rfl) (by kernel_rfl) (by kernel_rfl) (WD.takeN 19 27 rfl rfl rfl rfl rfl h25 (by kernel_rfl) (by kernel_rfl) (by kernel_rfl) (WD.takeN 20 27 rfl rfl rfl rfl rfl h25 (by kernel_rfl) (by kernel_rfl) (by kernel_rfl) (WD.takeN 21 27 rfl rfl rfl rfl rfl h25 (by kernel_rfl) (by kernel_rfl) (by kernel_rfl) (WD.takeN 22 27 rfl rfl rfl rfl rfl h25 (by kernel_rfl) (by kernel_rfl) (by kernel_rfl) (WD.takeN 23 27 rfl rfl rfl rfl rfl h25 (by kernel_rfl) (by kernel_rfl) (by kernel_rfl) (WD.takeN 24 27 rfl rfl rfl rfl rfl h25 (by kernel_rfl) (by kernel_rfl) (by kernel_rfl) (WD.tk 25 rfl (ok_pick_t rfl h25) (WD.dn (WC.cond_t rfl rfl (WC.sr (W.an (WC.rt ?_)))))))))))))
  refine ⟨.inr rfl, [_], ⟨rfl, trivial⟩, [], sn9, ?_⟩
  exact .inl ⟨whole_f hD9 (by simpa using h25), rfl, rfl⟩
 refine WD.takeY 17 27 rfl rfl rfl rfl rfl h25 (by kernel_rfl) (by kernel_rfl) (by kernel_rfl) (ok_mv) (WD.takeY 18 27 rfl rfl rfl rfl rfl h25 (by kernel_rfl) (by kernel_rfl) (by kernel_rfl) (ok_nilP rfl) (WD.takeY 19 27 rfl rfl rfl rfl rfl h25 (by kernel_rfl) (by kernel_rfl) (by kernel_rfl) (ok_fieldB fd110_2 rfl) (WD.takeY 22 27 rfl rfl rfl rfl rfl h25 (by kernel_rfl) (by kernel_rfl) (by kernel_rfl) (ok_mv) (WD.takeY 23 27 rfl rfl rfl rfl rfl h25 (by kernel_rfl) (by kernel_rfl) (by kernel_rfl) (ok_len sl47 (h_l.mono lec) rfl) (WD.anyG [20] (by kernel_rfl) rfl ⟨⟨_, rfl, .inr ⟨_, 27, _, _, rfl, rfl, rfl, h25, rfl⟩, (W.ok (ok_ld 0 [.map _] ty108 rfl) (W.nn (WD.anyG [21] (by kernel_rfl) rfl ⟨⟨_, rfl, .inr ⟨_, 27, _, _, rfl, rfl, rfl, h25, rfl⟩, (W.ok (ok_lenM mk108 hmtlo68 (pmC (pmC pr9)) rfl) (W.nn (WD.takeY 24 27 rfl rfl rfl rfl rfl h25 (by kernel_rfl) (by kernel_rfl) (by kernel_rfl) (ok_neq rfl rfl) (WD.tk 25 rfl (ok_pick_f rfl h25) (WD.dn ?_)))))⟩, trivial⟩)))⟩, trivial⟩)))))
 refine WC.cn (fun h35 p35 => ?_) (fun h35 p35 => ?_)
 ·try dsimp only at p35
  refine WC.sr (W.an (WC.rt ?_))
  refine ⟨.inr rfl, [_], ⟨rfl, trivial⟩, [], sn9, ?_⟩
  exact .inl ⟨whole_l hD9 (by simpa using h25) om9, rfl, rfl⟩
 try dsimp only at p35
 refine WC.sk (WC.sr (W.mv (W.an (WC.ret ?_))))
 refine ⟨.inr rfl, [_], ⟨rfl, trivial⟩, ((bk, ce9 110 [iV cfan, iV cleaf, iV cbud, iV cslots, iV crest, .map (some balo68), .map (some bmlo68), lV sa_lo68 (rw9).length sc_lo68]) :: (Mmlo68 ++ Molo68)), (((List.Sublist.append_left (List.sublist_append_left _ _) _)).cons _).k9, ?_⟩
 obtain ⟨hg9, er9⟩ := whole_t hnd hD9 (by simpa using h25) om9
 subst er9
 exact .inr ⟨hg9, _, _, rfl, _, _, _, _, _, rfl, hatlo68, hmtlo68, holo68⟩

end Go.Proofs.YtemoalimclnfkaaGreat
