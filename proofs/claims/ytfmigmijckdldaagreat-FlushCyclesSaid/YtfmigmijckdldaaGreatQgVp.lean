/- The walk of pouring, by definition. -/
import Derived.Test.YtfmigmijckdldaaGreatQgUn
set_option maxRecDepth 100000
set_option maxHeartbeats 1600000
set_option linter.unusedVariables false
set_option linter.unusedSimpArgs false
set_option linter.unnecessarySimpa false
namespace Go.Proofs.YtfmigmijckdldaaGreat
open Go Go.Fw Go.RowKit
attribute [local irreducible] Ok W WC
theorem rpour_fc {G : GH} (cf : Int) (cl : Int) (cb : Int) (cs : Int) (cr : Int) {cs_p : List Value} {p : Nd} (h_p : NodeC G cs_p p) {cs_k : List Value} {k : Nd} (h_k : NodeC G cs_k k) (i : Int) (hb : 0 ≤ cb ∧ cb ≤ 9223372036854775807) (hr : rising p.pivots = true) (hpv : ∀ q ∈ p.pivots, q.b.size ≤ 16) (hpm : ∀ m ∈ p.msgs, m.R) (hkm : ∀ m ∈ k.msgs, m.key.b.size ≤ 16 ∧ m.val.b.size ≤ 16) (hkr : PairsR k.rows) (hi : i64 i) (hsz : k.msgs.length + p.msgs.length ≤ 100000 ∧ k.rows.length ≤ 100000) (hms : MsgsR p.msgs) (hkl : p.kids.length = p.pivots.length + 1) :
    Fc Tryz.prog 37 [.agg #[iV cf, iV cl, iV cb, iV cs, iV cr], .agg (List.toArray cs_p), .agg (List.toArray cs_k), iV i] G [] (fun v G' M' => M' = [] ∧ ∃ r : Nd × Nd × Nat, r = pourN cl cb p k i ∧ ∃ u0 u1, v = .tuple #[.agg (List.toArray u0), .agg (List.toArray u1), nt9 r.2.2] ∧ NodeC G' u0 (r.1) ∧ NodeC G' u1 (r.2.1)) := by
 obtain ⟨pa_p, pc_p, ka_p, kc_p, ma_p, mc_p, ra_p, rc_p, rfl, hp_p, hk_p, hm_p, hr_p, hok_p⟩ := h_p
 obtain ⟨pa_k, pc_k, ka_k, kc_k, ma_k, mc_k, ra_k, rc_k, rfl, hp_k, hk_k, hm_k, hr_k, hok_k⟩ := h_k
 obtain ⟨hlv1, hlv2⟩ := hok_p.2.1
 have hlk := hk_p.len47
 have hpk : ∀ m ∈ p.msgs, m.key.b.size < 140737488355328 := fun m h => by have := (msgR_key (hpm m h)).1; omega
 have hlm := hm_p.len47
 have hfl := for_len p.pivots p.msgs i
 have hfR : ∀ m ∈ (forN p.pivots p.msgs i), m.R := for_R hpv hpm
 have htl := moved_len cl cb k (forN p.pivots p.msgs i)
 have hml := moved_le cl cb k (forN p.pivots p.msgs i)
 have htd : (List.drop 0 ((forN p.pivots p.msgs i).take (movedN cl cb k (forN p.pivots p.msgs i)).2)).length = (movedN cl cb k (forN p.pivots p.msgs i)).2 := by rw [List.drop_zero]; exact htl
 refine Fc.go [.cell 8 53, .cell 9 53, .tmp 10] Tryz.func37 Tryz.ntmps37 rfl (fun w0 => (g9 2 ?_))
 refine W.box (L := [iV _, iV _, iV _, iV _, iV _]) rfl rfl (fun b1 => (W.box (L := [iV _, iV _, lV _ _ _, lV _ _ _, sV _, .bool _, iV _, iV _, lV _ _ _, lV _ _ _]) rfl rfl (fun b2 => (W.box (L := [iV _, iV _, lV _ _ _, lV _ _ _, sV _, .bool _, iV _, iV _, lV _ _ _, lV _ _ _]) rfl rfl (fun b3 => (W.alloc zr53 (fun b4 => (W.alloc zr53 (fun b5 => (g9 10 ?_))))))))))
 refine W.sd 23 (fun h22 p22 => ?_) (fun h22 p22 => ?_)
 ·try dsimp only at p22
  refine g9 22 ?_
  refine WC.dw ((((sr9.k9.k9).k9).cons _).cons _) (d9 [0, 1, 2, 3, 4] ?_)
  refine g9 5 ?_
  refine ⟨rfl, _, (pour_f0 (fun h => by unfold KidOf at h; omega)).symm, _, _, rfl, ?_, ?_⟩
  · exact (nk9 hp_p hk_p hm_p hr_p hok_p)
  exact (nk9 hp_k hk_k hm_k hr_k hok_k)
 try dsimp only at p22
 refine g9 14 ?_
 refine W.sm 31 (fun h29 p29 => ?_) (fun h29 p29 => ?_)
 ·try dsimp only at p29
  refine g9 14 ?_
  refine WC.dw ((((sr9.k9.k9).k9).cons _).cons _) (d9 [0, 1, 2, 3, 4] ?_)
  refine g9 5 ?_
  refine ⟨rfl, _, (pour_f0 (fun h => by unfold KidOf at h; omega)).symm, _, _, rfl, ?_, ?_⟩
  · exact (nk9 hp_p hk_p hm_p hr_p hok_p)
  exact (nk9 hp_k hk_k hm_k hr_k hok_k)
 try dsimp only at p29
 refine g9 6 ?_
 refine W.sd 35 (fun h33 p33 => ?_) (fun h33 p33 => ?_)
 ·try dsimp only at p33
  refine g9 10 ?_
  refine WC.dw ((((sr9.k9.k9).k9).cons _).cons _) (d9 [0, 1, 2, 3, 4] ?_)
  refine g9 5 ?_
  refine ⟨rfl, _, (pour_f0 (fun h => by unfold KidOf at h; omega)).symm, _, _, rfl, ?_, ?_⟩
  · exact (nk9 hp_p hk_p hm_p hr_p hok_p)
  exact (nk9 hp_k hk_k hm_k hr_k hok_k)
 try dsimp only at p33
 refine g9 13 ?_
 refine WC.cd (fun h40 p40 => ?_) (fun h40 p40 => ?_)
 ·try dsimp only at p40
  refine WC.seq (WC.dw ((((sr9.k9.k9).k9).cons _).cons _) (d9 [0, 1, 2, 3, 4] ?_))
  refine g9 5 ?_
  refine ⟨rfl, _, (pour_f0 (fun h => by unfold KidOf at h; omega)).symm, _, _, rfl, ?_, ?_⟩
  · exact (nk9 hp_p hk_p hm_p hr_p hok_p)
  exact (nk9 hp_k hk_k hm_k hr_k hok_k)
 try dsimp only at p40
 refine g9 9 ?_
 have hko : KidOf p k i := ⟨om9, p29, om9, om9⟩
 have hip : i.toNat ≤ p.pivots.length := by omega
 have hii : i = ((i.toNat : Nat) : Int) := by omega
 refine W.cS (rfor_fc hp_p hm_p i hpk hi) rfl (fun sa_hv7 sc_hv7 G6 hG6 hv7 => (g9 8 ?_))
 refine W.qcall (rmoves_fc cf cl cb cs cr (k := k) (nm9 hG6 hp_k hk_k hm_k hr_k hok_k) hv7 hb hkm hfR hkr ⟨om9, hsz.2⟩) rfl ?_
 have hmv : Moved p.pivots i.toNat p.msgs ((forN p.pivots p.msgs i).take (movedN cl cb k (forN p.pivots p.msgs i)).2) := by have h9 := moved_of hr hip hms (movedN cl cb k (forN p.pivots p.msgs i)).2; rw [← hii] at h9; exact h9
 refine g9 10 ?_
 refine WC.cd (fun h55 p55 => ?_) (fun h55 p55 => ?_)
 ·try dsimp only at p55
  refine WC.seq (WC.dw ((((sr9.k9.k9).k9).cons _).cons _) (d9 [0, 1, 2, 3, 4] ?_))
  refine g9 5 ?_
  refine ⟨rfl, _, (pour_f1 hko (by rw [moved_len]; omega)).symm, _, _, rfl, ?_, ?_⟩
  · exact (nm9 hG6 hp_p hk_p hm_p hr_p hok_p)
  exact (nm9 hG6 hp_k hk_k hm_k hr_k hok_k)
 try dsimp only at p55
 refine g9 7 ?_
 refine W.qcall (rrange_fc (hp_p.mono hG6) _ hi) rfl (W.alloc zr55 (fun b13 => (g9 6 ?_)))
 refine W.alloc zr53 (fun b14 => (g9 19 ?_))
 have hN15 : NmR 53 90 b14 G6 ({ p with msgs := [] }) ((b14, ce9 53 [iV p.slot, iV p.level, lV pa_p p.pivots.length pc_p, lV ka_p p.kids.length kc_p, sV p.high.b, .bool p.top, iV p.right, iV p.seen, lV none 0 0, lV ra_p p.rows.length rc_p]) :: []) := ⟨_, _, _, _, _, _, _, _, rfl, (hp_p.mono hG6), (hk_p.mono hG6), OwnR.nil, (hr_p.mono hG6), hok_p⟩
 have hN15 := NmR.cast hN15 (n' := { p with msgs := restN p.pivots i ((forN p.pivots p.msgs i).take (movedN cl cb k (forN p.pivots p.msgs i)).2) (p.msgs.take 0) }) rfl
 refine WC.perm (M' := ((b13, ce9 55 [sV (rangeN p.pivots i).lo.b, sV (rangeN p.pivots i).hi.b, .bool (rangeN p.pivots i).opn]) :: ((b5, ce9 53 nz9) :: ((b4, ce9 53 nz9) :: ((b3, ce9 53 (ndl k pa_k pc_k ka_k kc_k ma_k mc_k ra_k rc_k)) :: ((b2, ce9 53 (ndl p pa_p pc_p ka_p kc_p ma_p mc_p ra_p rc_p)) :: ((b1, ce9 23 [iV cf, iV cl, iV cb, iV cs, iV cr]) :: (((b14, ce9 53 [iV p.slot, iV p.level, lV pa_p p.pivots.length pc_p, lV ka_p p.kids.length kc_p, sV p.high.b, .bool p.top, iV p.right, iV p.seen, lV none 0 0, lV ra_p p.rows.length rc_p]) :: []) ++ [])))))))) ((pmC (pmC (pmC (pmC (pmC (pmC pr9)))))).symm.trans pr9) ?_
 refine WC.loop (X := (Nat) × MH) (fun q => [(67, nt9 q.1), (6, pt9 b3), (8, pt9 b4), (9, pt9 b5), (13, pt9 b13), (11, lV sa_hv7 ((forN p.pivots p.msgs i)).length sc_hv7), (12, nt9 (((movedN cl cb k (forN p.pivots p.msgs i)).2))), (65, lV ma_p p.msgs.length mc_p), (66, nt9 ((p.msgs).length)), (14, pt9 b14)]) (fun q G Ml => Ml = ((b13, ce9 55 [sV (rangeN p.pivots i).lo.b, sV (rangeN p.pivots i).hi.b, .bool (rangeN p.pivots i).opn]) :: ((b5, ce9 53 nz9) :: ((b4, ce9 53 nz9) :: ((b3, ce9 53 (ndl k pa_k pc_k ka_k kc_k ma_k mc_k ra_k rc_k)) :: ((b2, ce9 53 (ndl p pa_p pc_p ka_p kc_p ma_p mc_p ra_p rc_p)) :: ((b1, ce9 23 [iV cf, iV cl, iV cb, iV cs, iV cr]) :: (q.2 ++ []))))))) ∧ NmR 53 90 b14 G ({ p with msgs := restN p.pivots i ((forN p.pivots p.msgs i).take (movedN cl cb k (forN p.pivots p.msgs i)).2) (p.msgs.take q.1) }) q.2 ∧ q.1 ≤ p.msgs.length) (fun q => p.msgs.length - q.1) (0, ((b14, ce9 53 [iV p.slot, iV p.level, lV pa_p p.pivots.length pc_p, lV ka_p p.kids.length kc_p, sV p.high.b, .bool p.top, iV p.right, iV p.seen, lV none 0 0, lV ra_p p.rows.length rc_p]) :: [])) hs9 ?_ ?_
 ·exact ⟨rfl, (by exact hN15), Nat.zero_le _⟩
 rintro ⟨q, M_14⟩ gG16 G16 _ hG16 ⟨rfl, ho_14, hq⟩
 try dsimp only at ho_14 hq
 have hrl := rest_len p.pivots i ((forN p.pivots p.msgs i).take (movedN cl cb k (forN p.pivots p.msgs i)).2) p.msgs q
 refine WC.fr (f := setL gG16 [(67, nt9 q), (6, pt9 b3), (8, pt9 b4), (9, pt9 b5), (13, pt9 b13), (11, lV sa_hv7 ((forN p.pivots p.msgs i)).length sc_hv7), (12, nt9 (((movedN cl cb k (forN p.pivots p.msgs i)).2))), (65, lV ma_p p.msgs.length mc_p), (66, nt9 ((p.msgs).length)), (14, pt9 b14)]) rfl (g9 6 ?_)
 refine WC.cd (fun h68 p68 => ?_) (fun h68 p68 => ?_)
 ·try dsimp only at p68
  refine g9 6 ?_
  refine (hm_p.mono (hG6.trans hG16)).a2 (i := q) om9 (fun he17 hm18 => (g9 2 ?_))
  refine W.alloc zr90 (fun b22 => (g9 13 ?_))
  refine W.slR (0) ((movedN cl cb k (forN p.pivots p.msgs i)).2) sl51 ty90 (hv7.mono hG16) rfl rfl ⟨_, _, rfl, om9⟩ om9 om9 (fun v24 hs23 => ?_)
  have q28 := hs23.form
  refine match q28 with | ⟨sa25, sc26, e_27⟩ => ?_
  subst e_27
  refine g9 5 ?_
  refine WC.loop (X := Nat) (fun y => [(17, .bool (decide ((p.msgs[q]'om9).stamp ∈ ((((forN p.pivots p.msgs i).take (movedN cl cb k (forN p.pivots p.msgs i)).2)).take y).map Msg.stamp))), (75, nt9 y), (14, pt9 b14), (6, pt9 b3), (8, pt9 b4), (9, pt9 b5), (13, pt9 b13), (16, pt9 b22), (11, lV sa_hv7 ((forN p.pivots p.msgs i)).length sc_hv7), (12, nt9 (((movedN cl cb k (forN p.pivots p.msgs i)).2))), (65, lV ma_p p.msgs.length mc_p), (66, nt9 ((p.msgs).length)), (67, nt9 q), (73, lV sa25 ((((forN p.pivots p.msgs i)).take ((movedN cl cb k (forN p.pivots p.msgs i)).2)).drop (0)).length sc26), (74, nt9 ((((((forN p.pivots p.msgs i)).take ((movedN cl cb k (forN p.pivots p.msgs i)).2)).drop (0))).length))]) (fun y _ Ml => Ml = ((b22, ce9 90 [iV ((p.msgs)[q]).stamp, iV ((p.msgs)[q]).kind, sV ((p.msgs)[q]).key.b, sV ((p.msgs)[q]).hi.b, .bool ((p.msgs)[q]).opn, sV ((p.msgs)[q]).val.b]) :: ((b13, ce9 55 [sV (rangeN p.pivots i).lo.b, sV (rangeN p.pivots i).hi.b, .bool (rangeN p.pivots i).opn]) :: ((b5, ce9 53 nz9) :: ((b4, ce9 53 nz9) :: ((b3, ce9 53 (ndl k pa_k pc_k ka_k kc_k ma_k mc_k ra_k rc_k)) :: ((b2, ce9 53 (ndl p pa_p pc_p ka_p kc_p ma_p mc_p ra_p rc_p)) :: ((b1, ce9 23 [iV cf, iV cl, iV cb, iV cs, iV cr]) :: (M_14 ++ [])))))))) ∧ y ≤ ((forN p.pivots p.msgs i).take (movedN cl cb k (forN p.pivots p.msgs i)).2).length) (fun y => ((forN p.pivots p.msgs i).take (movedN cl cb k (forN p.pivots p.msgs i)).2).length - y) 0 hs9 ?_ ?_
  ·exact ⟨rfl, Nat.zero_le _⟩
  rintro y gG29 G29 _ hG29 ⟨rfl, hy⟩
  refine g9 6 ?_
  refine WC.cd (fun h76 p76 => ?_) (fun h76 p76 => ?_)
  ·try dsimp only at p76
   refine g9 6 ?_
   refine (hs23.mono hG29).a2 (i := y) om9 (fun he30 hm31 => (g9 2 ?_))
   refine W.alloc zr90 (fun b35 => (g9 6 ?_))
   refine W.sp 80 rfl (fun hin17 => ?_) (fun hin17 => ?_)
   ·refine g9 13 ?_
    refine W.sub (sr9.cons _) (g9 2 ?_)
    exact ⟨Le.rfl, y + 1, ⟨(congrArg Value.bool (in_t hin17)), eqv, eqv, eqv, eqv, eqv, eqv, eqv, eqv, eqv, eqv, eqv, eqv, eqv, eqv, trivial⟩, ⟨rfl, om9⟩, om9⟩
   refine g9 18 ?_
   refine W.sub (sr9.cons _) (g9 2 ?_)
   exact ⟨Le.rfl, y + 1, ⟨(congrArg Value.bool (in_s om9 hin17)), eqv, eqv, eqv, eqv, eqv, eqv, eqv, eqv, eqv, eqv, eqv, eqv, eqv, eqv, trivial⟩, ⟨rfl, om9⟩, om9⟩
  try dsimp only at p76
  refine g9 12 ?_
  refine WC.cond rfl (fun h89 => ?_) (fun h89 => ?_)
  ·have hng : ¬ (p.msgs[q]'om9).stamp ∈ (((forN p.pivots p.msgs i).take (movedN cl cb k (forN p.pivots p.msgs i)).2)).map Msg.stamp := by have h9 := h89; rw [List.take_of_length_le om9] at h9; simpa using h9
   refine WC.seq ?_
   have hqlt : q < p.msgs.length := by omega
   obtain ⟨pau36, pcu36, kau36, kcu36, vmu36, rau36, rcu36, Mmu36, eMu36, hpu36, hku36, hmu36, hru36, hoku36⟩ := (NmR.mono hG29 ho_14)
   subst eMu36
   have hfu36 := hmu36.form
   refine match hfu36 with | ⟨mau36, mcu36, e_37⟩ => ?_
   subst e_37
   dsimp only at hpu36 hku36 hmu36 hru36
   refine WC.perm (M' := ((b14, ce9 53 [iV p.slot, iV p.level, lV pau36 p.pivots.length pcu36, lV kau36 p.kids.length kcu36, sV p.high.b, .bool p.top, iV p.right, iV p.seen, lV mau36 (restN p.pivots i ((forN p.pivots p.msgs i).take (movedN cl cb k (forN p.pivots p.msgs i)).2) (p.msgs.take q)).length mcu36, lV rau36 p.rows.length rcu36]) :: ((b22, ce9 90 [iV ((p.msgs)[q]).stamp, iV ((p.msgs)[q]).kind, sV ((p.msgs)[q]).key.b, sV ((p.msgs)[q]).hi.b, .bool ((p.msgs)[q]).opn, sV ((p.msgs)[q]).val.b]) :: ((b13, ce9 55 [sV (rangeN p.pivots i).lo.b, sV (rangeN p.pivots i).hi.b, .bool (rangeN p.pivots i).opn]) :: ((b5, ce9 53 nz9) :: ((b4, ce9 53 nz9) :: ((b3, ce9 53 (ndl k pa_k pc_k ka_k kc_k ma_k mc_k ra_k rc_k)) :: ((b2, ce9 53 (ndl p pa_p pc_p ka_p kc_p ma_p mc_p ra_p rc_p)) :: ((b1, ce9 23 [iV cf, iV cl, iV cb, iV cs, iV cr]) :: (Mmu36 ++ [])))))))))) (pmD (pmD (pmD (pmD (pmD (pmD (pmD pr9))))))).symm (g9 4 ?_)
   refine W.lit (e := eMsg) (l := [(p.msgs[q]'hqlt)]) (css := [[iV _, iV _, sV _, sV _, .bool _, sV _]]) sl51 ty90 zr90 rfl rfl rfl rfl rfl rfl ⟨⟨rfl, hm18⟩, trivial⟩ (fun bl38 G38 hG38 hv38 => (W.app (e := eMsg) sl51 ty90 zr90 rfl by90 rfl rfl ((hmu36.mono hG38)) (hv38) (pmC (pmC (pmC (pmC (pmC (pmC (pmC (pmC pr9)))))))) (by show (List.length _ + 1) * 72 ≤ _; omega) (fun v39 Ms40 ho41 => (W.perm (pmC (pmC (pmC (pmC (pmC (pmC (pmC (pmC pr9)))))))).symm ?_))))
   have q45 := ho41.form
   refine match q45 with | ⟨sa42, sc43, e_44⟩ => ?_
   subst e_44
   refine g9 8 ?_
   have hN46 : NmR 53 90 b14 G38 ({ p with msgs := (restN p.pivots i ((forN p.pivots p.msgs i).take (movedN cl cb k (forN p.pivots p.msgs i)).2) (p.msgs.take q) ++ [(p.msgs[q]'hqlt)]) }) ((b14, ce9 53 [iV p.slot, iV p.level, lV pau36 p.pivots.length pcu36, lV kau36 p.kids.length kcu36, sV p.high.b, .bool p.top, iV p.right, iV p.seen, lV sa42 ((restN p.pivots i ((forN p.pivots p.msgs i).take (movedN cl cb k (forN p.pivots p.msgs i)).2) (p.msgs.take q) ++ [(p.msgs[q]'hqlt)])).length sc43, lV rau36 p.rows.length rcu36]) :: Ms40) := ⟨_, _, _, _, _, _, _, _, rfl, (hpu36.mono hG38), (hku36.mono hG38), ho41, (hru36.mono hG38), hok_p⟩
   have hN46 := NmR.cast hN46 (restN_t om9 (left_no hng))
   refine WC.perm (M' := ((b22, ce9 90 [iV ((p.msgs)[q]).stamp, iV ((p.msgs)[q]).kind, sV ((p.msgs)[q]).key.b, sV ((p.msgs)[q]).hi.b, .bool ((p.msgs)[q]).opn, sV ((p.msgs)[q]).val.b]) :: ((b13, ce9 55 [sV (rangeN p.pivots i).lo.b, sV (rangeN p.pivots i).hi.b, .bool (rangeN p.pivots i).opn]) :: ((b5, ce9 53 nz9) :: ((b4, ce9 53 nz9) :: ((b3, ce9 53 (ndl k pa_k pc_k ka_k kc_k ma_k mc_k ra_k rc_k)) :: ((b2, ce9 53 (ndl p pa_p pc_p ka_p kc_p ma_p mc_p ra_p rc_p)) :: ((b1, ce9 23 [iV cf, iV cl, iV cb, iV cs, iV cr]) :: (((b14, ce9 53 [iV p.slot, iV p.level, lV pau36 p.pivots.length pcu36, lV kau36 p.kids.length kcu36, sV p.high.b, .bool p.top, iV p.right, iV p.seen, lV sa42 ((restN p.pivots i ((forN p.pivots p.msgs i).take (movedN cl cb k (forN p.pivots p.msgs i)).2) (p.msgs.take q) ++ [(p.msgs[q]'hqlt)])).length sc43, lV rau36 p.rows.length rcu36]) :: Ms40) ++ []))))))))) ((pmC (pmC (pmC (pmC (pmC (pmC (pmC pr9))))))).symm.trans (((pmC (pmC (pmC (pmC (pmC (pmC (pmC pr9))))))).cons _).trans pr9)) (g9 3 ?_)
   refine W.sub (sr9.cons _) (g9 2 ?_)
   exact ⟨lec, (q + 1, ((b14, ce9 53 [iV p.slot, iV p.level, lV pau36 p.pivots.length pcu36, lV kau36 p.kids.length kcu36, sV p.high.b, .bool p.top, iV p.right, iV p.seen, lV sa42 ((restN p.pivots i ((forN p.pivots p.msgs i).take (movedN cl cb k (forN p.pivots p.msgs i)).2) (p.msgs.take q) ++ [(p.msgs[q]'hqlt)])).length sc43, lV rau36 p.rows.length rcu36]) :: Ms40)), hs9, ⟨rfl, (by exact hN46), om9⟩, om9⟩
  have hg : (p.msgs[q]'om9).stamp ∈ (((forN p.pivots p.msgs i).take (movedN cl cb k (forN p.pivots p.msgs i)).2)).map Msg.stamp := by have h9 := h89; rw [List.take_of_length_le om9] at h9; simpa using h9
  refine g9 8 ?_
  refine W.sd 99 (fun h98 p98 => ?_) (fun h98 p98 => ?_)
  ·try dsimp only at p98
   refine g9 8 ?_
   refine W.sp 104 rfl (fun h102 => ?_) (fun h102 => ?_)
   ·refine g9 6 ?_
    refine W.sp 107 rfl (fun he19 => ?_) (fun he19 => ?_)
    ·refine g9 19 ?_
     have hqlt : q < p.msgs.length := by omega
     obtain ⟨pau47, pcu47, kau47, kcu47, vmu47, rau47, rcu47, Mmu47, eMu47, hpu47, hku47, hmu47, hru47, hoku47⟩ := (NmR.mono hG29 ho_14)
     subst eMu47
     have hfu47 := hmu47.form
     refine match hfu47 with | ⟨mau47, mcu47, e_48⟩ => ?_
     subst e_48
     dsimp only at hpu47 hku47 hmu47 hru47
     refine WC.perm (M' := ((b14, ce9 53 [iV p.slot, iV p.level, lV pau47 p.pivots.length pcu47, lV kau47 p.kids.length kcu47, sV p.high.b, .bool p.top, iV p.right, iV p.seen, lV mau47 (restN p.pivots i ((forN p.pivots p.msgs i).take (movedN cl cb k (forN p.pivots p.msgs i)).2) (p.msgs.take q)).length mcu47, lV rau47 p.rows.length rcu47]) :: ((b22, ce9 90 [iV ((p.msgs)[q]).stamp, iV ((p.msgs)[q]).kind, sV (rangeN p.pivots i).hi.b, sV ((p.msgs)[q]).hi.b, .bool ((p.msgs)[q]).opn, sV ((p.msgs)[q]).val.b]) :: ((b13, ce9 55 [sV (rangeN p.pivots i).lo.b, sV (rangeN p.pivots i).hi.b, .bool (rangeN p.pivots i).opn]) :: ((b5, ce9 53 nz9) :: ((b4, ce9 53 nz9) :: ((b3, ce9 53 (ndl k pa_k pc_k ka_k kc_k ma_k mc_k ra_k rc_k)) :: ((b2, ce9 53 (ndl p pa_p pc_p ka_p kc_p ma_p mc_p ra_p rc_p)) :: ((b1, ce9 23 [iV cf, iV cl, iV cb, iV cs, iV cr]) :: (Mmu47 ++ [])))))))))) (pmD (pmD (pmD (pmD (pmD (pmD (pmD pr9))))))).symm (g9 4 ?_)
     refine W.lit (e := eMsg) (l := [{ (p.msgs[q]'hqlt) with key := (rangeN p.pivots i).hi }]) (css := [[iV _, iV _, sV _, sV _, .bool _, sV _]]) sl51 ty90 zr90 rfl rfl rfl rfl rfl rfl ⟨⟨rfl, hm18⟩, trivial⟩ (fun bl49 G49 hG49 hv49 => (W.app (e := eMsg) sl51 ty90 zr90 rfl by90 rfl rfl ((hmu47.mono hG49)) (hv49) (pmC (pmC (pmC (pmC (pmC (pmC (pmC (pmC pr9)))))))) (by show (List.length _ + 1) * 72 ≤ _; omega) (fun v50 Ms51 ho52 => (W.perm (pmC (pmC (pmC (pmC (pmC (pmC (pmC (pmC pr9)))))))).symm ?_))))
     have q56 := ho52.form
     refine match q56 with | ⟨sa53, sc54, e_55⟩ => ?_
     subst e_55
     refine g9 5 ?_
     have hN57 : NmR 53 90 b14 G49 ({ p with msgs := (restN p.pivots i ((forN p.pivots p.msgs i).take (movedN cl cb k (forN p.pivots p.msgs i)).2) (p.msgs.take q) ++ [{ (p.msgs[q]'hqlt) with key := (rangeN p.pivots i).hi }]) }) ((b14, ce9 53 [iV p.slot, iV p.level, lV pau47 p.pivots.length pcu47, lV kau47 p.kids.length kcu47, sV p.high.b, .bool p.top, iV p.right, iV p.seen, lV sa53 ((restN p.pivots i ((forN p.pivots p.msgs i).take (movedN cl cb k (forN p.pivots p.msgs i)).2) (p.msgs.take q) ++ [{ (p.msgs[q]'hqlt) with key := (rangeN p.pivots i).hi }])).length sc54, lV rau47 p.rows.length rcu47]) :: Ms51) := ⟨_, _, _, _, _, _, _, _, rfl, (hpu47.mono hG49), (hku47.mono hG49), ho52, (hru47.mono hG49), hok_p⟩
     have hN57 := NmR.cast hN57 (restN_t om9 (left_hiI om9 hr hip hms hmv (List.getElem_mem (by omega : q < p.msgs.length)) hg p98 (by simpa using h102) (.inl he19)))
     refine WC.perm (M' := ((b22, ce9 90 [iV ((p.msgs)[q]).stamp, iV ((p.msgs)[q]).kind, sV (rangeN p.pivots i).hi.b, sV ((p.msgs)[q]).hi.b, .bool ((p.msgs)[q]).opn, sV ((p.msgs)[q]).val.b]) :: ((b13, ce9 55 [sV (rangeN p.pivots i).lo.b, sV (rangeN p.pivots i).hi.b, .bool (rangeN p.pivots i).opn]) :: ((b5, ce9 53 nz9) :: ((b4, ce9 53 nz9) :: ((b3, ce9 53 (ndl k pa_k pc_k ka_k kc_k ma_k mc_k ra_k rc_k)) :: ((b2, ce9 53 (ndl p pa_p pc_p ka_p kc_p ma_p mc_p ra_p rc_p)) :: ((b1, ce9 23 [iV cf, iV cl, iV cb, iV cs, iV cr]) :: (((b14, ce9 53 [iV p.slot, iV p.level, lV pau47 p.pivots.length pcu47, lV kau47 p.kids.length kcu47, sV p.high.b, .bool p.top, iV p.right, iV p.seen, lV sa53 ((restN p.pivots i ((forN p.pivots p.msgs i).take (movedN cl cb k (forN p.pivots p.msgs i)).2) (p.msgs.take q) ++ [{ (p.msgs[q]'hqlt) with key := (rangeN p.pivots i).hi }])).length sc54, lV rau47 p.rows.length rcu47]) :: Ms51) ++ []))))))))) ((pmC (pmC (pmC (pmC (pmC (pmC (pmC pr9))))))).symm.trans (((pmC (pmC (pmC (pmC (pmC (pmC (pmC pr9))))))).cons _).trans pr9)) (g9 3 ?_)
     refine W.sub (sr9.cons _) (g9 2 ?_)
     exact ⟨lec, (q + 1, ((b14, ce9 53 [iV p.slot, iV p.level, lV pau47 p.pivots.length pcu47, lV kau47 p.kids.length kcu47, sV p.high.b, .bool p.top, iV p.right, iV p.seen, lV sa53 ((restN p.pivots i ((forN p.pivots p.msgs i).take (movedN cl cb k (forN p.pivots p.msgs i)).2) (p.msgs.take q) ++ [{ (p.msgs[q]'hqlt) with key := (rangeN p.pivots i).hi }])).length sc54, lV rau47 p.rows.length rcu47]) :: Ms51)), hs9, ⟨rfl, (by exact hN57), om9⟩, om9⟩
    refine g9 9 ?_
    refine W.qcall (less_fc _ _) rfl (g9 5 ?_)
    refine WC.cond rfl (fun h112 => ?_) (fun h112 => ?_)
    ·refine g9 8 ?_
     have hqlt : q < p.msgs.length := by omega
     obtain ⟨pau58, pcu58, kau58, kcu58, vmu58, rau58, rcu58, Mmu58, eMu58, hpu58, hku58, hmu58, hru58, hoku58⟩ := (NmR.mono hG29 ho_14)
     subst eMu58
     have hfu58 := hmu58.form
     refine match hfu58 with | ⟨mau58, mcu58, e_59⟩ => ?_
     subst e_59
     dsimp only at hpu58 hku58 hmu58 hru58
     refine WC.perm (M' := ((b14, ce9 53 [iV p.slot, iV p.level, lV pau58 p.pivots.length pcu58, lV kau58 p.kids.length kcu58, sV p.high.b, .bool p.top, iV p.right, iV p.seen, lV mau58 (restN p.pivots i ((forN p.pivots p.msgs i).take (movedN cl cb k (forN p.pivots p.msgs i)).2) (p.msgs.take q)).length mcu58, lV rau58 p.rows.length rcu58]) :: ((b22, ce9 90 [iV ((p.msgs)[q]).stamp, iV ((p.msgs)[q]).kind, sV (rangeN p.pivots i).hi.b, sV ((p.msgs)[q]).hi.b, .bool ((p.msgs)[q]).opn, sV ((p.msgs)[q]).val.b]) :: ((b13, ce9 55 [sV (rangeN p.pivots i).lo.b, sV (rangeN p.pivots i).hi.b, .bool (rangeN p.pivots i).opn]) :: ((b5, ce9 53 nz9) :: ((b4, ce9 53 nz9) :: ((b3, ce9 53 (ndl k pa_k pc_k ka_k kc_k ma_k mc_k ra_k rc_k)) :: ((b2, ce9 53 (ndl p pa_p pc_p ka_p kc_p ma_p mc_p ra_p rc_p)) :: ((b1, ce9 23 [iV cf, iV cl, iV cb, iV cs, iV cr]) :: (Mmu58 ++ [])))))))))) (pmD (pmD (pmD (pmD (pmD (pmD (pmD pr9))))))).symm (g9 4 ?_)
     refine W.lit (e := eMsg) (l := [{ (p.msgs[q]'hqlt) with key := (rangeN p.pivots i).hi }]) (css := [[iV _, iV _, sV _, sV _, .bool _, sV _]]) sl51 ty90 zr90 rfl rfl rfl rfl rfl rfl ⟨⟨rfl, hm18⟩, trivial⟩ (fun bl60 G60 hG60 hv60 => (W.app (e := eMsg) sl51 ty90 zr90 rfl by90 rfl rfl ((hmu58.mono hG60)) (hv60) (pmC (pmC (pmC (pmC (pmC (pmC (pmC (pmC pr9)))))))) (by show (List.length _ + 1) * 72 ≤ _; omega) (fun v61 Ms62 ho63 => (W.perm (pmC (pmC (pmC (pmC (pmC (pmC (pmC (pmC pr9)))))))).symm ?_))))
     have q67 := ho63.form
     refine match q67 with | ⟨sa64, sc65, e_66⟩ => ?_
     subst e_66
     refine g9 5 ?_
     have hN68 : NmR 53 90 b14 G60 ({ p with msgs := (restN p.pivots i ((forN p.pivots p.msgs i).take (movedN cl cb k (forN p.pivots p.msgs i)).2) (p.msgs.take q) ++ [{ (p.msgs[q]'hqlt) with key := (rangeN p.pivots i).hi }]) }) ((b14, ce9 53 [iV p.slot, iV p.level, lV pau58 p.pivots.length pcu58, lV kau58 p.kids.length kcu58, sV p.high.b, .bool p.top, iV p.right, iV p.seen, lV sa64 ((restN p.pivots i ((forN p.pivots p.msgs i).take (movedN cl cb k (forN p.pivots p.msgs i)).2) (p.msgs.take q) ++ [{ (p.msgs[q]'hqlt) with key := (rangeN p.pivots i).hi }])).length sc65, lV rau58 p.rows.length rcu58]) :: Ms62) := ⟨_, _, _, _, _, _, _, _, rfl, (hpu58.mono hG60), (hku58.mono hG60), ho63, (hru58.mono hG60), hok_p⟩
     have hN68 := NmR.cast hN68 (restN_t om9 (left_hiI om9 hr hip hms hmv (List.getElem_mem (by omega : q < p.msgs.length)) hg p98 (by simpa using h102) (.inr h112)))
     refine WC.perm (M' := ((b22, ce9 90 [iV ((p.msgs)[q]).stamp, iV ((p.msgs)[q]).kind, sV (rangeN p.pivots i).hi.b, sV ((p.msgs)[q]).hi.b, .bool ((p.msgs)[q]).opn, sV ((p.msgs)[q]).val.b]) :: ((b13, ce9 55 [sV (rangeN p.pivots i).lo.b, sV (rangeN p.pivots i).hi.b, .bool (rangeN p.pivots i).opn]) :: ((b5, ce9 53 nz9) :: ((b4, ce9 53 nz9) :: ((b3, ce9 53 (ndl k pa_k pc_k ka_k kc_k ma_k mc_k ra_k rc_k)) :: ((b2, ce9 53 (ndl p pa_p pc_p ka_p kc_p ma_p mc_p ra_p rc_p)) :: ((b1, ce9 23 [iV cf, iV cl, iV cb, iV cs, iV cr]) :: (((b14, ce9 53 [iV p.slot, iV p.level, lV pau58 p.pivots.length pcu58, lV kau58 p.kids.length kcu58, sV p.high.b, .bool p.top, iV p.right, iV p.seen, lV sa64 ((restN p.pivots i ((forN p.pivots p.msgs i).take (movedN cl cb k (forN p.pivots p.msgs i)).2) (p.msgs.take q) ++ [{ (p.msgs[q]'hqlt) with key := (rangeN p.pivots i).hi }])).length sc65, lV rau58 p.rows.length rcu58]) :: Ms62) ++ []))))))))) ((pmC (pmC (pmC (pmC (pmC (pmC (pmC pr9))))))).symm.trans (((pmC (pmC (pmC (pmC (pmC (pmC (pmC pr9))))))).cons _).trans pr9)) (g9 3 ?_)
     refine W.sub (sr9.cons _) (g9 2 ?_)
     exact ⟨lec, (q + 1, ((b14, ce9 53 [iV p.slot, iV p.level, lV pau58 p.pivots.length pcu58, lV kau58 p.kids.length kcu58, sV p.high.b, .bool p.top, iV p.right, iV p.seen, lV sa64 ((restN p.pivots i ((forN p.pivots p.msgs i).take (movedN cl cb k (forN p.pivots p.msgs i)).2) (p.msgs.take q) ++ [{ (p.msgs[q]'hqlt) with key := (rangeN p.pivots i).hi }])).length sc65, lV rau58 p.rows.length rcu58]) :: Ms62)), hs9, ⟨rfl, (by exact hN68), om9⟩, om9⟩
    refine g9 6 ?_
    refine W.sub (sr9.cons _) (g9 2 ?_)
    exact ⟨hG29, (q + 1, M_14), hs9, ⟨rfl, (by exact NmR.cast (NmR.mono hG29 ho_14) (restN_f om9 (left_goneI om9 hr hip hms hmv (List.getElem_mem (by omega : q < p.msgs.length)) hg (fun hh => by rcases hh.2.2 with h9 | h9; rw [he19] at h9; exact absurd h9 (by simp); exact absurd (h112.symm.trans h9) (by simp))))), om9⟩, om9⟩
   refine g9 19 ?_
   refine W.sub (sr9.cons _) (g9 2 ?_)
   exact ⟨hG29, (q + 1, M_14), hs9, ⟨rfl, (by exact NmR.cast (NmR.mono hG29 ho_14) (restN_f om9 (left_goneI om9 hr hip hms hmv (List.getElem_mem (by omega : q < p.msgs.length)) hg (fun hh => by rw [hh.2.1] at h102; exact absurd h102 (by simp))))), om9⟩, om9⟩
  try dsimp only at p98
  refine g9 24 ?_
  refine W.sub (sr9.cons _) (g9 2 ?_)
  exact ⟨hG29, (q + 1, M_14), hs9, ⟨rfl, (by exact NmR.cast (NmR.mono hG29 ho_14) (restN_f om9 (left_goneI om9 hr hip hms hmv (List.getElem_mem (by omega : q < p.msgs.length)) hg (fun hh => p98 hh.1)))), om9⟩, om9⟩
 try dsimp only at p68
 refine g9 13 ?_
 refine WC.cd (fun h127 p127 => ?_) (fun h127 p127 => ?_)
 ·try dsimp only at p127
  refine WC.dw (((((sn9.k9.k9).cons _).k9).k9).k9) (d9 [0, 2, 3] ?_)
  have hs69 := SlR.slice (hv7.mono hG16) (lo := 0) (hi := (movedN cl cb k (forN p.pivots p.msgs i)).2) om9 om9
  refine WD.tk 4 rfl (ok_slice (0) ((movedN cl cb k (forN p.pivots p.msgs i)).2) sl51 ty90 (hv7.mono hG16) rfl rfl ⟨_, _, rfl, om9⟩ ⟨om9, om9⟩) (WD.a1 1 rfl (g9 1 ?_))
  refine W.nn (WD.a1 5 rfl (W.cS (rfoldF_fc (hr_k.mono lec) (SlR.cast hs69 (List.drop_zero)) hkr om9 (fun m h => fit_of (msgR_key (hfR m (List.mem_of_mem_take h))))) rfl (fun sa_hv71 sc_hv71 G70 hG70 hv71 => (W.nn (d9 [6, 7] ?_)))))
  refine g9 7 ?_
  refine (hv7.mono (hG16.trans hG70)).a2 (i := (movedN cl cb k (forN p.pivots p.msgs i)).2 - 1) om9 (fun he77 hm78 => (W.ok (ok_indexAddr (i := (movedN cl cb k (forN p.pivots p.msgs i)).2 - 1) sl51 ty90 (hv7.mono lec) rfl rfl ⟨om9, om9⟩) (g9 7 ?_)))
  have hN82 := NmR.cast (NmR.mono hG70 ho_14) (n' := { p with msgs := restN p.pivots i ((forN p.pivots p.msgs i).take (movedN cl cb k (forN p.pivots p.msgs i)).2) p.msgs }) (by rw [List.take_of_length_le (show p.msgs.length ≤ q by omega)])
  have hTl := hm78
  obtain ⟨pau83, pcu83, kau83, kcu83, vmu83, rau83, rcu83, Mmu83, eMu83, hpu83, hku83, hmu83, hru83, hoku83⟩ := hN82
  subst eMu83
  have hfu83 := hmu83.form
  refine match hfu83 with | ⟨mau83, mcu83, e_84⟩ => ?_
  subst e_84
  dsimp only at hpu83 hku83 hmu83 hru83
  refine WC.perm (M' := ((b14, ce9 53 [iV p.slot, iV p.level, lV pau83 p.pivots.length pcu83, lV kau83 p.kids.length kcu83, sV p.high.b, .bool p.top, iV p.right, iV p.seen, lV mau83 (restN p.pivots i ((forN p.pivots p.msgs i).take (movedN cl cb k (forN p.pivots p.msgs i)).2) p.msgs).length mcu83, lV rau83 p.rows.length rcu83]) :: ((b13, ce9 55 [sV (rangeN p.pivots i).lo.b, sV (rangeN p.pivots i).hi.b, .bool (rangeN p.pivots i).opn]) :: ((b5, ce9 53 nz9) :: ((b4, ce9 53 nz9) :: ((b3, ce9 53 [iV k.slot, iV k.level, lV pa_k k.pivots.length pc_k, lV ka_k k.kids.length kc_k, sV k.high.b, .bool k.top, iV k.right, iV (((forN p.pivots p.msgs i))[((movedN cl cb k (forN p.pivots p.msgs i)).2 - 1)]).stamp, lV ma_k k.msgs.length mc_k, lV sa_hv71 (foldN k.rows ((forN p.pivots p.msgs i).take (movedN cl cb k (forN p.pivots p.msgs i)).2)).length sc_hv71]) :: ((b2, ce9 53 (ndl p pa_p pc_p ka_p kc_p ma_p mc_p ra_p rc_p)) :: ((b1, ce9 23 [iV cf, iV cl, iV cb, iV cs, iV cr]) :: (Mmu83 ++ []))))))))) (pmD (pmD (pmD (pmD (pmD (pmD pr9)))))).symm (WC.giveO hmu83 (pmC (pmC (pmC (pmC (pmC (pmC (pmC pr9))))))) (fun G85 hG85 hv85 => (WC.dw ((((((sr9.k9.k9).k9).cons _).cons _).k9).k9) (d9 [0, 1, 2, 3, 4, 5] ?_))))
  refine g9 4 ?_
  refine ⟨rfl, _, (pour_l hko p127 om9 om9).symm, _, _, rfl, ?_, ?_⟩
  · exact ⟨_, _, _, _, _, _, _, _, rfl, (hpu83.mono hG85), (hku83.mono hG85), hv85, (hru83.mono hG85), hok_p⟩
  exact ⟨_, _, _, _, _, _, _, _, rfl, (hp_k.mono lec), (hk_k.mono lec), (hm_k.mono lec), (hv71.mono hG85), ⟨hok_k.1, hok_k.2.1, hok_k.2.2.1, hTl.1⟩⟩
 try dsimp only at p127
 refine WC.dw (((((sn9.k9.k9).cons _).k9).k9).k9) (d9 [1, 4, 5] ?_)
 have hs86 := SlR.slice (hv7.mono hG16) (lo := 0) (hi := (movedN cl cb k (forN p.pivots p.msgs i)).2) om9 om9
 refine WD.tk 6 rfl (ok_slice (0) ((movedN cl cb k (forN p.pivots p.msgs i)).2) sl51 ty90 (hv7.mono hG16) rfl rfl ⟨_, _, rfl, om9⟩ ⟨om9, om9⟩) ?_
 refine WD.any [0, 2] (by kernel_rfl) rfl ⟨WD.ap ?_, WD.ap ?_, trivial⟩
 ·refine W.lit0 (e := eMsg) sl51 ty90 zr90 rfl (fun v87 Ms88 ho89 => (W.perm (pmC (pmC (pmC (pmC (pmC (pmC pr9)))))).symm ?_))
  have q93 := ho89.form
  refine match q93 with | ⟨sa90, sc91, e_92⟩ => ?_
  subst e_92
  refine W.nn (WD.a1 2 rfl (g9 1 ?_))
  refine W.nn (WD.a1 3 rfl (W.app (e := eMsg) sl51 ty90 zr90 rfl by90 rfl rfl (ho89) ((hm_k.mono lec)) (pmC (pmC (pmC (pmC (pmC (pmC pr9)))))) (by show (0 + List.length _) * 72 ≤ _; omega) (fun v94 Ms95 ho96 => (W.perm (pmC (pmC (pmC (pmC (pmC (pmC pr9)))))).symm ?_))))
  have q100 := ho96.form
  refine match q100 with | ⟨sa97, sc98, e_99⟩ => ?_
  subst e_99
  refine W.nn (WD.a1 7 rfl (W.app (e := eMsg) sl51 ty90 zr90 rfl by90 rfl rfl (ho96) (hs86) (pmC (pmC (pmC (pmC (pmC (pmC pr9)))))) (by show (List.length _ + List.length _) * 72 ≤ _; simp; omega) (fun v101 Ms102 ho103 => (W.perm (pmC (pmC (pmC (pmC (pmC (pmC pr9)))))).symm ?_))))
  have q107 := ho103.form
  refine match q107 with | ⟨sa104, sc105, e_106⟩ => ?_
  subst e_106
  refine W.nn (d9 [8, 9] ?_)
  refine g9 3 ?_
  refine WC.giveO ho103 (pmC (pmC (pmC (pmC (pmC (pmC pr9)))))) (fun G108 hG108 hv108 => (g9 4 ?_))
  refine (hv7.mono (hG16.trans hG108)).a2 (i := (movedN cl cb k (forN p.pivots p.msgs i)).2 - 1) om9 (fun he109 hm110 => (W.ok (ok_indexAddr (i := (movedN cl cb k (forN p.pivots p.msgs i)).2 - 1) sl51 ty90 (hv7.mono lec) rfl rfl ⟨om9, om9⟩) (g9 7 ?_)))
  have hN114 := NmR.cast (NmR.mono hG108 ho_14) (n' := { p with msgs := restN p.pivots i ((forN p.pivots p.msgs i).take (movedN cl cb k (forN p.pivots p.msgs i)).2) p.msgs }) (by rw [List.take_of_length_le (show p.msgs.length ≤ q by omega)])
  have hTl := hm110
  obtain ⟨pau115, pcu115, kau115, kcu115, vmu115, rau115, rcu115, Mmu115, eMu115, hpu115, hku115, hmu115, hru115, hoku115⟩ := hN114
  subst eMu115
  have hfu115 := hmu115.form
  refine match hfu115 with | ⟨mau115, mcu115, e_116⟩ => ?_
  subst e_116
  dsimp only at hpu115 hku115 hmu115 hru115
  refine WC.perm (M' := ((b14, ce9 53 [iV p.slot, iV p.level, lV pau115 p.pivots.length pcu115, lV kau115 p.kids.length kcu115, sV p.high.b, .bool p.top, iV p.right, iV p.seen, lV mau115 (restN p.pivots i ((forN p.pivots p.msgs i).take (movedN cl cb k (forN p.pivots p.msgs i)).2) p.msgs).length mcu115, lV rau115 p.rows.length rcu115]) :: ((b13, ce9 55 [sV (rangeN p.pivots i).lo.b, sV (rangeN p.pivots i).hi.b, .bool (rangeN p.pivots i).opn]) :: ((b5, ce9 53 nz9) :: ((b4, ce9 53 nz9) :: ((b3, ce9 53 [iV k.slot, iV k.level, lV pa_k k.pivots.length pc_k, lV ka_k k.kids.length kc_k, sV k.high.b, .bool k.top, iV k.right, iV (((forN p.pivots p.msgs i))[((movedN cl cb k (forN p.pivots p.msgs i)).2 - 1)]).stamp, lV sa104 ((([] ++ k.msgs) ++ (((forN p.pivots p.msgs i)).take ((movedN cl cb k (forN p.pivots p.msgs i)).2)).drop (0))).length sc105, lV ra_k k.rows.length rc_k]) :: ((b2, ce9 53 (ndl p pa_p pc_p ka_p kc_p ma_p mc_p ra_p rc_p)) :: ((b1, ce9 23 [iV cf, iV cl, iV cb, iV cs, iV cr]) :: (Mmu115 ++ []))))))))) (pmD (pmD (pmD (pmD (pmD (pmD pr9)))))).symm (WC.giveO hmu115 (pmC (pmC (pmC (pmC (pmC (pmC (pmC pr9))))))) (fun G117 hG117 hv117 => (WC.dw ((((((sr9.k9.k9).k9).cons _).cons _).k9).k9) (d9 [0, 1, 2, 3, 4, 5] ?_))))
  refine g9 4 ?_
  refine ⟨rfl, _, (pour_i hko p127 om9 om9).symm, _, _, rfl, ?_, ?_⟩
  · exact ⟨_, _, _, _, _, _, _, _, rfl, (hpu115.mono hG117), (hku115.mono hG117), hv117, (hru115.mono hG117), hok_p⟩
  exact ⟨_, _, _, _, _, _, _, _, rfl, (hp_k.mono lec), (hk_k.mono lec), (hv108.mono hG117), (hr_k.mono lec), ⟨hok_k.1, hok_k.2.1, hok_k.2.2.1, hTl.1⟩⟩
 refine g9 1 ?_
 refine W.nn (WD.a1 0 rfl (W.lit0 (e := eMsg) sl51 ty90 zr90 rfl (fun v118 Ms119 ho120 => (W.perm (pmC (pmC (pmC (pmC (pmC (pmC pr9)))))).symm ?_))))
 have q124 := ho120.form
 refine match q124 with | ⟨sa121, sc122, e_123⟩ => ?_
 subst e_123
 refine W.nn (WD.a1 3 rfl (W.app (e := eMsg) sl51 ty90 zr90 rfl by90 rfl rfl (ho120) ((hm_k.mono lec)) (pmC (pmC (pmC (pmC (pmC (pmC pr9)))))) (by show (0 + List.length _) * 72 ≤ _; omega) (fun v125 Ms126 ho127 => (W.perm (pmC (pmC (pmC (pmC (pmC (pmC pr9)))))).symm ?_))))
 have q131 := ho127.form
 refine match q131 with | ⟨sa128, sc129, e_130⟩ => ?_
 subst e_130
 refine W.nn (WD.a1 7 rfl (W.app (e := eMsg) sl51 ty90 zr90 rfl by90 rfl rfl (ho127) (hs86) (pmC (pmC (pmC (pmC (pmC (pmC pr9)))))) (by show (List.length _ + List.length _) * 72 ≤ _; simp; omega) (fun v132 Ms133 ho134 => (W.perm (pmC (pmC (pmC (pmC (pmC (pmC pr9)))))).symm ?_))))
 have q138 := ho134.form
 refine match q138 with | ⟨sa135, sc136, e_137⟩ => ?_
 subst e_137
 refine W.nn (d9 [8, 9] ?_)
 refine g9 3 ?_
 refine WC.giveO ho134 (pmC (pmC (pmC (pmC (pmC (pmC pr9)))))) (fun G139 hG139 hv139 => (g9 4 ?_))
 refine (hv7.mono (hG16.trans hG139)).a2 (i := (movedN cl cb k (forN p.pivots p.msgs i)).2 - 1) om9 (fun he140 hm141 => (W.ok (ok_indexAddr (i := (movedN cl cb k (forN p.pivots p.msgs i)).2 - 1) sl51 ty90 (hv7.mono lec) rfl rfl ⟨om9, om9⟩) (g9 7 ?_)))
 have hN145 := NmR.cast (NmR.mono hG139 ho_14) (n' := { p with msgs := restN p.pivots i ((forN p.pivots p.msgs i).take (movedN cl cb k (forN p.pivots p.msgs i)).2) p.msgs }) (by rw [List.take_of_length_le (show p.msgs.length ≤ q by omega)])
 have hTl := hm141
 obtain ⟨pau146, pcu146, kau146, kcu146, vmu146, rau146, rcu146, Mmu146, eMu146, hpu146, hku146, hmu146, hru146, hoku146⟩ := hN145
 subst eMu146
 have hfu146 := hmu146.form
 refine match hfu146 with | ⟨mau146, mcu146, e_147⟩ => ?_
 subst e_147
 dsimp only at hpu146 hku146 hmu146 hru146
 refine WC.perm (M' := ((b14, ce9 53 [iV p.slot, iV p.level, lV pau146 p.pivots.length pcu146, lV kau146 p.kids.length kcu146, sV p.high.b, .bool p.top, iV p.right, iV p.seen, lV mau146 (restN p.pivots i ((forN p.pivots p.msgs i).take (movedN cl cb k (forN p.pivots p.msgs i)).2) p.msgs).length mcu146, lV rau146 p.rows.length rcu146]) :: ((b13, ce9 55 [sV (rangeN p.pivots i).lo.b, sV (rangeN p.pivots i).hi.b, .bool (rangeN p.pivots i).opn]) :: ((b5, ce9 53 nz9) :: ((b4, ce9 53 nz9) :: ((b3, ce9 53 [iV k.slot, iV k.level, lV pa_k k.pivots.length pc_k, lV ka_k k.kids.length kc_k, sV k.high.b, .bool k.top, iV k.right, iV (((forN p.pivots p.msgs i))[((movedN cl cb k (forN p.pivots p.msgs i)).2 - 1)]).stamp, lV sa135 ((([] ++ k.msgs) ++ (((forN p.pivots p.msgs i)).take ((movedN cl cb k (forN p.pivots p.msgs i)).2)).drop (0))).length sc136, lV ra_k k.rows.length rc_k]) :: ((b2, ce9 53 (ndl p pa_p pc_p ka_p kc_p ma_p mc_p ra_p rc_p)) :: ((b1, ce9 23 [iV cf, iV cl, iV cb, iV cs, iV cr]) :: (Mmu146 ++ []))))))))) (pmD (pmD (pmD (pmD (pmD (pmD pr9)))))).symm (WC.giveO hmu146 (pmC (pmC (pmC (pmC (pmC (pmC (pmC pr9))))))) (fun G148 hG148 hv148 => (WC.dw ((((((sr9.k9.k9).k9).cons _).cons _).k9).k9) (d9 [0, 1, 2, 3, 4, 5] ?_))))
 refine g9 4 ?_
 refine ⟨rfl, _, (pour_i hko p127 om9 om9).symm, _, _, rfl, ?_, ?_⟩
 · exact ⟨_, _, _, _, _, _, _, _, rfl, (hpu146.mono hG148), (hku146.mono hG148), hv148, (hru146.mono hG148), hok_p⟩
 exact ⟨_, _, _, _, _, _, _, _, rfl, (hp_k.mono lec), (hk_k.mono lec), (hv139.mono hG148), (hr_k.mono lec), ⟨hok_k.1, hok_k.2.1, hok_k.2.2.1, hTl.1⟩⟩

theorem fdecide_fc {G : GH} (cf : Int) (cl : Int) (cb : Int) (cs : Int) (cr : Int) {cs_p : List Value} {p : Nd} (h_p : NodeC G cs_p p) {cs_k : List Value} {k : Nd} (h_k : NodeC G cs_k k) (i : Int) (hq : PourPre cb p k) (hi : i64 i) (hko : KidOf p k i) (hms : MsgsR p.msgs) (hkl : p.kids.length = p.pivots.length + 1) :
    Fc Tryz.prog 66 [.agg #[iV cf, iV cl, iV cb, iV cs, iV cr], .agg (List.toArray cs_p), .agg (List.toArray cs_k), iV i] G [] (fun v _ _ => v = iV (decideN (⟨cf, cl, cb, cs, cr⟩ : Cfg) p k i)) := by
 obtain ⟨_, _, _, _, _, _, _, _, rfl, hp_p, hk_p, hm_p, hr_p, hok_p⟩ := h_p
 obtain ⟨_, _, _, _, _, _, _, _, rfl, hp_k, hk_k, hm_k, hr_k, hok_k⟩ := h_k
 refine Fc.go [.tmp 8] Tryz.func66 Tryz.ntmps66 rfl (fun w0 => (g9 2 ?_))
 refine W.box (L := [iV _, iV _, iV _, iV _, iV _]) rfl rfl (fun b1 => (W.box (L := [iV _, iV _, lV _ _ _, lV _ _ _, sV _, .bool _, iV _, iV _, lV _ _ _, lV _ _ _]) rfl rfl (fun b2 => (W.box (L := [iV _, iV _, lV _ _ _, lV _ _ _, sV _, .bool _, iV _, iV _, lV _ _ _, lV _ _ _]) rfl rfl (fun b3 => (g9 13 ?_))))))
 refine W.qcall (nfull_fc cf cl cb cs cr (n := p) (nk9 hp_p hk_p hm_p hr_p hok_p)) rfl (g9 2 ?_)
 refine WC.cond rfl (fun h12 => ?_) (fun h12 => ?_)
 ·refine g9 12 ?_
  refine W.sd 17 (fun h16 p16 => ?_) (fun h16 p16 => ?_)
  ·refine g9 5 ?_
   refine W.qcall (nfull_fc cf cl cb cs cr (n := k) (nk9 hp_k hk_k hm_k hr_k hok_k)) rfl (g9 4 ?_)
   refine WC.cond rfl (fun h20 => ?_) (fun h20 => ?_)
   ·refine g9 10 ?_
    refine congrArg (Value.int .i64) ?_
    rw [dec_full (c := (⟨cf, cl, cb, cs, cr⟩ : Cfg)) om9 h20]
    rw [if_pos h12]
   refine g9 6 ?_
   refine W.qcall (pcount_fc cf cl cb cs cr (p := p) (k := k) (nk9 hp_p hk_p hm_p hr_p hok_p) (nk9 hp_k hk_k hm_k hr_k hok_k) i hq.hb hq.hr hq.hpv hq.hpm hq.hkm hq.hkr hi hq.hsz) rfl (g9 4 ?_)
   refine WC.cd (fun h29 p29 => ?_) (fun h29 p29 => ?_)
   ·refine g9 9 ?_
    refine congrArg (Value.int .i64) ?_
    exact (dec_pour (c := (⟨cf, cl, cb, cs, cr⟩ : Cfg)) (fun h => by rw [h20] at h; exact absurd h.2 (by simp)) (show 0 < countN cl cb p k i by omega)).symm
   refine g9 8 ?_
   refine WC.cd (fun h33 p33 => ?_) (fun h33 p33 => ?_)
   ·refine g9 9 ?_
    refine congrArg (Value.int .i64) ?_
    exact (dec_down (c := (⟨cf, cl, cb, cs, cr⟩ : Cfg)) (fun h => by rw [h20] at h; exact absurd h.2 (by simp)) (show ¬ 0 < countN cl cb p k i by omega) om9).symm
   refine g9 6 ?_
   refine W.qcall (needs_fc cf cl cb cs cr (p := p) (k := k) (nk9 hp_p hk_p hm_p hr_p hok_p) (nk9 hp_k hk_k hm_k hr_k hok_k) i hq.hb hq.hr hq.hpv hq.hpm hq.hkm hq.hkr hi hq.hsz) rfl (g9 3 ?_)
   refine WC.cond rfl (fun h39 => ?_) (fun h39 => ?_)
   ·have hwt : 0 < (forN p.pivots p.msgs i).length := (odt h39).2.1
    refine g9 10 ?_
    refine congrArg (Value.int .i64) ?_
    rw [dec_need (c := (⟨cf, cl, cb, cs, cr⟩ : Cfg)) (show ¬ 0 < countN cl cb p k i by omega) om9 hwt]
    rw [if_pos h12]
   have hwt : ¬ 0 < (forN p.pivots p.msgs i).length := fun hh => odf h39 ⟨hko, hh, om9⟩
   refine g9 10 ?_
   refine congrArg (Value.int .i64) ?_
   exact (dec_end (c := (⟨cf, cl, cb, cs, cr⟩ : Cfg)) (show ¬ 0 < countN cl cb p k i by omega) om9 hwt).symm
  refine g9 14 ?_
  refine W.qcall (pcount_fc cf cl cb cs cr (p := p) (k := k) (nk9 hp_p hk_p hm_p hr_p hok_p) (nk9 hp_k hk_k hm_k hr_k hok_k) i hq.hb hq.hr hq.hpv hq.hpm hq.hkm hq.hkr hi hq.hsz) rfl (g9 4 ?_)
  refine WC.cd (fun h29 p29 => ?_) (fun h29 p29 => ?_)
  ·refine g9 9 ?_
   refine congrArg (Value.int .i64) ?_
   exact (dec_pour (c := (⟨cf, cl, cb, cs, cr⟩ : Cfg)) (fun h => by omega) (show 0 < countN cl cb p k i by omega)).symm
  refine g9 8 ?_
  refine WC.cd (fun h33 p33 => ?_) (fun h33 p33 => ?_)
  ·refine g9 9 ?_
   refine congrArg (Value.int .i64) ?_
   exact (dec_down (c := (⟨cf, cl, cb, cs, cr⟩ : Cfg)) (fun h => by omega) (show ¬ 0 < countN cl cb p k i by omega) om9).symm
  refine g9 6 ?_
  refine W.qcall (needs_fc cf cl cb cs cr (p := p) (k := k) (nk9 hp_p hk_p hm_p hr_p hok_p) (nk9 hp_k hk_k hm_k hr_k hok_k) i hq.hb hq.hr hq.hpv hq.hpm hq.hkm hq.hkr hi hq.hsz) rfl (g9 3 ?_)
  refine WC.cond rfl (fun h39 => ?_) (fun h39 => ?_)
  ·have hwt : 0 < (forN p.pivots p.msgs i).length := (odt h39).2.1
   refine g9 10 ?_
   refine congrArg (Value.int .i64) ?_
   rw [dec_need (c := (⟨cf, cl, cb, cs, cr⟩ : Cfg)) (show ¬ 0 < countN cl cb p k i by omega) om9 hwt]
   rw [if_pos h12]
  have hwt : ¬ 0 < (forN p.pivots p.msgs i).length := fun hh => odf h39 ⟨hko, hh, om9⟩
  refine g9 10 ?_
  refine congrArg (Value.int .i64) ?_
  exact (dec_end (c := (⟨cf, cl, cb, cs, cr⟩ : Cfg)) (show ¬ 0 < countN cl cb p k i by omega) om9 hwt).symm
 refine g9 10 ?_
 refine W.sd 17 (fun h16 p16 => ?_) (fun h16 p16 => ?_)
 ·refine g9 5 ?_
  refine W.qcall (nfull_fc cf cl cb cs cr (n := k) (nk9 hp_k hk_k hm_k hr_k hok_k)) rfl (g9 4 ?_)
  refine WC.cond rfl (fun h20 => ?_) (fun h20 => ?_)
  ·refine g9 10 ?_
   refine congrArg (Value.int .i64) ?_
   rw [dec_full (c := (⟨cf, cl, cb, cs, cr⟩ : Cfg)) om9 h20]
   rw [if_neg (by rw [h12] <;> simp)]
  refine g9 6 ?_
  refine W.qcall (pcount_fc cf cl cb cs cr (p := p) (k := k) (nk9 hp_p hk_p hm_p hr_p hok_p) (nk9 hp_k hk_k hm_k hr_k hok_k) i hq.hb hq.hr hq.hpv hq.hpm hq.hkm hq.hkr hi hq.hsz) rfl (g9 4 ?_)
  refine WC.cd (fun h29 p29 => ?_) (fun h29 p29 => ?_)
  ·refine g9 9 ?_
   refine congrArg (Value.int .i64) ?_
   exact (dec_pour (c := (⟨cf, cl, cb, cs, cr⟩ : Cfg)) (fun h => by rw [h20] at h; exact absurd h.2 (by simp)) (show 0 < countN cl cb p k i by omega)).symm
  refine g9 8 ?_
  refine WC.cd (fun h33 p33 => ?_) (fun h33 p33 => ?_)
  ·refine g9 9 ?_
   refine congrArg (Value.int .i64) ?_
   exact (dec_down (c := (⟨cf, cl, cb, cs, cr⟩ : Cfg)) (fun h => by rw [h20] at h; exact absurd h.2 (by simp)) (show ¬ 0 < countN cl cb p k i by omega) om9).symm
  refine g9 6 ?_
  refine W.qcall (needs_fc cf cl cb cs cr (p := p) (k := k) (nk9 hp_p hk_p hm_p hr_p hok_p) (nk9 hp_k hk_k hm_k hr_k hok_k) i hq.hb hq.hr hq.hpv hq.hpm hq.hkm hq.hkr hi hq.hsz) rfl (g9 3 ?_)
  refine WC.cond rfl (fun h39 => ?_) (fun h39 => ?_)
  ·have hwt : 0 < (forN p.pivots p.msgs i).length := (odt h39).2.1
   refine g9 10 ?_
   refine congrArg (Value.int .i64) ?_
   rw [dec_need (c := (⟨cf, cl, cb, cs, cr⟩ : Cfg)) (show ¬ 0 < countN cl cb p k i by omega) om9 hwt]
   rw [if_neg (by rw [h12] <;> simp)]
  have hwt : ¬ 0 < (forN p.pivots p.msgs i).length := fun hh => odf h39 ⟨hko, hh, om9⟩
  refine g9 10 ?_
  refine congrArg (Value.int .i64) ?_
  exact (dec_end (c := (⟨cf, cl, cb, cs, cr⟩ : Cfg)) (show ¬ 0 < countN cl cb p k i by omega) om9 hwt).symm
 refine g9 14 ?_
 refine W.qcall (pcount_fc cf cl cb cs cr (p := p) (k := k) (nk9 hp_p hk_p hm_p hr_p hok_p) (nk9 hp_k hk_k hm_k hr_k hok_k) i hq.hb hq.hr hq.hpv hq.hpm hq.hkm hq.hkr hi hq.hsz) rfl (g9 4 ?_)
 refine WC.cd (fun h29 p29 => ?_) (fun h29 p29 => ?_)
 ·refine g9 9 ?_
  refine congrArg (Value.int .i64) ?_
  exact (dec_pour (c := (⟨cf, cl, cb, cs, cr⟩ : Cfg)) (fun h => by omega) (show 0 < countN cl cb p k i by omega)).symm
 refine g9 8 ?_
 refine WC.cd (fun h33 p33 => ?_) (fun h33 p33 => ?_)
 ·refine g9 9 ?_
  refine congrArg (Value.int .i64) ?_
  exact (dec_down (c := (⟨cf, cl, cb, cs, cr⟩ : Cfg)) (fun h => by omega) (show ¬ 0 < countN cl cb p k i by omega) om9).symm
 refine g9 6 ?_
 refine W.qcall (needs_fc cf cl cb cs cr (p := p) (k := k) (nk9 hp_p hk_p hm_p hr_p hok_p) (nk9 hp_k hk_k hm_k hr_k hok_k) i hq.hb hq.hr hq.hpv hq.hpm hq.hkm hq.hkr hi hq.hsz) rfl (g9 3 ?_)
 refine WC.cond rfl (fun h39 => ?_) (fun h39 => ?_)
 ·have hwt : 0 < (forN p.pivots p.msgs i).length := (odt h39).2.1
  refine g9 10 ?_
  refine congrArg (Value.int .i64) ?_
  rw [dec_need (c := (⟨cf, cl, cb, cs, cr⟩ : Cfg)) (show ¬ 0 < countN cl cb p k i by omega) om9 hwt]
  rw [if_neg (by rw [h12] <;> simp)]
 have hwt : ¬ 0 < (forN p.pivots p.msgs i).length := fun hh => odf h39 ⟨hko, hh, om9⟩
 refine g9 10 ?_
 refine congrArg (Value.int .i64) ?_
 exact (dec_end (c := (⟨cf, cl, cb, cs, cr⟩ : Cfg)) (show ¬ 0 < countN cl cb p k i by omega) om9 hwt).symm

theorem rdecide_fc {G : GH} (cf : Int) (cl : Int) (cb : Int) (cs : Int) (cr : Int) {cs_p : List Value} {p : Nd} (h_p : NodeC G cs_p p) {cs_k : List Value} {k : Nd} (h_k : NodeC G cs_k k) (i : Int) (hq : PourPre cb p k) (hi : i64 i) (hko : KidOf p k i) (hms : MsgsR p.msgs) (hkl : p.kids.length = p.pivots.length + 1) :
    Fc Tryz.prog 35 [.agg #[iV cf, iV cl, iV cb, iV cs, iV cr], .agg (List.toArray cs_p), .agg (List.toArray cs_k), iV i] G [] (fun v _ _ => v = iV (decideN (⟨cf, cl, cb, cs, cr⟩ : Cfg) p k i)) := by
 obtain ⟨_, _, _, _, _, _, _, _, rfl, hp_p, hk_p, hm_p, hr_p, hok_p⟩ := h_p
 obtain ⟨_, _, _, _, _, _, _, _, rfl, hp_k, hk_k, hm_k, hr_k, hok_k⟩ := h_k
 have hpk : ∀ m ∈ p.msgs, m.key.b.size < 140737488355328 := fun m h => by have := (msgR_key (hq.hpm m h)).1; omega
 have hpn := pour_n cl cb p k i
 refine Fc.go [.tmp 8] Tryz.func35 Tryz.ntmps35 rfl (fun w0 => (g9 2 ?_))
 refine W.box (L := [iV _, iV _, iV _, iV _, iV _]) rfl rfl (fun b4 => (W.box (L := [iV _, iV _, lV _ _ _, lV _ _ _, sV _, .bool _, iV _, iV _, lV _ _ _, lV _ _ _]) rfl rfl (fun b5 => (W.box (L := [iV _, iV _, lV _ _ _, lV _ _ _, sV _, .bool _, iV _, iV _, lV _ _ _, lV _ _ _]) rfl rfl (fun b6 => (g9 9 ?_))))))
 refine W.cM (rpour_fc cf cl cb cs cr (p := p) (k := k) (nk9 hp_p hk_p hm_p hr_p hok_p) (nk9 hp_k hk_k hm_k hr_k hok_k) i hq.hb hq.hr hq.hpv hq.hpm hq.hkm hq.hkr hi hq.hsz hms hkl) rfl (fun _ _ _ _ _ _ _ _ _ _ _ _ _ _ _ _ G7 hG7 hp_hv8 hk_hv8 hm_hv8 hr_hv8 hok_hv8 hp_hv9 hk_hv9 hm_hv9 hr_hv9 hok_hv9 => (g9 4 ?_))
 refine W.alloc zr53 (fun b16 => (W.alloc zr53 (fun b17 => (g9 12 ?_))))
 refine W.cS (rfor_fc (hp_p.mono hG7) (hm_p.mono hG7) i hpk hi) rfl (fun sa_hv19 sc_hv19 G18 hG18 hv19 => (g9 15 ?_))
 refine W.qcall (rfull_fc cf cl cb cs cr (n := p) (nm9 lec hp_p hk_p hm_p hr_p hok_p)) rfl (g9 2 ?_)
 refine WC.cond rfl (fun h33 => ?_) (fun h33 => ?_)
 ·refine g9 11 ?_
  refine W.sd 37 (fun h36 p36 => ?_) (fun h36 p36 => ?_)
  ·refine g9 5 ?_
   refine W.qcall (rfull_fc cf cl cb cs cr (n := k) (nm9 lec hp_k hk_k hm_k hr_k hok_k)) rfl (g9 3 ?_)
   refine WC.cond rfl (fun h40 => ?_) (fun h40 => ?_)
   ·refine g9 9 ?_
    refine congrArg (Value.int .i64) ?_
    rw [dec_full (c := (⟨cf, cl, cb, cs, cr⟩ : Cfg)) om9 h40]
    rw [if_pos h33]
   refine g9 9 ?_
   refine WC.cd (fun h44 p44 => ?_) (fun h44 p44 => ?_)
   ·refine g9 8 ?_
    refine congrArg (Value.int .i64) ?_
    exact (dec_pour (c := (⟨cf, cl, cb, cs, cr⟩ : Cfg)) (fun h => by rw [h40] at h; exact absurd h.2 (by simp)) (show 0 < countN cl cb p k i by omega)).symm
   refine g9 10 ?_
   refine WC.cd (fun h47 p47 => ?_) (fun h47 p47 => ?_)
   ·refine g9 8 ?_
    refine congrArg (Value.int .i64) ?_
    exact (dec_down (c := (⟨cf, cl, cb, cs, cr⟩ : Cfg)) (fun h => by rw [h40] at h; exact absurd h.2 (by simp)) (show ¬ 0 < countN cl cb p k i by omega) om9).symm
   refine g9 8 ?_
   refine WC.cd (fun h30 p30 => ?_) (fun h30 p30 => ?_)
   ·have hwt : 0 < (forN p.pivots p.msgs i).length := by omega
    refine g9 9 ?_
    refine congrArg (Value.int .i64) ?_
    rw [dec_need (c := (⟨cf, cl, cb, cs, cr⟩ : Cfg)) (show ¬ 0 < countN cl cb p k i by omega) om9 hwt]
    rw [if_pos h33]
   have hwt : ¬ 0 < (forN p.pivots p.msgs i).length := by omega
   refine g9 9 ?_
   refine congrArg (Value.int .i64) ?_
   exact (dec_end (c := (⟨cf, cl, cb, cs, cr⟩ : Cfg)) (show ¬ 0 < countN cl cb p k i by omega) om9 hwt).symm
  refine g9 16 ?_
  refine WC.cd (fun h44 p44 => ?_) (fun h44 p44 => ?_)
  ·refine g9 8 ?_
   refine congrArg (Value.int .i64) ?_
   exact (dec_pour (c := (⟨cf, cl, cb, cs, cr⟩ : Cfg)) (fun h => by omega) (show 0 < countN cl cb p k i by omega)).symm
  refine g9 10 ?_
  refine WC.cd (fun h47 p47 => ?_) (fun h47 p47 => ?_)
  ·refine g9 8 ?_
   refine congrArg (Value.int .i64) ?_
   exact (dec_down (c := (⟨cf, cl, cb, cs, cr⟩ : Cfg)) (fun h => by omega) (show ¬ 0 < countN cl cb p k i by omega) om9).symm
  refine g9 8 ?_
  refine WC.cd (fun h30 p30 => ?_) (fun h30 p30 => ?_)
  ·have hwt : 0 < (forN p.pivots p.msgs i).length := by omega
   refine g9 9 ?_
   refine congrArg (Value.int .i64) ?_
   rw [dec_need (c := (⟨cf, cl, cb, cs, cr⟩ : Cfg)) (show ¬ 0 < countN cl cb p k i by omega) om9 hwt]
   rw [if_pos h33]
  have hwt : ¬ 0 < (forN p.pivots p.msgs i).length := by omega
  refine g9 9 ?_
  refine congrArg (Value.int .i64) ?_
  exact (dec_end (c := (⟨cf, cl, cb, cs, cr⟩ : Cfg)) (show ¬ 0 < countN cl cb p k i by omega) om9 hwt).symm
 refine g9 9 ?_
 refine W.sd 37 (fun h36 p36 => ?_) (fun h36 p36 => ?_)
 ·refine g9 5 ?_
  refine W.qcall (rfull_fc cf cl cb cs cr (n := k) (nm9 lec hp_k hk_k hm_k hr_k hok_k)) rfl (g9 3 ?_)
  refine WC.cond rfl (fun h40 => ?_) (fun h40 => ?_)
  ·refine g9 9 ?_
   refine congrArg (Value.int .i64) ?_
   rw [dec_full (c := (⟨cf, cl, cb, cs, cr⟩ : Cfg)) om9 h40]
   rw [if_neg (by rw [h33] <;> simp)]
  refine g9 9 ?_
  refine WC.cd (fun h44 p44 => ?_) (fun h44 p44 => ?_)
  ·refine g9 8 ?_
   refine congrArg (Value.int .i64) ?_
   exact (dec_pour (c := (⟨cf, cl, cb, cs, cr⟩ : Cfg)) (fun h => by rw [h40] at h; exact absurd h.2 (by simp)) (show 0 < countN cl cb p k i by omega)).symm
  refine g9 10 ?_
  refine WC.cd (fun h47 p47 => ?_) (fun h47 p47 => ?_)
  ·refine g9 8 ?_
   refine congrArg (Value.int .i64) ?_
   exact (dec_down (c := (⟨cf, cl, cb, cs, cr⟩ : Cfg)) (fun h => by rw [h40] at h; exact absurd h.2 (by simp)) (show ¬ 0 < countN cl cb p k i by omega) om9).symm
  refine g9 8 ?_
  refine WC.cd (fun h30 p30 => ?_) (fun h30 p30 => ?_)
  ·have hwt : 0 < (forN p.pivots p.msgs i).length := by omega
   refine g9 9 ?_
   refine congrArg (Value.int .i64) ?_
   rw [dec_need (c := (⟨cf, cl, cb, cs, cr⟩ : Cfg)) (show ¬ 0 < countN cl cb p k i by omega) om9 hwt]
   rw [if_neg (by rw [h33] <;> simp)]
  have hwt : ¬ 0 < (forN p.pivots p.msgs i).length := by omega
  refine g9 9 ?_
  refine congrArg (Value.int .i64) ?_
  exact (dec_end (c := (⟨cf, cl, cb, cs, cr⟩ : Cfg)) (show ¬ 0 < countN cl cb p k i by omega) om9 hwt).symm
 refine g9 16 ?_
 refine WC.cd (fun h44 p44 => ?_) (fun h44 p44 => ?_)
 ·refine g9 8 ?_
  refine congrArg (Value.int .i64) ?_
  exact (dec_pour (c := (⟨cf, cl, cb, cs, cr⟩ : Cfg)) (fun h => by omega) (show 0 < countN cl cb p k i by omega)).symm
 refine g9 10 ?_
 refine WC.cd (fun h47 p47 => ?_) (fun h47 p47 => ?_)
 ·refine g9 8 ?_
  refine congrArg (Value.int .i64) ?_
  exact (dec_down (c := (⟨cf, cl, cb, cs, cr⟩ : Cfg)) (fun h => by omega) (show ¬ 0 < countN cl cb p k i by omega) om9).symm
 refine g9 8 ?_
 refine WC.cd (fun h30 p30 => ?_) (fun h30 p30 => ?_)
 ·have hwt : 0 < (forN p.pivots p.msgs i).length := by omega
  refine g9 9 ?_
  refine congrArg (Value.int .i64) ?_
  rw [dec_need (c := (⟨cf, cl, cb, cs, cr⟩ : Cfg)) (show ¬ 0 < countN cl cb p k i by omega) om9 hwt]
  rw [if_neg (by rw [h33] <;> simp)]
 have hwt : ¬ 0 < (forN p.pivots p.msgs i).length := by omega
 refine g9 9 ?_
 refine congrArg (Value.int .i64) ?_
 exact (dec_end (c := (⟨cf, cl, cb, cs, cr⟩ : Cfg)) (show ¬ 0 < countN cl cb p k i by omega) om9 hwt).symm

theorem mk156 : mapIK Tryz.prog 156 = some 4 := by kernel_rfl
theorem mz4 : zvK Tryz.prog 4 = some (.bool false) := by kernel_rfl

theorem pour_fc {G : GH} (cf : Int) (cl : Int) (cb : Int) (cs : Int) (cr : Int) {cs_p : List Value} {p : Nd} (h_p : NodeC G cs_p p) {cs_k : List Value} {k : Nd} (h_k : NodeC G cs_k k) (i : Int) (hb : 0 ≤ cb ∧ cb ≤ 9223372036854775807) (hr : rising p.pivots = true) (hpv : ∀ q ∈ p.pivots, q.b.size ≤ 16) (hpm : ∀ m ∈ p.msgs, m.R) (hkm : ∀ m ∈ k.msgs, m.key.b.size ≤ 16 ∧ m.val.b.size ≤ 16) (hkr : PairsR k.rows) (hi : i64 i) (hsz : k.msgs.length + p.msgs.length ≤ 100000 ∧ k.rows.length ≤ 100000) :
    Fc Tryz.prog 68 [.agg #[iV cf, iV cl, iV cb, iV cs, iV cr], .agg (List.toArray cs_p), .agg (List.toArray cs_k), iV i] G [] (fun v G' M' => M' = [] ∧ ∃ r : Nd × Nd × Nat, r = pourN cl cb p k i ∧ ∃ u0 u1, v = .tuple #[.agg (List.toArray u0), .agg (List.toArray u1), nt9 r.2.2] ∧ NodeC G' u0 (r.1) ∧ NodeC G' u1 (r.2.1)) := by
 obtain ⟨pa_p, pc_p, ka_p, kc_p, ma_p, mc_p, ra_p, rc_p, rfl, hp_p, hk_p, hm_p, hr_p, hok_p⟩ := h_p
 obtain ⟨pa_k, pc_k, ka_k, kc_k, ma_k, mc_k, ra_k, rc_k, rfl, hp_k, hk_k, hm_k, hr_k, hok_k⟩ := h_k
 have hpk : ∀ m ∈ p.msgs, m.key.b.size < 140737488355328 := fun m h => by have := (msgR_key (hpm m h)).1; omega
 have hlm := hm_p.len47
 have hfl := for_len p.pivots p.msgs i
 have htl : ((forN p.pivots p.msgs i).take (movedN cl cb k (forN p.pivots p.msgs i)).2).length ≤ (forN p.pivots p.msgs i).length := by rw [List.length_take]; omega
 refine Fc.go [.cell 8 53, .cell 9 53, .tmp 10] Tryz.func68 Tryz.ntmps68 rfl (fun w0 => (g9 2 ?_))
 refine W.box (L := [iV _, iV _, iV _, iV _, iV _]) rfl rfl (fun b1 => (W.box (L := [iV _, iV _, lV _ _ _, lV _ _ _, sV _, .bool _, iV _, iV _, lV _ _ _, lV _ _ _]) rfl rfl (fun b2 => (W.box (L := [iV _, iV _, lV _ _ _, lV _ _ _, sV _, .bool _, iV _, iV _, lV _ _ _, lV _ _ _]) rfl rfl (fun b3 => (W.alloc zr53 (fun b4 => (W.alloc zr53 (fun b5 => (g9 9 ?_))))))))))
 refine W.qcall (pright_fc (p := p) (k := k) (nk9 hp_p hk_p hm_p hr_p hok_p) (nk9 hp_k hk_k hm_k hr_k hok_k) i) rfl (g9 3 ?_)
 refine WC.cond rfl (fun h24 => ?_) (fun h24 => ?_)
 ·refine WC.seq (WC.dw ((((sr9.k9.k9).k9).cons _).cons _) (d9 [0, 2] ?_))
  refine WD.a1 1 rfl (W.cN (ncopy_fc (a := p) (nk9 hp_p hk_p hm_p hr_p hok_p)) rfl (fun _ _ _ _ _ _ _ _ G6 hG6 hp_hv7 hk_hv7 hm_hv7 hr_hv7 hok_hv7 => (W.nn (WD.a1 3 rfl (W.cN (ncopy_fc (a := k) (nm9 hG6 hp_k hk_k hm_k hr_k hok_k)) rfl (fun _ _ _ _ _ _ _ _ G12 hG12 hp_hv13 hk_hv13 hm_hv13 hr_hv13 hok_hv13 => (W.nn (d9 [4, 5, 6] ?_))))))))
  refine g9 5 ?_
  refine ⟨rfl, _, (pour_f0 (by simpa using h24)).symm, _, _, rfl, ?_, ?_⟩
  · exact (nm9 hG12 hp_hv7 hk_hv7 hm_hv7 hr_hv7 hok_p)
  exact (nk9 hp_hv13 hk_hv13 hm_hv13 hr_hv13 hok_k)
 have hko : KidOf p k i := by simpa using h24
 refine g9 8 ?_
 refine W.call (Mp := []) (moved_fc cf cl cb cs cr (p := p) (k := k) (nk9 hp_p hk_p hm_p hr_p hok_p) (nk9 hp_k hk_k hm_k hr_k hok_k) i hb hr hpv hpm hkm hkr hi hsz) rfl pr9 ?_
 intro _ G18 _ hG18 q21
 refine match q21 with | ⟨e_22, _, e_23, _, _, e_24, hv19, hv20⟩ => ?_
 subst e_22
 subst e_23
 subst e_24
 refine match hv19 with | ⟨pa_hv19, pc_hv19, ka_hv19, kc_hv19, ma_hv19, mc_hv19, ra_hv19, rc_hv19, e_25, hp_hv19, hk_hv19, hm_hv19, hr_hv19, hok_hv19⟩ => ?_
 subst e_25
 have q27 := hv20.form
 refine match q27 with | ⟨sa_hv20, sc_hv20, e_26⟩ => ?_
 subst e_26
 refine g9 3 ?_
 refine W.alloc zr53 (fun b28 => (g9 12 ?_))
 refine WC.cd (fun h39 p39 => ?_) (fun h39 p39 => ?_)
 ·refine WC.seq (WC.dw (((((sr9.k9.k9).k9).cons _).cons _).k9) (d9 [0, 2] ?_))
  refine WD.a1 1 rfl (W.cN (ncopy_fc (a := p) (nm9 hG18 hp_p hk_p hm_p hr_p hok_p)) rfl (fun _ _ _ _ _ _ _ _ G29 hG29 hp_hv30 hk_hv30 hm_hv30 hr_hv30 hok_hv30 => (W.nn (WD.a1 3 rfl (W.cN (ncopy_fc (a := k) (nm9 lec hp_k hk_k hm_k hr_k hok_k)) rfl (fun _ _ _ _ _ _ _ _ G35 hG35 hp_hv36 hk_hv36 hm_hv36 hr_hv36 hok_hv36 => (W.nn (d9 [4, 5, 6] ?_))))))))
  refine g9 5 ?_
  refine ⟨rfl, _, (pour_f1 hko om9).symm, _, _, rfl, ?_, ?_⟩
  · exact (nm9 hG35 hp_hv30 hk_hv30 hm_hv30 hr_hv30 hok_p)
  exact (nk9 hp_hv36 hk_hv36 hm_hv36 hr_hv36 hok_k)
 refine g9 4 ?_
 refine W.makeMap (V := vBool) (fun bm41 hm42 => (W.perm (pmC (Ms := [(bm41, Obj.map #[] 0)]) (pmC (Ms := [(bm41, Obj.map #[] 0)]) (pmC (Ms := [(bm41, Obj.map #[] 0)]) (pmC (Ms := [(bm41, Obj.map #[] 0)]) (pmC (Ms := [(bm41, Obj.map #[] 0)]) (pmC (Ms := [(bm41, Obj.map #[] 0)]) pr9)))))).symm (g9 12 ?_)))
 refine WC.loop (X := (Nat) × MH) (fun y => [(47, nt9 y.1), (5, pt9 b2), (8, pt9 b4), (9, pt9 b5), (11, pt9 b28), (3, iV i), (12, lV sa_hv20 (((forN p.pivots p.msgs i).take (movedN cl cb k (forN p.pivots p.msgs i)).2)).length sc_hv20), (45, lV sa_hv20 (((forN p.pivots p.msgs i).take (movedN cl cb k (forN p.pivots p.msgs i)).2)).length sc_hv20), (46, nt9 ((((forN p.pivots p.msgs i).take (movedN cl cb k (forN p.pivots p.msgs i)).2)).length)), (13, .map (some bm41))]) (fun y G Ml => Ml = ((b28, ce9 53 (ndl ((movedN cl cb k (forN p.pivots p.msgs i)).1) pa_hv19 pc_hv19 ka_hv19 kc_hv19 ma_hv19 mc_hv19 ra_hv19 rc_hv19)) :: ((b5, ce9 53 nz9) :: ((b4, ce9 53 nz9) :: ((b3, ce9 53 (ndl k pa_k pc_k ka_k kc_k ma_k mc_k ra_k rc_k)) :: ((b2, ce9 53 (ndl p pa_p pc_p ka_p kc_p ma_p mc_p ra_p rc_p)) :: ((b1, ce9 23 [iV cf, iV cl, iV cb, iV cs, iV cr]) :: (y.2 ++ []))))))) ∧ MpR vBool bm41 G ((goneN (((forN p.pivots p.msgs i).take (movedN cl cb k (forN p.pivots p.msgs i)).2).take y.1))) y.2 ∧ y.1 ≤ ((forN p.pivots p.msgs i).take (movedN cl cb k (forN p.pivots p.msgs i)).2).length) (fun y => ((forN p.pivots p.msgs i).take (movedN cl cb k (forN p.pivots p.msgs i)).2).length - y.1) (0, [(bm41, Obj.map #[] 0)]) hs9 ?_ ?_
 ·exact ⟨rfl, (by exact hm42), Nat.zero_le _⟩
 rintro ⟨y, M_13⟩ gG43 G43 _ hG43 ⟨rfl, ho_13, hy⟩
 try dsimp only at ho_13 hy
 refine WC.fr (f := setL gG43 [(47, nt9 y), (5, pt9 b2), (8, pt9 b4), (9, pt9 b5), (11, pt9 b28), (3, iV i), (12, lV sa_hv20 (((forN p.pivots p.msgs i).take (movedN cl cb k (forN p.pivots p.msgs i)).2)).length sc_hv20), (45, lV sa_hv20 (((forN p.pivots p.msgs i).take (movedN cl cb k (forN p.pivots p.msgs i)).2)).length sc_hv20), (46, nt9 ((((forN p.pivots p.msgs i).take (movedN cl cb k (forN p.pivots p.msgs i)).2)).length)), (13, .map (some bm41))]) rfl (g9 6 ?_)
 refine WC.cd (fun h48 p48 => ?_) (fun h48 p48 => ?_)
 ·refine g9 6 ?_
  refine (hv20.mono hG43).a2 (i := y) om9 (fun he44 hm45 => (g9 2 ?_))
  refine W.alloc zr90 (fun b49 => (g9 7 ?_))
  refine W.mapUp (V := vBool) (k := ((((forN p.pivots p.msgs i).take (movedN cl cb k (forN p.pivots p.msgs i)).2))[y]).stamp) mk156 rfl rfl rfl ho_13 (pmC (pmC (pmC (pmC (pmC (pmC (pmC pr9))))))) rfl (fun Ms50 hm51 => (W.perm (pmC (pmC (pmC (pmC (pmC (pmC (pmC pr9))))))).symm (g9 6 ?_)))
  refine W.sub (sr9.cons _) (g9 2 ?_)
  exact ⟨Le.rfl, (y + 1, Ms50), hs9, ⟨rfl, (by rw [gone_succ om9]; exact hm51), om9⟩, om9⟩
 refine g9 6 ?_
 have hm52 := ho_13
 rw [List.take_of_length_le (by omega : ((forN p.pivots p.msgs i).take (movedN cl cb k (forN p.pivots p.msgs i)).2).length ≤ y)] at hm52
 refine g9 2 ?_
 refine W.cN (ncopy_fc (a := p) (nm9 lec hp_p hk_p hm_p hr_p hok_p)) rfl (fun pa_hv54 pc_hv54 ka_hv54 kc_hv54 _ _ ra_hv54 rc_hv54 G53 hG53 hp_hv54 hk_hv54 hm_hv54 hr_hv54 hok_hv54 => (W.alloc zr53 (fun b59 => (g9 19 ?_))))
 have hN60 : NmR 53 90 b59 G53 ({ p with msgs := [] }) ((b59, ce9 53 [iV (p).slot, iV (p).level, lV pa_hv54 ((p).pivots).length pc_hv54, lV ka_hv54 ((p).kids).length kc_hv54, sV (p).high.b, .bool (p).top, iV (p).right, iV (p).seen, lV none 0 0, lV ra_hv54 ((p).rows).length rc_hv54]) :: []) := ⟨_, _, _, _, _, _, _, _, rfl, hp_hv54, hk_hv54, OwnR.nil, hr_hv54, hok_p⟩
 have hN60 := NmR.cast hN60 (n' := { p with msgs := restN p.pivots i ((forN p.pivots p.msgs i).take (movedN cl cb k (forN p.pivots p.msgs i)).2) (p.msgs.take 0) }) rfl
 refine WC.perm (M' := ((b28, ce9 53 (ndl ((movedN cl cb k (forN p.pivots p.msgs i)).1) pa_hv19 pc_hv19 ka_hv19 kc_hv19 ma_hv19 mc_hv19 ra_hv19 rc_hv19)) :: ((b5, ce9 53 nz9) :: ((b4, ce9 53 nz9) :: ((b3, ce9 53 (ndl k pa_k pc_k ka_k kc_k ma_k mc_k ra_k rc_k)) :: ((b2, ce9 53 (ndl p pa_p pc_p ka_p kc_p ma_p mc_p ra_p rc_p)) :: ((b1, ce9 23 [iV cf, iV cl, iV cb, iV cs, iV cr]) :: (((b59, ce9 53 [iV (p).slot, iV (p).level, lV pa_hv54 ((p).pivots).length pc_hv54, lV ka_hv54 ((p).kids).length kc_hv54, sV (p).high.b, .bool (p).top, iV (p).right, iV (p).seen, lV none 0 0, lV ra_hv54 ((p).rows).length rc_hv54]) :: []) ++ (M_13 ++ []))))))))) ((pmC (pmC (pmC (pmC (pmC (pmC pr9)))))).symm.trans pr9) ?_
 refine WC.loop (X := (Nat) × MH) (fun q => [(61, nt9 q.1), (13, .map (some bm41)), (5, pt9 b2), (8, pt9 b4), (9, pt9 b5), (11, pt9 b28), (3, iV i), (12, lV sa_hv20 (((forN p.pivots p.msgs i).take (movedN cl cb k (forN p.pivots p.msgs i)).2)).length sc_hv20), (59, lV ma_p p.msgs.length mc_p), (60, nt9 ((p.msgs).length)), (16, pt9 b59)]) (fun q G Ml => Ml = ((b28, ce9 53 (ndl ((movedN cl cb k (forN p.pivots p.msgs i)).1) pa_hv19 pc_hv19 ka_hv19 kc_hv19 ma_hv19 mc_hv19 ra_hv19 rc_hv19)) :: ((b5, ce9 53 nz9) :: ((b4, ce9 53 nz9) :: ((b3, ce9 53 (ndl k pa_k pc_k ka_k kc_k ma_k mc_k ra_k rc_k)) :: ((b2, ce9 53 (ndl p pa_p pc_p ka_p kc_p ma_p mc_p ra_p rc_p)) :: ((b1, ce9 23 [iV cf, iV cl, iV cb, iV cs, iV cr]) :: (q.2 ++ (M_13 ++ [])))))))) ∧ NmR 53 90 b59 G ({ p with msgs := restN p.pivots i ((forN p.pivots p.msgs i).take (movedN cl cb k (forN p.pivots p.msgs i)).2) (p.msgs.take q.1) }) q.2 ∧ q.1 ≤ p.msgs.length) (fun q => p.msgs.length - q.1) (0, ((b59, ce9 53 [iV (p).slot, iV (p).level, lV pa_hv54 ((p).pivots).length pc_hv54, lV ka_hv54 ((p).kids).length kc_hv54, sV (p).high.b, .bool (p).top, iV (p).right, iV (p).seen, lV none 0 0, lV ra_hv54 ((p).rows).length rc_hv54]) :: [])) hs9 ?_ ?_
 ·exact ⟨rfl, (by exact hN60), Nat.zero_le _⟩
 rintro ⟨q, M_16⟩ gG61 G61 _ hG61 ⟨rfl, ho_16, hq⟩
 try dsimp only at ho_16 hq
 have hrl := rest_len p.pivots i ((forN p.pivots p.msgs i).take (movedN cl cb k (forN p.pivots p.msgs i)).2) p.msgs q
 refine WC.fr (f := setL gG61 [(61, nt9 q), (13, .map (some bm41)), (5, pt9 b2), (8, pt9 b4), (9, pt9 b5), (11, pt9 b28), (3, iV i), (12, lV sa_hv20 (((forN p.pivots p.msgs i).take (movedN cl cb k (forN p.pivots p.msgs i)).2)).length sc_hv20), (59, lV ma_p p.msgs.length mc_p), (60, nt9 ((p.msgs).length)), (16, pt9 b59)]) rfl (g9 6 ?_)
 refine WC.cd (fun h62 p62 => ?_) (fun h62 p62 => ?_)
 ·refine g9 6 ?_
  refine (hm_p.mono (((hG18.trans hG43).trans hG53).trans hG61)).a2 (i := q) om9 (fun he62 hm63 => (g9 2 ?_))
  refine W.alloc zr90 (fun b67 => (g9 8 ?_))
  refine W.lookO (V := vBool) mk156 mz4 rfl rfl rfl (MpR.mono lec hm52) (pmC (pmC (pmC (pmC (pmC (pmC (pmC (pmA pr9)))))))) (fun v68 hv69 => ?_)
  have ehv69 := hv69
  subst ehv69
  refine g9 10 ?_
  refine W.sp 72 rfl (fun h71 => ?_) (fun h71 => ?_)
  ·have hg : (p.msgs[q]'om9).stamp ∈ ((forN p.pivots p.msgs i).take (movedN cl cb k (forN p.pivots p.msgs i)).2).map Msg.stamp := by have h9 := h71; rw [gone_has] at h9; simpa using h9
   refine g9 9 ?_
   refine WC.cd (fun h75 p75 => ?_) (fun h75 p75 => ?_)
   ·refine WC.dw ((((((sr9.k9.k9).k9).k9).k9).k9).cons _) (d9 [1, 2, 3] ?_)
    refine WD.any [0, 4] (by kernel_rfl) rfl ⟨WD.ap ?_, WD.ap ?_, trivial⟩
    ·refine g9 1 ?_
     refine W.nn (WD.a1 4 rfl (W.qcall (brange_fc (hp_p.mono lec) _ hi) rfl (W.nn (WD.a1 5 rfl (W.qcall (without_fc _ _ _ _ _ _ _ _ _ (hpk _ (List.getElem_mem (by omega : q < p.msgs.length)))) rfl (W.nn (d9 [6, 7, 8, 9, 10] ?_)))))))
     refine g9 7 ?_
     refine WC.cond rfl (fun h83_1 => ?_) (fun h83_1 => ?_)
     ·obtain ⟨pau70, pcu70, kau70, kcu70, vmu70, rau70, rcu70, Mmu70, eMu70, hpu70, hku70, hmu70, hru70, hoku70⟩ := ho_16
      subst eMu70
      have hfu70 := hmu70.form
      refine match hfu70 with | ⟨mau70, mcu70, e_71⟩ => ?_
      subst e_71
      dsimp only at hpu70 hku70 hmu70 hru70
      refine WC.perm (M' := ((b59, ce9 53 [iV p.slot, iV p.level, lV pau70 p.pivots.length pcu70, lV kau70 p.kids.length kcu70, sV p.high.b, .bool p.top, iV p.right, iV p.seen, lV mau70 (restN p.pivots i ((forN p.pivots p.msgs i).take (movedN cl cb k (forN p.pivots p.msgs i)).2) (p.msgs.take q)).length mcu70, lV rau70 p.rows.length rcu70]) :: ((b67, ce9 90 [iV ((withoutN (p.msgs[q]'om9) (rangeN p.pivots i)).1.stamp), iV ((withoutN (p.msgs[q]'om9) (rangeN p.pivots i)).1.kind), sV ((withoutN (p.msgs[q]'om9) (rangeN p.pivots i)).1.key).b, sV ((withoutN (p.msgs[q]'om9) (rangeN p.pivots i)).1.hi).b, .bool ((withoutN (p.msgs[q]'om9) (rangeN p.pivots i)).1.opn), sV ((withoutN (p.msgs[q]'om9) (rangeN p.pivots i)).1.val).b]) :: ((b28, ce9 53 (ndl ((movedN cl cb k (forN p.pivots p.msgs i)).1) pa_hv19 pc_hv19 ka_hv19 kc_hv19 ma_hv19 mc_hv19 ra_hv19 rc_hv19)) :: ((b5, ce9 53 nz9) :: ((b4, ce9 53 nz9) :: ((b3, ce9 53 (ndl k pa_k pc_k ka_k kc_k ma_k mc_k ra_k rc_k)) :: ((b2, ce9 53 (ndl p pa_p pc_p ka_p kc_p ma_p mc_p ra_p rc_p)) :: ((b1, ce9 23 [iV cf, iV cl, iV cb, iV cs, iV cr]) :: (Mmu70 ++ (M_13 ++ []))))))))))) (pmD (pmD (pmD (pmD (pmD (pmD (pmD pr9))))))).symm (g9 4 ?_)
      refine W.lit (e := eMsg) (l := [(withoutN (p.msgs[q]'om9) (rangeN p.pivots i)).1]) (css := [[iV _, iV _, sV _, sV _, .bool _, sV _]]) sl51 ty90 zr90 rfl rfl rfl rfl rfl rfl ⟨⟨rfl, without_ok hm63⟩, trivial⟩ (fun bl72 G72 hG72 hv72 => (W.app (e := eMsg) sl51 ty90 zr90 rfl by90 rfl rfl ((hmu70.mono hG72)) (hv72) (pmC (pmC (pmC (pmC (pmC (pmC (pmC (pmC pr9)))))))) (by show (List.length _ + 1) * 72 ≤ _; omega) (fun v73 Ms74 ho75 => (W.perm (pmC (pmC (pmC (pmC (pmC (pmC (pmC (pmC pr9)))))))).symm ?_))))
      have q79 := ho75.form
      refine match q79 with | ⟨sa76, sc77, e_78⟩ => ?_
      subst e_78
      refine g9 5 ?_
      have hN80 : NmR 53 90 b59 G72 ({ p with msgs := (restN p.pivots i ((forN p.pivots p.msgs i).take (movedN cl cb k (forN p.pivots p.msgs i)).2) (p.msgs.take q) ++ [(withoutN (p.msgs[q]'om9) (rangeN p.pivots i)).1]) }) ((b59, ce9 53 [iV p.slot, iV p.level, lV pau70 p.pivots.length pcu70, lV kau70 p.kids.length kcu70, sV p.high.b, .bool p.top, iV p.right, iV p.seen, lV sa76 ((restN p.pivots i ((forN p.pivots p.msgs i).take (movedN cl cb k (forN p.pivots p.msgs i)).2) (p.msgs.take q) ++ [(withoutN (p.msgs[q]'om9) (rangeN p.pivots i)).1])).length sc77, lV rau70 p.rows.length rcu70]) :: Ms74) := ⟨_, _, _, _, _, _, _, _, rfl, (hpu70.mono hG72), (hku70.mono hG72), ho75, (hru70.mono hG72), hok_p⟩
      have hN80 := NmR.cast hN80 (restN_t om9 (left_w hg p75 h83_1))
      refine WC.perm (M' := ((b67, ce9 90 [iV ((withoutN (p.msgs[q]'om9) (rangeN p.pivots i)).1.stamp), iV ((withoutN (p.msgs[q]'om9) (rangeN p.pivots i)).1.kind), sV ((withoutN (p.msgs[q]'om9) (rangeN p.pivots i)).1.key).b, sV ((withoutN (p.msgs[q]'om9) (rangeN p.pivots i)).1.hi).b, .bool ((withoutN (p.msgs[q]'om9) (rangeN p.pivots i)).1.opn), sV ((withoutN (p.msgs[q]'om9) (rangeN p.pivots i)).1.val).b]) :: ((b28, ce9 53 (ndl ((movedN cl cb k (forN p.pivots p.msgs i)).1) pa_hv19 pc_hv19 ka_hv19 kc_hv19 ma_hv19 mc_hv19 ra_hv19 rc_hv19)) :: ((b5, ce9 53 nz9) :: ((b4, ce9 53 nz9) :: ((b3, ce9 53 (ndl k pa_k pc_k ka_k kc_k ma_k mc_k ra_k rc_k)) :: ((b2, ce9 53 (ndl p pa_p pc_p ka_p kc_p ma_p mc_p ra_p rc_p)) :: ((b1, ce9 23 [iV cf, iV cl, iV cb, iV cs, iV cr]) :: (((b59, ce9 53 [iV p.slot, iV p.level, lV pau70 p.pivots.length pcu70, lV kau70 p.kids.length kcu70, sV p.high.b, .bool p.top, iV p.right, iV p.seen, lV sa76 ((restN p.pivots i ((forN p.pivots p.msgs i).take (movedN cl cb k (forN p.pivots p.msgs i)).2) (p.msgs.take q) ++ [(withoutN (p.msgs[q]'om9) (rangeN p.pivots i)).1])).length sc77, lV rau70 p.rows.length rcu70]) :: Ms74) ++ (M_13 ++ [])))))))))) ((pmC (pmC (pmC (pmC (pmC (pmC (pmC pr9))))))).symm.trans (((pmC (pmC (pmC (pmC (pmC (pmC (pmC pr9))))))).cons _).trans pr9)) (g9 3 ?_)
      refine W.sub (sr9.cons _) (g9 2 ?_)
      exact ⟨hG72, (q + 1, ((b59, ce9 53 [iV p.slot, iV p.level, lV pau70 p.pivots.length pcu70, lV kau70 p.kids.length kcu70, sV p.high.b, .bool p.top, iV p.right, iV p.seen, lV sa76 ((restN p.pivots i ((forN p.pivots p.msgs i).take (movedN cl cb k (forN p.pivots p.msgs i)).2) (p.msgs.take q) ++ [(withoutN (p.msgs[q]'om9) (rangeN p.pivots i)).1])).length sc77, lV rau70 p.rows.length rcu70]) :: Ms74)), hs9, ⟨rfl, (by exact hN80), om9⟩, om9⟩
     refine g9 6 ?_
     refine W.sub (sr9.cons _) (g9 2 ?_)
     exact ⟨Le.rfl, (q + 1, M_16), hs9, ⟨rfl, (by exact NmR.cast ho_16 (restN_f om9 (left_n hg (fun hh => absurd (h83_1.symm.trans hh.2) (by simp))))), om9⟩, om9⟩
    refine W.qcall (brange_fc (hp_p.mono lec) _ hi) rfl (W.nn (WD.a1 0 rfl (g9 1 ?_)))
    refine W.nn (WD.a1 5 rfl (W.qcall (without_fc _ _ _ _ _ _ _ _ _ (hpk _ (List.getElem_mem (by omega : q < p.msgs.length)))) rfl (W.nn (d9 [6, 7, 8, 9, 10] ?_))))
    refine g9 7 ?_
    refine WC.cond rfl (fun h83_1 => ?_) (fun h83_1 => ?_)
    ·obtain ⟨pau81, pcu81, kau81, kcu81, vmu81, rau81, rcu81, Mmu81, eMu81, hpu81, hku81, hmu81, hru81, hoku81⟩ := ho_16
     subst eMu81
     have hfu81 := hmu81.form
     refine match hfu81 with | ⟨mau81, mcu81, e_82⟩ => ?_
     subst e_82
     dsimp only at hpu81 hku81 hmu81 hru81
     refine WC.perm (M' := ((b59, ce9 53 [iV p.slot, iV p.level, lV pau81 p.pivots.length pcu81, lV kau81 p.kids.length kcu81, sV p.high.b, .bool p.top, iV p.right, iV p.seen, lV mau81 (restN p.pivots i ((forN p.pivots p.msgs i).take (movedN cl cb k (forN p.pivots p.msgs i)).2) (p.msgs.take q)).length mcu81, lV rau81 p.rows.length rcu81]) :: ((b67, ce9 90 [iV ((withoutN (p.msgs[q]'om9) (rangeN p.pivots i)).1.stamp), iV ((withoutN (p.msgs[q]'om9) (rangeN p.pivots i)).1.kind), sV ((withoutN (p.msgs[q]'om9) (rangeN p.pivots i)).1.key).b, sV ((withoutN (p.msgs[q]'om9) (rangeN p.pivots i)).1.hi).b, .bool ((withoutN (p.msgs[q]'om9) (rangeN p.pivots i)).1.opn), sV ((withoutN (p.msgs[q]'om9) (rangeN p.pivots i)).1.val).b]) :: ((b28, ce9 53 (ndl ((movedN cl cb k (forN p.pivots p.msgs i)).1) pa_hv19 pc_hv19 ka_hv19 kc_hv19 ma_hv19 mc_hv19 ra_hv19 rc_hv19)) :: ((b5, ce9 53 nz9) :: ((b4, ce9 53 nz9) :: ((b3, ce9 53 (ndl k pa_k pc_k ka_k kc_k ma_k mc_k ra_k rc_k)) :: ((b2, ce9 53 (ndl p pa_p pc_p ka_p kc_p ma_p mc_p ra_p rc_p)) :: ((b1, ce9 23 [iV cf, iV cl, iV cb, iV cs, iV cr]) :: (Mmu81 ++ (M_13 ++ []))))))))))) (pmD (pmD (pmD (pmD (pmD (pmD (pmD pr9))))))).symm (g9 4 ?_)
     refine W.lit (e := eMsg) (l := [(withoutN (p.msgs[q]'om9) (rangeN p.pivots i)).1]) (css := [[iV _, iV _, sV _, sV _, .bool _, sV _]]) sl51 ty90 zr90 rfl rfl rfl rfl rfl rfl ⟨⟨rfl, without_ok hm63⟩, trivial⟩ (fun bl83 G83 hG83 hv83 => (W.app (e := eMsg) sl51 ty90 zr90 rfl by90 rfl rfl ((hmu81.mono hG83)) (hv83) (pmC (pmC (pmC (pmC (pmC (pmC (pmC (pmC pr9)))))))) (by show (List.length _ + 1) * 72 ≤ _; omega) (fun v84 Ms85 ho86 => (W.perm (pmC (pmC (pmC (pmC (pmC (pmC (pmC (pmC pr9)))))))).symm ?_))))
     have q90 := ho86.form
     refine match q90 with | ⟨sa87, sc88, e_89⟩ => ?_
     subst e_89
     refine g9 5 ?_
     have hN91 : NmR 53 90 b59 G83 ({ p with msgs := (restN p.pivots i ((forN p.pivots p.msgs i).take (movedN cl cb k (forN p.pivots p.msgs i)).2) (p.msgs.take q) ++ [(withoutN (p.msgs[q]'om9) (rangeN p.pivots i)).1]) }) ((b59, ce9 53 [iV p.slot, iV p.level, lV pau81 p.pivots.length pcu81, lV kau81 p.kids.length kcu81, sV p.high.b, .bool p.top, iV p.right, iV p.seen, lV sa87 ((restN p.pivots i ((forN p.pivots p.msgs i).take (movedN cl cb k (forN p.pivots p.msgs i)).2) (p.msgs.take q) ++ [(withoutN (p.msgs[q]'om9) (rangeN p.pivots i)).1])).length sc88, lV rau81 p.rows.length rcu81]) :: Ms85) := ⟨_, _, _, _, _, _, _, _, rfl, (hpu81.mono hG83), (hku81.mono hG83), ho86, (hru81.mono hG83), hok_p⟩
     have hN91 := NmR.cast hN91 (restN_t om9 (left_w hg p75 h83_1))
     refine WC.perm (M' := ((b67, ce9 90 [iV ((withoutN (p.msgs[q]'om9) (rangeN p.pivots i)).1.stamp), iV ((withoutN (p.msgs[q]'om9) (rangeN p.pivots i)).1.kind), sV ((withoutN (p.msgs[q]'om9) (rangeN p.pivots i)).1.key).b, sV ((withoutN (p.msgs[q]'om9) (rangeN p.pivots i)).1.hi).b, .bool ((withoutN (p.msgs[q]'om9) (rangeN p.pivots i)).1.opn), sV ((withoutN (p.msgs[q]'om9) (rangeN p.pivots i)).1.val).b]) :: ((b28, ce9 53 (ndl ((movedN cl cb k (forN p.pivots p.msgs i)).1) pa_hv19 pc_hv19 ka_hv19 kc_hv19 ma_hv19 mc_hv19 ra_hv19 rc_hv19)) :: ((b5, ce9 53 nz9) :: ((b4, ce9 53 nz9) :: ((b3, ce9 53 (ndl k pa_k pc_k ka_k kc_k ma_k mc_k ra_k rc_k)) :: ((b2, ce9 53 (ndl p pa_p pc_p ka_p kc_p ma_p mc_p ra_p rc_p)) :: ((b1, ce9 23 [iV cf, iV cl, iV cb, iV cs, iV cr]) :: (((b59, ce9 53 [iV p.slot, iV p.level, lV pau81 p.pivots.length pcu81, lV kau81 p.kids.length kcu81, sV p.high.b, .bool p.top, iV p.right, iV p.seen, lV sa87 ((restN p.pivots i ((forN p.pivots p.msgs i).take (movedN cl cb k (forN p.pivots p.msgs i)).2) (p.msgs.take q) ++ [(withoutN (p.msgs[q]'om9) (rangeN p.pivots i)).1])).length sc88, lV rau81 p.rows.length rcu81]) :: Ms85) ++ (M_13 ++ [])))))))))) ((pmC (pmC (pmC (pmC (pmC (pmC (pmC pr9))))))).symm.trans (((pmC (pmC (pmC (pmC (pmC (pmC (pmC pr9))))))).cons _).trans pr9)) (g9 3 ?_)
     refine W.sub (sr9.cons _) (g9 2 ?_)
     exact ⟨hG83, (q + 1, ((b59, ce9 53 [iV p.slot, iV p.level, lV pau81 p.pivots.length pcu81, lV kau81 p.kids.length kcu81, sV p.high.b, .bool p.top, iV p.right, iV p.seen, lV sa87 ((restN p.pivots i ((forN p.pivots p.msgs i).take (movedN cl cb k (forN p.pivots p.msgs i)).2) (p.msgs.take q) ++ [(withoutN (p.msgs[q]'om9) (rangeN p.pivots i)).1])).length sc88, lV rau81 p.rows.length rcu81]) :: Ms85)), hs9, ⟨rfl, (by exact hN91), om9⟩, om9⟩
    refine g9 6 ?_
    refine W.sub (sr9.cons _) (g9 2 ?_)
    exact ⟨Le.rfl, (q + 1, M_16), hs9, ⟨rfl, (by exact NmR.cast ho_16 (restN_f om9 (left_n hg (fun hh => absurd (h83_1.symm.trans hh.2) (by simp))))), om9⟩, om9⟩
   refine g9 7 ?_
   refine WC.cond rfl (fun h69 => ?_) (fun h69 => ?_)
   ·exfalso
    simp_all
   refine g9 6 ?_
   refine W.sub (sr9.cons _) (g9 2 ?_)
   exact ⟨Le.rfl, (q + 1, M_16), hs9, ⟨rfl, (by exact NmR.cast ho_16 (restN_f om9 (left_n hg (fun hh => p75 hh.1)))), om9⟩, om9⟩
  have hng : ¬ (p.msgs[q]'om9).stamp ∈ ((forN p.pivots p.msgs i).take (movedN cl cb k (forN p.pivots p.msgs i)).2).map Msg.stamp := by have h9 := h71; rw [gone_has] at h9; simpa using h9
  refine g9 14 ?_
  refine WC.cond rfl (fun h69 => ?_) (fun h69 => ?_)
  ·obtain ⟨pau92, pcu92, kau92, kcu92, vmu92, rau92, rcu92, Mmu92, eMu92, hpu92, hku92, hmu92, hru92, hoku92⟩ := ho_16
   subst eMu92
   have hfu92 := hmu92.form
   refine match hfu92 with | ⟨mau92, mcu92, e_93⟩ => ?_
   subst e_93
   dsimp only at hpu92 hku92 hmu92 hru92
   refine WC.perm (M' := ((b59, ce9 53 [iV p.slot, iV p.level, lV pau92 p.pivots.length pcu92, lV kau92 p.kids.length kcu92, sV p.high.b, .bool p.top, iV p.right, iV p.seen, lV mau92 (restN p.pivots i ((forN p.pivots p.msgs i).take (movedN cl cb k (forN p.pivots p.msgs i)).2) (p.msgs.take q)).length mcu92, lV rau92 p.rows.length rcu92]) :: ((b67, ce9 90 [iV ((p.msgs)[q]).stamp, iV ((p.msgs)[q]).kind, sV ((p.msgs)[q]).key.b, sV ((p.msgs)[q]).hi.b, .bool ((p.msgs)[q]).opn, sV ((p.msgs)[q]).val.b]) :: ((b28, ce9 53 (ndl ((movedN cl cb k (forN p.pivots p.msgs i)).1) pa_hv19 pc_hv19 ka_hv19 kc_hv19 ma_hv19 mc_hv19 ra_hv19 rc_hv19)) :: ((b5, ce9 53 nz9) :: ((b4, ce9 53 nz9) :: ((b3, ce9 53 (ndl k pa_k pc_k ka_k kc_k ma_k mc_k ra_k rc_k)) :: ((b2, ce9 53 (ndl p pa_p pc_p ka_p kc_p ma_p mc_p ra_p rc_p)) :: ((b1, ce9 23 [iV cf, iV cl, iV cb, iV cs, iV cr]) :: (Mmu92 ++ (M_13 ++ []))))))))))) (pmD (pmD (pmD (pmD (pmD (pmD (pmD pr9))))))).symm (g9 4 ?_)
   refine W.lit (e := eMsg) (l := [(p.msgs[q]'om9)]) (css := [[iV _, iV _, sV _, sV _, .bool _, sV _]]) sl51 ty90 zr90 rfl rfl rfl rfl rfl rfl ⟨⟨rfl, hm63⟩, trivial⟩ (fun bl94 G94 hG94 hv94 => (W.app (e := eMsg) sl51 ty90 zr90 rfl by90 rfl rfl ((hmu92.mono hG94)) (hv94) (pmC (pmC (pmC (pmC (pmC (pmC (pmC (pmC pr9)))))))) (by show (List.length _ + 1) * 72 ≤ _; omega) (fun v95 Ms96 ho97 => (W.perm (pmC (pmC (pmC (pmC (pmC (pmC (pmC (pmC pr9)))))))).symm ?_))))
   have q101 := ho97.form
   refine match q101 with | ⟨sa98, sc99, e_100⟩ => ?_
   subst e_100
   refine g9 5 ?_
   have hN102 : NmR 53 90 b59 G94 ({ p with msgs := (restN p.pivots i ((forN p.pivots p.msgs i).take (movedN cl cb k (forN p.pivots p.msgs i)).2) (p.msgs.take q) ++ [(p.msgs[q]'om9)]) }) ((b59, ce9 53 [iV p.slot, iV p.level, lV pau92 p.pivots.length pcu92, lV kau92 p.kids.length kcu92, sV p.high.b, .bool p.top, iV p.right, iV p.seen, lV sa98 ((restN p.pivots i ((forN p.pivots p.msgs i).take (movedN cl cb k (forN p.pivots p.msgs i)).2) (p.msgs.take q) ++ [(p.msgs[q]'om9)])).length sc99, lV rau92 p.rows.length rcu92]) :: Ms96) := ⟨_, _, _, _, _, _, _, _, rfl, (hpu92.mono hG94), (hku92.mono hG94), ho97, (hru92.mono hG94), hok_p⟩
   have hN102 := NmR.cast hN102 (restN_t om9 (left_no hng))
   refine WC.perm (M' := ((b67, ce9 90 [iV ((p.msgs)[q]).stamp, iV ((p.msgs)[q]).kind, sV ((p.msgs)[q]).key.b, sV ((p.msgs)[q]).hi.b, .bool ((p.msgs)[q]).opn, sV ((p.msgs)[q]).val.b]) :: ((b28, ce9 53 (ndl ((movedN cl cb k (forN p.pivots p.msgs i)).1) pa_hv19 pc_hv19 ka_hv19 kc_hv19 ma_hv19 mc_hv19 ra_hv19 rc_hv19)) :: ((b5, ce9 53 nz9) :: ((b4, ce9 53 nz9) :: ((b3, ce9 53 (ndl k pa_k pc_k ka_k kc_k ma_k mc_k ra_k rc_k)) :: ((b2, ce9 53 (ndl p pa_p pc_p ka_p kc_p ma_p mc_p ra_p rc_p)) :: ((b1, ce9 23 [iV cf, iV cl, iV cb, iV cs, iV cr]) :: (((b59, ce9 53 [iV p.slot, iV p.level, lV pau92 p.pivots.length pcu92, lV kau92 p.kids.length kcu92, sV p.high.b, .bool p.top, iV p.right, iV p.seen, lV sa98 ((restN p.pivots i ((forN p.pivots p.msgs i).take (movedN cl cb k (forN p.pivots p.msgs i)).2) (p.msgs.take q) ++ [(p.msgs[q]'om9)])).length sc99, lV rau92 p.rows.length rcu92]) :: Ms96) ++ (M_13 ++ [])))))))))) ((pmC (pmC (pmC (pmC (pmC (pmC (pmC pr9))))))).symm.trans (((pmC (pmC (pmC (pmC (pmC (pmC (pmC pr9))))))).cons _).trans pr9)) (g9 3 ?_)
   refine W.sub (sr9.cons _) (g9 2 ?_)
   exact ⟨hG94, (q + 1, ((b59, ce9 53 [iV p.slot, iV p.level, lV pau92 p.pivots.length pcu92, lV kau92 p.kids.length kcu92, sV p.high.b, .bool p.top, iV p.right, iV p.seen, lV sa98 ((restN p.pivots i ((forN p.pivots p.msgs i).take (movedN cl cb k (forN p.pivots p.msgs i)).2) (p.msgs.take q) ++ [(p.msgs[q]'om9)])).length sc99, lV rau92 p.rows.length rcu92]) :: Ms96)), hs9, ⟨rfl, (by exact hN102), om9⟩, om9⟩
  exfalso
  simp_all
 refine g9 11 ?_
 refine (hv20.mono ((hG43.trans hG53).trans hG61)).a2 (i := ((forN p.pivots p.msgs i).take (movedN cl cb k (forN p.pivots p.msgs i)).2).length - 1) om9 (fun he103 hm104 => (W.ok (ok_indexAddr (i := ((forN p.pivots p.msgs i).take (movedN cl cb k (forN p.pivots p.msgs i)).2).length - 1) sl51 ty90 (hv20.mono lec) rfl rfl ⟨om9, om9⟩) (g9 7 ?_)))
 have hN108 := NmR.cast ho_16 (n' := { p with msgs := restN p.pivots i ((forN p.pivots p.msgs i).take (movedN cl cb k (forN p.pivots p.msgs i)).2) p.msgs }) (by rw [List.take_of_length_le (show p.msgs.length ≤ q by omega)])
 have hTl : (((forN p.pivots p.msgs i).take (movedN cl cb k (forN p.pivots p.msgs i)).2)[((forN p.pivots p.msgs i).take (movedN cl cb k (forN p.pivots p.msgs i)).2).length - 1]'om9).Ok := hm104
 obtain ⟨pau109, pcu109, kau109, kcu109, vmu109, rau109, rcu109, Mmu109, eMu109, hpu109, hku109, hmu109, hru109, hoku109⟩ := hN108
 subst eMu109
 have hfu109 := hmu109.form
 refine match hfu109 with | ⟨mau109, mcu109, e_110⟩ => ?_
 subst e_110
 dsimp only at hpu109 hku109 hmu109 hru109
 refine WC.perm (M' := ((b59, ce9 53 [iV p.slot, iV p.level, lV pau109 p.pivots.length pcu109, lV kau109 p.kids.length kcu109, sV p.high.b, .bool p.top, iV p.right, iV p.seen, lV mau109 (restN p.pivots i ((forN p.pivots p.msgs i).take (movedN cl cb k (forN p.pivots p.msgs i)).2) p.msgs).length mcu109, lV rau109 p.rows.length rcu109]) :: ((b28, ce9 53 [iV ((movedN cl cb k (forN p.pivots p.msgs i)).1).slot, iV ((movedN cl cb k (forN p.pivots p.msgs i)).1).level, lV pa_hv19 (((movedN cl cb k (forN p.pivots p.msgs i)).1).pivots).length pc_hv19, lV ka_hv19 (((movedN cl cb k (forN p.pivots p.msgs i)).1).kids).length kc_hv19, sV ((movedN cl cb k (forN p.pivots p.msgs i)).1).high.b, .bool ((movedN cl cb k (forN p.pivots p.msgs i)).1).top, iV ((movedN cl cb k (forN p.pivots p.msgs i)).1).right, iV ((((forN p.pivots p.msgs i).take (movedN cl cb k (forN p.pivots p.msgs i)).2))[(((forN p.pivots p.msgs i).take (movedN cl cb k (forN p.pivots p.msgs i)).2).length - 1)]).stamp, lV ma_hv19 (((movedN cl cb k (forN p.pivots p.msgs i)).1).msgs).length mc_hv19, lV ra_hv19 (((movedN cl cb k (forN p.pivots p.msgs i)).1).rows).length rc_hv19]) :: ((b5, ce9 53 nz9) :: ((b4, ce9 53 nz9) :: ((b3, ce9 53 (ndl k pa_k pc_k ka_k kc_k ma_k mc_k ra_k rc_k)) :: ((b2, ce9 53 (ndl p pa_p pc_p ka_p kc_p ma_p mc_p ra_p rc_p)) :: ((b1, ce9 23 [iV cf, iV cl, iV cb, iV cs, iV cr]) :: (Mmu109 ++ (M_13 ++ [])))))))))) (pmD (pmD (pmD (pmD (pmD (pmD pr9)))))).symm (WC.giveO hmu109 (pmC (pmC (pmC (pmC (pmC (pmC (pmC pr9))))))) (fun G111 hG111 hv111 => (WC.dw ((((((sr9.k9.k9).k9).cons _).cons _).k9).k9) (d9 [0, 1, 2, 3, 4, 5, 6] ?_))))
 refine g9 4 ?_
 refine ⟨rfl, _, (pour_t hko rfl om9).symm, _, _, rfl, ?_, ?_⟩
 · exact ⟨_, _, _, _, _, _, _, _, rfl, (hpu109.mono hG111), (hku109.mono hG111), hv111, (hru109.mono hG111), hok_p⟩
 exact ⟨_, _, _, _, _, _, _, _, rfl, (hp_hv19.mono lec), (hk_hv19.mono lec), (hm_hv19.mono lec), (hr_hv19.mono lec), ⟨hok_hv19.1, hok_hv19.2.1, hok_hv19.2.2.1, hTl.1⟩⟩

end Go.Proofs.YtfmigmijckdldaaGreat
