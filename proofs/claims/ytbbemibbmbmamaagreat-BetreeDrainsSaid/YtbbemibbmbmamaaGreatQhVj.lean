/- The walk of pour.Pour. -/
import Derived.Test.YtbbemibbmbmamaaGreatQhUb
set_option maxRecDepth 100000
set_option maxHeartbeats 1600000
set_option linter.unusedVariables false
set_option linter.unusedSimpArgs false
set_option linter.unnecessarySimpa false
namespace Go.Proofs.YtbbemibbmbmamaaGreat
open Go Go.Fw Go.RowKit
attribute [local irreducible] Ok W WC
theorem JT {G : GH} (cf : Int) (cl : Int) (cb : Int) (cs : Int) (cr : Int) {cs_p : List Value} {p : Nd} (h_p : NodeC G cs_p p) {cs_k : List Value} {k : Nd} (h_k : NodeC G cs_k k) (i : Int) (hb : 0 ≤ cb ∧ cb ≤ 9223372036854775807) (hr : Z2 p.pivots = true) (hpv : ∀ q ∈ p.pivots, q.b.size ≤ 16) (hpm : ∀ m ∈ p.msgs, m.R) (hkm : ∀ m ∈ k.msgs, m.key.b.size ≤ 16 ∧ m.val.b.size ≤ 16) (hkr : PairsR k.rows) (hi : i64 i) (hsz : k.msgs.length + p.msgs.length ≤ 100000 ∧ k.rows.length ≤ 100000) :
    Fc Tryz.prog 194 [.agg #[iV cf, iV cl, iV cb, iV cs, iV cr], .agg (List.toArray cs_p), .agg (List.toArray cs_k), iV i] G [] (fun v G' M' => M' = [] ∧ ∃ r : Nd × Nd × Nat, r = Z9 cl cb p k i ∧ ∃ u0 u1, v = .tuple #[.agg (List.toArray u0), .agg (List.toArray u1), nt9 r.2.2] ∧ NodeC G' u0 (r.1) ∧ NodeC G' u1 (r.2.1)) := by
 obtain ⟨pa_p, pc_p, ka_p, kc_p, ma_p, mc_p, ra_p, rc_p, rfl, hp_p, hk_p, hm_p, hr_p, hok_p⟩ := h_p
 obtain ⟨pa_k, pc_k, ka_k, kc_k, ma_k, mc_k, ra_k, rc_k, rfl, hp_k, hk_k, hm_k, hr_k, hok_k⟩ := h_k
 have hpk : ∀ m ∈ p.msgs, m.key.b.size < 140737488355328 := fun m h => by have := (Y5 (hpm m h)).1; omega
 have hlm := hm_p.len47
 have hfl := Zjc p.pivots p.msgs i
 have htl : ((Zd p.pivots p.msgs i).take (Zt cl cb k (Zd p.pivots p.msgs i)).2).length ≤ (Zd p.pivots p.msgs i).length := by rw [List.length_take]; omega
 refine Fc.go [.cell 8 60, .cell 9 60, .tmp 10] Tryz.func194 Tryz.ntmps194 rfl (fun w0 => (g9 2 ?_))
 refine W.box (L := [iV _, iV _, iV _, iV _, iV _]) rfl rfl (fun b1 => (W.box (L := [iV _, iV _, lV _ _ _, lV _ _ _, sV _, .bool _, iV _, iV _, lV _ _ _, lV _ _ _]) rfl rfl (fun b2 => (W.box (L := [iV _, iV _, lV _ _ _, lV _ _ _, sV _, .bool _, iV _, iV _, lV _ _ _, lV _ _ _]) rfl rfl (fun b3 => (W.alloc Zo (fun b4 => (W.alloc Zo (fun b5 => (g9 9 ?_))))))))))
 refine W.qcall (Zf1 (p := p) (k := k) (nk9 hp_p hk_p hm_p hr_p hok_p) (nk9 hp_k hk_k hm_k hr_k hok_k) i) rfl (g9 3 ?_)
 refine WC.cond rfl (fun h24 => ?_) (fun h24 => ?_)
 ·refine WC.seq (WC.dw ((((sr9.k9.k9).k9).cons _).cons _) (d9 [0, 2] ?_))
  refine WD.a1 1 rfl (W.cN (XM (a := p) (nk9 hp_p hk_p hm_p hr_p hok_p)) rfl (fun _ _ _ _ _ _ _ _ G6 hG6 hp_hv7 hk_hv7 hm_hv7 hr_hv7 hok_hv7 => (W.nn (WD.a1 3 rfl (W.cN (XM (a := k) (nm9 hG6 hp_k hk_k hm_k hr_k hok_k)) rfl (fun _ _ _ _ _ _ _ _ G12 hG12 hp_hv13 hk_hv13 hm_hv13 hr_hv13 hok_hv13 => (W.nn (d9 [4, 5, 6] ?_))))))))
  refine g9 5 ?_
  refine ⟨rfl, _, (ZpJ (by simpa using h24)).symm, _, _, rfl, ?_, ?_⟩
  · exact (nm9 hG12 hp_hv7 hk_hv7 hm_hv7 hr_hv7 hok_p)
  exact (nk9 hp_hv13 hk_hv13 hm_hv13 hr_hv13 hok_k)
 have hko : KidOf p k i := by simpa using h24
 refine g9 8 ?_
 refine W.call (Mp := []) (Zj3 cf cl cb cs cr (p := p) (k := k) (nk9 hp_p hk_p hm_p hr_p hok_p) (nk9 hp_k hk_k hm_k hr_k hok_k) i hb hr hpv hpm hkm hkr hi hsz) rfl pr9 ?_
 intro _ G18 _ hG18 q21
 refine match q21 with | ⟨e_22, _, e_23, _, _, e_24, hv19, hv20⟩ => ?_
 subst e_22
 subst e_23
 subst e_24
 refine match hv19 with | ⟨pa_hv19, pc_hv19, ka_hv19, kc_hv19, ma_hv19, mc_hv19, ra_hv19, rc_hv19, e_25, hp_hv19, hk_hv19, hm_hv19, hr_hv19, hok_hv19⟩ => ?_
 subst e_25
 have q27 := hv20.form
 refine match q27 with | ⟨sa_hv20, sc_hv20, e_26⟩ => ?_
 subst e_26
 refine g9 3 ?_
 refine W.alloc Zo (fun b28 => (g9 12 ?_))
 refine WC.cd (fun h39 p39 => ?_) (fun h39 p39 => ?_)
 ·refine WC.seq (WC.dw (((((sr9.k9.k9).k9).cons _).cons _).k9) (d9 [0, 2] ?_))
  refine WD.a1 1 rfl (W.cN (XM (a := p) (nm9 hG18 hp_p hk_p hm_p hr_p hok_p)) rfl (fun _ _ _ _ _ _ _ _ G29 hG29 hp_hv30 hk_hv30 hm_hv30 hr_hv30 hok_hv30 => (W.nn (WD.a1 3 rfl (W.cN (XM (a := k) (nm9 lec hp_k hk_k hm_k hr_k hok_k)) rfl (fun _ _ _ _ _ _ _ _ G35 hG35 hp_hv36 hk_hv36 hm_hv36 hr_hv36 hok_hv36 => (W.nn (d9 [4, 5, 6] ?_))))))))
  refine g9 5 ?_
  refine ⟨rfl, _, (ZpK hko om9).symm, _, _, rfl, ?_, ?_⟩
  · exact (nm9 hG35 hp_hv30 hk_hv30 hm_hv30 hr_hv30 hok_p)
  exact (nk9 hp_hv36 hk_hv36 hm_hv36 hr_hv36 hok_k)
 refine g9 4 ?_
 refine W.makeMap (V := Zd3) (fun bm41 hm42 => (W.perm (pmC (Ms := [(bm41, Obj.map #[] 0)]) (pmC (Ms := [(bm41, Obj.map #[] 0)]) (pmC (Ms := [(bm41, Obj.map #[] 0)]) (pmC (Ms := [(bm41, Obj.map #[] 0)]) (pmC (Ms := [(bm41, Obj.map #[] 0)]) (pmC (Ms := [(bm41, Obj.map #[] 0)]) pr9)))))).symm (g9 12 ?_)))
 refine WC.loop (X := (Nat) × MH) (fun y => [(47, nt9 y.1), (5, pt9 b2), (8, pt9 b4), (9, pt9 b5), (11, pt9 b28), (3, iV i), (12, lV sa_hv20 (((Zd p.pivots p.msgs i).take (Zt cl cb k (Zd p.pivots p.msgs i)).2)).length sc_hv20), (45, lV sa_hv20 (((Zd p.pivots p.msgs i).take (Zt cl cb k (Zd p.pivots p.msgs i)).2)).length sc_hv20), (46, nt9 ((((Zd p.pivots p.msgs i).take (Zt cl cb k (Zd p.pivots p.msgs i)).2)).length)), (13, .map (some bm41))]) (fun y G Ml => Ml = ((b28, ce9 60 (ndl ((Zt cl cb k (Zd p.pivots p.msgs i)).1) pa_hv19 pc_hv19 ka_hv19 kc_hv19 ma_hv19 mc_hv19 ra_hv19 rc_hv19)) :: ((b5, ce9 60 nz9) :: ((b4, ce9 60 nz9) :: ((b3, ce9 60 (ndl k pa_k pc_k ka_k kc_k ma_k mc_k ra_k rc_k)) :: ((b2, ce9 60 (ndl p pa_p pc_p ka_p kc_p ma_p mc_p ra_p rc_p)) :: ((b1, ce9 23 [iV cf, iV cl, iV cb, iV cs, iV cr]) :: (y.2 ++ []))))))) ∧ MpR Zd3 bm41 G ((ZbP (((Zd p.pivots p.msgs i).take (Zt cl cb k (Zd p.pivots p.msgs i)).2).take y.1))) y.2 ∧ y.1 ≤ ((Zd p.pivots p.msgs i).take (Zt cl cb k (Zd p.pivots p.msgs i)).2).length) (fun y => ((Zd p.pivots p.msgs i).take (Zt cl cb k (Zd p.pivots p.msgs i)).2).length - y.1) (0, [(bm41, Obj.map #[] 0)]) hs9 ?_ ?_
 ·exact ⟨rfl, (by exact hm42), Nat.zero_le _⟩
 rintro ⟨y, M_13⟩ gG43 G43 _ hG43 ⟨rfl, ho_13, hy⟩
 try dsimp only at ho_13 hy
 refine WC.fr (f := ZX gG43 [(47, nt9 y), (5, pt9 b2), (8, pt9 b4), (9, pt9 b5), (11, pt9 b28), (3, iV i), (12, lV sa_hv20 (((Zd p.pivots p.msgs i).take (Zt cl cb k (Zd p.pivots p.msgs i)).2)).length sc_hv20), (45, lV sa_hv20 (((Zd p.pivots p.msgs i).take (Zt cl cb k (Zd p.pivots p.msgs i)).2)).length sc_hv20), (46, nt9 ((((Zd p.pivots p.msgs i).take (Zt cl cb k (Zd p.pivots p.msgs i)).2)).length)), (13, .map (some bm41))]) rfl (g9 6 ?_)
 refine WC.cd (fun h48 p48 => ?_) (fun h48 p48 => ?_)
 ·refine g9 6 ?_
  refine (hv20.mono hG43).a2 (i := y) om9 (fun he44 hm45 => (g9 2 ?_))
  refine W.alloc ZL (fun b49 => (g9 7 ?_))
  refine W.mapUp (V := Zd3) (k := ((((Zd p.pivots p.msgs i).take (Zt cl cb k (Zd p.pivots p.msgs i)).2))[y]).stamp) Zkm rfl rfl rfl ho_13 (pmC (pmC (pmC (pmC (pmC (pmC (pmC pr9))))))) rfl (fun Ms50 hm51 => (W.perm (pmC (pmC (pmC (pmC (pmC (pmC (pmC pr9))))))).symm (g9 6 ?_)))
  refine W.sub (sr9.cons _) (g9 2 ?_)
  exact ⟨Le.rfl, (y + 1, Ms50), hs9, ⟨rfl, (by rw [ZpI om9]; exact hm51), om9⟩, om9⟩
 refine g9 6 ?_
 have hm52 := ho_13
 rw [List.take_of_length_le (by omega : ((Zd p.pivots p.msgs i).take (Zt cl cb k (Zd p.pivots p.msgs i)).2).length ≤ y)] at hm52
 refine g9 2 ?_
 refine W.cN (XM (a := p) (nm9 lec hp_p hk_p hm_p hr_p hok_p)) rfl (fun pa_hv54 pc_hv54 ka_hv54 kc_hv54 _ _ ra_hv54 rc_hv54 G53 hG53 hp_hv54 hk_hv54 hm_hv54 hr_hv54 hok_hv54 => (W.alloc Zo (fun b59 => (g9 19 ?_))))
 have hN60 : NmR 60 87 b59 G53 ({ p with msgs := [] }) ((b59, ce9 60 [iV (p).slot, iV (p).level, lV pa_hv54 ((p).pivots).length pc_hv54, lV ka_hv54 ((p).kids).length kc_hv54, sV (p).high.b, .bool (p).top, iV (p).right, iV (p).seen, lV none 0 0, lV ra_hv54 ((p).rows).length rc_hv54]) :: []) := ⟨_, _, _, _, _, _, _, _, rfl, hp_hv54, hk_hv54, OwnR.nil, hr_hv54, hok_p⟩
 have hN60 := NmR.cast hN60 (n' := { p with msgs := ZM p.pivots i ((Zd p.pivots p.msgs i).take (Zt cl cb k (Zd p.pivots p.msgs i)).2) (p.msgs.take 0) }) rfl
 refine WC.perm (M' := ((b28, ce9 60 (ndl ((Zt cl cb k (Zd p.pivots p.msgs i)).1) pa_hv19 pc_hv19 ka_hv19 kc_hv19 ma_hv19 mc_hv19 ra_hv19 rc_hv19)) :: ((b5, ce9 60 nz9) :: ((b4, ce9 60 nz9) :: ((b3, ce9 60 (ndl k pa_k pc_k ka_k kc_k ma_k mc_k ra_k rc_k)) :: ((b2, ce9 60 (ndl p pa_p pc_p ka_p kc_p ma_p mc_p ra_p rc_p)) :: ((b1, ce9 23 [iV cf, iV cl, iV cb, iV cs, iV cr]) :: (((b59, ce9 60 [iV (p).slot, iV (p).level, lV pa_hv54 ((p).pivots).length pc_hv54, lV ka_hv54 ((p).kids).length kc_hv54, sV (p).high.b, .bool (p).top, iV (p).right, iV (p).seen, lV none 0 0, lV ra_hv54 ((p).rows).length rc_hv54]) :: []) ++ (M_13 ++ []))))))))) ((pmC (pmC (pmC (pmC (pmC (pmC pr9)))))).symm.trans pr9) ?_
 refine WC.loop (X := (Nat) × MH) (fun q => [(61, nt9 q.1), (13, .map (some bm41)), (5, pt9 b2), (8, pt9 b4), (9, pt9 b5), (11, pt9 b28), (3, iV i), (12, lV sa_hv20 (((Zd p.pivots p.msgs i).take (Zt cl cb k (Zd p.pivots p.msgs i)).2)).length sc_hv20), (59, lV ma_p p.msgs.length mc_p), (60, nt9 ((p.msgs).length)), (16, pt9 b59)]) (fun q G Ml => Ml = ((b28, ce9 60 (ndl ((Zt cl cb k (Zd p.pivots p.msgs i)).1) pa_hv19 pc_hv19 ka_hv19 kc_hv19 ma_hv19 mc_hv19 ra_hv19 rc_hv19)) :: ((b5, ce9 60 nz9) :: ((b4, ce9 60 nz9) :: ((b3, ce9 60 (ndl k pa_k pc_k ka_k kc_k ma_k mc_k ra_k rc_k)) :: ((b2, ce9 60 (ndl p pa_p pc_p ka_p kc_p ma_p mc_p ra_p rc_p)) :: ((b1, ce9 23 [iV cf, iV cl, iV cb, iV cs, iV cr]) :: (q.2 ++ (M_13 ++ [])))))))) ∧ NmR 60 87 b59 G ({ p with msgs := ZM p.pivots i ((Zd p.pivots p.msgs i).take (Zt cl cb k (Zd p.pivots p.msgs i)).2) (p.msgs.take q.1) }) q.2 ∧ q.1 ≤ p.msgs.length) (fun q => p.msgs.length - q.1) (0, ((b59, ce9 60 [iV (p).slot, iV (p).level, lV pa_hv54 ((p).pivots).length pc_hv54, lV ka_hv54 ((p).kids).length kc_hv54, sV (p).high.b, .bool (p).top, iV (p).right, iV (p).seen, lV none 0 0, lV ra_hv54 ((p).rows).length rc_hv54]) :: [])) hs9 ?_ ?_
 ·exact ⟨rfl, (by exact hN60), Nat.zero_le _⟩
 rintro ⟨q, M_16⟩ gG61 G61 _ hG61 ⟨rfl, ho_16, hq⟩
 try dsimp only at ho_16 hq
 have hrl := ZpO p.pivots i ((Zd p.pivots p.msgs i).take (Zt cl cb k (Zd p.pivots p.msgs i)).2) p.msgs q
 refine WC.fr (f := ZX gG61 [(61, nt9 q), (13, .map (some bm41)), (5, pt9 b2), (8, pt9 b4), (9, pt9 b5), (11, pt9 b28), (3, iV i), (12, lV sa_hv20 (((Zd p.pivots p.msgs i).take (Zt cl cb k (Zd p.pivots p.msgs i)).2)).length sc_hv20), (59, lV ma_p p.msgs.length mc_p), (60, nt9 ((p.msgs).length)), (16, pt9 b59)]) rfl (g9 6 ?_)
 refine WC.cd (fun h62 p62 => ?_) (fun h62 p62 => ?_)
 ·refine g9 6 ?_
  refine (hm_p.mono (((hG18.trans hG43).trans hG53).trans hG61)).a2 (i := q) om9 (fun he62 hm63 => (g9 2 ?_))
  refine W.alloc ZL (fun b67 => (g9 8 ?_))
  refine W.lookO (V := Zd3) Zkm mz4 rfl rfl rfl (MpR.mono lec hm52) (pmC (pmC (pmC (pmC (pmC (pmC (pmC (pmA pr9)))))))) (fun v68 hv69 => ?_)
  have ehv69 := hv69
  subst ehv69
  refine g9 10 ?_
  refine W.sp 72 rfl (fun h71 => ?_) (fun h71 => ?_)
  ·have hg : (p.msgs[q]'om9).stamp ∈ ((Zd p.pivots p.msgs i).take (Zt cl cb k (Zd p.pivots p.msgs i)).2).map Msg.stamp := by have h9 := h71; rw [Zi9] at h9; simpa using h9
   refine g9 9 ?_
   refine WC.cd (fun h75 p75 => ?_) (fun h75 p75 => ?_)
   ·refine WC.dw ((((((sr9.k9.k9).k9).k9).k9).k9).cons _) (d9 [1, 2, 3] ?_)
    refine WD.any [0, 4] (by kernel_rfl) rfl ⟨WD.ap ?_, WD.ap ?_, trivial⟩
    ·refine g9 1 ?_
     refine W.nn (WD.a1 4 rfl (W.qcall (ZaF (hp_p.mono lec) _ hi) rfl (W.nn (WD.a1 5 rfl (W.qcall (Zj4 _ _ _ _ _ _ _ _ _ (hpk _ (List.getElem_mem (by omega : q < p.msgs.length)))) rfl (W.nn (d9 [6, 7, 8, 9, 10] ?_)))))))
     refine g9 7 ?_
     refine WC.cond rfl (fun h83_1 => ?_) (fun h83_1 => ?_)
     ·obtain ⟨pau70, pcu70, kau70, kcu70, vmu70, rau70, rcu70, Mmu70, eMu70, hpu70, hku70, hmu70, hru70, hoku70⟩ := ho_16
      subst eMu70
      have hfu70 := hmu70.form
      refine match hfu70 with | ⟨mau70, mcu70, e_71⟩ => ?_
      subst e_71
      dsimp only at hpu70 hku70 hmu70 hru70
      refine WC.perm (M' := ((b59, ce9 60 [iV p.slot, iV p.level, lV pau70 p.pivots.length pcu70, lV kau70 p.kids.length kcu70, sV p.high.b, .bool p.top, iV p.right, iV p.seen, lV mau70 (ZM p.pivots i ((Zd p.pivots p.msgs i).take (Zt cl cb k (Zd p.pivots p.msgs i)).2) (p.msgs.take q)).length mcu70, lV rau70 p.rows.length rcu70]) :: ((b67, ce9 87 [iV ((ZE (p.msgs[q]'om9) (Zf p.pivots i)).1.stamp), iV ((ZE (p.msgs[q]'om9) (Zf p.pivots i)).1.kind), sV ((ZE (p.msgs[q]'om9) (Zf p.pivots i)).1.key).b, sV ((ZE (p.msgs[q]'om9) (Zf p.pivots i)).1.hi).b, .bool ((ZE (p.msgs[q]'om9) (Zf p.pivots i)).1.opn), sV ((ZE (p.msgs[q]'om9) (Zf p.pivots i)).1.val).b]) :: ((b28, ce9 60 (ndl ((Zt cl cb k (Zd p.pivots p.msgs i)).1) pa_hv19 pc_hv19 ka_hv19 kc_hv19 ma_hv19 mc_hv19 ra_hv19 rc_hv19)) :: ((b5, ce9 60 nz9) :: ((b4, ce9 60 nz9) :: ((b3, ce9 60 (ndl k pa_k pc_k ka_k kc_k ma_k mc_k ra_k rc_k)) :: ((b2, ce9 60 (ndl p pa_p pc_p ka_p kc_p ma_p mc_p ra_p rc_p)) :: ((b1, ce9 23 [iV cf, iV cl, iV cb, iV cs, iV cr]) :: (Mmu70 ++ (M_13 ++ []))))))))))) (pmD (pmD (pmD (pmD (pmD (pmD (pmD pr9))))))).symm (g9 4 ?_)
      refine W.lit (e := Zp) (l := [(ZE (p.msgs[q]'om9) (Zf p.pivots i)).1]) (css := [[iV _, iV _, sV _, sV _, .bool _, sV _]]) ZQ ZR ZL rfl rfl rfl rfl rfl rfl ⟨⟨rfl, Zjb hm63⟩, trivial⟩ (fun bl72 G72 hG72 hv72 => (W.app (e := Zp) ZQ ZR ZL rfl XQ rfl rfl ((hmu70.mono hG72)) (hv72) (pmC (pmC (pmC (pmC (pmC (pmC (pmC (pmC pr9)))))))) (by show (List.length _ + 1) * 72 ≤ _; omega) (fun v73 Ms74 ho75 => (W.perm (pmC (pmC (pmC (pmC (pmC (pmC (pmC (pmC pr9)))))))).symm ?_))))
      have q79 := ho75.form
      refine match q79 with | ⟨sa76, sc77, e_78⟩ => ?_
      subst e_78
      refine g9 5 ?_
      have hN80 : NmR 60 87 b59 G72 ({ p with msgs := (ZM p.pivots i ((Zd p.pivots p.msgs i).take (Zt cl cb k (Zd p.pivots p.msgs i)).2) (p.msgs.take q) ++ [(ZE (p.msgs[q]'om9) (Zf p.pivots i)).1]) }) ((b59, ce9 60 [iV p.slot, iV p.level, lV pau70 p.pivots.length pcu70, lV kau70 p.kids.length kcu70, sV p.high.b, .bool p.top, iV p.right, iV p.seen, lV sa76 ((ZM p.pivots i ((Zd p.pivots p.msgs i).take (Zt cl cb k (Zd p.pivots p.msgs i)).2) (p.msgs.take q) ++ [(ZE (p.msgs[q]'om9) (Zf p.pivots i)).1])).length sc77, lV rau70 p.rows.length rcu70]) :: Ms74) := ⟨_, _, _, _, _, _, _, _, rfl, (hpu70.mono hG72), (hku70.mono hG72), ho75, (hru70.mono hG72), hok_p⟩
      have hN80 := NmR.cast hN80 (Zfv om9 (Zja hg p75 h83_1))
      refine WC.perm (M' := ((b67, ce9 87 [iV ((ZE (p.msgs[q]'om9) (Zf p.pivots i)).1.stamp), iV ((ZE (p.msgs[q]'om9) (Zf p.pivots i)).1.kind), sV ((ZE (p.msgs[q]'om9) (Zf p.pivots i)).1.key).b, sV ((ZE (p.msgs[q]'om9) (Zf p.pivots i)).1.hi).b, .bool ((ZE (p.msgs[q]'om9) (Zf p.pivots i)).1.opn), sV ((ZE (p.msgs[q]'om9) (Zf p.pivots i)).1.val).b]) :: ((b28, ce9 60 (ndl ((Zt cl cb k (Zd p.pivots p.msgs i)).1) pa_hv19 pc_hv19 ka_hv19 kc_hv19 ma_hv19 mc_hv19 ra_hv19 rc_hv19)) :: ((b5, ce9 60 nz9) :: ((b4, ce9 60 nz9) :: ((b3, ce9 60 (ndl k pa_k pc_k ka_k kc_k ma_k mc_k ra_k rc_k)) :: ((b2, ce9 60 (ndl p pa_p pc_p ka_p kc_p ma_p mc_p ra_p rc_p)) :: ((b1, ce9 23 [iV cf, iV cl, iV cb, iV cs, iV cr]) :: (((b59, ce9 60 [iV p.slot, iV p.level, lV pau70 p.pivots.length pcu70, lV kau70 p.kids.length kcu70, sV p.high.b, .bool p.top, iV p.right, iV p.seen, lV sa76 ((ZM p.pivots i ((Zd p.pivots p.msgs i).take (Zt cl cb k (Zd p.pivots p.msgs i)).2) (p.msgs.take q) ++ [(ZE (p.msgs[q]'om9) (Zf p.pivots i)).1])).length sc77, lV rau70 p.rows.length rcu70]) :: Ms74) ++ (M_13 ++ [])))))))))) ((pmC (pmC (pmC (pmC (pmC (pmC (pmC pr9))))))).symm.trans (((pmC (pmC (pmC (pmC (pmC (pmC (pmC pr9))))))).cons _).trans pr9)) (g9 3 ?_)
      refine W.sub (sr9.cons _) (g9 2 ?_)
      exact ⟨hG72, (q + 1, ((b59, ce9 60 [iV p.slot, iV p.level, lV pau70 p.pivots.length pcu70, lV kau70 p.kids.length kcu70, sV p.high.b, .bool p.top, iV p.right, iV p.seen, lV sa76 ((ZM p.pivots i ((Zd p.pivots p.msgs i).take (Zt cl cb k (Zd p.pivots p.msgs i)).2) (p.msgs.take q) ++ [(ZE (p.msgs[q]'om9) (Zf p.pivots i)).1])).length sc77, lV rau70 p.rows.length rcu70]) :: Ms74)), hs9, ⟨rfl, (by exact hN80), om9⟩, om9⟩
     refine g9 6 ?_
     refine W.sub (sr9.cons _) (g9 2 ?_)
     exact ⟨Le.rfl, (q + 1, M_16), hs9, ⟨rfl, (by exact NmR.cast ho_16 (Zfw om9 (Zfu hg (fun hh => absurd (h83_1.symm.trans hh.2) (by simp))))), om9⟩, om9⟩
    refine W.qcall (ZaF (hp_p.mono lec) _ hi) rfl (W.nn (WD.a1 0 rfl (g9 1 ?_)))
    refine W.nn (WD.a1 5 rfl (W.qcall (Zj4 _ _ _ _ _ _ _ _ _ (hpk _ (List.getElem_mem (by omega : q < p.msgs.length)))) rfl (W.nn (d9 [6, 7, 8, 9, 10] ?_))))
    refine g9 7 ?_
    refine WC.cond rfl (fun h83_1 => ?_) (fun h83_1 => ?_)
    ·obtain ⟨pau81, pcu81, kau81, kcu81, vmu81, rau81, rcu81, Mmu81, eMu81, hpu81, hku81, hmu81, hru81, hoku81⟩ := ho_16
     subst eMu81
     have hfu81 := hmu81.form
     refine match hfu81 with | ⟨mau81, mcu81, e_82⟩ => ?_
     subst e_82
     dsimp only at hpu81 hku81 hmu81 hru81
     refine WC.perm (M' := ((b59, ce9 60 [iV p.slot, iV p.level, lV pau81 p.pivots.length pcu81, lV kau81 p.kids.length kcu81, sV p.high.b, .bool p.top, iV p.right, iV p.seen, lV mau81 (ZM p.pivots i ((Zd p.pivots p.msgs i).take (Zt cl cb k (Zd p.pivots p.msgs i)).2) (p.msgs.take q)).length mcu81, lV rau81 p.rows.length rcu81]) :: ((b67, ce9 87 [iV ((ZE (p.msgs[q]'om9) (Zf p.pivots i)).1.stamp), iV ((ZE (p.msgs[q]'om9) (Zf p.pivots i)).1.kind), sV ((ZE (p.msgs[q]'om9) (Zf p.pivots i)).1.key).b, sV ((ZE (p.msgs[q]'om9) (Zf p.pivots i)).1.hi).b, .bool ((ZE (p.msgs[q]'om9) (Zf p.pivots i)).1.opn), sV ((ZE (p.msgs[q]'om9) (Zf p.pivots i)).1.val).b]) :: ((b28, ce9 60 (ndl ((Zt cl cb k (Zd p.pivots p.msgs i)).1) pa_hv19 pc_hv19 ka_hv19 kc_hv19 ma_hv19 mc_hv19 ra_hv19 rc_hv19)) :: ((b5, ce9 60 nz9) :: ((b4, ce9 60 nz9) :: ((b3, ce9 60 (ndl k pa_k pc_k ka_k kc_k ma_k mc_k ra_k rc_k)) :: ((b2, ce9 60 (ndl p pa_p pc_p ka_p kc_p ma_p mc_p ra_p rc_p)) :: ((b1, ce9 23 [iV cf, iV cl, iV cb, iV cs, iV cr]) :: (Mmu81 ++ (M_13 ++ []))))))))))) (pmD (pmD (pmD (pmD (pmD (pmD (pmD pr9))))))).symm (g9 4 ?_)
     refine W.lit (e := Zp) (l := [(ZE (p.msgs[q]'om9) (Zf p.pivots i)).1]) (css := [[iV _, iV _, sV _, sV _, .bool _, sV _]]) ZQ ZR ZL rfl rfl rfl rfl rfl rfl ⟨⟨rfl, Zjb hm63⟩, trivial⟩ (fun bl83 G83 hG83 hv83 => (W.app (e := Zp) ZQ ZR ZL rfl XQ rfl rfl ((hmu81.mono hG83)) (hv83) (pmC (pmC (pmC (pmC (pmC (pmC (pmC (pmC pr9)))))))) (by show (List.length _ + 1) * 72 ≤ _; omega) (fun v84 Ms85 ho86 => (W.perm (pmC (pmC (pmC (pmC (pmC (pmC (pmC (pmC pr9)))))))).symm ?_))))
     have q90 := ho86.form
     refine match q90 with | ⟨sa87, sc88, e_89⟩ => ?_
     subst e_89
     refine g9 5 ?_
     have hN91 : NmR 60 87 b59 G83 ({ p with msgs := (ZM p.pivots i ((Zd p.pivots p.msgs i).take (Zt cl cb k (Zd p.pivots p.msgs i)).2) (p.msgs.take q) ++ [(ZE (p.msgs[q]'om9) (Zf p.pivots i)).1]) }) ((b59, ce9 60 [iV p.slot, iV p.level, lV pau81 p.pivots.length pcu81, lV kau81 p.kids.length kcu81, sV p.high.b, .bool p.top, iV p.right, iV p.seen, lV sa87 ((ZM p.pivots i ((Zd p.pivots p.msgs i).take (Zt cl cb k (Zd p.pivots p.msgs i)).2) (p.msgs.take q) ++ [(ZE (p.msgs[q]'om9) (Zf p.pivots i)).1])).length sc88, lV rau81 p.rows.length rcu81]) :: Ms85) := ⟨_, _, _, _, _, _, _, _, rfl, (hpu81.mono hG83), (hku81.mono hG83), ho86, (hru81.mono hG83), hok_p⟩
     have hN91 := NmR.cast hN91 (Zfv om9 (Zja hg p75 h83_1))
     refine WC.perm (M' := ((b67, ce9 87 [iV ((ZE (p.msgs[q]'om9) (Zf p.pivots i)).1.stamp), iV ((ZE (p.msgs[q]'om9) (Zf p.pivots i)).1.kind), sV ((ZE (p.msgs[q]'om9) (Zf p.pivots i)).1.key).b, sV ((ZE (p.msgs[q]'om9) (Zf p.pivots i)).1.hi).b, .bool ((ZE (p.msgs[q]'om9) (Zf p.pivots i)).1.opn), sV ((ZE (p.msgs[q]'om9) (Zf p.pivots i)).1.val).b]) :: ((b28, ce9 60 (ndl ((Zt cl cb k (Zd p.pivots p.msgs i)).1) pa_hv19 pc_hv19 ka_hv19 kc_hv19 ma_hv19 mc_hv19 ra_hv19 rc_hv19)) :: ((b5, ce9 60 nz9) :: ((b4, ce9 60 nz9) :: ((b3, ce9 60 (ndl k pa_k pc_k ka_k kc_k ma_k mc_k ra_k rc_k)) :: ((b2, ce9 60 (ndl p pa_p pc_p ka_p kc_p ma_p mc_p ra_p rc_p)) :: ((b1, ce9 23 [iV cf, iV cl, iV cb, iV cs, iV cr]) :: (((b59, ce9 60 [iV p.slot, iV p.level, lV pau81 p.pivots.length pcu81, lV kau81 p.kids.length kcu81, sV p.high.b, .bool p.top, iV p.right, iV p.seen, lV sa87 ((ZM p.pivots i ((Zd p.pivots p.msgs i).take (Zt cl cb k (Zd p.pivots p.msgs i)).2) (p.msgs.take q) ++ [(ZE (p.msgs[q]'om9) (Zf p.pivots i)).1])).length sc88, lV rau81 p.rows.length rcu81]) :: Ms85) ++ (M_13 ++ [])))))))))) ((pmC (pmC (pmC (pmC (pmC (pmC (pmC pr9))))))).symm.trans (((pmC (pmC (pmC (pmC (pmC (pmC (pmC pr9))))))).cons _).trans pr9)) (g9 3 ?_)
     refine W.sub (sr9.cons _) (g9 2 ?_)
     exact ⟨hG83, (q + 1, ((b59, ce9 60 [iV p.slot, iV p.level, lV pau81 p.pivots.length pcu81, lV kau81 p.kids.length kcu81, sV p.high.b, .bool p.top, iV p.right, iV p.seen, lV sa87 ((ZM p.pivots i ((Zd p.pivots p.msgs i).take (Zt cl cb k (Zd p.pivots p.msgs i)).2) (p.msgs.take q) ++ [(ZE (p.msgs[q]'om9) (Zf p.pivots i)).1])).length sc88, lV rau81 p.rows.length rcu81]) :: Ms85)), hs9, ⟨rfl, (by exact hN91), om9⟩, om9⟩
    refine g9 6 ?_
    refine W.sub (sr9.cons _) (g9 2 ?_)
    exact ⟨Le.rfl, (q + 1, M_16), hs9, ⟨rfl, (by exact NmR.cast ho_16 (Zfw om9 (Zfu hg (fun hh => absurd (h83_1.symm.trans hh.2) (by simp))))), om9⟩, om9⟩
   refine g9 7 ?_
   refine WC.cond rfl (fun h69 => ?_) (fun h69 => ?_)
   ·exfalso
    simp_all
   refine g9 6 ?_
   refine W.sub (sr9.cons _) (g9 2 ?_)
   exact ⟨Le.rfl, (q + 1, M_16), hs9, ⟨rfl, (by exact NmR.cast ho_16 (Zfw om9 (Zfu hg (fun hh => p75 hh.1)))), om9⟩, om9⟩
  have hng : ¬ (p.msgs[q]'om9).stamp ∈ ((Zd p.pivots p.msgs i).take (Zt cl cb k (Zd p.pivots p.msgs i)).2).map Msg.stamp := by have h9 := h71; rw [Zi9] at h9; simpa using h9
  refine g9 14 ?_
  refine WC.cond rfl (fun h69 => ?_) (fun h69 => ?_)
  ·obtain ⟨pau92, pcu92, kau92, kcu92, vmu92, rau92, rcu92, Mmu92, eMu92, hpu92, hku92, hmu92, hru92, hoku92⟩ := ho_16
   subst eMu92
   have hfu92 := hmu92.form
   refine match hfu92 with | ⟨mau92, mcu92, e_93⟩ => ?_
   subst e_93
   dsimp only at hpu92 hku92 hmu92 hru92
   refine WC.perm (M' := ((b59, ce9 60 [iV p.slot, iV p.level, lV pau92 p.pivots.length pcu92, lV kau92 p.kids.length kcu92, sV p.high.b, .bool p.top, iV p.right, iV p.seen, lV mau92 (ZM p.pivots i ((Zd p.pivots p.msgs i).take (Zt cl cb k (Zd p.pivots p.msgs i)).2) (p.msgs.take q)).length mcu92, lV rau92 p.rows.length rcu92]) :: ((b67, ce9 87 [iV ((p.msgs)[q]).stamp, iV ((p.msgs)[q]).kind, sV ((p.msgs)[q]).key.b, sV ((p.msgs)[q]).hi.b, .bool ((p.msgs)[q]).opn, sV ((p.msgs)[q]).val.b]) :: ((b28, ce9 60 (ndl ((Zt cl cb k (Zd p.pivots p.msgs i)).1) pa_hv19 pc_hv19 ka_hv19 kc_hv19 ma_hv19 mc_hv19 ra_hv19 rc_hv19)) :: ((b5, ce9 60 nz9) :: ((b4, ce9 60 nz9) :: ((b3, ce9 60 (ndl k pa_k pc_k ka_k kc_k ma_k mc_k ra_k rc_k)) :: ((b2, ce9 60 (ndl p pa_p pc_p ka_p kc_p ma_p mc_p ra_p rc_p)) :: ((b1, ce9 23 [iV cf, iV cl, iV cb, iV cs, iV cr]) :: (Mmu92 ++ (M_13 ++ []))))))))))) (pmD (pmD (pmD (pmD (pmD (pmD (pmD pr9))))))).symm (g9 4 ?_)
   refine W.lit (e := Zp) (l := [(p.msgs[q]'om9)]) (css := [[iV _, iV _, sV _, sV _, .bool _, sV _]]) ZQ ZR ZL rfl rfl rfl rfl rfl rfl ⟨⟨rfl, hm63⟩, trivial⟩ (fun bl94 G94 hG94 hv94 => (W.app (e := Zp) ZQ ZR ZL rfl XQ rfl rfl ((hmu92.mono hG94)) (hv94) (pmC (pmC (pmC (pmC (pmC (pmC (pmC (pmC pr9)))))))) (by show (List.length _ + 1) * 72 ≤ _; omega) (fun v95 Ms96 ho97 => (W.perm (pmC (pmC (pmC (pmC (pmC (pmC (pmC (pmC pr9)))))))).symm ?_))))
   have q101 := ho97.form
   refine match q101 with | ⟨sa98, sc99, e_100⟩ => ?_
   subst e_100
   refine g9 5 ?_
   have hN102 : NmR 60 87 b59 G94 ({ p with msgs := (ZM p.pivots i ((Zd p.pivots p.msgs i).take (Zt cl cb k (Zd p.pivots p.msgs i)).2) (p.msgs.take q) ++ [(p.msgs[q]'om9)]) }) ((b59, ce9 60 [iV p.slot, iV p.level, lV pau92 p.pivots.length pcu92, lV kau92 p.kids.length kcu92, sV p.high.b, .bool p.top, iV p.right, iV p.seen, lV sa98 ((ZM p.pivots i ((Zd p.pivots p.msgs i).take (Zt cl cb k (Zd p.pivots p.msgs i)).2) (p.msgs.take q) ++ [(p.msgs[q]'om9)])).length sc99, lV rau92 p.rows.length rcu92]) :: Ms96) := ⟨_, _, _, _, _, _, _, _, rfl, (hpu92.mono hG94), (hku92.mono hG94), ho97, (hru92.mono hG94), hok_p⟩
   have hN102 := NmR.cast hN102 (Zfv om9 (ZpN hng))
   refine WC.perm (M' := ((b67, ce9 87 [iV ((p.msgs)[q]).stamp, iV ((p.msgs)[q]).kind, sV ((p.msgs)[q]).key.b, sV ((p.msgs)[q]).hi.b, .bool ((p.msgs)[q]).opn, sV ((p.msgs)[q]).val.b]) :: ((b28, ce9 60 (ndl ((Zt cl cb k (Zd p.pivots p.msgs i)).1) pa_hv19 pc_hv19 ka_hv19 kc_hv19 ma_hv19 mc_hv19 ra_hv19 rc_hv19)) :: ((b5, ce9 60 nz9) :: ((b4, ce9 60 nz9) :: ((b3, ce9 60 (ndl k pa_k pc_k ka_k kc_k ma_k mc_k ra_k rc_k)) :: ((b2, ce9 60 (ndl p pa_p pc_p ka_p kc_p ma_p mc_p ra_p rc_p)) :: ((b1, ce9 23 [iV cf, iV cl, iV cb, iV cs, iV cr]) :: (((b59, ce9 60 [iV p.slot, iV p.level, lV pau92 p.pivots.length pcu92, lV kau92 p.kids.length kcu92, sV p.high.b, .bool p.top, iV p.right, iV p.seen, lV sa98 ((ZM p.pivots i ((Zd p.pivots p.msgs i).take (Zt cl cb k (Zd p.pivots p.msgs i)).2) (p.msgs.take q) ++ [(p.msgs[q]'om9)])).length sc99, lV rau92 p.rows.length rcu92]) :: Ms96) ++ (M_13 ++ [])))))))))) ((pmC (pmC (pmC (pmC (pmC (pmC (pmC pr9))))))).symm.trans (((pmC (pmC (pmC (pmC (pmC (pmC (pmC pr9))))))).cons _).trans pr9)) (g9 3 ?_)
   refine W.sub (sr9.cons _) (g9 2 ?_)
   exact ⟨hG94, (q + 1, ((b59, ce9 60 [iV p.slot, iV p.level, lV pau92 p.pivots.length pcu92, lV kau92 p.kids.length kcu92, sV p.high.b, .bool p.top, iV p.right, iV p.seen, lV sa98 ((ZM p.pivots i ((Zd p.pivots p.msgs i).take (Zt cl cb k (Zd p.pivots p.msgs i)).2) (p.msgs.take q) ++ [(p.msgs[q]'om9)])).length sc99, lV rau92 p.rows.length rcu92]) :: Ms96)), hs9, ⟨rfl, (by exact hN102), om9⟩, om9⟩
  exfalso
  simp_all
 refine g9 11 ?_
 refine (hv20.mono ((hG43.trans hG53).trans hG61)).a2 (i := ((Zd p.pivots p.msgs i).take (Zt cl cb k (Zd p.pivots p.msgs i)).2).length - 1) om9 (fun he103 hm104 => (W.ok (Z1 (i := ((Zd p.pivots p.msgs i).take (Zt cl cb k (Zd p.pivots p.msgs i)).2).length - 1) ZQ ZR (hv20.mono lec) rfl rfl ⟨om9, om9⟩) (g9 7 ?_)))
 have hN108 := NmR.cast ho_16 (n' := { p with msgs := ZM p.pivots i ((Zd p.pivots p.msgs i).take (Zt cl cb k (Zd p.pivots p.msgs i)).2) p.msgs }) (by rw [List.take_of_length_le (show p.msgs.length ≤ q by omega)])
 have hTl : (((Zd p.pivots p.msgs i).take (Zt cl cb k (Zd p.pivots p.msgs i)).2)[((Zd p.pivots p.msgs i).take (Zt cl cb k (Zd p.pivots p.msgs i)).2).length - 1]'om9).Ok := hm104
 obtain ⟨pau109, pcu109, kau109, kcu109, vmu109, rau109, rcu109, Mmu109, eMu109, hpu109, hku109, hmu109, hru109, hoku109⟩ := hN108
 subst eMu109
 have hfu109 := hmu109.form
 refine match hfu109 with | ⟨mau109, mcu109, e_110⟩ => ?_
 subst e_110
 dsimp only at hpu109 hku109 hmu109 hru109
 refine WC.perm (M' := ((b59, ce9 60 [iV p.slot, iV p.level, lV pau109 p.pivots.length pcu109, lV kau109 p.kids.length kcu109, sV p.high.b, .bool p.top, iV p.right, iV p.seen, lV mau109 (ZM p.pivots i ((Zd p.pivots p.msgs i).take (Zt cl cb k (Zd p.pivots p.msgs i)).2) p.msgs).length mcu109, lV rau109 p.rows.length rcu109]) :: ((b28, ce9 60 [iV ((Zt cl cb k (Zd p.pivots p.msgs i)).1).slot, iV ((Zt cl cb k (Zd p.pivots p.msgs i)).1).level, lV pa_hv19 (((Zt cl cb k (Zd p.pivots p.msgs i)).1).pivots).length pc_hv19, lV ka_hv19 (((Zt cl cb k (Zd p.pivots p.msgs i)).1).kids).length kc_hv19, sV ((Zt cl cb k (Zd p.pivots p.msgs i)).1).high.b, .bool ((Zt cl cb k (Zd p.pivots p.msgs i)).1).top, iV ((Zt cl cb k (Zd p.pivots p.msgs i)).1).right, iV ((((Zd p.pivots p.msgs i).take (Zt cl cb k (Zd p.pivots p.msgs i)).2))[(((Zd p.pivots p.msgs i).take (Zt cl cb k (Zd p.pivots p.msgs i)).2).length - 1)]).stamp, lV ma_hv19 (((Zt cl cb k (Zd p.pivots p.msgs i)).1).msgs).length mc_hv19, lV ra_hv19 (((Zt cl cb k (Zd p.pivots p.msgs i)).1).rows).length rc_hv19]) :: ((b5, ce9 60 nz9) :: ((b4, ce9 60 nz9) :: ((b3, ce9 60 (ndl k pa_k pc_k ka_k kc_k ma_k mc_k ra_k rc_k)) :: ((b2, ce9 60 (ndl p pa_p pc_p ka_p kc_p ma_p mc_p ra_p rc_p)) :: ((b1, ce9 23 [iV cf, iV cl, iV cb, iV cs, iV cr]) :: (Mmu109 ++ (M_13 ++ [])))))))))) (pmD (pmD (pmD (pmD (pmD (pmD pr9)))))).symm (WC.giveO hmu109 (pmC (pmC (pmC (pmC (pmC (pmC (pmC pr9))))))) (fun G111 hG111 hv111 => (WC.dw ((((((sr9.k9.k9).k9).cons _).cons _).k9).k9) (d9 [0, 1, 2, 3, 4, 5, 6] ?_))))
 refine g9 4 ?_
 refine ⟨rfl, _, (ZpM hko rfl om9).symm, _, _, rfl, ?_, ?_⟩
 · exact ⟨_, _, _, _, _, _, _, _, rfl, (hpu109.mono hG111), (hku109.mono hG111), hv111, (hru109.mono hG111), hok_p⟩
 exact ⟨_, _, _, _, _, _, _, _, rfl, (hp_hv19.mono lec), (hk_hv19.mono lec), (hm_hv19.mono lec), (hr_hv19.mono lec), ⟨hok_hv19.1, hok_hv19.2.1, hok_hv19.2.2.1, hTl.1⟩⟩

theorem ZrZ {G : GH} {v_ss : Value} {ss : List Seat} (h_ss : SlR Zat G v_ss ss) :
    Fc Tryz.prog 54 [v_ss] G [] (fun v _ _ => v = .bool (decide (LinkedP ss))) := by
 obtain ⟨sa_ss, sc_ss, rfl⟩ := h_ss.form
 have hl := h_ss.len47
 refine Fc.go [.tmp 2] Tryz.func54 Tryz.ntmps54 rfl (fun w0 => (g9 12 ?_))
 refine WC.loop (X := Nat) (fun i => [(3, nt9 i), (0, lV sa_ss ss.length sc_ss)]) (fun i _ Ml => Ml = [] ∧ i ≤ ss.length ∧ ∀ j (h : j < ss.length), j < i → ss[j].n.right = Jp ss j) (fun i => ss.length - i) 0 hs9 ?_ ?_
 ·exact ⟨rfl, om9, fun j _ h => by omega⟩
 rintro i gG1 G1 _ hG1 ⟨rfl, hi, hi2⟩
 refine g9 9 ?_
 refine WC.cd (fun h8 p8 => ?_) (fun h8 p8 => ?_)
 ·refine g9 18 ?_
  refine W.sd 16 (fun h15 p15 => ?_) (fun h15 p15 => ?_)
  ·refine g9 7 ?_
   have q5 := (h_ss.mono hG1).at (i := i + 1) om9
   refine match q5 with | ⟨_, he2, ⟨_, _, _, _, _, _, _, _, qa_t3, qc_t3, e_4, hp_t3, hk_t3, hm_t3, hr_t3, hq_t3, hok_t3⟩⟩ => ?_
   subst e_4
   refine W.ok (Z1 (i := i + 1) Za0 ZaC (h_ss.mono hG1) rfl rfl ⟨om9, om9⟩) (g9 11 ?_)
   have q9 := (h_ss.mono hG1).at (i := i) om9
   refine match q9 with | ⟨_, he6, ⟨_, _, _, _, _, _, _, _, qa_t7, qc_t7, e_8, hp_t7, hk_t7, hm_t7, hr_t7, hq_t7, hok_t7⟩⟩ => ?_
   subst e_8
   refine g9 12 ?_
   refine WC.cd (fun h30 p30 => ?_) (fun h30 p30 => ?_)
   ·refine g9 4 ?_
    have q13 := (h_ss.mono hG1).at (i := i + 1) om9
    refine match q13 with | ⟨_, he10, ⟨_, _, _, _, _, _, _, _, qa_t11, qc_t11, e_12, hp_t11, hk_t11, hm_t11, hr_t11, hq_t11, hok_t11⟩⟩ => ?_
    subst e_12
    refine W.ok (Z1 (i := i + 1) Za0 ZaC (h_ss.mono hG1) rfl rfl ⟨om9, om9⟩) (g9 10 ?_)
    have q17 := (h_ss.mono hG1).at (i := i) om9
    refine match q17 with | ⟨_, he14, ⟨_, _, _, _, _, _, _, _, qa_t15, qc_t15, e_16, hp_t15, hk_t15, hm_t15, hr_t15, hq_t15, hok_t15⟩⟩ => ?_
    subst e_16
    refine g9 8 ?_
    refine WC.cn (fun h46 p46 => ?_) (fun h46 p46 => ?_)
    ·refine g9 12 ?_
     refine congrArg Value.bool ?_
     exact (decide_eq_false fun h => by have h := h i om9; rw [Zlo om9 p30] at h; exact p46 h).symm
    refine g9 9 ?_
    exact ⟨Le.rfl, i + 1, hs9, ⟨rfl, om9, fun j h hj => by
      by_cases e : j = i
      · subst e; rw [Zlo om9 p30]; exact p46
      · exact hi2 j h om9⟩, om9⟩
   refine g9 6 ?_
   have q21 := (h_ss.mono hG1).at (i := i) om9
   refine match q21 with | ⟨_, he18, ⟨_, _, _, _, _, _, _, _, qa_t19, qc_t19, e_20, hp_t19, hk_t19, hm_t19, hr_t19, hq_t19, hok_t19⟩⟩ => ?_
   subst e_20
   refine g9 8 ?_
   refine WC.cn (fun h46 p46 => ?_) (fun h46 p46 => ?_)
   ·refine g9 12 ?_
    refine congrArg Value.bool ?_
    exact (decide_eq_false fun h => by have h := h i om9; rw [Zlp om9 p30] at h; exact p46 h).symm
   refine g9 9 ?_
   exact ⟨Le.rfl, i + 1, hs9, ⟨rfl, om9, fun j h hj => by
      by_cases e : j = i
      · subst e; rw [Zlp om9 p30]; exact p46
      · exact hi2 j h om9⟩, om9⟩
  refine g9 24 ?_
  have q25 := (h_ss.mono hG1).at (i := i) om9
  refine match q25 with | ⟨_, he22, ⟨_, _, _, _, _, _, _, _, qa_t23, qc_t23, e_24, hp_t23, hk_t23, hm_t23, hr_t23, hq_t23, hok_t23⟩⟩ => ?_
  subst e_24
  refine g9 8 ?_
  refine WC.cn (fun h46 p46 => ?_) (fun h46 p46 => ?_)
  ·refine g9 12 ?_
   refine congrArg Value.bool ?_
   exact (decide_eq_false fun h => by have h := h i om9; rw [ZcV om9] at h; exact p46 h).symm
  refine g9 9 ?_
  exact ⟨Le.rfl, i + 1, hs9, ⟨rfl, om9, fun j h hj => by
      by_cases e : j = i
      · subst e; rw [ZcV om9]; exact p46
      · exact hi2 j h om9⟩, om9⟩
 refine g9 12 ?_
 refine congrArg Value.bool ?_
 exact (decide_eq_true (fun j h => hi2 j h om9)).symm

theorem Zr0 {G : GH} {v_l : Value} {l : List Nd} (h_l : SlR ZA G v_l l) {v_ss : Value} {ss : List Seat} (h_ss : SlR Zat G v_ss ss) :
    Fc Tryz.prog 53 [v_l, v_ss] G [] (fun v _ _ => v = .bool (decide (OnceP l ss))) := by
 obtain ⟨sa_l, sc_l, rfl⟩ := h_l.form
 obtain ⟨sa_ss, sc_ss, rfl⟩ := h_ss.form
 have hl := h_l.len47
 have hl2 := h_ss.len47
 refine Fc.go [.tmp 4] Tryz.func53 Tryz.ntmps53 rfl (fun w0 => (g9 15 ?_))
 refine WC.cn (fun h12 p12 => ?_) (fun h12 p12 => ?_)
 ·refine g9 8 ?_
  refine congrArg Value.bool ?_
  exact (decide_eq_false fun h => by have := h.1; omega).symm
 refine g9 9 ?_
 refine WC.loop (X := Nat) (fun i => [(5, nt9 i), (0, lV sa_l l.length sc_l), (1, lV sa_ss ss.length sc_ss)]) (fun i _ Ml => Ml = [] ∧ i ≤ l.length ∧ ∀ j (h : j < l.length), j < i → (JE ss l[j].slot).length = 1) (fun i => l.length - i) 0 hs9 ?_ ?_
 ·exact ⟨rfl, om9, fun j _ h => by omega⟩
 rintro i gG26 G26 _ hG26 ⟨rfl, hi, hi2⟩
 refine g9 9 ?_
 refine WC.cd (fun h16 p16 => ?_) (fun h16 p16 => ?_)
 ·refine g9 16 ?_
  refine WC.loop (X := Nat) (fun j => [(6, nt9 ((JE (ss.take j) (l[i]'om9).slot).length)), (7, nt9 j), (0, lV sa_l l.length sc_l), (1, lV sa_ss ss.length sc_ss), (5, nt9 i)]) (fun j _ Ml => Ml = [] ∧ j ≤ ss.length) (fun j => ss.length - j) 0 hs9 ?_ ?_
  ·exact ⟨rfl, om9⟩
  rintro j gG27 G27 _ hG27 ⟨rfl, hj⟩
  have hsl := ZtX ss (l[i]'om9).slot j
  refine g9 9 ?_
  refine WC.cd (fun h22 p22 => ?_) (fun h22 p22 => ?_)
  ·refine g9 8 ?_
   have q31 := (h_ss.mono (hG26.trans hG27)).at (i := j) om9
   refine match q31 with | ⟨_, he28, ⟨_, _, _, _, _, _, _, _, qa_t29, qc_t29, e_30, hp_t29, hk_t29, hm_t29, hr_t29, hq_t29, hok_t29⟩⟩ => ?_
   subst e_30
   refine g9 6 ?_
   refine (h_l.mono (hG26.trans hG27)).aN (i := i) om9 (fun _ _ _ _ _ _ _ _ he32 hp_n33 hk_n33 hm_n33 hr_n33 hok_n33 => (g9 6 ?_))
   refine WC.cd (fun h36 p36 => ?_) (fun h36 p36 => ?_)
   ·refine g9 13 ?_
    exact ⟨Le.rfl, j + 1, ⟨(congrArg (fun n : Nat => Value.int .i64 (n : Int)) (by rw [ZtV om9 p36]; simp)), eqv, eqv, eqv, eqv, trivial⟩, ⟨rfl, om9⟩, om9⟩
   refine g9 9 ?_
   exact ⟨Le.rfl, j + 1, ⟨(congrArg (fun n : Nat => Value.int .i64 (n : Int)) (by rw [ZtW om9 p36])), eqv, eqv, eqv, eqv, trivial⟩, ⟨rfl, om9⟩, om9⟩
  refine g9 11 ?_
  refine WC.cn (fun h40 p40 => ?_) (fun h40 p40 => ?_)
  ·refine g9 12 ?_
   refine congrArg Value.bool ?_
   exact (decide_eq_false fun h => (by have h0 := h.2 i om9; have h1 := p40; rw [List.take_of_length_le om9] at h1; omega)).symm
  refine g9 9 ?_
  exact ⟨hG27, i + 1, hs9, ⟨rfl, om9, fun j h hj => by
      by_cases e : j = i
      · subst e; have h0 := p40; rw [List.take_of_length_le om9] at h0; omega
      · exact hi2 j h om9⟩, om9⟩
 refine g9 12 ?_
 refine congrArg Value.bool ?_
 exact (decide_eq_true ⟨om9, fun j h => hi2 j h om9⟩).symm

theorem Zr1 {G : GH} {cs_x : List Value} {x : Seat} (h_x : SeatC G cs_x x) (hks : ∀ m ∈ x.n.msgs, m.key.b.size < 140737488355328) :
    Fc Tryz.prog 56 [.agg (List.toArray cs_x)] G [] (fun v _ _ => v = .bool (decide (PlacedP x))) := by
 obtain ⟨pa_x, pc_x, ka_x, kc_x, ma_x, mc_x, ra_x, rc_x, qa_x, qc_x, rfl, hp_x, hk_x, hm_x, hr_x, hq_x, hok_x⟩ := h_x
 have h1 := hp_x.len47
 have h2 := hk_x.len47
 have h3 := hm_x.len47
 have h4 := hr_x.len47
 refine Fc.go [.tmp 2] Tryz.func56 Tryz.ntmps56 rfl (fun w0 => (g9 2 ?_))
 refine W.box (L := [iV _, iV _, lV _ _ _, lV _ _ _, sV _, .bool _, iV _, iV _, lV _ _ _, lV _ _ _, sV _, sV _, .bool _, lV _ _ _]) rfl rfl (fun b36 => (g9 12 ?_))
 refine W.ok (ZlH bo4 rfl rfl) (W.mv ?_)
 refine W.sp 14 rfl (fun h13 => ?_) (fun h13 => ?_)
 ·refine g9 19 ?_
  refine congrArg Value.bool ?_
  exact (decide_eq_false fun h => by have h1 := h.1.1; rw [h1] at h13; simp at h13).symm
 refine g9 17 ?_
 refine WC.cn (fun h21 p21 => ?_) (fun h21 p21 => ?_)
 ·refine g9 8 ?_
  refine congrArg Value.bool ?_
  exact (decide_eq_false fun h => by have h1 := h.1.2; rw [h1] at h21; simp at h21).symm
 refine g9 9 ?_
 refine WC.loop (X := Nat) (fun k => [(3, nt9 k), (1, pt9 b36)]) (fun k _ Ml => Ml = [(b36, ce9 64 [iV x.n.slot, iV x.n.level, lV pa_x (x.n.pivots).length pc_x, lV ka_x (x.n.kids).length kc_x, sV x.n.high.b, .bool x.n.top, iV x.n.right, iV x.n.seen, lV ma_x (x.n.msgs).length mc_x, lV ra_x (x.n.rows).length rc_x, sV (x.s).lo.b, sV (x.s).hi.b, .bool (x.s).opn, lV qa_x (x.ms).length qc_x])] ∧ ∀ i (h : i < x.n.rows.length), i < k → x.s.has x.n.rows[i].key = true) (fun k => x.n.rows.length - k) 0 hs9 ?_ ?_
 ·exact ⟨rfl, fun i _ h => by omega⟩
 rintro k gG37 G37 _ hG37 ⟨rfl, hk1⟩
 refine g9 11 ?_
 refine WC.cd (fun h28 p28 => ?_) (fun h28 p28 => ?_)
 ·refine g9 12 ?_
  refine (hr_x.mono hG37).a1 (i := k) om9 (fun he38 => (g9 3 ?_))
  refine W.qcall (Ze6 _ _ _ _) rfl (g9 3 ?_)
  refine WC.cond rfl (fun h41 => ?_) (fun h41 => ?_)
  ·refine g9 12 ?_
   refine congrArg Value.bool ?_
   exact (decide_eq_false fun h => by have h1 := h.2.1 k om9; rw [h1] at h41; simp at h41).symm
  refine g9 9 ?_
  exact ⟨Le.rfl, k + 1, hs9, ⟨rfl, fun i h hi => by
      by_cases e : i = k
      · subst e; simpa using h41
      · exact hk1 i h om9⟩, om9⟩
 refine g9 12 ?_
 refine WC.loop (X := Nat) (fun k => [(4, nt9 k), (1, pt9 b36)]) (fun k _ Ml => Ml = [(b36, ce9 64 [iV x.n.slot, iV x.n.level, lV pa_x (x.n.pivots).length pc_x, lV ka_x (x.n.kids).length kc_x, sV x.n.high.b, .bool x.n.top, iV x.n.right, iV x.n.seen, lV ma_x (x.n.msgs).length mc_x, lV ra_x (x.n.rows).length rc_x, sV (x.s).lo.b, sV (x.s).hi.b, .bool (x.s).opn, lV qa_x (x.ms).length qc_x])] ∧ ∀ i (h : i < x.n.pivots.length), i < k → x.s.has x.n.pivots[i] = true ∧ x.n.pivots[i] ≠ x.s.lo) (fun k => x.n.pivots.length - k) 0 hs9 ?_ ?_
 ·exact ⟨rfl, fun i _ h => by omega⟩
 rintro k gG41 G41 _ hG41 ⟨rfl, hk2⟩
 refine g9 11 ?_
 refine WC.cond rfl (fun h47 => ?_) (fun h47 => ?_)
 ·have p47 := odt h47
  refine g9 12 ?_
  refine (hp_x.mono (hG37.trans hG41)).a1 (i := k) om9 (fun he42 => (g9 2 ?_))
  refine W.qcall (Ze6 _ _ _ _) rfl (g9 2 ?_)
  refine W.sp 60 rfl (fun h59 => ?_) (fun h59 => ?_)
  ·refine g9 26 ?_
   refine congrArg Value.bool ?_
   exact (decide_eq_false fun h => by have h1 := (h.2.2.1 k om9).1; rw [h1] at h59; simp at h59).symm
  refine g9 9 ?_
  refine (hp_x.mono (hG37.trans hG41)).a1 (i := k) om9 (fun he45 => (g9 14 ?_))
  refine WC.cd (fun h70 p70 => ?_) (fun h70 p70 => ?_)
  ·refine g9 12 ?_
   refine congrArg Value.bool ?_
   exact (decide_eq_false fun h => by have h1 := (h.2.2.1 k om9).2; exact h1 (Str.ext' p70)).symm
  refine g9 9 ?_
  exact ⟨Le.rfl, k + 1, hs9, ⟨rfl, fun i h hi => by
      by_cases e : i = k
      · subst e; exact ⟨by simpa using h59, fun e => p70 (congrArg Str.b e)⟩
      · exact hk2 i h om9⟩, om9⟩
 have p47 := odf h47
 refine g9 12 ?_
 refine WC.loop (X := Nat) (fun k => [(5, nt9 k), (1, pt9 b36)]) (fun k _ Ml => Ml = [(b36, ce9 64 [iV x.n.slot, iV x.n.level, lV pa_x (x.n.pivots).length pc_x, lV ka_x (x.n.kids).length kc_x, sV x.n.high.b, .bool x.n.top, iV x.n.right, iV x.n.seen, lV ma_x (x.n.msgs).length mc_x, lV ra_x (x.n.rows).length rc_x, sV (x.s).lo.b, sV (x.s).hi.b, .bool (x.s).opn, lV qa_x (x.ms).length qc_x])] ∧ ∀ i (h : i < x.n.msgs.length), i < k → x.n.msgs[i].span.meet x.s = x.n.msgs[i].span.norm) (fun k => x.n.msgs.length - k) 0 hs9 ?_ ?_
 ·exact ⟨rfl, fun i _ h => by omega⟩
 rintro k gG48 G48 _ hG48 ⟨rfl, hk3⟩
 refine g9 11 ?_
 refine WC.cond rfl (fun h77 => ?_) (fun h77 => ?_)
 ·have p77 := odt h77
  refine g9 10 ?_
  refine (hm_x.mono ((hG37.trans hG41).trans hG48)).a2 (i := k) om9 (fun he49 hm50 => (g9 2 ?_))
  refine W.qcall (ZbH _ _ _ _ _ _ (hks _ (List.getElem_mem _))) rfl (W.alloc Zy (fun b54 => (g9 8 ?_)))
  refine W.qcall (Za4 _ _ _ _ _ _) rfl (g9 1 ?_)
  refine W.qcall (Jh _ _ _) rfl (W.ok (ZlQ (L1 := [sV _, sV _, .bool _]) (L2 := [sV _, sV _, .bool _]) Zov rfl rfl rfl rfl) (g9 2 ?_))
  refine WC.cond rfl (fun h93 => ?_) (fun h93 => ?_)
  ·refine g9 12 ?_
   refine congrArg Value.bool ?_
   exact (decide_eq_false fun h => by have h1 := h.2.2.2 k om9; have h0 : (!YU (((x.n.msgs[k]).span.meet x.s).cells) ((x.n.msgs[k]).span.norm.cells)) = true := h93; rw [Span.eqC, h1] at h0; simp at h0).symm
  refine g9 7 ?_
  refine W.sub (sr9.cons _) (g9 2 ?_)
  exact ⟨Le.rfl, k + 1, hs9, ⟨rfl, fun i h hi => by
      by_cases e : i = k
      · subst e; have h0 : (!YU (((x.n.msgs[i]).span.meet x.s).cells) ((x.n.msgs[i]).span.norm.cells)) = false := h93; rw [Span.eqC] at h0; simpa using h0
      · exact hk3 i h om9⟩, om9⟩
 have p77 := odf h77
 refine g9 12 ?_
 refine congrArg Value.bool ?_
 exact (decide_eq_true ⟨⟨by simpa using h13, Str.ext' p21⟩, (fun i h => hk1 i h om9), (fun i h => hk2 i h om9), fun i h => hk3 i h om9⟩).symm

theorem Zr2 {G : GH} (cfan : Int) (cleaf : Int) (cbud : Int) (cslots : Int) (crest : Int) {v_l : Value} {l : List Nd} (h_l : SlR ZA G v_l l) (hS : Sml l) :
    Fc Tryz.prog 20 [.agg #[iV cfan, iV cleaf, iV cbud, iV cslots, iV crest], v_l] G [] (fun v _ _ => v = .bool (Zb8 (⟨cfan, cleaf, cbud, cslots, crest⟩ : Cfg) l)) := by
 obtain ⟨sa_l, sc_l, rfl⟩ := h_l.form
 have hl := h_l.len47
 have hl100 := hS.1
 refine Fc.go [.tmp 4] Tryz.func20 Tryz.ntmps20 rfl (fun w0 => (g9 2 ?_))
 refine W.box (L := [iV _, iV _, iV _, iV _, iV _]) rfl rfl (fun b55 => (g9 6 ?_))
 refine W.call (Mp := []) (Zfz h_l _ (by assumption)) rfl pr9 ?_
 intro v58 G56 _ hG56 q57
 have q59 := q57.1
 subst q59
 have q60 := q57.2
 refine Or.elim q60 (fun q61 => ?_) (fun q62 => ?_)
 ·refine match q61 with | ⟨u_s63, ss, hss, e_64, hv_s63, hqs⟩ => ?_
  subst e_64
  have q66 := hv_s63.form
  refine match q66 with | ⟨sa_s63, sc_s63, e_65⟩ => ?_
  subst e_65
  have hss47 := hv_s63.len47
  refine g9 18 ?_
  refine W.qcall (Zr0 (h_l.mono hG56) hv_s63) rfl (g9 4 ?_)
  refine W.sp 23 rfl (fun h21 => ?_) (fun h21 => ?_)
  ·refine g9 22 ?_
   refine congrArg Value.bool ?_
   rw [Zav hss]
   exact (decide_eq_false fun h => by have h1 := h.1.1; simp [h1] at h21).symm
  refine g9 3 ?_
  refine W.qcall (ZrZ hv_s63) rfl (g9 4 ?_)
  refine W.sp 28 rfl (fun h26 => ?_) (fun h26 => ?_)
  ·refine g9 17 ?_
   refine congrArg Value.bool ?_
   rw [Zav hss]
   exact (decide_eq_false fun h => by have h1 := h.1.2.1; simp [h1] at h26).symm
  refine g9 13 ?_
  refine WC.cd (fun h33 p33 => ?_) (fun h33 p33 => ?_)
  ·refine g9 8 ?_
   refine congrArg Value.bool ?_
   rw [Zav hss]
   exact (decide_eq_false fun h => by have h1 := h.1.2.2; dsimp only at h1; omega).symm
  refine g9 9 ?_
  refine WC.loop (X := Nat) (fun i => [(7, nt9 i), (2, pt9 b55), (5, lV sa_s63 ss.length sc_s63)]) (fun i _ Ml => Ml = [(b55, ce9 23 [iV cfan, iV cleaf, iV cbud, iV cslots, iV crest])] ∧ i ≤ ss.length ∧ ∀ j (h : j < ss.length), j < i → SeatP (⟨cfan, cleaf, cbud, cslots, crest⟩ : Cfg) ss[j]) (fun i => ss.length - i) 0 hs9 ?_ ?_
  ·exact ⟨rfl, om9, fun j _ h => by omega⟩
  rintro i gG67 G67 _ hG67 ⟨rfl, hi, hi2⟩
  refine g9 9 ?_
  refine WC.cond rfl (fun h38 => ?_) (fun h38 => ?_)
  ·have p38 := odt h38
   refine g9 8 ?_
   have q71 := (hv_s63.mono hG67).at (i := i) om9
   refine match q71 with | ⟨_, he68, ⟨pa_t69, pc_t69, ka_t69, kc_t69, ma_t69, mc_t69, ra_t69, rc_t69, qa_t69, qc_t69, e_70, hp_t69, hk_t69, hm_t69, hr_t69, hq_t69, hok_t69⟩⟩ => ?_
   subst e_70
   obtain ⟨sx, hssx⟩ : ∃ y, y = ((ss)[i]) := ⟨_, rfl⟩
   rw [← hssx] at he68 hp_t69 hk_t69 hm_t69 hr_t69 hq_t69 hok_t69
   refine g9 2 ?_
   refine W.alloc Zag (fun b72 => (g9 5 ?_))
   have hsx := hqs i om9
   rw [← hssx] at hsx
   have hms := hsx.ms
   have hnd := hS.at hsx.nd
   have hk1 : ∀ m ∈ sx.n.msgs, m.key.b.size < 140737488355328 := fun m hm => by have := hnd.2.2.2.2.2.1 m hm; omega
   refine g9 4 ?_
   refine W.qcall (Zrw _ _ _ _ _ (nk9 hp_t69 hk_t69 hm_t69 hr_t69 hok_t69)) rfl (g9 2 ?_)
   refine W.sp 50 rfl (fun h49 => ?_) (fun h49 => ?_)
   ·refine g9 28 ?_
    refine congrArg Value.bool ?_
    rw [Zav hss]
    exact (decide_eq_false fun h => by have h1 := (h.2 i om9).1; rw [← hssx] at h1; dsimp only at h1; simp [h1] at h49).symm
   refine g9 3 ?_
   refine W.qcall (Zr1 ⟨_, _, _, _, _, _, _, _, _, _, rfl, hp_t69, hk_t69, hm_t69, hr_t69, hq_t69, hok_t69⟩ hk1) rfl (g9 4 ?_)
   refine W.sp 55 rfl (fun h53 => ?_) (fun h53 => ?_)
   ·refine g9 23 ?_
    refine congrArg Value.bool ?_
    rw [Zav hss]
    exact (decide_eq_false fun h => by have h1 := (h.2 i om9).2.1; rw [← hssx] at h1; simp [h1] at h53).symm
   refine g9 15 ?_
   refine WC.cd (fun h61 p61 => ?_) (fun h61 p61 => ?_)
   ·refine g9 13 ?_
    refine congrArg Value.bool ?_
    rw [Zav hss]
    exact (decide_eq_false fun h => by have h1 := (h.2 i om9).2.2.1; rw [← hssx] at h1; dsimp only at h1; omega).symm
   refine g9 8 ?_
   refine WC.loop (X := Nat) (fun j => [(9, nt9 j), (2, pt9 b55), (8, pt9 b72), (5, lV sa_s63 ss.length sc_s63), (7, nt9 i)]) (fun j _ Ml => Ml = [(b72, ce9 64 [iV sx.n.slot, iV sx.n.level, lV pa_t69 (sx.n.pivots).length pc_t69, lV ka_t69 (sx.n.kids).length kc_t69, sV sx.n.high.b, .bool sx.n.top, iV sx.n.right, iV sx.n.seen, lV ma_t69 (sx.n.msgs).length mc_t69, lV ra_t69 (sx.n.rows).length rc_t69, sV (sx.s).lo.b, sV (sx.s).hi.b, .bool (sx.s).opn, lV qa_t69 (sx.ms).length qc_t69]), (b55, ce9 23 [iV cfan, iV cleaf, iV cbud, iV cslots, iV crest])] ∧ ∀ j2 (h : j2 < sx.ms.length), j2 < j → sx.n.seen < sx.ms[j2].stamp) (fun j => sx.ms.length - j) 0 hs9 ?_ ?_
   ·exact ⟨rfl, fun i _ h => by omega⟩
   rintro j gG73 G73 _ hG73 ⟨rfl, hj2'⟩
   refine g9 10 ?_
   refine WC.cond rfl (fun h67 => ?_) (fun h67 => ?_)
   ·have p67 := odt h67
    refine g9 9 ?_
    refine (hq_t69.mono hG73).a2 (i := j) om9 (fun he74 hm75 => (g9 9 ?_))
    refine WC.cd (fun h79 p79 => ?_) (fun h79 p79 => ?_)
    ·refine g9 16 ?_
     refine congrArg Value.bool ?_
     rw [Zav hss]
     exact (decide_eq_false fun h => by have h1 := (h.2 i om9).2.2.2; rw [← hssx] at h1; have := h1 j om9; omega).symm
    refine g9 9 ?_
    exact ⟨Le.rfl, j + 1, hs9, ⟨rfl, fun i2 h hi3 => by
      by_cases e : i2 = j
      · subst e; omega
      · exact hj2' i2 h om9⟩, om9⟩
   have p67 := odf h67
   refine g9 10 ?_
   refine W.sub (sr9.cons _) (g9 2 ?_)
   exact ⟨hG73, i + 1, hs9, ⟨rfl, om9, fun j2 h hj2 => by
      by_cases e : j2 = i
      · subst e; rw [← hssx]; exact ⟨by simpa using h49, by simpa using h53, by dsimp only; omega, fun j2 h2 => hj2' j2 h2 om9⟩
      · exact hi2 j2 h om9⟩, om9⟩
  have p38 := odf h38
  refine g9 12 ?_
  refine congrArg Value.bool ?_
  rw [Zav hss]
  exact (decide_eq_true ⟨⟨by simpa using h21, by simpa using h26, by dsimp only; omega⟩, fun j h => hi2 j h om9⟩).symm
 refine match q62 with | ⟨u_s79, sxs79, hsn, e_80, hv_s79⟩ => ?_
 subst e_80
 refine g9 41 ?_
 refine congrArg Value.bool ?_
 exact (ZtU hsn).symm

theorem Zr3 {G : GH} {b : Nat} {c c2 : Cfg} {l : List Nd} {ss : List Seat} {M : MH} (h : StR 60 4 3 189 139 b c G l M) (t : Tree c2 l ss) {x : Seat} (hx : x ∈ ss) : Fc Tryz.prog 67 [pt9 b, iV x.n.slot] G M (fun v G' M' => (∃ cs, v = .tuple #[.agg (List.toArray cs), .bool true] ∧ NodeC G' cs x.n) ∧ M' = M) :=
  (Zai h _).mono fun v G' M' _ ⟨⟨cs, e1, e2⟩, e3⟩ => ⟨⟨cs, by rw [e1, decide_eq_true (t.nd hx).1], e2.of (t.nd hx).2.1.symm⟩, e3⟩
theorem Zkn {G : GH} {b_s : Nat} {c c2 : Cfg} {l : List Nd} {ss : List Seat} {Ms_s : MH} (h_s : StR 60 4 3 189 139 b_s c G l Ms_s) (t : Tree c2 l ss) (k : Str) :
    Fc Tryz.prog 142 [pt9 b_s, sV k.b] G Ms_s (fun v G' M' => M' = Ms_s ∧ ∃ u1 u2, v = .tuple #[u1, u2] ∧ SlR ZA G' u1 ((ZC l k).map (·.n)) ∧ SlR XD G' u2 ((ZC l k).map (·.s))) := by
 refine Fc.go [.tmp 4, .tmp 5] Tryz.func142 Tryz.ntmps142 rfl (fun w0 => (WC.perm (M' := (Ms_s ++ [])) (by simp) (g9 8 ?_)))
 refine W.qcall (Ze7 ) rfl (W.alloc Zy (fun b11 => (g9 10 ?_)))
 refine WC.loop (X := (Seat × List Seat × Int) × Value × MH × Value × MH) (fun x => [(6, iV x.1.1.n.slot), (8, iV x.1.2.2), (0, pt9 b_s), (7, pt9 b11), (1, sV k.b), (4, x.2.1), (5, x.2.2.2.1)]) (fun x G Ml => Ml = ((b11, ce9 62 [sV (x.1.1.s).lo.b, sV (x.1.1.s).hi.b, .bool (x.1.1.s).opn]) :: (x.2.2.1 ++ (x.2.2.2.2 ++ (Ms_s ++ [])))) ∧ OwnR ZA 60 G x.2.1 (x.1.2.1.map (fun y : Seat => y.n)) x.2.2.1 ∧ OwnR XD 62 G x.2.2.2.1 (x.1.2.1.map (fun y : Seat => y.s)) x.2.2.2.2 ∧ At l ss k x.1.1 x.1.2.1 x.1.2.2) (fun x => x.1.1.n.level.toNat) (((Zm l 0, [], -1) : Seat × List Seat × Int), lV none 0 0, ([] : MH), lV none 0 0, ([] : MH)) ⟨(congrArg (Value.int .i64) t.root0.symm), eqv, eqv, eqv, eqv, eqv, eqv, trivial⟩ ?_ ?_
 ·exact ⟨rfl, (by simpa using OwnR.nil), (by simpa using OwnR.nil), At.init t k⟩
 rintro ⟨⟨x, P, lv⟩, v_4, M_4, v_5, M_5⟩ gG12 G12 _ hG12 ⟨rfl, ho_4, ho_5, hA⟩
 try dsimp only at ho_4 ho_5 hA
 have hpl := hA.plen t
 have hlx := t.lvl hA.mem
 have hlv := hA.lv
 refine g9 5 ?_
 refine W.call (Mp := Ms_s) (Zr3 (StR.mono hG12 h_s) t hA.mem) rfl (pmC (pmA (pmA pr9))) ?_
 intro v16 G13 Ms15 hG13 q14
 refine match q14 with | ⟨⟨_, e_18, ⟨pa_hR17, pc_hR17, ka_hR17, kc_hR17, ma_hR17, mc_hR17, ra_hR17, rc_hR17, e_19, hp_hR17, hk_hR17, hm_hR17, hr_hR17, hok_hR17⟩⟩, eeq14⟩ => ?_
 subst e_18
 subst e_19
 have eeq14 := eeq14.symm
 subst eeq14
 refine W.perm (pmC pr9).symm (g9 3 ?_)
 refine W.alloc Zo (fun b20 => (g9 16 ?_))
 refine W.sd 24 (fun h23 p23 => ?_) (fun h23 p23 => ?_)
 ·try dsimp only at p23
  have hlv4 := hok_hR17.2.1.2
  refine g9 15 ?_
  refine WC.cn (fun h29 p29 => ?_) (fun h29 p29 => ?_)
  ·try dsimp only at p29
   exfalso; omega
  try dsimp only at p29
  refine g9 2 ?_
  refine WC.perm (M' := ((b20, ce9 60 (ndl x.n pa_hR17 pc_hR17 ka_hR17 kc_hR17 ma_hR17 mc_hR17 ra_hR17 rc_hR17)) :: ((b11, ce9 62 [sV (x.s).lo.b, sV (x.s).hi.b, .bool (x.s).opn]) :: (M_4 ++ (M_5 ++ (Ms_s ++ [])))))) ((((List.Perm.append_left _ ((List.Perm.append_left _ pr9).trans (pmA pr9))).trans (pmA pr9)).cons _).cons _) ?_
  refine WC.join (X := (Unit) × Value × MH × Value × MH) (fun u7 => [(8, iV x.n.level), (0, pt9 b_s), (7, pt9 b11), (9, pt9 b20), (1, sV k.b), (4, u7.2.1), (5, u7.2.2.2.1)]) (fun u7 G Ml => Ml = ((b20, ce9 60 (ndl x.n pa_hR17 pc_hR17 ka_hR17 kc_hR17 ma_hR17 mc_hR17 ra_hR17 rc_hR17)) :: ((b11, ce9 62 [sV (x.s).lo.b, sV (x.s).hi.b, .bool (x.s).opn]) :: (u7.2.2.1 ++ (u7.2.2.2.2 ++ (Ms_s ++ []))))) ∧ OwnR ZA 60 G u7.2.1 ((P ++ [x]).map (fun y : Seat => y.n)) u7.2.2.1 ∧ OwnR XD 62 G u7.2.2.2.1 ((P ++ [x]).map (fun y : Seat => y.s)) u7.2.2.2.2) ?_ ?_
  ·refine WC.dw (sn9.k9.k9) (d9 [0, 1, 4, 5, 8, 9] ?_)
   refine WD.any [2, 6] (by kernel_rfl) rfl ⟨WD.ap ?_, WD.ap ?_, trivial⟩
   ·refine W.lit (e := ZA) (l := [x.n]) (css := [[iV _, iV _, lV _ _ _, lV _ _ _, sV _, .bool _, iV _, iV _, lV _ _ _, lV _ _ _]]) Xm Yn Zo rfl rfl rfl rfl rfl rfl ⟨(nk9 hp_hR17 hk_hR17 hm_hR17 hr_hR17 hok_hR17), trivial⟩ (fun bl21 G21 hG21 hv21 => (W.nn ?_))
    refine WD.any [3, 6] (by kernel_rfl) rfl ⟨WD.ap ?_, WD.ap ?_, trivial⟩
    ·refine W.app (e := ZA) Xm Yn Zo rfl Zaf rfl rfl ((ho_4.mono lec)) (hv21) (pmC (pmC pr9)) (by show (List.length _ + 1) * 152 ≤ _; rw [List.length_map]; omega) (fun v22 Ms23 ho24 => (W.perm (pmC (pmC pr9)).symm (W.nn (WD.a1 6 rfl (W.lit (e := XD) (l := [x.s]) (css := [[sV _, sV _, .bool _]]) XR Yo Zy rfl rfl rfl rfl rfl rfl ⟨rfl, trivial⟩ (fun bl25 G25 hG25 hv25 => (W.nn (WD.a1 7 rfl (W.app (e := XD) XR Yo Zy rfl ZbC rfl rfl ((ho_5.mono lec)) (hv25) (pmC (pmC (pmA pr9))) (by show (List.length _ + 1) * 40 ≤ _; rw [List.length_map]; omega) (fun v26 Ms27 ho28 => (W.perm (pmC (pmC pr9)).symm (W.nn (d9 [10, 11, 12] ?_)))))))))))))
     refine WD.doneP (M' := ((b20, ce9 60 (ndl x.n pa_hR17 pc_hR17 ka_hR17 kc_hR17 ma_hR17 mc_hR17 ra_hR17 rc_hR17)) :: ((b11, ce9 62 [sV (x.s).lo.b, sV (x.s).hi.b, .bool (x.s).opn]) :: (Ms23 ++ (Ms27 ++ (Ms_s ++ [])))))) (by kernel_rfl) sr9 ((((List.Perm.append_left _ ((List.Perm.append_left _ pr9).trans pr9)).trans (pmA pr9)).cons _).cons _) (Xj ?_)
     exact ⟨lec, ((), v22, Ms23, v26, Ms27), hs9, ⟨rfl, (by have h := (ho24.mono hG25); rw [List.map_append]; exact h), (by have h := ho28; rw [List.map_append]; exact h)⟩⟩
    refine W.lit (e := XD) (l := [x.s]) (css := [[sV _, sV _, .bool _]]) XR Yo Zy rfl rfl rfl rfl rfl rfl ⟨rfl, trivial⟩ (fun bl29 G29 hG29 hv29 => (W.nn (WD.a1 3 rfl (W.app (e := ZA) Xm Yn Zo rfl Zaf rfl rfl ((ho_4.mono lec)) ((hv21.mono hG29)) (pmC (pmC pr9)) (by show (List.length _ + 1) * 152 ≤ _; rw [List.length_map]; omega) (fun v30 Ms31 ho32 => (W.perm (pmC (pmC pr9)).symm (W.nn (WD.a1 7 rfl (W.app (e := XD) XR Yo Zy rfl ZbC rfl rfl ((ho_5.mono lec)) (hv29) (pmC (pmC (pmA pr9))) (by show (List.length _ + 1) * 40 ≤ _; rw [List.length_map]; omega) (fun v33 Ms34 ho35 => (W.perm (pmC (pmC pr9)).symm (W.nn (d9 [10, 11, 12] ?_)))))))))))))
    refine WD.doneP (M' := ((b20, ce9 60 (ndl x.n pa_hR17 pc_hR17 ka_hR17 kc_hR17 ma_hR17 mc_hR17 ra_hR17 rc_hR17)) :: ((b11, ce9 62 [sV (x.s).lo.b, sV (x.s).hi.b, .bool (x.s).opn]) :: (Ms31 ++ (Ms34 ++ (Ms_s ++ [])))))) (by kernel_rfl) sr9 ((((List.Perm.append_left _ ((List.Perm.append_left _ pr9).trans pr9)).trans (pmA pr9)).cons _).cons _) (Xj ?_)
    exact ⟨lec, ((), v30, Ms31, v33, Ms34), hs9, ⟨rfl, (by have h := ho32; rw [List.map_append]; exact h), (by have h := ho35; rw [List.map_append]; exact h)⟩⟩
   refine W.lit (e := XD) (l := [x.s]) (css := [[sV _, sV _, .bool _]]) XR Yo Zy rfl rfl rfl rfl rfl rfl ⟨rfl, trivial⟩ (fun bl36 G36 hG36 hv36 => (W.nn (WD.a1 2 rfl (W.lit (e := ZA) (l := [x.n]) (css := [[iV _, iV _, lV _ _ _, lV _ _ _, sV _, .bool _, iV _, iV _, lV _ _ _, lV _ _ _]]) Xm Yn Zo rfl rfl rfl rfl rfl rfl ⟨(nm9 hG36 hp_hR17 hk_hR17 hm_hR17 hr_hR17 hok_hR17), trivial⟩ (fun bl37 G37 hG37 hv37 => (W.nn (WD.a1 3 rfl (W.app (e := ZA) Xm Yn Zo rfl Zaf rfl rfl ((ho_4.mono lec)) (hv37) (pmC (pmC pr9)) (by show (List.length _ + 1) * 152 ≤ _; rw [List.length_map]; omega) (fun v38 Ms39 ho40 => (W.perm (pmC (pmC pr9)).symm (W.nn (WD.a1 7 rfl (W.app (e := XD) XR Yo Zy rfl ZbC rfl rfl ((ho_5.mono lec)) ((hv36.mono hG37)) (pmC (pmC (pmA pr9))) (by show (List.length _ + 1) * 40 ≤ _; rw [List.length_map]; omega) (fun v41 Ms42 ho43 => (W.perm (pmC (pmC pr9)).symm (W.nn (d9 [10, 11, 12] ?_)))))))))))))))))
   refine WD.doneP (M' := ((b20, ce9 60 (ndl x.n pa_hR17 pc_hR17 ka_hR17 kc_hR17 ma_hR17 mc_hR17 ra_hR17 rc_hR17)) :: ((b11, ce9 62 [sV (x.s).lo.b, sV (x.s).hi.b, .bool (x.s).opn]) :: (Ms39 ++ (Ms42 ++ (Ms_s ++ [])))))) (by kernel_rfl) sr9 ((((List.Perm.append_left _ ((List.Perm.append_left _ pr9).trans pr9)).trans (pmA pr9)).cons _).cons _) (Xj ?_)
   exact ⟨lec, ((), v38, Ms39, v41, Ms42), hs9, ⟨rfl, (by have h := ho40; rw [List.map_append]; exact h), (by have h := ho43; rw [List.map_append]; exact h)⟩⟩
  rintro ⟨u7, v_4, M_4, v_5, M_5⟩ gG44 G44 _ hG44 ⟨rfl, ho_4, ho_5⟩
  try dsimp only at ho_4 ho_5
  refine g9 6 ?_
  refine W.sd 46 (fun h45 p45 => ?_) (fun h45 p45 => ?_)
  ·try dsimp only at p45
   refine g9 18 ?_
   refine WC.giveO ho_4 (pmC (pmC pr9)) (fun G45 hG45 hv45 => (WC.giveO (ho_5.mono hG45) (pmC (pmC pr9)) (fun G46 hG46 hv46 => (g9 5 ?_))))
   refine ⟨.inr rfl, [_, _], ⟨rfl, rfl, trivial⟩, Ms_s, ((List.sublist_append_left _ _).cons _).cons _, ?_⟩
   refine ⟨rfl, _, _, rfl, SlR.cast (hv45.mono hG46) (by rw [hA.last p45]), SlR.cast hv46 (by rw [hA.last p45])⟩
  try dsimp only at p45
  refine g9 9 ?_
  refine W.qcall (Ze8 (hp_hR17.mono hG44) (hk_hR17.mono hG44)) rfl (g9 5 ?_)
  refine WC.cond rfl (fun h52 => ?_) (fun h52 => ?_)
  ·have h0 := t.right hA.mem p45; simp [h0] at h52
  have hrt := t.route hA.mem p45 k
  have hkl : x.n.kids.length ≤ 4000 := (t.sml.at (.inr (t.nd hA.mem).2.2)).1
  refine g9 7 ?_
  refine W.qcall (ZbG (hp_hR17.mono hG44) _ (YQ (t.right hA.mem p45)).1) rfl (g9 3 ?_)
  refine WC.dw ((sr9.cons _).k9) (d9 [0, 1, 2] ?_)
  refine (hk_hR17.mono hG44).a2 (i := Zg x.n.pivots k) om9 (fun he47 hi48 => (WD.tk 3 rfl (Z1 (i := Zg x.n.pivots k) ZU ty3 (hk_hR17.mono hG44) rfl rfl ⟨om9, om9⟩) (d9 [4, 6, 7, 8] ?_)))
  refine WD.any [5, 9] (by kernel_rfl) rfl ⟨WD.ap ?_, WD.ap ?_, trivial⟩
  ·refine g9 1 ?_
   refine W.nn (WD.a1 9 rfl (W.qcall (ZaF (hp_hR17.mono hG44) _ ⟨om9, om9⟩) rfl (W.nn (WD.a1 10 rfl (W.qcall (J4 _ _ _ _ _ _) rfl (W.nn (d9 [11, 12] ?_)))))))
   refine WD.doneP (M' := ((b11, ce9 62 [sV ((Zb l x (Zg x.n.pivots k)).s).lo.b, sV ((Zb l x (Zg x.n.pivots k)).s).hi.b, .bool ((Zb l x (Zg x.n.pivots k)).s).opn]) :: (M_4 ++ (M_5 ++ (Ms_s ++ []))))) (by kernel_rfl) (sr9.cons _) pr9 (JX (Xj ?_))
   exact ⟨lec, (((Zb l x (Zg x.n.pivots k), P ++ [x], x.n.level) : Seat × List Seat × Int), v_4, M_4, v_5, M_5), ⟨(congrArg (Value.int .i64) (At.slot t hA.mem p45 k).symm), eqv, eqv, eqv, eqv, eqv, eqv, trivial⟩, ⟨rfl, (by simpa using ho_4), (by simpa using ho_5), hA.next t p45⟩, by have := (t.at hA.mem om9 (t.route hA.mem p45 k)).2.2.2; dsimp only; omega⟩
  refine W.qcall (ZaF (hp_hR17.mono hG44) _ ⟨om9, om9⟩) rfl (W.nn (WD.a1 5 rfl (g9 1 ?_)))
  refine W.nn (WD.a1 10 rfl (W.qcall (J4 _ _ _ _ _ _) rfl (W.nn (d9 [11, 12] ?_))))
  refine WD.doneP (M' := ((b11, ce9 62 [sV ((Zb l x (Zg x.n.pivots k)).s).lo.b, sV ((Zb l x (Zg x.n.pivots k)).s).hi.b, .bool ((Zb l x (Zg x.n.pivots k)).s).opn]) :: (M_4 ++ (M_5 ++ (Ms_s ++ []))))) (by kernel_rfl) (sr9.cons _) pr9 (JX (Xj ?_))
  exact ⟨lec, (((Zb l x (Zg x.n.pivots k), P ++ [x], x.n.level) : Seat × List Seat × Int), v_4, M_4, v_5, M_5), ⟨(congrArg (Value.int .i64) (At.slot t hA.mem p45 k).symm), eqv, eqv, eqv, eqv, eqv, eqv, trivial⟩, ⟨rfl, (by simpa using ho_4), (by simpa using ho_5), hA.next t p45⟩, by have := (t.at hA.mem om9 (t.route hA.mem p45 k)).2.2.2; dsimp only; omega⟩
 try dsimp only at p23
 refine g9 13 ?_
 refine WC.perm (M' := ((b20, ce9 60 (ndl x.n pa_hR17 pc_hR17 ka_hR17 kc_hR17 ma_hR17 mc_hR17 ra_hR17 rc_hR17)) :: ((b11, ce9 62 [sV (x.s).lo.b, sV (x.s).hi.b, .bool (x.s).opn]) :: (M_4 ++ (M_5 ++ (Ms_s ++ [])))))) ((((List.Perm.append_left _ ((List.Perm.append_left _ pr9).trans (pmA pr9))).trans (pmA pr9)).cons _).cons _) ?_
 refine WC.join (X := (Unit) × Value × MH × Value × MH) (fun u7 => [(8, iV x.n.level), (0, pt9 b_s), (7, pt9 b11), (9, pt9 b20), (1, sV k.b), (4, u7.2.1), (5, u7.2.2.2.1)]) (fun u7 G Ml => Ml = ((b20, ce9 60 (ndl x.n pa_hR17 pc_hR17 ka_hR17 kc_hR17 ma_hR17 mc_hR17 ra_hR17 rc_hR17)) :: ((b11, ce9 62 [sV (x.s).lo.b, sV (x.s).hi.b, .bool (x.s).opn]) :: (u7.2.2.1 ++ (u7.2.2.2.2 ++ (Ms_s ++ []))))) ∧ OwnR ZA 60 G u7.2.1 ((P ++ [x]).map (fun y : Seat => y.n)) u7.2.2.1 ∧ OwnR XD 62 G u7.2.2.2.1 ((P ++ [x]).map (fun y : Seat => y.s)) u7.2.2.2.2) ?_ ?_
 ·refine WC.dw (sn9.k9.k9) (d9 [0, 1, 4, 5, 8, 9] ?_)
  refine WD.any [2, 6] (by kernel_rfl) rfl ⟨WD.ap ?_, WD.ap ?_, trivial⟩
  ·refine W.lit (e := ZA) (l := [x.n]) (css := [[iV _, iV _, lV _ _ _, lV _ _ _, sV _, .bool _, iV _, iV _, lV _ _ _, lV _ _ _]]) Xm Yn Zo rfl rfl rfl rfl rfl rfl ⟨(nk9 hp_hR17 hk_hR17 hm_hR17 hr_hR17 hok_hR17), trivial⟩ (fun bl51 G51 hG51 hv51 => (W.nn ?_))
   refine WD.any [3, 6] (by kernel_rfl) rfl ⟨WD.ap ?_, WD.ap ?_, trivial⟩
   ·refine W.app (e := ZA) Xm Yn Zo rfl Zaf rfl rfl ((ho_4.mono lec)) (hv51) (pmC (pmC pr9)) (by show (List.length _ + 1) * 152 ≤ _; rw [List.length_map]; omega) (fun v52 Ms53 ho54 => (W.perm (pmC (pmC pr9)).symm (W.nn (WD.a1 6 rfl (W.lit (e := XD) (l := [x.s]) (css := [[sV _, sV _, .bool _]]) XR Yo Zy rfl rfl rfl rfl rfl rfl ⟨rfl, trivial⟩ (fun bl55 G55 hG55 hv55 => (W.nn (WD.a1 7 rfl (W.app (e := XD) XR Yo Zy rfl ZbC rfl rfl ((ho_5.mono lec)) (hv55) (pmC (pmC (pmA pr9))) (by show (List.length _ + 1) * 40 ≤ _; rw [List.length_map]; omega) (fun v56 Ms57 ho58 => (W.perm (pmC (pmC pr9)).symm (W.nn (d9 [10, 11, 12] ?_)))))))))))))
    refine WD.doneP (M' := ((b20, ce9 60 (ndl x.n pa_hR17 pc_hR17 ka_hR17 kc_hR17 ma_hR17 mc_hR17 ra_hR17 rc_hR17)) :: ((b11, ce9 62 [sV (x.s).lo.b, sV (x.s).hi.b, .bool (x.s).opn]) :: (Ms53 ++ (Ms57 ++ (Ms_s ++ [])))))) (by kernel_rfl) sr9 ((((List.Perm.append_left _ ((List.Perm.append_left _ pr9).trans pr9)).trans (pmA pr9)).cons _).cons _) (Xj ?_)
    exact ⟨lec, ((), v52, Ms53, v56, Ms57), hs9, ⟨rfl, (by have h := (ho54.mono hG55); rw [List.map_append]; exact h), (by have h := ho58; rw [List.map_append]; exact h)⟩⟩
   refine W.lit (e := XD) (l := [x.s]) (css := [[sV _, sV _, .bool _]]) XR Yo Zy rfl rfl rfl rfl rfl rfl ⟨rfl, trivial⟩ (fun bl59 G59 hG59 hv59 => (W.nn (WD.a1 3 rfl (W.app (e := ZA) Xm Yn Zo rfl Zaf rfl rfl ((ho_4.mono lec)) ((hv51.mono hG59)) (pmC (pmC pr9)) (by show (List.length _ + 1) * 152 ≤ _; rw [List.length_map]; omega) (fun v60 Ms61 ho62 => (W.perm (pmC (pmC pr9)).symm (W.nn (WD.a1 7 rfl (W.app (e := XD) XR Yo Zy rfl ZbC rfl rfl ((ho_5.mono lec)) (hv59) (pmC (pmC (pmA pr9))) (by show (List.length _ + 1) * 40 ≤ _; rw [List.length_map]; omega) (fun v63 Ms64 ho65 => (W.perm (pmC (pmC pr9)).symm (W.nn (d9 [10, 11, 12] ?_)))))))))))))
   refine WD.doneP (M' := ((b20, ce9 60 (ndl x.n pa_hR17 pc_hR17 ka_hR17 kc_hR17 ma_hR17 mc_hR17 ra_hR17 rc_hR17)) :: ((b11, ce9 62 [sV (x.s).lo.b, sV (x.s).hi.b, .bool (x.s).opn]) :: (Ms61 ++ (Ms64 ++ (Ms_s ++ [])))))) (by kernel_rfl) sr9 ((((List.Perm.append_left _ ((List.Perm.append_left _ pr9).trans pr9)).trans (pmA pr9)).cons _).cons _) (Xj ?_)
   exact ⟨lec, ((), v60, Ms61, v63, Ms64), hs9, ⟨rfl, (by have h := ho62; rw [List.map_append]; exact h), (by have h := ho65; rw [List.map_append]; exact h)⟩⟩
  refine W.lit (e := XD) (l := [x.s]) (css := [[sV _, sV _, .bool _]]) XR Yo Zy rfl rfl rfl rfl rfl rfl ⟨rfl, trivial⟩ (fun bl66 G66 hG66 hv66 => (W.nn (WD.a1 2 rfl (W.lit (e := ZA) (l := [x.n]) (css := [[iV _, iV _, lV _ _ _, lV _ _ _, sV _, .bool _, iV _, iV _, lV _ _ _, lV _ _ _]]) Xm Yn Zo rfl rfl rfl rfl rfl rfl ⟨(nm9 hG66 hp_hR17 hk_hR17 hm_hR17 hr_hR17 hok_hR17), trivial⟩ (fun bl67 G67 hG67 hv67 => (W.nn (WD.a1 3 rfl (W.app (e := ZA) Xm Yn Zo rfl Zaf rfl rfl ((ho_4.mono lec)) (hv67) (pmC (pmC pr9)) (by show (List.length _ + 1) * 152 ≤ _; rw [List.length_map]; omega) (fun v68 Ms69 ho70 => (W.perm (pmC (pmC pr9)).symm (W.nn (WD.a1 7 rfl (W.app (e := XD) XR Yo Zy rfl ZbC rfl rfl ((ho_5.mono lec)) ((hv66.mono hG67)) (pmC (pmC (pmA pr9))) (by show (List.length _ + 1) * 40 ≤ _; rw [List.length_map]; omega) (fun v71 Ms72 ho73 => (W.perm (pmC (pmC pr9)).symm (W.nn (d9 [10, 11, 12] ?_)))))))))))))))))
  refine WD.doneP (M' := ((b20, ce9 60 (ndl x.n pa_hR17 pc_hR17 ka_hR17 kc_hR17 ma_hR17 mc_hR17 ra_hR17 rc_hR17)) :: ((b11, ce9 62 [sV (x.s).lo.b, sV (x.s).hi.b, .bool (x.s).opn]) :: (Ms69 ++ (Ms72 ++ (Ms_s ++ [])))))) (by kernel_rfl) sr9 ((((List.Perm.append_left _ ((List.Perm.append_left _ pr9).trans pr9)).trans (pmA pr9)).cons _).cons _) (Xj ?_)
  exact ⟨lec, ((), v68, Ms69, v71, Ms72), hs9, ⟨rfl, (by have h := ho70; rw [List.map_append]; exact h), (by have h := ho73; rw [List.map_append]; exact h)⟩⟩
 rintro ⟨u7, v_4, M_4, v_5, M_5⟩ gG74 G74 _ hG74 ⟨rfl, ho_4, ho_5⟩
 try dsimp only at ho_4 ho_5
 refine g9 6 ?_
 refine W.sd 46 (fun h45 p45 => ?_) (fun h45 p45 => ?_)
 ·try dsimp only at p45
  refine g9 18 ?_
  refine WC.giveO ho_4 (pmC (pmC pr9)) (fun G75 hG75 hv75 => (WC.giveO (ho_5.mono hG75) (pmC (pmC pr9)) (fun G76 hG76 hv76 => (g9 5 ?_))))
  refine ⟨.inr rfl, [_, _], ⟨rfl, rfl, trivial⟩, Ms_s, ((List.sublist_append_left _ _).cons _).cons _, ?_⟩
  refine ⟨rfl, _, _, rfl, SlR.cast (hv75.mono hG76) (by rw [hA.last p45]), SlR.cast hv76 (by rw [hA.last p45])⟩
 try dsimp only at p45
 refine g9 9 ?_
 refine W.qcall (Ze8 (hp_hR17.mono hG74) (hk_hR17.mono hG74)) rfl (g9 5 ?_)
 refine WC.cond rfl (fun h52 => ?_) (fun h52 => ?_)
 ·have h0 := t.right hA.mem p45; simp [h0] at h52
 have hrt := t.route hA.mem p45 k
 have hkl : x.n.kids.length ≤ 4000 := (t.sml.at (.inr (t.nd hA.mem).2.2)).1
 refine g9 7 ?_
 refine W.qcall (ZbG (hp_hR17.mono hG74) _ (YQ (t.right hA.mem p45)).1) rfl (g9 3 ?_)
 refine WC.dw ((sr9.cons _).k9) (d9 [0, 1, 2] ?_)
 refine (hk_hR17.mono hG74).a2 (i := Zg x.n.pivots k) om9 (fun he77 hi78 => (WD.tk 3 rfl (Z1 (i := Zg x.n.pivots k) ZU ty3 (hk_hR17.mono hG74) rfl rfl ⟨om9, om9⟩) (d9 [4, 6, 7, 8] ?_)))
 refine WD.any [5, 9] (by kernel_rfl) rfl ⟨WD.ap ?_, WD.ap ?_, trivial⟩
 ·refine g9 1 ?_
  refine W.nn (WD.a1 9 rfl (W.qcall (ZaF (hp_hR17.mono hG74) _ ⟨om9, om9⟩) rfl (W.nn (WD.a1 10 rfl (W.qcall (J4 _ _ _ _ _ _) rfl (W.nn (d9 [11, 12] ?_)))))))
  refine WD.doneP (M' := ((b11, ce9 62 [sV ((Zb l x (Zg x.n.pivots k)).s).lo.b, sV ((Zb l x (Zg x.n.pivots k)).s).hi.b, .bool ((Zb l x (Zg x.n.pivots k)).s).opn]) :: (M_4 ++ (M_5 ++ (Ms_s ++ []))))) (by kernel_rfl) (sr9.cons _) pr9 (JX (Xj ?_))
  exact ⟨lec, (((Zb l x (Zg x.n.pivots k), P ++ [x], x.n.level) : Seat × List Seat × Int), v_4, M_4, v_5, M_5), ⟨(congrArg (Value.int .i64) (At.slot t hA.mem p45 k).symm), eqv, eqv, eqv, eqv, eqv, eqv, trivial⟩, ⟨rfl, (by simpa using ho_4), (by simpa using ho_5), hA.next t p45⟩, by have := (t.at hA.mem om9 (t.route hA.mem p45 k)).2.2.2; dsimp only; omega⟩
 refine W.qcall (ZaF (hp_hR17.mono hG74) _ ⟨om9, om9⟩) rfl (W.nn (WD.a1 5 rfl (g9 1 ?_)))
 refine W.nn (WD.a1 10 rfl (W.qcall (J4 _ _ _ _ _ _) rfl (W.nn (d9 [11, 12] ?_))))
 refine WD.doneP (M' := ((b11, ce9 62 [sV ((Zb l x (Zg x.n.pivots k)).s).lo.b, sV ((Zb l x (Zg x.n.pivots k)).s).hi.b, .bool ((Zb l x (Zg x.n.pivots k)).s).opn]) :: (M_4 ++ (M_5 ++ (Ms_s ++ []))))) (by kernel_rfl) (sr9.cons _) pr9 (JX (Xj ?_))
 exact ⟨lec, (((Zb l x (Zg x.n.pivots k), P ++ [x], x.n.level) : Seat × List Seat × Int), v_4, M_4, v_5, M_5), ⟨(congrArg (Value.int .i64) (At.slot t hA.mem p45 k).symm), eqv, eqv, eqv, eqv, eqv, eqv, trivial⟩, ⟨rfl, (by simpa using ho_4), (by simpa using ho_5), hA.next t p45⟩, by have := (t.at hA.mem om9 (t.route hA.mem p45 k)).2.2.2; dsimp only; omega⟩

theorem Zko {G : GH} {b : Nat} {c : Cfg} {l : List Nd} {M : MH} (h : StR 60 4 3 189 139 b c G l M) (hr : l.length < c.slots.toNat) {cs : List Value} {x : Nd} (hx : NodeC G cs x) (k : Int) (hk : k = l.length) : Fc Tryz.prog 84 [pt9 b, .agg (List.toArray cs)] G M (fun v G' M' => v = .tuple #[iV k, iV 0] ∧ StR 60 4 3 189 139 b c G' (tk l x) M') :=
  (Zjf h hx).mono fun v G' M' _ ⟨e1, e2⟩ => by rw [Zj8 hr] at e1 e2; exact ⟨by rw [e1, hk], e2⟩
theorem Yy {G : GH} {b : Nat} {c : Cfg} {l : List Nd} {M : MH} (h : StR 60 4 3 189 139 b c G l M) {cs : List Value} {x : Nd} (hs : 0 ≤ x.slot ∧ x.slot < l.length) (hx : NodeC G cs x) : Fc Tryz.prog 140 [pt9 b, .agg (List.toArray cs)] G M (fun v G' M' => v = iV 0 ∧ StR 60 4 3 189 139 b c G' (l.set x.slot.toNat x) M') :=
  (ZpU h hx).mono fun v G' M' _ ⟨e1, e2⟩ => by rw [ZeW hs] at e1 e2; exact ⟨e1, e2⟩
theorem StR.to {b : Nat} {c : Cfg} {G : GH} {l l' : List Nd} {M : MH} (h : StR 60 4 3 189 139 b c G l M) (e : l = l') : StR 60 4 3 189 139 b c G l' M := e ▸ h
theorem Zkp {G : GH} {b_s : Nat} {c c2 : Cfg} {l : List Nd} {ss : List Seat} {Ms_s : MH} (h_s : StR 60 4 3 189 139 b_s c G l Ms_s) (t : Tree c2 l ss) :
    Fc Tryz.prog 149 [pt9 b_s] G Ms_s (fun v G' M' => v = iV (ZS c l).1 ∧ StR 60 4 3 189 139 b_s c G' (ZS c l).2 M') := by
 have hp0 := t.pos
 have hl100 := t.sml.1
 have hrn := t.rootn
 have hn0 : (Za l 0).slot = 0 := by rw [← hrn]; exact t.root0
 have hlvl := t.height
 rw [hrn] at hlvl
 have hlv0 := t.lvl t.root
 rw [hrn] at hlv0
 have hz0 : i64 0 := ⟨by decide, by decide⟩
 have hlv : i64 ((Za l 0).level + 1) := ⟨om9, om9⟩
 have hks : ∀ m ∈ (Za l 0).msgs, m.key.b.size < 140737488355328 := fun m hm => by rw [← hrn] at hm; have := (Y5 ((t.msgs t.root).2.1 m hm)).1; omega
 have hxi : i64 (l.length : Int) := ⟨om9, om9⟩
 have hyi : i64 ((l.length : Int) + 1) := ⟨om9, om9⟩
 refine Fc.go [.tmp 2] Tryz.func149 Tryz.ntmps149 rfl (fun w0 => (WC.perm (M' := (Ms_s ++ [])) (by simp) (g9 8 ?_)))
 refine W.call (Mp := Ms_s) (Zai h_s _) rfl pr9 ?_
 intro v11 G8 Ms10 hG8 q9
 refine match q9 with | ⟨⟨_, e_13, ⟨_, _, _, _, _, _, _, _, e_14, hp_hR12, hk_hR12, hm_hR12, hr_hR12, hok_hR12⟩⟩, eeq9⟩ => ?_
 subst e_13
 subst e_14
 have eeq9 := eeq9.symm
 subst eeq9
 refine g9 3 ?_
 refine W.alloc Zo (fun b15 => (g9 11 ?_))
 refine WC.cn (fun h23 p23 => ?_) (fun h23 p23 => ?_)
 ·try dsimp only at p23
  exfalso; omega
 try dsimp only at p23
 refine g9 6 ?_
 refine W.call (Mp := []) (Zkl (nk9 hp_hR12 hk_hR12 hm_hR12 hr_hR12 hok_hR12) 0 0 (by assumption) (by assumption) hlv hks) rfl pr9 ?_
 intro _ G16 _ hG16 q20
 refine match q20 with | ⟨e_21, _, e_22, _, _, _, e_23, hv17, hv18, hv19⟩ => ?_
 subst e_21
 subst e_22
 subst e_23
 refine match hv17 with | ⟨_, _, _, _, _, _, _, _, e_24, hp_hv17, hk_hv17, hm_hv17, hr_hv17, hok_hv17⟩ => ?_
 subst e_24
 refine match hv18 with | ⟨_, _, _, _, _, _, _, _, e_25, hp_hv18, hk_hv18, hm_hv18, hr_hv18, hok_hv18⟩ => ?_
 subst e_25
 refine match hv19 with | ⟨_, _, _, _, _, _, _, _, e_26, hp_hv19, hk_hv19, hm_hv19, hr_hv19, hok_hv19⟩ => ?_
 subst e_26
 refine g9 5 ?_
 refine W.alloc Zo (fun b27 => (W.alloc Zo (fun b28 => (W.alloc Zo (fun b29 => (g9 12 ?_))))))
 refine WC.cond rfl (fun h32 => ?_) (fun h32 => ?_)
 ·refine g9 7 ?_
  refine ⟨.inr rfl, [_], ⟨rfl, trivial⟩, Ms_s, ((((List.sublist_append_left _ _).cons _).cons _).cons _).cons _, ?_⟩
  exact ⟨congrArg (fun p : Int × List Nd => Value.int .i64 p.1) (ZdQ (by simpa using h32)).symm, StR.to (StR.mono lec h_s) (congrArg Prod.snd (ZdQ (by simpa using h32))).symm⟩
 have hok : (Z7 (Za l 0) 0 0).2.2.2 = true := by simpa using h32
 obtain ⟨hs1, hs2, hs3⟩ := ZrG (x := (l.length : Int)) (y := (l.length : Int) + 1) hok
 rw [hn0] at hs1
 refine g9 6 ?_
 refine W.call (Mp := Ms_s) (ZpX (StR.mono lec h_s)) rfl (pmC (pmC (pmC (pmC pr9)))) ?_
 intro v33 G30 Ms32 hG30 q31
 refine match q31 with | ⟨e_35, eeq31⟩ => ?_
 subst e_35
 have eeq31 := eeq31.symm
 subst eeq31
 refine W.perm (pmC (pmC (pmC (pmC pr9)))).symm (g9 3 ?_)
 refine WC.cd (fun h35 p35 => ?_) (fun h35 p35 => ?_)
 ·try dsimp only at p35
  refine g9 7 ?_
  refine ⟨.inr rfl, [_], ⟨rfl, trivial⟩, Ms_s, ((((List.sublist_append_left _ _).cons _).cons _).cons _).cons _, ?_⟩
  exact ⟨congrArg (fun p : Int × List Nd => Value.int .i64 p.1) (Zba hok om9).symm, StR.to (StR.mono lec h_s) (congrArg Prod.snd (Zba hok om9)).symm⟩
 try dsimp only at p35
 refine g9 6 ?_
 refine W.call (Mp := Ms_s) (Zko (StR.mono lec h_s) om9 (nm9 lec hp_hR12 hk_hR12 hm_hR12 hr_hR12 hok_hR12) (l.length : Int) (by rfl)) rfl (pmC (pmC (pmC (pmC pr9)))) ?_
 intro v39 G36 Ms38 hG36 q37
 refine match q37 with | ⟨e_41, hR40⟩ => ?_
 subst e_41
 refine W.perm (pmC (pmC (pmC (pmC pr9)))).symm (g9 11 ?_)
 refine W.call (Mp := Ms38) (Zko hR40 (by rw [ZaK]; omega) (nm9 lec hp_hR12 hk_hR12 hm_hR12 hr_hR12 hok_hR12) ((l.length : Int) + 1) (by rw [ZaK]; omega)) rfl (pmC (pmC (pmC (pmC pr9)))) ?_
 intro v45 G42 Ms44 hG42 q43
 refine match q43 with | ⟨e_47, hR46⟩ => ?_
 subst e_47
 refine W.perm (pmC (pmC (pmC (pmC pr9)))).symm (g9 12 ?_)
 refine W.call (Mp := []) (Zkl (nm9 lec hp_hR12 hk_hR12 hm_hR12 hr_hR12 hok_hR12) _ _ (by assumption) (by assumption) hlv hks) rfl pr9 ?_
 intro _ G48 _ hG48 q52
 refine match q52 with | ⟨e_53, _, e_54, _, _, _, e_55, hv49, hv50, hv51⟩ => ?_
 subst e_53
 subst e_54
 subst e_55
 refine match hv49 with | ⟨_, _, _, _, _, _, _, _, e_56, hp_hv49, hk_hv49, hm_hv49, hr_hv49, hok_hv49⟩ => ?_
 subst e_56
 refine match hv50 with | ⟨_, _, _, _, _, _, _, _, e_57, hp_hv50, hk_hv50, hm_hv50, hr_hv50, hok_hv50⟩ => ?_
 subst e_57
 refine match hv51 with | ⟨_, _, _, _, _, _, _, _, e_58, hp_hv51, hk_hv51, hm_hv51, hr_hv51, hok_hv51⟩ => ?_
 subst e_58
 refine g9 5 ?_
 refine W.alloc Zo (fun b59 => (W.alloc Zo (fun b60 => (W.alloc Zo (fun b61 => (g9 10 ?_))))))
 refine W.call (Mp := Ms44) (Yy (StR.mono hG48 hR46) (by simp only [List.length_set, ZaK]; omega) (nk9 hp_hv49 hk_hv49 hm_hv49 hr_hv49 hok_hv49)) rfl (pmC (pmC (pmC (pmC (pmC (pmC (pmC pr9))))))) ?_
 intro v65 G62 Ms64 hG62 q63
 refine match q63 with | ⟨e_67, hR66⟩ => ?_
 subst e_67
 refine W.perm (pmC (pmC (pmC (pmC (pmC (pmC (pmC pr9))))))).symm (g9 6 ?_)
 refine W.call (Mp := Ms64) (Yy hR66 (by simp only [List.length_set, ZaK]; omega) (nm9 hG62 hp_hv50 hk_hv50 hm_hv50 hr_hv50 hok_hv50)) rfl (pmC (pmC (pmC (pmC (pmC (pmC (pmC pr9))))))) ?_
 intro v71 G68 Ms70 hG68 q69
 refine match q69 with | ⟨e_73, hR72⟩ => ?_
 subst e_73
 refine W.perm (pmC (pmC (pmC (pmC (pmC (pmC (pmC pr9))))))).symm (g9 6 ?_)
 refine W.call (Mp := Ms70) (Yy hR72 (by simp only [List.length_set, ZaK]; omega) (nm9 lec hp_hv51 hk_hv51 hm_hv51 hr_hv51 hok_hv51)) rfl (pmC (pmC (pmC (pmC (pmC (pmC (pmC pr9))))))) ?_
 intro v77 G74 Ms76 hG74 q75
 refine match q75 with | ⟨e_79, hR78⟩ => ?_
 subst e_79
 refine W.perm (pmC (pmC (pmC (pmC (pmC (pmC (pmC pr9))))))).symm (g9 4 ?_)
 refine ⟨.inr rfl, [_], ⟨rfl, trivial⟩, Ms76, (((((((List.sublist_append_left _ _).cons _).cons _).cons _).cons _).cons _).cons _).cons _, ?_⟩
 exact ⟨congrArg (fun p : Int × List Nd => Value.int .i64 p.1) (ZbY hok om9).symm, StR.to hR78 ((ZrH om9 hs2 hs3 t.pos).trans (congrArg Prod.snd (ZbY hok om9)).symm)⟩

theorem Zr4 {G : GH} {b_s : Nat} {c : Cfg} {b_a : Nat} {a : List Nd × List Bool} {Ms_a : MH} (h_a : ArR ZA 60 4 3 189 b_a G a Ms_a) :
    Fc Tryz.prog 151 [pt9 b_s] G ((b_s, ce9 139 [iV c.fan, iV c.leaf, iV c.bud, iV c.slots, iV c.rest, pt9 b_a]) :: (Ms_a)) (fun v G' M' => v = .agg (List.toArray [iV c.fan, iV c.leaf, iV c.bud, iV c.slots, iV c.rest]) ∧ M' = (b_s, ce9 139 [iV c.fan, iV c.leaf, iV c.bud, iV c.slots, iV c.rest, pt9 b_a]) :: Ms_a) := by
 refine Fc.go [.cell 2 23] Tryz.func151 Tryz.ntmps151 rfl (fun w0 => (WC.perm (M' := ((b_s, ce9 139 [iV c.fan, iV c.leaf, iV c.bud, iV c.slots, iV c.rest, pt9 b_a]) :: (Ms_a ++ []))) (by simp) (g9 2 ?_)))
 refine W.alloc Zh3 (fun b1 => (g9 6 ?_))
 refine W.ok (Xa J2 rfl rfl) (g9 15 ?_)
 refine ⟨.inr rfl, [_], ⟨⟨_, _, _, _, _, rfl, YE (i := 0) rfl, Zh2, (by simp), rfl, rfl⟩, trivial⟩, ((b_s, ce9 139 [iV c.fan, iV c.leaf, iV c.bud, iV c.slots, iV c.rest, pt9 b_a]) :: (Ms_a ++ [])), sr9.k9.cons _, ?_⟩
 exact ⟨rfl, congrArg _ (List.append_nil _)⟩

theorem JB {G : GH} {b : Nat} {c : Cfg} {l : List Nd} {M : MH} (h : StR 60 4 3 189 139 b c G l M) : Fc Tryz.prog 151 [pt9 b] G M (fun v G' M' => v = .agg (List.toArray [iV c.fan, iV c.leaf, iV c.bud, iV c.slots, iV c.rest]) ∧ M' = M) := by
  obtain ⟨hc, hl, b2, Ma, rfl, hA⟩ := h
  exact Zr4 (c := c) hA
theorem Zr5 {G : GH} {b : Nat} {c : Cfg} {l : List Nd} {M : MH} (h : StR 60 4 3 189 139 b c G l M) {cs : List Value} {x : Nd} (hx : NodeC G cs x) : Fc Tryz.prog 84 [pt9 b, .agg (List.toArray cs)] G M (fun v G' M' => (l.length < c.slots.toNat ∧ v = .tuple #[iV (l.length : Int), iV 0] ∧ StR 60 4 3 189 139 b c G' (tk l x) M') ∨ (¬ l.length < c.slots.toNat ∧ v = .tuple #[iV 0, iV 4] ∧ StR 60 4 3 189 139 b c G' l M')) := by
  refine (Zjf h hx).mono fun v G' M' _ ⟨e1, e2⟩ => ?_
  by_cases hr : l.length < c.slots.toNat
  · rw [Zj8 hr] at e1 e2; exact .inl ⟨hr, e1, e2⟩
  rw [ZhY hr] at e1 e2; exact .inr ⟨hr, e1, e2⟩
theorem Zr6 {G : GH} {b_s : Nat} {c c2 : Cfg} {l : List Nd} {ss : List Seat} {Ms_s : MH} (h_s : StR 60 4 3 189 139 b_s c G l Ms_s) (t : Tree c2 l ss) (p : Int) (i : Nat) (hi9 : i64 ((i : Nat) : Int)) :
    Fc Tryz.prog 193 [pt9 b_s, iV p, nt9 i] G Ms_s (fun v G' M' => v = iV (Xx c l p i).1 ∧ StR 60 4 3 189 139 b_s c G' (Xx c l p i).2 M') := by
 have hl100 := t.sml.1
 have hz0 : i64 0 := ⟨by decide, by decide⟩
 have hyi : i64 (l.length : Int) := ⟨om9, om9⟩
 have hi1 := hi9.1
 have hi2 := hi9.2
 refine Fc.go [.tmp 6] Tryz.func193 Tryz.ntmps193 rfl (fun w0 => (WC.perm (M' := (Ms_s ++ [])) (by simp) (g9 9 ?_)))
 refine W.ok (Xa J2 rfl rfl) (g9 9 ?_)
 refine W.call (Mp := Ms_s) (Zai h_s _) rfl pr9 ?_
 intro v5 G2 Ms4 hG2 q3
 refine match q3 with | ⟨⟨_, e_7, ⟨_, _, _, _, _, _, _, _, e_8, hp_hR6, hk_hR6, hm_hR6, hr_hR6, hok_hR6⟩⟩, eeq3⟩ => ?_
 subst e_7
 subst e_8
 have eeq3 := eeq3.symm
 subst eeq3
 refine g9 3 ?_
 refine W.alloc Zo (fun b9 => (g9 10 ?_))
 refine W.sm 34 (fun h33 p33 => ?_) (fun h33 p33 => ?_)
 ·try dsimp only at p33
  refine g9 20 ?_
  refine ⟨.inr rfl, [_], ⟨rfl, trivial⟩, Ms_s, (List.sublist_append_left _ _).cons _, ?_⟩
  have hE := Zao (c := c) (l := l) (p := p) (i := i) (.inl (by simp at h33; omega))
  exact ⟨congrArg (fun q : Int × List Nd => Value.int .i64 q.1) hE.symm, StR.to (StR.mono hG2 h_s) (congrArg Prod.snd hE).symm⟩
 try dsimp only at p33
 have h1 : 0 ≤ p ∧ p < (l.length : Int) := by simpa using h33
 refine g9 6 ?_
 refine W.sd 38 (fun h36 p36 => ?_) (fun h36 p36 => ?_)
 ·try dsimp only at p36
  exfalso; omega
 try dsimp only at p36
 refine g9 13 ?_
 refine WC.cd (fun h43 p43 => ?_) (fun h43 p43 => ?_)
 ·try dsimp only at p43
  refine g9 7 ?_
  refine ⟨.inr rfl, [_], ⟨rfl, trivial⟩, Ms_s, (List.sublist_append_left _ _).cons _, ?_⟩
  have hE := Zao (c := c) (l := l) (p := p) (i := i) (.inr (.inl om9))
  exact ⟨congrArg (fun q : Int × List Nd => Value.int .i64 q.1) hE.symm, StR.to (StR.mono hG2 h_s) (congrArg Prod.snd hE).symm⟩
 try dsimp only at p43
 have h2 : ¬ (Za l p).kids.length ≤ i := by omega
 have hkd : (Za l p).kids[i]'om9 = kdN l p i := by unfold kdN; rw [List.getD_eq_getElem?_getD, List.getElem?_eq_getElem om9]; rfl
 refine g9 8 ?_
 refine hk_hR6.a2 (i := i) om9 (fun he10 hi11 => (g9 2 ?_))
 refine W.call (Mp := Ms_s) (Zai (StR.mono hG2 h_s) (kdN l p i)) (congrArg (fun k : Int => [_, Value.int .i64 k]) hkd) (pmC pr9) ?_
 intro v17 G14 Ms16 hG14 q15
 refine match q15 with | ⟨⟨_, e_19, ⟨_, _, _, _, _, _, _, _, e_20, hp_hR18, hk_hR18, hm_hR18, hr_hR18, hok_hR18⟩⟩, eeq15⟩ => ?_
 subst e_19
 subst e_20
 have eeq15 := eeq15.symm
 subst eeq15
 refine W.perm (pmC pr9).symm (g9 3 ?_)
 refine W.alloc Zo (fun b21 => (g9 13 ?_))
 refine WC.cn (fun h57 p57 => ?_) (fun h57 p57 => ?_)
 ·try dsimp only at p57
  refine g9 8 ?_
  refine ⟨.inr rfl, [_], ⟨rfl, trivial⟩, Ms_s, ((List.sublist_append_left _ _).cons _).cons _, ?_⟩
  have hE := Zao (c := c) (l := l) (p := p) (i := i) (.inr (.inr (by simp at h57; omega)))
  exact ⟨congrArg (fun q : Int × List Nd => Value.int .i64 q.1) hE.symm, StR.to (StR.mono lec h_s) (congrArg Prod.snd hE).symm⟩
 try dsimp only at p57
 have h3 : 0 ≤ kdN l p i ∧ kdN l p i < (l.length : Int) := by simpa using h57
 have hkm := YN t.slot h3
 have hpm := YN t.slot h1
 have hks : ∀ m ∈ (Za l (kdN l p i)).msgs, m.key.b.size < 140737488355328 := fun m hm => by have := ((t.sml.2 _ hkm.2).2.2.2.2.2.1 m hm).1; omega
 have hz9 : (Za l p).pivots.length ≤ 1000000 ∧ (Za l p).kids.length ≤ 1000000 := by have := t.sml.2 _ hpm.2; exact ⟨by have := this.2.1; omega, by have := this.1; omega⟩
 refine WC.seq (WC.dw (sn9.k9.k9) (d9 [0, 2] ?_))
 refine WD.a1 1 rfl (W.call (Mp := Ms_s) (JB (StR.mono lec h_s)) rfl (pmC (pmC pr9)) ?_)
 intro v25 G22 Ms24 hG22 q23
 refine match q23 with | ⟨e_27, eeq23⟩ => ?_
 subst e_27
 have eeq23 := eeq23.symm
 subst eeq23
 refine W.perm (pmC (pmC pr9)).symm (W.nn (WD.a1 3 rfl (W.qcall (ZcN _ _ _ _ _ (nm9 lec hp_hR6 hk_hR6 hm_hR6 hr_hR6 hok_hR6)) rfl (W.nn (d9 [4] ?_)))))
 refine g9 2 ?_
 refine WC.cond rfl (fun h62 => ?_) (fun h62 => ?_)
 ·refine g9 8 ?_
  refine ⟨.inr rfl, [_], ⟨rfl, trivial⟩, Ms_s, ((List.sublist_append_left _ _).cons _).cons _, ?_⟩
  have hE := Zf6 (c := c) h1 h2 h3 (by simpa using h62)
  exact ⟨congrArg (fun q : Int × List Nd => Value.int .i64 q.1) hE.symm, StR.to (StR.mono lec h_s) (congrArg Prod.snd hE).symm⟩
 have h4 : ZK c (Za l p) = false := by simpa using h62
 refine g9 6 ?_
 refine W.cM (Zge (nm9 hG22 hp_hR18 hk_hR18 hm_hR18 hr_hR18 hok_hR18) 0 hz0 hks) rfl (fun _ _ _ _ _ _ _ _ _ _ _ _ _ _ _ _ G28 hG28 hp_hv29 hk_hv29 hm_hv29 hr_hv29 hok_hv29 hp_hv30 hk_hv30 hm_hv30 hr_hv30 hok_hv30 => (g9 5 ?_))
 refine W.alloc Zo (fun b37 => (W.alloc Zo (fun b38 => (g9 12 ?_))))
 refine W.call (Mp := []) (Zk1 (nm9 lec hp_hR6 hk_hR6 hm_hR6 hr_hR6 hok_hR6) i (Zq (Za l (kdN l p i)) 0).2.2.1 0 hz9 hi9 hz0) rfl pr9 ?_
 intro _ G39 _ hG39 q41
 refine match q41 with | ⟨e_42, _, e_43, _, e_44, hv40⟩ => ?_
 subst e_42
 subst e_43
 subst e_44
 refine match hv40 with | ⟨_, _, _, _, _, _, _, _, e_45, hp_hv40, hk_hv40, hm_hv40, hr_hv40, hok_hv40⟩ => ?_
 subst e_45
 refine g9 3 ?_
 refine W.alloc Zo (fun b46 => (g9 9 ?_))
 refine W.sp 79 rfl (fun h78 => ?_) (fun h78 => ?_)
 ·refine g9 13 ?_
  refine ⟨.inr rfl, [_], ⟨rfl, trivial⟩, Ms_s, (((((List.sublist_append_left _ _).cons _).cons _).cons _).cons _).cons _, ?_⟩
  have hE := ZbZ (c := c) h1 h2 h3 h4 (.inl (by unfold Yr; rw [Zkb _ _ 0]; simpa using h78))
  exact ⟨congrArg (fun q : Int × List Nd => Value.int .i64 q.1) hE.symm, StR.to (StR.mono lec h_s) (congrArg Prod.snd hE).symm⟩
 have h5 : (Yr l p i).2.2.2 = true := by unfold Yr; rw [Zkb _ _ 0]; simpa using h78
 refine g9 7 ?_
 refine WC.cond rfl (fun h81 => ?_) (fun h81 => ?_)
 ·refine g9 7 ?_
  refine ⟨.inr rfl, [_], ⟨rfl, trivial⟩, Ms_s, (((((List.sublist_append_left _ _).cons _).cons _).cons _).cons _).cons _, ?_⟩
  have hE := ZbZ (c := c) h1 h2 h3 h4 (.inr (by unfold adP Yr; rw [Zf5 _ _ 0, Zkc _ _ _ _ 0]; simpa using h81))
  exact ⟨congrArg (fun q : Int × List Nd => Value.int .i64 q.1) hE.symm, StR.to (StR.mono lec h_s) (congrArg Prod.snd hE).symm⟩
 have h6 : (adP l p i).2 = true := by unfold adP Yr; rw [Zf5 _ _ 0, Zkc _ _ _ _ 0]; simpa using h81
 have hcs := Zkd h5
 have hs1 : (Zq (Za l (kdN l p i)) (l.length : Int)).1.slot = kdN l p i := hcs.1.trans hkm.1
 have hs3 : (Zq (Za l (kdN l p i)) (l.length : Int)).2.1.slot = (l.length : Int) := hcs.2
 have hs2 : 0 ≤ (Zq (Za l (kdN l p i)) (l.length : Int)).1.slot ∧ (Zq (Za l (kdN l p i)) (l.length : Int)).1.slot < (l.length : Int) := by rw [hs1]; exact h3
 have e9 : adP l p i = (Xi (Za l p) i (Zq (Za l (kdN l p i)) 0).2.2.1 (l.length : Int)) := by unfold adP Yr; rw [Zf5 _ _ 0]
 have hs4 : (Xi (Za l p) i (Zq (Za l (kdN l p i)) 0).2.2.1 (l.length : Int)).1.slot = p := by rw [← e9]; exact (Zke h6).trans hpm.1
 have hlst : ((l.set (Zq (Za l (kdN l p i)) (l.length : Int)).1.slot.toNat (Zq (Za l (kdN l p i)) (l.length : Int)).1).set p.toNat (Xi (Za l p) i (Zq (Za l (kdN l p i)) 0).2.2.1 (l.length : Int)).1) ++ [(Zq (Za l (kdN l p i)) (l.length : Int)).2.1] = JS l p i := by unfold JS; rw [e9]; rfl
 refine g9 6 ?_
 refine W.call (Mp := Ms_s) (Zr5 (StR.mono lec h_s) (nm9 lec hp_hR18 hk_hR18 hm_hR18 hr_hR18 hok_hR18)) rfl (pmC (pmC (pmC (pmC (pmC pr9))))) ?_
 intro v50 G47 Ms49 hG47 q48
 refine Or.elim q48 (fun q51 => ?_) (fun q52 => ?_)
 ·refine match q51 with | ⟨hrm, e_53, hR9⟩ => ?_
  subst e_53
  refine W.perm (pmC (pmC (pmC (pmC (pmC pr9))))).symm (g9 21 ?_)
  refine W.cM (Zge (nm9 lec hp_hR18 hk_hR18 hm_hR18 hr_hR18 hok_hR18) (l.length : Int) hyi hks) rfl (fun _ _ _ _ _ _ _ _ _ _ _ _ _ _ _ _ G54 hG54 hp_hv55 hk_hv55 hm_hv55 hr_hv55 hok_hv55 hp_hv56 hk_hv56 hm_hv56 hr_hv56 hok_hv56 => (g9 5 ?_))
  refine W.alloc Zo (fun b63 => (W.alloc Zo (fun b64 => (g9 12 ?_))))
  refine W.call (Mp := []) (Zk1 ⟨_, _, _, _, _, _, _, _, rfl, (hp_hR6.mono lec), (hk_hR6.mono lec), (hm_hR6.mono lec), (hr_hR6.mono lec), hok_hR6⟩ i (Zq (Za l (kdN l p i)) 0).2.2.1 (l.length : Int) hz9 hi9 hyi) rfl pr9 ?_
  intro _ G65 _ hG65 q67
  refine match q67 with | ⟨e_68, _, e_69, _, e_70, hv66⟩ => ?_
  subst e_68
  subst e_69
  subst e_70
  refine match hv66 with | ⟨_, _, _, _, _, _, _, _, e_71, hp_hv66, hk_hv66, hm_hv66, hr_hv66, hok_hv66⟩ => ?_
  subst e_71
  refine g9 3 ?_
  refine W.alloc Zo (fun b72 => (g9 8 ?_))
  refine W.call (Mp := Ms49) (Yy (StR.mono lec hR9) (by simp only [List.length_set, ZaK]; omega) (nm9 hG65 hp_hv55 hk_hv55 hm_hv55 hr_hv55 hok_hv55)) rfl (pmC (pmC (pmC (pmC (pmC (pmC (pmC (pmC pr9)))))))) ?_
  intro v76 G73 Ms75 hG73 q74
  refine match q74 with | ⟨e_78, hR77⟩ => ?_
  subst e_78
  refine W.perm (pmC (pmC (pmC (pmC (pmC (pmC (pmC (pmC pr9)))))))).symm (g9 6 ?_)
  refine W.call (Mp := Ms75) (Yy hR77 (by simp only [List.length_set, ZaK]; omega) (nm9 lec hp_hv56 hk_hv56 hm_hv56 hr_hv56 hok_hv56)) rfl (pmC (pmC (pmC (pmC (pmC (pmC (pmC (pmC pr9)))))))) ?_
  intro v82 G79 Ms81 hG79 q80
  refine match q80 with | ⟨e_84, hR83⟩ => ?_
  subst e_84
  refine W.perm (pmC (pmC (pmC (pmC (pmC (pmC (pmC (pmC pr9)))))))).symm (g9 6 ?_)
  refine W.call (Mp := Ms81) (Yy hR83 (by simp only [List.length_set, ZaK]; omega) (nm9 lec hp_hv66 hk_hv66 hm_hv66 hr_hv66 hok_hv66)) rfl (pmC (pmC (pmC (pmC (pmC (pmC (pmC (pmC pr9)))))))) ?_
  intro v88 G85 Ms87 hG85 q86
  refine match q86 with | ⟨e_90, hR89⟩ => ?_
  subst e_90
  refine W.perm (pmC (pmC (pmC (pmC (pmC (pmC (pmC (pmC pr9)))))))).symm (g9 4 ?_)
  refine ⟨.inr rfl, [_], ⟨rfl, trivial⟩, Ms87, ((((((((List.sublist_append_left _ _).cons _).cons _).cons _).cons _).cons _).cons _).cons _).cons _, ?_⟩
  have hE := (ZdS (c := c) h1 h2 h3 h4 h5 h6 om9)
  exact ⟨congrArg (fun q : Int × List Nd => Value.int .i64 q.1) hE.symm, StR.to hR89 ((ZrJ hs2 hs3 hs4 h1).trans ((hlst).trans (congrArg Prod.snd hE).symm))⟩
 refine match q52 with | ⟨hrm, e_91, hR9⟩ => ?_
 subst e_91
 refine W.perm (pmC (pmC (pmC (pmC (pmC pr9))))).symm (g9 23 ?_)
 refine ⟨.inr rfl, [_], ⟨rfl, trivial⟩, Ms49, (((((List.sublist_append_left _ _).cons _).cons _).cons _).cons _).cons _, ?_⟩
 have hE := ZdR (c := c) h1 h2 h3 h4 h5 h6 om9
 exact ⟨congrArg (fun q : Int × List Nd => Value.int .i64 q.1) hE.symm, StR.to hR9 (congrArg Prod.snd hE).symm⟩

theorem Zr7 {G : GH} {b_s : Nat} {c c2 : Cfg} {l : List Nd} {ss : List Seat} {Ms_s : MH} (h_s : StR 60 4 3 189 139 b_s c G l Ms_s) (t : Tree c2 l ss) (p : Int) (i : Int) (hn9 : i < 0) :
    Fc Tryz.prog 193 [pt9 b_s, iV p, iV i] G Ms_s (fun v G' M' => M' = Ms_s ∧ v = iV 8) := by
 refine Fc.go [.tmp 6] Tryz.func193 Tryz.ntmps193 rfl (fun w0 => (WC.perm (M' := (Ms_s ++ [])) (by simp) (g9 9 ?_)))
 refine W.ok (Xa J2 rfl rfl) (g9 9 ?_)
 refine W.call (Mp := Ms_s) (Zai h_s _) rfl pr9 ?_
 intro v4 G1 Ms3 hG1 q2
 refine match q2 with | ⟨⟨_, e_6, ⟨_, _, _, _, _, _, _, _, e_7, hp_hR5, hk_hR5, hm_hR5, hr_hR5, hok_hR5⟩⟩, eeq2⟩ => ?_
 subst e_6
 subst e_7
 have eeq2 := eeq2.symm
 subst eeq2
 refine g9 3 ?_
 refine W.alloc Zo (fun b8 => (g9 10 ?_))
 refine W.sm 34 (fun h33 p33 => ?_) (fun h33 p33 => ?_)
 ·refine g9 20 ?_
  refine ⟨.inr rfl, [_], ⟨rfl, trivial⟩, Ms_s, (List.sublist_append_left _ _).cons _, ?_⟩
  exact ⟨rfl, rfl⟩
 refine g9 6 ?_
 refine W.sd 38 (fun h36 p36 => ?_) (fun h36 p36 => ?_)
 ·refine g9 16 ?_
  refine ⟨.inr rfl, [_], ⟨rfl, trivial⟩, Ms_s, (List.sublist_append_left _ _).cons _, ?_⟩
  exact ⟨rfl, rfl⟩
 exfalso; omega

theorem Zr8 {G : GH} {b : Nat} {c c2 : Cfg} {l : List Nd} {ss : List Seat} {M : MH} (h : StR 60 4 3 189 139 b c G l M) (t : Tree c2 l ss) (p i : Int) (hi : i64 i) : Fc Tryz.prog 193 [pt9 b, iV p, iV i] G M (fun v G' M' => v = iV (ZP c l p i).1 ∧ StR 60 4 3 189 139 b c G' (ZP c l p i).2 M') := by
  by_cases hn : i < 0
  · refine (Zr7 h t p i hn).mono fun v G' M' hle ⟨e1, e2⟩ => ?_
    subst e1
    unfold ZP
    rw [if_pos hn]
    exact ⟨e2, h.mono hle⟩
  obtain ⟨n, rfl⟩ : ∃ n : Nat, i = (n : Int) := ⟨i.toNat, om9⟩
  have h0 := Zr6 h t p n hi
  unfold ZP
  rw [if_neg hn]
  exact h0
end Go.Proofs.YtbbemibbmbmamaaGreat

namespace Go.Fw
open Go Go.RowKit
structure PourOf (c : Cfg) (l : List Nd) (ss : List Seat) (P : Seat) (i : Nat) (a b : Nd) (T : List Msg) : Prop where
 t : Tree c l ss
 mem : P ∈ ss
 h0 : ¬ P.n.level = 0
 hi : i < P.n.kids.length
 po : Poured c P.n (Zb l P i).n i a b T
def ZW (l : List Nd) (a b : Nd) : List Nd := (l.set a.slot.toNat a).set b.slot.toNat b
namespace PourOf
variable {c : Cfg} {l : List Nd} {ss : List Seat} {P : Seat} {i : Nat} {a b : Nd} {T : List Msg}
theorem km (p : PourOf c l ss P i a b T) : Zb l P i ∈ ss ∧ (Zb l P i).n.level = P.n.level - 1 := by
 have := p.t.at p.mem p.h0 p.hi
 exact ⟨this.1, this.2.2.2⟩
theorem ne (p : PourOf c l ss P i a b T) {x y : Seat} (hx : x ∈ ss) (hy : y ∈ ss) (hl : x.n.level ≠ y.n.level) : x.n.slot ≠ y.n.slot := fun e => hl (by rw [p.t.uniq hx hy e])
theorem ksl (p : PourOf c l ss P i a b T) : (Zb l P i).n.slot ≠ P.n.slot := p.ne p.km.1 p.mem (by have := p.km.2; omega)
theorem sin (p : PourOf c l ss P i a b T) {x : Seat} (hx : x ∈ ss) : 0 ≤ x.n.slot ∧ x.n.slot < l.length := (p.t.nd hx).1
theorem lseen (p : PourOf c l ss P i a b T) {x : Seat} (hx : x ∈ ss) : x.n.seen ≤ 1099511627776 := by
 obtain ⟨j, hj, e⟩ := List.getElem_of_mem (p.t.nd hx).2.2
 rw [← e]; exact (p.t.slot j hj).2
theorem al (p : PourOf c l ss P i a b T) : a.slot = P.n.slot ∧ a.level = P.n.level ∧ a.pivots = P.n.pivots ∧ a.kids = P.n.kids ∧ a.high = P.n.high ∧ a.top = P.n.top ∧ a.right = P.n.right ∧ a.seen = P.n.seen ∧ a.rows = P.n.rows ∧ a.msgs = ZM P.n.pivots i T P.n.msgs := by
 rw [p.po.ea]; exact ⟨rfl, rfl, rfl, rfl, rfl, rfl, rfl, rfl, rfl, rfl⟩
theorem bl (p : PourOf c l ss P i a b T) : b.slot = (Zb l P i).n.slot ∧ b.level = (Zb l P i).n.level ∧ b.pivots = (Zb l P i).n.pivots ∧ b.kids = (Zb l P i).n.kids ∧ b.high = (Zb l P i).n.high ∧ b.top = (Zb l P i).n.top ∧ b.right = (Zb l P i).n.right := by
 rw [p.po.eb]; exact ⟨rfl, rfl, rfl, rfl, rfl, rfl, rfl⟩
theorem rt (p : PourOf c l ss P i a b T) : Z2 P.n.pivots = true ∧ P.n.kids.length = P.n.pivots.length + 1 := YQ (Yc (p.t.kids p.mem) p.h0).2.2.1
theorem pin (p : PourOf c l ss P i a b T) : P.n.innerR c.fan c.bud := p.t.inner p.mem p.h0
theorem kne (p : PourOf c l ss P i a b T) : (Zb l P i).s.empty = false := by
 cases h : (Zb l P i).s.empty
 ·rfl
 ·exfalso
  have hz : (Zb l P i).s = Span.zero := by
   have := XN P.s (Zf P.n.pivots (i : Int))
   have e : (Zb l P i).s = (Zb l P i).s.norm := this.symm
   rw [e]; unfold Span.norm; rw [if_pos h]
  have sK := p.t.seat p.km.1
  obtain ⟨⟨p1, p2⟩, _⟩ := sK.2.1
  rw [hz] at p1 p2
  exact (sK.1.2.2.1 p1).1 p2
theorem sps (p : PourOf c l ss P i a b T) : (YH P.n i).opn = (Zb l P i).s.opn ∧ (YH P.n i).hi = (Zb l P i).s.hi ∧ ∀ q, (Zb l P i).s.has q = true → (YH P.n i).has q = true := by
 have hne := p.kne
 obtain ⟨⟨p1, p2⟩, _⟩ := (p.t.seat p.mem).2.1
 have hP : ∀ q, P.s.has q = (P.n.has q && !q.lt P.s.lo) := fun q => by
  unfold Nd.has Span.has
  rw [p1, p2, Bool.and_comm]
 have hA : ∀ q, (Zb l P i).s.has q = ((YH P.n i).has q && !q.lt P.s.lo) := fun q => by
  show (P.s.meet (Zf P.n.pivots (i : Int))).has q = _
  rw [ZN, Zdr, hP]
  cases P.n.has q <;> cases (Zf P.n.pivots (i : Int)).has q <;> simp
 have hlo : (Zb l P i).s.has (Zb l P i).s.lo = true := by have := Span.empty_eq (Zb l P i).s; rw [hne] at this; simpa using this
 have hlo2 : (YH P.n i).has (Zb l P i).s.lo = true := by rw [hA, Bool.and_eq_true] at hlo; exact hlo.1
 have e := ZiJ (s := YH P.n i) (a := (Zb l P i).s) (k := (Zb l P i).s.lo) (XN _ _) (XN _ _) hlo2 fun q => by
  cases h1 : (Zb l P i).s.has q
  ·symm
   cases h2 : (YH P.n i).has q
   ·rfl
   ·cases h3 : q.lt (Zb l P i).s.lo
    ·exfalso
     have h4 := hlo
     rw [hA, Bool.and_eq_true] at h4
     have h5 : q.lt P.s.lo = false := Str.le_trans (by simpa using h4.2) h3
     rw [hA, h2, h5] at h1; cases h1
    ·rfl
  ·have h2 := h1
   rw [hA, Bool.and_eq_true] at h2
   rw [h2.1, (Yp.1 h1).1]; rfl
 exact ⟨by rw [e], by rw [e], fun q hq => by rw [hA, Bool.and_eq_true] at hq; exact hq.1⟩
theorem mspan (p : PourOf c l ss P i a b T) : ∀ m ∈ P.n.msgs, ∀ q, m.span.has q = true → P.s.has q = true := fun m hm q hq => by
 obtain ⟨_, _, _, p5⟩ := (p.t.seat p.mem).2.1
 obtain ⟨j, hj, rfl⟩ := List.getElem_of_mem hm
 have := congrArg (fun s : Span => s.has q) (p5 j hj)
 rw [ZN, Zaz, hq, Bool.true_and] at this
 exact this
theorem khas (p : PourOf c l ss P i a b T) (q : Str) : (Zb l P i).s.has q = (P.s.has q && (Zf P.n.pivots (i : Int)).has q) := by
 show (P.s.meet (Zf P.n.pivots (i : Int))).has q = _
 rw [ZN]
theorem mv (p : PourOf c l ss P i a b T) : Moved P.n.pivots i P.n.msgs T := by
 obtain ⟨n, _, _, rfl⟩ := p.po.take
 exact ZiR p.rt.1 (by have := p.rt.2; have := p.hi; omega) p.pin.2.2.1 n
theorem hcl (p : PourOf c l ss P i a b T) : Zc (Zb l P i).s P.n.msgs = T ++ Zc (Zb l P i).s a.msgs := by
 rw [p.al.2.2.2.2.2.2.2.2.2]
 refine p.mv.clips_in p.rt.1 (by have := p.rt.2; have := p.hi; omega) p.pin.2.2.1 (fun q hq => ?_) fun m hm q h1 h2 => ?_
 ·rw [p.khas, Bool.and_eq_true] at hq; exact hq.2
 ·rw [p.khas, p.mspan m hm q h1, h2]; rfl
theorem hout (p : PourOf c l ss P i a b T) {t : Span} (ht : ∀ k, t.has k = true → (Zf P.n.pivots (i : Int)).has k = false) : Zc t a.msgs = Zc t P.n.msgs := by
 rw [p.al.2.2.2.2.2.2.2.2.2]
 exact p.mv.clips_out p.rt.1 (by have := p.rt.2; have := p.hi; omega) p.pin.2.2.1 ht
theorem may (p : PourOf c l ss P i a b T) : MayP c P.n (Zb l P i).n i := by
 have sK := p.t.seat p.km.1
 obtain ⟨⟨p1, p2⟩, _⟩ := sK.2.1
 have hl := p.t.lvl p.mem
 have h0 := p.h0
 have hi := p.hi
 obtain ⟨s1, s2, s3⟩ := p.sps
 refine ⟨⟨(p.t.seat p.mem).1, sK.1, om9, p.km.2, om9, om9⟩, ⟨by rw [s1]; exact p1, by rw [s2]; exact p2⟩, fun j hj he => ?_⟩
 have hm := List.getElem_mem hj
 have hsame : (P.n.msgs[j].span.meet (Zb l P i).s).empty = false := by
  cases h1 : (P.n.msgs[j].span.meet (Zb l P i).s).empty
  ·rfl
  ·have h2 : (P.n.msgs[j].span.meet (YH P.n i)).empty = true := YO.2 fun q => by
    have h3 := YO.1 h1 q
    rw [ZN] at h3 ⊢
    cases h4 : P.n.msgs[j].span.has q
    ·rfl
    ·rw [h4, Bool.true_and] at h3
     rw [Bool.true_and]
     cases h5 : (YH P.n i).has q
     ·rfl
     ·rw [Zdr, Bool.and_eq_true] at h5
      rw [p.khas, p.mspan _ hm q h4, h5.2] at h3; cases h3
   rw [h2] at he; cases he
 have hc : (P.n.msgs[j].clip (Zb l P i).s).2 = true := by
  cases h1 : (P.n.msgs[j].clip (Zb l P i).s).2
  ·rw [Jq.1 h1] at hsame; cases hsame
  ·rfl
 have hmem : (P.n.msgs[j].clip (Zb l P i).s).1 ∈ (Zb l P i).ms := by
  rw [(p.t.kid_ms p.mem (p.t.rst P p.mem) i).1]
  exact List.mem_append_left _ (List.mem_filterMap.2 ⟨_, hm, if_pos hc⟩)
 obtain ⟨q, hq, e⟩ := List.getElem_of_mem hmem
 have := sK.2.2.2 q hq
 rw [e, X0 hc] at this
 exact this
noncomputable def nP (P : Seat) (a : Nd) : Seat := ⟨a, P.s, P.ms⟩
noncomputable def nK (l : List Nd) (P : Seat) (i : Nat) (a b : Nd) : Seat := ⟨b, (Zb l P i).s, Zc (Zb l P i).s a.msgs ++ Zc (Zb l P i).s P.ms⟩
noncomputable def gP (l : List Nd) (P : Seat) (i : Nat) (a b : Nd) (x : Seat) : Seat := if x.n.slot = (Zb l P i).n.slot then nK l P i a b else if x.n.slot = P.n.slot then nP P a else x
theorem g_k : gP l P i a b (Zb l P i) = nK l P i a b := if_pos rfl
theorem g_p (p : PourOf c l ss P i a b T) : gP l P i a b P = nP P a := by unfold gP; rw [if_neg p.ksl.symm, if_pos rfl]
theorem g_x {x : Seat} (h1 : x.n.slot ≠ P.n.slot) (h2 : x.n.slot ≠ (Zb l P i).n.slot) : gP l P i a b x = x := by unfold gP; rw [if_neg h2, if_neg h1]
theorem three (p : PourOf c l ss P i a b T) {Q : Seat → Prop} (hk : Q (Zb l P i)) (hp : Q P) (hx : ∀ x ∈ ss, x.n.slot ≠ P.n.slot → x.n.slot ≠ (Zb l P i).n.slot → Q x) : ∀ x ∈ ss, Q x := fun x hm => by
 by_cases c1 : x.n.slot = (Zb l P i).n.slot
 ·rw [p.t.uniq hm p.km.1 c1]; exact hk
 ·by_cases c2 : x.n.slot = P.n.slot
  ·rw [p.t.uniq hm p.mem c2]; exact hp
  ·exact hx x hm c2 c1
theorem g_same (p : PourOf c l ss P i a b T) : ∀ x ∈ ss, (gP l P i a b x).n.slot = x.n.slot ∧ (gP l P i a b x).n.level = x.n.level ∧ (gP l P i a b x).n.right = x.n.right ∧ (gP l P i a b x).n.pivots = x.n.pivots ∧ (gP l P i a b x).n.kids = x.n.kids ∧ (gP l P i a b x).s = x.s := by
 obtain ⟨a1, a2, a3, a4, a5, a6, a7, _⟩ := p.al
 obtain ⟨b1, b2, b3, b4, b5, b6, b7⟩ := p.bl
 refine p.three ?_ ?_ fun x hx h1 h2 => ?_
 ·rw [g_k]; exact ⟨b1, b2, b7, b3, b4, rfl⟩
 ·rw [p.g_p]; exact ⟨a1, a2, a7, a3, a4, rfl⟩
 ·rw [g_x h1 h2]; exact ⟨rfl, rfl, rfl, rfl, rfl, rfl⟩
theorem slots (p : PourOf c l ss P i a b T) : SlotsP (ZW l a b) := by
 have hk := p.sin p.km.1
 have hp := p.sin p.mem
 have tk := ZcC p.may p.po
 obtain ⟨⟨xl, hxl, exl⟩, _⟩ := Zds tk.rst p.po.ne
 have h1 := ZbX p.t.slot (x := a) (by rw [p.al.1]; exact hp) (by rw [p.al.2.2.2.2.2.2.2.1]; exact p.lseen p.mem)
 refine ZbX h1 (x := b) (by rw [List.length_set, p.bl.1]; exact hk) ?_
 rw [p.po.seen, exl]
 have hm : xl ∈ Zc (Zb l P i).s P.n.msgs := by rw [p.hcl]; exact List.mem_append_left _ hxl
 obtain ⟨m, hm, e⟩ := JG hm
 obtain ⟨j, hj, rfl⟩ := List.getElem_of_mem hm
 have := (p.pin.2.2.2.2.2.2 j hj).1
 have := p.lseen p.mem
 omega
theorem len (p : PourOf c l ss P i a b T) : (ZW l a b).length = l.length := by unfold ZW; rw [List.length_set, List.length_set]
theorem find (p : PourOf c l ss P i a b T) (s : Int) : Zr (ZW l a b) s = (if s = (Zb l P i).n.slot then b else if s = P.n.slot then a else Za l s, decide (0 ≤ s ∧ s < (l.length : Int))) := by
 have hk := p.sin p.km.1
 have hp := p.sin p.mem
 rw [Zaw p.slots, p.len]
 congr 1
 unfold ZW
 rw [Zal (by rw [List.length_set, p.bl.1]; exact hk), p.bl.1, Zal (by rw [p.al.1]; exact hp), p.al.1]
theorem find_g (p : PourOf c l ss P i a b T) {x : Seat} (hx : x ∈ ss) : Zr (ZW l a b) x.n.slot = ((gP l P i a b x).n, true) := by
 have hs := p.sin hx
 rw [p.find, decide_eq_true ⟨hs.1, hs.2⟩]
 congr 1
 revert hs
 refine p.three (Q := fun x => 0 ≤ x.n.slot ∧ x.n.slot < (l.length : Int) → (if x.n.slot = (Zb l P i).n.slot then b else if x.n.slot = P.n.slot then a else Za l x.n.slot) = (gP l P i a b x).n) (fun hs => ?_) (fun hs => ?_) (fun x hx h1 h2 hs => ?_) x hx
 ·rw [if_pos rfl, g_k]; rfl
 ·rw [if_neg p.ksl.symm, if_pos rfl, p.g_p]; rfl
 ·rw [if_neg h2, if_neg h1, g_x h1 h2]; exact (p.t.nd hx).2.1.symm
theorem slot_at (p : PourOf c l ss P i a b T) {x : Seat} (hx : x ∈ ss) (h0 : ¬ x.n.level = 0) {j : Nat} (hj : j < x.n.kids.length) : x.n.kids.getD j 0 = (Zb l x j).n.slot := by
 have e := (p.t.at hx h0 hj)
 rw [List.getD_eq_getElem?_getD, List.getElem?_eq_getElem hj, e.2.2.1, (YN p.t.slot e.2.1).1]; rfl
theorem kms (p : PourOf c l ss P i a b T) : (Zb l P i).ms = T ++ (Zc (Zb l P i).s a.msgs ++ Zc (Zb l P i).s P.ms) := by
 rw [(p.t.kid_ms p.mem (p.t.rst P p.mem) i).1, p.hcl, List.append_assoc]
theorem kid_g (p : PourOf c l ss P i a b T) {x : Seat} (hx : x ∈ ss) (h0 : ¬ x.n.level = 0) {j : Nat} (hj : j < x.n.kids.length) : Zb (ZW l a b) (gP l P i a b x) j = gP l P i a b (Zb l x j) := by
 have hy := (p.t.at hx h0 hj).1
 obtain ⟨s1, s2, s3, s4, s5, s6⟩ := p.g_same x hx
 obtain ⟨y1, y2, y3, y4, y5, y6⟩ := p.g_same _ hy
 have en : (Zb (ZW l a b) (gP l P i a b x) j).n = (gP l P i a b (Zb l x j)).n := by
  show (Zr _ ((gP l P i a b x).n.kids.getD j 0)).1 = _
  rw [s5, p.slot_at hx h0 hj, p.find_g hy]
 have es : (Zb (ZW l a b) (gP l P i a b x) j).s = (Zb l x j).s := by
  show (gP l P i a b x).s.meet (Zf (gP l P i a b x).n.pivots (j : Int)) = _
  rw [s4, s6]; rfl
 have em : ZO [Zc (Zb l x j).s (gP l P i a b x).n.msgs, Zc (Zb l x j).s (gP l P i a b x).ms] = (gP l P i a b (Zb l x j)).ms := by
  have old : ZO [Zc (Zb l x j).s x.n.msgs, Zc (Zb l x j).s x.ms] = (Zb l x j).ms := rfl
  by_cases c1 : x.n.slot = (Zb l P i).n.slot
  ·have ex := p.t.uniq hx p.km.1 c1
   have n1 : (Zb l x j).n.slot ≠ P.n.slot := p.ne hy p.mem (by have := (p.t.at hx h0 hj).2.2.2; have := p.km.2; rw [ex] at *; omega)
   have n2 : (Zb l x j).n.slot ≠ (Zb l P i).n.slot := p.ne hy p.km.1 (by have := (p.t.at hx h0 hj).2.2.2; rw [ex] at *; omega)
   rw [g_x n1 n2, ← old, ex, g_k]
   have hI := p.po.inner (by rw [← ex]; exact h0)
   show ZO [Zc _ b.msgs, Zc _ (Zc (Zb l P i).s a.msgs ++ Zc (Zb l P i).s P.ms)] = _
   have h2 := (p.t.two p.km.1 (Zb l (Zb l P i) j).s)
   rw [h2.1]
   have h3 := h2.2
   have e1 : Zc (Zb l (Zb l P i) j).s (Zb l P i).ms = Zc (Zb l (Zb l P i) j).s T ++ Zc (Zb l (Zb l P i) j).s (Zc (Zb l P i).s a.msgs ++ Zc (Zb l P i).s P.ms) := by rw [p.kms]; exact X9 _ _ _
   have e2 : Zc (Zb l (Zb l P i) j).s b.msgs = Zc (Zb l (Zb l P i) j).s (Zb l P i).n.msgs ++ Zc (Zb l (Zb l P i) j).s T := by rw [hI.2.1]; exact X9 _ _ _
   rw [e1, ← List.append_assoc, ← e2] at h3 ⊢
   obtain ⟨r1, r2, r3⟩ := ZaH h3
   exact (ZaQ r1 r2 r3).1
  ·by_cases c2 : x.n.slot = P.n.slot
   ·have ex := p.t.uniq hx p.mem c2
    subst ex
    rw [p.g_p]
    show ZO [Zc _ a.msgs, Zc _ x.ms] = _
    by_cases e : j = i
    ·subst e
     rw [g_k]
     have h3 := (p.t.two p.mem (Zb l x j).s).2
     rw [p.hcl, List.append_assoc] at h3
     obtain ⟨r1, r2, r3⟩ := ZaH (ZaH h3).2.1
     exact (ZaQ r1 r2 r3).1
    ·have hne : (Zb l x j).n.slot ≠ (Zb l x i).n.slot := fun e2 => e (by
      have hkl := (Yc (p.t.kids p.mem) p.h0)
      exact p.t.kid_nd p.mem (i := j) (j := i) (by rw [hkl.1, JV]; exact hj) (by rw [hkl.1, JV]; exact p.hi) (by rw [(p.t.kidsD_at p.mem p.h0).2, (p.t.kidsD_at p.mem p.h0).2]; exact e2))
     have n1 : (Zb l x j).n.slot ≠ x.n.slot := p.ne hy hx (by have := (p.t.at hx h0 hj).2.2.2; omega)
     rw [g_x n1 hne, ← old, p.hout fun q hq => ?_]
     have h1 := Zbf (l := l) (Yc (p.t.kids p.mem) p.h0).2.2.1 hj q
     rw [hq] at h1
     have h2 := h1.symm
     rw [Bool.and_eq_true, decide_eq_true_eq] at h2
     rw [Xv p.rt.1 q (by have := p.rt.2; have := p.hi; omega), decide_eq_false om9]
   ·rw [g_x c2 c1, old]
    have hin : Zb l x j ∈ Zk l x := by rw [(Yc (p.t.kids hx) h0).1]; exact List.mem_map.2 ⟨j, List.mem_range.2 hj, rfl⟩
    have hkin : Zb l P i ∈ Zk l P := by rw [(Yc (p.t.kids p.mem) p.h0).1]; exact List.mem_map.2 ⟨i, List.mem_range.2 p.hi, rfl⟩
    have n2 : (Zb l x j).n.slot ≠ (Zb l P i).n.slot := fun e => c2 (by rw [p.t.parent hx p.mem hin hkin e])
    by_cases c3 : (Zb l x j).n.slot = P.n.slot
    ·rw [p.t.uniq hy p.mem c3, p.g_p]; rfl
    ·rw [g_x c3 n2]
 have e3 : (Zb (ZW l a b) (gP l P i a b x) j).ms = ZO [Zc (Zb (ZW l a b) (gP l P i a b x) j).s (gP l P i a b x).n.msgs, Zc (Zb (ZW l a b) (gP l P i a b x) j).s (gP l P i a b x).ms] := rfl
 rw [es, em] at e3
 cases hA : Zb (ZW l a b) (gP l P i a b x) j
 cases hB : gP l P i a b (Zb l x j)
 rw [hA] at en es e3
 rw [hB] at en e3 y6
 simp only at en es e3 y6
 rw [en, es, e3, y6]
theorem each (p : PourOf c l ss P i a b T) {x : Seat} (hx : x ∈ ss) : (ZZ (ZW l a b) (gP l P i a b x)).isSome = true ∧ Zk (ZW l a b) (gP l P i a b x) = (Zk l x).map (gP l P i a b) := by
 obtain ⟨s1, s2, s3, s4, s5, s6⟩ := p.g_same x hx
 by_cases h0 : x.n.level = 0
 ·rw [Zau (by rw [s2]; exact h0), XA (by rw [s2]; exact h0), XA h0]; exact ⟨rfl, rfl⟩
 ·obtain ⟨h1, h2, h3, h4⟩ := Yc (p.t.kids hx) h0
  obtain ⟨g1, g2⟩ := ZaG (l := ZW l a b) (x := gP l P i a b x) (by rw [s2]; exact h2) (by rw [s4, s5]; exact h3) fun j hj => by
   rw [s5] at hj
   have e := p.t.at hx h0 hj
   unfold YS
   rw [s5, p.slot_at hx h0 hj, p.find_g e.1]
   simp only [Bool.true_and, decide_eq_true_eq]
   rw [(p.g_same _ e.1).2.1, s2]; exact e.2.2.2
  refine ⟨g1, ?_⟩
  rw [g2, h1, s5]
  unfold YL
  rw [List.map_map]
  exact List.map_congr_left fun j hj => p.kid_g hx h0 (List.mem_range.1 hj)
theorem froot (p : PourOf c l ss P i a b T) : gP l P i a b (Zm l 0) = Zm (ZW l a b) 0 := by
 have e0 := p.t.root0
 have hkin : Zb l P i ∈ Zk l P := by rw [(Yc (p.t.kids p.mem) p.h0).1]; exact List.mem_map.2 ⟨i, List.mem_range.2 p.hi, rfl⟩
 have n2 : (Zm l 0).n.slot ≠ (Zb l P i).n.slot := (p.t.root_kid p.mem hkin).symm
 have hf := p.find_g p.t.root
 rw [e0] at hf
 by_cases c1 : (Zm l 0).n.slot = P.n.slot
 ·have eP := p.t.uniq p.t.root p.mem c1
  have : Zm (ZW l a b) 0 = ⟨(gP l P i a b (Zm l 0)).n, Span.all, []⟩ := by unfold Zm at hf ⊢; rw [hf]
  rw [this, eP, p.g_p, ← eP]; rfl
 ·rw [g_x c1 n2] at hf ⊢
  show (⟨(Zr l 0).1, _, _⟩ : Seat) = ⟨(Zr _ 0).1, _, _⟩
  rw [hf]; rfl
theorem flat_map {g : Seat → Seat} {K K' : Seat → List Seat} : ∀ {L : List Seat}, (∀ x ∈ L, K' (g x) = (K x).map g) → (L.map g).flatMap K' = (L.flatMap K).map g
 | [], _ => rfl
 | x :: L, h => by
  rw [List.map_cons, List.flatMap_cons, List.flatMap_cons, List.map_append, h x (by simp), flat_map fun z hz => h z (List.mem_cons_of_mem _ hz)]
theorem fix (p : PourOf c l ss P i a b T) : ss.map (gP l P i a b) = Zm (ZW l a b) 0 :: (ss.map (gP l P i a b)).flatMap (Zk (ZW l a b)) := by
 rw [flat_map fun x hx => (p.each hx).2]
 conv => lhs; rw [p.t.fix]
 rw [List.map_cons, p.froot]
theorem keys (p : PourOf c l ss P i a b T) : (ss.map (gP l P i a b)).map Seat.key = ss.map Seat.key := by
 rw [List.map_map]
 refine List.map_congr_left fun x hx => ?_
 obtain ⟨s1, s2, s3, _⟩ := p.g_same x hx
 show ((gP l P i a b x).n.slot, (gP l P i a b x).n.level, (gP l P i a b x).n.right) = _
 rw [s1, s2, s3]; rfl
theorem perm (p : PourOf c l ss P i a b T) : ((ss.map (gP l P i a b)).map fun x : Seat => x.n.slot).Perm ((ZW l a b).map fun n : Nd => n.slot) := by
 have h1 : (ss.map (gP l P i a b)).map (fun x : Seat => x.n.slot) = ss.map (fun x : Seat => x.n.slot) := by
  rw [List.map_map]
  exact List.map_congr_left fun x hx => (p.g_same x hx).1
 rw [h1]
 have h4 : ((ZW l a b).map fun n : Nd => n.slot) = (l.map fun n : Nd => n.slot) := by rw [ZaJ p.slots, ZaJ p.t.slot, p.len]
 rw [h4]; exact p.t.perm_s
theorem tin (p : PourOf c l ss P i a b T) : ∀ m ∈ T, ∀ q, m.span.has q = true → (Zb l P i).s.has q = true := fun m hm q hq => by
 have hmR := (MsgsR.iff.1 p.pin.2.2.1).1
 obtain ⟨x, hx, h1, rfl⟩ := J0 (show m ∈ Zc (Zb l P i).s P.n.msgs by rw [p.hcl]; exact List.mem_append_left _ hm)
 exact (ZcB (hmR x hx) h1 hq).2
theorem norm_of {m : Msg} {s : Span} (h : ∀ q, m.span.has q = true → s.has q = true) : m.span.meet s = m.span.norm := by
 rw [← XN]
 exact Zbg fun q => by
  rw [ZN]
  cases hq : m.span.has q
  ·rfl
  ·rw [h q hq]; rfl
theorem seats9 (p : PourOf c l ss P i a b T) : ∀ x ∈ ss, SeatP c (gP l P i a b x) := by
 have hm := (Zfp p.may p.po).1
 have sK := p.t.seat p.km.1
 have sP := p.t.seat p.mem
 have tk := ZcC p.may p.po
 obtain ⟨⟨xl, hxl, exl⟩, _⟩ := Zds tk.rst p.po.ne
 obtain ⟨a1, a2, a3, a4, a5, a6, a7, a8, a9, a10⟩ := p.al
 obtain ⟨b1, b2, b3, b4, b5, b6, b7⟩ := p.bl
 have hpR := (MsgsR.iff.1 p.pin.2.2.1).1
 refine p.three ?_ ?_ fun x hx h1 h2 => ?_
 ·rw [g_k]
  refine ⟨hm.1.2.1, ⟨⟨by show b.top = _; rw [b6]; exact sK.2.1.1.1, by show b.high = _; rw [b5]; exact sK.2.1.1.2⟩, fun j hj => ?_, fun j hj => ?_, fun j hj => ?_⟩, by show b.slot < _; rw [b1]; exact sK.2.2.1, fun j hj => ?_⟩
  ·have hmem := List.getElem_mem hj
   have all : ∀ y ∈ b.rows, (Zb l P i).s.has y.key = true := by
    have old : ∀ y ∈ (Zb l P i).n.rows, (Zb l P i).s.has y.key = true := fun y hy => by obtain ⟨q, hq, rfl⟩ := List.getElem_of_mem hy; exact sK.2.1.2.1 q hq
    by_cases h0 : (Zb l P i).n.level = 0
    ·rw [(p.po.leaf h0).2.1]
     exact ZiZ (p.t.leaf p.km.1 h0).2.2.1 tk.R old p.tin
    ·rw [(p.po.inner h0).1]; exact old
   exact all _ hmem
  ·have all : ∀ y ∈ b.pivots, (Zb l P i).s.has y = true ∧ y ≠ (Zb l P i).s.lo := fun y hy => by
    rw [b3] at hy
    obtain ⟨q, hq, rfl⟩ := List.getElem_of_mem hy
    exact sK.2.1.2.2.1 q hq
   exact all _ (List.getElem_mem hj)
  ·have old : ∀ y ∈ (Zb l P i).n.msgs, y.span.meet (Zb l P i).s = y.span.norm := fun y hy => by obtain ⟨q, hq, rfl⟩ := List.getElem_of_mem hy; exact sK.2.1.2.2.2 q hq
   have all : ∀ y ∈ b.msgs, y.span.meet (Zb l P i).s = y.span.norm := fun y hy => by
    by_cases h0 : (Zb l P i).n.level = 0
    ·rw [(p.po.leaf h0).1] at hy; exact old y hy
    ·rw [(p.po.inner h0).2.1] at hy
     rcases List.mem_append.1 hy with hy | hy
     ·exact old y hy
     ·exact norm_of (p.tin y hy)
   exact all _ (List.getElem_mem hj)
  ·show b.seen < _
   rw [p.po.seen, exl]
   have hr := p.t.rst _ p.km.1
   rw [p.kms] at hr
   exact (ZaH hr).2.2 xl hxl _ (List.getElem_mem hj)
 ·rw [p.g_p]
  refine ⟨hm.1.1, ⟨⟨by show a.top = _; rw [a6]; exact sP.2.1.1.1, by show a.high = _; rw [a5]; exact sP.2.1.1.2⟩, fun j hj => ?_, fun j hj => ?_, fun j hj => ?_⟩, by show a.slot < _; rw [a1]; exact sP.2.2.1, fun j hj => ?_⟩
  ·have all : ∀ y ∈ a.rows, P.s.has y.key = true := fun y hy => by
    rw [a9] at hy
    obtain ⟨q, hq, rfl⟩ := List.getElem_of_mem hy
    exact sP.2.1.2.1 q hq
   exact all _ (List.getElem_mem hj)
  ·have all : ∀ y ∈ a.pivots, P.s.has y = true ∧ y ≠ P.s.lo := fun y hy => by
    rw [a3] at hy
    obtain ⟨q, hq, rfl⟩ := List.getElem_of_mem hy
    exact sP.2.1.2.2.1 q hq
   exact all _ (List.getElem_mem hj)
  ·have all : ∀ y ∈ a.msgs, y.span.meet P.s = y.span.norm := fun y hy => by
    rw [a10] at hy
    obtain ⟨_, m, hm, _, h3⟩ := Zfo (ZbL sP.1) hpR hy
    exact norm_of fun q hq => p.mspan m hm q (h3 q hq)
   exact all _ (List.getElem_mem hj)
  ·show a.seen < _
   rw [a8]; exact sP.2.2.2 j hj
 ·rw [g_x h1 h2]; exact p.t.seat hx
theorem tree (p : PourOf c l ss P i a b T) : Tree c (ZW l a b) (ss.map (gP l P i a b)) := by
 have hsm := p.t.sml
 have hm := (Zfp p.may p.po).1
 refine Zdm p.t.cfg (by rw [p.len]; exact p.t.pos) (ZdM p.t.cfg (by rw [p.len]; exact hsm.1) fun n hn => ?_) p.slots p.fix (fun z hz => ?_) p.perm ?_ (by rw [p.len]; exact p.t.q.1.2.2) fun z hz => ?_
 ·have old : ∀ n ∈ l, n.R c.fan c.leaf c.bud := fun n hn => by
   have := (p.t.perm.mem_iff).2 hn
   obtain ⟨x, hx, rfl⟩ := List.mem_map.1 this
   exact (p.t.seat hx).1
  unfold ZW at hn
  rcases List.mem_or_eq_of_mem_set hn with hn | rfl
  ·rcases List.mem_or_eq_of_mem_set hn with hn | rfl
   ·exact old n hn
   ·exact hm.1.1
  ·exact hm.1.2.1
 ·obtain ⟨x, hx, rfl⟩ := List.mem_map.1 hz
  exact (p.each hx).1
 ·rw [p.keys]; exact (ZbI ss).1 p.t.q.1.2.1
 ·obtain ⟨x, hx, rfl⟩ := List.mem_map.1 hz
  exact p.seats9 x hx
theorem view (p : PourOf c l ss P i a b T) (h0 : (Zb l P i).n.level = 0) : YD (nK l P i a b) = YD (Zb l P i) := by
 have hR := p.t.rows p.km.1
 have tk := ZcC p.may p.po
 unfold YD
 show Zu (b.rows.filter fun p => (Zb l P i).s.has p.key) (Zc (Zb l P i).s (Zc (Zb l P i).s a.msgs ++ Zc (Zb l P i).s P.ms)) = _
 rw [(p.po.leaf h0).2.1, ← Zbc hR.srt fun m hm => by have := (tk.R m hm).1.2.1; omega]
 conv => rhs; rw [p.kms, X9]
 unfold Zu
 rw [List.foldl_append]
theorem map (p : PourOf c l ss P i a b T) : Zh (ZW l a b) = Zh l := by
 rw [Js p.tree.sts, Js p.t.sts]
 rw [show ss.map (gP l P i a b) = ss.flatMap fun x => [gP l P i a b x] from List.map_eq_flatMap]
 refine Zf4 (p.three ?_ ?_ fun x hx h1 h2 => ?_)
 ·rw [g_k]
  by_cases h0 : (Zb l P i).n.level = 0
  ·have h1 : (nK l P i a b).n.level = 0 := by show b.level = 0; rw [p.bl.2.1]; exact h0
   simp [ZF, List.filter_cons, h0, h1, p.view h0]
  ·have h1 : ¬ (nK l P i a b).n.level = 0 := by show ¬ b.level = 0; rw [p.bl.2.1]; exact h0
   simp [ZF, List.filter_cons, h0, h1]
 ·rw [p.g_p]
  have h0 := p.h0
  have h1 : ¬ (nP P a).n.level = 0 := by show ¬ a.level = 0; rw [p.al.2.1]; exact h0
  simp [ZF, List.filter_cons, h0, h1]
 ·rw [g_x h1 h2]
end PourOf
structure Act25 where
 kind : Int
 n : Nd
instance : Inhabited Act25 := ⟨⟨0, Nd.zero⟩⟩
theorem Zr9 {l : List Nd} {i : Int} (h : ¬ (0 ≤ i ∧ i < l.length)) : Za l i = Nd.zero := by
 unfold Za
 by_cases h0 : 0 ≤ i
 ·rw [if_pos h0, List.getD_eq_getElem?_getD, List.getElem?_eq_none om9]; rfl
 ·rw [if_neg h0]
theorem ZaL {l : List Nd} {i : Int} (h : 0 ≤ i ∧ i < l.length) : Za l i = l[i.toNat]'om9 := by
 have := Zae (l := l) (k := i.toNat) om9
 rwa [show ((i.toNat : Nat) : Int) = i by omega] at this
def Zl (l : List Nd) (a i : Int) : Nd := Za l ((Za l a).kids.getD i.toNat 0)
noncomputable def Xp (c : Cfg) (l : List Nd) (a i : Int) : (Int × Int × Int) × List Nd :=
 if Z4 c (Za l a) (Zl l a i) i = 3 then (if (ZP c l a i).1 = 0 then ((3, a, 0), (ZP c l a i).2) else ((0, a, (ZP c l a i).1), (ZP c l a i).2))
 else if Z4 c (Za l a) (Zl l a i) i = 4 then ((4, a, 0), ZW l (Z9 c.leaf c.bud (Za l a) (Zl l a i) i).1 (Z9 c.leaf c.bud (Za l a) (Zl l a i) i).2.1)
 else if Z4 c (Za l a) (Zl l a i) i = 5 then ((5, (Zl l a i).slot, 0), l)
 else ((0, a, 0), l)
noncomputable def Zx (c : Cfg) (l : List Nd) (a : Int) (k : Str) : (Int × Int × Int) × List Nd :=
 if (ZB c (Za l a) k).1 = 0 then ((0, a, 0), l)
 else if (ZB c (Za l a) k).1 = 1 then (if (ZS c l).1 = 0 then ((1, a, 0), (ZS c l).2) else ((0, a, (ZS c l).1), (ZS c l).2))
 else Xp c l a (ZB c (Za l a) k).2
theorem Jk {c : Cfg} {l : List Nd} {a : Int} {k : Str} (h : (ZB c (Za l a) k).1 = 0) : Zx c l a k = ((0, a, 0), l) := if_pos h
theorem Jl {c : Cfg} {l : List Nd} {a : Int} {k : Str} (h : (ZB c (Za l a) k).1 = 1) (h2 : (ZS c l).1 = 0) : Zx c l a k = ((1, a, 0), (ZS c l).2) := by unfold Zx; rw [if_neg om9, if_pos h, if_pos h2]
theorem Jm {c : Cfg} {l : List Nd} {a : Int} {k : Str} (h : (ZB c (Za l a) k).1 = 1) (h2 : ¬ (ZS c l).1 = 0) : Zx c l a k = ((0, a, (ZS c l).1), (ZS c l).2) := by unfold Zx; rw [if_neg om9, if_pos h, if_neg h2]
theorem X4 {c : Cfg} {l : List Nd} {a : Int} {k : Str} (h : (ZB c (Za l a) k).1 = 2) : Zx c l a k = Xp c l a (ZB c (Za l a) k).2 := by unfold Zx; rw [if_neg om9, if_neg om9]
section
variable {c : Cfg} {l : List Nd} {a i : Int}
theorem X5 (h : Z4 c (Za l a) (Zl l a i) i = 3) (h2 : (ZP c l a i).1 = 0) : Xp c l a i = ((3, a, 0), (ZP c l a i).2) := by unfold Xp; rw [if_pos h, if_pos h2]
theorem X6 (h : Z4 c (Za l a) (Zl l a i) i = 3) (h2 : ¬ (ZP c l a i).1 = 0) : Xp c l a i = ((0, a, (ZP c l a i).1), (ZP c l a i).2) := by unfold Xp; rw [if_pos h, if_neg h2]
theorem YR (h : Z4 c (Za l a) (Zl l a i) i = 4) : Xp c l a i = ((4, a, 0), ZW l (Z9 c.leaf c.bud (Za l a) (Zl l a i) i).1 (Z9 c.leaf c.bud (Za l a) (Zl l a i) i).2.1) := by unfold Xp; rw [if_neg om9, if_pos h]
theorem X7 (h : Z4 c (Za l a) (Zl l a i) i = 5) : Xp c l a i = ((5, (Zl l a i).slot, 0), l) := by unfold Xp; rw [if_neg om9, if_neg om9, if_pos h]
theorem JC (h : Z4 c (Za l a) (Zl l a i) i = 0) : Xp c l a i = ((0, a, 0), l) := by unfold Xp; rw [if_neg om9, if_neg om9, if_neg om9]
theorem XU (c : Cfg) (p k : Nd) (i : Int) : Z4 c p k i = 0 ∨ Z4 c p k i = 3 ∨ (Z4 c p k i = 4 ∧ 0 < ZY c.leaf c.bud p k i) ∨ Z4 c p k i = 5 := by
 unfold Z4
 split
 ·split
  ·exact .inl rfl
  ·exact .inr (.inl rfl)
 ·split
  ·rename_i h; exact .inr (.inr (.inl ⟨rfl, h⟩))
  ·split
   ·exact .inr (.inr (.inr rfl))
   ·split
    ·split
     ·exact .inl rfl
     ·exact .inr (.inl rfl)
    ·exact .inl rfl
end
theorem Jn (c : Cfg) (n : Nd) (k : Str) : (ZB c n k).1 = 0 ∨ (ZB c n k).1 = 1 ∨ ((ZB c n k).1 = 2 ∧ ¬ n.level = 0 ∧ ((ZB c n k).2 = (Xy n.pivots n.msgs).1 ∨ (ZB c n k).2 = ((Zg n.pivots k : Nat) : Int))) := by
 unfold ZB
 split
 ·exact .inl rfl
 ·rename_i h0
  split
  ·exact .inr (.inl rfl)
  ·refine .inr (.inr ⟨rfl, h0, ?_⟩)
   dsimp only
   split
   ·exact .inl rfl
   ·exact .inr rfl
theorem Tree.seat_of {c : Cfg} {l : List Nd} {ss : List Seat} (t : Tree c l ss) {a : Int} (ha : 0 ≤ a ∧ a < l.length) : ∃ P ∈ ss, P.n = Za l a := by
 have hm : Za l a ∈ l := by rw [ZaL ha]; exact List.getElem_mem _
 have := (t.perm.mem_iff).2 hm
 obtain ⟨P, hP, e⟩ := List.mem_map.1 this
 exact ⟨P, hP, e⟩
structure StepAt (c : Cfg) (l : List Nd) (ss : List Seat) (a i : Int) (P : Seat) : Prop where
 mem : P ∈ ss
 n : P.n = Za l a
 h0 : ¬ P.n.level = 0
 hi : 0 ≤ i ∧ i < (P.n.kids.length : Int)
 slot : P.n.slot = a
 kid : (Zb l P i.toNat).n = Zl l a i
 kin : 0 ≤ (Za l a).kids.getD i.toNat 0 ∧ (Za l a).kids.getD i.toNat 0 < (l.length : Int)
 ksl : (Zl l a i).slot = (Za l a).kids.getD i.toNat 0
 kof : KidOf (Za l a) (Zl l a i) i
theorem JD {c : Cfg} {l : List Nd} {ss : List Seat} (t : Tree c l ss) {a i : Int} (ha : 0 ≤ a ∧ a < l.length) (h0 : ¬ (Za l a).level = 0) (hi : 0 ≤ i ∧ i < ((Za l a).kids.length : Int)) : ∃ P, StepAt c l ss a i P := by
 obtain ⟨P, hP, e⟩ := t.seat_of ha
 have hP0 : ¬ P.n.level = 0 := by rw [e]; exact h0
 have hj : i.toNat < P.n.kids.length := by rw [e]; omega
 have h1 := t.at hP hP0 hj
 have ek : (Za l a).kids.getD i.toNat 0 = P.n.kids[i.toNat] := by rw [← e, List.getD_eq_getElem?_getD, List.getElem?_eq_getElem hj]; rfl
 have hs := (YN t.slot ha).1
 have hks := (YN t.slot h1.2.1).1
 have hl := t.lvl hP
 refine ⟨P, hP, e, hP0, by rw [e]; exact hi, by rw [e, hs], by rw [h1.2.2.1]; unfold Zl; rw [ek], by rw [ek]; exact h1.2.1, by unfold Zl; rw [ek]; exact hks, ?_⟩
 unfold KidOf Zl
 rw [ek, ← h1.2.2.1, h1.2.2.2, ← e]
 exact ⟨om9, rfl, om9, by rw [e]; exact hi.2⟩
theorem JU {c : Cfg} {l : List Nd} {ss : List Seat} (t : Tree c l ss) {a : Int} {k : Str} (ha : 0 ≤ a ∧ a < l.length) (h : (ZB c (Za l a) k).1 = 2) : ¬ (Za l a).level = 0 ∧ 0 ≤ (ZB c (Za l a) k).2 ∧ (ZB c (Za l a) k).2 < ((Za l a).kids.length : Int) := by
 obtain ⟨P, hP, e⟩ := t.seat_of ha
 rcases Jn c (Za l a) k with h1 | h1 | ⟨_, h0, h1⟩
 ·omega
 ·omega
 ·refine ⟨h0, ?_⟩
  have hr := (YQ (Yc (t.kids hP) (by rw [e]; exact h0)).2.2.1).2
  rw [e] at hr
  rcases h1 with h1 | h1
  ·rw [h1]
   have := ZrR (P := (Za l a).pivots) (l := (Za l a).msgs)
   omega
  ·rw [h1]
   have : Zg (Za l a).pivots k ≤ (Za l a).pivots.length := List.length_filter_le _ _
   omega
theorem StepAt.pour {c : Cfg} {l : List Nd} {ss : List Seat} {a i : Int} {P : Seat} (t : Tree c l ss) (s : StepAt c l ss a i P) (h : 0 < ZY c.leaf c.bud (Za l a) (Zl l a i) i) :
  ∃ T, PourOf c l ss P i.toNat (Z9 c.leaf c.bud (Za l a) (Zl l a i) i).1 (Z9 c.leaf c.bud (Za l a) (Zl l a i) i).2.1 T := by
 rcases Zpx c (Za l a) (Zl l a i) i with e | ⟨hk, T, hp, e⟩
 ·have := ZrT c.leaf c.bud (Za l a) (Zl l a i) i
  rw [e] at this
  dsimp only at this
  omega
 ·refine ⟨T, t, s.mem, s.h0, by have := s.hi; omega, ?_⟩
  have hc : ((i.toNat : Nat) : Int) = i := by have := s.hi; omega
  rw [s.kid, s.n, hc]
  exact hp
theorem Zsa {c : Cfg} {l : List Nd} {ss : List Seat} (t : Tree c l ss) {a i : Int} (ha : 0 ≤ a ∧ a < l.length) (h0 : ¬ (Za l a).level = 0) (hi : 0 ≤ i ∧ i < ((Za l a).kids.length : Int)) : ∃ T, Tree c (Xp c l a i).2 T ∧ Zh (Xp c l a i).2 = Zh l := by
 obtain ⟨P, s⟩ := JD t ha h0 hi
 rcases XU c (Za l a) (Zl l a i) i with h | h | ⟨h, h2⟩ | h
 ·rw [JC h]; exact ⟨ss, t, rfl⟩
 ·obtain ⟨T, h1, h2⟩ := ZrK t a i
  by_cases h3 : (ZP c l a i).1 = 0
  ·rw [X5 h h3]; exact ⟨T, h1, h2⟩
  ·rw [X6 h h3]; exact ⟨T, h1, h2⟩
 ·rw [YR h]
  obtain ⟨T, p⟩ := s.pour t h2
  exact ⟨_, p.tree, p.map⟩
 ·rw [X7 h]; exact ⟨ss, t, rfl⟩
theorem Zaq {c : Cfg} {l : List Nd} {ss : List Seat} (t : Tree c l ss) {a : Int} (ha : 0 ≤ a ∧ a < l.length) (k : Str) : ∃ T, Tree c (Zx c l a k).2 T ∧ Zh (Zx c l a k).2 = Zh l := by
 rcases Jn c (Za l a) k with h | h | ⟨h, _⟩
 ·rw [Jk h]; exact ⟨ss, t, rfl⟩
 ·obtain ⟨T, h1, h2⟩ := Zka t
  by_cases h3 : (ZS c l).1 = 0
  ·rw [Jl h h3]; exact ⟨T, h1, h2⟩
  ·rw [Jm h h3]; exact ⟨T, h1, h2⟩
 ·rw [X4 h]
  obtain ⟨h0, hi⟩ := JU t ha h
  exact Zsa t ha h0 hi
theorem Xq {K : (Int × Int × Int) × List Nd} {w n e w0 n0 e0 : Int} {L : List Nd} (hE : K = ((w0, n0, e0), L)) (h1 : w = w0) (h2 : n = n0) (h3 : e = e0) :
  Value.tuple #[.int .i64 w, .int .i64 n, .int .i64 e] = .tuple #[.int .i64 K.1.1, .int .i64 K.1.2.1, .int .i64 K.1.2.2] := by rw [hE, h1, h2, h3]
theorem Zkq {c : Cfg} {p k : Nd} {i : Int} (h3 : ¬ Z4 c p k i = 3) (h4 : ¬ Z4 c p k i = 4) (h5 : ¬ Z4 c p k i = 5) : Z4 c p k i = 0 := by
 rcases XU c p k i with h | h | ⟨h, _⟩ | h
 ·exact h
 ·exact absurd h h3
 ·exact absurd h h4
 ·exact absurd h h5
theorem Zkr {c : Cfg} {n : Nd} {k : Str} (h1 : ¬ (ZB c n k).1 = 1) (h2 : ¬ (ZB c n k).1 = 2) : (ZB c n k).1 = 0 := by
 rcases Jn c n k with h | h | ⟨h, _⟩
 ·exact h
 ·exact absurd h h1
 ·exact absurd h h2
end Go.Fw
