/- The walk of pour.Pour. -/
import Derived.Test.YtbbemibbmbmamaaGreatQiNx
set_option maxRecDepth 100000
set_option maxHeartbeats 1600000
set_option linter.unusedVariables false
set_option linter.unusedSimpArgs false
set_option linter.unnecessarySimpa false
namespace Go.Proofs.YtbbemibbmbmamaaGreat
open Go Go.Fw Go.RowKit
attribute [local irreducible] Ok W WC
theorem JW {G : GH} (cf : Int) (cl : Int) (cb : Int) (cs : Int) (cr : Int) {cs_p : List Value} {p : Nd} (h_p : NodeC G cs_p p) {cs_k : List Value} {k : Nd} (h_k : NodeC G cs_k k) (i : Int) (hb : 0 ≤ cb ∧ cb ≤ 9223372036854775807) (hr : ZX p.pivots = true) (hpv : ∀ q ∈ p.pivots, q.b.size ≤ 16) (hpm : ∀ m ∈ p.msgs, m.R) (hkm : ∀ m ∈ k.msgs, m.key.b.size ≤ 16 ∧ m.val.b.size ≤ 16) (hkr : PairsR k.rows) (hi : i64 i) (hsz : k.msgs.length + p.msgs.length ≤ 100000 ∧ k.rows.length ≤ 100000) :
    Fc Tryz.prog 194 [.agg #[iV cf, iV cl, iV cb, iV cs, iV cr], .agg (List.toArray cs_p), .agg (List.toArray cs_k), iV i] G [] (fun v G' M' => M' = [] ∧ ∃ r : Nd × Nd × Nat, r = ZU cl cb p k i ∧ ∃ u0 u1, v = .tuple #[.agg (List.toArray u0), .agg (List.toArray u1), nt9 r.2.2] ∧ NodeC G' u0 (r.1) ∧ NodeC G' u1 (r.2.1)) := by
 obtain ⟨pa_p, pc_p, ka_p, kc_p, ma_p, mc_p, ra_p, rc_p, rfl, hp_p, hk_p, hm_p, hr_p, hok_p⟩ := h_p
 obtain ⟨pa_k, pc_k, ka_k, kc_k, ma_k, mc_k, ra_k, rc_k, rfl, hp_k, hk_k, hm_k, hr_k, hok_k⟩ := h_k
 have hpk : ∀ m ∈ p.msgs, m.key.b.size < 140737488355328 := fun m h => by have := (YZ (hpm m h)).1; omega
 have hlm := hm_p.len47
 have hfl := Zjg p.pivots p.msgs i
 have htl : ((Zd p.pivots p.msgs i).take (Zq cl cb k (Zd p.pivots p.msgs i)).2).length ≤ (Zd p.pivots p.msgs i).length := by rw [List.length_take]; omega
 refine Fc.go [.cell 8 60, .cell 9 60, .tmp 10] Tryz.func194 Tryz.ntmps194 rfl (fun w0 => (g9 2 ?_))
 refine W.box (L := [iV _, iV _, iV _, iV _, iV _]) rfl rfl (fun b1 => (W.box (L := [iV _, iV _, lV _ _ _, lV _ _ _, sV _, .bool _, iV _, iV _, lV _ _ _, lV _ _ _]) rfl rfl (fun b2 => (W.box (L := [iV _, iV _, lV _ _ _, lV _ _ _, sV _, .bool _, iV _, iV _, lV _ _ _, lV _ _ _]) rfl rfl (fun b3 => (W.alloc Zp (fun b4 => (W.alloc Zp (fun b5 => (g9 9 ?_))))))))))
 refine W.qcall (Zgs (p := p) (k := k) (nk9 hp_p hk_p hm_p hr_p hok_p) (nk9 hp_k hk_k hm_k hr_k hok_k) i) rfl (g9 3 ?_)
 refine WC.cond rfl (fun h24 => ?_) (fun h24 => ?_)
 ·refine WC.seq (WC.dw ((((sr9.k9.k9).k9).cons _).cons _) (d9 [0, 2] ?_))
  refine WD.a1 1 rfl (W.cN (XM (a := p) (nk9 hp_p hk_p hm_p hr_p hok_p)) rfl (fun _ _ _ _ _ _ _ _ G6 hG6 hp_hv7 hk_hv7 hm_hv7 hr_hv7 hok_hv7 => (W.nn (WD.a1 3 rfl (W.cN (XM (a := k) (nm9 hG6 hp_k hk_k hm_k hr_k hok_k)) rfl (fun _ _ _ _ _ _ _ _ G12 hG12 hp_hv13 hk_hv13 hm_hv13 hr_hv13 hok_hv13 => (W.nn (d9 [4, 5, 6] ?_))))))))
  refine g9 5 ?_
  refine ⟨rfl, _, (Zqf (by simpa using h24)).symm, _, _, rfl, ?_, ?_⟩
  · exact (nm9 hG12 hp_hv7 hk_hv7 hm_hv7 hr_hv7 hok_p)
  exact (nk9 hp_hv13 hk_hv13 hm_hv13 hr_hv13 hok_k)
 have hko : KidOf p k i := by simpa using h24
 refine g9 8 ?_
 refine W.call (Mp := []) (Zli cf cl cb cs cr (p := p) (k := k) (nk9 hp_p hk_p hm_p hr_p hok_p) (nk9 hp_k hk_k hm_k hr_k hok_k) i hb hr hpv hpm hkm hkr hi hsz) rfl pr9 ?_
 intro _ G18 _ hG18 q21
 refine match q21 with | ⟨e_22, _, e_23, _, _, e_24, hv19, hv20⟩ => ?_
 subst e_22
 subst e_23
 subst e_24
 refine match hv19 with | ⟨pa_hv19, pc_hv19, ka_hv19, kc_hv19, ma_hv19, mc_hv19, ra_hv19, rc_hv19, e_25, hp_hv19, hk_hv19, hm_hv19, hr_hv19, hok_hv19⟩ => ?_
 subst e_25
 have q27 := hv20.form
 refine match q27 with | ⟨sa_hv20, sc_hv20, e_26⟩ => ?_
 subst e_26
 refine g9 3 ?_
 refine W.alloc Zp (fun b28 => (g9 12 ?_))
 refine WC.cd (fun h39 p39 => ?_) (fun h39 p39 => ?_)
 ·refine WC.seq (WC.dw (((((sr9.k9.k9).k9).cons _).cons _).k9) (d9 [0, 2] ?_))
  refine WD.a1 1 rfl (W.cN (XM (a := p) (nm9 hG18 hp_p hk_p hm_p hr_p hok_p)) rfl (fun _ _ _ _ _ _ _ _ G29 hG29 hp_hv30 hk_hv30 hm_hv30 hr_hv30 hok_hv30 => (W.nn (WD.a1 3 rfl (W.cN (XM (a := k) (nm9 lec hp_k hk_k hm_k hr_k hok_k)) rfl (fun _ _ _ _ _ _ _ _ G35 hG35 hp_hv36 hk_hv36 hm_hv36 hr_hv36 hok_hv36 => (W.nn (d9 [4, 5, 6] ?_))))))))
  refine g9 5 ?_
  refine ⟨rfl, _, (Zqg hko om9).symm, _, _, rfl, ?_, ?_⟩
  · exact (nm9 hG35 hp_hv30 hk_hv30 hm_hv30 hr_hv30 hok_p)
  exact (nk9 hp_hv36 hk_hv36 hm_hv36 hr_hv36 hok_k)
 refine g9 4 ?_
 refine W.makeMap (V := ZdK) (fun bm41 hm42 => (W.perm (pmC (Ms := [(bm41, Obj.map #[] 0)]) (pmC (Ms := [(bm41, Obj.map #[] 0)]) (pmC (Ms := [(bm41, Obj.map #[] 0)]) (pmC (Ms := [(bm41, Obj.map #[] 0)]) (pmC (Ms := [(bm41, Obj.map #[] 0)]) (pmC (Ms := [(bm41, Obj.map #[] 0)]) pr9)))))).symm (g9 12 ?_)))
 refine WC.loop (X := (Nat) × MH) (fun y => [(47, nt9 y.1), (5, pt9 b2), (8, pt9 b4), (9, pt9 b5), (11, pt9 b28), (3, iV i), (12, lV sa_hv20 (((Zd p.pivots p.msgs i).take (Zq cl cb k (Zd p.pivots p.msgs i)).2)).length sc_hv20), (45, lV sa_hv20 (((Zd p.pivots p.msgs i).take (Zq cl cb k (Zd p.pivots p.msgs i)).2)).length sc_hv20), (46, nt9 ((((Zd p.pivots p.msgs i).take (Zq cl cb k (Zd p.pivots p.msgs i)).2)).length)), (13, .map (some bm41))]) (fun y G Ml => Ml = ((b28, ce9 60 (ndl ((Zq cl cb k (Zd p.pivots p.msgs i)).1) pa_hv19 pc_hv19 ka_hv19 kc_hv19 ma_hv19 mc_hv19 ra_hv19 rc_hv19)) :: ((b5, ce9 60 nz9) :: ((b4, ce9 60 nz9) :: ((b3, ce9 60 (ndl k pa_k pc_k ka_k kc_k ma_k mc_k ra_k rc_k)) :: ((b2, ce9 60 (ndl p pa_p pc_p ka_p kc_p ma_p mc_p ra_p rc_p)) :: ((b1, ce9 23 [iV cf, iV cl, iV cb, iV cs, iV cr]) :: (y.2 ++ []))))))) ∧ MpR ZdK bm41 G ((ZbK (((Zd p.pivots p.msgs i).take (Zq cl cb k (Zd p.pivots p.msgs i)).2).take y.1))) y.2 ∧ y.1 ≤ ((Zd p.pivots p.msgs i).take (Zq cl cb k (Zd p.pivots p.msgs i)).2).length) (fun y => ((Zd p.pivots p.msgs i).take (Zq cl cb k (Zd p.pivots p.msgs i)).2).length - y.1) (0, [(bm41, Obj.map #[] 0)]) hs9 ?_ ?_
 ·exact ⟨rfl, (by exact hm42), Nat.zero_le _⟩
 rintro ⟨y, M_13⟩ gG43 G43 _ hG43 ⟨rfl, ho_13, hy⟩
 try dsimp only at ho_13 hy
 refine WC.fr (f := ZZ gG43 [(47, nt9 y), (5, pt9 b2), (8, pt9 b4), (9, pt9 b5), (11, pt9 b28), (3, iV i), (12, lV sa_hv20 (((Zd p.pivots p.msgs i).take (Zq cl cb k (Zd p.pivots p.msgs i)).2)).length sc_hv20), (45, lV sa_hv20 (((Zd p.pivots p.msgs i).take (Zq cl cb k (Zd p.pivots p.msgs i)).2)).length sc_hv20), (46, nt9 ((((Zd p.pivots p.msgs i).take (Zq cl cb k (Zd p.pivots p.msgs i)).2)).length)), (13, .map (some bm41))]) rfl (g9 6 ?_)
 refine WC.cd (fun h48 p48 => ?_) (fun h48 p48 => ?_)
 ·refine g9 6 ?_
  refine (hv20.mono hG43).a2 (i := y) om9 (fun he44 hm45 => (g9 2 ?_))
  refine W.alloc ZT (fun b49 => (g9 7 ?_))
  refine W.mapUp (V := ZdK) (k := ((((Zd p.pivots p.msgs i).take (Zq cl cb k (Zd p.pivots p.msgs i)).2))[y]).stamp) Zjy rfl rfl rfl ho_13 (pmC (pmC (pmC (pmC (pmC (pmC (pmC pr9))))))) rfl (fun Ms50 hm51 => (W.perm (pmC (pmC (pmC (pmC (pmC (pmC (pmC pr9))))))).symm (g9 6 ?_)))
  refine W.sub (sr9.cons _) (g9 2 ?_)
  exact ⟨Le.rfl, (y + 1, Ms50), hs9, ⟨rfl, (by rw [Zqe om9]; exact hm51), om9⟩, om9⟩
 refine g9 6 ?_
 have hm52 := ho_13
 rw [List.take_of_length_le (by omega : ((Zd p.pivots p.msgs i).take (Zq cl cb k (Zd p.pivots p.msgs i)).2).length ≤ y)] at hm52
 refine g9 2 ?_
 refine W.cN (XM (a := p) (nm9 lec hp_p hk_p hm_p hr_p hok_p)) rfl (fun pa_hv54 pc_hv54 ka_hv54 kc_hv54 _ _ ra_hv54 rc_hv54 G53 hG53 hp_hv54 hk_hv54 hm_hv54 hr_hv54 hok_hv54 => (W.alloc Zp (fun b59 => (g9 19 ?_))))
 have hN60 : NmR 60 87 b59 G53 ({ p with msgs := [] }) ((b59, ce9 60 [iV (p).slot, iV (p).level, lV pa_hv54 ((p).pivots).length pc_hv54, lV ka_hv54 ((p).kids).length kc_hv54, sV (p).high.b, .bool (p).top, iV (p).right, iV (p).seen, lV none 0 0, lV ra_hv54 ((p).rows).length rc_hv54]) :: []) := ⟨_, _, _, _, _, _, _, _, rfl, hp_hv54, hk_hv54, OwnR.nil, hr_hv54, hok_p⟩
 have hN60 := NmR.cast hN60 (n' := { p with msgs := ZJ p.pivots i ((Zd p.pivots p.msgs i).take (Zq cl cb k (Zd p.pivots p.msgs i)).2) (p.msgs.take 0) }) rfl
 refine WC.perm (M' := ((b28, ce9 60 (ndl ((Zq cl cb k (Zd p.pivots p.msgs i)).1) pa_hv19 pc_hv19 ka_hv19 kc_hv19 ma_hv19 mc_hv19 ra_hv19 rc_hv19)) :: ((b5, ce9 60 nz9) :: ((b4, ce9 60 nz9) :: ((b3, ce9 60 (ndl k pa_k pc_k ka_k kc_k ma_k mc_k ra_k rc_k)) :: ((b2, ce9 60 (ndl p pa_p pc_p ka_p kc_p ma_p mc_p ra_p rc_p)) :: ((b1, ce9 23 [iV cf, iV cl, iV cb, iV cs, iV cr]) :: (((b59, ce9 60 [iV (p).slot, iV (p).level, lV pa_hv54 ((p).pivots).length pc_hv54, lV ka_hv54 ((p).kids).length kc_hv54, sV (p).high.b, .bool (p).top, iV (p).right, iV (p).seen, lV none 0 0, lV ra_hv54 ((p).rows).length rc_hv54]) :: []) ++ (M_13 ++ []))))))))) ((pmC (pmC (pmC (pmC (pmC (pmC pr9)))))).symm.trans pr9) ?_
 refine WC.loop (X := (Nat) × MH) (fun q => [(61, nt9 q.1), (13, .map (some bm41)), (5, pt9 b2), (8, pt9 b4), (9, pt9 b5), (11, pt9 b28), (3, iV i), (12, lV sa_hv20 (((Zd p.pivots p.msgs i).take (Zq cl cb k (Zd p.pivots p.msgs i)).2)).length sc_hv20), (59, lV ma_p p.msgs.length mc_p), (60, nt9 ((p.msgs).length)), (16, pt9 b59)]) (fun q G Ml => Ml = ((b28, ce9 60 (ndl ((Zq cl cb k (Zd p.pivots p.msgs i)).1) pa_hv19 pc_hv19 ka_hv19 kc_hv19 ma_hv19 mc_hv19 ra_hv19 rc_hv19)) :: ((b5, ce9 60 nz9) :: ((b4, ce9 60 nz9) :: ((b3, ce9 60 (ndl k pa_k pc_k ka_k kc_k ma_k mc_k ra_k rc_k)) :: ((b2, ce9 60 (ndl p pa_p pc_p ka_p kc_p ma_p mc_p ra_p rc_p)) :: ((b1, ce9 23 [iV cf, iV cl, iV cb, iV cs, iV cr]) :: (q.2 ++ (M_13 ++ [])))))))) ∧ NmR 60 87 b59 G ({ p with msgs := ZJ p.pivots i ((Zd p.pivots p.msgs i).take (Zq cl cb k (Zd p.pivots p.msgs i)).2) (p.msgs.take q.1) }) q.2 ∧ q.1 ≤ p.msgs.length) (fun q => p.msgs.length - q.1) (0, ((b59, ce9 60 [iV (p).slot, iV (p).level, lV pa_hv54 ((p).pivots).length pc_hv54, lV ka_hv54 ((p).kids).length kc_hv54, sV (p).high.b, .bool (p).top, iV (p).right, iV (p).seen, lV none 0 0, lV ra_hv54 ((p).rows).length rc_hv54]) :: [])) hs9 ?_ ?_
 ·exact ⟨rfl, (by exact hN60), Nat.zero_le _⟩
 rintro ⟨q, M_16⟩ gG61 G61 _ hG61 ⟨rfl, ho_16, hq⟩
 try dsimp only at ho_16 hq
 have hrl := Zqk p.pivots i ((Zd p.pivots p.msgs i).take (Zq cl cb k (Zd p.pivots p.msgs i)).2) p.msgs q
 refine WC.fr (f := ZZ gG61 [(61, nt9 q), (13, .map (some bm41)), (5, pt9 b2), (8, pt9 b4), (9, pt9 b5), (11, pt9 b28), (3, iV i), (12, lV sa_hv20 (((Zd p.pivots p.msgs i).take (Zq cl cb k (Zd p.pivots p.msgs i)).2)).length sc_hv20), (59, lV ma_p p.msgs.length mc_p), (60, nt9 ((p.msgs).length)), (16, pt9 b59)]) rfl (g9 6 ?_)
 refine WC.cd (fun h62 p62 => ?_) (fun h62 p62 => ?_)
 ·refine g9 6 ?_
  refine (hm_p.mono (((hG18.trans hG43).trans hG53).trans hG61)).a2 (i := q) om9 (fun he62 hm63 => (g9 2 ?_))
  refine W.alloc ZT (fun b67 => (g9 8 ?_))
  refine W.lookO (V := ZdK) Zjy mz4 rfl rfl rfl (MpR.mono lec hm52) (pmC (pmC (pmC (pmC (pmC (pmC (pmC (pmA pr9)))))))) (fun v68 hv69 => ?_)
  have ehv69 := hv69
  subst ehv69
  refine g9 10 ?_
  refine W.sp 72 rfl (fun h71 => ?_) (fun h71 => ?_)
  ·have hg : (p.msgs[q]'om9).stamp ∈ ((Zd p.pivots p.msgs i).take (Zq cl cb k (Zd p.pivots p.msgs i)).2).map Msg.stamp := by have h9 := h71; rw [Zjd] at h9; simpa using h9
   refine g9 9 ?_
   refine WC.cd (fun h75 p75 => ?_) (fun h75 p75 => ?_)
   ·refine WC.dw ((((((sr9.k9.k9).k9).k9).k9).k9).cons _) (d9 [1, 2, 3] ?_)
    refine WD.any [0, 4] (by kernel_rfl) rfl ⟨WD.ap ?_, WD.ap ?_, trivial⟩
    ·refine g9 1 ?_
     refine W.nn (WD.a1 4 rfl (W.qcall (ZaF (hp_p.mono lec) _ hi) rfl (W.nn (WD.a1 5 rfl (W.qcall (Zlj _ _ _ _ _ _ _ _ _ (hpk _ (List.getElem_mem (by omega : q < p.msgs.length)))) rfl (W.nn (d9 [6, 7, 8, 9, 10] ?_)))))))
     refine g9 7 ?_
     refine WC.cond rfl (fun h83_1 => ?_) (fun h83_1 => ?_)
     ·obtain ⟨pau70, pcu70, kau70, kcu70, vmu70, rau70, rcu70, Mmu70, eMu70, hpu70, hku70, hmu70, hru70, hoku70⟩ := ho_16
      subst eMu70
      have hfu70 := hmu70.form
      refine match hfu70 with | ⟨mau70, mcu70, e_71⟩ => ?_
      subst e_71
      dsimp only at hpu70 hku70 hmu70 hru70
      refine WC.perm (M' := ((b59, ce9 60 [iV p.slot, iV p.level, lV pau70 p.pivots.length pcu70, lV kau70 p.kids.length kcu70, sV p.high.b, .bool p.top, iV p.right, iV p.seen, lV mau70 (ZJ p.pivots i ((Zd p.pivots p.msgs i).take (Zq cl cb k (Zd p.pivots p.msgs i)).2) (p.msgs.take q)).length mcu70, lV rau70 p.rows.length rcu70]) :: ((b67, ce9 87 [iV ((ZD (p.msgs[q]'om9) (Zf p.pivots i)).1.stamp), iV ((ZD (p.msgs[q]'om9) (Zf p.pivots i)).1.kind), sV ((ZD (p.msgs[q]'om9) (Zf p.pivots i)).1.key).b, sV ((ZD (p.msgs[q]'om9) (Zf p.pivots i)).1.hi).b, .bool ((ZD (p.msgs[q]'om9) (Zf p.pivots i)).1.opn), sV ((ZD (p.msgs[q]'om9) (Zf p.pivots i)).1.val).b]) :: ((b28, ce9 60 (ndl ((Zq cl cb k (Zd p.pivots p.msgs i)).1) pa_hv19 pc_hv19 ka_hv19 kc_hv19 ma_hv19 mc_hv19 ra_hv19 rc_hv19)) :: ((b5, ce9 60 nz9) :: ((b4, ce9 60 nz9) :: ((b3, ce9 60 (ndl k pa_k pc_k ka_k kc_k ma_k mc_k ra_k rc_k)) :: ((b2, ce9 60 (ndl p pa_p pc_p ka_p kc_p ma_p mc_p ra_p rc_p)) :: ((b1, ce9 23 [iV cf, iV cl, iV cb, iV cs, iV cr]) :: (Mmu70 ++ (M_13 ++ []))))))))))) (pmD (pmD (pmD (pmD (pmD (pmD (pmD pr9))))))).symm (g9 4 ?_)
      refine W.lit (e := Zs) (l := [(ZD (p.msgs[q]'om9) (Zf p.pivots i)).1]) (css := [[iV _, iV _, sV _, sV _, .bool _, sV _]]) ZY Z3 ZT rfl rfl rfl rfl rfl rfl ⟨⟨rfl, Zjf hm63⟩, trivial⟩ (fun bl72 G72 hG72 hv72 => (W.app (e := Zs) ZY Z3 ZT rfl JB rfl rfl ((hmu70.mono hG72)) (hv72) (pmC (pmC (pmC (pmC (pmC (pmC (pmC (pmC pr9)))))))) (by show (List.length _ + 1) * 72 ≤ _; omega) (fun v73 Ms74 ho75 => (W.perm (pmC (pmC (pmC (pmC (pmC (pmC (pmC (pmC pr9)))))))).symm ?_))))
      have q79 := ho75.form
      refine match q79 with | ⟨sa76, sc77, e_78⟩ => ?_
      subst e_78
      refine g9 5 ?_
      have hN80 : NmR 60 87 b59 G72 ({ p with msgs := (ZJ p.pivots i ((Zd p.pivots p.msgs i).take (Zq cl cb k (Zd p.pivots p.msgs i)).2) (p.msgs.take q) ++ [(ZD (p.msgs[q]'om9) (Zf p.pivots i)).1]) }) ((b59, ce9 60 [iV p.slot, iV p.level, lV pau70 p.pivots.length pcu70, lV kau70 p.kids.length kcu70, sV p.high.b, .bool p.top, iV p.right, iV p.seen, lV sa76 ((ZJ p.pivots i ((Zd p.pivots p.msgs i).take (Zq cl cb k (Zd p.pivots p.msgs i)).2) (p.msgs.take q) ++ [(ZD (p.msgs[q]'om9) (Zf p.pivots i)).1])).length sc77, lV rau70 p.rows.length rcu70]) :: Ms74) := ⟨_, _, _, _, _, _, _, _, rfl, (hpu70.mono hG72), (hku70.mono hG72), ho75, (hru70.mono hG72), hok_p⟩
      have hN80 := NmR.cast hN80 (Zft om9 (Zje hg p75 h83_1))
      refine WC.perm (M' := ((b67, ce9 87 [iV ((ZD (p.msgs[q]'om9) (Zf p.pivots i)).1.stamp), iV ((ZD (p.msgs[q]'om9) (Zf p.pivots i)).1.kind), sV ((ZD (p.msgs[q]'om9) (Zf p.pivots i)).1.key).b, sV ((ZD (p.msgs[q]'om9) (Zf p.pivots i)).1.hi).b, .bool ((ZD (p.msgs[q]'om9) (Zf p.pivots i)).1.opn), sV ((ZD (p.msgs[q]'om9) (Zf p.pivots i)).1.val).b]) :: ((b28, ce9 60 (ndl ((Zq cl cb k (Zd p.pivots p.msgs i)).1) pa_hv19 pc_hv19 ka_hv19 kc_hv19 ma_hv19 mc_hv19 ra_hv19 rc_hv19)) :: ((b5, ce9 60 nz9) :: ((b4, ce9 60 nz9) :: ((b3, ce9 60 (ndl k pa_k pc_k ka_k kc_k ma_k mc_k ra_k rc_k)) :: ((b2, ce9 60 (ndl p pa_p pc_p ka_p kc_p ma_p mc_p ra_p rc_p)) :: ((b1, ce9 23 [iV cf, iV cl, iV cb, iV cs, iV cr]) :: (((b59, ce9 60 [iV p.slot, iV p.level, lV pau70 p.pivots.length pcu70, lV kau70 p.kids.length kcu70, sV p.high.b, .bool p.top, iV p.right, iV p.seen, lV sa76 ((ZJ p.pivots i ((Zd p.pivots p.msgs i).take (Zq cl cb k (Zd p.pivots p.msgs i)).2) (p.msgs.take q) ++ [(ZD (p.msgs[q]'om9) (Zf p.pivots i)).1])).length sc77, lV rau70 p.rows.length rcu70]) :: Ms74) ++ (M_13 ++ [])))))))))) ((pmC (pmC (pmC (pmC (pmC (pmC (pmC pr9))))))).symm.trans (((pmC (pmC (pmC (pmC (pmC (pmC (pmC pr9))))))).cons _).trans pr9)) (g9 3 ?_)
      refine W.sub (sr9.cons _) (g9 2 ?_)
      exact ⟨hG72, (q + 1, ((b59, ce9 60 [iV p.slot, iV p.level, lV pau70 p.pivots.length pcu70, lV kau70 p.kids.length kcu70, sV p.high.b, .bool p.top, iV p.right, iV p.seen, lV sa76 ((ZJ p.pivots i ((Zd p.pivots p.msgs i).take (Zq cl cb k (Zd p.pivots p.msgs i)).2) (p.msgs.take q) ++ [(ZD (p.msgs[q]'om9) (Zf p.pivots i)).1])).length sc77, lV rau70 p.rows.length rcu70]) :: Ms74)), hs9, ⟨rfl, (by exact hN80), om9⟩, om9⟩
     refine g9 6 ?_
     refine W.sub (sr9.cons _) (g9 2 ?_)
     exact ⟨Le.rfl, (q + 1, M_16), hs9, ⟨rfl, (by exact NmR.cast ho_16 (Zfu om9 (Zfs hg (fun hh => absurd (h83_1.symm.trans hh.2) (by simp))))), om9⟩, om9⟩
    refine W.qcall (ZaF (hp_p.mono lec) _ hi) rfl (W.nn (WD.a1 0 rfl (g9 1 ?_)))
    refine W.nn (WD.a1 5 rfl (W.qcall (Zlj _ _ _ _ _ _ _ _ _ (hpk _ (List.getElem_mem (by omega : q < p.msgs.length)))) rfl (W.nn (d9 [6, 7, 8, 9, 10] ?_))))
    refine g9 7 ?_
    refine WC.cond rfl (fun h83_1 => ?_) (fun h83_1 => ?_)
    ·obtain ⟨pau81, pcu81, kau81, kcu81, vmu81, rau81, rcu81, Mmu81, eMu81, hpu81, hku81, hmu81, hru81, hoku81⟩ := ho_16
     subst eMu81
     have hfu81 := hmu81.form
     refine match hfu81 with | ⟨mau81, mcu81, e_82⟩ => ?_
     subst e_82
     dsimp only at hpu81 hku81 hmu81 hru81
     refine WC.perm (M' := ((b59, ce9 60 [iV p.slot, iV p.level, lV pau81 p.pivots.length pcu81, lV kau81 p.kids.length kcu81, sV p.high.b, .bool p.top, iV p.right, iV p.seen, lV mau81 (ZJ p.pivots i ((Zd p.pivots p.msgs i).take (Zq cl cb k (Zd p.pivots p.msgs i)).2) (p.msgs.take q)).length mcu81, lV rau81 p.rows.length rcu81]) :: ((b67, ce9 87 [iV ((ZD (p.msgs[q]'om9) (Zf p.pivots i)).1.stamp), iV ((ZD (p.msgs[q]'om9) (Zf p.pivots i)).1.kind), sV ((ZD (p.msgs[q]'om9) (Zf p.pivots i)).1.key).b, sV ((ZD (p.msgs[q]'om9) (Zf p.pivots i)).1.hi).b, .bool ((ZD (p.msgs[q]'om9) (Zf p.pivots i)).1.opn), sV ((ZD (p.msgs[q]'om9) (Zf p.pivots i)).1.val).b]) :: ((b28, ce9 60 (ndl ((Zq cl cb k (Zd p.pivots p.msgs i)).1) pa_hv19 pc_hv19 ka_hv19 kc_hv19 ma_hv19 mc_hv19 ra_hv19 rc_hv19)) :: ((b5, ce9 60 nz9) :: ((b4, ce9 60 nz9) :: ((b3, ce9 60 (ndl k pa_k pc_k ka_k kc_k ma_k mc_k ra_k rc_k)) :: ((b2, ce9 60 (ndl p pa_p pc_p ka_p kc_p ma_p mc_p ra_p rc_p)) :: ((b1, ce9 23 [iV cf, iV cl, iV cb, iV cs, iV cr]) :: (Mmu81 ++ (M_13 ++ []))))))))))) (pmD (pmD (pmD (pmD (pmD (pmD (pmD pr9))))))).symm (g9 4 ?_)
     refine W.lit (e := Zs) (l := [(ZD (p.msgs[q]'om9) (Zf p.pivots i)).1]) (css := [[iV _, iV _, sV _, sV _, .bool _, sV _]]) ZY Z3 ZT rfl rfl rfl rfl rfl rfl ⟨⟨rfl, Zjf hm63⟩, trivial⟩ (fun bl83 G83 hG83 hv83 => (W.app (e := Zs) ZY Z3 ZT rfl JB rfl rfl ((hmu81.mono hG83)) (hv83) (pmC (pmC (pmC (pmC (pmC (pmC (pmC (pmC pr9)))))))) (by show (List.length _ + 1) * 72 ≤ _; omega) (fun v84 Ms85 ho86 => (W.perm (pmC (pmC (pmC (pmC (pmC (pmC (pmC (pmC pr9)))))))).symm ?_))))
     have q90 := ho86.form
     refine match q90 with | ⟨sa87, sc88, e_89⟩ => ?_
     subst e_89
     refine g9 5 ?_
     have hN91 : NmR 60 87 b59 G83 ({ p with msgs := (ZJ p.pivots i ((Zd p.pivots p.msgs i).take (Zq cl cb k (Zd p.pivots p.msgs i)).2) (p.msgs.take q) ++ [(ZD (p.msgs[q]'om9) (Zf p.pivots i)).1]) }) ((b59, ce9 60 [iV p.slot, iV p.level, lV pau81 p.pivots.length pcu81, lV kau81 p.kids.length kcu81, sV p.high.b, .bool p.top, iV p.right, iV p.seen, lV sa87 ((ZJ p.pivots i ((Zd p.pivots p.msgs i).take (Zq cl cb k (Zd p.pivots p.msgs i)).2) (p.msgs.take q) ++ [(ZD (p.msgs[q]'om9) (Zf p.pivots i)).1])).length sc88, lV rau81 p.rows.length rcu81]) :: Ms85) := ⟨_, _, _, _, _, _, _, _, rfl, (hpu81.mono hG83), (hku81.mono hG83), ho86, (hru81.mono hG83), hok_p⟩
     have hN91 := NmR.cast hN91 (Zft om9 (Zje hg p75 h83_1))
     refine WC.perm (M' := ((b67, ce9 87 [iV ((ZD (p.msgs[q]'om9) (Zf p.pivots i)).1.stamp), iV ((ZD (p.msgs[q]'om9) (Zf p.pivots i)).1.kind), sV ((ZD (p.msgs[q]'om9) (Zf p.pivots i)).1.key).b, sV ((ZD (p.msgs[q]'om9) (Zf p.pivots i)).1.hi).b, .bool ((ZD (p.msgs[q]'om9) (Zf p.pivots i)).1.opn), sV ((ZD (p.msgs[q]'om9) (Zf p.pivots i)).1.val).b]) :: ((b28, ce9 60 (ndl ((Zq cl cb k (Zd p.pivots p.msgs i)).1) pa_hv19 pc_hv19 ka_hv19 kc_hv19 ma_hv19 mc_hv19 ra_hv19 rc_hv19)) :: ((b5, ce9 60 nz9) :: ((b4, ce9 60 nz9) :: ((b3, ce9 60 (ndl k pa_k pc_k ka_k kc_k ma_k mc_k ra_k rc_k)) :: ((b2, ce9 60 (ndl p pa_p pc_p ka_p kc_p ma_p mc_p ra_p rc_p)) :: ((b1, ce9 23 [iV cf, iV cl, iV cb, iV cs, iV cr]) :: (((b59, ce9 60 [iV p.slot, iV p.level, lV pau81 p.pivots.length pcu81, lV kau81 p.kids.length kcu81, sV p.high.b, .bool p.top, iV p.right, iV p.seen, lV sa87 ((ZJ p.pivots i ((Zd p.pivots p.msgs i).take (Zq cl cb k (Zd p.pivots p.msgs i)).2) (p.msgs.take q) ++ [(ZD (p.msgs[q]'om9) (Zf p.pivots i)).1])).length sc88, lV rau81 p.rows.length rcu81]) :: Ms85) ++ (M_13 ++ [])))))))))) ((pmC (pmC (pmC (pmC (pmC (pmC (pmC pr9))))))).symm.trans (((pmC (pmC (pmC (pmC (pmC (pmC (pmC pr9))))))).cons _).trans pr9)) (g9 3 ?_)
     refine W.sub (sr9.cons _) (g9 2 ?_)
     exact ⟨hG83, (q + 1, ((b59, ce9 60 [iV p.slot, iV p.level, lV pau81 p.pivots.length pcu81, lV kau81 p.kids.length kcu81, sV p.high.b, .bool p.top, iV p.right, iV p.seen, lV sa87 ((ZJ p.pivots i ((Zd p.pivots p.msgs i).take (Zq cl cb k (Zd p.pivots p.msgs i)).2) (p.msgs.take q) ++ [(ZD (p.msgs[q]'om9) (Zf p.pivots i)).1])).length sc88, lV rau81 p.rows.length rcu81]) :: Ms85)), hs9, ⟨rfl, (by exact hN91), om9⟩, om9⟩
    refine g9 6 ?_
    refine W.sub (sr9.cons _) (g9 2 ?_)
    exact ⟨Le.rfl, (q + 1, M_16), hs9, ⟨rfl, (by exact NmR.cast ho_16 (Zfu om9 (Zfs hg (fun hh => absurd (h83_1.symm.trans hh.2) (by simp))))), om9⟩, om9⟩
   refine g9 7 ?_
   refine WC.cond rfl (fun h69 => ?_) (fun h69 => ?_)
   ·exfalso
    simp_all
   refine g9 6 ?_
   refine W.sub (sr9.cons _) (g9 2 ?_)
   exact ⟨Le.rfl, (q + 1, M_16), hs9, ⟨rfl, (by exact NmR.cast ho_16 (Zfu om9 (Zfs hg (fun hh => p75 hh.1)))), om9⟩, om9⟩
  have hng : ¬ (p.msgs[q]'om9).stamp ∈ ((Zd p.pivots p.msgs i).take (Zq cl cb k (Zd p.pivots p.msgs i)).2).map Msg.stamp := by have h9 := h71; rw [Zjd] at h9; simpa using h9
  refine g9 14 ?_
  refine WC.cond rfl (fun h69 => ?_) (fun h69 => ?_)
  ·obtain ⟨pau92, pcu92, kau92, kcu92, vmu92, rau92, rcu92, Mmu92, eMu92, hpu92, hku92, hmu92, hru92, hoku92⟩ := ho_16
   subst eMu92
   have hfu92 := hmu92.form
   refine match hfu92 with | ⟨mau92, mcu92, e_93⟩ => ?_
   subst e_93
   dsimp only at hpu92 hku92 hmu92 hru92
   refine WC.perm (M' := ((b59, ce9 60 [iV p.slot, iV p.level, lV pau92 p.pivots.length pcu92, lV kau92 p.kids.length kcu92, sV p.high.b, .bool p.top, iV p.right, iV p.seen, lV mau92 (ZJ p.pivots i ((Zd p.pivots p.msgs i).take (Zq cl cb k (Zd p.pivots p.msgs i)).2) (p.msgs.take q)).length mcu92, lV rau92 p.rows.length rcu92]) :: ((b67, ce9 87 [iV ((p.msgs)[q]).stamp, iV ((p.msgs)[q]).kind, sV ((p.msgs)[q]).key.b, sV ((p.msgs)[q]).hi.b, .bool ((p.msgs)[q]).opn, sV ((p.msgs)[q]).val.b]) :: ((b28, ce9 60 (ndl ((Zq cl cb k (Zd p.pivots p.msgs i)).1) pa_hv19 pc_hv19 ka_hv19 kc_hv19 ma_hv19 mc_hv19 ra_hv19 rc_hv19)) :: ((b5, ce9 60 nz9) :: ((b4, ce9 60 nz9) :: ((b3, ce9 60 (ndl k pa_k pc_k ka_k kc_k ma_k mc_k ra_k rc_k)) :: ((b2, ce9 60 (ndl p pa_p pc_p ka_p kc_p ma_p mc_p ra_p rc_p)) :: ((b1, ce9 23 [iV cf, iV cl, iV cb, iV cs, iV cr]) :: (Mmu92 ++ (M_13 ++ []))))))))))) (pmD (pmD (pmD (pmD (pmD (pmD (pmD pr9))))))).symm (g9 4 ?_)
   refine W.lit (e := Zs) (l := [(p.msgs[q]'om9)]) (css := [[iV _, iV _, sV _, sV _, .bool _, sV _]]) ZY Z3 ZT rfl rfl rfl rfl rfl rfl ⟨⟨rfl, hm63⟩, trivial⟩ (fun bl94 G94 hG94 hv94 => (W.app (e := Zs) ZY Z3 ZT rfl JB rfl rfl ((hmu92.mono hG94)) (hv94) (pmC (pmC (pmC (pmC (pmC (pmC (pmC (pmC pr9)))))))) (by show (List.length _ + 1) * 72 ≤ _; omega) (fun v95 Ms96 ho97 => (W.perm (pmC (pmC (pmC (pmC (pmC (pmC (pmC (pmC pr9)))))))).symm ?_))))
   have q101 := ho97.form
   refine match q101 with | ⟨sa98, sc99, e_100⟩ => ?_
   subst e_100
   refine g9 5 ?_
   have hN102 : NmR 60 87 b59 G94 ({ p with msgs := (ZJ p.pivots i ((Zd p.pivots p.msgs i).take (Zq cl cb k (Zd p.pivots p.msgs i)).2) (p.msgs.take q) ++ [(p.msgs[q]'om9)]) }) ((b59, ce9 60 [iV p.slot, iV p.level, lV pau92 p.pivots.length pcu92, lV kau92 p.kids.length kcu92, sV p.high.b, .bool p.top, iV p.right, iV p.seen, lV sa98 ((ZJ p.pivots i ((Zd p.pivots p.msgs i).take (Zq cl cb k (Zd p.pivots p.msgs i)).2) (p.msgs.take q) ++ [(p.msgs[q]'om9)])).length sc99, lV rau92 p.rows.length rcu92]) :: Ms96) := ⟨_, _, _, _, _, _, _, _, rfl, (hpu92.mono hG94), (hku92.mono hG94), ho97, (hru92.mono hG94), hok_p⟩
   have hN102 := NmR.cast hN102 (Zft om9 (Zqj hng))
   refine WC.perm (M' := ((b67, ce9 87 [iV ((p.msgs)[q]).stamp, iV ((p.msgs)[q]).kind, sV ((p.msgs)[q]).key.b, sV ((p.msgs)[q]).hi.b, .bool ((p.msgs)[q]).opn, sV ((p.msgs)[q]).val.b]) :: ((b28, ce9 60 (ndl ((Zq cl cb k (Zd p.pivots p.msgs i)).1) pa_hv19 pc_hv19 ka_hv19 kc_hv19 ma_hv19 mc_hv19 ra_hv19 rc_hv19)) :: ((b5, ce9 60 nz9) :: ((b4, ce9 60 nz9) :: ((b3, ce9 60 (ndl k pa_k pc_k ka_k kc_k ma_k mc_k ra_k rc_k)) :: ((b2, ce9 60 (ndl p pa_p pc_p ka_p kc_p ma_p mc_p ra_p rc_p)) :: ((b1, ce9 23 [iV cf, iV cl, iV cb, iV cs, iV cr]) :: (((b59, ce9 60 [iV p.slot, iV p.level, lV pau92 p.pivots.length pcu92, lV kau92 p.kids.length kcu92, sV p.high.b, .bool p.top, iV p.right, iV p.seen, lV sa98 ((ZJ p.pivots i ((Zd p.pivots p.msgs i).take (Zq cl cb k (Zd p.pivots p.msgs i)).2) (p.msgs.take q) ++ [(p.msgs[q]'om9)])).length sc99, lV rau92 p.rows.length rcu92]) :: Ms96) ++ (M_13 ++ [])))))))))) ((pmC (pmC (pmC (pmC (pmC (pmC (pmC pr9))))))).symm.trans (((pmC (pmC (pmC (pmC (pmC (pmC (pmC pr9))))))).cons _).trans pr9)) (g9 3 ?_)
   refine W.sub (sr9.cons _) (g9 2 ?_)
   exact ⟨hG94, (q + 1, ((b59, ce9 60 [iV p.slot, iV p.level, lV pau92 p.pivots.length pcu92, lV kau92 p.kids.length kcu92, sV p.high.b, .bool p.top, iV p.right, iV p.seen, lV sa98 ((ZJ p.pivots i ((Zd p.pivots p.msgs i).take (Zq cl cb k (Zd p.pivots p.msgs i)).2) (p.msgs.take q) ++ [(p.msgs[q]'om9)])).length sc99, lV rau92 p.rows.length rcu92]) :: Ms96)), hs9, ⟨rfl, (by exact hN102), om9⟩, om9⟩
  exfalso
  simp_all
 refine g9 11 ?_
 refine (hv20.mono ((hG43.trans hG53).trans hG61)).a2 (i := ((Zd p.pivots p.msgs i).take (Zq cl cb k (Zd p.pivots p.msgs i)).2).length - 1) om9 (fun he103 hm104 => (W.ok (Yt (i := ((Zd p.pivots p.msgs i).take (Zq cl cb k (Zd p.pivots p.msgs i)).2).length - 1) ZY Z3 (hv20.mono lec) rfl rfl ⟨om9, om9⟩) (g9 7 ?_)))
 have hN108 := NmR.cast ho_16 (n' := { p with msgs := ZJ p.pivots i ((Zd p.pivots p.msgs i).take (Zq cl cb k (Zd p.pivots p.msgs i)).2) p.msgs }) (by rw [List.take_of_length_le (show p.msgs.length ≤ q by omega)])
 have hTl : (((Zd p.pivots p.msgs i).take (Zq cl cb k (Zd p.pivots p.msgs i)).2)[((Zd p.pivots p.msgs i).take (Zq cl cb k (Zd p.pivots p.msgs i)).2).length - 1]'om9).Ok := hm104
 obtain ⟨pau109, pcu109, kau109, kcu109, vmu109, rau109, rcu109, Mmu109, eMu109, hpu109, hku109, hmu109, hru109, hoku109⟩ := hN108
 subst eMu109
 have hfu109 := hmu109.form
 refine match hfu109 with | ⟨mau109, mcu109, e_110⟩ => ?_
 subst e_110
 dsimp only at hpu109 hku109 hmu109 hru109
 refine WC.perm (M' := ((b59, ce9 60 [iV p.slot, iV p.level, lV pau109 p.pivots.length pcu109, lV kau109 p.kids.length kcu109, sV p.high.b, .bool p.top, iV p.right, iV p.seen, lV mau109 (ZJ p.pivots i ((Zd p.pivots p.msgs i).take (Zq cl cb k (Zd p.pivots p.msgs i)).2) p.msgs).length mcu109, lV rau109 p.rows.length rcu109]) :: ((b28, ce9 60 [iV ((Zq cl cb k (Zd p.pivots p.msgs i)).1).slot, iV ((Zq cl cb k (Zd p.pivots p.msgs i)).1).level, lV pa_hv19 (((Zq cl cb k (Zd p.pivots p.msgs i)).1).pivots).length pc_hv19, lV ka_hv19 (((Zq cl cb k (Zd p.pivots p.msgs i)).1).kids).length kc_hv19, sV ((Zq cl cb k (Zd p.pivots p.msgs i)).1).high.b, .bool ((Zq cl cb k (Zd p.pivots p.msgs i)).1).top, iV ((Zq cl cb k (Zd p.pivots p.msgs i)).1).right, iV ((((Zd p.pivots p.msgs i).take (Zq cl cb k (Zd p.pivots p.msgs i)).2))[(((Zd p.pivots p.msgs i).take (Zq cl cb k (Zd p.pivots p.msgs i)).2).length - 1)]).stamp, lV ma_hv19 (((Zq cl cb k (Zd p.pivots p.msgs i)).1).msgs).length mc_hv19, lV ra_hv19 (((Zq cl cb k (Zd p.pivots p.msgs i)).1).rows).length rc_hv19]) :: ((b5, ce9 60 nz9) :: ((b4, ce9 60 nz9) :: ((b3, ce9 60 (ndl k pa_k pc_k ka_k kc_k ma_k mc_k ra_k rc_k)) :: ((b2, ce9 60 (ndl p pa_p pc_p ka_p kc_p ma_p mc_p ra_p rc_p)) :: ((b1, ce9 23 [iV cf, iV cl, iV cb, iV cs, iV cr]) :: (Mmu109 ++ (M_13 ++ [])))))))))) (pmD (pmD (pmD (pmD (pmD (pmD pr9)))))).symm (WC.giveO hmu109 (pmC (pmC (pmC (pmC (pmC (pmC (pmC pr9))))))) (fun G111 hG111 hv111 => (WC.dw ((((((sr9.k9.k9).k9).cons _).cons _).k9).k9) (d9 [0, 1, 2, 3, 4, 5, 6] ?_))))
 refine g9 4 ?_
 refine ⟨rfl, _, (Zqi hko rfl om9).symm, _, _, rfl, ?_, ?_⟩
 · exact ⟨_, _, _, _, _, _, _, _, rfl, (hpu109.mono hG111), (hku109.mono hG111), hv111, (hru109.mono hG111), hok_p⟩
 exact ⟨_, _, _, _, _, _, _, _, rfl, (hp_hv19.mono lec), (hk_hv19.mono lec), (hm_hv19.mono lec), (hr_hv19.mono lec), ⟨hok_hv19.1, hok_hv19.2.1, hok_hv19.2.2.1, hTl.1⟩⟩

theorem Ztl {G : GH} {b : Nat} {c c2 : Cfg} {l : List Nd} {ss : List Seat} {M : MH} (h : StR 60 4 3 189 139 b c G l M) (t : Tree c2 l ss) {x : Seat} (hx : x ∈ ss) : Fc Tryz.prog 67 [pt9 b, iV x.n.slot] G M (fun v G' M' => (∃ cs, v = .tuple #[.agg (List.toArray cs), .bool true] ∧ NodeC G' cs x.n) ∧ M' = M) :=
  (Zax h _).mono fun v G' M' _ ⟨⟨cs, e1, e2⟩, e3⟩ => ⟨⟨cs, by rw [e1, decide_eq_true (t.nd hx).1], e2.of (t.nd hx).2.1.symm⟩, e3⟩
theorem Zle {G : GH} {b_s : Nat} {c c2 : Cfg} {l : List Nd} {ss : List Seat} {Ms_s : MH} (h_s : StR 60 4 3 189 139 b_s c G l Ms_s) (t : Tree c2 l ss) (k : Str) :
    Fc Tryz.prog 142 [pt9 b_s, sV k.b] G Ms_s (fun v G' M' => M' = Ms_s ∧ ∃ u1 u2, v = .tuple #[u1, u2] ∧ SlR ZF G' u1 ((ZB l k).map (·.n)) ∧ SlR XE G' u2 ((ZB l k).map (·.s))) := by
 refine Fc.go [.tmp 4, .tmp 5] Tryz.func142 Tryz.ntmps142 rfl (fun w0 => (WC.perm (M' := (Ms_s ++ [])) (by simp) (g9 8 ?_)))
 refine W.qcall (ZeZ ) rfl (W.alloc ZL (fun b11 => (g9 10 ?_)))
 refine WC.loop (X := (Seat × List Seat × Int) × Value × MH × Value × MH) (fun x => [(6, iV x.1.1.n.slot), (8, iV x.1.2.2), (0, pt9 b_s), (7, pt9 b11), (1, sV k.b), (4, x.2.1), (5, x.2.2.2.1)]) (fun x G Ml => Ml = ((b11, ce9 62 [sV (x.1.1.s).lo.b, sV (x.1.1.s).hi.b, .bool (x.1.1.s).opn]) :: (x.2.2.1 ++ (x.2.2.2.2 ++ (Ms_s ++ [])))) ∧ OwnR ZF 60 G x.2.1 (x.1.2.1.map (fun y : Seat => y.n)) x.2.2.1 ∧ OwnR XE 62 G x.2.2.2.1 (x.1.2.1.map (fun y : Seat => y.s)) x.2.2.2.2 ∧ At l ss k x.1.1 x.1.2.1 x.1.2.2) (fun x => x.1.1.n.level.toNat) (((Zm l 0, [], -1) : Seat × List Seat × Int), lV none 0 0, ([] : MH), lV none 0 0, ([] : MH)) ⟨(congrArg (Value.int .i64) t.root0.symm), eqv, eqv, eqv, eqv, eqv, eqv, trivial⟩ ?_ ?_
 ·exact ⟨rfl, (by simpa using OwnR.nil), (by simpa using OwnR.nil), At.init t k⟩
 rintro ⟨⟨x, P, lv⟩, v_4, M_4, v_5, M_5⟩ gG12 G12 _ hG12 ⟨rfl, ho_4, ho_5, hA⟩
 try dsimp only at ho_4 ho_5 hA
 have hpl := hA.plen t
 have hlx := t.lvl hA.mem
 have hlv := hA.lv
 refine g9 5 ?_
 refine W.call (Mp := Ms_s) (Ztl (StR.mono hG12 h_s) t hA.mem) rfl (pmC (pmA (pmA pr9))) ?_
 intro v16 G13 Ms15 hG13 q14
 refine match q14 with | ⟨⟨_, e_18, ⟨pa_hR17, pc_hR17, ka_hR17, kc_hR17, ma_hR17, mc_hR17, ra_hR17, rc_hR17, e_19, hp_hR17, hk_hR17, hm_hR17, hr_hR17, hok_hR17⟩⟩, eeq14⟩ => ?_
 subst e_18
 subst e_19
 have eeq14 := eeq14.symm
 subst eeq14
 refine W.perm (pmC pr9).symm (g9 3 ?_)
 refine W.alloc Zp (fun b20 => (g9 16 ?_))
 refine W.sd 24 (fun h23 p23 => ?_) (fun h23 p23 => ?_)
 ·try dsimp only at p23
  have hlv4 := hok_hR17.2.1.2
  refine g9 15 ?_
  refine WC.cn (fun h29 p29 => ?_) (fun h29 p29 => ?_)
  ·try dsimp only at p29
   exfalso; omega
  try dsimp only at p29
  refine g9 2 ?_
  refine WC.perm (M' := ((b20, ce9 60 (ndl x.n pa_hR17 pc_hR17 ka_hR17 kc_hR17 ma_hR17 mc_hR17 ra_hR17 rc_hR17)) :: ((b11, ce9 62 [sV (x.s).lo.b, sV (x.s).hi.b, .bool (x.s).opn]) :: (M_4 ++ (M_5 ++ (Ms_s ++ [])))))) ((((List.Perm.append_left _ ((List.Perm.append_left _ pr9).trans (pmA pr9))).trans (pmA pr9)).cons _).cons _) ?_
  refine WC.join (X := (Unit) × Value × MH × Value × MH) (fun u7 => [(8, iV x.n.level), (0, pt9 b_s), (7, pt9 b11), (9, pt9 b20), (1, sV k.b), (4, u7.2.1), (5, u7.2.2.2.1)]) (fun u7 G Ml => Ml = ((b20, ce9 60 (ndl x.n pa_hR17 pc_hR17 ka_hR17 kc_hR17 ma_hR17 mc_hR17 ra_hR17 rc_hR17)) :: ((b11, ce9 62 [sV (x.s).lo.b, sV (x.s).hi.b, .bool (x.s).opn]) :: (u7.2.2.1 ++ (u7.2.2.2.2 ++ (Ms_s ++ []))))) ∧ OwnR ZF 60 G u7.2.1 ((P ++ [x]).map (fun y : Seat => y.n)) u7.2.2.1 ∧ OwnR XE 62 G u7.2.2.2.1 ((P ++ [x]).map (fun y : Seat => y.s)) u7.2.2.2.2) ?_ ?_
  ·refine WC.dw (sn9.k9.k9) (d9 [0, 1, 4, 5, 8, 9] ?_)
   refine WD.any [2, 6] (by kernel_rfl) rfl ⟨WD.ap ?_, WD.ap ?_, trivial⟩
   ·refine W.lit (e := ZF) (l := [x.n]) (css := [[iV _, iV _, lV _ _ _, lV _ _ _, sV _, .bool _, iV _, iV _, lV _ _ _, lV _ _ _]]) Xj Yp Zp rfl rfl rfl rfl rfl rfl ⟨(nk9 hp_hR17 hk_hR17 hm_hR17 hr_hR17 hok_hR17), trivial⟩ (fun bl21 G21 hG21 hv21 => (W.nn ?_))
    refine WD.any [3, 6] (by kernel_rfl) rfl ⟨WD.ap ?_, WD.ap ?_, trivial⟩
    ·refine W.app (e := ZF) Xj Yp Zp rfl Zan rfl rfl ((ho_4.mono lec)) (hv21) (pmC (pmC pr9)) (by show (List.length _ + 1) * 152 ≤ _; rw [List.length_map]; omega) (fun v22 Ms23 ho24 => (W.perm (pmC (pmC pr9)).symm (W.nn (WD.a1 6 rfl (W.lit (e := XE) (l := [x.s]) (css := [[sV _, sV _, .bool _]]) XW Yq ZL rfl rfl rfl rfl rfl rfl ⟨rfl, trivial⟩ (fun bl25 G25 hG25 hv25 => (W.nn (WD.a1 7 rfl (W.app (e := XE) XW Yq ZL rfl ZbB rfl rfl ((ho_5.mono lec)) (hv25) (pmC (pmC (pmA pr9))) (by show (List.length _ + 1) * 40 ≤ _; rw [List.length_map]; omega) (fun v26 Ms27 ho28 => (W.perm (pmC (pmC pr9)).symm (W.nn (d9 [10, 11, 12] ?_)))))))))))))
     refine WD.doneP (M' := ((b20, ce9 60 (ndl x.n pa_hR17 pc_hR17 ka_hR17 kc_hR17 ma_hR17 mc_hR17 ra_hR17 rc_hR17)) :: ((b11, ce9 62 [sV (x.s).lo.b, sV (x.s).hi.b, .bool (x.s).opn]) :: (Ms23 ++ (Ms27 ++ (Ms_s ++ [])))))) (by kernel_rfl) sr9 ((((List.Perm.append_left _ ((List.Perm.append_left _ pr9).trans pr9)).trans (pmA pr9)).cons _).cons _) (Xf ?_)
     exact ⟨lec, ((), v22, Ms23, v26, Ms27), hs9, ⟨rfl, (by have h := (ho24.mono hG25); rw [List.map_append]; exact h), (by have h := ho28; rw [List.map_append]; exact h)⟩⟩
    refine W.lit (e := XE) (l := [x.s]) (css := [[sV _, sV _, .bool _]]) XW Yq ZL rfl rfl rfl rfl rfl rfl ⟨rfl, trivial⟩ (fun bl29 G29 hG29 hv29 => (W.nn (WD.a1 3 rfl (W.app (e := ZF) Xj Yp Zp rfl Zan rfl rfl ((ho_4.mono lec)) ((hv21.mono hG29)) (pmC (pmC pr9)) (by show (List.length _ + 1) * 152 ≤ _; rw [List.length_map]; omega) (fun v30 Ms31 ho32 => (W.perm (pmC (pmC pr9)).symm (W.nn (WD.a1 7 rfl (W.app (e := XE) XW Yq ZL rfl ZbB rfl rfl ((ho_5.mono lec)) (hv29) (pmC (pmC (pmA pr9))) (by show (List.length _ + 1) * 40 ≤ _; rw [List.length_map]; omega) (fun v33 Ms34 ho35 => (W.perm (pmC (pmC pr9)).symm (W.nn (d9 [10, 11, 12] ?_)))))))))))))
    refine WD.doneP (M' := ((b20, ce9 60 (ndl x.n pa_hR17 pc_hR17 ka_hR17 kc_hR17 ma_hR17 mc_hR17 ra_hR17 rc_hR17)) :: ((b11, ce9 62 [sV (x.s).lo.b, sV (x.s).hi.b, .bool (x.s).opn]) :: (Ms31 ++ (Ms34 ++ (Ms_s ++ [])))))) (by kernel_rfl) sr9 ((((List.Perm.append_left _ ((List.Perm.append_left _ pr9).trans pr9)).trans (pmA pr9)).cons _).cons _) (Xf ?_)
    exact ⟨lec, ((), v30, Ms31, v33, Ms34), hs9, ⟨rfl, (by have h := ho32; rw [List.map_append]; exact h), (by have h := ho35; rw [List.map_append]; exact h)⟩⟩
   refine W.lit (e := XE) (l := [x.s]) (css := [[sV _, sV _, .bool _]]) XW Yq ZL rfl rfl rfl rfl rfl rfl ⟨rfl, trivial⟩ (fun bl36 G36 hG36 hv36 => (W.nn (WD.a1 2 rfl (W.lit (e := ZF) (l := [x.n]) (css := [[iV _, iV _, lV _ _ _, lV _ _ _, sV _, .bool _, iV _, iV _, lV _ _ _, lV _ _ _]]) Xj Yp Zp rfl rfl rfl rfl rfl rfl ⟨(nm9 hG36 hp_hR17 hk_hR17 hm_hR17 hr_hR17 hok_hR17), trivial⟩ (fun bl37 G37 hG37 hv37 => (W.nn (WD.a1 3 rfl (W.app (e := ZF) Xj Yp Zp rfl Zan rfl rfl ((ho_4.mono lec)) (hv37) (pmC (pmC pr9)) (by show (List.length _ + 1) * 152 ≤ _; rw [List.length_map]; omega) (fun v38 Ms39 ho40 => (W.perm (pmC (pmC pr9)).symm (W.nn (WD.a1 7 rfl (W.app (e := XE) XW Yq ZL rfl ZbB rfl rfl ((ho_5.mono lec)) ((hv36.mono hG37)) (pmC (pmC (pmA pr9))) (by show (List.length _ + 1) * 40 ≤ _; rw [List.length_map]; omega) (fun v41 Ms42 ho43 => (W.perm (pmC (pmC pr9)).symm (W.nn (d9 [10, 11, 12] ?_)))))))))))))))))
   refine WD.doneP (M' := ((b20, ce9 60 (ndl x.n pa_hR17 pc_hR17 ka_hR17 kc_hR17 ma_hR17 mc_hR17 ra_hR17 rc_hR17)) :: ((b11, ce9 62 [sV (x.s).lo.b, sV (x.s).hi.b, .bool (x.s).opn]) :: (Ms39 ++ (Ms42 ++ (Ms_s ++ [])))))) (by kernel_rfl) sr9 ((((List.Perm.append_left _ ((List.Perm.append_left _ pr9).trans pr9)).trans (pmA pr9)).cons _).cons _) (Xf ?_)
   exact ⟨lec, ((), v38, Ms39, v41, Ms42), hs9, ⟨rfl, (by have h := ho40; rw [List.map_append]; exact h), (by have h := ho43; rw [List.map_append]; exact h)⟩⟩
  rintro ⟨u7, v_4, M_4, v_5, M_5⟩ gG44 G44 _ hG44 ⟨rfl, ho_4, ho_5⟩
  try dsimp only at ho_4 ho_5
  refine g9 6 ?_
  refine W.sd 46 (fun h45 p45 => ?_) (fun h45 p45 => ?_)
  ·try dsimp only at p45
   refine g9 18 ?_
   refine WC.giveO ho_4 (pmC (pmC pr9)) (fun G45 hG45 hv45 => (WC.giveO (ho_5.mono hG45) (pmC (pmC pr9)) (fun G46 hG46 hv46 => (g9 5 ?_))))
   refine ⟨.inr rfl, [_, _], ⟨rfl, rfl, trivial⟩, Ms_s, ((List.sublist_append_left _ _).cons _).cons _, ?_⟩
   refine ⟨rfl, _, _, rfl, SlR.cast (hv45.mono hG46) (by rw [hA.last p45]), SlR.cast hv46 (by rw [hA.last p45])⟩
  try dsimp only at p45
  refine g9 9 ?_
  refine W.qcall (Ze0 (hp_hR17.mono hG44) (hk_hR17.mono hG44)) rfl (g9 5 ?_)
  refine WC.cond rfl (fun h52 => ?_) (fun h52 => ?_)
  ·have h0 := t.right hA.mem p45; simp [h0] at h52
  have hrt := t.route hA.mem p45 k
  have hkl : x.n.kids.length ≤ 4000 := (t.sml.at (.inr (t.nd hA.mem).2.2)).1
  refine g9 7 ?_
  refine W.qcall (ZbD (hp_hR17.mono hG44) _ (YR (t.right hA.mem p45)).1) rfl (g9 3 ?_)
  refine WC.dw ((sr9.cons _).k9) (d9 [0, 1, 2] ?_)
  refine (hk_hR17.mono hG44).a2 (i := Ze x.n.pivots k) om9 (fun he47 hi48 => (WD.tk 3 rfl (Yt (i := Ze x.n.pivots k) Z5 ty3 (hk_hR17.mono hG44) rfl rfl ⟨om9, om9⟩) (d9 [4, 6, 7, 8] ?_)))
  refine WD.any [5, 9] (by kernel_rfl) rfl ⟨WD.ap ?_, WD.ap ?_, trivial⟩
  ·refine g9 1 ?_
   refine W.nn (WD.a1 9 rfl (W.qcall (ZaF (hp_hR17.mono hG44) _ ⟨om9, om9⟩) rfl (W.nn (WD.a1 10 rfl (W.qcall (J6 _ _ _ _ _ _) rfl (W.nn (d9 [11, 12] ?_)))))))
   refine WD.doneP (M' := ((b11, ce9 62 [sV ((Zb l x (Ze x.n.pivots k)).s).lo.b, sV ((Zb l x (Ze x.n.pivots k)).s).hi.b, .bool ((Zb l x (Ze x.n.pivots k)).s).opn]) :: (M_4 ++ (M_5 ++ (Ms_s ++ []))))) (by kernel_rfl) (sr9.cons _) pr9 (JX (Xf ?_))
   exact ⟨lec, (((Zb l x (Ze x.n.pivots k), P ++ [x], x.n.level) : Seat × List Seat × Int), v_4, M_4, v_5, M_5), ⟨(congrArg (Value.int .i64) (At.slot t hA.mem p45 k).symm), eqv, eqv, eqv, eqv, eqv, eqv, trivial⟩, ⟨rfl, (by simpa using ho_4), (by simpa using ho_5), hA.next t p45⟩, by have := (t.at hA.mem om9 (t.route hA.mem p45 k)).2.2.2; dsimp only; omega⟩
  refine W.qcall (ZaF (hp_hR17.mono hG44) _ ⟨om9, om9⟩) rfl (W.nn (WD.a1 5 rfl (g9 1 ?_)))
  refine W.nn (WD.a1 10 rfl (W.qcall (J6 _ _ _ _ _ _) rfl (W.nn (d9 [11, 12] ?_))))
  refine WD.doneP (M' := ((b11, ce9 62 [sV ((Zb l x (Ze x.n.pivots k)).s).lo.b, sV ((Zb l x (Ze x.n.pivots k)).s).hi.b, .bool ((Zb l x (Ze x.n.pivots k)).s).opn]) :: (M_4 ++ (M_5 ++ (Ms_s ++ []))))) (by kernel_rfl) (sr9.cons _) pr9 (JX (Xf ?_))
  exact ⟨lec, (((Zb l x (Ze x.n.pivots k), P ++ [x], x.n.level) : Seat × List Seat × Int), v_4, M_4, v_5, M_5), ⟨(congrArg (Value.int .i64) (At.slot t hA.mem p45 k).symm), eqv, eqv, eqv, eqv, eqv, eqv, trivial⟩, ⟨rfl, (by simpa using ho_4), (by simpa using ho_5), hA.next t p45⟩, by have := (t.at hA.mem om9 (t.route hA.mem p45 k)).2.2.2; dsimp only; omega⟩
 try dsimp only at p23
 refine g9 13 ?_
 refine WC.perm (M' := ((b20, ce9 60 (ndl x.n pa_hR17 pc_hR17 ka_hR17 kc_hR17 ma_hR17 mc_hR17 ra_hR17 rc_hR17)) :: ((b11, ce9 62 [sV (x.s).lo.b, sV (x.s).hi.b, .bool (x.s).opn]) :: (M_4 ++ (M_5 ++ (Ms_s ++ [])))))) ((((List.Perm.append_left _ ((List.Perm.append_left _ pr9).trans (pmA pr9))).trans (pmA pr9)).cons _).cons _) ?_
 refine WC.join (X := (Unit) × Value × MH × Value × MH) (fun u7 => [(8, iV x.n.level), (0, pt9 b_s), (7, pt9 b11), (9, pt9 b20), (1, sV k.b), (4, u7.2.1), (5, u7.2.2.2.1)]) (fun u7 G Ml => Ml = ((b20, ce9 60 (ndl x.n pa_hR17 pc_hR17 ka_hR17 kc_hR17 ma_hR17 mc_hR17 ra_hR17 rc_hR17)) :: ((b11, ce9 62 [sV (x.s).lo.b, sV (x.s).hi.b, .bool (x.s).opn]) :: (u7.2.2.1 ++ (u7.2.2.2.2 ++ (Ms_s ++ []))))) ∧ OwnR ZF 60 G u7.2.1 ((P ++ [x]).map (fun y : Seat => y.n)) u7.2.2.1 ∧ OwnR XE 62 G u7.2.2.2.1 ((P ++ [x]).map (fun y : Seat => y.s)) u7.2.2.2.2) ?_ ?_
 ·refine WC.dw (sn9.k9.k9) (d9 [0, 1, 4, 5, 8, 9] ?_)
  refine WD.any [2, 6] (by kernel_rfl) rfl ⟨WD.ap ?_, WD.ap ?_, trivial⟩
  ·refine W.lit (e := ZF) (l := [x.n]) (css := [[iV _, iV _, lV _ _ _, lV _ _ _, sV _, .bool _, iV _, iV _, lV _ _ _, lV _ _ _]]) Xj Yp Zp rfl rfl rfl rfl rfl rfl ⟨(nk9 hp_hR17 hk_hR17 hm_hR17 hr_hR17 hok_hR17), trivial⟩ (fun bl51 G51 hG51 hv51 => (W.nn ?_))
   refine WD.any [3, 6] (by kernel_rfl) rfl ⟨WD.ap ?_, WD.ap ?_, trivial⟩
   ·refine W.app (e := ZF) Xj Yp Zp rfl Zan rfl rfl ((ho_4.mono lec)) (hv51) (pmC (pmC pr9)) (by show (List.length _ + 1) * 152 ≤ _; rw [List.length_map]; omega) (fun v52 Ms53 ho54 => (W.perm (pmC (pmC pr9)).symm (W.nn (WD.a1 6 rfl (W.lit (e := XE) (l := [x.s]) (css := [[sV _, sV _, .bool _]]) XW Yq ZL rfl rfl rfl rfl rfl rfl ⟨rfl, trivial⟩ (fun bl55 G55 hG55 hv55 => (W.nn (WD.a1 7 rfl (W.app (e := XE) XW Yq ZL rfl ZbB rfl rfl ((ho_5.mono lec)) (hv55) (pmC (pmC (pmA pr9))) (by show (List.length _ + 1) * 40 ≤ _; rw [List.length_map]; omega) (fun v56 Ms57 ho58 => (W.perm (pmC (pmC pr9)).symm (W.nn (d9 [10, 11, 12] ?_)))))))))))))
    refine WD.doneP (M' := ((b20, ce9 60 (ndl x.n pa_hR17 pc_hR17 ka_hR17 kc_hR17 ma_hR17 mc_hR17 ra_hR17 rc_hR17)) :: ((b11, ce9 62 [sV (x.s).lo.b, sV (x.s).hi.b, .bool (x.s).opn]) :: (Ms53 ++ (Ms57 ++ (Ms_s ++ [])))))) (by kernel_rfl) sr9 ((((List.Perm.append_left _ ((List.Perm.append_left _ pr9).trans pr9)).trans (pmA pr9)).cons _).cons _) (Xf ?_)
    exact ⟨lec, ((), v52, Ms53, v56, Ms57), hs9, ⟨rfl, (by have h := (ho54.mono hG55); rw [List.map_append]; exact h), (by have h := ho58; rw [List.map_append]; exact h)⟩⟩
   refine W.lit (e := XE) (l := [x.s]) (css := [[sV _, sV _, .bool _]]) XW Yq ZL rfl rfl rfl rfl rfl rfl ⟨rfl, trivial⟩ (fun bl59 G59 hG59 hv59 => (W.nn (WD.a1 3 rfl (W.app (e := ZF) Xj Yp Zp rfl Zan rfl rfl ((ho_4.mono lec)) ((hv51.mono hG59)) (pmC (pmC pr9)) (by show (List.length _ + 1) * 152 ≤ _; rw [List.length_map]; omega) (fun v60 Ms61 ho62 => (W.perm (pmC (pmC pr9)).symm (W.nn (WD.a1 7 rfl (W.app (e := XE) XW Yq ZL rfl ZbB rfl rfl ((ho_5.mono lec)) (hv59) (pmC (pmC (pmA pr9))) (by show (List.length _ + 1) * 40 ≤ _; rw [List.length_map]; omega) (fun v63 Ms64 ho65 => (W.perm (pmC (pmC pr9)).symm (W.nn (d9 [10, 11, 12] ?_)))))))))))))
   refine WD.doneP (M' := ((b20, ce9 60 (ndl x.n pa_hR17 pc_hR17 ka_hR17 kc_hR17 ma_hR17 mc_hR17 ra_hR17 rc_hR17)) :: ((b11, ce9 62 [sV (x.s).lo.b, sV (x.s).hi.b, .bool (x.s).opn]) :: (Ms61 ++ (Ms64 ++ (Ms_s ++ [])))))) (by kernel_rfl) sr9 ((((List.Perm.append_left _ ((List.Perm.append_left _ pr9).trans pr9)).trans (pmA pr9)).cons _).cons _) (Xf ?_)
   exact ⟨lec, ((), v60, Ms61, v63, Ms64), hs9, ⟨rfl, (by have h := ho62; rw [List.map_append]; exact h), (by have h := ho65; rw [List.map_append]; exact h)⟩⟩
  refine W.lit (e := XE) (l := [x.s]) (css := [[sV _, sV _, .bool _]]) XW Yq ZL rfl rfl rfl rfl rfl rfl ⟨rfl, trivial⟩ (fun bl66 G66 hG66 hv66 => (W.nn (WD.a1 2 rfl (W.lit (e := ZF) (l := [x.n]) (css := [[iV _, iV _, lV _ _ _, lV _ _ _, sV _, .bool _, iV _, iV _, lV _ _ _, lV _ _ _]]) Xj Yp Zp rfl rfl rfl rfl rfl rfl ⟨(nm9 hG66 hp_hR17 hk_hR17 hm_hR17 hr_hR17 hok_hR17), trivial⟩ (fun bl67 G67 hG67 hv67 => (W.nn (WD.a1 3 rfl (W.app (e := ZF) Xj Yp Zp rfl Zan rfl rfl ((ho_4.mono lec)) (hv67) (pmC (pmC pr9)) (by show (List.length _ + 1) * 152 ≤ _; rw [List.length_map]; omega) (fun v68 Ms69 ho70 => (W.perm (pmC (pmC pr9)).symm (W.nn (WD.a1 7 rfl (W.app (e := XE) XW Yq ZL rfl ZbB rfl rfl ((ho_5.mono lec)) ((hv66.mono hG67)) (pmC (pmC (pmA pr9))) (by show (List.length _ + 1) * 40 ≤ _; rw [List.length_map]; omega) (fun v71 Ms72 ho73 => (W.perm (pmC (pmC pr9)).symm (W.nn (d9 [10, 11, 12] ?_)))))))))))))))))
  refine WD.doneP (M' := ((b20, ce9 60 (ndl x.n pa_hR17 pc_hR17 ka_hR17 kc_hR17 ma_hR17 mc_hR17 ra_hR17 rc_hR17)) :: ((b11, ce9 62 [sV (x.s).lo.b, sV (x.s).hi.b, .bool (x.s).opn]) :: (Ms69 ++ (Ms72 ++ (Ms_s ++ [])))))) (by kernel_rfl) sr9 ((((List.Perm.append_left _ ((List.Perm.append_left _ pr9).trans pr9)).trans (pmA pr9)).cons _).cons _) (Xf ?_)
  exact ⟨lec, ((), v68, Ms69, v71, Ms72), hs9, ⟨rfl, (by have h := ho70; rw [List.map_append]; exact h), (by have h := ho73; rw [List.map_append]; exact h)⟩⟩
 rintro ⟨u7, v_4, M_4, v_5, M_5⟩ gG74 G74 _ hG74 ⟨rfl, ho_4, ho_5⟩
 try dsimp only at ho_4 ho_5
 refine g9 6 ?_
 refine W.sd 46 (fun h45 p45 => ?_) (fun h45 p45 => ?_)
 ·try dsimp only at p45
  refine g9 18 ?_
  refine WC.giveO ho_4 (pmC (pmC pr9)) (fun G75 hG75 hv75 => (WC.giveO (ho_5.mono hG75) (pmC (pmC pr9)) (fun G76 hG76 hv76 => (g9 5 ?_))))
  refine ⟨.inr rfl, [_, _], ⟨rfl, rfl, trivial⟩, Ms_s, ((List.sublist_append_left _ _).cons _).cons _, ?_⟩
  refine ⟨rfl, _, _, rfl, SlR.cast (hv75.mono hG76) (by rw [hA.last p45]), SlR.cast hv76 (by rw [hA.last p45])⟩
 try dsimp only at p45
 refine g9 9 ?_
 refine W.qcall (Ze0 (hp_hR17.mono hG74) (hk_hR17.mono hG74)) rfl (g9 5 ?_)
 refine WC.cond rfl (fun h52 => ?_) (fun h52 => ?_)
 ·have h0 := t.right hA.mem p45; simp [h0] at h52
 have hrt := t.route hA.mem p45 k
 have hkl : x.n.kids.length ≤ 4000 := (t.sml.at (.inr (t.nd hA.mem).2.2)).1
 refine g9 7 ?_
 refine W.qcall (ZbD (hp_hR17.mono hG74) _ (YR (t.right hA.mem p45)).1) rfl (g9 3 ?_)
 refine WC.dw ((sr9.cons _).k9) (d9 [0, 1, 2] ?_)
 refine (hk_hR17.mono hG74).a2 (i := Ze x.n.pivots k) om9 (fun he77 hi78 => (WD.tk 3 rfl (Yt (i := Ze x.n.pivots k) Z5 ty3 (hk_hR17.mono hG74) rfl rfl ⟨om9, om9⟩) (d9 [4, 6, 7, 8] ?_)))
 refine WD.any [5, 9] (by kernel_rfl) rfl ⟨WD.ap ?_, WD.ap ?_, trivial⟩
 ·refine g9 1 ?_
  refine W.nn (WD.a1 9 rfl (W.qcall (ZaF (hp_hR17.mono hG74) _ ⟨om9, om9⟩) rfl (W.nn (WD.a1 10 rfl (W.qcall (J6 _ _ _ _ _ _) rfl (W.nn (d9 [11, 12] ?_)))))))
  refine WD.doneP (M' := ((b11, ce9 62 [sV ((Zb l x (Ze x.n.pivots k)).s).lo.b, sV ((Zb l x (Ze x.n.pivots k)).s).hi.b, .bool ((Zb l x (Ze x.n.pivots k)).s).opn]) :: (M_4 ++ (M_5 ++ (Ms_s ++ []))))) (by kernel_rfl) (sr9.cons _) pr9 (JX (Xf ?_))
  exact ⟨lec, (((Zb l x (Ze x.n.pivots k), P ++ [x], x.n.level) : Seat × List Seat × Int), v_4, M_4, v_5, M_5), ⟨(congrArg (Value.int .i64) (At.slot t hA.mem p45 k).symm), eqv, eqv, eqv, eqv, eqv, eqv, trivial⟩, ⟨rfl, (by simpa using ho_4), (by simpa using ho_5), hA.next t p45⟩, by have := (t.at hA.mem om9 (t.route hA.mem p45 k)).2.2.2; dsimp only; omega⟩
 refine W.qcall (ZaF (hp_hR17.mono hG74) _ ⟨om9, om9⟩) rfl (W.nn (WD.a1 5 rfl (g9 1 ?_)))
 refine W.nn (WD.a1 10 rfl (W.qcall (J6 _ _ _ _ _ _) rfl (W.nn (d9 [11, 12] ?_))))
 refine WD.doneP (M' := ((b11, ce9 62 [sV ((Zb l x (Ze x.n.pivots k)).s).lo.b, sV ((Zb l x (Ze x.n.pivots k)).s).hi.b, .bool ((Zb l x (Ze x.n.pivots k)).s).opn]) :: (M_4 ++ (M_5 ++ (Ms_s ++ []))))) (by kernel_rfl) (sr9.cons _) pr9 (JX (Xf ?_))
 exact ⟨lec, (((Zb l x (Ze x.n.pivots k), P ++ [x], x.n.level) : Seat × List Seat × Int), v_4, M_4, v_5, M_5), ⟨(congrArg (Value.int .i64) (At.slot t hA.mem p45 k).symm), eqv, eqv, eqv, eqv, eqv, eqv, trivial⟩, ⟨rfl, (by simpa using ho_4), (by simpa using ho_5), hA.next t p45⟩, by have := (t.at hA.mem om9 (t.route hA.mem p45 k)).2.2.2; dsimp only; omega⟩

theorem Zlf {G : GH} {b : Nat} {c : Cfg} {l : List Nd} {M : MH} (h : StR 60 4 3 189 139 b c G l M) (hr : l.length < c.slots.toNat) {cs : List Value} {x : Nd} (hx : NodeC G cs x) (k : Int) (hk : k = l.length) : Fc Tryz.prog 84 [pt9 b, .agg (List.toArray cs)] G M (fun v G' M' => v = .tuple #[iV k, iV 0] ∧ StR 60 4 3 189 139 b c G' (tk l x) M') :=
  (Zlh h hx).mono fun v G' M' _ ⟨e1, e2⟩ => by rw [Zjl hr] at e1 e2; exact ⟨by rw [e1, hk], e2⟩
theorem Yz {G : GH} {b : Nat} {c : Cfg} {l : List Nd} {M : MH} (h : StR 60 4 3 189 139 b c G l M) {cs : List Value} {x : Nd} (hs : 0 ≤ x.slot ∧ x.slot < l.length) (hx : NodeC G cs x) : Fc Tryz.prog 140 [pt9 b, .agg (List.toArray cs)] G M (fun v G' M' => v = iV 0 ∧ StR 60 4 3 189 139 b c G' (l.set x.slot.toNat x) M') :=
  (Zts h hx).mono fun v G' M' _ ⟨e1, e2⟩ => by rw [ZeQ hs] at e1 e2; exact ⟨e1, e2⟩
theorem StR.to {b : Nat} {c : Cfg} {G : GH} {l l' : List Nd} {M : MH} (h : StR 60 4 3 189 139 b c G l M) (e : l = l') : StR 60 4 3 189 139 b c G l' M := e ▸ h
theorem Zlg {G : GH} {b_s : Nat} {c c2 : Cfg} {l : List Nd} {ss : List Seat} {Ms_s : MH} (h_s : StR 60 4 3 189 139 b_s c G l Ms_s) (t : Tree c2 l ss) :
    Fc Tryz.prog 149 [pt9 b_s] G Ms_s (fun v G' M' => v = iV (ZN c l).1 ∧ StR 60 4 3 189 139 b_s c G' (ZN c l).2 M') := by
 have hp0 := t.pos
 have hl100 := t.sml.1
 have hrn := t.rootn
 have hn0 : (Za l 0).slot = 0 := by rw [← hrn]; exact t.root0
 have hlvl := t.height
 rw [hrn] at hlvl
 have hlv0 := t.lvl t.root
 rw [hrn] at hlv0
 have hz0 : i64 0 := ⟨by decide, by decide⟩
 have hlv : i64 ((Za l 0).level + 1) := ⟨om9, om9⟩
 have hks : ∀ m ∈ (Za l 0).msgs, m.key.b.size < 140737488355328 := fun m hm => by rw [← hrn] at hm; have := (YZ ((t.msgs t.root).2.1 m hm)).1; omega
 have hxi : i64 (l.length : Int) := ⟨om9, om9⟩
 have hyi : i64 ((l.length : Int) + 1) := ⟨om9, om9⟩
 refine Fc.go [.tmp 2] Tryz.func149 Tryz.ntmps149 rfl (fun w0 => (WC.perm (M' := (Ms_s ++ [])) (by simp) (g9 8 ?_)))
 refine W.call (Mp := Ms_s) (Zax h_s _) rfl pr9 ?_
 intro v11 G8 Ms10 hG8 q9
 refine match q9 with | ⟨⟨_, e_13, ⟨_, _, _, _, _, _, _, _, e_14, hp_hR12, hk_hR12, hm_hR12, hr_hR12, hok_hR12⟩⟩, eeq9⟩ => ?_
 subst e_13
 subst e_14
 have eeq9 := eeq9.symm
 subst eeq9
 refine g9 3 ?_
 refine W.alloc Zp (fun b15 => (g9 11 ?_))
 refine WC.cn (fun h23 p23 => ?_) (fun h23 p23 => ?_)
 ·try dsimp only at p23
  exfalso; omega
 try dsimp only at p23
 refine g9 6 ?_
 refine W.call (Mp := []) (Zjx (nk9 hp_hR12 hk_hR12 hm_hR12 hr_hR12 hok_hR12) 0 0 (by assumption) (by assumption) hlv hks) rfl pr9 ?_
 intro _ G16 _ hG16 q20
 refine match q20 with | ⟨e_21, _, e_22, _, _, _, e_23, hv17, hv18, hv19⟩ => ?_
 subst e_21
 subst e_22
 subst e_23
 refine match hv17 with | ⟨_, _, _, _, _, _, _, _, e_24, hp_hv17, hk_hv17, hm_hv17, hr_hv17, hok_hv17⟩ => ?_
 subst e_24
 refine match hv18 with | ⟨_, _, _, _, _, _, _, _, e_25, hp_hv18, hk_hv18, hm_hv18, hr_hv18, hok_hv18⟩ => ?_
 subst e_25
 refine match hv19 with | ⟨_, _, _, _, _, _, _, _, e_26, hp_hv19, hk_hv19, hm_hv19, hr_hv19, hok_hv19⟩ => ?_
 subst e_26
 refine g9 5 ?_
 refine W.alloc Zp (fun b27 => (W.alloc Zp (fun b28 => (W.alloc Zp (fun b29 => (g9 12 ?_))))))
 refine WC.cond rfl (fun h32 => ?_) (fun h32 => ?_)
 ·refine g9 7 ?_
  refine ⟨.inr rfl, [_], ⟨rfl, trivial⟩, Ms_s, ((((List.sublist_append_left _ _).cons _).cons _).cons _).cons _, ?_⟩
  exact ⟨congrArg (fun p : Int × List Nd => Value.int .i64 p.1) (Zdw (by simpa using h32)).symm, StR.to (StR.mono lec h_s) (congrArg Prod.snd (Zdw (by simpa using h32))).symm⟩
 have hok : (Z0 (Za l 0) 0 0).2.2.2 = true := by simpa using h32
 obtain ⟨hs1, hs2, hs3⟩ := Zqv (x := (l.length : Int)) (y := (l.length : Int) + 1) hok
 rw [hn0] at hs1
 refine g9 6 ?_
 refine W.call (Mp := Ms_s) (Ztu (StR.mono lec h_s)) rfl (pmC (pmC (pmC (pmC pr9)))) ?_
 intro v33 G30 Ms32 hG30 q31
 refine match q31 with | ⟨e_35, eeq31⟩ => ?_
 subst e_35
 have eeq31 := eeq31.symm
 subst eeq31
 refine W.perm (pmC (pmC (pmC (pmC pr9)))).symm (g9 3 ?_)
 refine WC.cd (fun h35 p35 => ?_) (fun h35 p35 => ?_)
 ·try dsimp only at p35
  refine g9 7 ?_
  refine ⟨.inr rfl, [_], ⟨rfl, trivial⟩, Ms_s, ((((List.sublist_append_left _ _).cons _).cons _).cons _).cons _, ?_⟩
  exact ⟨congrArg (fun p : Int × List Nd => Value.int .i64 p.1) (Za4 hok om9).symm, StR.to (StR.mono lec h_s) (congrArg Prod.snd (Za4 hok om9)).symm⟩
 try dsimp only at p35
 refine g9 6 ?_
 refine W.call (Mp := Ms_s) (Zlf (StR.mono lec h_s) om9 (nm9 lec hp_hR12 hk_hR12 hm_hR12 hr_hR12 hok_hR12) (l.length : Int) (by rfl)) rfl (pmC (pmC (pmC (pmC pr9)))) ?_
 intro v39 G36 Ms38 hG36 q37
 refine match q37 with | ⟨e_41, hR40⟩ => ?_
 subst e_41
 refine W.perm (pmC (pmC (pmC (pmC pr9)))).symm (g9 11 ?_)
 refine W.call (Mp := Ms38) (Zlf hR40 (by rw [ZaJ]; omega) (nm9 lec hp_hR12 hk_hR12 hm_hR12 hr_hR12 hok_hR12) ((l.length : Int) + 1) (by rw [ZaJ]; omega)) rfl (pmC (pmC (pmC (pmC pr9)))) ?_
 intro v45 G42 Ms44 hG42 q43
 refine match q43 with | ⟨e_47, hR46⟩ => ?_
 subst e_47
 refine W.perm (pmC (pmC (pmC (pmC pr9)))).symm (g9 12 ?_)
 refine W.call (Mp := []) (Zjx (nm9 lec hp_hR12 hk_hR12 hm_hR12 hr_hR12 hok_hR12) _ _ (by assumption) (by assumption) hlv hks) rfl pr9 ?_
 intro _ G48 _ hG48 q52
 refine match q52 with | ⟨e_53, _, e_54, _, _, _, e_55, hv49, hv50, hv51⟩ => ?_
 subst e_53
 subst e_54
 subst e_55
 refine match hv49 with | ⟨_, _, _, _, _, _, _, _, e_56, hp_hv49, hk_hv49, hm_hv49, hr_hv49, hok_hv49⟩ => ?_
 subst e_56
 refine match hv50 with | ⟨_, _, _, _, _, _, _, _, e_57, hp_hv50, hk_hv50, hm_hv50, hr_hv50, hok_hv50⟩ => ?_
 subst e_57
 refine match hv51 with | ⟨_, _, _, _, _, _, _, _, e_58, hp_hv51, hk_hv51, hm_hv51, hr_hv51, hok_hv51⟩ => ?_
 subst e_58
 refine g9 5 ?_
 refine W.alloc Zp (fun b59 => (W.alloc Zp (fun b60 => (W.alloc Zp (fun b61 => (g9 10 ?_))))))
 refine W.call (Mp := Ms44) (Yz (StR.mono hG48 hR46) (by simp only [List.length_set, ZaJ]; omega) (nk9 hp_hv49 hk_hv49 hm_hv49 hr_hv49 hok_hv49)) rfl (pmC (pmC (pmC (pmC (pmC (pmC (pmC pr9))))))) ?_
 intro v65 G62 Ms64 hG62 q63
 refine match q63 with | ⟨e_67, hR66⟩ => ?_
 subst e_67
 refine W.perm (pmC (pmC (pmC (pmC (pmC (pmC (pmC pr9))))))).symm (g9 6 ?_)
 refine W.call (Mp := Ms64) (Yz hR66 (by simp only [List.length_set, ZaJ]; omega) (nm9 hG62 hp_hv50 hk_hv50 hm_hv50 hr_hv50 hok_hv50)) rfl (pmC (pmC (pmC (pmC (pmC (pmC (pmC pr9))))))) ?_
 intro v71 G68 Ms70 hG68 q69
 refine match q69 with | ⟨e_73, hR72⟩ => ?_
 subst e_73
 refine W.perm (pmC (pmC (pmC (pmC (pmC (pmC (pmC pr9))))))).symm (g9 6 ?_)
 refine W.call (Mp := Ms70) (Yz hR72 (by simp only [List.length_set, ZaJ]; omega) (nm9 lec hp_hv51 hk_hv51 hm_hv51 hr_hv51 hok_hv51)) rfl (pmC (pmC (pmC (pmC (pmC (pmC (pmC pr9))))))) ?_
 intro v77 G74 Ms76 hG74 q75
 refine match q75 with | ⟨e_79, hR78⟩ => ?_
 subst e_79
 refine W.perm (pmC (pmC (pmC (pmC (pmC (pmC (pmC pr9))))))).symm (g9 4 ?_)
 refine ⟨.inr rfl, [_], ⟨rfl, trivial⟩, Ms76, (((((((List.sublist_append_left _ _).cons _).cons _).cons _).cons _).cons _).cons _).cons _, ?_⟩
 exact ⟨congrArg (fun p : Int × List Nd => Value.int .i64 p.1) (ZbL hok om9).symm, StR.to hR78 ((Zqw om9 hs2 hs3 t.pos).trans (congrArg Prod.snd (ZbL hok om9)).symm)⟩

theorem Ztm {G : GH} {b_s : Nat} {c : Cfg} {b_a : Nat} {a : List Nd × List Bool} {Ms_a : MH} (h_a : ArR ZF 60 4 3 189 b_a G a Ms_a) :
    Fc Tryz.prog 151 [pt9 b_s] G ((b_s, ce9 139 [iV c.fan, iV c.leaf, iV c.bud, iV c.slots, iV c.rest, pt9 b_a]) :: (Ms_a)) (fun v G' M' => v = .agg (List.toArray [iV c.fan, iV c.leaf, iV c.bud, iV c.slots, iV c.rest]) ∧ M' = (b_s, ce9 139 [iV c.fan, iV c.leaf, iV c.bud, iV c.slots, iV c.rest, pt9 b_a]) :: Ms_a) := by
 refine Fc.go [.cell 2 23] Tryz.func151 Tryz.ntmps151 rfl (fun w0 => (WC.perm (M' := ((b_s, ce9 139 [iV c.fan, iV c.leaf, iV c.bud, iV c.slots, iV c.rest, pt9 b_a]) :: (Ms_a ++ []))) (by simp) (g9 2 ?_)))
 refine W.alloc Zh4 (fun b1 => (g9 6 ?_))
 refine W.ok (XB Zao rfl rfl) (g9 15 ?_)
 refine ⟨.inr rfl, [_], ⟨⟨_, _, _, _, _, rfl, YF (i := 0) rfl, Zh3, (by simp), rfl, rfl⟩, trivial⟩, ((b_s, ce9 139 [iV c.fan, iV c.leaf, iV c.bud, iV c.slots, iV c.rest, pt9 b_a]) :: (Ms_a ++ [])), sr9.k9.cons _, ?_⟩
 exact ⟨rfl, congrArg _ (List.append_nil _)⟩

theorem JN {G : GH} {b : Nat} {c : Cfg} {l : List Nd} {M : MH} (h : StR 60 4 3 189 139 b c G l M) : Fc Tryz.prog 151 [pt9 b] G M (fun v G' M' => v = .agg (List.toArray [iV c.fan, iV c.leaf, iV c.bud, iV c.slots, iV c.rest]) ∧ M' = M) := by
  obtain ⟨hc, hl, b2, Ma, rfl, hA⟩ := h
  exact Ztm (c := c) hA
theorem Ztn {G : GH} {b : Nat} {c : Cfg} {l : List Nd} {M : MH} (h : StR 60 4 3 189 139 b c G l M) {cs : List Value} {x : Nd} (hx : NodeC G cs x) : Fc Tryz.prog 84 [pt9 b, .agg (List.toArray cs)] G M (fun v G' M' => (l.length < c.slots.toNat ∧ v = .tuple #[iV (l.length : Int), iV 0] ∧ StR 60 4 3 189 139 b c G' (tk l x) M') ∨ (¬ l.length < c.slots.toNat ∧ v = .tuple #[iV 0, iV 4] ∧ StR 60 4 3 189 139 b c G' l M')) := by
  refine (Zlh h hx).mono fun v G' M' _ ⟨e1, e2⟩ => ?_
  by_cases hr : l.length < c.slots.toNat
  · rw [Zjl hr] at e1 e2; exact .inl ⟨hr, e1, e2⟩
  rw [ZhY hr] at e1 e2; exact .inr ⟨hr, e1, e2⟩
theorem Zto {G : GH} {b_s : Nat} {c c2 : Cfg} {l : List Nd} {ss : List Seat} {Ms_s : MH} (h_s : StR 60 4 3 189 139 b_s c G l Ms_s) (t : Tree c2 l ss) (p : Int) (i : Nat) (hi9 : i64 ((i : Nat) : Int)) :
    Fc Tryz.prog 193 [pt9 b_s, iV p, nt9 i] G Ms_s (fun v G' M' => v = iV (Xm c l p i).1 ∧ StR 60 4 3 189 139 b_s c G' (Xm c l p i).2 M') := by
 have hl100 := t.sml.1
 have hz0 : i64 0 := ⟨by decide, by decide⟩
 have hyi : i64 (l.length : Int) := ⟨om9, om9⟩
 have hi1 := hi9.1
 have hi2 := hi9.2
 refine Fc.go [.tmp 6] Tryz.func193 Tryz.ntmps193 rfl (fun w0 => (WC.perm (M' := (Ms_s ++ [])) (by simp) (g9 9 ?_)))
 refine W.ok (XB Zao rfl rfl) (g9 9 ?_)
 refine W.call (Mp := Ms_s) (Zax h_s _) rfl pr9 ?_
 intro v5 G2 Ms4 hG2 q3
 refine match q3 with | ⟨⟨_, e_7, ⟨_, _, _, _, _, _, _, _, e_8, hp_hR6, hk_hR6, hm_hR6, hr_hR6, hok_hR6⟩⟩, eeq3⟩ => ?_
 subst e_7
 subst e_8
 have eeq3 := eeq3.symm
 subst eeq3
 refine g9 3 ?_
 refine W.alloc Zp (fun b9 => (g9 10 ?_))
 refine W.sm 34 (fun h33 p33 => ?_) (fun h33 p33 => ?_)
 ·try dsimp only at p33
  refine g9 20 ?_
  refine ⟨.inr rfl, [_], ⟨rfl, trivial⟩, Ms_s, (List.sublist_append_left _ _).cons _, ?_⟩
  have hE := Zaq (c := c) (l := l) (p := p) (i := i) (.inl (by simp at h33; omega))
  exact ⟨congrArg (fun q : Int × List Nd => Value.int .i64 q.1) hE.symm, StR.to (StR.mono hG2 h_s) (congrArg Prod.snd hE).symm⟩
 try dsimp only at p33
 have h1 : 0 ≤ p ∧ p < (l.length : Int) := by simpa using h33
 refine g9 6 ?_
 refine W.sd 38 (fun h36 p36 => ?_) (fun h36 p36 => ?_)
 ·try dsimp only at p36
  exfalso; omega
 try dsimp only at p36
 refine g9 13 ?_
 refine WC.cd (fun h43 p43 => ?_) (fun h43 p43 => ?_)
 ·try dsimp only at p43
  refine g9 7 ?_
  refine ⟨.inr rfl, [_], ⟨rfl, trivial⟩, Ms_s, (List.sublist_append_left _ _).cons _, ?_⟩
  have hE := Zaq (c := c) (l := l) (p := p) (i := i) (.inr (.inl om9))
  exact ⟨congrArg (fun q : Int × List Nd => Value.int .i64 q.1) hE.symm, StR.to (StR.mono hG2 h_s) (congrArg Prod.snd hE).symm⟩
 try dsimp only at p43
 have h2 : ¬ (Za l p).kids.length ≤ i := by omega
 have hkd : (Za l p).kids[i]'om9 = kdN l p i := by unfold kdN; rw [List.getD_eq_getElem?_getD, List.getElem?_eq_getElem om9]; rfl
 refine g9 8 ?_
 refine hk_hR6.a2 (i := i) om9 (fun he10 hi11 => (g9 2 ?_))
 refine W.call (Mp := Ms_s) (Zax (StR.mono hG2 h_s) (kdN l p i)) (congrArg (fun k : Int => [_, Value.int .i64 k]) hkd) (pmC pr9) ?_
 intro v17 G14 Ms16 hG14 q15
 refine match q15 with | ⟨⟨_, e_19, ⟨_, _, _, _, _, _, _, _, e_20, hp_hR18, hk_hR18, hm_hR18, hr_hR18, hok_hR18⟩⟩, eeq15⟩ => ?_
 subst e_19
 subst e_20
 have eeq15 := eeq15.symm
 subst eeq15
 refine W.perm (pmC pr9).symm (g9 3 ?_)
 refine W.alloc Zp (fun b21 => (g9 13 ?_))
 refine WC.cn (fun h57 p57 => ?_) (fun h57 p57 => ?_)
 ·try dsimp only at p57
  refine g9 8 ?_
  refine ⟨.inr rfl, [_], ⟨rfl, trivial⟩, Ms_s, ((List.sublist_append_left _ _).cons _).cons _, ?_⟩
  have hE := Zaq (c := c) (l := l) (p := p) (i := i) (.inr (.inr (by simp at h57; omega)))
  exact ⟨congrArg (fun q : Int × List Nd => Value.int .i64 q.1) hE.symm, StR.to (StR.mono lec h_s) (congrArg Prod.snd hE).symm⟩
 try dsimp only at p57
 have h3 : 0 ≤ kdN l p i ∧ kdN l p i < (l.length : Int) := by simpa using h57
 have hkm := YI t.slot h3
 have hpm := YI t.slot h1
 have hks : ∀ m ∈ (Za l (kdN l p i)).msgs, m.key.b.size < 140737488355328 := fun m hm => by have := ((t.sml.2 _ hkm.2).2.2.2.2.2.1 m hm).1; omega
 have hz9 : (Za l p).pivots.length ≤ 1000000 ∧ (Za l p).kids.length ≤ 1000000 := by have := t.sml.2 _ hpm.2; exact ⟨by have := this.2.1; omega, by have := this.1; omega⟩
 refine WC.seq (WC.dw (sn9.k9.k9) (d9 [0, 2] ?_))
 refine WD.a1 1 rfl (W.call (Mp := Ms_s) (JN (StR.mono lec h_s)) rfl (pmC (pmC pr9)) ?_)
 intro v25 G22 Ms24 hG22 q23
 refine match q23 with | ⟨e_27, eeq23⟩ => ?_
 subst e_27
 have eeq23 := eeq23.symm
 subst eeq23
 refine W.perm (pmC (pmC pr9)).symm (W.nn (WD.a1 3 rfl (W.qcall (ZcB _ _ _ _ _ (nm9 lec hp_hR6 hk_hR6 hm_hR6 hr_hR6 hok_hR6)) rfl (W.nn (d9 [4] ?_)))))
 refine g9 2 ?_
 refine WC.cond rfl (fun h62 => ?_) (fun h62 => ?_)
 ·refine g9 8 ?_
  refine ⟨.inr rfl, [_], ⟨rfl, trivial⟩, Ms_s, ((List.sublist_append_left _ _).cons _).cons _, ?_⟩
  have hE := Zfx (c := c) h1 h2 h3 (by simpa using h62)
  exact ⟨congrArg (fun q : Int × List Nd => Value.int .i64 q.1) hE.symm, StR.to (StR.mono lec h_s) (congrArg Prod.snd hE).symm⟩
 have h4 : ZK c (Za l p) = false := by simpa using h62
 refine g9 6 ?_
 refine W.cM (ZfG (nm9 hG22 hp_hR18 hk_hR18 hm_hR18 hr_hR18 hok_hR18) 0 hz0 hks) rfl (fun _ _ _ _ _ _ _ _ _ _ _ _ _ _ _ _ G28 hG28 hp_hv29 hk_hv29 hm_hv29 hr_hv29 hok_hv29 hp_hv30 hk_hv30 hm_hv30 hr_hv30 hok_hv30 => (g9 5 ?_))
 refine W.alloc Zp (fun b37 => (W.alloc Zp (fun b38 => (g9 12 ?_))))
 refine W.call (Mp := []) (ZhF (nm9 lec hp_hR6 hk_hR6 hm_hR6 hr_hR6 hok_hR6) i (Zo (Za l (kdN l p i)) 0).2.2.1 0 hz9 hi9 hz0) rfl pr9 ?_
 intro _ G39 _ hG39 q41
 refine match q41 with | ⟨e_42, _, e_43, _, e_44, hv40⟩ => ?_
 subst e_42
 subst e_43
 subst e_44
 refine match hv40 with | ⟨_, _, _, _, _, _, _, _, e_45, hp_hv40, hk_hv40, hm_hv40, hr_hv40, hok_hv40⟩ => ?_
 subst e_45
 refine g9 3 ?_
 refine W.alloc Zp (fun b46 => (g9 9 ?_))
 refine W.sp 79 rfl (fun h78 => ?_) (fun h78 => ?_)
 ·refine g9 13 ?_
  refine ⟨.inr rfl, [_], ⟨rfl, trivial⟩, Ms_s, (((((List.sublist_append_left _ _).cons _).cons _).cons _).cons _).cons _, ?_⟩
  have hE := ZbM (c := c) h1 h2 h3 h4 (.inl (by unfold ZS; rw [Zjo _ _ 0]; simpa using h78))
  exact ⟨congrArg (fun q : Int × List Nd => Value.int .i64 q.1) hE.symm, StR.to (StR.mono lec h_s) (congrArg Prod.snd hE).symm⟩
 have h5 : (ZS l p i).2.2.2 = true := by unfold ZS; rw [Zjo _ _ 0]; simpa using h78
 refine g9 7 ?_
 refine WC.cond rfl (fun h81 => ?_) (fun h81 => ?_)
 ·refine g9 7 ?_
  refine ⟨.inr rfl, [_], ⟨rfl, trivial⟩, Ms_s, (((((List.sublist_append_left _ _).cons _).cons _).cons _).cons _).cons _, ?_⟩
  have hE := ZbM (c := c) h1 h2 h3 h4 (.inr (by unfold adP ZS; rw [Zfw _ _ 0, Zjp _ _ _ _ 0]; simpa using h81))
  exact ⟨congrArg (fun q : Int × List Nd => Value.int .i64 q.1) hE.symm, StR.to (StR.mono lec h_s) (congrArg Prod.snd hE).symm⟩
 have h6 : (adP l p i).2 = true := by unfold adP ZS; rw [Zfw _ _ 0, Zjp _ _ _ _ 0]; simpa using h81
 have hcs := Zfy h5
 have hs1 : (Zo (Za l (kdN l p i)) (l.length : Int)).1.slot = kdN l p i := hcs.1.trans hkm.1
 have hs3 : (Zo (Za l (kdN l p i)) (l.length : Int)).2.1.slot = (l.length : Int) := hcs.2
 have hs2 : 0 ≤ (Zo (Za l (kdN l p i)) (l.length : Int)).1.slot ∧ (Zo (Za l (kdN l p i)) (l.length : Int)).1.slot < (l.length : Int) := by rw [hs1]; exact h3
 have e9 : adP l p i = (Y7 (Za l p) i (Zo (Za l (kdN l p i)) 0).2.2.1 (l.length : Int)) := by unfold adP ZS; rw [Zfw _ _ 0]
 have hs4 : (Y7 (Za l p) i (Zo (Za l (kdN l p i)) 0).2.2.1 (l.length : Int)).1.slot = p := by rw [← e9]; exact (Zjq h6).trans hpm.1
 have hlst : ((l.set (Zo (Za l (kdN l p i)) (l.length : Int)).1.slot.toNat (Zo (Za l (kdN l p i)) (l.length : Int)).1).set p.toNat (Y7 (Za l p) i (Zo (Za l (kdN l p i)) 0).2.2.1 (l.length : Int)).1) ++ [(Zo (Za l (kdN l p i)) (l.length : Int)).2.1] = JG l p i := by unfold JG; rw [e9]; rfl
 refine g9 6 ?_
 refine W.call (Mp := Ms_s) (Ztn (StR.mono lec h_s) (nm9 lec hp_hR18 hk_hR18 hm_hR18 hr_hR18 hok_hR18)) rfl (pmC (pmC (pmC (pmC (pmC pr9))))) ?_
 intro v50 G47 Ms49 hG47 q48
 refine Or.elim q48 (fun q51 => ?_) (fun q52 => ?_)
 ·refine match q51 with | ⟨hrm, e_53, hR9⟩ => ?_
  subst e_53
  refine W.perm (pmC (pmC (pmC (pmC (pmC pr9))))).symm (g9 21 ?_)
  refine W.cM (ZfG (nm9 lec hp_hR18 hk_hR18 hm_hR18 hr_hR18 hok_hR18) (l.length : Int) hyi hks) rfl (fun _ _ _ _ _ _ _ _ _ _ _ _ _ _ _ _ G54 hG54 hp_hv55 hk_hv55 hm_hv55 hr_hv55 hok_hv55 hp_hv56 hk_hv56 hm_hv56 hr_hv56 hok_hv56 => (g9 5 ?_))
  refine W.alloc Zp (fun b63 => (W.alloc Zp (fun b64 => (g9 12 ?_))))
  refine W.call (Mp := []) (ZhF ⟨_, _, _, _, _, _, _, _, rfl, (hp_hR6.mono lec), (hk_hR6.mono lec), (hm_hR6.mono lec), (hr_hR6.mono lec), hok_hR6⟩ i (Zo (Za l (kdN l p i)) 0).2.2.1 (l.length : Int) hz9 hi9 hyi) rfl pr9 ?_
  intro _ G65 _ hG65 q67
  refine match q67 with | ⟨e_68, _, e_69, _, e_70, hv66⟩ => ?_
  subst e_68
  subst e_69
  subst e_70
  refine match hv66 with | ⟨_, _, _, _, _, _, _, _, e_71, hp_hv66, hk_hv66, hm_hv66, hr_hv66, hok_hv66⟩ => ?_
  subst e_71
  refine g9 3 ?_
  refine W.alloc Zp (fun b72 => (g9 8 ?_))
  refine W.call (Mp := Ms49) (Yz (StR.mono lec hR9) (by simp only [List.length_set, ZaJ]; omega) (nm9 hG65 hp_hv55 hk_hv55 hm_hv55 hr_hv55 hok_hv55)) rfl (pmC (pmC (pmC (pmC (pmC (pmC (pmC (pmC pr9)))))))) ?_
  intro v76 G73 Ms75 hG73 q74
  refine match q74 with | ⟨e_78, hR77⟩ => ?_
  subst e_78
  refine W.perm (pmC (pmC (pmC (pmC (pmC (pmC (pmC (pmC pr9)))))))).symm (g9 6 ?_)
  refine W.call (Mp := Ms75) (Yz hR77 (by simp only [List.length_set, ZaJ]; omega) (nm9 lec hp_hv56 hk_hv56 hm_hv56 hr_hv56 hok_hv56)) rfl (pmC (pmC (pmC (pmC (pmC (pmC (pmC (pmC pr9)))))))) ?_
  intro v82 G79 Ms81 hG79 q80
  refine match q80 with | ⟨e_84, hR83⟩ => ?_
  subst e_84
  refine W.perm (pmC (pmC (pmC (pmC (pmC (pmC (pmC (pmC pr9)))))))).symm (g9 6 ?_)
  refine W.call (Mp := Ms81) (Yz hR83 (by simp only [List.length_set, ZaJ]; omega) (nm9 lec hp_hv66 hk_hv66 hm_hv66 hr_hv66 hok_hv66)) rfl (pmC (pmC (pmC (pmC (pmC (pmC (pmC (pmC pr9)))))))) ?_
  intro v88 G85 Ms87 hG85 q86
  refine match q86 with | ⟨e_90, hR89⟩ => ?_
  subst e_90
  refine W.perm (pmC (pmC (pmC (pmC (pmC (pmC (pmC (pmC pr9)))))))).symm (g9 4 ?_)
  refine ⟨.inr rfl, [_], ⟨rfl, trivial⟩, Ms87, ((((((((List.sublist_append_left _ _).cons _).cons _).cons _).cons _).cons _).cons _).cons _).cons _, ?_⟩
  have hE := (Zdy (c := c) h1 h2 h3 h4 h5 h6 om9)
  exact ⟨congrArg (fun q : Int × List Nd => Value.int .i64 q.1) hE.symm, StR.to hR89 ((Zqy hs2 hs3 hs4 h1).trans ((hlst).trans (congrArg Prod.snd hE).symm))⟩
 refine match q52 with | ⟨hrm, e_91, hR9⟩ => ?_
 subst e_91
 refine W.perm (pmC (pmC (pmC (pmC (pmC pr9))))).symm (g9 23 ?_)
 refine ⟨.inr rfl, [_], ⟨rfl, trivial⟩, Ms49, (((((List.sublist_append_left _ _).cons _).cons _).cons _).cons _).cons _, ?_⟩
 have hE := Zdx (c := c) h1 h2 h3 h4 h5 h6 om9
 exact ⟨congrArg (fun q : Int × List Nd => Value.int .i64 q.1) hE.symm, StR.to hR9 (congrArg Prod.snd hE).symm⟩

theorem Ztp {G : GH} {b_s : Nat} {c c2 : Cfg} {l : List Nd} {ss : List Seat} {Ms_s : MH} (h_s : StR 60 4 3 189 139 b_s c G l Ms_s) (t : Tree c2 l ss) (p : Int) (i : Int) (hn9 : i < 0) :
    Fc Tryz.prog 193 [pt9 b_s, iV p, iV i] G Ms_s (fun v G' M' => M' = Ms_s ∧ v = iV 8) := by
 refine Fc.go [.tmp 6] Tryz.func193 Tryz.ntmps193 rfl (fun w0 => (WC.perm (M' := (Ms_s ++ [])) (by simp) (g9 9 ?_)))
 refine W.ok (XB Zao rfl rfl) (g9 9 ?_)
 refine W.call (Mp := Ms_s) (Zax h_s _) rfl pr9 ?_
 intro v4 G1 Ms3 hG1 q2
 refine match q2 with | ⟨⟨_, e_6, ⟨_, _, _, _, _, _, _, _, e_7, hp_hR5, hk_hR5, hm_hR5, hr_hR5, hok_hR5⟩⟩, eeq2⟩ => ?_
 subst e_6
 subst e_7
 have eeq2 := eeq2.symm
 subst eeq2
 refine g9 3 ?_
 refine W.alloc Zp (fun b8 => (g9 10 ?_))
 refine W.sm 34 (fun h33 p33 => ?_) (fun h33 p33 => ?_)
 ·refine g9 20 ?_
  refine ⟨.inr rfl, [_], ⟨rfl, trivial⟩, Ms_s, (List.sublist_append_left _ _).cons _, ?_⟩
  exact ⟨rfl, rfl⟩
 refine g9 6 ?_
 refine W.sd 38 (fun h36 p36 => ?_) (fun h36 p36 => ?_)
 ·refine g9 16 ?_
  refine ⟨.inr rfl, [_], ⟨rfl, trivial⟩, Ms_s, (List.sublist_append_left _ _).cons _, ?_⟩
  exact ⟨rfl, rfl⟩
 exfalso; omega

theorem Ztq {G : GH} {b : Nat} {c c2 : Cfg} {l : List Nd} {ss : List Seat} {M : MH} (h : StR 60 4 3 189 139 b c G l M) (t : Tree c2 l ss) (p i : Int) (hi : i64 i) : Fc Tryz.prog 193 [pt9 b, iV p, iV i] G M (fun v G' M' => v = iV (ZG c l p i).1 ∧ StR 60 4 3 189 139 b c G' (ZG c l p i).2 M') := by
  by_cases hn : i < 0
  · refine (Ztp h t p i hn).mono fun v G' M' hle ⟨e1, e2⟩ => ?_
    subst e1
    unfold ZG
    rw [if_pos hn]
    exact ⟨e2, h.mono hle⟩
  obtain ⟨n, rfl⟩ : ∃ n : Nat, i = (n : Int) := ⟨i.toNat, om9⟩
  have h0 := Zto h t p n hi
  unfold ZG
  rw [if_neg hn]
  exact h0
end Go.Proofs.YtbbemibbmbmamaaGreat
