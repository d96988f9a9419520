/- Walks of one operation on a map. -/
import Derived.Test.YtebkfinhhpelbaaGreatQxWq
namespace Go.Proofs.YtebkfinhhpelbaaGreat
open Go Go.Fw Go.RowKit
set_option maxRecDepth 100000
set_option maxHeartbeats 1600000
set_option linter.unusedVariables false
set_option linter.unusedSimpArgs false
set_option linter.unnecessarySimpa false
theorem opmsg_fc {G : GH} (pk : Int) (pkey : Str) (phi : Str) (po : Bool) (pv : Str) (pl : Int) (s : Int) (hR : Opr.R (⟨pk, pkey, phi, po, pv, pl⟩ : Opr)) (hk4 : pk ≤ 4) (hs : 1 ≤ s) :
    Fc Tryz.prog 206 [.agg #[.int .i64 pk, .string pkey.b, .string phi.b, .bool po, .string pv.b, .int .i64 pl], .int .i64 s] G [] (fun v _ _ => v = .tuple #[.agg (List.toArray ((Opr.msg (⟨pk, pkey, phi, po, pv, pl⟩ : Opr) s).cells)), .bool (true)]) := by
 have hk1 := hR.1.1
 dsimp only at hk1
 refine Fc.intro (rs := [.cell 4 49, .tmp 5]) cl206 Tryz.func206 rfl Tryz.ntmps206 rfl rfl (fun w0 => ?_)
 refine WC.seq (WC.region (W.box (L := [.int .i64 _, .string _, .string _, .bool _, .string _, .int .i64 _]) rfl rfl (fun b1 => (W.alloc zr49 (fun b2 => (W.as (W.nil (thn_n (WC.seq (WC.seq ?_))))))))))
 refine WC.region (W.ok (ok_loadB (i := 1) (vs := [.int .i64 _, .string _, .string _, .bool _, .string _, .int .i64 _]) ty155 rfl rfl rfl rfl (by simp)) (W.qcall (opright_fc _ _ _ _ _ _) rfl (W.ok (ok_neq rfl rfl) (W.mv ?_))))
 refine W.sp 9 rfl (fun h8 => ?_) (fun h8 => ?_)
 ·have p8 := nd_t h8
  simp [hR] at h8
 ·have p8 := nd_f h8
  refine W.yes (dj := 9) rfl rfl h8 (W.ok (ok_loadB (i := 1) (vs := [.int .i64 _, .string _, .string _, .bool _, .string _, .int .i64 _]) ty155 rfl rfl rfl rfl (by simp)) (W.yes (dj := 9) rfl rfl h8 (W.qcall (writes_fc _ _ _ _ _ _) rfl (W.yes (dj := 9) rfl rfl h8 (W.ok (ok_not rfl) (W.ok (ok_pick_f rfl h8) (W.mv ?_)))))))
  refine W.sp 14 rfl (fun h12 => ?_) (fun h12 => ?_)
  ·simp only [Bool.not_eq_true', decide_eq_false_iff_not] at h12
   exfalso; omega
  ·refine W.yes (dj := 14) rfl rfl h12 (W.mv (W.yes (dj := 14) rfl rfl h12 (W.ok (ok_lss rfl rfl) (W.ok (ok_pick_f rfl h12) (W.nil (thn_n ?_))))))
   refine WC.cond (b := _) rfl (fun h16 => ?_) (fun h16 => ?_)
   ·have p16 := of_decide_eq_true h16
    exfalso; omega
   ·have p16 := of_decide_eq_false h16
    refine WC.skip (thn_n (WC.seq (WC.region (W.mv (W.ok (ok_fieldB fd155_0 rfl) (W.ok (ok_loadB (i := 1) (vs := [.int .i64 _]) ty3 rfl rfl rfl rfl (by simp)) (W.ok (ok_fieldB fd155_1 rfl) (W.ok (ok_loadB (i := 1) (vs := [.string _]) ty9 rfl rfl rfl rfl (by simp)) ?_))))))))
    refine W.ok (ok_fieldB fd155_2 rfl) (W.ok (ok_loadB (i := 1) (vs := [.string _]) ty9 rfl rfl rfl rfl (by simp)) (W.ok (ok_fieldB fd155_3 rfl) (W.ok (ok_loadB (i := 1) (vs := [.bool _]) ty4 rfl rfl rfl rfl (by simp)) (W.ok (ok_fieldB fd155_4 rfl) (W.ok (ok_loadB (i := 1) (vs := [.string _]) ty9 rfl rfl rfl rfl (by simp)) (W.ok (ok_build (L := [.int .i64 _, .int .i64 _, .string _, .string _, .bool _, .string _]) pl49 zr49 rfl rfl rfl) (W.store (i := 0) (vs := [.int .i64 _, .int .i64 _, .string _, .string _, .bool _, .string _]) (L' := [.int .i64 _, .int .i64 _, .string _, .string _, .bool _, .string _]) ty49 rfl rfl rfl rfl rfl rfl rfl rfl ?_)))))))
    refine W.as (W.nil (thn_n (WC.ret ?_)))
    refine ⟨.inr rfl, [_, _], ⟨⟨_, _, _, _, _, rfl, nthM_mem (i := 0) rfl, ty49, (by simp), rfl, rfl⟩, rfl, trivial⟩, [], List.nil_sublist _, ?_⟩
    rfl

theorem ado_fc {G : GH} {v_l : Value} {l : List Pair} (h_l : SlR ePair G v_l l) (pk : Int) (pkey : Str) (phi : Str) (po : Bool) (pv : Str) (pl : Int) (hP : PairsR l) (hn : l.length ≤ 1000000) :
    Fc Tryz.prog 168 [v_l, .agg #[.int .i64 pk, .string pkey.b, .string phi.b, .bool po, .string pv.b, .int .i64 pl]] G [] (fun v G' M' => M' = [] ∧ ∃ r : List Pair × Ans, r = doN l (⟨pk, pkey, phi, po, pv, pl⟩ : Opr) ∧ ∃ u0 u1, v = .tuple #[u0, .agg (List.toArray u1)] ∧ SlR ePair G' u0 (r.1) ∧ AnsC G' u1 (r.2)) := by
 obtain ⟨sa_l, sc_l, rfl⟩ := h_l.form
 have hr := hP.srt
 have hl := h_l.len47
 refine Fc.intro (rs := [.tmp 4, .cell 5 231]) cl168 Tryz.func168 rfl Tryz.ntmps168 rfl rfl (fun w0 => ?_)
 refine WC.seq (WC.region (W.box (L := [.int .i64 _, .string _, .string _, .bool _, .string _, .int .i64 _]) rfl rfl (fun b3 => (W.as (W.alloc zr231 (fun b4 => (W.nil (thn_n (WC.seq (WC.seq ?_))))))))))
 refine WC.region (W.ok (ok_loadB (i := 1) (vs := [.int .i64 _, .string _, .string _, .bool _, .string _, .int .i64 _]) ty155 rfl rfl rfl rfl (by simp)) (W.qcall (opright_fc _ _ _ _ _ _) rfl (W.as (W.nil (thn_n (WC.seq (WC.region (W.mv ?_))))))))
 refine W.ok (ok_neq rfl rfl) (W.nil (thn_n ?_))
 refine WC.cond (b := _) rfl (fun h13 => ?_) (fun h13 => ?_)
 ·have p13 := nd_t h13
  have hR : ¬ Opr.R (⟨pk, pkey, phi, po, pv, pl⟩ : Opr) := fun hq => by rw [if_pos hq] at p13; exact p13 rfl
  have h3 : (if Opr.R (⟨pk, pkey, phi, po, pv, pl⟩ : Opr) then (0 : Int) else 3) = 3 := if_neg hR
  refine WC.seq (WC.region (W.mv (W.call (Mp := []) (clonep_fc h_l) rfl (List.Perm.refl _) ?_)))
  intro _ G5 _ hG5 q7
  refine match q7 with | ⟨e_8, _, e_9, hv6⟩ => ?_
  subst e_8
  subst e_9
  have q11 := hv6.form
  refine match q11 with | ⟨sa_hv6, sc_hv6, e_10⟩ => ?_
  subst e_10
  refine W.mv (W.ok (ok_build (L := [.int .i64 _, .bool _, .string _, .slice _ _ _]) pl231 zr231 rfl rfl rfl) (W.as (W.store (i := 0) (vs := [.int .i64 _, .bool _, .string _, .slice _ _ _]) (L' := [.int .i64 _, .bool _, .string _, .slice _ _ _]) ty231 rfl rfl rfl rfl rfl rfl rfl rfl (W.nil (thn_n (WC.ret (thn_r ?_)))))))
  refine ⟨.inr rfl, [_, _], ⟨rfl, ⟨_, _, _, _, _, rfl, nthM_mem (i := 0) rfl, ty231, (by simp), rfl, rfl⟩, trivial⟩, [], List.nil_sublist _, ?_⟩
  refine ⟨rfl, _, (show ((l, ⟨if Opr.R (⟨pk, pkey, phi, po, pv, pl⟩ : Opr) then 0 else 3, false, Str.nil, []⟩) : List Pair × Ans) = doN l (⟨pk, pkey, phi, po, pv, pl⟩ : Opr) from by rw [doN_0 hR, h3]), _, _, rfl, ?_, ?_⟩
  · exact hv6
  · exact ⟨_, _, rfl, SlR.nil, (by first | assumption | exact ⟨by decide, by decide⟩ | exact ⟨by dsimp only; omega, by dsimp only; omega⟩ | (simp only [h3]; exact ⟨by decide, by decide⟩) | exact ⟨by rw [h3]; decide, by rw [h3]; decide⟩)⟩
 ·have p13 := nd_f h13
  have hR : Opr.R (⟨pk, pkey, phi, po, pv, pl⟩ : Opr) := by
    by_cases hq : Opr.R (⟨pk, pkey, phi, po, pv, pl⟩ : Opr)
    · exact hq
    · rw [if_neg hq] at p13; omega
  have hks := hR.1.2.2.1
  have hk6 := hR.1.2.1
  dsimp only at hks hk6
  have hkf : Msg.fit ⟨1, pk, pkey, phi, po, pv⟩ := hR.fit 1
  refine WC.skip (thn_n (WC.seq (WC.region (W.alloc zr231 (fun b12 => (W.nil (thn_n (WC.seq (WC.seq (WC.region ?_))))))))))
  refine W.ok (ok_fieldB fd155_0 rfl) (W.ok (ok_loadB (i := 2) (vs := [.int .i64 _]) ty3 rfl rfl rfl rfl (by simp)) (W.nil (thn_n (WC.block (WC.seq (WC.region (W.ok (ok_eql rfl rfl) (W.as ?_))))))))
  refine W.nil (thn_n ?_)
  refine WC.cond (b := _) rfl (fun h30 => ?_) (fun h30 => ?_)
  ·have p30 := of_decide_eq_true h30
   refine WC.region (W.mv (W.ok (ok_fieldB fd155_1 rfl) (W.ok (ok_loadB (i := 2) (vs := [.string _]) ty9 rfl rfl rfl rfl (by simp)) (W.qcall (mget_fc h_l _ (by assumption)) rfl (W.mv (W.ok (ok_extract rfl rfl) (W.ok (ok_extract rfl rfl) ?_)))))))
   refine W.ok (ok_fieldB fd231_2 rfl) (W.store (i := 0) (vs := [.string _]) (L' := [.int .i64 _, .bool _, .string _, .slice _ _ _]) ty9 rfl rfl rfl rfl rfl rfl rfl rfl (W.ok (ok_fieldB fd231_1 rfl) (W.store (i := 0) (vs := [.bool _]) (L' := [.int .i64 _, .bool _, .string _, .slice _ _ _]) ty4 rfl rfl rfl rfl rfl rfl rfl rfl (W.nil (blk_n (thn_n (WC.seq (WC.drawW _ ((((List.Sublist.refl _).cons_cons _).cons _).cons_cons _) mix (by rintro _ _ _ _ ⟨h | h, _⟩ <;> cases h) (WD.take 0 rfl rfl rfl (by kernel_rfl) (by kernel_rfl) (by kernel_rfl) (ok_mv) ?_)))))))))
   refine WD.take 2 rfl rfl rfl (by kernel_rfl) (by kernel_rfl) (by kernel_rfl) (ok_loadB (i := 0) (vs := [.int .i64 _, .bool _, .string _, .slice _ _ _]) ty231 rfl rfl rfl rfl (by simp)) (WD.any [1] (by kernel_rfl) rfl ⟨⟨_, rfl, rfl, (W.call (Mp := []) (clonep_fc h_l) rfl (List.Perm.refl _) ?_)⟩, trivial⟩)
   intro _ G13 _ hG13 q15
   refine match q15 with | ⟨e_16, _, e_17, hv14⟩ => ?_
   subst e_16
   subst e_17
   have q19 := hv14.form
   refine match q19 with | ⟨sa_hv14, sc_hv14, e_18⟩ => ?_
   subst e_18
   refine W.nil ⟨hG13, (((List.Sublist.refl _).cons_cons _).cons _).cons_cons _, _, (((List.Sublist.refl _).cons_cons _).cons _).cons_cons _, List.Sublist.refl _, (WD.take 3 rfl rfl rfl (by kernel_rfl) (by kernel_rfl) (by kernel_rfl) (ok_as) (WD.any [4] (by kernel_rfl) rfl ⟨⟨_, rfl, rfl, (W.store (i := 1) (vs := [.int .i64 _, .bool _, .string _, .slice _ _ _]) (L' := [.int .i64 _, .bool _, .string _, .slice _ _ _]) ty231 rfl rfl rfl rfl rfl rfl rfl rfl (W.nil ⟨Le.rfl, (((List.Sublist.refl _).cons_cons _).cons _).cons_cons _, _, (((List.Sublist.refl _).cons_cons _).cons _).cons_cons _, List.Sublist.refl _, (WD.done (by kernel_rfl) (thn_n (WC.ret ?_)))⟩))⟩, trivial⟩))⟩
   refine ⟨.inr rfl, [_, _], ⟨rfl, ⟨_, _, _, _, _, rfl, nthM_mem (i := 1) rfl, ty231, (by simp), rfl, rfl⟩, trivial⟩, [], List.nil_sublist _, ?_⟩
   refine ⟨rfl, _, (doN_5 hR p30).symm, _, _, rfl, ?_, ?_⟩
   · exact hv14
   · exact ⟨_, _, rfl, SlR.nil, (by first | assumption | exact ⟨by decide, by decide⟩ | exact ⟨by dsimp only; omega, by dsimp only; omega⟩ | (simp only [h3]; exact ⟨by decide, by decide⟩) | exact ⟨by rw [h3]; decide, by rw [h3]; decide⟩)⟩
  ·have p30 := of_decide_eq_false h30
   refine WC.seq (WC.region (W.ok (ok_eql rfl rfl) (W.as (W.nil (thn_n ?_)))))
   refine WC.cond (b := _) rfl (fun h41 => ?_) (fun h41 => ?_)
   ·have p41 := of_decide_eq_true h41
    refine WC.drawW _ ((((List.Sublist.refl _).cons_cons _).cons_cons _).cons _) mix (by rintro _ _ _ _ ⟨h | h, _⟩ <;> cases h) (WD.take 0 rfl rfl rfl (by kernel_rfl) (by kernel_rfl) (by kernel_rfl) (ok_mv) (WD.take 1 rfl rfl rfl (by kernel_rfl) (by kernel_rfl) (by kernel_rfl) (ok_loadB (i := 1) (vs := [.int .i64 _, .string _, .string _, .bool _, .string _, .int .i64 _]) ty155 rfl rfl rfl rfl (by simp)) (WD.take 3 rfl rfl rfl (by kernel_rfl) (by kernel_rfl) (by kernel_rfl) (ok_fieldB fd155_5 rfl) (WD.take 4 rfl rfl rfl (by kernel_rfl) (by kernel_rfl) (by kernel_rfl) (ok_loadB (i := 1) (vs := [.int .i64 _]) ty3 rfl rfl rfl rfl (by simp)) (WD.any [2] (by kernel_rfl) rfl ⟨⟨_, rfl, rfl, (W.qcall (opspan_fc _ _ _ _ _ _ (by first | assumption | omega | (dsimp only; omega))) rfl (W.nil ⟨Le.rfl, (((List.Sublist.refl _).cons_cons _).cons_cons _).cons _, _, (((List.Sublist.refl _).cons_cons _).cons_cons _).cons _, List.Sublist.refl _, ?_⟩))⟩, trivial⟩)))))
    refine WD.any [5] (by kernel_rfl) rfl ⟨⟨_, rfl, rfl, (W.call (Mp := []) (mscan_fc h_l _ _ _ _ (by first | assumption | omega | (simp; omega) | (exact PairsR.fold (by assumption) (by assumption)))) rfl (List.Perm.refl _) ?_)⟩, trivial⟩
    intro _ G20 _ hG20 q22
    refine match q22 with | ⟨e_23, _, e_24, hv21⟩ => ?_
    subst e_23
    subst e_24
    have q26 := hv21.form
    refine match q26 with | ⟨sa_hv21, sc_hv21, e_25⟩ => ?_
    subst e_25
    refine W.nil ⟨hG20, (((List.Sublist.refl _).cons_cons _).cons_cons _).cons _, _, (((List.Sublist.refl _).cons_cons _).cons_cons _).cons _, List.Sublist.refl _, (WD.take 6 rfl rfl rfl (by kernel_rfl) (by kernel_rfl) (by kernel_rfl) (ok_fieldB fd231_3 rfl) (WD.any [7] (by kernel_rfl) rfl ⟨⟨_, rfl, rfl, (W.store (i := 0) (vs := [.slice _ _ _]) (L' := [.int .i64 _, .bool _, .string _, .slice _ _ _]) ty41 rfl rfl rfl rfl rfl rfl rfl rfl (W.nil ⟨Le.rfl, (((List.Sublist.refl _).cons_cons _).cons_cons _).cons _, _, (((List.Sublist.refl _).cons_cons _).cons_cons _).cons _, List.Sublist.refl _, (WD.done (by kernel_rfl) (blk_n (thn_n (WC.seq (WC.drawW _ ((((List.Sublist.refl _).cons_cons _).cons _).cons_cons _) mix (by rintro _ _ _ _ ⟨h | h, _⟩ <;> cases h) ?_)))))⟩))⟩, trivial⟩))⟩
    refine WD.take 0 rfl rfl rfl (by kernel_rfl) (by kernel_rfl) (by kernel_rfl) (ok_mv) (WD.take 2 rfl rfl rfl (by kernel_rfl) (by kernel_rfl) (by kernel_rfl) (ok_loadB (i := 0) (vs := [.int .i64 _, .bool _, .string _, .slice _ _ _]) ty231 rfl rfl rfl rfl (by simp)) (WD.any [1] (by kernel_rfl) rfl ⟨⟨_, rfl, rfl, (W.call (Mp := []) (clonep_fc (h_l.mono hG20)) rfl (List.Perm.refl _) ?_)⟩, trivial⟩))
    intro _ G27 _ hG27 q29
    refine match q29 with | ⟨e_30, _, e_31, hv28⟩ => ?_
    subst e_30
    subst e_31
    have q33 := hv28.form
    refine match q33 with | ⟨sa_hv28, sc_hv28, e_32⟩ => ?_
    subst e_32
    refine W.nil ⟨hG27, (((List.Sublist.refl _).cons_cons _).cons _).cons_cons _, _, (((List.Sublist.refl _).cons_cons _).cons _).cons_cons _, List.Sublist.refl _, (WD.take 3 rfl rfl rfl (by kernel_rfl) (by kernel_rfl) (by kernel_rfl) (ok_as) (WD.any [4] (by kernel_rfl) rfl ⟨⟨_, rfl, rfl, (W.store (i := 1) (vs := [.int .i64 _, .bool _, .string _, .slice _ _ _]) (L' := [.int .i64 _, .bool _, .string _, .slice _ _ _]) ty231 rfl rfl rfl rfl rfl rfl rfl rfl (W.nil ⟨Le.rfl, (((List.Sublist.refl _).cons_cons _).cons _).cons_cons _, _, (((List.Sublist.refl _).cons_cons _).cons _).cons_cons _, List.Sublist.refl _, (WD.done (by kernel_rfl) (thn_n (WC.ret ?_)))⟩))⟩, trivial⟩))⟩
    refine ⟨.inr rfl, [_, _], ⟨rfl, ⟨_, _, _, _, _, rfl, nthM_mem (i := 1) rfl, ty231, (by simp), rfl, rfl⟩, trivial⟩, [], List.nil_sublist _, ?_⟩
    refine ⟨rfl, _, (doN_6 hR p41).symm, _, _, rfl, ?_, ?_⟩
    · exact hv28
    · exact ⟨_, _, rfl, (hv21.mono hG27), (by first | assumption | exact ⟨by decide, by decide⟩ | exact ⟨by dsimp only; omega, by dsimp only; omega⟩ | (simp only [h3]; exact ⟨by decide, by decide⟩) | exact ⟨by rw [h3]; decide, by rw [h3]; decide⟩)⟩
   ·have p41 := of_decide_eq_false h41
    have hk4 : pk ≤ 4 := by omega
    refine WC.seq (WC.region (W.ok (ok_loadB (i := 2) (vs := [.int .i64 _, .string _, .string _, .bool _, .string _, .int .i64 _]) ty155 rfl rfl rfl rfl (by simp)) (W.qcall (opmsg_fc _ _ _ _ _ _ _ (by assumption) (by assumption) (by omega)) rfl (W.mv (W.ok (ok_extract rfl rfl) (W.ok (ok_extract rfl rfl) (W.alloc zr49 (fun b34 => ?_))))))))
    refine W.store (i := 0) (vs := [.int .i64 _, .int .i64 _, .string _, .string _, .bool _, .string _]) (L' := [.int .i64 _, .int .i64 _, .string _, .string _, .bool _, .string _]) ty49 rfl rfl rfl rfl rfl rfl rfl rfl (W.as (W.nil (thn_n (WC.seq (WC.drawW _ (((((List.Sublist.refl _).cons_cons _).cons _).cons_cons _).cons_cons _) mix (by rintro _ _ _ _ ⟨h | h, _⟩ <;> cases h) (WD.take 0 rfl rfl rfl (by kernel_rfl) (by kernel_rfl) (by kernel_rfl) (ok_mv) (WD.take 1 rfl rfl rfl (by kernel_rfl) (by kernel_rfl) (by kernel_rfl) (ok_loadB (i := 0) (vs := [.int .i64 _, .int .i64 _, .string _, .string _, .bool _, .string _]) ty49 rfl rfl rfl rfl (by simp)) (WD.take 3 rfl rfl rfl (by kernel_rfl) (by kernel_rfl) (by kernel_rfl) (ok_loadB (i := 1) (vs := [.int .i64 _, .bool _, .string _, .slice _ _ _]) ty231 rfl rfl rfl rfl (by simp)) ?_))))))))
    refine WD.any [2] (by kernel_rfl) rfl ⟨⟨_, rfl, rfl, (W.call (Mp := []) (mtake_fc h_l _ _ _ _ _ _ (by first | assumption | omega | (simp; omega) | (exact PairsR.fold (by assumption) (by assumption))) (by first | assumption | omega | (simp; omega) | (exact PairsR.fold (by assumption) (by assumption))) (by first | assumption | exact fit_of (by assumption))) rfl (List.Perm.refl _) ?_)⟩, trivial⟩
    intro _ G35 _ hG35 q37
    refine match q37 with | ⟨e_38, _, e_39, hv36⟩ => ?_
    subst e_38
    subst e_39
    have q41 := hv36.form
    refine match q41 with | ⟨sa_hv36, sc_hv36, e_40⟩ => ?_
    subst e_40
    refine W.nil ⟨hG35, ((((List.Sublist.refl _).cons_cons _).cons _).cons_cons _).cons_cons _, _, ((((List.Sublist.refl _).cons_cons _).cons _).cons_cons _).cons_cons _, List.Sublist.refl _, (WD.take 4 rfl rfl rfl (by kernel_rfl) (by kernel_rfl) (by kernel_rfl) (ok_as) (WD.any [5] (by kernel_rfl) rfl ⟨⟨_, rfl, rfl, (W.store (i := 2) (vs := [.int .i64 _, .bool _, .string _, .slice _ _ _]) (L' := [.int .i64 _, .bool _, .string _, .slice _ _ _]) ty231 rfl rfl rfl rfl rfl rfl rfl rfl (W.nil ⟨Le.rfl, ((((List.Sublist.refl _).cons_cons _).cons _).cons_cons _).cons_cons _, _, ((((List.Sublist.refl _).cons_cons _).cons _).cons_cons _).cons_cons _, List.Sublist.refl _, (WD.done (by kernel_rfl) (thn_n (WC.ret (blk_r (thn_r ?_)))))⟩))⟩, trivial⟩))⟩
    refine ⟨.inr rfl, [_, _], ⟨rfl, ⟨_, _, _, _, _, rfl, nthM_mem (i := 2) rfl, ty231, (by simp), rfl, rfl⟩, trivial⟩, [], List.nil_sublist _, ?_⟩
    refine ⟨rfl, _, (doN_t hR p30 p41).symm, _, _, rfl, ?_, ?_⟩
    · exact hv36
    · exact ⟨_, _, rfl, SlR.nil, (by first | assumption | exact ⟨by decide, by decide⟩ | exact ⟨by dsimp only; omega, by dsimp only; omega⟩ | (simp only [h3]; exact ⟨by decide, by decide⟩) | exact ⟨by rw [h3]; decide, by rw [h3]; decide⟩)⟩

end Go.Proofs.YtebkfinhhpelbaaGreat
