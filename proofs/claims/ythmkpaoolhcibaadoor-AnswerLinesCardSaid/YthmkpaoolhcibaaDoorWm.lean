/- Walks of one operation on a map. -/
import Derived.Test.YthmkpaoolhcibaaDoorWq
namespace Go.Proofs.YthmkpaoolhcibaaDoor
open Go Go.Fw Go.RowKit
set_option maxRecDepth 100000
set_option maxHeartbeats 1600000
set_option linter.unusedVariables false
set_option linter.unusedSimpArgs false
set_option linter.unnecessarySimpa false
theorem opmsg_fc {G : GH} (pk : Int) (pkey : Str) (phi : Str) (po : Bool) (pv : Str) (pl : Int) (s : Int) (hR : Opr.R (⟨pk, pkey, phi, po, pv, pl⟩ : Opr)) (hk4 : pk ≤ 4) (hs : 1 ≤ s) :
    Fc Tryd.prog 30 [.agg #[.int .i64 pk, .string pkey.b, .string phi.b, .bool po, .string pv.b, .int .i64 pl], .int .i64 s] G [] (fun v _ _ => v = .tuple #[.agg (List.toArray ((Opr.msg (⟨pk, pkey, phi, po, pv, pl⟩ : Opr) s).cells)), .bool (true)]) := by
 have hk1 := hR.1.1
 dsimp only at hk1
 refine Fc.intro (rs := [.cell 4 59, .tmp 5]) cl30 Tryd.func30 rfl Tryd.ntmps30 rfl rfl (fun w0 => ?_)
 refine WC.seq ?_
 refine WC.region ?_
 refine W.box (L := [.int .i64 _, .string _, .string _, .bool _, .string _, .int .i64 _]) rfl rfl (fun b1 => ?_)
 refine W.alloc zr59 (fun b2 => ?_)
 refine W.as ?_
 refine W.nil (thn_n ?_)
 refine WC.seq ?_
 refine WC.seq ?_
 refine WC.region ?_
 refine W.ok (ok_loadB (i := 1) (vs := [.int .i64 _, .string _, .string _, .bool _, .string _, .int .i64 _]) ty23 rfl rfl rfl rfl (by simp)) ?_
 refine W.qcall (opright_fc _ _ _ _ _ _) rfl ?_
 refine W.ok (ok_neq rfl rfl) ?_
 refine W.mv ?_
 refine W.sp 9 rfl (fun h8 => ?_) (fun h8 => ?_)
 ·have p8 := nd_t h8
  simp [hR] at h8
 ·have p8 := nd_f h8
  refine W.yes (dj := 9) rfl rfl h8 ?_
  refine W.ok (ok_loadB (i := 1) (vs := [.int .i64 _, .string _, .string _, .bool _, .string _, .int .i64 _]) ty23 rfl rfl rfl rfl (by simp)) ?_
  refine W.yes (dj := 9) rfl rfl h8 ?_
  refine W.qcall (writes_fc _ _ _ _ _ _) rfl ?_
  refine W.yes (dj := 9) rfl rfl h8 ?_
  refine W.ok (ok_not rfl) ?_
  refine W.ok (ok_pick_f rfl h8) ?_
  refine W.mv ?_
  refine W.sp 14 rfl (fun h12 => ?_) (fun h12 => ?_)
  ·simp only [Bool.not_eq_true', decide_eq_false_iff_not] at h12
   exfalso; omega
  ·refine W.yes (dj := 14) rfl rfl h12 ?_
   refine W.mv ?_
   refine W.yes (dj := 14) rfl rfl h12 ?_
   refine W.ok (ok_lss rfl rfl) ?_
   refine W.ok (ok_pick_f rfl h12) ?_
   refine W.nil (thn_n ?_)
   refine WC.cond (b := _) rfl (fun h16 => ?_) (fun h16 => ?_)
   ·have p16 := of_decide_eq_true h16
    exfalso; omega
   ·have p16 := of_decide_eq_false h16
    refine WC.skip (thn_n ?_)
    refine WC.seq ?_
    refine WC.region ?_
    refine W.mv ?_
    refine W.ok (ok_fieldB fd23_0 rfl) ?_
    refine W.ok (ok_loadB (i := 1) (vs := [.int .i64 _]) ty3 rfl rfl rfl rfl (by simp)) ?_
    refine W.ok (ok_fieldB fd23_1 rfl) ?_
    refine W.ok (ok_loadB (i := 1) (vs := [.string _]) ty9 rfl rfl rfl rfl (by simp)) ?_
    refine W.ok (ok_fieldB fd23_2 rfl) ?_
    refine W.ok (ok_loadB (i := 1) (vs := [.string _]) ty9 rfl rfl rfl rfl (by simp)) ?_
    refine W.ok (ok_fieldB fd23_3 rfl) ?_
    refine W.ok (ok_loadB (i := 1) (vs := [.bool _]) ty4 rfl rfl rfl rfl (by simp)) ?_
    refine W.ok (ok_fieldB fd23_4 rfl) ?_
    refine W.ok (ok_loadB (i := 1) (vs := [.string _]) ty9 rfl rfl rfl rfl (by simp)) ?_
    refine W.ok (ok_build (L := [.int .i64 _, .int .i64 _, .string _, .string _, .bool _, .string _]) pl59 zr59 rfl rfl rfl) ?_
    refine W.store (i := 0) (vs := [.int .i64 _, .int .i64 _, .string _, .string _, .bool _, .string _]) (L' := [.int .i64 _, .int .i64 _, .string _, .string _, .bool _, .string _]) ty59 rfl rfl rfl rfl rfl rfl rfl rfl ?_
    refine W.as ?_
    refine W.nil (thn_n ?_)
    refine WC.ret ?_
    refine ⟨.inr rfl, [_, _], ⟨⟨_, _, _, _, _, rfl, nthM_mem (i := 0) rfl, ty59, (by simp), rfl, rfl⟩, rfl, trivial⟩, [], List.nil_sublist _, ?_⟩
    rfl

theorem rdo_fc {G : GH} {v_l : Value} {l : List Pair} (h_l : SlR ePair G v_l l) (pk : Int) (pkey : Str) (phi : Str) (po : Bool) (pv : Str) (pl : Int) (hP : PairsR l) (hn : l.length ≤ 1000000) :
    Fc Tryd.prog 14 [v_l, .agg #[.int .i64 pk, .string pkey.b, .string phi.b, .bool po, .string pv.b, .int .i64 pl]] G [] (fun v G' M' => M' = [] ∧ ∃ r : List Pair × Ans, r = doN l (⟨pk, pkey, phi, po, pv, pl⟩ : Opr) ∧ ∃ u0 u1, v = .tuple #[u0, .agg (List.toArray u1)] ∧ SlR ePair G' u0 (r.1) ∧ AnsC G' u1 (r.2)) := by
 obtain ⟨sa_l, sc_l, rfl⟩ := h_l.form
 have hr := hP.srt
 have hl := h_l.len47
 refine Fc.intro (rs := [.tmp 4, .cell 5 27]) cl14 Tryd.func14 rfl Tryd.ntmps14 rfl rfl (fun w0 => ?_)
 refine WC.seq ?_
 refine WC.region ?_
 refine W.box (L := [.int .i64 _, .string _, .string _, .bool _, .string _, .int .i64 _]) rfl rfl (fun b3 => ?_)
 refine W.as ?_
 refine W.alloc zr27 (fun b4 => ?_)
 refine W.nil (thn_n ?_)
 refine WC.seq ?_
 refine WC.region ?_
 refine W.ok (ok_build (L := [.int .i64 _, .bool _, .string _, .slice _ _ _]) pl27 zr27 rfl rfl rfl) ?_
 refine W.alloc zr27 (fun b5 => ?_)
 refine W.store (i := 0) (vs := [.int .i64 _, .bool _, .string _, .slice _ _ _]) (L' := [.int .i64 _, .bool _, .string _, .slice _ _ _]) ty27 rfl rfl rfl rfl rfl rfl rfl rfl ?_
 refine W.nil (thn_n ?_)
 refine WC.seq ?_
 refine WC.seq ?_
 refine WC.region ?_
 refine W.ok (ok_loadB (i := 2) (vs := [.int .i64 _, .string _, .string _, .bool _, .string _, .int .i64 _]) ty23 rfl rfl rfl rfl (by simp)) ?_
 refine W.qcall (r7right_fc _ _ _ _ _ _) rfl ?_
 refine W.ok (ok_not rfl) ?_
 refine W.nil (thn_n ?_)
 refine WC.cond (b := _) rfl (fun h10 => ?_) (fun h10 => ?_)
 ·refine WC.seq ?_
  refine WC.region ?_
  refine W.ok (ok_fieldB fd27_0 rfl) ?_
  refine W.store (i := 0) (vs := [.int .i64 _]) (L' := [.int .i64 _, .bool _, .string _, .slice _ _ _]) ty24 rfl rfl rfl rfl rfl rfl rfl rfl ?_
  refine W.nil (thn_n ?_)
  refine WC.seq ?_
  refine WC.drawW _ ((((List.Sublist.refl _).cons_cons _).cons _).cons_cons _) mix (by rintro _ _ _ _ ⟨h | h, _⟩ <;> cases h) ?_
  refine WD.take 0 rfl rfl rfl (by kernel_rfl) (by kernel_rfl) (by kernel_rfl) (ok_mv) ?_
  refine WD.take 1 rfl rfl rfl (by kernel_rfl) (by kernel_rfl) (by kernel_rfl) (ok_loadB (i := 0) (vs := [.int .i64 _, .bool _, .string _, .slice _ _ _]) ty27 rfl rfl rfl rfl (by simp)) ?_
  refine WD.take 2 rfl rfl rfl (by kernel_rfl) (by kernel_rfl) (by kernel_rfl) (ok_as) ?_
  refine WD.any [3] (by kernel_rfl) rfl ⟨⟨_, rfl, rfl, ?_⟩, trivial⟩
  refine W.store (i := 1) (vs := [.int .i64 _, .bool _, .string _, .slice _ _ _]) (L' := [.int .i64 _, .bool _, .string _, .slice _ _ _]) ty27 rfl rfl rfl rfl rfl rfl rfl rfl ?_
  refine W.nil ⟨Le.rfl, (((List.Sublist.refl _).cons_cons _).cons _).cons_cons _, _, (((List.Sublist.refl _).cons_cons _).cons _).cons_cons _, List.Sublist.refl _, ?_⟩
  refine WD.done (by kernel_rfl) (thn_n ?_)
  refine WC.ret (thn_r ?_)
  refine ⟨.inr rfl, [_, _], ⟨rfl, ⟨_, _, _, _, _, rfl, nthM_mem (i := 1) rfl, ty27, (by simp), rfl, rfl⟩, trivial⟩, [], List.nil_sublist _, ?_⟩
  refine ⟨rfl, _, (doN_0 (by simpa using h10)).symm, _, _, rfl, ?_, ?_⟩
  · exact h_l
  · exact ⟨_, _, rfl, SlR.nil, (by first | assumption | exact ⟨by decide, by decide⟩ | exact ⟨by dsimp only; omega, by dsimp only; omega⟩ | (simp only [h3]; exact ⟨by decide, by decide⟩) | exact ⟨by rw [h3]; decide, by rw [h3]; decide⟩)⟩
 ·have hR : Opr.R (⟨pk, pkey, phi, po, pv, pl⟩ : Opr) := by simpa using h10
  have hks := hR.1.2.2.1
  dsimp only at hks
  have hkf : Msg.fit ⟨1, pk, pkey, phi, po, pv⟩ := hR.fit 1
  refine WC.skip (thn_n ?_)
  refine WC.seq ?_
  refine WC.seq ?_
  refine WC.region ?_
  refine W.ok (ok_fieldB fd23_0 rfl) ?_
  refine W.ok (ok_loadB (i := 2) (vs := [.int .i64 _]) ty3 rfl rfl rfl rfl (by simp)) ?_
  refine W.ok (ok_eql rfl rfl) ?_
  refine W.nil (thn_n ?_)
  refine WC.cond (b := _) rfl (fun h16 => ?_) (fun h16 => ?_)
  ·have p16 := of_decide_eq_true h16
   refine WC.seq ?_
   refine WC.region ?_
   refine W.mv ?_
   refine W.ok (ok_fieldB fd23_1 rfl) ?_
   refine W.ok (ok_loadB (i := 2) (vs := [.string _]) ty9 rfl rfl rfl rfl (by simp)) ?_
   refine W.qcall (rget_fc h_l _) rfl ?_
   refine W.mv ?_
   refine W.ok (ok_extract rfl rfl) ?_
   refine W.ok (ok_extract rfl rfl) ?_
   refine W.ok (ok_fieldB fd27_2 rfl) ?_
   refine W.store (i := 0) (vs := [.string _]) (L' := [.int .i64 _, .bool _, .string _, .slice _ _ _]) ty9 rfl rfl rfl rfl rfl rfl rfl rfl ?_
   refine W.ok (ok_fieldB fd27_1 rfl) ?_
   refine W.store (i := 0) (vs := [.bool _]) (L' := [.int .i64 _, .bool _, .string _, .slice _ _ _]) ty4 rfl rfl rfl rfl rfl rfl rfl rfl ?_
   refine W.nil (thn_n ?_)
   refine WC.seq ?_
   refine WC.drawW _ ((((List.Sublist.refl _).cons_cons _).cons _).cons_cons _) mix (by rintro _ _ _ _ ⟨h | h, _⟩ <;> cases h) ?_
   refine WD.take 0 rfl rfl rfl (by kernel_rfl) (by kernel_rfl) (by kernel_rfl) (ok_mv) ?_
   refine WD.take 1 rfl rfl rfl (by kernel_rfl) (by kernel_rfl) (by kernel_rfl) (ok_loadB (i := 0) (vs := [.int .i64 _, .bool _, .string _, .slice _ _ _]) ty27 rfl rfl rfl rfl (by simp)) ?_
   refine WD.take 2 rfl rfl rfl (by kernel_rfl) (by kernel_rfl) (by kernel_rfl) (ok_as) ?_
   refine WD.any [3] (by kernel_rfl) rfl ⟨⟨_, rfl, rfl, ?_⟩, trivial⟩
   refine W.store (i := 1) (vs := [.int .i64 _, .bool _, .string _, .slice _ _ _]) (L' := [.int .i64 _, .bool _, .string _, .slice _ _ _]) ty27 rfl rfl rfl rfl rfl rfl rfl rfl ?_
   refine W.nil ⟨Le.rfl, (((List.Sublist.refl _).cons_cons _).cons _).cons_cons _, _, (((List.Sublist.refl _).cons_cons _).cons _).cons_cons _, List.Sublist.refl _, ?_⟩
   refine WD.done (by kernel_rfl) (thn_n ?_)
   refine WC.ret (thn_r ?_)
   refine ⟨.inr rfl, [_, _], ⟨rfl, ⟨_, _, _, _, _, rfl, nthM_mem (i := 1) rfl, ty27, (by simp), rfl, rfl⟩, trivial⟩, [], List.nil_sublist _, ?_⟩
   refine ⟨rfl, _, (doN_5 hR p16).symm, _, _, rfl, ?_, ?_⟩
   · exact h_l
   · exact ⟨_, _, rfl, SlR.nil, (by first | assumption | exact ⟨by decide, by decide⟩ | exact ⟨by dsimp only; omega, by dsimp only; omega⟩ | (simp only [h3]; exact ⟨by decide, by decide⟩) | exact ⟨by rw [h3]; decide, by rw [h3]; decide⟩)⟩
  ·have p16 := of_decide_eq_false h16
   refine WC.skip (thn_n ?_)
   refine WC.seq ?_
   refine WC.seq ?_
   refine WC.region ?_
   refine W.ok (ok_fieldB fd23_0 rfl) ?_
   refine W.ok (ok_loadB (i := 2) (vs := [.int .i64 _]) ty3 rfl rfl rfl rfl (by simp)) ?_
   refine W.ok (ok_eql rfl rfl) ?_
   refine W.nil (thn_n ?_)
   refine WC.cond (b := _) rfl (fun h30 => ?_) (fun h30 => ?_)
   ·have p30 := of_decide_eq_true h30
    refine WC.seq ?_
    refine WC.drawW _ ((((List.Sublist.refl _).cons_cons _).cons_cons _).cons _) mix (by rintro _ _ _ _ ⟨h | h, _⟩ <;> cases h) ?_
    refine WD.take 0 rfl rfl rfl (by kernel_rfl) (by kernel_rfl) (by kernel_rfl) (ok_mv) ?_
    refine WD.take 1 rfl rfl rfl (by kernel_rfl) (by kernel_rfl) (by kernel_rfl) (ok_loadB (i := 1) (vs := [.int .i64 _, .string _, .string _, .bool _, .string _, .int .i64 _]) ty23 rfl rfl rfl rfl (by simp)) ?_
    refine WD.take 3 rfl rfl rfl (by kernel_rfl) (by kernel_rfl) (by kernel_rfl) (ok_fieldB fd23_5 rfl) ?_
    refine WD.take 4 rfl rfl rfl (by kernel_rfl) (by kernel_rfl) (by kernel_rfl) (ok_loadB (i := 1) (vs := [.int .i64 _]) ty3 rfl rfl rfl rfl (by simp)) ?_
    refine WD.any [2] (by kernel_rfl) rfl ⟨⟨_, rfl, rfl, ?_⟩, trivial⟩
    refine W.qcall (r7span_fc _ _ _ _ _ _ (by first | assumption | omega | (dsimp only; omega))) rfl ?_
    refine W.nil ⟨Le.rfl, (((List.Sublist.refl _).cons_cons _).cons_cons _).cons _, _, (((List.Sublist.refl _).cons_cons _).cons_cons _).cons _, List.Sublist.refl _, ?_⟩
    refine WD.any [5] (by kernel_rfl) rfl ⟨⟨_, rfl, rfl, ?_⟩, trivial⟩
    refine W.call (Mp := []) (rscan_fc h_l _ _ _ _ (by first | assumption | omega | (simp; omega) | (exact PairsR.fold (by assumption) (by assumption)))) rfl (List.Perm.refl _) ?_
    intro _ G6 _ hG6 q8
    refine match q8 with | ⟨e_9, _, e_10, hv7⟩ => ?_
    subst e_9
    subst e_10
    have q12 := hv7.form
    refine match q12 with | ⟨sa_hv7, sc_hv7, e_11⟩ => ?_
    subst e_11
    refine W.nil ⟨hG6, (((List.Sublist.refl _).cons_cons _).cons_cons _).cons _, _, (((List.Sublist.refl _).cons_cons _).cons_cons _).cons _, List.Sublist.refl _, ?_⟩
    refine WD.take 6 rfl rfl rfl (by kernel_rfl) (by kernel_rfl) (by kernel_rfl) (ok_fieldB fd27_3 rfl) ?_
    refine WD.any [7] (by kernel_rfl) rfl ⟨⟨_, rfl, rfl, ?_⟩, trivial⟩
    refine W.store (i := 0) (vs := [.slice _ _ _]) (L' := [.int .i64 _, .bool _, .string _, .slice _ _ _]) ty25 rfl rfl rfl rfl rfl rfl rfl rfl ?_
    refine W.nil ⟨Le.rfl, (((List.Sublist.refl _).cons_cons _).cons_cons _).cons _, _, (((List.Sublist.refl _).cons_cons _).cons_cons _).cons _, List.Sublist.refl _, ?_⟩
    refine WD.done (by kernel_rfl) (thn_n ?_)
    refine WC.seq ?_
    refine WC.drawW _ ((((List.Sublist.refl _).cons_cons _).cons _).cons_cons _) mix (by rintro _ _ _ _ ⟨h | h, _⟩ <;> cases h) ?_
    refine WD.take 0 rfl rfl rfl (by kernel_rfl) (by kernel_rfl) (by kernel_rfl) (ok_mv) ?_
    refine WD.take 1 rfl rfl rfl (by kernel_rfl) (by kernel_rfl) (by kernel_rfl) (ok_loadB (i := 0) (vs := [.int .i64 _, .bool _, .string _, .slice _ _ _]) ty27 rfl rfl rfl rfl (by simp)) ?_
    refine WD.take 2 rfl rfl rfl (by kernel_rfl) (by kernel_rfl) (by kernel_rfl) (ok_as) ?_
    refine WD.any [3] (by kernel_rfl) rfl ⟨⟨_, rfl, rfl, ?_⟩, trivial⟩
    refine W.store (i := 1) (vs := [.int .i64 _, .bool _, .string _, .slice _ _ _]) (L' := [.int .i64 _, .bool _, .string _, .slice _ _ _]) ty27 rfl rfl rfl rfl rfl rfl rfl rfl ?_
    refine W.nil ⟨Le.rfl, (((List.Sublist.refl _).cons_cons _).cons _).cons_cons _, _, (((List.Sublist.refl _).cons_cons _).cons _).cons_cons _, List.Sublist.refl _, ?_⟩
    refine WD.done (by kernel_rfl) (thn_n ?_)
    refine WC.ret (thn_r ?_)
    refine ⟨.inr rfl, [_, _], ⟨rfl, ⟨_, _, _, _, _, rfl, nthM_mem (i := 1) rfl, ty27, (by simp), rfl, rfl⟩, trivial⟩, [], List.nil_sublist _, ?_⟩
    refine ⟨rfl, _, (doN_6 hR p30).symm, _, _, rfl, ?_, ?_⟩
    · exact (h_l.mono hG6)
    · exact ⟨_, _, rfl, hv7, (by first | assumption | exact ⟨by decide, by decide⟩ | exact ⟨by dsimp only; omega, by dsimp only; omega⟩ | (simp only [h3]; exact ⟨by decide, by decide⟩) | exact ⟨by rw [h3]; decide, by rw [h3]; decide⟩)⟩
   ·have p30 := of_decide_eq_false h30
    refine WC.skip (thn_n ?_)
    refine WC.seq ?_
    refine WC.drawW _ ((((List.Sublist.refl _).cons_cons _).cons _).cons_cons _) mix (by rintro _ _ _ _ ⟨h | h, _⟩ <;> cases h) ?_
    refine WD.take 0 rfl rfl rfl (by kernel_rfl) (by kernel_rfl) (by kernel_rfl) (ok_mv) ?_
    refine WD.take 1 rfl rfl rfl (by kernel_rfl) (by kernel_rfl) (by kernel_rfl) (ok_fieldB fd23_0 rfl) ?_
    refine WD.take 2 rfl rfl rfl (by kernel_rfl) (by kernel_rfl) (by kernel_rfl) (ok_loadB (i := 1) (vs := [.int .i64 _]) ty3 rfl rfl rfl rfl (by simp)) ?_
    refine WD.take 3 rfl rfl rfl (by kernel_rfl) (by kernel_rfl) (by kernel_rfl) (ok_fieldB fd23_1 rfl) ?_
    refine WD.take 4 rfl rfl rfl (by kernel_rfl) (by kernel_rfl) (by kernel_rfl) (ok_loadB (i := 1) (vs := [.string _]) ty9 rfl rfl rfl rfl (by simp)) ?_
    refine WD.take 5 rfl rfl rfl (by kernel_rfl) (by kernel_rfl) (by kernel_rfl) (ok_fieldB fd23_2 rfl) ?_
    refine WD.take 6 rfl rfl rfl (by kernel_rfl) (by kernel_rfl) (by kernel_rfl) (ok_loadB (i := 1) (vs := [.string _]) ty9 rfl rfl rfl rfl (by simp)) ?_
    refine WD.take 7 rfl rfl rfl (by kernel_rfl) (by kernel_rfl) (by kernel_rfl) (ok_fieldB fd23_3 rfl) ?_
    refine WD.take 8 rfl rfl rfl (by kernel_rfl) (by kernel_rfl) (by kernel_rfl) (ok_loadB (i := 1) (vs := [.bool _]) ty4 rfl rfl rfl rfl (by simp)) ?_
    refine WD.take 9 rfl rfl rfl (by kernel_rfl) (by kernel_rfl) (by kernel_rfl) (ok_fieldB fd23_4 rfl) ?_
    refine WD.take 10 rfl rfl rfl (by kernel_rfl) (by kernel_rfl) (by kernel_rfl) (ok_loadB (i := 1) (vs := [.string _]) ty9 rfl rfl rfl rfl (by simp)) ?_
    refine WD.take 11 rfl rfl rfl (by kernel_rfl) (by kernel_rfl) (by kernel_rfl) (ok_build (L := [.int .i64 _, .int .i64 _, .string _, .string _, .bool _, .string _]) pl59 zr59 rfl rfl rfl) ?_
    refine WD.take 13 rfl rfl rfl (by kernel_rfl) (by kernel_rfl) (by kernel_rfl) (ok_loadB (i := 0) (vs := [.int .i64 _, .bool _, .string _, .slice _ _ _]) ty27 rfl rfl rfl rfl (by simp)) ?_
    refine WD.any [12] (by kernel_rfl) rfl ⟨⟨_, rfl, rfl, ?_⟩, trivial⟩
    refine W.call (Mp := []) (rtakeF_fc h_l _ _ _ _ _ _ (by first | assumption | omega | (simp; omega) | (exact PairsR.fold (by assumption) (by assumption))) (by first | assumption | omega | (simp; omega) | (exact PairsR.fold (by assumption) (by assumption))) (by first | assumption | exact fit_of (by assumption))) rfl (List.Perm.refl _) ?_
    intro _ G13 _ hG13 q15
    refine match q15 with | ⟨e_16, _, e_17, hv14⟩ => ?_
    subst e_16
    subst e_17
    have q19 := hv14.form
    refine match q19 with | ⟨sa_hv14, sc_hv14, e_18⟩ => ?_
    subst e_18
    refine W.nil ⟨hG13, (((List.Sublist.refl _).cons_cons _).cons _).cons_cons _, _, (((List.Sublist.refl _).cons_cons _).cons _).cons_cons _, List.Sublist.refl _, ?_⟩
    refine WD.take 14 rfl rfl rfl (by kernel_rfl) (by kernel_rfl) (by kernel_rfl) (ok_as) ?_
    refine WD.any [15] (by kernel_rfl) rfl ⟨⟨_, rfl, rfl, ?_⟩, trivial⟩
    refine W.store (i := 1) (vs := [.int .i64 _, .bool _, .string _, .slice _ _ _]) (L' := [.int .i64 _, .bool _, .string _, .slice _ _ _]) ty27 rfl rfl rfl rfl rfl rfl rfl rfl ?_
    refine W.nil ⟨Le.rfl, (((List.Sublist.refl _).cons_cons _).cons _).cons_cons _, _, (((List.Sublist.refl _).cons_cons _).cons _).cons_cons _, List.Sublist.refl _, ?_⟩
    refine WD.done (by kernel_rfl) (thn_n ?_)
    refine WC.ret ?_
    refine ⟨.inr rfl, [_, _], ⟨rfl, ⟨_, _, _, _, _, rfl, nthM_mem (i := 1) rfl, ty27, (by simp), rfl, rfl⟩, trivial⟩, [], List.nil_sublist _, ?_⟩
    refine ⟨rfl, _, (doN_t hR p16 p30).symm, _, _, rfl, ?_, ?_⟩
    · exact hv14
    · exact ⟨_, _, rfl, SlR.nil, (by first | assumption | exact ⟨by decide, by decide⟩ | exact ⟨by dsimp only; omega, by dsimp only; omega⟩ | (simp only [h3]; exact ⟨by decide, by decide⟩) | exact ⟨by rw [h3]; decide, by rw [h3]; decide⟩)⟩

theorem ado_fc {G : GH} {v_l : Value} {l : List Pair} (h_l : SlR ePair G v_l l) (pk : Int) (pkey : Str) (phi : Str) (po : Bool) (pv : Str) (pl : Int) (hP : PairsR l) (hn : l.length ≤ 1000000) :
    Fc Tryd.prog 13 [v_l, .agg #[.int .i64 pk, .string pkey.b, .string phi.b, .bool po, .string pv.b, .int .i64 pl]] G [] (fun v G' M' => M' = [] ∧ ∃ r : List Pair × Ans, r = doN l (⟨pk, pkey, phi, po, pv, pl⟩ : Opr) ∧ ∃ u0 u1, v = .tuple #[u0, .agg (List.toArray u1)] ∧ SlR ePair G' u0 (r.1) ∧ AnsC G' u1 (r.2)) := by
 obtain ⟨sa_l, sc_l, rfl⟩ := h_l.form
 have hr := hP.srt
 have hl := h_l.len47
 refine Fc.intro (rs := [.tmp 4, .cell 5 27]) cl13 Tryd.func13 rfl Tryd.ntmps13 rfl rfl (fun w0 => ?_)
 refine WC.seq ?_
 refine WC.region ?_
 refine W.box (L := [.int .i64 _, .string _, .string _, .bool _, .string _, .int .i64 _]) rfl rfl (fun b20 => ?_)
 refine W.as ?_
 refine W.alloc zr27 (fun b21 => ?_)
 refine W.nil (thn_n ?_)
 refine WC.seq ?_
 refine WC.seq ?_
 refine WC.region ?_
 refine W.ok (ok_loadB (i := 1) (vs := [.int .i64 _, .string _, .string _, .bool _, .string _, .int .i64 _]) ty23 rfl rfl rfl rfl (by simp)) ?_
 refine W.qcall (opright_fc _ _ _ _ _ _) rfl ?_
 refine W.as ?_
 refine W.nil (thn_n ?_)
 refine WC.seq ?_
 refine WC.region ?_
 refine W.mv ?_
 refine W.ok (ok_neq rfl rfl) ?_
 refine W.nil (thn_n ?_)
 refine WC.cond (b := _) rfl (fun h13 => ?_) (fun h13 => ?_)
 ·have p13 := nd_t h13
  have hR : ¬ Opr.R (⟨pk, pkey, phi, po, pv, pl⟩ : Opr) := fun hq => by rw [if_pos hq] at p13; exact p13 rfl
  have h3 : (if Opr.R (⟨pk, pkey, phi, po, pv, pl⟩ : Opr) then (0 : Int) else 3) = 3 := if_neg hR
  refine WC.seq ?_
  refine WC.region ?_
  refine W.mv ?_
  refine W.call (Mp := []) (clonep_fc h_l) rfl (List.Perm.refl _) ?_
  intro _ G22 _ hG22 q24
  refine match q24 with | ⟨e_25, _, e_26, hv23⟩ => ?_
  subst e_25
  subst e_26
  have q28 := hv23.form
  refine match q28 with | ⟨sa_hv23, sc_hv23, e_27⟩ => ?_
  subst e_27
  refine W.mv ?_
  refine W.ok (ok_build (L := [.int .i64 _, .bool _, .string _, .slice _ _ _]) pl27 zr27 rfl rfl rfl) ?_
  refine W.as ?_
  refine W.store (i := 0) (vs := [.int .i64 _, .bool _, .string _, .slice _ _ _]) (L' := [.int .i64 _, .bool _, .string _, .slice _ _ _]) ty27 rfl rfl rfl rfl rfl rfl rfl rfl ?_
  refine W.nil (thn_n ?_)
  refine WC.ret (thn_r ?_)
  refine ⟨.inr rfl, [_, _], ⟨rfl, ⟨_, _, _, _, _, rfl, nthM_mem (i := 0) rfl, ty27, (by simp), rfl, rfl⟩, trivial⟩, [], List.nil_sublist _, ?_⟩
  refine ⟨rfl, _, (show ((l, ⟨if Opr.R (⟨pk, pkey, phi, po, pv, pl⟩ : Opr) then 0 else 3, false, Str.nil, []⟩) : List Pair × Ans) = doN l (⟨pk, pkey, phi, po, pv, pl⟩ : Opr) from by rw [doN_0 hR, h3]), _, _, rfl, ?_, ?_⟩
  · exact hv23
  · exact ⟨_, _, rfl, SlR.nil, (by first | assumption | exact ⟨by decide, by decide⟩ | exact ⟨by dsimp only; omega, by dsimp only; omega⟩ | (simp only [h3]; exact ⟨by decide, by decide⟩) | exact ⟨by rw [h3]; decide, by rw [h3]; decide⟩)⟩
 ·have p13 := nd_f h13
  have hR : Opr.R (⟨pk, pkey, phi, po, pv, pl⟩ : Opr) := by
    by_cases hq : Opr.R (⟨pk, pkey, phi, po, pv, pl⟩ : Opr)
    · exact hq
    · rw [if_neg hq] at p13; omega
  have hks := hR.1.2.2.1
  have hk6 := hR.1.2.1
  dsimp only at hks hk6
  have hkf : Msg.fit ⟨1, pk, pkey, phi, po, pv⟩ := hR.fit 1
  refine WC.skip (thn_n ?_)
  refine WC.seq ?_
  refine WC.region ?_
  refine W.alloc zr27 (fun b29 => ?_)
  refine W.nil (thn_n ?_)
  refine WC.seq ?_
  refine WC.seq ?_
  refine WC.region ?_
  refine W.ok (ok_fieldB fd23_0 rfl) ?_
  refine W.ok (ok_loadB (i := 2) (vs := [.int .i64 _]) ty3 rfl rfl rfl rfl (by simp)) ?_
  refine W.nil (thn_n ?_)
  refine WC.block ?_
  refine WC.seq ?_
  refine WC.region ?_
  refine W.ok (ok_eql rfl rfl) ?_
  refine W.as ?_
  refine W.nil (thn_n ?_)
  refine WC.cond (b := _) rfl (fun h30 => ?_) (fun h30 => ?_)
  ·have p30 := of_decide_eq_true h30
   refine WC.region ?_
   refine W.mv ?_
   refine W.ok (ok_fieldB fd23_1 rfl) ?_
   refine W.ok (ok_loadB (i := 2) (vs := [.string _]) ty9 rfl rfl rfl rfl (by simp)) ?_
   refine W.qcall (mget_fc h_l _ (by assumption)) rfl ?_
   refine W.mv ?_
   refine W.ok (ok_extract rfl rfl) ?_
   refine W.ok (ok_extract rfl rfl) ?_
   refine W.ok (ok_fieldB fd27_2 rfl) ?_
   refine W.store (i := 0) (vs := [.string _]) (L' := [.int .i64 _, .bool _, .string _, .slice _ _ _]) ty9 rfl rfl rfl rfl rfl rfl rfl rfl ?_
   refine W.ok (ok_fieldB fd27_1 rfl) ?_
   refine W.store (i := 0) (vs := [.bool _]) (L' := [.int .i64 _, .bool _, .string _, .slice _ _ _]) ty4 rfl rfl rfl rfl rfl rfl rfl rfl ?_
   refine W.nil (blk_n (thn_n ?_))
   refine WC.seq ?_
   refine WC.drawW _ ((((List.Sublist.refl _).cons_cons _).cons _).cons_cons _) mix (by rintro _ _ _ _ ⟨h | h, _⟩ <;> cases h) ?_
   refine WD.take 0 rfl rfl rfl (by kernel_rfl) (by kernel_rfl) (by kernel_rfl) (ok_mv) ?_
   refine WD.take 2 rfl rfl rfl (by kernel_rfl) (by kernel_rfl) (by kernel_rfl) (ok_loadB (i := 0) (vs := [.int .i64 _, .bool _, .string _, .slice _ _ _]) ty27 rfl rfl rfl rfl (by simp)) ?_
   refine WD.any [1] (by kernel_rfl) rfl ⟨⟨_, rfl, rfl, ?_⟩, trivial⟩
   refine W.call (Mp := []) (clonep_fc h_l) rfl (List.Perm.refl _) ?_
   intro _ G30 _ hG30 q32
   refine match q32 with | ⟨e_33, _, e_34, hv31⟩ => ?_
   subst e_33
   subst e_34
   have q36 := hv31.form
   refine match q36 with | ⟨sa_hv31, sc_hv31, e_35⟩ => ?_
   subst e_35
   refine W.nil ⟨hG30, (((List.Sublist.refl _).cons_cons _).cons _).cons_cons _, _, (((List.Sublist.refl _).cons_cons _).cons _).cons_cons _, List.Sublist.refl _, ?_⟩
   refine WD.take 3 rfl rfl rfl (by kernel_rfl) (by kernel_rfl) (by kernel_rfl) (ok_as) ?_
   refine WD.any [4] (by kernel_rfl) rfl ⟨⟨_, rfl, rfl, ?_⟩, trivial⟩
   refine W.store (i := 1) (vs := [.int .i64 _, .bool _, .string _, .slice _ _ _]) (L' := [.int .i64 _, .bool _, .string _, .slice _ _ _]) ty27 rfl rfl rfl rfl rfl rfl rfl rfl ?_
   refine W.nil ⟨Le.rfl, (((List.Sublist.refl _).cons_cons _).cons _).cons_cons _, _, (((List.Sublist.refl _).cons_cons _).cons _).cons_cons _, List.Sublist.refl _, ?_⟩
   refine WD.done (by kernel_rfl) (thn_n ?_)
   refine WC.ret ?_
   refine ⟨.inr rfl, [_, _], ⟨rfl, ⟨_, _, _, _, _, rfl, nthM_mem (i := 1) rfl, ty27, (by simp), rfl, rfl⟩, trivial⟩, [], List.nil_sublist _, ?_⟩
   refine ⟨rfl, _, (doN_5 hR p30).symm, _, _, rfl, ?_, ?_⟩
   · exact hv31
   · exact ⟨_, _, rfl, SlR.nil, (by first | assumption | exact ⟨by decide, by decide⟩ | exact ⟨by dsimp only; omega, by dsimp only; omega⟩ | (simp only [h3]; exact ⟨by decide, by decide⟩) | exact ⟨by rw [h3]; decide, by rw [h3]; decide⟩)⟩
  ·have p30 := of_decide_eq_false h30
   refine WC.seq ?_
   refine WC.region ?_
   refine W.ok (ok_eql rfl rfl) ?_
   refine W.as ?_
   refine W.nil (thn_n ?_)
   refine WC.cond (b := _) rfl (fun h41 => ?_) (fun h41 => ?_)
   ·have p41 := of_decide_eq_true h41
    refine WC.drawW _ ((((List.Sublist.refl _).cons_cons _).cons_cons _).cons _) mix (by rintro _ _ _ _ ⟨h | h, _⟩ <;> cases h) ?_
    refine WD.take 0 rfl rfl rfl (by kernel_rfl) (by kernel_rfl) (by kernel_rfl) (ok_mv) ?_
    refine WD.take 1 rfl rfl rfl (by kernel_rfl) (by kernel_rfl) (by kernel_rfl) (ok_loadB (i := 1) (vs := [.int .i64 _, .string _, .string _, .bool _, .string _, .int .i64 _]) ty23 rfl rfl rfl rfl (by simp)) ?_
    refine WD.take 3 rfl rfl rfl (by kernel_rfl) (by kernel_rfl) (by kernel_rfl) (ok_fieldB fd23_5 rfl) ?_
    refine WD.take 4 rfl rfl rfl (by kernel_rfl) (by kernel_rfl) (by kernel_rfl) (ok_loadB (i := 1) (vs := [.int .i64 _]) ty3 rfl rfl rfl rfl (by simp)) ?_
    refine WD.any [2] (by kernel_rfl) rfl ⟨⟨_, rfl, rfl, ?_⟩, trivial⟩
    refine W.qcall (opspan_fc _ _ _ _ _ _ (by first | assumption | omega | (dsimp only; omega))) rfl ?_
    refine W.nil ⟨Le.rfl, (((List.Sublist.refl _).cons_cons _).cons_cons _).cons _, _, (((List.Sublist.refl _).cons_cons _).cons_cons _).cons _, List.Sublist.refl _, ?_⟩
    refine WD.any [5] (by kernel_rfl) rfl ⟨⟨_, rfl, rfl, ?_⟩, trivial⟩
    refine W.call (Mp := []) (mscan_fc h_l _ _ _ _ (by first | assumption | omega | (simp; omega) | (exact PairsR.fold (by assumption) (by assumption)))) rfl (List.Perm.refl _) ?_
    intro _ G37 _ hG37 q39
    refine match q39 with | ⟨e_40, _, e_41, hv38⟩ => ?_
    subst e_40
    subst e_41
    have q43 := hv38.form
    refine match q43 with | ⟨sa_hv38, sc_hv38, e_42⟩ => ?_
    subst e_42
    refine W.nil ⟨hG37, (((List.Sublist.refl _).cons_cons _).cons_cons _).cons _, _, (((List.Sublist.refl _).cons_cons _).cons_cons _).cons _, List.Sublist.refl _, ?_⟩
    refine WD.take 6 rfl rfl rfl (by kernel_rfl) (by kernel_rfl) (by kernel_rfl) (ok_fieldB fd27_3 rfl) ?_
    refine WD.any [7] (by kernel_rfl) rfl ⟨⟨_, rfl, rfl, ?_⟩, trivial⟩
    refine W.store (i := 0) (vs := [.slice _ _ _]) (L' := [.int .i64 _, .bool _, .string _, .slice _ _ _]) ty25 rfl rfl rfl rfl rfl rfl rfl rfl ?_
    refine W.nil ⟨Le.rfl, (((List.Sublist.refl _).cons_cons _).cons_cons _).cons _, _, (((List.Sublist.refl _).cons_cons _).cons_cons _).cons _, List.Sublist.refl _, ?_⟩
    refine WD.done (by kernel_rfl) (blk_n (thn_n ?_))
    refine WC.seq ?_
    refine WC.drawW _ ((((List.Sublist.refl _).cons_cons _).cons _).cons_cons _) mix (by rintro _ _ _ _ ⟨h | h, _⟩ <;> cases h) ?_
    refine WD.take 0 rfl rfl rfl (by kernel_rfl) (by kernel_rfl) (by kernel_rfl) (ok_mv) ?_
    refine WD.take 2 rfl rfl rfl (by kernel_rfl) (by kernel_rfl) (by kernel_rfl) (ok_loadB (i := 0) (vs := [.int .i64 _, .bool _, .string _, .slice _ _ _]) ty27 rfl rfl rfl rfl (by simp)) ?_
    refine WD.any [1] (by kernel_rfl) rfl ⟨⟨_, rfl, rfl, ?_⟩, trivial⟩
    refine W.call (Mp := []) (clonep_fc (h_l.mono hG37)) rfl (List.Perm.refl _) ?_
    intro _ G44 _ hG44 q46
    refine match q46 with | ⟨e_47, _, e_48, hv45⟩ => ?_
    subst e_47
    subst e_48
    have q50 := hv45.form
    refine match q50 with | ⟨sa_hv45, sc_hv45, e_49⟩ => ?_
    subst e_49
    refine W.nil ⟨hG44, (((List.Sublist.refl _).cons_cons _).cons _).cons_cons _, _, (((List.Sublist.refl _).cons_cons _).cons _).cons_cons _, List.Sublist.refl _, ?_⟩
    refine WD.take 3 rfl rfl rfl (by kernel_rfl) (by kernel_rfl) (by kernel_rfl) (ok_as) ?_
    refine WD.any [4] (by kernel_rfl) rfl ⟨⟨_, rfl, rfl, ?_⟩, trivial⟩
    refine W.store (i := 1) (vs := [.int .i64 _, .bool _, .string _, .slice _ _ _]) (L' := [.int .i64 _, .bool _, .string _, .slice _ _ _]) ty27 rfl rfl rfl rfl rfl rfl rfl rfl ?_
    refine W.nil ⟨Le.rfl, (((List.Sublist.refl _).cons_cons _).cons _).cons_cons _, _, (((List.Sublist.refl _).cons_cons _).cons _).cons_cons _, List.Sublist.refl _, ?_⟩
    refine WD.done (by kernel_rfl) (thn_n ?_)
    refine WC.ret ?_
    refine ⟨.inr rfl, [_, _], ⟨rfl, ⟨_, _, _, _, _, rfl, nthM_mem (i := 1) rfl, ty27, (by simp), rfl, rfl⟩, trivial⟩, [], List.nil_sublist _, ?_⟩
    refine ⟨rfl, _, (doN_6 hR p41).symm, _, _, rfl, ?_, ?_⟩
    · exact hv45
    · exact ⟨_, _, rfl, (hv38.mono hG44), (by first | assumption | exact ⟨by decide, by decide⟩ | exact ⟨by dsimp only; omega, by dsimp only; omega⟩ | (simp only [h3]; exact ⟨by decide, by decide⟩) | exact ⟨by rw [h3]; decide, by rw [h3]; decide⟩)⟩
   ·have p41 := of_decide_eq_false h41
    have hk4 : pk ≤ 4 := by omega
    refine WC.seq ?_
    refine WC.region ?_
    refine W.ok (ok_loadB (i := 2) (vs := [.int .i64 _, .string _, .string _, .bool _, .string _, .int .i64 _]) ty23 rfl rfl rfl rfl (by simp)) ?_
    refine W.qcall (opmsg_fc _ _ _ _ _ _ _ (by assumption) (by assumption) (by omega)) rfl ?_
    refine W.mv ?_
    refine W.ok (ok_extract rfl rfl) ?_
    refine W.ok (ok_extract rfl rfl) ?_
    refine W.alloc zr59 (fun b51 => ?_)
    refine W.store (i := 0) (vs := [.int .i64 _, .int .i64 _, .string _, .string _, .bool _, .string _]) (L' := [.int .i64 _, .int .i64 _, .string _, .string _, .bool _, .string _]) ty59 rfl rfl rfl rfl rfl rfl rfl rfl ?_
    refine W.as ?_
    refine W.nil (thn_n ?_)
    refine WC.seq ?_
    refine WC.drawW _ (((((List.Sublist.refl _).cons_cons _).cons _).cons_cons _).cons_cons _) mix (by rintro _ _ _ _ ⟨h | h, _⟩ <;> cases h) ?_
    refine WD.take 0 rfl rfl rfl (by kernel_rfl) (by kernel_rfl) (by kernel_rfl) (ok_mv) ?_
    refine WD.take 1 rfl rfl rfl (by kernel_rfl) (by kernel_rfl) (by kernel_rfl) (ok_loadB (i := 0) (vs := [.int .i64 _, .int .i64 _, .string _, .string _, .bool _, .string _]) ty59 rfl rfl rfl rfl (by simp)) ?_
    refine WD.take 3 rfl rfl rfl (by kernel_rfl) (by kernel_rfl) (by kernel_rfl) (ok_loadB (i := 1) (vs := [.int .i64 _, .bool _, .string _, .slice _ _ _]) ty27 rfl rfl rfl rfl (by simp)) ?_
    refine WD.any [2] (by kernel_rfl) rfl ⟨⟨_, rfl, rfl, ?_⟩, trivial⟩
    refine W.call (Mp := []) (mtake_fc h_l _ _ _ _ _ _ (by first | assumption | omega | (simp; omega) | (exact PairsR.fold (by assumption) (by assumption))) (by first | assumption | omega | (simp; omega) | (exact PairsR.fold (by assumption) (by assumption))) (by first | assumption | exact fit_of (by assumption))) rfl (List.Perm.refl _) ?_
    intro _ G52 _ hG52 q54
    refine match q54 with | ⟨e_55, _, e_56, hv53⟩ => ?_
    subst e_55
    subst e_56
    have q58 := hv53.form
    refine match q58 with | ⟨sa_hv53, sc_hv53, e_57⟩ => ?_
    subst e_57
    refine W.nil ⟨hG52, ((((List.Sublist.refl _).cons_cons _).cons _).cons_cons _).cons_cons _, _, ((((List.Sublist.refl _).cons_cons _).cons _).cons_cons _).cons_cons _, List.Sublist.refl _, ?_⟩
    refine WD.take 4 rfl rfl rfl (by kernel_rfl) (by kernel_rfl) (by kernel_rfl) (ok_as) ?_
    refine WD.any [5] (by kernel_rfl) rfl ⟨⟨_, rfl, rfl, ?_⟩, trivial⟩
    refine W.store (i := 2) (vs := [.int .i64 _, .bool _, .string _, .slice _ _ _]) (L' := [.int .i64 _, .bool _, .string _, .slice _ _ _]) ty27 rfl rfl rfl rfl rfl rfl rfl rfl ?_
    refine W.nil ⟨Le.rfl, ((((List.Sublist.refl _).cons_cons _).cons _).cons_cons _).cons_cons _, _, ((((List.Sublist.refl _).cons_cons _).cons _).cons_cons _).cons_cons _, List.Sublist.refl _, ?_⟩
    refine WD.done (by kernel_rfl) (thn_n ?_)
    refine WC.ret (blk_r (thn_r ?_))
    refine ⟨.inr rfl, [_, _], ⟨rfl, ⟨_, _, _, _, _, rfl, nthM_mem (i := 2) rfl, ty27, (by simp), rfl, rfl⟩, trivial⟩, [], List.nil_sublist _, ?_⟩
    refine ⟨rfl, _, (doN_t hR p30 p41).symm, _, _, rfl, ?_, ?_⟩
    · exact hv53
    · exact ⟨_, _, rfl, SlR.nil, (by first | assumption | exact ⟨by decide, by decide⟩ | exact ⟨by dsimp only; omega, by dsimp only; omega⟩ | (simp only [h3]; exact ⟨by decide, by decide⟩) | exact ⟨by rw [h3]; decide, by rw [h3]; decide⟩)⟩

end Go.Proofs.YthmkpaoolhcibaaDoor
