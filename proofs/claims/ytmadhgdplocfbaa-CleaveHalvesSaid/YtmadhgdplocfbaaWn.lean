/- Walks of functions that part nodes, by definition. -/
import Derived.Test.YtmadhgdplocfbaaWm
import Derived.Test.YtmadhgdplocfbaaMp
import Derived.Test.YtmadhgdplocfbaaFx
namespace Go.Proofs.Ytmadhgdplocfbaa
open Go Go.Fw Go.RowKit
set_option maxRecDepth 100000
set_option maxHeartbeats 1600000
set_option linter.unusedVariables false
theorem rcleave_fc {G : GH} {cs_n : List Value} {n : Nd} (h_n : NodeC G cs_n n) (i : Int) (hi : i64 i) (hks : ∀ m ∈ n.msgs, m.key.b.size < 140737488355328) :
    Fc Try.prog 54 [.agg (List.toArray cs_n), .int .i64 i] G [] (fun v G' M' => M' = [] ∧ ∃ r : Nd × Nd × Str × Bool, r = cleaveN n i ∧ ∃ u0 u1, v = .tuple #[.agg (List.toArray u0), .agg (List.toArray u1), .string (Str.b (r.2.2.1)), .bool (r.2.2.2)] ∧ NodeC G' u0 (r.1) ∧ NodeC G' u1 (r.2.1)) := by
  obtain ⟨pa_n, pc_n, ka_n, kc_n, ma_n, mc_n, ra_n, rc_n, rfl, hp_n, hk_n, hm_n, hr_n, hok_n⟩ := h_n
  have h1 := hp_n.len47
  have h2 := hk_n.len47
  have h3 := hm_n.len47
  have h4 := hr_n.len47
  have b1 : n.pivots.length * 16 ≤ 140737488355328 := hp_n.bytes
  have b2 : n.kids.length * 8 ≤ 140737488355328 := hk_n.bytes
  have b4 : n.rows.length * 32 ≤ 140737488355328 := hr_n.bytes
  refine Fc.intro (rs := [.cell 4 45, .cell 5 45, .tmp 6, .tmp 7]) cl54 Try.func54 rfl Try.ntmps54 rfl rfl (fun w0 => ?_)
  refine WC.seq ?_
  refine WC.region ?_
  refine W.box (L := [.int .i64 _, .int .i64 _, .slice _ _ _, .slice _ _ _, .string _, .bool _, .int .i64 _, .int .i64 _, .slice _ _ _, .slice _ _ _]) rfl rfl (fun b653 => ?_)
  refine W.alloc zr45 (fun b654 => ?_)
  refine W.alloc zr45 (fun b655 => ?_)
  refine W.as ?_
  refine W.as ?_
  refine W.nil (thn_n ?_)
  refine WC.seq ?_
  refine WC.drawW _ ((((List.Sublist.refl _).cons_cons _).cons_cons _).cons_cons _) mix (by rintro _ _ _ _ ⟨h | h, _⟩ <;> cases h) ?_
  refine WD.take 0 rfl rfl rfl (by kernel_rfl) (by kernel_rfl) (by kernel_rfl) (ok_loadB (i := 2) (vs := [.int .i64 _, .int .i64 _, .slice _ _ _, .slice _ _ _, .string _, .bool _, .int .i64 _, .int .i64 _, .slice _ _ _, .slice _ _ _]) ty45 rfl rfl rfl rfl (by simp)) ?_
  refine WD.take 1 rfl rfl rfl (by kernel_rfl) (by kernel_rfl) (by kernel_rfl) (ok_loadB (i := 2) (vs := [.int .i64 _, .int .i64 _, .slice _ _ _, .slice _ _ _, .string _, .bool _, .int .i64 _, .int .i64 _, .slice _ _ _, .slice _ _ _]) ty45 rfl rfl rfl rfl (by simp)) ?_
  refine WD.any [2, 3] (by kernel_rfl) rfl ⟨⟨_, rfl, rfl, ?_⟩, ⟨_, rfl, rfl, ?_⟩, trivial⟩
  · refine W.alloc zr45 (fun b656 => ?_)
    refine W.nil ⟨Le.rfl, ((((List.Sublist.refl _).cons_cons _).cons_cons _).cons_cons _).cons _, _, ((((List.Sublist.refl _).cons_cons _).cons_cons _).cons_cons _).cons _, List.Sublist.refl _, ?_⟩
    refine WD.any [3] (by kernel_rfl) rfl ⟨⟨_, rfl, rfl, ?_⟩, trivial⟩
    refine W.alloc zr45 (fun b657 => ?_)
    refine W.nil ⟨Le.rfl, (((((List.Sublist.refl _).cons_cons _).cons_cons _).cons_cons _).cons _).cons _, _, (((((List.Sublist.refl _).cons_cons _).cons_cons _).cons_cons _).cons _).cons _, List.Sublist.refl _, ?_⟩
    refine WD.any [4] (by kernel_rfl) rfl ⟨⟨_, rfl, rfl, ?_⟩, trivial⟩
    refine W.store (i := 1) (vs := [.int .i64 _, .int .i64 _, .slice _ _ _, .slice _ _ _, .string _, .bool _, .int .i64 _, .int .i64 _, .slice _ _ _, .slice _ _ _]) (L' := [.int .i64 _, .int .i64 _, .slice _ _ _, .slice _ _ _, .string _, .bool _, .int .i64 _, .int .i64 _, .slice _ _ _, .slice _ _ _]) ty45 rfl rfl rfl rfl rfl rfl rfl rfl ?_
    refine W.nil ⟨Le.rfl, (((((List.Sublist.refl _).cons_cons _).cons_cons _).cons_cons _).cons _).cons _, _, (((((List.Sublist.refl _).cons_cons _).cons_cons _).cons_cons _).cons _).cons _, List.Sublist.refl _, ?_⟩
    refine WD.any [5] (by kernel_rfl) rfl ⟨⟨_, rfl, rfl, ?_⟩, trivial⟩
    refine W.store (i := 0) (vs := [.int .i64 _, .int .i64 _, .slice _ _ _, .slice _ _ _, .string _, .bool _, .int .i64 _, .int .i64 _, .slice _ _ _, .slice _ _ _]) (L' := [.int .i64 _, .int .i64 _, .slice _ _ _, .slice _ _ _, .string _, .bool _, .int .i64 _, .int .i64 _, .slice _ _ _, .slice _ _ _]) ty45 rfl rfl rfl rfl rfl rfl rfl rfl ?_
    refine W.nil ⟨Le.rfl, (((((List.Sublist.refl _).cons_cons _).cons_cons _).cons_cons _).cons _).cons _, _, (((((List.Sublist.refl _).cons_cons _).cons_cons _).cons_cons _).cons _).cons _, List.Sublist.refl _, ?_⟩
    refine WD.take 6 rfl rfl rfl (by kernel_rfl) (by kernel_rfl) (by kernel_rfl) (ok_as) ?_
    refine WD.done (by kernel_rfl) (thn_n ?_)
    refine WC.seq ?_
    refine WC.seq ?_
    refine WC.region ?_
    refine W.ok (ok_fieldB fd45_1 rfl) ?_
    refine W.ok (ok_loadB (i := 4) (vs := [.int .i64 _]) ty3 rfl rfl rfl rfl (by simp)) ?_
    refine W.ok (ok_eql rfl rfl) ?_
    refine W.nil (thn_n ?_)
    refine WC.cond (b := _) rfl (fun h17 => ?_) (fun h17 => ?_)
    · have p17 := of_decide_eq_true h17
      refine WC.seq ?_
      refine WC.seq ?_
      refine WC.region ?_
      refine W.ok (ok_fieldB fd45_9 rfl) ?_
      refine W.ok (ok_loadB (i := 4) (vs := [.slice _ _ _]) ty42 rfl rfl rfl rfl (by simp)) ?_
      refine W.ok (ok_len sl42 hr_n rfl) ?_
      refine W.ok (ok_lss rfl rfl) ?_
      refine W.nil (thn_n ?_)
      refine WC.cond (b := _) rfl (fun h21 => ?_) (fun h21 => ?_)
      · have p21 := of_decide_eq_true h21
        refine WC.seq ?_
        refine WC.region ?_
        refine W.ok (ok_build (L := [.int .i64 _, .int .i64 _, .slice _ _ _, .slice _ _ _, .string _, .bool _, .int .i64 _, .int .i64 _, .slice _ _ _, .slice _ _ _]) pl45 zr45 rfl rfl rfl) ?_
        refine W.ok (ok_build (L := [.int .i64 _, .int .i64 _, .slice _ _ _, .slice _ _ _, .string _, .bool _, .int .i64 _, .int .i64 _, .slice _ _ _, .slice _ _ _]) pl45 zr45 rfl rfl rfl) ?_
        refine W.store (i := 3) (vs := [.int .i64 _, .int .i64 _, .slice _ _ _, .slice _ _ _, .string _, .bool _, .int .i64 _, .int .i64 _, .slice _ _ _, .slice _ _ _]) (L' := [.int .i64 _, .int .i64 _, .slice _ _ _, .slice _ _ _, .string _, .bool _, .int .i64 _, .int .i64 _, .slice _ _ _, .slice _ _ _]) ty45 rfl rfl rfl rfl rfl rfl rfl rfl ?_
        refine W.store (i := 2) (vs := [.int .i64 _, .int .i64 _, .slice _ _ _, .slice _ _ _, .string _, .bool _, .int .i64 _, .int .i64 _, .slice _ _ _, .slice _ _ _]) (L' := [.int .i64 _, .int .i64 _, .slice _ _ _, .slice _ _ _, .string _, .bool _, .int .i64 _, .int .i64 _, .slice _ _ _, .slice _ _ _]) ty45 rfl rfl rfl rfl rfl rfl rfl rfl ?_
        refine W.as ?_
        refine W.as ?_
        refine W.nil (thn_n ?_)
        refine WC.ret (thn_r (thn_r ?_))
        refine ⟨.inr rfl, [_, _, _, _], ⟨⟨_, _, _, _, _, rfl, nthM_mem (i := 3) rfl, ty45, (by simp), rfl, rfl⟩, ⟨_, _, _, _, _, rfl, nthM_mem (i := 2) rfl, ty45, (by simp), rfl, rfl⟩, rfl, rfl, trivial⟩, [], List.nil_sublist _, ?_⟩
        refine ⟨rfl, _, (cleave_lf p17 (by omega)).symm, _, _, rfl, ?_, ?_⟩
        · exact ⟨_, _, _, _, _, _, _, _, rfl, SlR.nil, SlR.nil, SlR.nil, SlR.nil, Nd.zero_ok⟩
        · exact ⟨_, _, _, _, _, _, _, _, rfl, SlR.nil, SlR.nil, SlR.nil, SlR.nil, Nd.zero_ok⟩
      · have p21 := of_decide_eq_false h21
        refine WC.skip (thn_n ?_)
        refine WC.seq ?_
        refine WC.region ?_
        refine W.ok (ok_fieldB fd45_9 rfl) ?_
        refine W.ok (ok_loadB (i := 4) (vs := [.slice _ _ _]) ty42 rfl rfl rfl rfl (by simp)) ?_
        refine W.ok (ok_len sl42 hr_n rfl) ?_
        refine W.ok (ok_add rfl rfl (by omega)) ?_
        refine W.ok (Ok.int (n := ((((n.rows.length + 1) / 2) : Nat) : Int)) (ok_quo' rfl rfl (by omega) (by omega) (by omega)) (by omega)) ?_
        refine W.as ?_
        refine W.nil (thn_n ?_)
        refine WC.seq ?_
        refine WC.draw mix (by kernel_rfl) ?_
        refine W.ok (ok_fieldB fd45_9 rfl) ?_
        refine W.ok (ok_loadB (i := 4) (vs := [.slice _ _ _]) ty42 rfl rfl rfl rfl (by simp)) ?_
        refine W.mv ?_
        refine W.ok (Ok.int (n := ((((n.rows.length + 1) / 2) - 1 : Nat) : Int)) (ok_sub rfl rfl (by omega)) (by omega)) ?_
        have q660 := hr_n.at (i := ((n.rows.length + 1) / 2) - 1) (by omega)
        refine match q660 with | ⟨_, he658, e_659⟩ => ?_
        subst e_659
        refine W.ok (ok_indexAddr (i := ((n.rows.length + 1) / 2) - 1) sl42 ty127 hr_n rfl rfl ⟨by omega, by omega⟩) ?_
        refine W.ok (ok_fieldE fd127_0 rfl he658.form) ?_
        refine W.ok (ok_loadE (vs := [.string _]) ty9 he658 rfl rfl rfl (by simp)) ?_
        refine W.ok (ok_fieldB fd45_9 rfl) ?_
        refine W.ok (ok_loadB (i := 4) (vs := [.slice _ _ _]) ty42 rfl rfl rfl rfl (by simp)) ?_
        refine W.mv ?_
        have q663 := hr_n.at (i := ((n.rows.length + 1) / 2)) (by omega)
        refine match q663 with | ⟨_, he661, e_662⟩ => ?_
        subst e_662
        refine W.ok (ok_indexAddr (i := ((n.rows.length + 1) / 2)) sl42 ty127 hr_n rfl rfl ⟨by omega, by omega⟩) ?_
        refine W.ok (ok_fieldE fd127_0 rfl he661.form) ?_
        refine W.ok (ok_loadE (vs := [.string _]) ty9 he661 rfl rfl rfl (by simp)) ?_
        refine W.qcall (rbetween_fc _ _) rfl ?_
        refine W.mv ?_
        refine W.ok (ok_extract rfl rfl) ?_
        refine W.ok (ok_extract rfl rfl) ?_
        refine W.as ?_
        refine W.nil (thn_n ?_)
        refine WC.seq ?_
        refine WC.region ?_
        refine W.lit0 (e := ePair) sl42 ty127 zr127 rfl (fun v664 Ms665 ho666 => ?_)
        refine W.perm (pmC (pmC (pmC (pmC (pmC (List.Perm.refl _)))))).symm ?_
        refine W.ok (ok_fieldB fd45_9 rfl) ?_
        refine W.ok (ok_loadB (i := 4) (vs := [.slice _ _ _]) ty42 rfl rfl rfl rfl (by simp)) ?_
        refine W.mv ?_
        have hs667 := SlR.slice hr_n (lo := 0) (hi := ((n.rows.length + 1) / 2)) (by omega) (by omega)
        refine W.ok (ok_slice (0) (((n.rows.length + 1) / 2)) sl42 ty127 hr_n rfl rfl ⟨_, _, rfl, by omega⟩ ⟨by omega, by omega⟩) ?_
        refine W.app (e := ePair) sl42 ty127 zr127 rfl by127 rfl rfl (ho666) (hs667) (pmC (pmC (pmC (pmC (pmC (List.Perm.refl _)))))) (by show (0 + ((n.rows.take ((n.rows.length + 1) / 2)).drop 0).length) * 32 ≤ _; simp; omega) (fun v668 Ms669 ho670 => ?_)
        refine W.perm (pmC (pmC (pmC (pmC (pmC (List.Perm.refl _)))))).symm ?_
        refine W.ok (ok_fieldB fd45_9 rfl) ?_
        refine W.giveO ho670 (pmC (pmC (pmC (pmC (pmC (List.Perm.refl _)))))) (fun G671 hG671 hv671 => ?_)
        have hc672 := SlR.cast hv671 (l' := n.rows.take ((n.rows.length + 1) / 2)) (by simp)
        have q674 := hc672.form
        refine match q674 with | ⟨_, _, e_673⟩ => ?_
        subst e_673
        refine W.store (i := 1) (vs := [.slice _ _ _]) (L' := [.int .i64 _, .int .i64 _, .slice _ _ _, .slice _ _ _, .string _, .bool _, .int .i64 _, .int .i64 _, .slice _ _ _, .slice _ _ _]) ty42 rfl rfl rfl rfl rfl rfl rfl rfl ?_
        refine W.nil (thn_n ?_)
        refine WC.region ?_
        refine W.lit0 (e := ePair) sl42 ty127 zr127 rfl (fun v675 Ms676 ho677 => ?_)
        refine W.perm (pmC (pmC (pmC (pmC (pmC (List.Perm.refl _)))))).symm ?_
        refine W.ok (ok_fieldB fd45_9 rfl) ?_
        refine W.ok (ok_loadB (i := 4) (vs := [.slice _ _ _]) ty42 rfl rfl rfl rfl (by simp)) ?_
        refine W.mv ?_
        have hs678 := SlR.slice (hr_n.mono hG671) (lo := ((n.rows.length + 1) / 2)) (hi := n.rows.length) (by omega) (by omega)
        refine W.ok (ok_slice (((n.rows.length + 1) / 2)) (n.rows.length) sl42 ty127 (hr_n.mono hG671) rfl ⟨_, _, rfl, by omega⟩ rfl ⟨by omega, by omega⟩) ?_
        refine W.app (e := ePair) sl42 ty127 zr127 rfl by127 rfl rfl (ho677) (hs678) (pmC (pmC (pmC (pmC (pmC (List.Perm.refl _)))))) (by show (0 + ((n.rows.take n.rows.length).drop ((n.rows.length + 1) / 2)).length) * 32 ≤ _; simp; omega) (fun v679 Ms680 ho681 => ?_)
        refine W.perm (pmC (pmC (pmC (pmC (pmC (List.Perm.refl _)))))).symm ?_
        refine W.ok (ok_fieldB fd45_9 rfl) ?_
        refine W.giveO ho681 (pmC (pmC (pmC (pmC (pmC (List.Perm.refl _)))))) (fun G682 hG682 hv682 => ?_)
        have hc683 := SlR.cast hv682 (l' := n.rows.drop ((n.rows.length + 1) / 2)) (by simp)
        have q685 := hc683.form
        refine match q685 with | ⟨_, _, e_684⟩ => ?_
        subst e_684
        refine W.store (i := 0) (vs := [.slice _ _ _]) (L' := [.int .i64 _, .int .i64 _, .slice _ _ _, .slice _ _ _, .string _, .bool _, .int .i64 _, .int .i64 _, .slice _ _ _, .slice _ _ _]) ty42 rfl rfl rfl rfl rfl rfl rfl rfl ?_
        refine W.nil (thn_n ?_)
        refine WC.seq ?_
        refine WC.region ?_
        refine W.mv ?_
        refine W.ok (ok_fieldB fd45_4 rfl) ?_
        refine W.store (i := 1) (vs := [.string _]) (L' := [.int .i64 _, .int .i64 _, .slice _ _ _, .slice _ _ _, .string _, .bool _, .int .i64 _, .int .i64 _, .slice _ _ _, .slice _ _ _]) ty9 rfl rfl rfl rfl rfl rfl rfl rfl ?_
        refine W.nil (thn_n ?_)
        refine WC.seq ?_
        refine WC.region ?_
        refine W.ok (ok_fieldB fd45_5 rfl) ?_
        refine W.store (i := 1) (vs := [.bool _]) (L' := [.int .i64 _, .int .i64 _, .slice _ _ _, .slice _ _ _, .string _, .bool _, .int .i64 _, .int .i64 _, .slice _ _ _, .slice _ _ _]) ty4 rfl rfl rfl rfl rfl rfl rfl rfl ?_
        refine W.nil (thn_n ?_)
        refine WC.seq ?_
        refine WC.region ?_
        refine W.mv ?_
        refine W.ok (ok_fieldB fd45_6 rfl) ?_
        refine W.store (i := 1) (vs := [.int .i64 _]) (L' := [.int .i64 _, .int .i64 _, .slice _ _ _, .slice _ _ _, .string _, .bool _, .int .i64 _, .int .i64 _, .slice _ _ _, .slice _ _ _]) ty3 rfl rfl rfl rfl rfl rfl rfl rfl ?_
        refine W.nil (thn_n ?_)
        refine WC.seq ?_
        refine WC.region ?_
        refine W.mv ?_
        refine W.ok (ok_fieldB fd45_0 rfl) ?_
        refine W.store (i := 0) (vs := [.int .i64 _]) (L' := [.int .i64 _, .int .i64 _, .slice _ _ _, .slice _ _ _, .string _, .bool _, .int .i64 _, .int .i64 _, .slice _ _ _, .slice _ _ _]) ty3 rfl rfl rfl rfl rfl rfl rfl rfl ?_
        refine W.nil (thn_n ?_)
        refine WC.seq ?_
        refine WC.drawW _ ((((((List.Sublist.refl _).cons_cons _).cons _).cons _).cons_cons _).cons_cons _) mix (by rintro _ _ _ _ ⟨h | h, _⟩ <;> cases h) ?_
        refine WD.take 0 rfl rfl rfl (by kernel_rfl) (by kernel_rfl) (by kernel_rfl) (ok_loadB (i := 1) (vs := [.int .i64 _, .int .i64 _, .slice _ _ _, .slice _ _ _, .string _, .bool _, .int .i64 _, .int .i64 _, .slice _ _ _, .slice _ _ _]) ty45 rfl rfl rfl rfl (by simp)) ?_
        refine WD.take 1 rfl rfl rfl (by kernel_rfl) (by kernel_rfl) (by kernel_rfl) (ok_loadB (i := 0) (vs := [.int .i64 _, .int .i64 _, .slice _ _ _, .slice _ _ _, .string _, .bool _, .int .i64 _, .int .i64 _, .slice _ _ _, .slice _ _ _]) ty45 rfl rfl rfl rfl (by simp)) ?_
        refine WD.take 2 rfl rfl rfl (by kernel_rfl) (by kernel_rfl) (by kernel_rfl) (ok_mv) ?_
        refine WD.any [3] (by kernel_rfl) rfl ⟨⟨_, rfl, rfl, ?_⟩, trivial⟩
        refine W.store (i := 3) (vs := [.int .i64 _, .int .i64 _, .slice _ _ _, .slice _ _ _, .string _, .bool _, .int .i64 _, .int .i64 _, .slice _ _ _, .slice _ _ _]) (L' := [.int .i64 _, .int .i64 _, .slice _ _ _, .slice _ _ _, .string _, .bool _, .int .i64 _, .int .i64 _, .slice _ _ _, .slice _ _ _]) ty45 rfl rfl rfl rfl rfl rfl rfl rfl ?_
        refine W.nil ⟨Le.rfl, (((((List.Sublist.refl _).cons_cons _).cons _).cons _).cons_cons _).cons_cons _, _, (((((List.Sublist.refl _).cons_cons _).cons _).cons _).cons_cons _).cons_cons _, List.Sublist.refl _, ?_⟩
        refine WD.any [4] (by kernel_rfl) rfl ⟨⟨_, rfl, rfl, ?_⟩, trivial⟩
        refine W.store (i := 2) (vs := [.int .i64 _, .int .i64 _, .slice _ _ _, .slice _ _ _, .string _, .bool _, .int .i64 _, .int .i64 _, .slice _ _ _, .slice _ _ _]) (L' := [.int .i64 _, .int .i64 _, .slice _ _ _, .slice _ _ _, .string _, .bool _, .int .i64 _, .int .i64 _, .slice _ _ _, .slice _ _ _]) ty45 rfl rfl rfl rfl rfl rfl rfl rfl ?_
        refine W.nil ⟨Le.rfl, (((((List.Sublist.refl _).cons_cons _).cons _).cons _).cons_cons _).cons_cons _, _, (((((List.Sublist.refl _).cons_cons _).cons _).cons _).cons_cons _).cons_cons _, List.Sublist.refl _, ?_⟩
        refine WD.take 5 rfl rfl rfl (by kernel_rfl) (by kernel_rfl) (by kernel_rfl) (ok_as) ?_
        refine WD.take 6 rfl rfl rfl (by kernel_rfl) (by kernel_rfl) (by kernel_rfl) (ok_as) ?_
        refine WD.done (by kernel_rfl) (thn_n ?_)
        refine WC.ret ?_
        refine ⟨.inr rfl, [_, _, _, _], ⟨⟨_, _, _, _, _, rfl, nthM_mem (i := 3) rfl, ty45, (by simp), rfl, rfl⟩, ⟨_, _, _, _, _, rfl, nthM_mem (i := 2) rfl, ty45, (by simp), rfl, rfl⟩, rfl, rfl, trivial⟩, [], List.nil_sublist _, ?_⟩
        refine ⟨rfl, _, (cleave_lt p17 (by omega)).symm, _, _, rfl, ?_, ?_⟩
        · exact ⟨_, _, _, _, _, _, _, _, rfl, (hp_n.mono (hG671.trans hG682)), (hk_n.mono (hG671.trans hG682)), (hm_n.mono (hG671.trans hG682)), (hc672.mono hG682), ⟨hok_n.1, hok_n.2.1, hi, hok_n.2.2.2⟩⟩
        · exact ⟨_, _, _, _, _, _, _, _, rfl, (hp_n.mono (hG671.trans hG682)), (hk_n.mono (hG671.trans hG682)), (hm_n.mono (hG671.trans hG682)), hc683, ⟨hi, hok_n.2⟩⟩
    · have p17 := of_decide_eq_false h17
      refine WC.seq ?_
      refine WC.seq ?_
      refine WC.region ?_
      refine W.ok (ok_fieldB fd45_3 rfl) ?_
      refine W.ok (ok_loadB (i := 4) (vs := [.slice _ _ _]) ty26 rfl rfl rfl rfl (by simp)) ?_
      refine W.ok (ok_len sl26 hk_n rfl) ?_
      refine W.ok (ok_lss rfl rfl) ?_
      refine W.mv ?_
      refine W.sp 64 rfl (fun h63 => ?_) (fun h63 => ?_)
      · have p63 := of_decide_eq_true h63
        refine W.no (dj := 64) rfl rfl h63 ?_
        refine W.no (dj := 64) rfl rfl h63 ?_
        refine W.no (dj := 64) rfl rfl h63 ?_
        refine W.no (dj := 64) rfl rfl h63 ?_
        refine W.no (dj := 64) rfl rfl h63 ?_
        refine W.no (dj := 64) rfl rfl h63 ?_
        refine W.ok (ok_pick_t rfl h63) ?_
        refine W.nil (thn_n ?_)
        refine WC.cond_t rfl rfl ?_
        refine WC.seq ?_
        refine WC.region ?_
        refine W.ok (ok_build (L := [.int .i64 _, .int .i64 _, .slice _ _ _, .slice _ _ _, .string _, .bool _, .int .i64 _, .int .i64 _, .slice _ _ _, .slice _ _ _]) pl45 zr45 rfl rfl rfl) ?_
        refine W.ok (ok_build (L := [.int .i64 _, .int .i64 _, .slice _ _ _, .slice _ _ _, .string _, .bool _, .int .i64 _, .int .i64 _, .slice _ _ _, .slice _ _ _]) pl45 zr45 rfl rfl rfl) ?_
        refine W.store (i := 3) (vs := [.int .i64 _, .int .i64 _, .slice _ _ _, .slice _ _ _, .string _, .bool _, .int .i64 _, .int .i64 _, .slice _ _ _, .slice _ _ _]) (L' := [.int .i64 _, .int .i64 _, .slice _ _ _, .slice _ _ _, .string _, .bool _, .int .i64 _, .int .i64 _, .slice _ _ _, .slice _ _ _]) ty45 rfl rfl rfl rfl rfl rfl rfl rfl ?_
        refine W.store (i := 2) (vs := [.int .i64 _, .int .i64 _, .slice _ _ _, .slice _ _ _, .string _, .bool _, .int .i64 _, .int .i64 _, .slice _ _ _, .slice _ _ _]) (L' := [.int .i64 _, .int .i64 _, .slice _ _ _, .slice _ _ _, .string _, .bool _, .int .i64 _, .int .i64 _, .slice _ _ _, .slice _ _ _]) ty45 rfl rfl rfl rfl rfl rfl rfl rfl ?_
        refine W.as ?_
        refine W.as ?_
        refine W.nil (thn_n ?_)
        refine WC.ret (thn_r (thn_r ?_))
        refine ⟨.inr rfl, [_, _, _, _], ⟨⟨_, _, _, _, _, rfl, nthM_mem (i := 3) rfl, ty45, (by simp), rfl, rfl⟩, ⟨_, _, _, _, _, rfl, nthM_mem (i := 2) rfl, ty45, (by simp), rfl, rfl⟩, rfl, rfl, trivial⟩, [], List.nil_sublist _, ?_⟩
        refine ⟨rfl, _, (cleave_if p17 (by omega)).symm, _, _, rfl, ?_, ?_⟩
        · exact ⟨_, _, _, _, _, _, _, _, rfl, SlR.nil, SlR.nil, SlR.nil, SlR.nil, Nd.zero_ok⟩
        · exact ⟨_, _, _, _, _, _, _, _, rfl, SlR.nil, SlR.nil, SlR.nil, SlR.nil, Nd.zero_ok⟩
      · have p63 := of_decide_eq_false h63
        refine W.yes (dj := 64) rfl rfl h63 ?_
        refine W.ok (ok_fieldB fd45_2 rfl) ?_
        refine W.yes (dj := 64) rfl rfl h63 ?_
        refine W.ok (ok_loadB (i := 4) (vs := [.slice _ _ _]) ty25 rfl rfl rfl rfl (by simp)) ?_
        refine W.yes (dj := 64) rfl rfl h63 ?_
        refine W.ok (ok_fieldB fd45_3 rfl) ?_
        refine W.yes (dj := 64) rfl rfl h63 ?_
        refine W.ok (ok_loadB (i := 4) (vs := [.slice _ _ _]) ty26 rfl rfl rfl rfl (by simp)) ?_
        refine W.yes (dj := 64) rfl rfl h63 ?_
        refine W.qcall (rright_fc hp_n hk_n) rfl ?_
        refine W.yes (dj := 64) rfl rfl h63 ?_
        refine W.ok (ok_not rfl) ?_
        refine W.ok (ok_pick_f rfl h63) ?_
        refine W.nil (thn_n ?_)
        refine WC.cond (b := _) rfl (fun h70 => ?_) (fun h70 => ?_)
        · refine WC.seq ?_
          refine WC.region ?_
          refine W.ok (ok_build (L := [.int .i64 _, .int .i64 _, .slice _ _ _, .slice _ _ _, .string _, .bool _, .int .i64 _, .int .i64 _, .slice _ _ _, .slice _ _ _]) pl45 zr45 rfl rfl rfl) ?_
          refine W.ok (ok_build (L := [.int .i64 _, .int .i64 _, .slice _ _ _, .slice _ _ _, .string _, .bool _, .int .i64 _, .int .i64 _, .slice _ _ _, .slice _ _ _]) pl45 zr45 rfl rfl rfl) ?_
          refine W.store (i := 3) (vs := [.int .i64 _, .int .i64 _, .slice _ _ _, .slice _ _ _, .string _, .bool _, .int .i64 _, .int .i64 _, .slice _ _ _, .slice _ _ _]) (L' := [.int .i64 _, .int .i64 _, .slice _ _ _, .slice _ _ _, .string _, .bool _, .int .i64 _, .int .i64 _, .slice _ _ _, .slice _ _ _]) ty45 rfl rfl rfl rfl rfl rfl rfl rfl ?_
          refine W.store (i := 2) (vs := [.int .i64 _, .int .i64 _, .slice _ _ _, .slice _ _ _, .string _, .bool _, .int .i64 _, .int .i64 _, .slice _ _ _, .slice _ _ _]) (L' := [.int .i64 _, .int .i64 _, .slice _ _ _, .slice _ _ _, .string _, .bool _, .int .i64 _, .int .i64 _, .slice _ _ _, .slice _ _ _]) ty45 rfl rfl rfl rfl rfl rfl rfl rfl ?_
          refine W.as ?_
          refine W.as ?_
          refine W.nil (thn_n ?_)
          refine WC.ret (thn_r (thn_r ?_))
          refine ⟨.inr rfl, [_, _, _, _], ⟨⟨_, _, _, _, _, rfl, nthM_mem (i := 3) rfl, ty45, (by simp), rfl, rfl⟩, ⟨_, _, _, _, _, rfl, nthM_mem (i := 2) rfl, ty45, (by simp), rfl, rfl⟩, rfl, rfl, trivial⟩, [], List.nil_sublist _, ?_⟩
          refine ⟨rfl, _, (cleave_if p17 (.inr (by simpa using h70))).symm, _, _, rfl, ?_, ?_⟩
          · exact ⟨_, _, _, _, _, _, _, _, rfl, SlR.nil, SlR.nil, SlR.nil, SlR.nil, Nd.zero_ok⟩
          · exact ⟨_, _, _, _, _, _, _, _, rfl, SlR.nil, SlR.nil, SlR.nil, SlR.nil, Nd.zero_ok⟩
        · have hri : rightN n.pivots n.kids.length = true := by simpa using h70
          have hcl := (rightN_spec hri).2
          refine WC.skip (thn_n ?_)
          refine WC.seq ?_
          refine WC.region ?_
          refine W.ok (ok_fieldB fd45_3 rfl) ?_
          refine W.ok (ok_loadB (i := 4) (vs := [.slice _ _ _]) ty26 rfl rfl rfl rfl (by simp)) ?_
          refine W.ok (ok_len sl26 hk_n rfl) ?_
          refine W.ok (ok_add rfl rfl (by omega)) ?_
          refine W.ok (Ok.int (n := ((((n.kids.length + 1) / 2) : Nat) : Int)) (ok_quo' rfl rfl (by omega) (by omega) (by omega)) (by omega)) ?_
          refine W.as ?_
          refine W.nil (thn_n ?_)
          refine WC.seq ?_
          refine WC.region ?_
          refine W.ok (ok_fieldB fd45_2 rfl) ?_
          refine W.ok (ok_loadB (i := 4) (vs := [.slice _ _ _]) ty25 rfl rfl rfl rfl (by simp)) ?_
          refine W.mv ?_
          refine W.ok (Ok.int (n := ((((n.kids.length + 1) / 2) - 1 : Nat) : Int)) (ok_sub rfl rfl (by omega)) (by omega)) ?_
          have q688 := hp_n.at (i := ((n.kids.length + 1) / 2) - 1) (by omega)
          refine match q688 with | ⟨_, he686, e_687⟩ => ?_
          subst e_687
          refine W.ok (ok_indexAddr (i := ((n.kids.length + 1) / 2) - 1) sl25 ty9 hp_n rfl rfl ⟨by omega, by omega⟩) ?_
          refine W.ok (ok_loadE (vs := [.string _]) ty9 he686 rfl rfl rfl (by simp)) ?_
          refine W.as ?_
          refine W.nil (thn_n ?_)
          refine WC.seq ?_
          refine WC.drawW _ ((((((List.Sublist.refl _).cons_cons _).cons_cons _).cons_cons _).cons _).cons_cons _) mix (by rintro _ _ _ _ ⟨h | h, _⟩ <;> cases h) ?_
          refine WD.take 0 rfl rfl rfl (by kernel_rfl) (by kernel_rfl) (by kernel_rfl) (ok_fieldB fd45_2 rfl) ?_
          refine WD.take 1 rfl rfl rfl (by kernel_rfl) (by kernel_rfl) (by kernel_rfl) (ok_loadB (i := 3) (vs := [.slice _ _ _]) ty25 rfl rfl rfl rfl (by simp)) ?_
          refine WD.take 2 rfl rfl rfl (by kernel_rfl) (by kernel_rfl) (by kernel_rfl) (ok_mv) ?_
          refine WD.take 3 rfl rfl rfl (by kernel_rfl) (by kernel_rfl) (by kernel_rfl) (Ok.int (n := ((((n.kids.length + 1) / 2) - 1 : Nat) : Int)) (ok_sub rfl rfl (by omega)) (by omega)) ?_
          refine WD.take 5 rfl rfl rfl (by kernel_rfl) (by kernel_rfl) (by kernel_rfl) (ok_fieldB fd45_3 rfl) ?_
          refine WD.take 6 rfl rfl rfl (by kernel_rfl) (by kernel_rfl) (by kernel_rfl) (ok_loadB (i := 3) (vs := [.slice _ _ _]) ty26 rfl rfl rfl rfl (by simp)) ?_
          refine WD.take 7 rfl rfl rfl (by kernel_rfl) (by kernel_rfl) (by kernel_rfl) (ok_mv) ?_
          refine WD.any [4] (by kernel_rfl) rfl ⟨⟨_, rfl, rfl, ?_⟩, trivial⟩
          refine W.call (Mp := []) (cut_fc hp_n 0 _ ⟨by omega, by omega⟩) rfl (List.Perm.refl _) ?_
          intro _ G689 _ hG689 q691
          refine match q691 with | ⟨e_692, _, e_693, hv690⟩ => ?_
          subst e_692
          subst e_693
          have hc694 := SlR.cast hv690 (l' := n.pivots.take (((n.kids.length + 1) / 2) - 1)) (by simp)
          have q696 := hc694.form
          refine match q696 with | ⟨_, _, e_695⟩ => ?_
          subst e_695
          refine W.nil ⟨hG689, (((((List.Sublist.refl _).cons_cons _).cons_cons _).cons_cons _).cons _).cons_cons _, _, (((((List.Sublist.refl _).cons_cons _).cons_cons _).cons_cons _).cons _).cons_cons _, List.Sublist.refl _, ?_⟩
          refine WD.take 9 rfl rfl rfl (by kernel_rfl) (by kernel_rfl) (by kernel_rfl) (ok_fieldB fd45_2 rfl) ?_
          refine WD.any [8] (by kernel_rfl) rfl ⟨⟨_, rfl, rfl, ?_⟩, trivial⟩
          refine W.call (Mp := []) (part_fc (hk_n.mono hG689) 0 _ ⟨by omega, by omega⟩) rfl (List.Perm.refl _) ?_
          intro _ G697 _ hG697 q699
          refine match q699 with | ⟨e_700, _, e_701, hv698⟩ => ?_
          subst e_700
          subst e_701
          have hc702 := SlR.cast hv698 (l' := n.kids.take ((n.kids.length + 1) / 2)) (by simp)
          have q704 := hc702.form
          refine match q704 with | ⟨_, _, e_703⟩ => ?_
          subst e_703
          refine W.nil ⟨hG697, (((((List.Sublist.refl _).cons_cons _).cons_cons _).cons_cons _).cons _).cons_cons _, _, (((((List.Sublist.refl _).cons_cons _).cons_cons _).cons_cons _).cons _).cons_cons _, List.Sublist.refl _, ?_⟩
          refine WD.any [10] (by kernel_rfl) rfl ⟨⟨_, rfl, rfl, ?_⟩, trivial⟩
          refine W.store (i := 1) (vs := [.slice _ _ _]) (L' := [.int .i64 _, .int .i64 _, .slice _ _ _, .slice _ _ _, .string _, .bool _, .int .i64 _, .int .i64 _, .slice _ _ _, .slice _ _ _]) ty25 rfl rfl rfl rfl rfl rfl rfl rfl ?_
          refine W.nil ⟨Le.rfl, (((((List.Sublist.refl _).cons_cons _).cons_cons _).cons_cons _).cons _).cons_cons _, _, (((((List.Sublist.refl _).cons_cons _).cons_cons _).cons_cons _).cons _).cons_cons _, List.Sublist.refl _, ?_⟩
          refine WD.take 11 rfl rfl rfl (by kernel_rfl) (by kernel_rfl) (by kernel_rfl) (ok_fieldB fd45_3 rfl) ?_
          refine WD.any [12] (by kernel_rfl) rfl ⟨⟨_, rfl, rfl, ?_⟩, trivial⟩
          refine W.store (i := 1) (vs := [.slice _ _ _]) (L' := [.int .i64 _, .int .i64 _, .slice _ _ _, .slice _ _ _, .string _, .bool _, .int .i64 _, .int .i64 _, .slice _ _ _, .slice _ _ _]) ty26 rfl rfl rfl rfl rfl rfl rfl rfl ?_
          refine W.nil ⟨Le.rfl, (((((List.Sublist.refl _).cons_cons _).cons_cons _).cons_cons _).cons _).cons_cons _, _, (((((List.Sublist.refl _).cons_cons _).cons_cons _).cons_cons _).cons _).cons_cons _, List.Sublist.refl _, ?_⟩
          refine WD.done (by kernel_rfl) (thn_n ?_)
          refine WC.seq ?_
          refine WC.drawW _ ((((((List.Sublist.refl _).cons_cons _).cons_cons _).cons_cons _).cons_cons _).cons _) mix (by rintro _ _ _ _ ⟨h | h, _⟩ <;> cases h) ?_
          refine WD.take 0 rfl rfl rfl (by kernel_rfl) (by kernel_rfl) (by kernel_rfl) (ok_fieldB fd45_2 rfl) ?_
          refine WD.take 1 rfl rfl rfl (by kernel_rfl) (by kernel_rfl) (by kernel_rfl) (ok_loadB (i := 3) (vs := [.slice _ _ _]) ty25 rfl rfl rfl rfl (by simp)) ?_
          refine WD.take 2 rfl rfl rfl (by kernel_rfl) (by kernel_rfl) (by kernel_rfl) (ok_mv) ?_
          refine WD.take 3 rfl rfl rfl (by kernel_rfl) (by kernel_rfl) (by kernel_rfl) (ok_fieldB fd45_2 rfl) ?_
          refine WD.take 4 rfl rfl rfl (by kernel_rfl) (by kernel_rfl) (by kernel_rfl) (ok_loadB (i := 3) (vs := [.slice _ _ _]) ty25 rfl rfl rfl rfl (by simp)) ?_
          refine WD.take 5 rfl rfl rfl (by kernel_rfl) (by kernel_rfl) (by kernel_rfl) (ok_len sl25 (hp_n.mono (hG689.trans hG697)) rfl) ?_
          refine WD.take 7 rfl rfl rfl (by kernel_rfl) (by kernel_rfl) (by kernel_rfl) (ok_fieldB fd45_3 rfl) ?_
          refine WD.take 8 rfl rfl rfl (by kernel_rfl) (by kernel_rfl) (by kernel_rfl) (ok_loadB (i := 3) (vs := [.slice _ _ _]) ty26 rfl rfl rfl rfl (by simp)) ?_
          refine WD.take 9 rfl rfl rfl (by kernel_rfl) (by kernel_rfl) (by kernel_rfl) (ok_mv) ?_
          refine WD.take 10 rfl rfl rfl (by kernel_rfl) (by kernel_rfl) (by kernel_rfl) (ok_fieldB fd45_3 rfl) ?_
          refine WD.take 11 rfl rfl rfl (by kernel_rfl) (by kernel_rfl) (by kernel_rfl) (ok_loadB (i := 3) (vs := [.slice _ _ _]) ty26 rfl rfl rfl rfl (by simp)) ?_
          refine WD.take 12 rfl rfl rfl (by kernel_rfl) (by kernel_rfl) (by kernel_rfl) (ok_len sl26 (hk_n.mono (hG689.trans hG697)) rfl) ?_
          refine WD.any [6] (by kernel_rfl) rfl ⟨⟨_, rfl, rfl, ?_⟩, trivial⟩
          refine W.call (Mp := []) (cut_fc (hp_n.mono (hG689.trans hG697)) _ _ ⟨by omega, by omega⟩) rfl (List.Perm.refl _) ?_
          intro _ G705 _ hG705 q707
          refine match q707 with | ⟨e_708, _, e_709, hv706⟩ => ?_
          subst e_708
          subst e_709
          have hc710 := SlR.cast hv706 (l' := n.pivots.drop ((n.kids.length + 1) / 2)) (by simp)
          have q712 := hc710.form
          refine match q712 with | ⟨_, _, e_711⟩ => ?_
          subst e_711
          refine W.nil ⟨hG705, (((((List.Sublist.refl _).cons_cons _).cons_cons _).cons_cons _).cons_cons _).cons _, _, (((((List.Sublist.refl _).cons_cons _).cons_cons _).cons_cons _).cons_cons _).cons _, List.Sublist.refl _, ?_⟩
          refine WD.take 14 rfl rfl rfl (by kernel_rfl) (by kernel_rfl) (by kernel_rfl) (ok_fieldB fd45_2 rfl) ?_
          refine WD.any [13] (by kernel_rfl) rfl ⟨⟨_, rfl, rfl, ?_⟩, trivial⟩
          refine W.call (Mp := []) (part_fc (hk_n.mono ((hG689.trans hG697).trans hG705)) _ _ ⟨by omega, by omega⟩) rfl (List.Perm.refl _) ?_
          intro _ G713 _ hG713 q715
          refine match q715 with | ⟨e_716, _, e_717, hv714⟩ => ?_
          subst e_716
          subst e_717
          have hc718 := SlR.cast hv714 (l' := n.kids.drop ((n.kids.length + 1) / 2)) (by simp)
          have q720 := hc718.form
          refine match q720 with | ⟨_, _, e_719⟩ => ?_
          subst e_719
          refine W.nil ⟨hG713, (((((List.Sublist.refl _).cons_cons _).cons_cons _).cons_cons _).cons_cons _).cons _, _, (((((List.Sublist.refl _).cons_cons _).cons_cons _).cons_cons _).cons_cons _).cons _, List.Sublist.refl _, ?_⟩
          refine WD.any [15] (by kernel_rfl) rfl ⟨⟨_, rfl, rfl, ?_⟩, trivial⟩
          refine W.store (i := 0) (vs := [.slice _ _ _]) (L' := [.int .i64 _, .int .i64 _, .slice _ _ _, .slice _ _ _, .string _, .bool _, .int .i64 _, .int .i64 _, .slice _ _ _, .slice _ _ _]) ty25 rfl rfl rfl rfl rfl rfl rfl rfl ?_
          refine W.nil ⟨Le.rfl, (((((List.Sublist.refl _).cons_cons _).cons_cons _).cons_cons _).cons_cons _).cons _, _, (((((List.Sublist.refl _).cons_cons _).cons_cons _).cons_cons _).cons_cons _).cons _, List.Sublist.refl _, ?_⟩
          refine WD.take 16 rfl rfl rfl (by kernel_rfl) (by kernel_rfl) (by kernel_rfl) (ok_fieldB fd45_3 rfl) ?_
          refine WD.any [17] (by kernel_rfl) rfl ⟨⟨_, rfl, rfl, ?_⟩, trivial⟩
          refine W.store (i := 0) (vs := [.slice _ _ _]) (L' := [.int .i64 _, .int .i64 _, .slice _ _ _, .slice _ _ _, .string _, .bool _, .int .i64 _, .int .i64 _, .slice _ _ _, .slice _ _ _]) ty26 rfl rfl rfl rfl rfl rfl rfl rfl ?_
          refine W.nil ⟨Le.rfl, (((((List.Sublist.refl _).cons_cons _).cons_cons _).cons_cons _).cons_cons _).cons _, _, (((((List.Sublist.refl _).cons_cons _).cons_cons _).cons_cons _).cons_cons _).cons _, List.Sublist.refl _, ?_⟩
          refine WD.done (by kernel_rfl) (thn_n ?_)
          refine WC.seq ?_
          refine WC.region ?_
          refine W.ok (ok_fieldB fd45_8 rfl) ?_
          refine W.ok (ok_loadB (i := 4) (vs := [.slice _ _ _]) ty43 rfl rfl rfl rfl (by simp)) ?_
          refine W.mv ?_
          refine W.ok (ok_build (L := [.string _, .string _, .bool _]) pl32 zr32 rfl rfl rfl) ?_
          refine W.call (Mp := []) (rclips_fc (hm_n.mono (((hG689.trans hG697).trans hG705).trans hG713)) Str.nil _ _ (by assumption)) rfl (List.Perm.refl _) ?_
          intro _ G721 _ hG721 q723
          refine match q723 with | ⟨e_724, _, e_725, hv722⟩ => ?_
          subst e_724
          subst e_725
          have q727 := hv722.form
          refine match q727 with | ⟨_, _, e_726⟩ => ?_
          subst e_726
          refine W.ok (ok_fieldB fd45_8 rfl) ?_
          refine W.store (i := 1) (vs := [.slice _ _ _]) (L' := [.int .i64 _, .int .i64 _, .slice _ _ _, .slice _ _ _, .string _, .bool _, .int .i64 _, .int .i64 _, .slice _ _ _, .slice _ _ _]) ty43 rfl rfl rfl rfl rfl rfl rfl rfl ?_
          refine W.nil (thn_n ?_)
          refine WC.region ?_
          refine W.ok (ok_fieldB fd45_8 rfl) ?_
          refine W.ok (ok_loadB (i := 4) (vs := [.slice _ _ _]) ty43 rfl rfl rfl rfl (by simp)) ?_
          refine W.mv ?_
          refine W.ok (ok_build (L := [.string _, .string _, .bool _]) pl32 zr32 rfl rfl rfl) ?_
          refine W.call (Mp := []) (rclips_fc (hm_n.mono ((((hG689.trans hG697).trans hG705).trans hG713).trans hG721)) _ Str.nil _ (by assumption)) rfl (List.Perm.refl _) ?_
          intro _ G728 _ hG728 q730
          refine match q730 with | ⟨e_731, _, e_732, hv729⟩ => ?_
          subst e_731
          subst e_732
          have q734 := hv729.form
          refine match q734 with | ⟨_, _, e_733⟩ => ?_
          subst e_733
          refine W.ok (ok_fieldB fd45_8 rfl) ?_
          refine W.store (i := 0) (vs := [.slice _ _ _]) (L' := [.int .i64 _, .int .i64 _, .slice _ _ _, .slice _ _ _, .string _, .bool _, .int .i64 _, .int .i64 _, .slice _ _ _, .slice _ _ _]) ty43 rfl rfl rfl rfl rfl rfl rfl rfl ?_
          refine W.nil (thn_n ?_)
          refine WC.seq ?_
          refine WC.region ?_
          refine W.mv ?_
          refine W.ok (ok_fieldB fd45_4 rfl) ?_
          refine W.store (i := 1) (vs := [.string _]) (L' := [.int .i64 _, .int .i64 _, .slice _ _ _, .slice _ _ _, .string _, .bool _, .int .i64 _, .int .i64 _, .slice _ _ _, .slice _ _ _]) ty9 rfl rfl rfl rfl rfl rfl rfl rfl ?_
          refine W.nil (thn_n ?_)
          refine WC.seq ?_
          refine WC.region ?_
          refine W.ok (ok_fieldB fd45_5 rfl) ?_
          refine W.store (i := 1) (vs := [.bool _]) (L' := [.int .i64 _, .int .i64 _, .slice _ _ _, .slice _ _ _, .string _, .bool _, .int .i64 _, .int .i64 _, .slice _ _ _, .slice _ _ _]) ty4 rfl rfl rfl rfl rfl rfl rfl rfl ?_
          refine W.nil (thn_n ?_)
          refine WC.seq ?_
          refine WC.region ?_
          refine W.mv ?_
          refine W.ok (ok_fieldB fd45_6 rfl) ?_
          refine W.store (i := 1) (vs := [.int .i64 _]) (L' := [.int .i64 _, .int .i64 _, .slice _ _ _, .slice _ _ _, .string _, .bool _, .int .i64 _, .int .i64 _, .slice _ _ _, .slice _ _ _]) ty3 rfl rfl rfl rfl rfl rfl rfl rfl ?_
          refine W.nil (thn_n ?_)
          refine WC.seq ?_
          refine WC.region ?_
          refine W.mv ?_
          refine W.ok (ok_fieldB fd45_0 rfl) ?_
          refine W.store (i := 0) (vs := [.int .i64 _]) (L' := [.int .i64 _, .int .i64 _, .slice _ _ _, .slice _ _ _, .string _, .bool _, .int .i64 _, .int .i64 _, .slice _ _ _, .slice _ _ _]) ty3 rfl rfl rfl rfl rfl rfl rfl rfl ?_
          refine W.nil (thn_n ?_)
          refine WC.seq ?_
          refine WC.drawW _ ((((((List.Sublist.refl _).cons_cons _).cons _).cons _).cons_cons _).cons_cons _) mix (by rintro _ _ _ _ ⟨h | h, _⟩ <;> cases h) ?_
          refine WD.take 0 rfl rfl rfl (by kernel_rfl) (by kernel_rfl) (by kernel_rfl) (ok_loadB (i := 1) (vs := [.int .i64 _, .int .i64 _, .slice _ _ _, .slice _ _ _, .string _, .bool _, .int .i64 _, .int .i64 _, .slice _ _ _, .slice _ _ _]) ty45 rfl rfl rfl rfl (by simp)) ?_
          refine WD.take 1 rfl rfl rfl (by kernel_rfl) (by kernel_rfl) (by kernel_rfl) (ok_loadB (i := 0) (vs := [.int .i64 _, .int .i64 _, .slice _ _ _, .slice _ _ _, .string _, .bool _, .int .i64 _, .int .i64 _, .slice _ _ _, .slice _ _ _]) ty45 rfl rfl rfl rfl (by simp)) ?_
          refine WD.take 2 rfl rfl rfl (by kernel_rfl) (by kernel_rfl) (by kernel_rfl) (ok_mv) ?_
          refine WD.any [3] (by kernel_rfl) rfl ⟨⟨_, rfl, rfl, ?_⟩, trivial⟩
          refine W.store (i := 3) (vs := [.int .i64 _, .int .i64 _, .slice _ _ _, .slice _ _ _, .string _, .bool _, .int .i64 _, .int .i64 _, .slice _ _ _, .slice _ _ _]) (L' := [.int .i64 _, .int .i64 _, .slice _ _ _, .slice _ _ _, .string _, .bool _, .int .i64 _, .int .i64 _, .slice _ _ _, .slice _ _ _]) ty45 rfl rfl rfl rfl rfl rfl rfl rfl ?_
          refine W.nil ⟨Le.rfl, (((((List.Sublist.refl _).cons_cons _).cons _).cons _).cons_cons _).cons_cons _, _, (((((List.Sublist.refl _).cons_cons _).cons _).cons _).cons_cons _).cons_cons _, List.Sublist.refl _, ?_⟩
          refine WD.any [4] (by kernel_rfl) rfl ⟨⟨_, rfl, rfl, ?_⟩, trivial⟩
          refine W.store (i := 2) (vs := [.int .i64 _, .int .i64 _, .slice _ _ _, .slice _ _ _, .string _, .bool _, .int .i64 _, .int .i64 _, .slice _ _ _, .slice _ _ _]) (L' := [.int .i64 _, .int .i64 _, .slice _ _ _, .slice _ _ _, .string _, .bool _, .int .i64 _, .int .i64 _, .slice _ _ _, .slice _ _ _]) ty45 rfl rfl rfl rfl rfl rfl rfl rfl ?_
          refine W.nil ⟨Le.rfl, (((((List.Sublist.refl _).cons_cons _).cons _).cons _).cons_cons _).cons_cons _, _, (((((List.Sublist.refl _).cons_cons _).cons _).cons _).cons_cons _).cons_cons _, List.Sublist.refl _, ?_⟩
          refine WD.take 5 rfl rfl rfl (by kernel_rfl) (by kernel_rfl) (by kernel_rfl) (ok_as) ?_
          refine WD.take 6 rfl rfl rfl (by kernel_rfl) (by kernel_rfl) (by kernel_rfl) (ok_as) ?_
          refine WD.done (by kernel_rfl) (thn_n ?_)
          refine WC.ret ?_
          refine ⟨.inr rfl, [_, _, _, _], ⟨⟨_, _, _, _, _, rfl, nthM_mem (i := 3) rfl, ty45, (by simp), rfl, rfl⟩, ⟨_, _, _, _, _, rfl, nthM_mem (i := 2) rfl, ty45, (by simp), rfl, rfl⟩, rfl, rfl, trivial⟩, [], List.nil_sublist _, ?_⟩
          refine ⟨rfl, _, (cleave_it p17 (by omega) hri hcl).symm, _, _, rfl, ?_, ?_⟩
          · exact ⟨_, _, _, _, _, _, _, _, rfl, (hc694.mono ((((hG697.trans hG705).trans hG713).trans hG721).trans hG728)), (hc702.mono (((hG705.trans hG713).trans hG721).trans hG728)), (hv722.mono hG728), (hr_n.mono (((((hG689.trans hG697).trans hG705).trans hG713).trans hG721).trans hG728)), ⟨hok_n.1, hok_n.2.1, hi, hok_n.2.2.2⟩⟩
          · exact ⟨_, _, _, _, _, _, _, _, rfl, (hc710.mono ((hG713.trans hG721).trans hG728)), (hc718.mono (hG721.trans hG728)), hv729, (hr_n.mono (((((hG689.trans hG697).trans hG705).trans hG713).trans hG721).trans hG728)), ⟨hi, hok_n.2⟩⟩
  · refine W.alloc zr45 (fun b735 => ?_)
    refine W.nil ⟨Le.rfl, ((((List.Sublist.refl _).cons_cons _).cons_cons _).cons_cons _).cons _, _, ((((List.Sublist.refl _).cons_cons _).cons_cons _).cons_cons _).cons _, List.Sublist.refl _, ?_⟩
    refine WD.any [2] (by kernel_rfl) rfl ⟨⟨_, rfl, rfl, ?_⟩, trivial⟩
    refine W.alloc zr45 (fun b736 => ?_)
    refine W.nil ⟨Le.rfl, (((((List.Sublist.refl _).cons_cons _).cons_cons _).cons_cons _).cons _).cons _, _, (((((List.Sublist.refl _).cons_cons _).cons_cons _).cons_cons _).cons _).cons _, List.Sublist.refl _, ?_⟩
    refine WD.any [4] (by kernel_rfl) rfl ⟨⟨_, rfl, rfl, ?_⟩, trivial⟩
    refine W.store (i := 0) (vs := [.int .i64 _, .int .i64 _, .slice _ _ _, .slice _ _ _, .string _, .bool _, .int .i64 _, .int .i64 _, .slice _ _ _, .slice _ _ _]) (L' := [.int .i64 _, .int .i64 _, .slice _ _ _, .slice _ _ _, .string _, .bool _, .int .i64 _, .int .i64 _, .slice _ _ _, .slice _ _ _]) ty45 rfl rfl rfl rfl rfl rfl rfl rfl ?_
    refine W.nil ⟨Le.rfl, (((((List.Sublist.refl _).cons_cons _).cons_cons _).cons_cons _).cons _).cons _, _, (((((List.Sublist.refl _).cons_cons _).cons_cons _).cons_cons _).cons _).cons _, List.Sublist.refl _, ?_⟩
    refine WD.any [5] (by kernel_rfl) rfl ⟨⟨_, rfl, rfl, ?_⟩, trivial⟩
    refine W.store (i := 1) (vs := [.int .i64 _, .int .i64 _, .slice _ _ _, .slice _ _ _, .string _, .bool _, .int .i64 _, .int .i64 _, .slice _ _ _, .slice _ _ _]) (L' := [.int .i64 _, .int .i64 _, .slice _ _ _, .slice _ _ _, .string _, .bool _, .int .i64 _, .int .i64 _, .slice _ _ _, .slice _ _ _]) ty45 rfl rfl rfl rfl rfl rfl rfl rfl ?_
    refine W.nil ⟨Le.rfl, (((((List.Sublist.refl _).cons_cons _).cons_cons _).cons_cons _).cons _).cons _, _, (((((List.Sublist.refl _).cons_cons _).cons_cons _).cons_cons _).cons _).cons _, List.Sublist.refl _, ?_⟩
    refine WD.take 6 rfl rfl rfl (by kernel_rfl) (by kernel_rfl) (by kernel_rfl) (ok_as) ?_
    refine WD.done (by kernel_rfl) (thn_n ?_)
    refine WC.seq ?_
    refine WC.seq ?_
    refine WC.region ?_
    refine W.ok (ok_fieldB fd45_1 rfl) ?_
    refine W.ok (ok_loadB (i := 4) (vs := [.int .i64 _]) ty3 rfl rfl rfl rfl (by simp)) ?_
    refine W.ok (ok_eql rfl rfl) ?_
    refine W.nil (thn_n ?_)
    refine WC.cond (b := _) rfl (fun h17 => ?_) (fun h17 => ?_)
    · have p17 := of_decide_eq_true h17
      refine WC.seq ?_
      refine WC.seq ?_
      refine WC.region ?_
      refine W.ok (ok_fieldB fd45_9 rfl) ?_
      refine W.ok (ok_loadB (i := 4) (vs := [.slice _ _ _]) ty42 rfl rfl rfl rfl (by simp)) ?_
      refine W.ok (ok_len sl42 hr_n rfl) ?_
      refine W.ok (ok_lss rfl rfl) ?_
      refine W.nil (thn_n ?_)
      refine WC.cond (b := _) rfl (fun h21 => ?_) (fun h21 => ?_)
      · have p21 := of_decide_eq_true h21
        refine WC.seq ?_
        refine WC.region ?_
        refine W.ok (ok_build (L := [.int .i64 _, .int .i64 _, .slice _ _ _, .slice _ _ _, .string _, .bool _, .int .i64 _, .int .i64 _, .slice _ _ _, .slice _ _ _]) pl45 zr45 rfl rfl rfl) ?_
        refine W.ok (ok_build (L := [.int .i64 _, .int .i64 _, .slice _ _ _, .slice _ _ _, .string _, .bool _, .int .i64 _, .int .i64 _, .slice _ _ _, .slice _ _ _]) pl45 zr45 rfl rfl rfl) ?_
        refine W.store (i := 3) (vs := [.int .i64 _, .int .i64 _, .slice _ _ _, .slice _ _ _, .string _, .bool _, .int .i64 _, .int .i64 _, .slice _ _ _, .slice _ _ _]) (L' := [.int .i64 _, .int .i64 _, .slice _ _ _, .slice _ _ _, .string _, .bool _, .int .i64 _, .int .i64 _, .slice _ _ _, .slice _ _ _]) ty45 rfl rfl rfl rfl rfl rfl rfl rfl ?_
        refine W.store (i := 2) (vs := [.int .i64 _, .int .i64 _, .slice _ _ _, .slice _ _ _, .string _, .bool _, .int .i64 _, .int .i64 _, .slice _ _ _, .slice _ _ _]) (L' := [.int .i64 _, .int .i64 _, .slice _ _ _, .slice _ _ _, .string _, .bool _, .int .i64 _, .int .i64 _, .slice _ _ _, .slice _ _ _]) ty45 rfl rfl rfl rfl rfl rfl rfl rfl ?_
        refine W.as ?_
        refine W.as ?_
        refine W.nil (thn_n ?_)
        refine WC.ret (thn_r (thn_r ?_))
        refine ⟨.inr rfl, [_, _, _, _], ⟨⟨_, _, _, _, _, rfl, nthM_mem (i := 3) rfl, ty45, (by simp), rfl, rfl⟩, ⟨_, _, _, _, _, rfl, nthM_mem (i := 2) rfl, ty45, (by simp), rfl, rfl⟩, rfl, rfl, trivial⟩, [], List.nil_sublist _, ?_⟩
        refine ⟨rfl, _, (cleave_lf p17 (by omega)).symm, _, _, rfl, ?_, ?_⟩
        · exact ⟨_, _, _, _, _, _, _, _, rfl, SlR.nil, SlR.nil, SlR.nil, SlR.nil, Nd.zero_ok⟩
        · exact ⟨_, _, _, _, _, _, _, _, rfl, SlR.nil, SlR.nil, SlR.nil, SlR.nil, Nd.zero_ok⟩
      · have p21 := of_decide_eq_false h21
        refine WC.skip (thn_n ?_)
        refine WC.seq ?_
        refine WC.region ?_
        refine W.ok (ok_fieldB fd45_9 rfl) ?_
        refine W.ok (ok_loadB (i := 4) (vs := [.slice _ _ _]) ty42 rfl rfl rfl rfl (by simp)) ?_
        refine W.ok (ok_len sl42 hr_n rfl) ?_
        refine W.ok (ok_add rfl rfl (by omega)) ?_
        refine W.ok (Ok.int (n := ((((n.rows.length + 1) / 2) : Nat) : Int)) (ok_quo' rfl rfl (by omega) (by omega) (by omega)) (by omega)) ?_
        refine W.as ?_
        refine W.nil (thn_n ?_)
        refine WC.seq ?_
        refine WC.draw mix (by kernel_rfl) ?_
        refine W.ok (ok_fieldB fd45_9 rfl) ?_
        refine W.ok (ok_loadB (i := 4) (vs := [.slice _ _ _]) ty42 rfl rfl rfl rfl (by simp)) ?_
        refine W.mv ?_
        refine W.ok (Ok.int (n := ((((n.rows.length + 1) / 2) - 1 : Nat) : Int)) (ok_sub rfl rfl (by omega)) (by omega)) ?_
        have q739 := hr_n.at (i := ((n.rows.length + 1) / 2) - 1) (by omega)
        refine match q739 with | ⟨_, he737, e_738⟩ => ?_
        subst e_738
        refine W.ok (ok_indexAddr (i := ((n.rows.length + 1) / 2) - 1) sl42 ty127 hr_n rfl rfl ⟨by omega, by omega⟩) ?_
        refine W.ok (ok_fieldE fd127_0 rfl he737.form) ?_
        refine W.ok (ok_loadE (vs := [.string _]) ty9 he737 rfl rfl rfl (by simp)) ?_
        refine W.ok (ok_fieldB fd45_9 rfl) ?_
        refine W.ok (ok_loadB (i := 4) (vs := [.slice _ _ _]) ty42 rfl rfl rfl rfl (by simp)) ?_
        refine W.mv ?_
        have q742 := hr_n.at (i := ((n.rows.length + 1) / 2)) (by omega)
        refine match q742 with | ⟨_, he740, e_741⟩ => ?_
        subst e_741
        refine W.ok (ok_indexAddr (i := ((n.rows.length + 1) / 2)) sl42 ty127 hr_n rfl rfl ⟨by omega, by omega⟩) ?_
        refine W.ok (ok_fieldE fd127_0 rfl he740.form) ?_
        refine W.ok (ok_loadE (vs := [.string _]) ty9 he740 rfl rfl rfl (by simp)) ?_
        refine W.qcall (rbetween_fc _ _) rfl ?_
        refine W.mv ?_
        refine W.ok (ok_extract rfl rfl) ?_
        refine W.ok (ok_extract rfl rfl) ?_
        refine W.as ?_
        refine W.nil (thn_n ?_)
        refine WC.seq ?_
        refine WC.region ?_
        refine W.lit0 (e := ePair) sl42 ty127 zr127 rfl (fun v743 Ms744 ho745 => ?_)
        refine W.perm (pmC (pmC (pmC (pmC (pmC (List.Perm.refl _)))))).symm ?_
        refine W.ok (ok_fieldB fd45_9 rfl) ?_
        refine W.ok (ok_loadB (i := 4) (vs := [.slice _ _ _]) ty42 rfl rfl rfl rfl (by simp)) ?_
        refine W.mv ?_
        have hs746 := SlR.slice hr_n (lo := 0) (hi := ((n.rows.length + 1) / 2)) (by omega) (by omega)
        refine W.ok (ok_slice (0) (((n.rows.length + 1) / 2)) sl42 ty127 hr_n rfl rfl ⟨_, _, rfl, by omega⟩ ⟨by omega, by omega⟩) ?_
        refine W.app (e := ePair) sl42 ty127 zr127 rfl by127 rfl rfl (ho745) (hs746) (pmC (pmC (pmC (pmC (pmC (List.Perm.refl _)))))) (by show (0 + ((n.rows.take ((n.rows.length + 1) / 2)).drop 0).length) * 32 ≤ _; simp; omega) (fun v747 Ms748 ho749 => ?_)
        refine W.perm (pmC (pmC (pmC (pmC (pmC (List.Perm.refl _)))))).symm ?_
        refine W.ok (ok_fieldB fd45_9 rfl) ?_
        refine W.giveO ho749 (pmC (pmC (pmC (pmC (pmC (List.Perm.refl _)))))) (fun G750 hG750 hv750 => ?_)
        have hc751 := SlR.cast hv750 (l' := n.rows.take ((n.rows.length + 1) / 2)) (by simp)
        have q753 := hc751.form
        refine match q753 with | ⟨_, _, e_752⟩ => ?_
        subst e_752
        refine W.store (i := 0) (vs := [.slice _ _ _]) (L' := [.int .i64 _, .int .i64 _, .slice _ _ _, .slice _ _ _, .string _, .bool _, .int .i64 _, .int .i64 _, .slice _ _ _, .slice _ _ _]) ty42 rfl rfl rfl rfl rfl rfl rfl rfl ?_
        refine W.nil (thn_n ?_)
        refine WC.region ?_
        refine W.lit0 (e := ePair) sl42 ty127 zr127 rfl (fun v754 Ms755 ho756 => ?_)
        refine W.perm (pmC (pmC (pmC (pmC (pmC (List.Perm.refl _)))))).symm ?_
        refine W.ok (ok_fieldB fd45_9 rfl) ?_
        refine W.ok (ok_loadB (i := 4) (vs := [.slice _ _ _]) ty42 rfl rfl rfl rfl (by simp)) ?_
        refine W.mv ?_
        have hs757 := SlR.slice (hr_n.mono hG750) (lo := ((n.rows.length + 1) / 2)) (hi := n.rows.length) (by omega) (by omega)
        refine W.ok (ok_slice (((n.rows.length + 1) / 2)) (n.rows.length) sl42 ty127 (hr_n.mono hG750) rfl ⟨_, _, rfl, by omega⟩ rfl ⟨by omega, by omega⟩) ?_
        refine W.app (e := ePair) sl42 ty127 zr127 rfl by127 rfl rfl (ho756) (hs757) (pmC (pmC (pmC (pmC (pmC (List.Perm.refl _)))))) (by show (0 + ((n.rows.take n.rows.length).drop ((n.rows.length + 1) / 2)).length) * 32 ≤ _; simp; omega) (fun v758 Ms759 ho760 => ?_)
        refine W.perm (pmC (pmC (pmC (pmC (pmC (List.Perm.refl _)))))).symm ?_
        refine W.ok (ok_fieldB fd45_9 rfl) ?_
        refine W.giveO ho760 (pmC (pmC (pmC (pmC (pmC (List.Perm.refl _)))))) (fun G761 hG761 hv761 => ?_)
        have hc762 := SlR.cast hv761 (l' := n.rows.drop ((n.rows.length + 1) / 2)) (by simp)
        have q764 := hc762.form
        refine match q764 with | ⟨_, _, e_763⟩ => ?_
        subst e_763
        refine W.store (i := 1) (vs := [.slice _ _ _]) (L' := [.int .i64 _, .int .i64 _, .slice _ _ _, .slice _ _ _, .string _, .bool _, .int .i64 _, .int .i64 _, .slice _ _ _, .slice _ _ _]) ty42 rfl rfl rfl rfl rfl rfl rfl rfl ?_
        refine W.nil (thn_n ?_)
        refine WC.seq ?_
        refine WC.region ?_
        refine W.mv ?_
        refine W.ok (ok_fieldB fd45_4 rfl) ?_
        refine W.store (i := 0) (vs := [.string _]) (L' := [.int .i64 _, .int .i64 _, .slice _ _ _, .slice _ _ _, .string _, .bool _, .int .i64 _, .int .i64 _, .slice _ _ _, .slice _ _ _]) ty9 rfl rfl rfl rfl rfl rfl rfl rfl ?_
        refine W.nil (thn_n ?_)
        refine WC.seq ?_
        refine WC.region ?_
        refine W.ok (ok_fieldB fd45_5 rfl) ?_
        refine W.store (i := 0) (vs := [.bool _]) (L' := [.int .i64 _, .int .i64 _, .slice _ _ _, .slice _ _ _, .string _, .bool _, .int .i64 _, .int .i64 _, .slice _ _ _, .slice _ _ _]) ty4 rfl rfl rfl rfl rfl rfl rfl rfl ?_
        refine W.nil (thn_n ?_)
        refine WC.seq ?_
        refine WC.region ?_
        refine W.mv ?_
        refine W.ok (ok_fieldB fd45_6 rfl) ?_
        refine W.store (i := 0) (vs := [.int .i64 _]) (L' := [.int .i64 _, .int .i64 _, .slice _ _ _, .slice _ _ _, .string _, .bool _, .int .i64 _, .int .i64 _, .slice _ _ _, .slice _ _ _]) ty3 rfl rfl rfl rfl rfl rfl rfl rfl ?_
        refine W.nil (thn_n ?_)
        refine WC.seq ?_
        refine WC.region ?_
        refine W.mv ?_
        refine W.ok (ok_fieldB fd45_0 rfl) ?_
        refine W.store (i := 1) (vs := [.int .i64 _]) (L' := [.int .i64 _, .int .i64 _, .slice _ _ _, .slice _ _ _, .string _, .bool _, .int .i64 _, .int .i64 _, .slice _ _ _, .slice _ _ _]) ty3 rfl rfl rfl rfl rfl rfl rfl rfl ?_
        refine W.nil (thn_n ?_)
        refine WC.seq ?_
        refine WC.drawW _ ((((((List.Sublist.refl _).cons_cons _).cons _).cons _).cons_cons _).cons_cons _) mix (by rintro _ _ _ _ ⟨h | h, _⟩ <;> cases h) ?_
        refine WD.take 0 rfl rfl rfl (by kernel_rfl) (by kernel_rfl) (by kernel_rfl) (ok_loadB (i := 0) (vs := [.int .i64 _, .int .i64 _, .slice _ _ _, .slice _ _ _, .string _, .bool _, .int .i64 _, .int .i64 _, .slice _ _ _, .slice _ _ _]) ty45 rfl rfl rfl rfl (by simp)) ?_
        refine WD.take 1 rfl rfl rfl (by kernel_rfl) (by kernel_rfl) (by kernel_rfl) (ok_loadB (i := 1) (vs := [.int .i64 _, .int .i64 _, .slice _ _ _, .slice _ _ _, .string _, .bool _, .int .i64 _, .int .i64 _, .slice _ _ _, .slice _ _ _]) ty45 rfl rfl rfl rfl (by simp)) ?_
        refine WD.take 2 rfl rfl rfl (by kernel_rfl) (by kernel_rfl) (by kernel_rfl) (ok_mv) ?_
        refine WD.any [3] (by kernel_rfl) rfl ⟨⟨_, rfl, rfl, ?_⟩, trivial⟩
        refine W.store (i := 3) (vs := [.int .i64 _, .int .i64 _, .slice _ _ _, .slice _ _ _, .string _, .bool _, .int .i64 _, .int .i64 _, .slice _ _ _, .slice _ _ _]) (L' := [.int .i64 _, .int .i64 _, .slice _ _ _, .slice _ _ _, .string _, .bool _, .int .i64 _, .int .i64 _, .slice _ _ _, .slice _ _ _]) ty45 rfl rfl rfl rfl rfl rfl rfl rfl ?_
        refine W.nil ⟨Le.rfl, (((((List.Sublist.refl _).cons_cons _).cons _).cons _).cons_cons _).cons_cons _, _, (((((List.Sublist.refl _).cons_cons _).cons _).cons _).cons_cons _).cons_cons _, List.Sublist.refl _, ?_⟩
        refine WD.any [4] (by kernel_rfl) rfl ⟨⟨_, rfl, rfl, ?_⟩, trivial⟩
        refine W.store (i := 2) (vs := [.int .i64 _, .int .i64 _, .slice _ _ _, .slice _ _ _, .string _, .bool _, .int .i64 _, .int .i64 _, .slice _ _ _, .slice _ _ _]) (L' := [.int .i64 _, .int .i64 _, .slice _ _ _, .slice _ _ _, .string _, .bool _, .int .i64 _, .int .i64 _, .slice _ _ _, .slice _ _ _]) ty45 rfl rfl rfl rfl rfl rfl rfl rfl ?_
        refine W.nil ⟨Le.rfl, (((((List.Sublist.refl _).cons_cons _).cons _).cons _).cons_cons _).cons_cons _, _, (((((List.Sublist.refl _).cons_cons _).cons _).cons _).cons_cons _).cons_cons _, List.Sublist.refl _, ?_⟩
        refine WD.take 5 rfl rfl rfl (by kernel_rfl) (by kernel_rfl) (by kernel_rfl) (ok_as) ?_
        refine WD.take 6 rfl rfl rfl (by kernel_rfl) (by kernel_rfl) (by kernel_rfl) (ok_as) ?_
        refine WD.done (by kernel_rfl) (thn_n ?_)
        refine WC.ret ?_
        refine ⟨.inr rfl, [_, _, _, _], ⟨⟨_, _, _, _, _, rfl, nthM_mem (i := 3) rfl, ty45, (by simp), rfl, rfl⟩, ⟨_, _, _, _, _, rfl, nthM_mem (i := 2) rfl, ty45, (by simp), rfl, rfl⟩, rfl, rfl, trivial⟩, [], List.nil_sublist _, ?_⟩
        refine ⟨rfl, _, (cleave_lt p17 (by omega)).symm, _, _, rfl, ?_, ?_⟩
        · exact ⟨_, _, _, _, _, _, _, _, rfl, (hp_n.mono (hG750.trans hG761)), (hk_n.mono (hG750.trans hG761)), (hm_n.mono (hG750.trans hG761)), (hc751.mono hG761), ⟨hok_n.1, hok_n.2.1, hi, hok_n.2.2.2⟩⟩
        · exact ⟨_, _, _, _, _, _, _, _, rfl, (hp_n.mono (hG750.trans hG761)), (hk_n.mono (hG750.trans hG761)), (hm_n.mono (hG750.trans hG761)), hc762, ⟨hi, hok_n.2⟩⟩
    · have p17 := of_decide_eq_false h17
      refine WC.seq ?_
      refine WC.seq ?_
      refine WC.region ?_
      refine W.ok (ok_fieldB fd45_3 rfl) ?_
      refine W.ok (ok_loadB (i := 4) (vs := [.slice _ _ _]) ty26 rfl rfl rfl rfl (by simp)) ?_
      refine W.ok (ok_len sl26 hk_n rfl) ?_
      refine W.ok (ok_lss rfl rfl) ?_
      refine W.mv ?_
      refine W.sp 64 rfl (fun h63 => ?_) (fun h63 => ?_)
      · have p63 := of_decide_eq_true h63
        refine W.no (dj := 64) rfl rfl h63 ?_
        refine W.no (dj := 64) rfl rfl h63 ?_
        refine W.no (dj := 64) rfl rfl h63 ?_
        refine W.no (dj := 64) rfl rfl h63 ?_
        refine W.no (dj := 64) rfl rfl h63 ?_
        refine W.no (dj := 64) rfl rfl h63 ?_
        refine W.ok (ok_pick_t rfl h63) ?_
        refine W.nil (thn_n ?_)
        refine WC.cond_t rfl rfl ?_
        refine WC.seq ?_
        refine WC.region ?_
        refine W.ok (ok_build (L := [.int .i64 _, .int .i64 _, .slice _ _ _, .slice _ _ _, .string _, .bool _, .int .i64 _, .int .i64 _, .slice _ _ _, .slice _ _ _]) pl45 zr45 rfl rfl rfl) ?_
        refine W.ok (ok_build (L := [.int .i64 _, .int .i64 _, .slice _ _ _, .slice _ _ _, .string _, .bool _, .int .i64 _, .int .i64 _, .slice _ _ _, .slice _ _ _]) pl45 zr45 rfl rfl rfl) ?_
        refine W.store (i := 3) (vs := [.int .i64 _, .int .i64 _, .slice _ _ _, .slice _ _ _, .string _, .bool _, .int .i64 _, .int .i64 _, .slice _ _ _, .slice _ _ _]) (L' := [.int .i64 _, .int .i64 _, .slice _ _ _, .slice _ _ _, .string _, .bool _, .int .i64 _, .int .i64 _, .slice _ _ _, .slice _ _ _]) ty45 rfl rfl rfl rfl rfl rfl rfl rfl ?_
        refine W.store (i := 2) (vs := [.int .i64 _, .int .i64 _, .slice _ _ _, .slice _ _ _, .string _, .bool _, .int .i64 _, .int .i64 _, .slice _ _ _, .slice _ _ _]) (L' := [.int .i64 _, .int .i64 _, .slice _ _ _, .slice _ _ _, .string _, .bool _, .int .i64 _, .int .i64 _, .slice _ _ _, .slice _ _ _]) ty45 rfl rfl rfl rfl rfl rfl rfl rfl ?_
        refine W.as ?_
        refine W.as ?_
        refine W.nil (thn_n ?_)
        refine WC.ret (thn_r (thn_r ?_))
        refine ⟨.inr rfl, [_, _, _, _], ⟨⟨_, _, _, _, _, rfl, nthM_mem (i := 3) rfl, ty45, (by simp), rfl, rfl⟩, ⟨_, _, _, _, _, rfl, nthM_mem (i := 2) rfl, ty45, (by simp), rfl, rfl⟩, rfl, rfl, trivial⟩, [], List.nil_sublist _, ?_⟩
        refine ⟨rfl, _, (cleave_if p17 (by omega)).symm, _, _, rfl, ?_, ?_⟩
        · exact ⟨_, _, _, _, _, _, _, _, rfl, SlR.nil, SlR.nil, SlR.nil, SlR.nil, Nd.zero_ok⟩
        · exact ⟨_, _, _, _, _, _, _, _, rfl, SlR.nil, SlR.nil, SlR.nil, SlR.nil, Nd.zero_ok⟩
      · have p63 := of_decide_eq_false h63
        refine W.yes (dj := 64) rfl rfl h63 ?_
        refine W.ok (ok_fieldB fd45_2 rfl) ?_
        refine W.yes (dj := 64) rfl rfl h63 ?_
        refine W.ok (ok_loadB (i := 4) (vs := [.slice _ _ _]) ty25 rfl rfl rfl rfl (by simp)) ?_
        refine W.yes (dj := 64) rfl rfl h63 ?_
        refine W.ok (ok_fieldB fd45_3 rfl) ?_
        refine W.yes (dj := 64) rfl rfl h63 ?_
        refine W.ok (ok_loadB (i := 4) (vs := [.slice _ _ _]) ty26 rfl rfl rfl rfl (by simp)) ?_
        refine W.yes (dj := 64) rfl rfl h63 ?_
        refine W.qcall (rright_fc hp_n hk_n) rfl ?_
        refine W.yes (dj := 64) rfl rfl h63 ?_
        refine W.ok (ok_not rfl) ?_
        refine W.ok (ok_pick_f rfl h63) ?_
        refine W.nil (thn_n ?_)
        refine WC.cond (b := _) rfl (fun h70 => ?_) (fun h70 => ?_)
        · refine WC.seq ?_
          refine WC.region ?_
          refine W.ok (ok_build (L := [.int .i64 _, .int .i64 _, .slice _ _ _, .slice _ _ _, .string _, .bool _, .int .i64 _, .int .i64 _, .slice _ _ _, .slice _ _ _]) pl45 zr45 rfl rfl rfl) ?_
          refine W.ok (ok_build (L := [.int .i64 _, .int .i64 _, .slice _ _ _, .slice _ _ _, .string _, .bool _, .int .i64 _, .int .i64 _, .slice _ _ _, .slice _ _ _]) pl45 zr45 rfl rfl rfl) ?_
          refine W.store (i := 3) (vs := [.int .i64 _, .int .i64 _, .slice _ _ _, .slice _ _ _, .string _, .bool _, .int .i64 _, .int .i64 _, .slice _ _ _, .slice _ _ _]) (L' := [.int .i64 _, .int .i64 _, .slice _ _ _, .slice _ _ _, .string _, .bool _, .int .i64 _, .int .i64 _, .slice _ _ _, .slice _ _ _]) ty45 rfl rfl rfl rfl rfl rfl rfl rfl ?_
          refine W.store (i := 2) (vs := [.int .i64 _, .int .i64 _, .slice _ _ _, .slice _ _ _, .string _, .bool _, .int .i64 _, .int .i64 _, .slice _ _ _, .slice _ _ _]) (L' := [.int .i64 _, .int .i64 _, .slice _ _ _, .slice _ _ _, .string _, .bool _, .int .i64 _, .int .i64 _, .slice _ _ _, .slice _ _ _]) ty45 rfl rfl rfl rfl rfl rfl rfl rfl ?_
          refine W.as ?_
          refine W.as ?_
          refine W.nil (thn_n ?_)
          refine WC.ret (thn_r (thn_r ?_))
          refine ⟨.inr rfl, [_, _, _, _], ⟨⟨_, _, _, _, _, rfl, nthM_mem (i := 3) rfl, ty45, (by simp), rfl, rfl⟩, ⟨_, _, _, _, _, rfl, nthM_mem (i := 2) rfl, ty45, (by simp), rfl, rfl⟩, rfl, rfl, trivial⟩, [], List.nil_sublist _, ?_⟩
          refine ⟨rfl, _, (cleave_if p17 (.inr (by simpa using h70))).symm, _, _, rfl, ?_, ?_⟩
          · exact ⟨_, _, _, _, _, _, _, _, rfl, SlR.nil, SlR.nil, SlR.nil, SlR.nil, Nd.zero_ok⟩
          · exact ⟨_, _, _, _, _, _, _, _, rfl, SlR.nil, SlR.nil, SlR.nil, SlR.nil, Nd.zero_ok⟩
        · have hri : rightN n.pivots n.kids.length = true := by simpa using h70
          have hcl := (rightN_spec hri).2
          refine WC.skip (thn_n ?_)
          refine WC.seq ?_
          refine WC.region ?_
          refine W.ok (ok_fieldB fd45_3 rfl) ?_
          refine W.ok (ok_loadB (i := 4) (vs := [.slice _ _ _]) ty26 rfl rfl rfl rfl (by simp)) ?_
          refine W.ok (ok_len sl26 hk_n rfl) ?_
          refine W.ok (ok_add rfl rfl (by omega)) ?_
          refine W.ok (Ok.int (n := ((((n.kids.length + 1) / 2) : Nat) : Int)) (ok_quo' rfl rfl (by omega) (by omega) (by omega)) (by omega)) ?_
          refine W.as ?_
          refine W.nil (thn_n ?_)
          refine WC.seq ?_
          refine WC.region ?_
          refine W.ok (ok_fieldB fd45_2 rfl) ?_
          refine W.ok (ok_loadB (i := 4) (vs := [.slice _ _ _]) ty25 rfl rfl rfl rfl (by simp)) ?_
          refine W.mv ?_
          refine W.ok (Ok.int (n := ((((n.kids.length + 1) / 2) - 1 : Nat) : Int)) (ok_sub rfl rfl (by omega)) (by omega)) ?_
          have q767 := hp_n.at (i := ((n.kids.length + 1) / 2) - 1) (by omega)
          refine match q767 with | ⟨_, he765, e_766⟩ => ?_
          subst e_766
          refine W.ok (ok_indexAddr (i := ((n.kids.length + 1) / 2) - 1) sl25 ty9 hp_n rfl rfl ⟨by omega, by omega⟩) ?_
          refine W.ok (ok_loadE (vs := [.string _]) ty9 he765 rfl rfl rfl (by simp)) ?_
          refine W.as ?_
          refine W.nil (thn_n ?_)
          refine WC.seq ?_
          refine WC.drawW _ ((((((List.Sublist.refl _).cons_cons _).cons_cons _).cons_cons _).cons_cons _).cons _) mix (by rintro _ _ _ _ ⟨h | h, _⟩ <;> cases h) ?_
          refine WD.take 0 rfl rfl rfl (by kernel_rfl) (by kernel_rfl) (by kernel_rfl) (ok_fieldB fd45_2 rfl) ?_
          refine WD.take 1 rfl rfl rfl (by kernel_rfl) (by kernel_rfl) (by kernel_rfl) (ok_loadB (i := 3) (vs := [.slice _ _ _]) ty25 rfl rfl rfl rfl (by simp)) ?_
          refine WD.take 2 rfl rfl rfl (by kernel_rfl) (by kernel_rfl) (by kernel_rfl) (ok_mv) ?_
          refine WD.take 3 rfl rfl rfl (by kernel_rfl) (by kernel_rfl) (by kernel_rfl) (Ok.int (n := ((((n.kids.length + 1) / 2) - 1 : Nat) : Int)) (ok_sub rfl rfl (by omega)) (by omega)) ?_
          refine WD.take 5 rfl rfl rfl (by kernel_rfl) (by kernel_rfl) (by kernel_rfl) (ok_fieldB fd45_3 rfl) ?_
          refine WD.take 6 rfl rfl rfl (by kernel_rfl) (by kernel_rfl) (by kernel_rfl) (ok_loadB (i := 3) (vs := [.slice _ _ _]) ty26 rfl rfl rfl rfl (by simp)) ?_
          refine WD.take 7 rfl rfl rfl (by kernel_rfl) (by kernel_rfl) (by kernel_rfl) (ok_mv) ?_
          refine WD.any [4] (by kernel_rfl) rfl ⟨⟨_, rfl, rfl, ?_⟩, trivial⟩
          refine W.call (Mp := []) (cut_fc hp_n 0 _ ⟨by omega, by omega⟩) rfl (List.Perm.refl _) ?_
          intro _ G768 _ hG768 q770
          refine match q770 with | ⟨e_771, _, e_772, hv769⟩ => ?_
          subst e_771
          subst e_772
          have hc773 := SlR.cast hv769 (l' := n.pivots.take (((n.kids.length + 1) / 2) - 1)) (by simp)
          have q775 := hc773.form
          refine match q775 with | ⟨_, _, e_774⟩ => ?_
          subst e_774
          refine W.nil ⟨hG768, (((((List.Sublist.refl _).cons_cons _).cons_cons _).cons_cons _).cons_cons _).cons _, _, (((((List.Sublist.refl _).cons_cons _).cons_cons _).cons_cons _).cons_cons _).cons _, List.Sublist.refl _, ?_⟩
          refine WD.take 9 rfl rfl rfl (by kernel_rfl) (by kernel_rfl) (by kernel_rfl) (ok_fieldB fd45_2 rfl) ?_
          refine WD.any [8] (by kernel_rfl) rfl ⟨⟨_, rfl, rfl, ?_⟩, trivial⟩
          refine W.call (Mp := []) (part_fc (hk_n.mono hG768) 0 _ ⟨by omega, by omega⟩) rfl (List.Perm.refl _) ?_
          intro _ G776 _ hG776 q778
          refine match q778 with | ⟨e_779, _, e_780, hv777⟩ => ?_
          subst e_779
          subst e_780
          have hc781 := SlR.cast hv777 (l' := n.kids.take ((n.kids.length + 1) / 2)) (by simp)
          have q783 := hc781.form
          refine match q783 with | ⟨_, _, e_782⟩ => ?_
          subst e_782
          refine W.nil ⟨hG776, (((((List.Sublist.refl _).cons_cons _).cons_cons _).cons_cons _).cons_cons _).cons _, _, (((((List.Sublist.refl _).cons_cons _).cons_cons _).cons_cons _).cons_cons _).cons _, List.Sublist.refl _, ?_⟩
          refine WD.any [10] (by kernel_rfl) rfl ⟨⟨_, rfl, rfl, ?_⟩, trivial⟩
          refine W.store (i := 0) (vs := [.slice _ _ _]) (L' := [.int .i64 _, .int .i64 _, .slice _ _ _, .slice _ _ _, .string _, .bool _, .int .i64 _, .int .i64 _, .slice _ _ _, .slice _ _ _]) ty25 rfl rfl rfl rfl rfl rfl rfl rfl ?_
          refine W.nil ⟨Le.rfl, (((((List.Sublist.refl _).cons_cons _).cons_cons _).cons_cons _).cons_cons _).cons _, _, (((((List.Sublist.refl _).cons_cons _).cons_cons _).cons_cons _).cons_cons _).cons _, List.Sublist.refl _, ?_⟩
          refine WD.take 11 rfl rfl rfl (by kernel_rfl) (by kernel_rfl) (by kernel_rfl) (ok_fieldB fd45_3 rfl) ?_
          refine WD.any [12] (by kernel_rfl) rfl ⟨⟨_, rfl, rfl, ?_⟩, trivial⟩
          refine W.store (i := 0) (vs := [.slice _ _ _]) (L' := [.int .i64 _, .int .i64 _, .slice _ _ _, .slice _ _ _, .string _, .bool _, .int .i64 _, .int .i64 _, .slice _ _ _, .slice _ _ _]) ty26 rfl rfl rfl rfl rfl rfl rfl rfl ?_
          refine W.nil ⟨Le.rfl, (((((List.Sublist.refl _).cons_cons _).cons_cons _).cons_cons _).cons_cons _).cons _, _, (((((List.Sublist.refl _).cons_cons _).cons_cons _).cons_cons _).cons_cons _).cons _, List.Sublist.refl _, ?_⟩
          refine WD.done (by kernel_rfl) (thn_n ?_)
          refine WC.seq ?_
          refine WC.drawW _ ((((((List.Sublist.refl _).cons_cons _).cons_cons _).cons_cons _).cons _).cons_cons _) mix (by rintro _ _ _ _ ⟨h | h, _⟩ <;> cases h) ?_
          refine WD.take 0 rfl rfl rfl (by kernel_rfl) (by kernel_rfl) (by kernel_rfl) (ok_fieldB fd45_2 rfl) ?_
          refine WD.take 1 rfl rfl rfl (by kernel_rfl) (by kernel_rfl) (by kernel_rfl) (ok_loadB (i := 3) (vs := [.slice _ _ _]) ty25 rfl rfl rfl rfl (by simp)) ?_
          refine WD.take 2 rfl rfl rfl (by kernel_rfl) (by kernel_rfl) (by kernel_rfl) (ok_mv) ?_
          refine WD.take 3 rfl rfl rfl (by kernel_rfl) (by kernel_rfl) (by kernel_rfl) (ok_fieldB fd45_2 rfl) ?_
          refine WD.take 4 rfl rfl rfl (by kernel_rfl) (by kernel_rfl) (by kernel_rfl) (ok_loadB (i := 3) (vs := [.slice _ _ _]) ty25 rfl rfl rfl rfl (by simp)) ?_
          refine WD.take 5 rfl rfl rfl (by kernel_rfl) (by kernel_rfl) (by kernel_rfl) (ok_len sl25 (hp_n.mono (hG768.trans hG776)) rfl) ?_
          refine WD.take 7 rfl rfl rfl (by kernel_rfl) (by kernel_rfl) (by kernel_rfl) (ok_fieldB fd45_3 rfl) ?_
          refine WD.take 8 rfl rfl rfl (by kernel_rfl) (by kernel_rfl) (by kernel_rfl) (ok_loadB (i := 3) (vs := [.slice _ _ _]) ty26 rfl rfl rfl rfl (by simp)) ?_
          refine WD.take 9 rfl rfl rfl (by kernel_rfl) (by kernel_rfl) (by kernel_rfl) (ok_mv) ?_
          refine WD.take 10 rfl rfl rfl (by kernel_rfl) (by kernel_rfl) (by kernel_rfl) (ok_fieldB fd45_3 rfl) ?_
          refine WD.take 11 rfl rfl rfl (by kernel_rfl) (by kernel_rfl) (by kernel_rfl) (ok_loadB (i := 3) (vs := [.slice _ _ _]) ty26 rfl rfl rfl rfl (by simp)) ?_
          refine WD.take 12 rfl rfl rfl (by kernel_rfl) (by kernel_rfl) (by kernel_rfl) (ok_len sl26 (hk_n.mono (hG768.trans hG776)) rfl) ?_
          refine WD.any [6] (by kernel_rfl) rfl ⟨⟨_, rfl, rfl, ?_⟩, trivial⟩
          refine W.call (Mp := []) (cut_fc (hp_n.mono (hG768.trans hG776)) _ _ ⟨by omega, by omega⟩) rfl (List.Perm.refl _) ?_
          intro _ G784 _ hG784 q786
          refine match q786 with | ⟨e_787, _, e_788, hv785⟩ => ?_
          subst e_787
          subst e_788
          have hc789 := SlR.cast hv785 (l' := n.pivots.drop ((n.kids.length + 1) / 2)) (by simp)
          have q791 := hc789.form
          refine match q791 with | ⟨_, _, e_790⟩ => ?_
          subst e_790
          refine W.nil ⟨hG784, (((((List.Sublist.refl _).cons_cons _).cons_cons _).cons_cons _).cons _).cons_cons _, _, (((((List.Sublist.refl _).cons_cons _).cons_cons _).cons_cons _).cons _).cons_cons _, List.Sublist.refl _, ?_⟩
          refine WD.take 14 rfl rfl rfl (by kernel_rfl) (by kernel_rfl) (by kernel_rfl) (ok_fieldB fd45_2 rfl) ?_
          refine WD.any [13] (by kernel_rfl) rfl ⟨⟨_, rfl, rfl, ?_⟩, trivial⟩
          refine W.call (Mp := []) (part_fc (hk_n.mono ((hG768.trans hG776).trans hG784)) _ _ ⟨by omega, by omega⟩) rfl (List.Perm.refl _) ?_
          intro _ G792 _ hG792 q794
          refine match q794 with | ⟨e_795, _, e_796, hv793⟩ => ?_
          subst e_795
          subst e_796
          have hc797 := SlR.cast hv793 (l' := n.kids.drop ((n.kids.length + 1) / 2)) (by simp)
          have q799 := hc797.form
          refine match q799 with | ⟨_, _, e_798⟩ => ?_
          subst e_798
          refine W.nil ⟨hG792, (((((List.Sublist.refl _).cons_cons _).cons_cons _).cons_cons _).cons _).cons_cons _, _, (((((List.Sublist.refl _).cons_cons _).cons_cons _).cons_cons _).cons _).cons_cons _, List.Sublist.refl _, ?_⟩
          refine WD.any [15] (by kernel_rfl) rfl ⟨⟨_, rfl, rfl, ?_⟩, trivial⟩
          refine W.store (i := 1) (vs := [.slice _ _ _]) (L' := [.int .i64 _, .int .i64 _, .slice _ _ _, .slice _ _ _, .string _, .bool _, .int .i64 _, .int .i64 _, .slice _ _ _, .slice _ _ _]) ty25 rfl rfl rfl rfl rfl rfl rfl rfl ?_
          refine W.nil ⟨Le.rfl, (((((List.Sublist.refl _).cons_cons _).cons_cons _).cons_cons _).cons _).cons_cons _, _, (((((List.Sublist.refl _).cons_cons _).cons_cons _).cons_cons _).cons _).cons_cons _, List.Sublist.refl _, ?_⟩
          refine WD.take 16 rfl rfl rfl (by kernel_rfl) (by kernel_rfl) (by kernel_rfl) (ok_fieldB fd45_3 rfl) ?_
          refine WD.any [17] (by kernel_rfl) rfl ⟨⟨_, rfl, rfl, ?_⟩, trivial⟩
          refine W.store (i := 1) (vs := [.slice _ _ _]) (L' := [.int .i64 _, .int .i64 _, .slice _ _ _, .slice _ _ _, .string _, .bool _, .int .i64 _, .int .i64 _, .slice _ _ _, .slice _ _ _]) ty26 rfl rfl rfl rfl rfl rfl rfl rfl ?_
          refine W.nil ⟨Le.rfl, (((((List.Sublist.refl _).cons_cons _).cons_cons _).cons_cons _).cons _).cons_cons _, _, (((((List.Sublist.refl _).cons_cons _).cons_cons _).cons_cons _).cons _).cons_cons _, List.Sublist.refl _, ?_⟩
          refine WD.done (by kernel_rfl) (thn_n ?_)
          refine WC.seq ?_
          refine WC.region ?_
          refine W.ok (ok_fieldB fd45_8 rfl) ?_
          refine W.ok (ok_loadB (i := 4) (vs := [.slice _ _ _]) ty43 rfl rfl rfl rfl (by simp)) ?_
          refine W.mv ?_
          refine W.ok (ok_build (L := [.string _, .string _, .bool _]) pl32 zr32 rfl rfl rfl) ?_
          refine W.call (Mp := []) (rclips_fc (hm_n.mono (((hG768.trans hG776).trans hG784).trans hG792)) Str.nil _ _ (by assumption)) rfl (List.Perm.refl _) ?_
          intro _ G800 _ hG800 q802
          refine match q802 with | ⟨e_803, _, e_804, hv801⟩ => ?_
          subst e_803
          subst e_804
          have q806 := hv801.form
          refine match q806 with | ⟨_, _, e_805⟩ => ?_
          subst e_805
          refine W.ok (ok_fieldB fd45_8 rfl) ?_
          refine W.store (i := 0) (vs := [.slice _ _ _]) (L' := [.int .i64 _, .int .i64 _, .slice _ _ _, .slice _ _ _, .string _, .bool _, .int .i64 _, .int .i64 _, .slice _ _ _, .slice _ _ _]) ty43 rfl rfl rfl rfl rfl rfl rfl rfl ?_
          refine W.nil (thn_n ?_)
          refine WC.region ?_
          refine W.ok (ok_fieldB fd45_8 rfl) ?_
          refine W.ok (ok_loadB (i := 4) (vs := [.slice _ _ _]) ty43 rfl rfl rfl rfl (by simp)) ?_
          refine W.mv ?_
          refine W.ok (ok_build (L := [.string _, .string _, .bool _]) pl32 zr32 rfl rfl rfl) ?_
          refine W.call (Mp := []) (rclips_fc (hm_n.mono ((((hG768.trans hG776).trans hG784).trans hG792).trans hG800)) _ Str.nil _ (by assumption)) rfl (List.Perm.refl _) ?_
          intro _ G807 _ hG807 q809
          refine match q809 with | ⟨e_810, _, e_811, hv808⟩ => ?_
          subst e_810
          subst e_811
          have q813 := hv808.form
          refine match q813 with | ⟨_, _, e_812⟩ => ?_
          subst e_812
          refine W.ok (ok_fieldB fd45_8 rfl) ?_
          refine W.store (i := 1) (vs := [.slice _ _ _]) (L' := [.int .i64 _, .int .i64 _, .slice _ _ _, .slice _ _ _, .string _, .bool _, .int .i64 _, .int .i64 _, .slice _ _ _, .slice _ _ _]) ty43 rfl rfl rfl rfl rfl rfl rfl rfl ?_
          refine W.nil (thn_n ?_)
          refine WC.seq ?_
          refine WC.region ?_
          refine W.mv ?_
          refine W.ok (ok_fieldB fd45_4 rfl) ?_
          refine W.store (i := 0) (vs := [.string _]) (L' := [.int .i64 _, .int .i64 _, .slice _ _ _, .slice _ _ _, .string _, .bool _, .int .i64 _, .int .i64 _, .slice _ _ _, .slice _ _ _]) ty9 rfl rfl rfl rfl rfl rfl rfl rfl ?_
          refine W.nil (thn_n ?_)
          refine WC.seq ?_
          refine WC.region ?_
          refine W.ok (ok_fieldB fd45_5 rfl) ?_
          refine W.store (i := 0) (vs := [.bool _]) (L' := [.int .i64 _, .int .i64 _, .slice _ _ _, .slice _ _ _, .string _, .bool _, .int .i64 _, .int .i64 _, .slice _ _ _, .slice _ _ _]) ty4 rfl rfl rfl rfl rfl rfl rfl rfl ?_
          refine W.nil (thn_n ?_)
          refine WC.seq ?_
          refine WC.region ?_
          refine W.mv ?_
          refine W.ok (ok_fieldB fd45_6 rfl) ?_
          refine W.store (i := 0) (vs := [.int .i64 _]) (L' := [.int .i64 _, .int .i64 _, .slice _ _ _, .slice _ _ _, .string _, .bool _, .int .i64 _, .int .i64 _, .slice _ _ _, .slice _ _ _]) ty3 rfl rfl rfl rfl rfl rfl rfl rfl ?_
          refine W.nil (thn_n ?_)
          refine WC.seq ?_
          refine WC.region ?_
          refine W.mv ?_
          refine W.ok (ok_fieldB fd45_0 rfl) ?_
          refine W.store (i := 1) (vs := [.int .i64 _]) (L' := [.int .i64 _, .int .i64 _, .slice _ _ _, .slice _ _ _, .string _, .bool _, .int .i64 _, .int .i64 _, .slice _ _ _, .slice _ _ _]) ty3 rfl rfl rfl rfl rfl rfl rfl rfl ?_
          refine W.nil (thn_n ?_)
          refine WC.seq ?_
          refine WC.drawW _ ((((((List.Sublist.refl _).cons_cons _).cons _).cons _).cons_cons _).cons_cons _) mix (by rintro _ _ _ _ ⟨h | h, _⟩ <;> cases h) ?_
          refine WD.take 0 rfl rfl rfl (by kernel_rfl) (by kernel_rfl) (by kernel_rfl) (ok_loadB (i := 0) (vs := [.int .i64 _, .int .i64 _, .slice _ _ _, .slice _ _ _, .string _, .bool _, .int .i64 _, .int .i64 _, .slice _ _ _, .slice _ _ _]) ty45 rfl rfl rfl rfl (by simp)) ?_
          refine WD.take 1 rfl rfl rfl (by kernel_rfl) (by kernel_rfl) (by kernel_rfl) (ok_loadB (i := 1) (vs := [.int .i64 _, .int .i64 _, .slice _ _ _, .slice _ _ _, .string _, .bool _, .int .i64 _, .int .i64 _, .slice _ _ _, .slice _ _ _]) ty45 rfl rfl rfl rfl (by simp)) ?_
          refine WD.take 2 rfl rfl rfl (by kernel_rfl) (by kernel_rfl) (by kernel_rfl) (ok_mv) ?_
          refine WD.any [3] (by kernel_rfl) rfl ⟨⟨_, rfl, rfl, ?_⟩, trivial⟩
          refine W.store (i := 3) (vs := [.int .i64 _, .int .i64 _, .slice _ _ _, .slice _ _ _, .string _, .bool _, .int .i64 _, .int .i64 _, .slice _ _ _, .slice _ _ _]) (L' := [.int .i64 _, .int .i64 _, .slice _ _ _, .slice _ _ _, .string _, .bool _, .int .i64 _, .int .i64 _, .slice _ _ _, .slice _ _ _]) ty45 rfl rfl rfl rfl rfl rfl rfl rfl ?_
          refine W.nil ⟨Le.rfl, (((((List.Sublist.refl _).cons_cons _).cons _).cons _).cons_cons _).cons_cons _, _, (((((List.Sublist.refl _).cons_cons _).cons _).cons _).cons_cons _).cons_cons _, List.Sublist.refl _, ?_⟩
          refine WD.any [4] (by kernel_rfl) rfl ⟨⟨_, rfl, rfl, ?_⟩, trivial⟩
          refine W.store (i := 2) (vs := [.int .i64 _, .int .i64 _, .slice _ _ _, .slice _ _ _, .string _, .bool _, .int .i64 _, .int .i64 _, .slice _ _ _, .slice _ _ _]) (L' := [.int .i64 _, .int .i64 _, .slice _ _ _, .slice _ _ _, .string _, .bool _, .int .i64 _, .int .i64 _, .slice _ _ _, .slice _ _ _]) ty45 rfl rfl rfl rfl rfl rfl rfl rfl ?_
          refine W.nil ⟨Le.rfl, (((((List.Sublist.refl _).cons_cons _).cons _).cons _).cons_cons _).cons_cons _, _, (((((List.Sublist.refl _).cons_cons _).cons _).cons _).cons_cons _).cons_cons _, List.Sublist.refl _, ?_⟩
          refine WD.take 5 rfl rfl rfl (by kernel_rfl) (by kernel_rfl) (by kernel_rfl) (ok_as) ?_
          refine WD.take 6 rfl rfl rfl (by kernel_rfl) (by kernel_rfl) (by kernel_rfl) (ok_as) ?_
          refine WD.done (by kernel_rfl) (thn_n ?_)
          refine WC.ret ?_
          refine ⟨.inr rfl, [_, _, _, _], ⟨⟨_, _, _, _, _, rfl, nthM_mem (i := 3) rfl, ty45, (by simp), rfl, rfl⟩, ⟨_, _, _, _, _, rfl, nthM_mem (i := 2) rfl, ty45, (by simp), rfl, rfl⟩, rfl, rfl, trivial⟩, [], List.nil_sublist _, ?_⟩
          refine ⟨rfl, _, (cleave_it p17 (by omega) hri hcl).symm, _, _, rfl, ?_, ?_⟩
          · exact ⟨_, _, _, _, _, _, _, _, rfl, (hc773.mono ((((hG776.trans hG784).trans hG792).trans hG800).trans hG807)), (hc781.mono (((hG784.trans hG792).trans hG800).trans hG807)), (hv801.mono hG807), (hr_n.mono (((((hG768.trans hG776).trans hG784).trans hG792).trans hG800).trans hG807)), ⟨hok_n.1, hok_n.2.1, hi, hok_n.2.2.2⟩⟩
          · exact ⟨_, _, _, _, _, _, _, _, rfl, (hc789.mono ((hG792.trans hG800).trans hG807)), (hc797.mono (hG800.trans hG807)), hv808, (hr_n.mono (((((hG768.trans hG776).trans hG784).trans hG792).trans hG800).trans hG807)), ⟨hi, hok_n.2⟩⟩

end Go.Proofs.Ytmadhgdplocfbaa
