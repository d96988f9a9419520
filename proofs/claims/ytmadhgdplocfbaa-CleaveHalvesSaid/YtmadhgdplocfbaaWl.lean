/- Walks of functions that part nodes. -/
import Derived.Test.YtmadhgdplocfbaaWk
import Derived.Test.YtmadhgdplocfbaaWc
namespace Go.Proofs.Ytmadhgdplocfbaa
open Go Go.Fw Go.RowKit
set_option maxRecDepth 100000
set_option maxHeartbeats 1600000
set_option linter.unusedVariables false
theorem nhalves_fc {G : GH} {cs_a : List Value} {a : Nd} (h_a : NodeC G cs_a a) (hks : ∀ m ∈ a.msgs, m.key.b.size < 140737488355328) :
    Fc Try.prog 138 [.agg (List.toArray cs_a)] G [] (fun v G' M' => M' = [] ∧ ∃ r : Nd × Nd × Str × Bool, r = halvesN a ∧ ∃ u0 u1, v = .tuple #[.agg (List.toArray u0), .agg (List.toArray u1), .string (Str.b (r.2.2.1)), .bool (r.2.2.2)] ∧ NodeC G' u0 (r.1) ∧ NodeC G' u1 (r.2.1)) := by
  obtain ⟨_, _, _, _, _, _, _, _, rfl, hp_a, hk_a, hm_a, hr_a, hok_a⟩ := h_a
  refine Fc.intro (rs := [.cell 2 45, .cell 3 45, .tmp 4, .tmp 5]) cl138 Try.func138 rfl Try.ntmps138 rfl rfl (fun w0 => ?_)
  refine WC.seq ?_
  refine WC.region ?_
  refine W.box (L := [.int .i64 _, .int .i64 _, .slice _ _ _, .slice _ _ _, .string _, .bool _, .int .i64 _, .int .i64 _, .slice _ _ _, .slice _ _ _]) rfl rfl (fun b523 => ?_)
  refine W.alloc zr45 (fun b524 => ?_)
  refine W.alloc zr45 (fun b525 => ?_)
  refine W.as ?_
  refine W.as ?_
  refine W.nil (thn_n ?_)
  refine WC.seq ?_
  refine WC.drawW _ ((((List.Sublist.refl _).cons_cons _).cons _).cons _) mix (by rintro _ _ _ _ ⟨h | h, _⟩ <;> cases h) ?_
  refine WD.take 0 rfl rfl rfl (by kernel_rfl) (by kernel_rfl) (by kernel_rfl) (ok_loadB (i := 0) (vs := [.int .i64 _, .int .i64 _, .slice _ _ _, .slice _ _ _, .string _, .bool _, .int .i64 _, .int .i64 _, .slice _ _ _, .slice _ _ _]) ty45 rfl rfl rfl rfl (by simp)) ?_
  refine WD.take 1 rfl rfl rfl (by kernel_rfl) (by kernel_rfl) (by kernel_rfl) (ok_loadB (i := 0) (vs := [.int .i64 _, .int .i64 _, .slice _ _ _, .slice _ _ _, .string _, .bool _, .int .i64 _, .int .i64 _, .slice _ _ _, .slice _ _ _]) ty45 rfl rfl rfl rfl (by simp)) ?_
  refine WD.any [2] (by kernel_rfl) rfl ⟨⟨_, rfl, rfl, ?_⟩, trivial⟩
  refine W.store (i := 1) (vs := [.int .i64 _, .int .i64 _, .slice _ _ _, .slice _ _ _, .string _, .bool _, .int .i64 _, .int .i64 _, .slice _ _ _, .slice _ _ _]) (L' := [.int .i64 _, .int .i64 _, .slice _ _ _, .slice _ _ _, .string _, .bool _, .int .i64 _, .int .i64 _, .slice _ _ _, .slice _ _ _]) ty45 rfl rfl rfl rfl rfl rfl rfl rfl ?_
  refine W.nil ⟨Le.rfl, (((List.Sublist.refl _).cons_cons _).cons _).cons _, _, (((List.Sublist.refl _).cons_cons _).cons _).cons _, List.Sublist.refl _, ?_⟩
  refine WD.any [3] (by kernel_rfl) rfl ⟨⟨_, rfl, rfl, ?_⟩, trivial⟩
  refine W.store (i := 0) (vs := [.int .i64 _, .int .i64 _, .slice _ _ _, .slice _ _ _, .string _, .bool _, .int .i64 _, .int .i64 _, .slice _ _ _, .slice _ _ _]) (L' := [.int .i64 _, .int .i64 _, .slice _ _ _, .slice _ _ _, .string _, .bool _, .int .i64 _, .int .i64 _, .slice _ _ _, .slice _ _ _]) ty45 rfl rfl rfl rfl rfl rfl rfl rfl ?_
  refine W.nil ⟨Le.rfl, (((List.Sublist.refl _).cons_cons _).cons _).cons _, _, (((List.Sublist.refl _).cons_cons _).cons _).cons _, List.Sublist.refl _, ?_⟩
  refine WD.done (by kernel_rfl) (thn_n ?_)
  refine WC.seq ?_
  refine WC.seq ?_
  refine WC.region ?_
  refine W.ok (ok_fieldB fd45_1 rfl) ?_
  refine W.ok (ok_loadB (i := 2) (vs := [.int .i64 _]) ty3 rfl rfl rfl rfl (by simp)) ?_
  refine W.ok (ok_eql rfl rfl) ?_
  refine W.nil (thn_n ?_)
  refine WC.cond (b := _) rfl (fun h10 => ?_) (fun h10 => ?_)
  · have p10 := of_decide_eq_true h10
    refine WC.seq ?_
    refine WC.region ?_
    refine W.ok (ok_fieldB fd45_9 rfl) ?_
    refine W.ok (ok_loadB (i := 2) (vs := [.slice _ _ _]) ty42 rfl rfl rfl rfl (by simp)) ?_
    refine W.call (Mp := []) (rowsh_fc hr_a) rfl (List.Perm.refl _) ?_
    intro _ G526 _ hG526 q529
    refine match q529 with | ⟨e_530, _, e_531, _, _, e_532, hv527, hv528⟩ => ?_
    subst e_530
    subst e_531
    subst e_532
    have q534 := hv527.form
    refine match q534 with | ⟨_, _, e_533⟩ => ?_
    subst e_533
    have q536 := hv528.form
    refine match q536 with | ⟨_, _, e_535⟩ => ?_
    subst e_535
    refine W.mv ?_
    refine W.ok (ok_extract rfl rfl) ?_
    refine W.ok (ok_extract rfl rfl) ?_
    refine W.ok (ok_extract rfl rfl) ?_
    refine W.ok (ok_extract rfl rfl) ?_
    refine W.ok (ok_fieldB fd45_9 rfl) ?_
    refine W.store (i := 1) (vs := [.slice _ _ _]) (L' := [.int .i64 _, .int .i64 _, .slice _ _ _, .slice _ _ _, .string _, .bool _, .int .i64 _, .int .i64 _, .slice _ _ _, .slice _ _ _]) ty42 rfl rfl rfl rfl rfl rfl rfl rfl ?_
    refine W.ok (ok_fieldB fd45_9 rfl) ?_
    refine W.store (i := 0) (vs := [.slice _ _ _]) (L' := [.int .i64 _, .int .i64 _, .slice _ _ _, .slice _ _ _, .string _, .bool _, .int .i64 _, .int .i64 _, .slice _ _ _, .slice _ _ _]) ty42 rfl rfl rfl rfl rfl rfl rfl rfl ?_
    refine W.as ?_
    refine W.as ?_
    refine W.nil (thn_n ?_)
    refine WC.seq ?_
    refine WC.drawW _ ((((List.Sublist.refl _).cons_cons _).cons _).cons _) mix (by rintro _ _ _ _ ⟨h | h, _⟩ <;> cases h) ?_
    refine WD.take 2 rfl rfl rfl (by kernel_rfl) (by kernel_rfl) (by kernel_rfl) (ok_mv) ?_
    refine WD.take 3 rfl rfl rfl (by kernel_rfl) (by kernel_rfl) (by kernel_rfl) (ok_mv) ?_
    refine WD.any [0, 1] (by kernel_rfl) rfl ⟨⟨_, rfl, rfl, ?_⟩, ⟨_, rfl, rfl, ?_⟩, trivial⟩
    · refine W.ok (ok_loadB (i := 1) (vs := [.int .i64 _, .int .i64 _, .slice _ _ _, .slice _ _ _, .string _, .bool _, .int .i64 _, .int .i64 _, .slice _ _ _, .slice _ _ _]) ty45 rfl rfl rfl rfl (by simp)) ?_
      refine W.nil ⟨Le.rfl, (((List.Sublist.refl _).cons_cons _).cons _).cons _, _, (((List.Sublist.refl _).cons_cons _).cons _).cons _, List.Sublist.refl _, ?_⟩
      refine WD.any [1, 4] (by kernel_rfl) rfl ⟨⟨_, rfl, rfl, ?_⟩, ⟨_, rfl, rfl, ?_⟩, trivial⟩
      · refine W.ok (ok_loadB (i := 0) (vs := [.int .i64 _, .int .i64 _, .slice _ _ _, .slice _ _ _, .string _, .bool _, .int .i64 _, .int .i64 _, .slice _ _ _, .slice _ _ _]) ty45 rfl rfl rfl rfl (by simp)) ?_
        refine W.nil ⟨Le.rfl, (((List.Sublist.refl _).cons_cons _).cons _).cons _, _, (((List.Sublist.refl _).cons_cons _).cons _).cons _, List.Sublist.refl _, ?_⟩
        refine WD.any [4] (by kernel_rfl) rfl ⟨⟨_, rfl, rfl, ?_⟩, trivial⟩
        refine W.store (i := 1) (vs := [.int .i64 _, .int .i64 _, .slice _ _ _, .slice _ _ _, .string _, .bool _, .int .i64 _, .int .i64 _, .slice _ _ _, .slice _ _ _]) (L' := [.int .i64 _, .int .i64 _, .slice _ _ _, .slice _ _ _, .string _, .bool _, .int .i64 _, .int .i64 _, .slice _ _ _, .slice _ _ _]) ty45 rfl rfl rfl rfl rfl rfl rfl rfl ?_
        refine W.nil ⟨Le.rfl, (((List.Sublist.refl _).cons_cons _).cons _).cons _, _, (((List.Sublist.refl _).cons_cons _).cons _).cons _, List.Sublist.refl _, ?_⟩
        refine WD.any [5] (by kernel_rfl) rfl ⟨⟨_, rfl, rfl, ?_⟩, trivial⟩
        refine W.store (i := 0) (vs := [.int .i64 _, .int .i64 _, .slice _ _ _, .slice _ _ _, .string _, .bool _, .int .i64 _, .int .i64 _, .slice _ _ _, .slice _ _ _]) (L' := [.int .i64 _, .int .i64 _, .slice _ _ _, .slice _ _ _, .string _, .bool _, .int .i64 _, .int .i64 _, .slice _ _ _, .slice _ _ _]) ty45 rfl rfl rfl rfl rfl rfl rfl rfl ?_
        refine W.nil ⟨Le.rfl, (((List.Sublist.refl _).cons_cons _).cons _).cons _, _, (((List.Sublist.refl _).cons_cons _).cons _).cons _, List.Sublist.refl _, ?_⟩
        refine WD.take 6 rfl rfl rfl (by kernel_rfl) (by kernel_rfl) (by kernel_rfl) (ok_as) ?_
        refine WD.take 7 rfl rfl rfl (by kernel_rfl) (by kernel_rfl) (by kernel_rfl) (ok_as) ?_
        refine WD.done (by kernel_rfl) (thn_n ?_)
        refine WC.ret (thn_r ?_)
        refine ⟨.inr rfl, [_, _, _, _], ⟨⟨_, _, _, _, _, rfl, nthM_mem (i := 1) rfl, ty45, (by simp), rfl, rfl⟩, ⟨_, _, _, _, _, rfl, nthM_mem (i := 0) rfl, ty45, (by simp), rfl, rfl⟩, rfl, rfl, trivial⟩, [], List.nil_sublist _, ?_⟩
        refine ⟨rfl, _, (halvesN_0 p10).symm, _, _, rfl, ?_, ?_⟩
        · exact ⟨_, _, _, _, _, _, _, _, rfl, (hp_a.mono hG526), (hk_a.mono hG526), (hm_a.mono hG526), hv527, hok_a⟩
        · exact ⟨_, _, _, _, _, _, _, _, rfl, (hp_a.mono hG526), (hk_a.mono hG526), (hm_a.mono hG526), hv528, hok_a⟩
      · refine W.store (i := 1) (vs := [.int .i64 _, .int .i64 _, .slice _ _ _, .slice _ _ _, .string _, .bool _, .int .i64 _, .int .i64 _, .slice _ _ _, .slice _ _ _]) (L' := [.int .i64 _, .int .i64 _, .slice _ _ _, .slice _ _ _, .string _, .bool _, .int .i64 _, .int .i64 _, .slice _ _ _, .slice _ _ _]) ty45 rfl rfl rfl rfl rfl rfl rfl rfl ?_
        refine W.nil ⟨Le.rfl, (((List.Sublist.refl _).cons_cons _).cons _).cons _, _, (((List.Sublist.refl _).cons_cons _).cons _).cons _, List.Sublist.refl _, ?_⟩
        refine WD.any [1] (by kernel_rfl) rfl ⟨⟨_, rfl, rfl, ?_⟩, trivial⟩
        refine W.ok (ok_loadB (i := 0) (vs := [.int .i64 _, .int .i64 _, .slice _ _ _, .slice _ _ _, .string _, .bool _, .int .i64 _, .int .i64 _, .slice _ _ _, .slice _ _ _]) ty45 rfl rfl rfl rfl (by simp)) ?_
        refine W.nil ⟨Le.rfl, (((List.Sublist.refl _).cons_cons _).cons _).cons _, _, (((List.Sublist.refl _).cons_cons _).cons _).cons _, List.Sublist.refl _, ?_⟩
        refine WD.any [5] (by kernel_rfl) rfl ⟨⟨_, rfl, rfl, ?_⟩, trivial⟩
        refine W.store (i := 0) (vs := [.int .i64 _, .int .i64 _, .slice _ _ _, .slice _ _ _, .string _, .bool _, .int .i64 _, .int .i64 _, .slice _ _ _, .slice _ _ _]) (L' := [.int .i64 _, .int .i64 _, .slice _ _ _, .slice _ _ _, .string _, .bool _, .int .i64 _, .int .i64 _, .slice _ _ _, .slice _ _ _]) ty45 rfl rfl rfl rfl rfl rfl rfl rfl ?_
        refine W.nil ⟨Le.rfl, (((List.Sublist.refl _).cons_cons _).cons _).cons _, _, (((List.Sublist.refl _).cons_cons _).cons _).cons _, List.Sublist.refl _, ?_⟩
        refine WD.take 6 rfl rfl rfl (by kernel_rfl) (by kernel_rfl) (by kernel_rfl) (ok_as) ?_
        refine WD.take 7 rfl rfl rfl (by kernel_rfl) (by kernel_rfl) (by kernel_rfl) (ok_as) ?_
        refine WD.done (by kernel_rfl) (thn_n ?_)
        refine WC.ret (thn_r ?_)
        refine ⟨.inr rfl, [_, _, _, _], ⟨⟨_, _, _, _, _, rfl, nthM_mem (i := 1) rfl, ty45, (by simp), rfl, rfl⟩, ⟨_, _, _, _, _, rfl, nthM_mem (i := 0) rfl, ty45, (by simp), rfl, rfl⟩, rfl, rfl, trivial⟩, [], List.nil_sublist _, ?_⟩
        refine ⟨rfl, _, (halvesN_0 p10).symm, _, _, rfl, ?_, ?_⟩
        · exact ⟨_, _, _, _, _, _, _, _, rfl, (hp_a.mono hG526), (hk_a.mono hG526), (hm_a.mono hG526), hv527, hok_a⟩
        · exact ⟨_, _, _, _, _, _, _, _, rfl, (hp_a.mono hG526), (hk_a.mono hG526), (hm_a.mono hG526), hv528, hok_a⟩
    · refine W.ok (ok_loadB (i := 0) (vs := [.int .i64 _, .int .i64 _, .slice _ _ _, .slice _ _ _, .string _, .bool _, .int .i64 _, .int .i64 _, .slice _ _ _, .slice _ _ _]) ty45 rfl rfl rfl rfl (by simp)) ?_
      refine W.nil ⟨Le.rfl, (((List.Sublist.refl _).cons_cons _).cons _).cons _, _, (((List.Sublist.refl _).cons_cons _).cons _).cons _, List.Sublist.refl _, ?_⟩
      refine WD.any [0] (by kernel_rfl) rfl ⟨⟨_, rfl, rfl, ?_⟩, trivial⟩
      refine W.ok (ok_loadB (i := 1) (vs := [.int .i64 _, .int .i64 _, .slice _ _ _, .slice _ _ _, .string _, .bool _, .int .i64 _, .int .i64 _, .slice _ _ _, .slice _ _ _]) ty45 rfl rfl rfl rfl (by simp)) ?_
      refine W.nil ⟨Le.rfl, (((List.Sublist.refl _).cons_cons _).cons _).cons _, _, (((List.Sublist.refl _).cons_cons _).cons _).cons _, List.Sublist.refl _, ?_⟩
      refine WD.any [4] (by kernel_rfl) rfl ⟨⟨_, rfl, rfl, ?_⟩, trivial⟩
      refine W.store (i := 1) (vs := [.int .i64 _, .int .i64 _, .slice _ _ _, .slice _ _ _, .string _, .bool _, .int .i64 _, .int .i64 _, .slice _ _ _, .slice _ _ _]) (L' := [.int .i64 _, .int .i64 _, .slice _ _ _, .slice _ _ _, .string _, .bool _, .int .i64 _, .int .i64 _, .slice _ _ _, .slice _ _ _]) ty45 rfl rfl rfl rfl rfl rfl rfl rfl ?_
      refine W.nil ⟨Le.rfl, (((List.Sublist.refl _).cons_cons _).cons _).cons _, _, (((List.Sublist.refl _).cons_cons _).cons _).cons _, List.Sublist.refl _, ?_⟩
      refine WD.any [5] (by kernel_rfl) rfl ⟨⟨_, rfl, rfl, ?_⟩, trivial⟩
      refine W.store (i := 0) (vs := [.int .i64 _, .int .i64 _, .slice _ _ _, .slice _ _ _, .string _, .bool _, .int .i64 _, .int .i64 _, .slice _ _ _, .slice _ _ _]) (L' := [.int .i64 _, .int .i64 _, .slice _ _ _, .slice _ _ _, .string _, .bool _, .int .i64 _, .int .i64 _, .slice _ _ _, .slice _ _ _]) ty45 rfl rfl rfl rfl rfl rfl rfl rfl ?_
      refine W.nil ⟨Le.rfl, (((List.Sublist.refl _).cons_cons _).cons _).cons _, _, (((List.Sublist.refl _).cons_cons _).cons _).cons _, List.Sublist.refl _, ?_⟩
      refine WD.take 6 rfl rfl rfl (by kernel_rfl) (by kernel_rfl) (by kernel_rfl) (ok_as) ?_
      refine WD.take 7 rfl rfl rfl (by kernel_rfl) (by kernel_rfl) (by kernel_rfl) (ok_as) ?_
      refine WD.done (by kernel_rfl) (thn_n ?_)
      refine WC.ret (thn_r ?_)
      refine ⟨.inr rfl, [_, _, _, _], ⟨⟨_, _, _, _, _, rfl, nthM_mem (i := 1) rfl, ty45, (by simp), rfl, rfl⟩, ⟨_, _, _, _, _, rfl, nthM_mem (i := 0) rfl, ty45, (by simp), rfl, rfl⟩, rfl, rfl, trivial⟩, [], List.nil_sublist _, ?_⟩
      refine ⟨rfl, _, (halvesN_0 p10).symm, _, _, rfl, ?_, ?_⟩
      · exact ⟨_, _, _, _, _, _, _, _, rfl, (hp_a.mono hG526), (hk_a.mono hG526), (hm_a.mono hG526), hv527, hok_a⟩
      · exact ⟨_, _, _, _, _, _, _, _, rfl, (hp_a.mono hG526), (hk_a.mono hG526), (hm_a.mono hG526), hv528, hok_a⟩
  · have p10 := of_decide_eq_false h10
    refine WC.skip (thn_n ?_)
    refine WC.seq ?_
    refine WC.seq ?_
    refine WC.region ?_
    refine W.ok (ok_fieldB fd45_2 rfl) ?_
    refine W.ok (ok_loadB (i := 2) (vs := [.slice _ _ _]) ty25 rfl rfl rfl rfl (by simp)) ?_
    refine W.ok (ok_fieldB fd45_3 rfl) ?_
    refine W.ok (ok_loadB (i := 2) (vs := [.slice _ _ _]) ty26 rfl rfl rfl rfl (by simp)) ?_
    refine W.qcall (bright_fc hp_a hk_a) rfl ?_
    refine W.ok (ok_not rfl) ?_
    refine W.nil (thn_n ?_)
    refine WC.cond (b := _) rfl (fun h30 => ?_) (fun h30 => ?_)
    · refine WC.seq ?_
      refine WC.drawW _ ((((List.Sublist.refl _).cons_cons _).cons _).cons _) mix (by rintro _ _ _ _ ⟨h | h, _⟩ <;> cases h) ?_
      refine WD.any [0, 1] (by kernel_rfl) rfl ⟨⟨_, rfl, rfl, ?_⟩, ⟨_, rfl, rfl, ?_⟩, trivial⟩
      · refine W.ok (ok_loadB (i := 1) (vs := [.int .i64 _, .int .i64 _, .slice _ _ _, .slice _ _ _, .string _, .bool _, .int .i64 _, .int .i64 _, .slice _ _ _, .slice _ _ _]) ty45 rfl rfl rfl rfl (by simp)) ?_
        refine W.nil ⟨Le.rfl, (((List.Sublist.refl _).cons_cons _).cons _).cons _, _, (((List.Sublist.refl _).cons_cons _).cons _).cons _, List.Sublist.refl _, ?_⟩
        refine WD.any [1, 2] (by kernel_rfl) rfl ⟨⟨_, rfl, rfl, ?_⟩, ⟨_, rfl, rfl, ?_⟩, trivial⟩
        · refine W.ok (ok_loadB (i := 0) (vs := [.int .i64 _, .int .i64 _, .slice _ _ _, .slice _ _ _, .string _, .bool _, .int .i64 _, .int .i64 _, .slice _ _ _, .slice _ _ _]) ty45 rfl rfl rfl rfl (by simp)) ?_
          refine W.nil ⟨Le.rfl, (((List.Sublist.refl _).cons_cons _).cons _).cons _, _, (((List.Sublist.refl _).cons_cons _).cons _).cons _, List.Sublist.refl _, ?_⟩
          refine WD.any [2] (by kernel_rfl) rfl ⟨⟨_, rfl, rfl, ?_⟩, trivial⟩
          refine W.store (i := 1) (vs := [.int .i64 _, .int .i64 _, .slice _ _ _, .slice _ _ _, .string _, .bool _, .int .i64 _, .int .i64 _, .slice _ _ _, .slice _ _ _]) (L' := [.int .i64 _, .int .i64 _, .slice _ _ _, .slice _ _ _, .string _, .bool _, .int .i64 _, .int .i64 _, .slice _ _ _, .slice _ _ _]) ty45 rfl rfl rfl rfl rfl rfl rfl rfl ?_
          refine W.nil ⟨Le.rfl, (((List.Sublist.refl _).cons_cons _).cons _).cons _, _, (((List.Sublist.refl _).cons_cons _).cons _).cons _, List.Sublist.refl _, ?_⟩
          refine WD.any [3] (by kernel_rfl) rfl ⟨⟨_, rfl, rfl, ?_⟩, trivial⟩
          refine W.store (i := 0) (vs := [.int .i64 _, .int .i64 _, .slice _ _ _, .slice _ _ _, .string _, .bool _, .int .i64 _, .int .i64 _, .slice _ _ _, .slice _ _ _]) (L' := [.int .i64 _, .int .i64 _, .slice _ _ _, .slice _ _ _, .string _, .bool _, .int .i64 _, .int .i64 _, .slice _ _ _, .slice _ _ _]) ty45 rfl rfl rfl rfl rfl rfl rfl rfl ?_
          refine W.nil ⟨Le.rfl, (((List.Sublist.refl _).cons_cons _).cons _).cons _, _, (((List.Sublist.refl _).cons_cons _).cons _).cons _, List.Sublist.refl _, ?_⟩
          refine WD.take 4 rfl rfl rfl (by kernel_rfl) (by kernel_rfl) (by kernel_rfl) (ok_as) ?_
          refine WD.take 5 rfl rfl rfl (by kernel_rfl) (by kernel_rfl) (by kernel_rfl) (ok_as) ?_
          refine WD.done (by kernel_rfl) (thn_n ?_)
          refine WC.ret (thn_r ?_)
          refine ⟨.inr rfl, [_, _, _, _], ⟨⟨_, _, _, _, _, rfl, nthM_mem (i := 1) rfl, ty45, (by simp), rfl, rfl⟩, ⟨_, _, _, _, _, rfl, nthM_mem (i := 0) rfl, ty45, (by simp), rfl, rfl⟩, rfl, rfl, trivial⟩, [], List.nil_sublist _, ?_⟩
          refine ⟨rfl, _, (halvesN_n p10 (by simpa using h30)).symm, _, _, rfl, ?_, ?_⟩
          · exact ⟨_, _, _, _, _, _, _, _, rfl, hp_a, hk_a, hm_a, hr_a, hok_a⟩
          · exact ⟨_, _, _, _, _, _, _, _, rfl, hp_a, hk_a, hm_a, hr_a, hok_a⟩
        · refine W.store (i := 1) (vs := [.int .i64 _, .int .i64 _, .slice _ _ _, .slice _ _ _, .string _, .bool _, .int .i64 _, .int .i64 _, .slice _ _ _, .slice _ _ _]) (L' := [.int .i64 _, .int .i64 _, .slice _ _ _, .slice _ _ _, .string _, .bool _, .int .i64 _, .int .i64 _, .slice _ _ _, .slice _ _ _]) ty45 rfl rfl rfl rfl rfl rfl rfl rfl ?_
          refine W.nil ⟨Le.rfl, (((List.Sublist.refl _).cons_cons _).cons _).cons _, _, (((List.Sublist.refl _).cons_cons _).cons _).cons _, List.Sublist.refl _, ?_⟩
          refine WD.any [1] (by kernel_rfl) rfl ⟨⟨_, rfl, rfl, ?_⟩, trivial⟩
          refine W.ok (ok_loadB (i := 0) (vs := [.int .i64 _, .int .i64 _, .slice _ _ _, .slice _ _ _, .string _, .bool _, .int .i64 _, .int .i64 _, .slice _ _ _, .slice _ _ _]) ty45 rfl rfl rfl rfl (by simp)) ?_
          refine W.nil ⟨Le.rfl, (((List.Sublist.refl _).cons_cons _).cons _).cons _, _, (((List.Sublist.refl _).cons_cons _).cons _).cons _, List.Sublist.refl _, ?_⟩
          refine WD.any [3] (by kernel_rfl) rfl ⟨⟨_, rfl, rfl, ?_⟩, trivial⟩
          refine W.store (i := 0) (vs := [.int .i64 _, .int .i64 _, .slice _ _ _, .slice _ _ _, .string _, .bool _, .int .i64 _, .int .i64 _, .slice _ _ _, .slice _ _ _]) (L' := [.int .i64 _, .int .i64 _, .slice _ _ _, .slice _ _ _, .string _, .bool _, .int .i64 _, .int .i64 _, .slice _ _ _, .slice _ _ _]) ty45 rfl rfl rfl rfl rfl rfl rfl rfl ?_
          refine W.nil ⟨Le.rfl, (((List.Sublist.refl _).cons_cons _).cons _).cons _, _, (((List.Sublist.refl _).cons_cons _).cons _).cons _, List.Sublist.refl _, ?_⟩
          refine WD.take 4 rfl rfl rfl (by kernel_rfl) (by kernel_rfl) (by kernel_rfl) (ok_as) ?_
          refine WD.take 5 rfl rfl rfl (by kernel_rfl) (by kernel_rfl) (by kernel_rfl) (ok_as) ?_
          refine WD.done (by kernel_rfl) (thn_n ?_)
          refine WC.ret (thn_r ?_)
          refine ⟨.inr rfl, [_, _, _, _], ⟨⟨_, _, _, _, _, rfl, nthM_mem (i := 1) rfl, ty45, (by simp), rfl, rfl⟩, ⟨_, _, _, _, _, rfl, nthM_mem (i := 0) rfl, ty45, (by simp), rfl, rfl⟩, rfl, rfl, trivial⟩, [], List.nil_sublist _, ?_⟩
          refine ⟨rfl, _, (halvesN_n p10 (by simpa using h30)).symm, _, _, rfl, ?_, ?_⟩
          · exact ⟨_, _, _, _, _, _, _, _, rfl, hp_a, hk_a, hm_a, hr_a, hok_a⟩
          · exact ⟨_, _, _, _, _, _, _, _, rfl, hp_a, hk_a, hm_a, hr_a, hok_a⟩
      · refine W.ok (ok_loadB (i := 0) (vs := [.int .i64 _, .int .i64 _, .slice _ _ _, .slice _ _ _, .string _, .bool _, .int .i64 _, .int .i64 _, .slice _ _ _, .slice _ _ _]) ty45 rfl rfl rfl rfl (by simp)) ?_
        refine W.nil ⟨Le.rfl, (((List.Sublist.refl _).cons_cons _).cons _).cons _, _, (((List.Sublist.refl _).cons_cons _).cons _).cons _, List.Sublist.refl _, ?_⟩
        refine WD.any [0] (by kernel_rfl) rfl ⟨⟨_, rfl, rfl, ?_⟩, trivial⟩
        refine W.ok (ok_loadB (i := 1) (vs := [.int .i64 _, .int .i64 _, .slice _ _ _, .slice _ _ _, .string _, .bool _, .int .i64 _, .int .i64 _, .slice _ _ _, .slice _ _ _]) ty45 rfl rfl rfl rfl (by simp)) ?_
        refine W.nil ⟨Le.rfl, (((List.Sublist.refl _).cons_cons _).cons _).cons _, _, (((List.Sublist.refl _).cons_cons _).cons _).cons _, List.Sublist.refl _, ?_⟩
        refine WD.any [2] (by kernel_rfl) rfl ⟨⟨_, rfl, rfl, ?_⟩, trivial⟩
        refine W.store (i := 1) (vs := [.int .i64 _, .int .i64 _, .slice _ _ _, .slice _ _ _, .string _, .bool _, .int .i64 _, .int .i64 _, .slice _ _ _, .slice _ _ _]) (L' := [.int .i64 _, .int .i64 _, .slice _ _ _, .slice _ _ _, .string _, .bool _, .int .i64 _, .int .i64 _, .slice _ _ _, .slice _ _ _]) ty45 rfl rfl rfl rfl rfl rfl rfl rfl ?_
        refine W.nil ⟨Le.rfl, (((List.Sublist.refl _).cons_cons _).cons _).cons _, _, (((List.Sublist.refl _).cons_cons _).cons _).cons _, List.Sublist.refl _, ?_⟩
        refine WD.any [3] (by kernel_rfl) rfl ⟨⟨_, rfl, rfl, ?_⟩, trivial⟩
        refine W.store (i := 0) (vs := [.int .i64 _, .int .i64 _, .slice _ _ _, .slice _ _ _, .string _, .bool _, .int .i64 _, .int .i64 _, .slice _ _ _, .slice _ _ _]) (L' := [.int .i64 _, .int .i64 _, .slice _ _ _, .slice _ _ _, .string _, .bool _, .int .i64 _, .int .i64 _, .slice _ _ _, .slice _ _ _]) ty45 rfl rfl rfl rfl rfl rfl rfl rfl ?_
        refine W.nil ⟨Le.rfl, (((List.Sublist.refl _).cons_cons _).cons _).cons _, _, (((List.Sublist.refl _).cons_cons _).cons _).cons _, List.Sublist.refl _, ?_⟩
        refine WD.take 4 rfl rfl rfl (by kernel_rfl) (by kernel_rfl) (by kernel_rfl) (ok_as) ?_
        refine WD.take 5 rfl rfl rfl (by kernel_rfl) (by kernel_rfl) (by kernel_rfl) (ok_as) ?_
        refine WD.done (by kernel_rfl) (thn_n ?_)
        refine WC.ret (thn_r ?_)
        refine ⟨.inr rfl, [_, _, _, _], ⟨⟨_, _, _, _, _, rfl, nthM_mem (i := 1) rfl, ty45, (by simp), rfl, rfl⟩, ⟨_, _, _, _, _, rfl, nthM_mem (i := 0) rfl, ty45, (by simp), rfl, rfl⟩, rfl, rfl, trivial⟩, [], List.nil_sublist _, ?_⟩
        refine ⟨rfl, _, (halvesN_n p10 (by simpa using h30)).symm, _, _, rfl, ?_, ?_⟩
        · exact ⟨_, _, _, _, _, _, _, _, rfl, hp_a, hk_a, hm_a, hr_a, hok_a⟩
        · exact ⟨_, _, _, _, _, _, _, _, rfl, hp_a, hk_a, hm_a, hr_a, hok_a⟩
    · refine WC.skip (thn_n ?_)
      refine WC.seq ?_
      refine WC.region ?_
      refine W.ok (ok_fieldB fd45_2 rfl) ?_
      refine W.ok (ok_loadB (i := 2) (vs := [.slice _ _ _]) ty25 rfl rfl rfl rfl (by simp)) ?_
      refine W.ok (ok_fieldB fd45_3 rfl) ?_
      refine W.ok (ok_loadB (i := 2) (vs := [.slice _ _ _]) ty26 rfl rfl rfl rfl (by simp)) ?_
      refine W.call (Mp := []) (bhalve_fc hp_a hk_a) rfl (List.Perm.refl _) ?_
      intro _ G537 _ hG537 q542
      refine match q542 with | ⟨e_543, _, e_544, _, _, _, _, e_545, hv538, hv539, hv540, hv541⟩ => ?_
      subst e_543
      subst e_544
      subst e_545
      have q547 := hv538.form
      refine match q547 with | ⟨_, _, e_546⟩ => ?_
      subst e_546
      have q549 := hv539.form
      refine match q549 with | ⟨_, _, e_548⟩ => ?_
      subst e_548
      have q551 := hv540.form
      refine match q551 with | ⟨_, _, e_550⟩ => ?_
      subst e_550
      have q553 := hv541.form
      refine match q553 with | ⟨_, _, e_552⟩ => ?_
      subst e_552
      refine W.mv ?_
      refine W.ok (ok_extract rfl rfl) ?_
      refine W.ok (ok_extract rfl rfl) ?_
      refine W.ok (ok_extract rfl rfl) ?_
      refine W.ok (ok_extract rfl rfl) ?_
      refine W.ok (ok_extract rfl rfl) ?_
      refine W.ok (ok_extract rfl rfl) ?_
      refine W.ok (ok_fieldB fd45_2 rfl) ?_
      refine W.store (i := 1) (vs := [.slice _ _ _]) (L' := [.int .i64 _, .int .i64 _, .slice _ _ _, .slice _ _ _, .string _, .bool _, .int .i64 _, .int .i64 _, .slice _ _ _, .slice _ _ _]) ty25 rfl rfl rfl rfl rfl rfl rfl rfl ?_
      refine W.ok (ok_fieldB fd45_3 rfl) ?_
      refine W.store (i := 1) (vs := [.slice _ _ _]) (L' := [.int .i64 _, .int .i64 _, .slice _ _ _, .slice _ _ _, .string _, .bool _, .int .i64 _, .int .i64 _, .slice _ _ _, .slice _ _ _]) ty26 rfl rfl rfl rfl rfl rfl rfl rfl ?_
      refine W.as ?_
      refine W.ok (ok_fieldB fd45_2 rfl) ?_
      refine W.store (i := 0) (vs := [.slice _ _ _]) (L' := [.int .i64 _, .int .i64 _, .slice _ _ _, .slice _ _ _, .string _, .bool _, .int .i64 _, .int .i64 _, .slice _ _ _, .slice _ _ _]) ty25 rfl rfl rfl rfl rfl rfl rfl rfl ?_
      refine W.ok (ok_fieldB fd45_3 rfl) ?_
      refine W.store (i := 0) (vs := [.slice _ _ _]) (L' := [.int .i64 _, .int .i64 _, .slice _ _ _, .slice _ _ _, .string _, .bool _, .int .i64 _, .int .i64 _, .slice _ _ _, .slice _ _ _]) ty26 rfl rfl rfl rfl rfl rfl rfl rfl ?_
      refine W.as ?_
      refine W.nil (thn_n ?_)
      refine WC.seq ?_
      refine WC.drawW _ ((((List.Sublist.refl _).cons_cons _).cons _).cons _) mix (by rintro _ _ _ _ ⟨h | h, _⟩ <;> cases h) ?_
      refine WD.take 0 rfl rfl rfl (by kernel_rfl) (by kernel_rfl) (by kernel_rfl) (ok_fieldB fd45_8 rfl) ?_
      refine WD.take 1 rfl rfl rfl (by kernel_rfl) (by kernel_rfl) (by kernel_rfl) (ok_loadB (i := 0) (vs := [.slice _ _ _]) ty43 rfl rfl rfl rfl (by simp)) ?_
      refine WD.take 2 rfl rfl rfl (by kernel_rfl) (by kernel_rfl) (by kernel_rfl) (ok_mv) ?_
      refine WD.take 3 rfl rfl rfl (by kernel_rfl) (by kernel_rfl) (by kernel_rfl) (ok_build (L := [.string _, .string _, .bool _]) pl32 zr32 rfl rfl rfl) ?_
      refine WD.take 5 rfl rfl rfl (by kernel_rfl) (by kernel_rfl) (by kernel_rfl) (ok_fieldB fd45_8 rfl) ?_
      refine WD.take 6 rfl rfl rfl (by kernel_rfl) (by kernel_rfl) (by kernel_rfl) (ok_loadB (i := 0) (vs := [.slice _ _ _]) ty43 rfl rfl rfl rfl (by simp)) ?_
      refine WD.take 7 rfl rfl rfl (by kernel_rfl) (by kernel_rfl) (by kernel_rfl) (ok_mv) ?_
      refine WD.take 8 rfl rfl rfl (by kernel_rfl) (by kernel_rfl) (by kernel_rfl) (ok_build (L := [.string _, .string _, .bool _]) pl32 zr32 rfl rfl rfl) ?_
      refine WD.any [4] (by kernel_rfl) rfl ⟨⟨_, rfl, rfl, ?_⟩, trivial⟩
      refine W.call (Mp := []) (bclips_fc (hm_a.mono hG537) Str.nil _ _ (by assumption)) rfl (List.Perm.refl _) ?_
      intro _ G554 _ hG554 q556
      refine match q556 with | ⟨e_557, _, e_558, hv555⟩ => ?_
      subst e_557
      subst e_558
      have q560 := hv555.form
      refine match q560 with | ⟨_, _, e_559⟩ => ?_
      subst e_559
      refine W.nil ⟨hG554, (((List.Sublist.refl _).cons_cons _).cons _).cons _, _, (((List.Sublist.refl _).cons_cons _).cons _).cons _, List.Sublist.refl _, ?_⟩
      refine WD.take 10 rfl rfl rfl (by kernel_rfl) (by kernel_rfl) (by kernel_rfl) (ok_fieldB fd45_8 rfl) ?_
      refine WD.any [9] (by kernel_rfl) rfl ⟨⟨_, rfl, rfl, ?_⟩, trivial⟩
      refine W.call (Mp := []) (bclips_fc (hm_a.mono (hG537.trans hG554)) _ Str.nil _ (by assumption)) rfl (List.Perm.refl _) ?_
      intro _ G561 _ hG561 q563
      refine match q563 with | ⟨e_564, _, e_565, hv562⟩ => ?_
      subst e_564
      subst e_565
      have q567 := hv562.form
      refine match q567 with | ⟨_, _, e_566⟩ => ?_
      subst e_566
      refine W.nil ⟨hG561, (((List.Sublist.refl _).cons_cons _).cons _).cons _, _, (((List.Sublist.refl _).cons_cons _).cons _).cons _, List.Sublist.refl _, ?_⟩
      refine WD.any [11] (by kernel_rfl) rfl ⟨⟨_, rfl, rfl, ?_⟩, trivial⟩
      refine W.store (i := 1) (vs := [.slice _ _ _]) (L' := [.int .i64 _, .int .i64 _, .slice _ _ _, .slice _ _ _, .string _, .bool _, .int .i64 _, .int .i64 _, .slice _ _ _, .slice _ _ _]) ty43 rfl rfl rfl rfl rfl rfl rfl rfl ?_
      refine W.nil ⟨Le.rfl, (((List.Sublist.refl _).cons_cons _).cons _).cons _, _, (((List.Sublist.refl _).cons_cons _).cons _).cons _, List.Sublist.refl _, ?_⟩
      refine WD.take 12 rfl rfl rfl (by kernel_rfl) (by kernel_rfl) (by kernel_rfl) (ok_fieldB fd45_8 rfl) ?_
      refine WD.any [13] (by kernel_rfl) rfl ⟨⟨_, rfl, rfl, ?_⟩, trivial⟩
      refine W.store (i := 0) (vs := [.slice _ _ _]) (L' := [.int .i64 _, .int .i64 _, .slice _ _ _, .slice _ _ _, .string _, .bool _, .int .i64 _, .int .i64 _, .slice _ _ _, .slice _ _ _]) ty43 rfl rfl rfl rfl rfl rfl rfl rfl ?_
      refine W.nil ⟨Le.rfl, (((List.Sublist.refl _).cons_cons _).cons _).cons _, _, (((List.Sublist.refl _).cons_cons _).cons _).cons _, List.Sublist.refl _, ?_⟩
      refine WD.done (by kernel_rfl) (thn_n ?_)
      refine WC.seq ?_
      refine WC.drawW _ ((((List.Sublist.refl _).cons_cons _).cons _).cons _) mix (by rintro _ _ _ _ ⟨h | h, _⟩ <;> cases h) ?_
      refine WD.take 2 rfl rfl rfl (by kernel_rfl) (by kernel_rfl) (by kernel_rfl) (ok_mv) ?_
      refine WD.take 3 rfl rfl rfl (by kernel_rfl) (by kernel_rfl) (by kernel_rfl) (ok_mv) ?_
      refine WD.any [0, 1] (by kernel_rfl) rfl ⟨⟨_, rfl, rfl, ?_⟩, ⟨_, rfl, rfl, ?_⟩, trivial⟩
      · refine W.ok (ok_loadB (i := 1) (vs := [.int .i64 _, .int .i64 _, .slice _ _ _, .slice _ _ _, .string _, .bool _, .int .i64 _, .int .i64 _, .slice _ _ _, .slice _ _ _]) ty45 rfl rfl rfl rfl (by simp)) ?_
        refine W.nil ⟨Le.rfl, (((List.Sublist.refl _).cons_cons _).cons _).cons _, _, (((List.Sublist.refl _).cons_cons _).cons _).cons _, List.Sublist.refl _, ?_⟩
        refine WD.any [1, 4] (by kernel_rfl) rfl ⟨⟨_, rfl, rfl, ?_⟩, ⟨_, rfl, rfl, ?_⟩, trivial⟩
        · refine W.ok (ok_loadB (i := 0) (vs := [.int .i64 _, .int .i64 _, .slice _ _ _, .slice _ _ _, .string _, .bool _, .int .i64 _, .int .i64 _, .slice _ _ _, .slice _ _ _]) ty45 rfl rfl rfl rfl (by simp)) ?_
          refine W.nil ⟨Le.rfl, (((List.Sublist.refl _).cons_cons _).cons _).cons _, _, (((List.Sublist.refl _).cons_cons _).cons _).cons _, List.Sublist.refl _, ?_⟩
          refine WD.any [4] (by kernel_rfl) rfl ⟨⟨_, rfl, rfl, ?_⟩, trivial⟩
          refine W.store (i := 1) (vs := [.int .i64 _, .int .i64 _, .slice _ _ _, .slice _ _ _, .string _, .bool _, .int .i64 _, .int .i64 _, .slice _ _ _, .slice _ _ _]) (L' := [.int .i64 _, .int .i64 _, .slice _ _ _, .slice _ _ _, .string _, .bool _, .int .i64 _, .int .i64 _, .slice _ _ _, .slice _ _ _]) ty45 rfl rfl rfl rfl rfl rfl rfl rfl ?_
          refine W.nil ⟨Le.rfl, (((List.Sublist.refl _).cons_cons _).cons _).cons _, _, (((List.Sublist.refl _).cons_cons _).cons _).cons _, List.Sublist.refl _, ?_⟩
          refine WD.any [5] (by kernel_rfl) rfl ⟨⟨_, rfl, rfl, ?_⟩, trivial⟩
          refine W.store (i := 0) (vs := [.int .i64 _, .int .i64 _, .slice _ _ _, .slice _ _ _, .string _, .bool _, .int .i64 _, .int .i64 _, .slice _ _ _, .slice _ _ _]) (L' := [.int .i64 _, .int .i64 _, .slice _ _ _, .slice _ _ _, .string _, .bool _, .int .i64 _, .int .i64 _, .slice _ _ _, .slice _ _ _]) ty45 rfl rfl rfl rfl rfl rfl rfl rfl ?_
          refine W.nil ⟨Le.rfl, (((List.Sublist.refl _).cons_cons _).cons _).cons _, _, (((List.Sublist.refl _).cons_cons _).cons _).cons _, List.Sublist.refl _, ?_⟩
          refine WD.take 6 rfl rfl rfl (by kernel_rfl) (by kernel_rfl) (by kernel_rfl) (ok_as) ?_
          refine WD.take 7 rfl rfl rfl (by kernel_rfl) (by kernel_rfl) (by kernel_rfl) (ok_as) ?_
          refine WD.done (by kernel_rfl) (thn_n ?_)
          refine WC.ret ?_
          refine ⟨.inr rfl, [_, _, _, _], ⟨⟨_, _, _, _, _, rfl, nthM_mem (i := 1) rfl, ty45, (by simp), rfl, rfl⟩, ⟨_, _, _, _, _, rfl, nthM_mem (i := 0) rfl, ty45, (by simp), rfl, rfl⟩, rfl, rfl, trivial⟩, [], List.nil_sublist _, ?_⟩
          refine ⟨rfl, _, (halvesN_k p10 (by simpa using h30)).symm, _, _, rfl, ?_, ?_⟩
          · exact ⟨_, _, _, _, _, _, _, _, rfl, (hv538.mono (hG554.trans hG561)), (hv539.mono (hG554.trans hG561)), (hv555.mono hG561), (hr_a.mono ((hG537.trans hG554).trans hG561)), hok_a⟩
          · exact ⟨_, _, _, _, _, _, _, _, rfl, (hv540.mono (hG554.trans hG561)), (hv541.mono (hG554.trans hG561)), hv562, (hr_a.mono ((hG537.trans hG554).trans hG561)), hok_a⟩
        · refine W.store (i := 1) (vs := [.int .i64 _, .int .i64 _, .slice _ _ _, .slice _ _ _, .string _, .bool _, .int .i64 _, .int .i64 _, .slice _ _ _, .slice _ _ _]) (L' := [.int .i64 _, .int .i64 _, .slice _ _ _, .slice _ _ _, .string _, .bool _, .int .i64 _, .int .i64 _, .slice _ _ _, .slice _ _ _]) ty45 rfl rfl rfl rfl rfl rfl rfl rfl ?_
          refine W.nil ⟨Le.rfl, (((List.Sublist.refl _).cons_cons _).cons _).cons _, _, (((List.Sublist.refl _).cons_cons _).cons _).cons _, List.Sublist.refl _, ?_⟩
          refine WD.any [1] (by kernel_rfl) rfl ⟨⟨_, rfl, rfl, ?_⟩, trivial⟩
          refine W.ok (ok_loadB (i := 0) (vs := [.int .i64 _, .int .i64 _, .slice _ _ _, .slice _ _ _, .string _, .bool _, .int .i64 _, .int .i64 _, .slice _ _ _, .slice _ _ _]) ty45 rfl rfl rfl rfl (by simp)) ?_
          refine W.nil ⟨Le.rfl, (((List.Sublist.refl _).cons_cons _).cons _).cons _, _, (((List.Sublist.refl _).cons_cons _).cons _).cons _, List.Sublist.refl _, ?_⟩
          refine WD.any [5] (by kernel_rfl) rfl ⟨⟨_, rfl, rfl, ?_⟩, trivial⟩
          refine W.store (i := 0) (vs := [.int .i64 _, .int .i64 _, .slice _ _ _, .slice _ _ _, .string _, .bool _, .int .i64 _, .int .i64 _, .slice _ _ _, .slice _ _ _]) (L' := [.int .i64 _, .int .i64 _, .slice _ _ _, .slice _ _ _, .string _, .bool _, .int .i64 _, .int .i64 _, .slice _ _ _, .slice _ _ _]) ty45 rfl rfl rfl rfl rfl rfl rfl rfl ?_
          refine W.nil ⟨Le.rfl, (((List.Sublist.refl _).cons_cons _).cons _).cons _, _, (((List.Sublist.refl _).cons_cons _).cons _).cons _, List.Sublist.refl _, ?_⟩
          refine WD.take 6 rfl rfl rfl (by kernel_rfl) (by kernel_rfl) (by kernel_rfl) (ok_as) ?_
          refine WD.take 7 rfl rfl rfl (by kernel_rfl) (by kernel_rfl) (by kernel_rfl) (ok_as) ?_
          refine WD.done (by kernel_rfl) (thn_n ?_)
          refine WC.ret ?_
          refine ⟨.inr rfl, [_, _, _, _], ⟨⟨_, _, _, _, _, rfl, nthM_mem (i := 1) rfl, ty45, (by simp), rfl, rfl⟩, ⟨_, _, _, _, _, rfl, nthM_mem (i := 0) rfl, ty45, (by simp), rfl, rfl⟩, rfl, rfl, trivial⟩, [], List.nil_sublist _, ?_⟩
          refine ⟨rfl, _, (halvesN_k p10 (by simpa using h30)).symm, _, _, rfl, ?_, ?_⟩
          · exact ⟨_, _, _, _, _, _, _, _, rfl, (hv538.mono (hG554.trans hG561)), (hv539.mono (hG554.trans hG561)), (hv555.mono hG561), (hr_a.mono ((hG537.trans hG554).trans hG561)), hok_a⟩
          · exact ⟨_, _, _, _, _, _, _, _, rfl, (hv540.mono (hG554.trans hG561)), (hv541.mono (hG554.trans hG561)), hv562, (hr_a.mono ((hG537.trans hG554).trans hG561)), hok_a⟩
      · refine W.ok (ok_loadB (i := 0) (vs := [.int .i64 _, .int .i64 _, .slice _ _ _, .slice _ _ _, .string _, .bool _, .int .i64 _, .int .i64 _, .slice _ _ _, .slice _ _ _]) ty45 rfl rfl rfl rfl (by simp)) ?_
        refine W.nil ⟨Le.rfl, (((List.Sublist.refl _).cons_cons _).cons _).cons _, _, (((List.Sublist.refl _).cons_cons _).cons _).cons _, List.Sublist.refl _, ?_⟩
        refine WD.any [0] (by kernel_rfl) rfl ⟨⟨_, rfl, rfl, ?_⟩, trivial⟩
        refine W.ok (ok_loadB (i := 1) (vs := [.int .i64 _, .int .i64 _, .slice _ _ _, .slice _ _ _, .string _, .bool _, .int .i64 _, .int .i64 _, .slice _ _ _, .slice _ _ _]) ty45 rfl rfl rfl rfl (by simp)) ?_
        refine W.nil ⟨Le.rfl, (((List.Sublist.refl _).cons_cons _).cons _).cons _, _, (((List.Sublist.refl _).cons_cons _).cons _).cons _, List.Sublist.refl _, ?_⟩
        refine WD.any [4] (by kernel_rfl) rfl ⟨⟨_, rfl, rfl, ?_⟩, trivial⟩
        refine W.store (i := 1) (vs := [.int .i64 _, .int .i64 _, .slice _ _ _, .slice _ _ _, .string _, .bool _, .int .i64 _, .int .i64 _, .slice _ _ _, .slice _ _ _]) (L' := [.int .i64 _, .int .i64 _, .slice _ _ _, .slice _ _ _, .string _, .bool _, .int .i64 _, .int .i64 _, .slice _ _ _, .slice _ _ _]) ty45 rfl rfl rfl rfl rfl rfl rfl rfl ?_
        refine W.nil ⟨Le.rfl, (((List.Sublist.refl _).cons_cons _).cons _).cons _, _, (((List.Sublist.refl _).cons_cons _).cons _).cons _, List.Sublist.refl _, ?_⟩
        refine WD.any [5] (by kernel_rfl) rfl ⟨⟨_, rfl, rfl, ?_⟩, trivial⟩
        refine W.store (i := 0) (vs := [.int .i64 _, .int .i64 _, .slice _ _ _, .slice _ _ _, .string _, .bool _, .int .i64 _, .int .i64 _, .slice _ _ _, .slice _ _ _]) (L' := [.int .i64 _, .int .i64 _, .slice _ _ _, .slice _ _ _, .string _, .bool _, .int .i64 _, .int .i64 _, .slice _ _ _, .slice _ _ _]) ty45 rfl rfl rfl rfl rfl rfl rfl rfl ?_
        refine W.nil ⟨Le.rfl, (((List.Sublist.refl _).cons_cons _).cons _).cons _, _, (((List.Sublist.refl _).cons_cons _).cons _).cons _, List.Sublist.refl _, ?_⟩
        refine WD.take 6 rfl rfl rfl (by kernel_rfl) (by kernel_rfl) (by kernel_rfl) (ok_as) ?_
        refine WD.take 7 rfl rfl rfl (by kernel_rfl) (by kernel_rfl) (by kernel_rfl) (ok_as) ?_
        refine WD.done (by kernel_rfl) (thn_n ?_)
        refine WC.ret ?_
        refine ⟨.inr rfl, [_, _, _, _], ⟨⟨_, _, _, _, _, rfl, nthM_mem (i := 1) rfl, ty45, (by simp), rfl, rfl⟩, ⟨_, _, _, _, _, rfl, nthM_mem (i := 0) rfl, ty45, (by simp), rfl, rfl⟩, rfl, rfl, trivial⟩, [], List.nil_sublist _, ?_⟩
        refine ⟨rfl, _, (halvesN_k p10 (by simpa using h30)).symm, _, _, rfl, ?_, ?_⟩
        · exact ⟨_, _, _, _, _, _, _, _, rfl, (hv538.mono (hG554.trans hG561)), (hv539.mono (hG554.trans hG561)), (hv555.mono hG561), (hr_a.mono ((hG537.trans hG554).trans hG561)), hok_a⟩
        · exact ⟨_, _, _, _, _, _, _, _, rfl, (hv540.mono (hG554.trans hG561)), (hv541.mono (hG554.trans hG561)), hv562, (hr_a.mono ((hG537.trans hG554).trans hG561)), hok_a⟩

theorem ncleave_fc {G : GH} {cs_a : List Value} {a : Nd} (h_a : NodeC G cs_a a) (i : Int) (hi : i64 i) (hks : ∀ m ∈ a.msgs, m.key.b.size < 140737488355328) :
    Fc Try.prog 53 [.agg (List.toArray cs_a), .int .i64 i] G [] (fun v G' M' => M' = [] ∧ ∃ r : Nd × Nd × Str × Bool, r = cleaveN a i ∧ ∃ u0 u1, v = .tuple #[.agg (List.toArray u0), .agg (List.toArray u1), .string (Str.b (r.2.2.1)), .bool (r.2.2.2)] ∧ NodeC G' u0 (r.1) ∧ NodeC G' u1 (r.2.1)) := by
  obtain ⟨_, _, _, _, _, _, _, _, rfl, hp_a, hk_a, hm_a, hr_a, hok_a⟩ := h_a
  refine Fc.intro (rs := [.cell 4 45, .cell 5 45, .tmp 6, .tmp 7]) cl53 Try.func53 rfl Try.ntmps53 rfl rfl (fun w0 => ?_)
  refine WC.seq ?_
  refine WC.region ?_
  refine W.box (L := [.int .i64 _, .int .i64 _, .slice _ _ _, .slice _ _ _, .string _, .bool _, .int .i64 _, .int .i64 _, .slice _ _ _, .slice _ _ _]) rfl rfl (fun b568 => ?_)
  refine W.alloc zr45 (fun b569 => ?_)
  refine W.alloc zr45 (fun b570 => ?_)
  refine W.as ?_
  refine W.as ?_
  refine W.nil (thn_n ?_)
  refine WC.seq ?_
  refine WC.region ?_
  refine W.ok (ok_loadB (i := 2) (vs := [.int .i64 _, .int .i64 _, .slice _ _ _, .slice _ _ _, .string _, .bool _, .int .i64 _, .int .i64 _, .slice _ _ _, .slice _ _ _]) ty45 rfl rfl rfl rfl (by simp)) ?_
  refine W.call (Mp := []) (nhalves_fc ⟨_, _, _, _, _, _, _, _, rfl, hp_a, hk_a, hm_a, hr_a, hok_a⟩ (by assumption)) rfl (List.Perm.refl _) ?_
  intro _ G571 _ hG571 q574
  refine match q574 with | ⟨e_575, _, e_576, _, _, e_577, hv572, hv573⟩ => ?_
  subst e_575
  subst e_576
  subst e_577
  refine match hv572 with | ⟨_, _, _, _, _, _, _, _, e_578, hp_hv572, hk_hv572, hm_hv572, hr_hv572, hok_hv572⟩ => ?_
  subst e_578
  refine match hv573 with | ⟨_, _, _, _, _, _, _, _, e_579, hp_hv573, hk_hv573, hm_hv573, hr_hv573, hok_hv573⟩ => ?_
  subst e_579
  refine W.mv ?_
  refine W.ok (ok_extract rfl rfl) ?_
  refine W.ok (ok_extract rfl rfl) ?_
  refine W.ok (ok_extract rfl rfl) ?_
  refine W.ok (ok_extract rfl rfl) ?_
  refine W.store (i := 1) (vs := [.int .i64 _, .int .i64 _, .slice _ _ _, .slice _ _ _, .string _, .bool _, .int .i64 _, .int .i64 _, .slice _ _ _, .slice _ _ _]) (L' := [.int .i64 _, .int .i64 _, .slice _ _ _, .slice _ _ _, .string _, .bool _, .int .i64 _, .int .i64 _, .slice _ _ _, .slice _ _ _]) ty45 rfl rfl rfl rfl rfl rfl rfl rfl ?_
  refine W.store (i := 0) (vs := [.int .i64 _, .int .i64 _, .slice _ _ _, .slice _ _ _, .string _, .bool _, .int .i64 _, .int .i64 _, .slice _ _ _, .slice _ _ _]) (L' := [.int .i64 _, .int .i64 _, .slice _ _ _, .slice _ _ _, .string _, .bool _, .int .i64 _, .int .i64 _, .slice _ _ _, .slice _ _ _]) ty45 rfl rfl rfl rfl rfl rfl rfl rfl ?_
  refine W.as ?_
  refine W.as ?_
  refine W.nil (thn_n ?_)
  refine WC.seq ?_
  refine WC.seq ?_
  refine WC.region ?_
  refine W.mv ?_
  refine W.ok (ok_not rfl) ?_
  refine W.nil (thn_n ?_)
  refine WC.cond (b := _) rfl (fun h16 => ?_) (fun h16 => ?_)
  · refine WC.seq ?_
    refine WC.region ?_
    refine W.ok (ok_build (L := [.int .i64 _, .int .i64 _, .slice _ _ _, .slice _ _ _, .string _, .bool _, .int .i64 _, .int .i64 _, .slice _ _ _, .slice _ _ _]) pl45 zr45 rfl rfl rfl) ?_
    refine W.ok (ok_build (L := [.int .i64 _, .int .i64 _, .slice _ _ _, .slice _ _ _, .string _, .bool _, .int .i64 _, .int .i64 _, .slice _ _ _, .slice _ _ _]) pl45 zr45 rfl rfl rfl) ?_
    refine W.store (i := 1) (vs := [.int .i64 _, .int .i64 _, .slice _ _ _, .slice _ _ _, .string _, .bool _, .int .i64 _, .int .i64 _, .slice _ _ _, .slice _ _ _]) (L' := [.int .i64 _, .int .i64 _, .slice _ _ _, .slice _ _ _, .string _, .bool _, .int .i64 _, .int .i64 _, .slice _ _ _, .slice _ _ _]) ty45 rfl rfl rfl rfl rfl rfl rfl rfl ?_
    refine W.store (i := 0) (vs := [.int .i64 _, .int .i64 _, .slice _ _ _, .slice _ _ _, .string _, .bool _, .int .i64 _, .int .i64 _, .slice _ _ _, .slice _ _ _]) (L' := [.int .i64 _, .int .i64 _, .slice _ _ _, .slice _ _ _, .string _, .bool _, .int .i64 _, .int .i64 _, .slice _ _ _, .slice _ _ _]) ty45 rfl rfl rfl rfl rfl rfl rfl rfl ?_
    refine W.as ?_
    refine W.as ?_
    refine W.nil (thn_n ?_)
    refine WC.ret (thn_r ?_)
    refine ⟨.inr rfl, [_, _, _, _], ⟨⟨_, _, _, _, _, rfl, nthM_mem (i := 1) rfl, ty45, (by simp), rfl, rfl⟩, ⟨_, _, _, _, _, rfl, nthM_mem (i := 0) rfl, ty45, (by simp), rfl, rfl⟩, rfl, rfl, trivial⟩, [], List.nil_sublist _, ?_⟩
    refine ⟨rfl, _, (cleaveN_f (by simpa using h16)).symm, _, _, rfl, ?_, ?_⟩
    · exact ⟨_, _, _, _, _, _, _, _, rfl, SlR.nil, SlR.nil, SlR.nil, SlR.nil, Nd.zero_ok⟩
    · exact ⟨_, _, _, _, _, _, _, _, rfl, SlR.nil, SlR.nil, SlR.nil, SlR.nil, Nd.zero_ok⟩
  · refine WC.skip (thn_n ?_)
    refine WC.seq ?_
    refine WC.region ?_
    refine W.mv ?_
    refine W.mv ?_
    refine W.ok (ok_fieldB fd45_4 rfl) ?_
    refine W.store (i := 1) (vs := [.string _]) (L' := [.int .i64 _, .int .i64 _, .slice _ _ _, .slice _ _ _, .string _, .bool _, .int .i64 _, .int .i64 _, .slice _ _ _, .slice _ _ _]) ty9 rfl rfl rfl rfl rfl rfl rfl rfl ?_
    refine W.ok (ok_fieldB fd45_5 rfl) ?_
    refine W.store (i := 1) (vs := [.bool _]) (L' := [.int .i64 _, .int .i64 _, .slice _ _ _, .slice _ _ _, .string _, .bool _, .int .i64 _, .int .i64 _, .slice _ _ _, .slice _ _ _]) ty4 rfl rfl rfl rfl rfl rfl rfl rfl ?_
    refine W.ok (ok_fieldB fd45_6 rfl) ?_
    refine W.store (i := 1) (vs := [.int .i64 _]) (L' := [.int .i64 _, .int .i64 _, .slice _ _ _, .slice _ _ _, .string _, .bool _, .int .i64 _, .int .i64 _, .slice _ _ _, .slice _ _ _]) ty3 rfl rfl rfl rfl rfl rfl rfl rfl ?_
    refine W.nil (thn_n ?_)
    refine WC.seq ?_
    refine WC.region ?_
    refine W.mv ?_
    refine W.ok (ok_fieldB fd45_0 rfl) ?_
    refine W.store (i := 0) (vs := [.int .i64 _]) (L' := [.int .i64 _, .int .i64 _, .slice _ _ _, .slice _ _ _, .string _, .bool _, .int .i64 _, .int .i64 _, .slice _ _ _, .slice _ _ _]) ty3 rfl rfl rfl rfl rfl rfl rfl rfl ?_
    refine W.nil (thn_n ?_)
    refine WC.seq ?_
    refine WC.drawW _ ((((List.Sublist.refl _).cons_cons _).cons _).cons _) mix (by rintro _ _ _ _ ⟨h | h, _⟩ <;> cases h) ?_
    refine WD.take 4 rfl rfl rfl (by kernel_rfl) (by kernel_rfl) (by kernel_rfl) (ok_mv) ?_
    refine WD.any [0, 2] (by kernel_rfl) rfl ⟨⟨_, rfl, rfl, ?_⟩, ⟨_, rfl, rfl, ?_⟩, trivial⟩
    · refine W.ok (ok_loadB (i := 1) (vs := [.int .i64 _, .int .i64 _, .slice _ _ _, .slice _ _ _, .string _, .bool _, .int .i64 _, .int .i64 _, .slice _ _ _, .slice _ _ _]) ty45 rfl rfl rfl rfl (by simp)) ?_
      refine W.nil ⟨Le.rfl, (((List.Sublist.refl _).cons_cons _).cons _).cons _, _, (((List.Sublist.refl _).cons_cons _).cons _).cons _, List.Sublist.refl _, ?_⟩
      refine WD.any [1, 2] (by kernel_rfl) rfl ⟨⟨_, rfl, rfl, ?_⟩, ⟨_, rfl, rfl, ?_⟩, trivial⟩
      · refine W.call (Mp := []) (ncopy_fc (show NodeC _ _ { (halvesN a).1 with high := (halvesN a).2.2.1, top := false, right := i } from ⟨_, _, _, _, _, _, _, _, rfl, hp_hv572, hk_hv572, hm_hv572, hr_hv572, (ok_left (by assumption) hi)⟩)) rfl (List.Perm.refl _) ?_
        intro _ G580 _ hG580 q582
        refine match q582 with | ⟨e_583, _, e_584, hv581⟩ => ?_
        subst e_583
        subst e_584
        refine match hv581 with | ⟨_, _, _, _, _, _, _, _, e_585, hp_hv581, hk_hv581, hm_hv581, hr_hv581, hok_hv581⟩ => ?_
        subst e_585
        refine W.nil ⟨hG580, (((List.Sublist.refl _).cons_cons _).cons _).cons _, _, (((List.Sublist.refl _).cons_cons _).cons _).cons _, List.Sublist.refl _, ?_⟩
        refine WD.any [2] (by kernel_rfl) rfl ⟨⟨_, rfl, rfl, ?_⟩, trivial⟩
        refine W.ok (ok_loadB (i := 0) (vs := [.int .i64 _, .int .i64 _, .slice _ _ _, .slice _ _ _, .string _, .bool _, .int .i64 _, .int .i64 _, .slice _ _ _, .slice _ _ _]) ty45 rfl rfl rfl rfl (by simp)) ?_
        refine W.nil ⟨Le.rfl, (((List.Sublist.refl _).cons_cons _).cons _).cons _, _, (((List.Sublist.refl _).cons_cons _).cons _).cons _, List.Sublist.refl _, ?_⟩
        refine WD.any [3] (by kernel_rfl) rfl ⟨⟨_, rfl, rfl, ?_⟩, trivial⟩
        refine W.call (Mp := []) (ncopy_fc (show NodeC _ _ { (halvesN a).2.1 with slot := i } from ⟨_, _, _, _, _, _, _, _, rfl, (hp_hv573.mono hG580), (hk_hv573.mono hG580), (hm_hv573.mono hG580), (hr_hv573.mono hG580), (ok_right (by assumption) hi)⟩)) rfl (List.Perm.refl _) ?_
        intro _ G586 _ hG586 q588
        refine match q588 with | ⟨e_589, _, e_590, hv587⟩ => ?_
        subst e_589
        subst e_590
        refine match hv587 with | ⟨_, _, _, _, _, _, _, _, e_591, hp_hv587, hk_hv587, hm_hv587, hr_hv587, hok_hv587⟩ => ?_
        subst e_591
        refine W.nil ⟨hG586, (((List.Sublist.refl _).cons_cons _).cons _).cons _, _, (((List.Sublist.refl _).cons_cons _).cons _).cons _, List.Sublist.refl _, ?_⟩
        refine WD.any [5] (by kernel_rfl) rfl ⟨⟨_, rfl, rfl, ?_⟩, trivial⟩
        refine W.store (i := 1) (vs := [.int .i64 _, .int .i64 _, .slice _ _ _, .slice _ _ _, .string _, .bool _, .int .i64 _, .int .i64 _, .slice _ _ _, .slice _ _ _]) (L' := [.int .i64 _, .int .i64 _, .slice _ _ _, .slice _ _ _, .string _, .bool _, .int .i64 _, .int .i64 _, .slice _ _ _, .slice _ _ _]) ty45 rfl rfl rfl rfl rfl rfl rfl rfl ?_
        refine W.nil ⟨Le.rfl, (((List.Sublist.refl _).cons_cons _).cons _).cons _, _, (((List.Sublist.refl _).cons_cons _).cons _).cons _, List.Sublist.refl _, ?_⟩
        refine WD.any [6] (by kernel_rfl) rfl ⟨⟨_, rfl, rfl, ?_⟩, trivial⟩
        refine W.store (i := 0) (vs := [.int .i64 _, .int .i64 _, .slice _ _ _, .slice _ _ _, .string _, .bool _, .int .i64 _, .int .i64 _, .slice _ _ _, .slice _ _ _]) (L' := [.int .i64 _, .int .i64 _, .slice _ _ _, .slice _ _ _, .string _, .bool _, .int .i64 _, .int .i64 _, .slice _ _ _, .slice _ _ _]) ty45 rfl rfl rfl rfl rfl rfl rfl rfl ?_
        refine W.nil ⟨Le.rfl, (((List.Sublist.refl _).cons_cons _).cons _).cons _, _, (((List.Sublist.refl _).cons_cons _).cons _).cons _, List.Sublist.refl _, ?_⟩
        refine WD.take 7 rfl rfl rfl (by kernel_rfl) (by kernel_rfl) (by kernel_rfl) (ok_as) ?_
        refine WD.take 8 rfl rfl rfl (by kernel_rfl) (by kernel_rfl) (by kernel_rfl) (ok_as) ?_
        refine WD.done (by kernel_rfl) (thn_n ?_)
        refine WC.ret ?_
        refine ⟨.inr rfl, [_, _, _, _], ⟨⟨_, _, _, _, _, rfl, nthM_mem (i := 1) rfl, ty45, (by simp), rfl, rfl⟩, ⟨_, _, _, _, _, rfl, nthM_mem (i := 0) rfl, ty45, (by simp), rfl, rfl⟩, rfl, rfl, trivial⟩, [], List.nil_sublist _, ?_⟩
        refine ⟨rfl, _, (cleaveN_t (by simpa using h16)).symm, _, _, rfl, ?_, ?_⟩
        · exact ⟨_, _, _, _, _, _, _, _, rfl, (hp_hv581.mono hG586), (hk_hv581.mono hG586), (hm_hv581.mono hG586), (hr_hv581.mono hG586), ok_left (by assumption) hi⟩
        · exact ⟨_, _, _, _, _, _, _, _, rfl, hp_hv587, hk_hv587, hm_hv587, hr_hv587, ok_right (by assumption) hi⟩
      · refine W.ok (ok_loadB (i := 0) (vs := [.int .i64 _, .int .i64 _, .slice _ _ _, .slice _ _ _, .string _, .bool _, .int .i64 _, .int .i64 _, .slice _ _ _, .slice _ _ _]) ty45 rfl rfl rfl rfl (by simp)) ?_
        refine W.nil ⟨Le.rfl, (((List.Sublist.refl _).cons_cons _).cons _).cons _, _, (((List.Sublist.refl _).cons_cons _).cons _).cons _, List.Sublist.refl _, ?_⟩
        refine WD.any [1] (by kernel_rfl) rfl ⟨⟨_, rfl, rfl, ?_⟩, trivial⟩
        refine W.call (Mp := []) (ncopy_fc (show NodeC _ _ { (halvesN a).1 with high := (halvesN a).2.2.1, top := false, right := i } from ⟨_, _, _, _, _, _, _, _, rfl, hp_hv572, hk_hv572, hm_hv572, hr_hv572, (ok_left (by assumption) hi)⟩)) rfl (List.Perm.refl _) ?_
        intro _ G592 _ hG592 q594
        refine match q594 with | ⟨e_595, _, e_596, hv593⟩ => ?_
        subst e_595
        subst e_596
        refine match hv593 with | ⟨_, _, _, _, _, _, _, _, e_597, hp_hv593, hk_hv593, hm_hv593, hr_hv593, hok_hv593⟩ => ?_
        subst e_597
        refine W.nil ⟨hG592, (((List.Sublist.refl _).cons_cons _).cons _).cons _, _, (((List.Sublist.refl _).cons_cons _).cons _).cons _, List.Sublist.refl _, ?_⟩
        refine WD.any [3] (by kernel_rfl) rfl ⟨⟨_, rfl, rfl, ?_⟩, trivial⟩
        refine W.call (Mp := []) (ncopy_fc (show NodeC _ _ { (halvesN a).2.1 with slot := i } from ⟨_, _, _, _, _, _, _, _, rfl, (hp_hv573.mono hG592), (hk_hv573.mono hG592), (hm_hv573.mono hG592), (hr_hv573.mono hG592), (ok_right (by assumption) hi)⟩)) rfl (List.Perm.refl _) ?_
        intro _ G598 _ hG598 q600
        refine match q600 with | ⟨e_601, _, e_602, hv599⟩ => ?_
        subst e_601
        subst e_602
        refine match hv599 with | ⟨_, _, _, _, _, _, _, _, e_603, hp_hv599, hk_hv599, hm_hv599, hr_hv599, hok_hv599⟩ => ?_
        subst e_603
        refine W.nil ⟨hG598, (((List.Sublist.refl _).cons_cons _).cons _).cons _, _, (((List.Sublist.refl _).cons_cons _).cons _).cons _, List.Sublist.refl _, ?_⟩
        refine WD.any [5] (by kernel_rfl) rfl ⟨⟨_, rfl, rfl, ?_⟩, trivial⟩
        refine W.store (i := 1) (vs := [.int .i64 _, .int .i64 _, .slice _ _ _, .slice _ _ _, .string _, .bool _, .int .i64 _, .int .i64 _, .slice _ _ _, .slice _ _ _]) (L' := [.int .i64 _, .int .i64 _, .slice _ _ _, .slice _ _ _, .string _, .bool _, .int .i64 _, .int .i64 _, .slice _ _ _, .slice _ _ _]) ty45 rfl rfl rfl rfl rfl rfl rfl rfl ?_
        refine W.nil ⟨Le.rfl, (((List.Sublist.refl _).cons_cons _).cons _).cons _, _, (((List.Sublist.refl _).cons_cons _).cons _).cons _, List.Sublist.refl _, ?_⟩
        refine WD.any [6] (by kernel_rfl) rfl ⟨⟨_, rfl, rfl, ?_⟩, trivial⟩
        refine W.store (i := 0) (vs := [.int .i64 _, .int .i64 _, .slice _ _ _, .slice _ _ _, .string _, .bool _, .int .i64 _, .int .i64 _, .slice _ _ _, .slice _ _ _]) (L' := [.int .i64 _, .int .i64 _, .slice _ _ _, .slice _ _ _, .string _, .bool _, .int .i64 _, .int .i64 _, .slice _ _ _, .slice _ _ _]) ty45 rfl rfl rfl rfl rfl rfl rfl rfl ?_
        refine W.nil ⟨Le.rfl, (((List.Sublist.refl _).cons_cons _).cons _).cons _, _, (((List.Sublist.refl _).cons_cons _).cons _).cons _, List.Sublist.refl _, ?_⟩
        refine WD.take 7 rfl rfl rfl (by kernel_rfl) (by kernel_rfl) (by kernel_rfl) (ok_as) ?_
        refine WD.take 8 rfl rfl rfl (by kernel_rfl) (by kernel_rfl) (by kernel_rfl) (ok_as) ?_
        refine WD.done (by kernel_rfl) (thn_n ?_)
        refine WC.ret ?_
        refine ⟨.inr rfl, [_, _, _, _], ⟨⟨_, _, _, _, _, rfl, nthM_mem (i := 1) rfl, ty45, (by simp), rfl, rfl⟩, ⟨_, _, _, _, _, rfl, nthM_mem (i := 0) rfl, ty45, (by simp), rfl, rfl⟩, rfl, rfl, trivial⟩, [], List.nil_sublist _, ?_⟩
        refine ⟨rfl, _, (cleaveN_t (by simpa using h16)).symm, _, _, rfl, ?_, ?_⟩
        · exact ⟨_, _, _, _, _, _, _, _, rfl, (hp_hv593.mono hG598), (hk_hv593.mono hG598), (hm_hv593.mono hG598), (hr_hv593.mono hG598), ok_left (by assumption) hi⟩
        · exact ⟨_, _, _, _, _, _, _, _, rfl, hp_hv599, hk_hv599, hm_hv599, hr_hv599, ok_right (by assumption) hi⟩
    · refine W.ok (ok_loadB (i := 0) (vs := [.int .i64 _, .int .i64 _, .slice _ _ _, .slice _ _ _, .string _, .bool _, .int .i64 _, .int .i64 _, .slice _ _ _, .slice _ _ _]) ty45 rfl rfl rfl rfl (by simp)) ?_
      refine W.nil ⟨Le.rfl, (((List.Sublist.refl _).cons_cons _).cons _).cons _, _, (((List.Sublist.refl _).cons_cons _).cons _).cons _, List.Sublist.refl _, ?_⟩
      refine WD.any [0] (by kernel_rfl) rfl ⟨⟨_, rfl, rfl, ?_⟩, trivial⟩
      refine W.ok (ok_loadB (i := 1) (vs := [.int .i64 _, .int .i64 _, .slice _ _ _, .slice _ _ _, .string _, .bool _, .int .i64 _, .int .i64 _, .slice _ _ _, .slice _ _ _]) ty45 rfl rfl rfl rfl (by simp)) ?_
      refine W.nil ⟨Le.rfl, (((List.Sublist.refl _).cons_cons _).cons _).cons _, _, (((List.Sublist.refl _).cons_cons _).cons _).cons _, List.Sublist.refl _, ?_⟩
      refine WD.any [1] (by kernel_rfl) rfl ⟨⟨_, rfl, rfl, ?_⟩, trivial⟩
      refine W.call (Mp := []) (ncopy_fc (show NodeC _ _ { (halvesN a).1 with high := (halvesN a).2.2.1, top := false, right := i } from ⟨_, _, _, _, _, _, _, _, rfl, hp_hv572, hk_hv572, hm_hv572, hr_hv572, (ok_left (by assumption) hi)⟩)) rfl (List.Perm.refl _) ?_
      intro _ G604 _ hG604 q606
      refine match q606 with | ⟨e_607, _, e_608, hv605⟩ => ?_
      subst e_607
      subst e_608
      refine match hv605 with | ⟨_, _, _, _, _, _, _, _, e_609, hp_hv605, hk_hv605, hm_hv605, hr_hv605, hok_hv605⟩ => ?_
      subst e_609
      refine W.nil ⟨hG604, (((List.Sublist.refl _).cons_cons _).cons _).cons _, _, (((List.Sublist.refl _).cons_cons _).cons _).cons _, List.Sublist.refl _, ?_⟩
      refine WD.any [3] (by kernel_rfl) rfl ⟨⟨_, rfl, rfl, ?_⟩, trivial⟩
      refine W.call (Mp := []) (ncopy_fc (show NodeC _ _ { (halvesN a).2.1 with slot := i } from ⟨_, _, _, _, _, _, _, _, rfl, (hp_hv573.mono hG604), (hk_hv573.mono hG604), (hm_hv573.mono hG604), (hr_hv573.mono hG604), (ok_right (by assumption) hi)⟩)) rfl (List.Perm.refl _) ?_
      intro _ G610 _ hG610 q612
      refine match q612 with | ⟨e_613, _, e_614, hv611⟩ => ?_
      subst e_613
      subst e_614
      refine match hv611 with | ⟨_, _, _, _, _, _, _, _, e_615, hp_hv611, hk_hv611, hm_hv611, hr_hv611, hok_hv611⟩ => ?_
      subst e_615
      refine W.nil ⟨hG610, (((List.Sublist.refl _).cons_cons _).cons _).cons _, _, (((List.Sublist.refl _).cons_cons _).cons _).cons _, List.Sublist.refl _, ?_⟩
      refine WD.any [5] (by kernel_rfl) rfl ⟨⟨_, rfl, rfl, ?_⟩, trivial⟩
      refine W.store (i := 1) (vs := [.int .i64 _, .int .i64 _, .slice _ _ _, .slice _ _ _, .string _, .bool _, .int .i64 _, .int .i64 _, .slice _ _ _, .slice _ _ _]) (L' := [.int .i64 _, .int .i64 _, .slice _ _ _, .slice _ _ _, .string _, .bool _, .int .i64 _, .int .i64 _, .slice _ _ _, .slice _ _ _]) ty45 rfl rfl rfl rfl rfl rfl rfl rfl ?_
      refine W.nil ⟨Le.rfl, (((List.Sublist.refl _).cons_cons _).cons _).cons _, _, (((List.Sublist.refl _).cons_cons _).cons _).cons _, List.Sublist.refl _, ?_⟩
      refine WD.any [6] (by kernel_rfl) rfl ⟨⟨_, rfl, rfl, ?_⟩, trivial⟩
      refine W.store (i := 0) (vs := [.int .i64 _, .int .i64 _, .slice _ _ _, .slice _ _ _, .string _, .bool _, .int .i64 _, .int .i64 _, .slice _ _ _, .slice _ _ _]) (L' := [.int .i64 _, .int .i64 _, .slice _ _ _, .slice _ _ _, .string _, .bool _, .int .i64 _, .int .i64 _, .slice _ _ _, .slice _ _ _]) ty45 rfl rfl rfl rfl rfl rfl rfl rfl ?_
      refine W.nil ⟨Le.rfl, (((List.Sublist.refl _).cons_cons _).cons _).cons _, _, (((List.Sublist.refl _).cons_cons _).cons _).cons _, List.Sublist.refl _, ?_⟩
      refine WD.take 7 rfl rfl rfl (by kernel_rfl) (by kernel_rfl) (by kernel_rfl) (ok_as) ?_
      refine WD.take 8 rfl rfl rfl (by kernel_rfl) (by kernel_rfl) (by kernel_rfl) (ok_as) ?_
      refine WD.done (by kernel_rfl) (thn_n ?_)
      refine WC.ret ?_
      refine ⟨.inr rfl, [_, _, _, _], ⟨⟨_, _, _, _, _, rfl, nthM_mem (i := 1) rfl, ty45, (by simp), rfl, rfl⟩, ⟨_, _, _, _, _, rfl, nthM_mem (i := 0) rfl, ty45, (by simp), rfl, rfl⟩, rfl, rfl, trivial⟩, [], List.nil_sublist _, ?_⟩
      refine ⟨rfl, _, (cleaveN_t (by simpa using h16)).symm, _, _, rfl, ?_, ?_⟩
      · exact ⟨_, _, _, _, _, _, _, _, rfl, (hp_hv605.mono hG610), (hk_hv605.mono hG610), (hm_hv605.mono hG610), (hr_hv605.mono hG610), ok_left (by assumption) hi⟩
      · exact ⟨_, _, _, _, _, _, _, _, rfl, hp_hv611, hk_hv611, hm_hv611, hr_hv611, ok_right (by assumption) hi⟩

end Go.Proofs.Ytmadhgdplocfbaa
