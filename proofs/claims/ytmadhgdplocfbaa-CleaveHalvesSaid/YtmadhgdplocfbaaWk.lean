/- Walks of functions that make nodes. -/
import Derived.Test.YtmadhgdplocfbaaWj
namespace Go.Proofs.Ytmadhgdplocfbaa
open Go Go.Fw Go.RowKit
set_option maxRecDepth 100000
set_option maxHeartbeats 1600000
set_option linter.unusedVariables false
theorem ncopy_fc {G : GH} {cs_a : List Value} {a : Nd} (h_a : NodeC G cs_a a) :
    Fc Try.prog 139 [.agg (List.toArray cs_a)] G [] (fun v G' M' => M' = [] ∧ ∃ u0, v = .agg (List.toArray u0) ∧ NodeC G' u0 (a)) := by
  obtain ⟨_, _, _, _, _, _, _, _, rfl, hp_a, hk_a, hm_a, hr_a, hok_a⟩ := h_a
  refine Fc.intro (rs := [.cell 2 45]) cl139 Try.func139 rfl Try.ntmps139 rfl rfl (fun w0 => ?_)
  refine WC.seq ?_
  refine WC.region ?_
  refine W.box (L := [.int .i64 _, .int .i64 _, .slice _ _ _, .slice _ _ _, .string _, .bool _, .int .i64 _, .int .i64 _, .slice _ _ _, .slice _ _ _]) rfl rfl (fun b318 => ?_)
  refine W.alloc zr45 (fun b319 => ?_)
  refine W.nil (thn_n ?_)
  refine WC.seq ?_
  refine WC.drawW _ (((List.Sublist.refl _).cons _).cons_cons _) mix (by rintro _ _ _ _ ⟨h | h, _⟩ <;> cases h) ?_
  refine WD.take 0 rfl rfl rfl (by kernel_rfl) (by kernel_rfl) (by kernel_rfl) (ok_fieldB fd45_2 rfl) ?_
  refine WD.take 3 rfl rfl rfl (by kernel_rfl) (by kernel_rfl) (by kernel_rfl) (ok_fieldB fd45_3 rfl) ?_
  refine WD.any [1, 4] (by kernel_rfl) rfl ⟨⟨_, rfl, rfl, ?_⟩, ⟨_, rfl, rfl, ?_⟩, trivial⟩
  · refine W.ok (ok_loadB (i := 1) (vs := [.slice _ _ _]) ty25 rfl rfl rfl rfl (by simp)) ?_
    refine W.nil ⟨Le.rfl, ((List.Sublist.refl _).cons _).cons_cons _, _, ((List.Sublist.refl _).cons _).cons_cons _, List.Sublist.refl _, ?_⟩
    refine WD.any [2, 4] (by kernel_rfl) rfl ⟨⟨_, rfl, rfl, ?_⟩, ⟨_, rfl, rfl, ?_⟩, trivial⟩
    · refine W.call (Mp := []) (clones_fc hp_a) rfl (List.Perm.refl _) ?_
      intro _ G320 _ hG320 q322
      refine match q322 with | ⟨e_323, _, e_324, hv321⟩ => ?_
      subst e_323
      subst e_324
      have q326 := hv321.form
      refine match q326 with | ⟨_, _, e_325⟩ => ?_
      subst e_325
      refine W.nil ⟨hG320, ((List.Sublist.refl _).cons _).cons_cons _, _, ((List.Sublist.refl _).cons _).cons_cons _, List.Sublist.refl _, ?_⟩
      refine WD.any [4] (by kernel_rfl) rfl ⟨⟨_, rfl, rfl, ?_⟩, trivial⟩
      refine W.ok (ok_loadB (i := 1) (vs := [.slice _ _ _]) ty26 rfl rfl rfl rfl (by simp)) ?_
      refine W.nil ⟨Le.rfl, ((List.Sublist.refl _).cons _).cons_cons _, _, ((List.Sublist.refl _).cons _).cons_cons _, List.Sublist.refl _, ?_⟩
      refine WD.take 6 rfl rfl rfl (by kernel_rfl) (by kernel_rfl) (by kernel_rfl) (ok_fieldB fd45_2 rfl) ?_
      refine WD.any [5] (by kernel_rfl) rfl ⟨⟨_, rfl, rfl, ?_⟩, trivial⟩
      refine W.call (Mp := []) (clonei_fc (hk_a.mono hG320)) rfl (List.Perm.refl _) ?_
      intro _ G327 _ hG327 q329
      refine match q329 with | ⟨e_330, _, e_331, hv328⟩ => ?_
      subst e_330
      subst e_331
      have q333 := hv328.form
      refine match q333 with | ⟨_, _, e_332⟩ => ?_
      subst e_332
      refine W.nil ⟨hG327, ((List.Sublist.refl _).cons _).cons_cons _, _, ((List.Sublist.refl _).cons _).cons_cons _, List.Sublist.refl _, ?_⟩
      refine WD.any [7] (by kernel_rfl) rfl ⟨⟨_, rfl, rfl, ?_⟩, trivial⟩
      refine W.store (i := 1) (vs := [.slice _ _ _]) (L' := [.int .i64 _, .int .i64 _, .slice _ _ _, .slice _ _ _, .string _, .bool _, .int .i64 _, .int .i64 _, .slice _ _ _, .slice _ _ _]) ty25 rfl rfl rfl rfl rfl rfl rfl rfl ?_
      refine W.nil ⟨Le.rfl, ((List.Sublist.refl _).cons _).cons_cons _, _, ((List.Sublist.refl _).cons _).cons_cons _, List.Sublist.refl _, ?_⟩
      refine WD.take 8 rfl rfl rfl (by kernel_rfl) (by kernel_rfl) (by kernel_rfl) (ok_fieldB fd45_3 rfl) ?_
      refine WD.any [9] (by kernel_rfl) rfl ⟨⟨_, rfl, rfl, ?_⟩, trivial⟩
      refine W.store (i := 1) (vs := [.slice _ _ _]) (L' := [.int .i64 _, .int .i64 _, .slice _ _ _, .slice _ _ _, .string _, .bool _, .int .i64 _, .int .i64 _, .slice _ _ _, .slice _ _ _]) ty26 rfl rfl rfl rfl rfl rfl rfl rfl ?_
      refine W.nil ⟨Le.rfl, ((List.Sublist.refl _).cons _).cons_cons _, _, ((List.Sublist.refl _).cons _).cons_cons _, List.Sublist.refl _, ?_⟩
      refine WD.done (by kernel_rfl) (thn_n ?_)
      refine WC.seq ?_
      refine WC.drawW _ (((List.Sublist.refl _).cons _).cons_cons _) mix (by rintro _ _ _ _ ⟨h | h, _⟩ <;> cases h) ?_
      refine WD.take 0 rfl rfl rfl (by kernel_rfl) (by kernel_rfl) (by kernel_rfl) (ok_fieldB fd45_8 rfl) ?_
      refine WD.take 3 rfl rfl rfl (by kernel_rfl) (by kernel_rfl) (by kernel_rfl) (ok_fieldB fd45_9 rfl) ?_
      refine WD.any [1, 4] (by kernel_rfl) rfl ⟨⟨_, rfl, rfl, ?_⟩, ⟨_, rfl, rfl, ?_⟩, trivial⟩
      · refine W.ok (ok_loadB (i := 1) (vs := [.slice _ _ _]) ty43 rfl rfl rfl rfl (by simp)) ?_
        refine W.nil ⟨Le.rfl, ((List.Sublist.refl _).cons _).cons_cons _, _, ((List.Sublist.refl _).cons _).cons_cons _, List.Sublist.refl _, ?_⟩
        refine WD.any [2, 4] (by kernel_rfl) rfl ⟨⟨_, rfl, rfl, ?_⟩, ⟨_, rfl, rfl, ?_⟩, trivial⟩
        · refine W.call (Mp := []) (clonem_fc (hm_a.mono (hG320.trans hG327))) rfl (List.Perm.refl _) ?_
          intro _ G334 _ hG334 q336
          refine match q336 with | ⟨e_337, _, e_338, hv335⟩ => ?_
          subst e_337
          subst e_338
          have q340 := hv335.form
          refine match q340 with | ⟨_, _, e_339⟩ => ?_
          subst e_339
          refine W.nil ⟨hG334, ((List.Sublist.refl _).cons _).cons_cons _, _, ((List.Sublist.refl _).cons _).cons_cons _, List.Sublist.refl _, ?_⟩
          refine WD.any [4] (by kernel_rfl) rfl ⟨⟨_, rfl, rfl, ?_⟩, trivial⟩
          refine W.ok (ok_loadB (i := 1) (vs := [.slice _ _ _]) ty42 rfl rfl rfl rfl (by simp)) ?_
          refine W.nil ⟨Le.rfl, ((List.Sublist.refl _).cons _).cons_cons _, _, ((List.Sublist.refl _).cons _).cons_cons _, List.Sublist.refl _, ?_⟩
          refine WD.take 6 rfl rfl rfl (by kernel_rfl) (by kernel_rfl) (by kernel_rfl) (ok_fieldB fd45_8 rfl) ?_
          refine WD.any [5] (by kernel_rfl) rfl ⟨⟨_, rfl, rfl, ?_⟩, trivial⟩
          refine W.call (Mp := []) (clonep_fc (hr_a.mono ((hG320.trans hG327).trans hG334))) rfl (List.Perm.refl _) ?_
          intro _ G341 _ hG341 q343
          refine match q343 with | ⟨e_344, _, e_345, hv342⟩ => ?_
          subst e_344
          subst e_345
          have q347 := hv342.form
          refine match q347 with | ⟨_, _, e_346⟩ => ?_
          subst e_346
          refine W.nil ⟨hG341, ((List.Sublist.refl _).cons _).cons_cons _, _, ((List.Sublist.refl _).cons _).cons_cons _, List.Sublist.refl _, ?_⟩
          refine WD.any [7] (by kernel_rfl) rfl ⟨⟨_, rfl, rfl, ?_⟩, trivial⟩
          refine W.store (i := 1) (vs := [.slice _ _ _]) (L' := [.int .i64 _, .int .i64 _, .slice _ _ _, .slice _ _ _, .string _, .bool _, .int .i64 _, .int .i64 _, .slice _ _ _, .slice _ _ _]) ty43 rfl rfl rfl rfl rfl rfl rfl rfl ?_
          refine W.nil ⟨Le.rfl, ((List.Sublist.refl _).cons _).cons_cons _, _, ((List.Sublist.refl _).cons _).cons_cons _, List.Sublist.refl _, ?_⟩
          refine WD.take 8 rfl rfl rfl (by kernel_rfl) (by kernel_rfl) (by kernel_rfl) (ok_fieldB fd45_9 rfl) ?_
          refine WD.any [9] (by kernel_rfl) rfl ⟨⟨_, rfl, rfl, ?_⟩, trivial⟩
          refine W.store (i := 1) (vs := [.slice _ _ _]) (L' := [.int .i64 _, .int .i64 _, .slice _ _ _, .slice _ _ _, .string _, .bool _, .int .i64 _, .int .i64 _, .slice _ _ _, .slice _ _ _]) ty42 rfl rfl rfl rfl rfl rfl rfl rfl ?_
          refine W.nil ⟨Le.rfl, ((List.Sublist.refl _).cons _).cons_cons _, _, ((List.Sublist.refl _).cons _).cons_cons _, List.Sublist.refl _, ?_⟩
          refine WD.done (by kernel_rfl) (thn_n ?_)
          refine WC.seq ?_
          refine WC.region ?_
          refine W.ok (ok_loadB (i := 1) (vs := [.int .i64 _, .int .i64 _, .slice _ _ _, .slice _ _ _, .string _, .bool _, .int .i64 _, .int .i64 _, .slice _ _ _, .slice _ _ _]) ty45 rfl rfl rfl rfl (by simp)) ?_
          refine W.store (i := 0) (vs := [.int .i64 _, .int .i64 _, .slice _ _ _, .slice _ _ _, .string _, .bool _, .int .i64 _, .int .i64 _, .slice _ _ _, .slice _ _ _]) (L' := [.int .i64 _, .int .i64 _, .slice _ _ _, .slice _ _ _, .string _, .bool _, .int .i64 _, .int .i64 _, .slice _ _ _, .slice _ _ _]) ty45 rfl rfl rfl rfl rfl rfl rfl rfl ?_
          refine W.nil (thn_n ?_)
          refine WC.ret ?_
          refine ⟨.inr rfl, [_], ⟨⟨_, _, _, _, _, rfl, nthM_mem (i := 0) rfl, ty45, (by simp), rfl, rfl⟩, trivial⟩, [], List.nil_sublist _, ?_⟩
          refine ⟨rfl, _, rfl, ?_⟩
          · exact ⟨_, _, _, _, _, _, _, _, rfl, (hv321.mono ((hG327.trans hG334).trans hG341)), (hv328.mono (hG334.trans hG341)), (hv335.mono hG341), hv342, (by assumption)⟩
        · refine W.ok (ok_loadB (i := 1) (vs := [.slice _ _ _]) ty42 rfl rfl rfl rfl (by simp)) ?_
          refine W.nil ⟨Le.rfl, ((List.Sublist.refl _).cons _).cons_cons _, _, ((List.Sublist.refl _).cons _).cons_cons _, List.Sublist.refl _, ?_⟩
          refine WD.any [2] (by kernel_rfl) rfl ⟨⟨_, rfl, rfl, ?_⟩, trivial⟩
          refine W.call (Mp := []) (clonem_fc (hm_a.mono (hG320.trans hG327))) rfl (List.Perm.refl _) ?_
          intro _ G348 _ hG348 q350
          refine match q350 with | ⟨e_351, _, e_352, hv349⟩ => ?_
          subst e_351
          subst e_352
          have q354 := hv349.form
          refine match q354 with | ⟨_, _, e_353⟩ => ?_
          subst e_353
          refine W.nil ⟨hG348, ((List.Sublist.refl _).cons _).cons_cons _, _, ((List.Sublist.refl _).cons _).cons_cons _, List.Sublist.refl _, ?_⟩
          refine WD.take 6 rfl rfl rfl (by kernel_rfl) (by kernel_rfl) (by kernel_rfl) (ok_fieldB fd45_8 rfl) ?_
          refine WD.any [5] (by kernel_rfl) rfl ⟨⟨_, rfl, rfl, ?_⟩, trivial⟩
          refine W.call (Mp := []) (clonep_fc (hr_a.mono ((hG320.trans hG327).trans hG348))) rfl (List.Perm.refl _) ?_
          intro _ G355 _ hG355 q357
          refine match q357 with | ⟨e_358, _, e_359, hv356⟩ => ?_
          subst e_358
          subst e_359
          have q361 := hv356.form
          refine match q361 with | ⟨_, _, e_360⟩ => ?_
          subst e_360
          refine W.nil ⟨hG355, ((List.Sublist.refl _).cons _).cons_cons _, _, ((List.Sublist.refl _).cons _).cons_cons _, List.Sublist.refl _, ?_⟩
          refine WD.any [7] (by kernel_rfl) rfl ⟨⟨_, rfl, rfl, ?_⟩, trivial⟩
          refine W.store (i := 1) (vs := [.slice _ _ _]) (L' := [.int .i64 _, .int .i64 _, .slice _ _ _, .slice _ _ _, .string _, .bool _, .int .i64 _, .int .i64 _, .slice _ _ _, .slice _ _ _]) ty43 rfl rfl rfl rfl rfl rfl rfl rfl ?_
          refine W.nil ⟨Le.rfl, ((List.Sublist.refl _).cons _).cons_cons _, _, ((List.Sublist.refl _).cons _).cons_cons _, List.Sublist.refl _, ?_⟩
          refine WD.take 8 rfl rfl rfl (by kernel_rfl) (by kernel_rfl) (by kernel_rfl) (ok_fieldB fd45_9 rfl) ?_
          refine WD.any [9] (by kernel_rfl) rfl ⟨⟨_, rfl, rfl, ?_⟩, trivial⟩
          refine W.store (i := 1) (vs := [.slice _ _ _]) (L' := [.int .i64 _, .int .i64 _, .slice _ _ _, .slice _ _ _, .string _, .bool _, .int .i64 _, .int .i64 _, .slice _ _ _, .slice _ _ _]) ty42 rfl rfl rfl rfl rfl rfl rfl rfl ?_
          refine W.nil ⟨Le.rfl, ((List.Sublist.refl _).cons _).cons_cons _, _, ((List.Sublist.refl _).cons _).cons_cons _, List.Sublist.refl _, ?_⟩
          refine WD.done (by kernel_rfl) (thn_n ?_)
          refine WC.seq ?_
          refine WC.region ?_
          refine W.ok (ok_loadB (i := 1) (vs := [.int .i64 _, .int .i64 _, .slice _ _ _, .slice _ _ _, .string _, .bool _, .int .i64 _, .int .i64 _, .slice _ _ _, .slice _ _ _]) ty45 rfl rfl rfl rfl (by simp)) ?_
          refine W.store (i := 0) (vs := [.int .i64 _, .int .i64 _, .slice _ _ _, .slice _ _ _, .string _, .bool _, .int .i64 _, .int .i64 _, .slice _ _ _, .slice _ _ _]) (L' := [.int .i64 _, .int .i64 _, .slice _ _ _, .slice _ _ _, .string _, .bool _, .int .i64 _, .int .i64 _, .slice _ _ _, .slice _ _ _]) ty45 rfl rfl rfl rfl rfl rfl rfl rfl ?_
          refine W.nil (thn_n ?_)
          refine WC.ret ?_
          refine ⟨.inr rfl, [_], ⟨⟨_, _, _, _, _, rfl, nthM_mem (i := 0) rfl, ty45, (by simp), rfl, rfl⟩, trivial⟩, [], List.nil_sublist _, ?_⟩
          refine ⟨rfl, _, rfl, ?_⟩
          · exact ⟨_, _, _, _, _, _, _, _, rfl, (hv321.mono ((hG327.trans hG348).trans hG355)), (hv328.mono (hG348.trans hG355)), (hv349.mono hG355), hv356, (by assumption)⟩
      · refine W.ok (ok_loadB (i := 1) (vs := [.slice _ _ _]) ty42 rfl rfl rfl rfl (by simp)) ?_
        refine W.nil ⟨Le.rfl, ((List.Sublist.refl _).cons _).cons_cons _, _, ((List.Sublist.refl _).cons _).cons_cons _, List.Sublist.refl _, ?_⟩
        refine WD.any [1] (by kernel_rfl) rfl ⟨⟨_, rfl, rfl, ?_⟩, trivial⟩
        refine W.ok (ok_loadB (i := 1) (vs := [.slice _ _ _]) ty43 rfl rfl rfl rfl (by simp)) ?_
        refine W.nil ⟨Le.rfl, ((List.Sublist.refl _).cons _).cons_cons _, _, ((List.Sublist.refl _).cons _).cons_cons _, List.Sublist.refl _, ?_⟩
        refine WD.any [2] (by kernel_rfl) rfl ⟨⟨_, rfl, rfl, ?_⟩, trivial⟩
        refine W.call (Mp := []) (clonem_fc (hm_a.mono (hG320.trans hG327))) rfl (List.Perm.refl _) ?_
        intro _ G362 _ hG362 q364
        refine match q364 with | ⟨e_365, _, e_366, hv363⟩ => ?_
        subst e_365
        subst e_366
        have q368 := hv363.form
        refine match q368 with | ⟨_, _, e_367⟩ => ?_
        subst e_367
        refine W.nil ⟨hG362, ((List.Sublist.refl _).cons _).cons_cons _, _, ((List.Sublist.refl _).cons _).cons_cons _, List.Sublist.refl _, ?_⟩
        refine WD.take 6 rfl rfl rfl (by kernel_rfl) (by kernel_rfl) (by kernel_rfl) (ok_fieldB fd45_8 rfl) ?_
        refine WD.any [5] (by kernel_rfl) rfl ⟨⟨_, rfl, rfl, ?_⟩, trivial⟩
        refine W.call (Mp := []) (clonep_fc (hr_a.mono ((hG320.trans hG327).trans hG362))) rfl (List.Perm.refl _) ?_
        intro _ G369 _ hG369 q371
        refine match q371 with | ⟨e_372, _, e_373, hv370⟩ => ?_
        subst e_372
        subst e_373
        have q375 := hv370.form
        refine match q375 with | ⟨_, _, e_374⟩ => ?_
        subst e_374
        refine W.nil ⟨hG369, ((List.Sublist.refl _).cons _).cons_cons _, _, ((List.Sublist.refl _).cons _).cons_cons _, List.Sublist.refl _, ?_⟩
        refine WD.any [7] (by kernel_rfl) rfl ⟨⟨_, rfl, rfl, ?_⟩, trivial⟩
        refine W.store (i := 1) (vs := [.slice _ _ _]) (L' := [.int .i64 _, .int .i64 _, .slice _ _ _, .slice _ _ _, .string _, .bool _, .int .i64 _, .int .i64 _, .slice _ _ _, .slice _ _ _]) ty43 rfl rfl rfl rfl rfl rfl rfl rfl ?_
        refine W.nil ⟨Le.rfl, ((List.Sublist.refl _).cons _).cons_cons _, _, ((List.Sublist.refl _).cons _).cons_cons _, List.Sublist.refl _, ?_⟩
        refine WD.take 8 rfl rfl rfl (by kernel_rfl) (by kernel_rfl) (by kernel_rfl) (ok_fieldB fd45_9 rfl) ?_
        refine WD.any [9] (by kernel_rfl) rfl ⟨⟨_, rfl, rfl, ?_⟩, trivial⟩
        refine W.store (i := 1) (vs := [.slice _ _ _]) (L' := [.int .i64 _, .int .i64 _, .slice _ _ _, .slice _ _ _, .string _, .bool _, .int .i64 _, .int .i64 _, .slice _ _ _, .slice _ _ _]) ty42 rfl rfl rfl rfl rfl rfl rfl rfl ?_
        refine W.nil ⟨Le.rfl, ((List.Sublist.refl _).cons _).cons_cons _, _, ((List.Sublist.refl _).cons _).cons_cons _, List.Sublist.refl _, ?_⟩
        refine WD.done (by kernel_rfl) (thn_n ?_)
        refine WC.seq ?_
        refine WC.region ?_
        refine W.ok (ok_loadB (i := 1) (vs := [.int .i64 _, .int .i64 _, .slice _ _ _, .slice _ _ _, .string _, .bool _, .int .i64 _, .int .i64 _, .slice _ _ _, .slice _ _ _]) ty45 rfl rfl rfl rfl (by simp)) ?_
        refine W.store (i := 0) (vs := [.int .i64 _, .int .i64 _, .slice _ _ _, .slice _ _ _, .string _, .bool _, .int .i64 _, .int .i64 _, .slice _ _ _, .slice _ _ _]) (L' := [.int .i64 _, .int .i64 _, .slice _ _ _, .slice _ _ _, .string _, .bool _, .int .i64 _, .int .i64 _, .slice _ _ _, .slice _ _ _]) ty45 rfl rfl rfl rfl rfl rfl rfl rfl ?_
        refine W.nil (thn_n ?_)
        refine WC.ret ?_
        refine ⟨.inr rfl, [_], ⟨⟨_, _, _, _, _, rfl, nthM_mem (i := 0) rfl, ty45, (by simp), rfl, rfl⟩, trivial⟩, [], List.nil_sublist _, ?_⟩
        refine ⟨rfl, _, rfl, ?_⟩
        · exact ⟨_, _, _, _, _, _, _, _, rfl, (hv321.mono ((hG327.trans hG362).trans hG369)), (hv328.mono (hG362.trans hG369)), (hv363.mono hG369), hv370, (by assumption)⟩
    · refine W.ok (ok_loadB (i := 1) (vs := [.slice _ _ _]) ty26 rfl rfl rfl rfl (by simp)) ?_
      refine W.nil ⟨Le.rfl, ((List.Sublist.refl _).cons _).cons_cons _, _, ((List.Sublist.refl _).cons _).cons_cons _, List.Sublist.refl _, ?_⟩
      refine WD.any [2] (by kernel_rfl) rfl ⟨⟨_, rfl, rfl, ?_⟩, trivial⟩
      refine W.call (Mp := []) (clones_fc hp_a) rfl (List.Perm.refl _) ?_
      intro _ G376 _ hG376 q378
      refine match q378 with | ⟨e_379, _, e_380, hv377⟩ => ?_
      subst e_379
      subst e_380
      have q382 := hv377.form
      refine match q382 with | ⟨_, _, e_381⟩ => ?_
      subst e_381
      refine W.nil ⟨hG376, ((List.Sublist.refl _).cons _).cons_cons _, _, ((List.Sublist.refl _).cons _).cons_cons _, List.Sublist.refl _, ?_⟩
      refine WD.take 6 rfl rfl rfl (by kernel_rfl) (by kernel_rfl) (by kernel_rfl) (ok_fieldB fd45_2 rfl) ?_
      refine WD.any [5] (by kernel_rfl) rfl ⟨⟨_, rfl, rfl, ?_⟩, trivial⟩
      refine W.call (Mp := []) (clonei_fc (hk_a.mono hG376)) rfl (List.Perm.refl _) ?_
      intro _ G383 _ hG383 q385
      refine match q385 with | ⟨e_386, _, e_387, hv384⟩ => ?_
      subst e_386
      subst e_387
      have q389 := hv384.form
      refine match q389 with | ⟨_, _, e_388⟩ => ?_
      subst e_388
      refine W.nil ⟨hG383, ((List.Sublist.refl _).cons _).cons_cons _, _, ((List.Sublist.refl _).cons _).cons_cons _, List.Sublist.refl _, ?_⟩
      refine WD.any [7] (by kernel_rfl) rfl ⟨⟨_, rfl, rfl, ?_⟩, trivial⟩
      refine W.store (i := 1) (vs := [.slice _ _ _]) (L' := [.int .i64 _, .int .i64 _, .slice _ _ _, .slice _ _ _, .string _, .bool _, .int .i64 _, .int .i64 _, .slice _ _ _, .slice _ _ _]) ty25 rfl rfl rfl rfl rfl rfl rfl rfl ?_
      refine W.nil ⟨Le.rfl, ((List.Sublist.refl _).cons _).cons_cons _, _, ((List.Sublist.refl _).cons _).cons_cons _, List.Sublist.refl _, ?_⟩
      refine WD.take 8 rfl rfl rfl (by kernel_rfl) (by kernel_rfl) (by kernel_rfl) (ok_fieldB fd45_3 rfl) ?_
      refine WD.any [9] (by kernel_rfl) rfl ⟨⟨_, rfl, rfl, ?_⟩, trivial⟩
      refine W.store (i := 1) (vs := [.slice _ _ _]) (L' := [.int .i64 _, .int .i64 _, .slice _ _ _, .slice _ _ _, .string _, .bool _, .int .i64 _, .int .i64 _, .slice _ _ _, .slice _ _ _]) ty26 rfl rfl rfl rfl rfl rfl rfl rfl ?_
      refine W.nil ⟨Le.rfl, ((List.Sublist.refl _).cons _).cons_cons _, _, ((List.Sublist.refl _).cons _).cons_cons _, List.Sublist.refl _, ?_⟩
      refine WD.done (by kernel_rfl) (thn_n ?_)
      refine WC.seq ?_
      refine WC.drawW _ (((List.Sublist.refl _).cons _).cons_cons _) mix (by rintro _ _ _ _ ⟨h | h, _⟩ <;> cases h) ?_
      refine WD.take 0 rfl rfl rfl (by kernel_rfl) (by kernel_rfl) (by kernel_rfl) (ok_fieldB fd45_8 rfl) ?_
      refine WD.take 3 rfl rfl rfl (by kernel_rfl) (by kernel_rfl) (by kernel_rfl) (ok_fieldB fd45_9 rfl) ?_
      refine WD.any [1, 4] (by kernel_rfl) rfl ⟨⟨_, rfl, rfl, ?_⟩, ⟨_, rfl, rfl, ?_⟩, trivial⟩
      · refine W.ok (ok_loadB (i := 1) (vs := [.slice _ _ _]) ty43 rfl rfl rfl rfl (by simp)) ?_
        refine W.nil ⟨Le.rfl, ((List.Sublist.refl _).cons _).cons_cons _, _, ((List.Sublist.refl _).cons _).cons_cons _, List.Sublist.refl _, ?_⟩
        refine WD.any [2, 4] (by kernel_rfl) rfl ⟨⟨_, rfl, rfl, ?_⟩, ⟨_, rfl, rfl, ?_⟩, trivial⟩
        · refine W.call (Mp := []) (clonem_fc (hm_a.mono (hG376.trans hG383))) rfl (List.Perm.refl _) ?_
          intro _ G390 _ hG390 q392
          refine match q392 with | ⟨e_393, _, e_394, hv391⟩ => ?_
          subst e_393
          subst e_394
          have q396 := hv391.form
          refine match q396 with | ⟨_, _, e_395⟩ => ?_
          subst e_395
          refine W.nil ⟨hG390, ((List.Sublist.refl _).cons _).cons_cons _, _, ((List.Sublist.refl _).cons _).cons_cons _, List.Sublist.refl _, ?_⟩
          refine WD.any [4] (by kernel_rfl) rfl ⟨⟨_, rfl, rfl, ?_⟩, trivial⟩
          refine W.ok (ok_loadB (i := 1) (vs := [.slice _ _ _]) ty42 rfl rfl rfl rfl (by simp)) ?_
          refine W.nil ⟨Le.rfl, ((List.Sublist.refl _).cons _).cons_cons _, _, ((List.Sublist.refl _).cons _).cons_cons _, List.Sublist.refl _, ?_⟩
          refine WD.take 6 rfl rfl rfl (by kernel_rfl) (by kernel_rfl) (by kernel_rfl) (ok_fieldB fd45_8 rfl) ?_
          refine WD.any [5] (by kernel_rfl) rfl ⟨⟨_, rfl, rfl, ?_⟩, trivial⟩
          refine W.call (Mp := []) (clonep_fc (hr_a.mono ((hG376.trans hG383).trans hG390))) rfl (List.Perm.refl _) ?_
          intro _ G397 _ hG397 q399
          refine match q399 with | ⟨e_400, _, e_401, hv398⟩ => ?_
          subst e_400
          subst e_401
          have q403 := hv398.form
          refine match q403 with | ⟨_, _, e_402⟩ => ?_
          subst e_402
          refine W.nil ⟨hG397, ((List.Sublist.refl _).cons _).cons_cons _, _, ((List.Sublist.refl _).cons _).cons_cons _, List.Sublist.refl _, ?_⟩
          refine WD.any [7] (by kernel_rfl) rfl ⟨⟨_, rfl, rfl, ?_⟩, trivial⟩
          refine W.store (i := 1) (vs := [.slice _ _ _]) (L' := [.int .i64 _, .int .i64 _, .slice _ _ _, .slice _ _ _, .string _, .bool _, .int .i64 _, .int .i64 _, .slice _ _ _, .slice _ _ _]) ty43 rfl rfl rfl rfl rfl rfl rfl rfl ?_
          refine W.nil ⟨Le.rfl, ((List.Sublist.refl _).cons _).cons_cons _, _, ((List.Sublist.refl _).cons _).cons_cons _, List.Sublist.refl _, ?_⟩
          refine WD.take 8 rfl rfl rfl (by kernel_rfl) (by kernel_rfl) (by kernel_rfl) (ok_fieldB fd45_9 rfl) ?_
          refine WD.any [9] (by kernel_rfl) rfl ⟨⟨_, rfl, rfl, ?_⟩, trivial⟩
          refine W.store (i := 1) (vs := [.slice _ _ _]) (L' := [.int .i64 _, .int .i64 _, .slice _ _ _, .slice _ _ _, .string _, .bool _, .int .i64 _, .int .i64 _, .slice _ _ _, .slice _ _ _]) ty42 rfl rfl rfl rfl rfl rfl rfl rfl ?_
          refine W.nil ⟨Le.rfl, ((List.Sublist.refl _).cons _).cons_cons _, _, ((List.Sublist.refl _).cons _).cons_cons _, List.Sublist.refl _, ?_⟩
          refine WD.done (by kernel_rfl) (thn_n ?_)
          refine WC.seq ?_
          refine WC.region ?_
          refine W.ok (ok_loadB (i := 1) (vs := [.int .i64 _, .int .i64 _, .slice _ _ _, .slice _ _ _, .string _, .bool _, .int .i64 _, .int .i64 _, .slice _ _ _, .slice _ _ _]) ty45 rfl rfl rfl rfl (by simp)) ?_
          refine W.store (i := 0) (vs := [.int .i64 _, .int .i64 _, .slice _ _ _, .slice _ _ _, .string _, .bool _, .int .i64 _, .int .i64 _, .slice _ _ _, .slice _ _ _]) (L' := [.int .i64 _, .int .i64 _, .slice _ _ _, .slice _ _ _, .string _, .bool _, .int .i64 _, .int .i64 _, .slice _ _ _, .slice _ _ _]) ty45 rfl rfl rfl rfl rfl rfl rfl rfl ?_
          refine W.nil (thn_n ?_)
          refine WC.ret ?_
          refine ⟨.inr rfl, [_], ⟨⟨_, _, _, _, _, rfl, nthM_mem (i := 0) rfl, ty45, (by simp), rfl, rfl⟩, trivial⟩, [], List.nil_sublist _, ?_⟩
          refine ⟨rfl, _, rfl, ?_⟩
          · exact ⟨_, _, _, _, _, _, _, _, rfl, (hv377.mono ((hG383.trans hG390).trans hG397)), (hv384.mono (hG390.trans hG397)), (hv391.mono hG397), hv398, (by assumption)⟩
        · refine W.ok (ok_loadB (i := 1) (vs := [.slice _ _ _]) ty42 rfl rfl rfl rfl (by simp)) ?_
          refine W.nil ⟨Le.rfl, ((List.Sublist.refl _).cons _).cons_cons _, _, ((List.Sublist.refl _).cons _).cons_cons _, List.Sublist.refl _, ?_⟩
          refine WD.any [2] (by kernel_rfl) rfl ⟨⟨_, rfl, rfl, ?_⟩, trivial⟩
          refine W.call (Mp := []) (clonem_fc (hm_a.mono (hG376.trans hG383))) rfl (List.Perm.refl _) ?_
          intro _ G404 _ hG404 q406
          refine match q406 with | ⟨e_407, _, e_408, hv405⟩ => ?_
          subst e_407
          subst e_408
          have q410 := hv405.form
          refine match q410 with | ⟨_, _, e_409⟩ => ?_
          subst e_409
          refine W.nil ⟨hG404, ((List.Sublist.refl _).cons _).cons_cons _, _, ((List.Sublist.refl _).cons _).cons_cons _, List.Sublist.refl _, ?_⟩
          refine WD.take 6 rfl rfl rfl (by kernel_rfl) (by kernel_rfl) (by kernel_rfl) (ok_fieldB fd45_8 rfl) ?_
          refine WD.any [5] (by kernel_rfl) rfl ⟨⟨_, rfl, rfl, ?_⟩, trivial⟩
          refine W.call (Mp := []) (clonep_fc (hr_a.mono ((hG376.trans hG383).trans hG404))) rfl (List.Perm.refl _) ?_
          intro _ G411 _ hG411 q413
          refine match q413 with | ⟨e_414, _, e_415, hv412⟩ => ?_
          subst e_414
          subst e_415
          have q417 := hv412.form
          refine match q417 with | ⟨_, _, e_416⟩ => ?_
          subst e_416
          refine W.nil ⟨hG411, ((List.Sublist.refl _).cons _).cons_cons _, _, ((List.Sublist.refl _).cons _).cons_cons _, List.Sublist.refl _, ?_⟩
          refine WD.any [7] (by kernel_rfl) rfl ⟨⟨_, rfl, rfl, ?_⟩, trivial⟩
          refine W.store (i := 1) (vs := [.slice _ _ _]) (L' := [.int .i64 _, .int .i64 _, .slice _ _ _, .slice _ _ _, .string _, .bool _, .int .i64 _, .int .i64 _, .slice _ _ _, .slice _ _ _]) ty43 rfl rfl rfl rfl rfl rfl rfl rfl ?_
          refine W.nil ⟨Le.rfl, ((List.Sublist.refl _).cons _).cons_cons _, _, ((List.Sublist.refl _).cons _).cons_cons _, List.Sublist.refl _, ?_⟩
          refine WD.take 8 rfl rfl rfl (by kernel_rfl) (by kernel_rfl) (by kernel_rfl) (ok_fieldB fd45_9 rfl) ?_
          refine WD.any [9] (by kernel_rfl) rfl ⟨⟨_, rfl, rfl, ?_⟩, trivial⟩
          refine W.store (i := 1) (vs := [.slice _ _ _]) (L' := [.int .i64 _, .int .i64 _, .slice _ _ _, .slice _ _ _, .string _, .bool _, .int .i64 _, .int .i64 _, .slice _ _ _, .slice _ _ _]) ty42 rfl rfl rfl rfl rfl rfl rfl rfl ?_
          refine W.nil ⟨Le.rfl, ((List.Sublist.refl _).cons _).cons_cons _, _, ((List.Sublist.refl _).cons _).cons_cons _, List.Sublist.refl _, ?_⟩
          refine WD.done (by kernel_rfl) (thn_n ?_)
          refine WC.seq ?_
          refine WC.region ?_
          refine W.ok (ok_loadB (i := 1) (vs := [.int .i64 _, .int .i64 _, .slice _ _ _, .slice _ _ _, .string _, .bool _, .int .i64 _, .int .i64 _, .slice _ _ _, .slice _ _ _]) ty45 rfl rfl rfl rfl (by simp)) ?_
          refine W.store (i := 0) (vs := [.int .i64 _, .int .i64 _, .slice _ _ _, .slice _ _ _, .string _, .bool _, .int .i64 _, .int .i64 _, .slice _ _ _, .slice _ _ _]) (L' := [.int .i64 _, .int .i64 _, .slice _ _ _, .slice _ _ _, .string _, .bool _, .int .i64 _, .int .i64 _, .slice _ _ _, .slice _ _ _]) ty45 rfl rfl rfl rfl rfl rfl rfl rfl ?_
          refine W.nil (thn_n ?_)
          refine WC.ret ?_
          refine ⟨.inr rfl, [_], ⟨⟨_, _, _, _, _, rfl, nthM_mem (i := 0) rfl, ty45, (by simp), rfl, rfl⟩, trivial⟩, [], List.nil_sublist _, ?_⟩
          refine ⟨rfl, _, rfl, ?_⟩
          · exact ⟨_, _, _, _, _, _, _, _, rfl, (hv377.mono ((hG383.trans hG404).trans hG411)), (hv384.mono (hG404.trans hG411)), (hv405.mono hG411), hv412, (by assumption)⟩
      · refine W.ok (ok_loadB (i := 1) (vs := [.slice _ _ _]) ty42 rfl rfl rfl rfl (by simp)) ?_
        refine W.nil ⟨Le.rfl, ((List.Sublist.refl _).cons _).cons_cons _, _, ((List.Sublist.refl _).cons _).cons_cons _, List.Sublist.refl _, ?_⟩
        refine WD.any [1] (by kernel_rfl) rfl ⟨⟨_, rfl, rfl, ?_⟩, trivial⟩
        refine W.ok (ok_loadB (i := 1) (vs := [.slice _ _ _]) ty43 rfl rfl rfl rfl (by simp)) ?_
        refine W.nil ⟨Le.rfl, ((List.Sublist.refl _).cons _).cons_cons _, _, ((List.Sublist.refl _).cons _).cons_cons _, List.Sublist.refl _, ?_⟩
        refine WD.any [2] (by kernel_rfl) rfl ⟨⟨_, rfl, rfl, ?_⟩, trivial⟩
        refine W.call (Mp := []) (clonem_fc (hm_a.mono (hG376.trans hG383))) rfl (List.Perm.refl _) ?_
        intro _ G418 _ hG418 q420
        refine match q420 with | ⟨e_421, _, e_422, hv419⟩ => ?_
        subst e_421
        subst e_422
        have q424 := hv419.form
        refine match q424 with | ⟨_, _, e_423⟩ => ?_
        subst e_423
        refine W.nil ⟨hG418, ((List.Sublist.refl _).cons _).cons_cons _, _, ((List.Sublist.refl _).cons _).cons_cons _, List.Sublist.refl _, ?_⟩
        refine WD.take 6 rfl rfl rfl (by kernel_rfl) (by kernel_rfl) (by kernel_rfl) (ok_fieldB fd45_8 rfl) ?_
        refine WD.any [5] (by kernel_rfl) rfl ⟨⟨_, rfl, rfl, ?_⟩, trivial⟩
        refine W.call (Mp := []) (clonep_fc (hr_a.mono ((hG376.trans hG383).trans hG418))) rfl (List.Perm.refl _) ?_
        intro _ G425 _ hG425 q427
        refine match q427 with | ⟨e_428, _, e_429, hv426⟩ => ?_
        subst e_428
        subst e_429
        have q431 := hv426.form
        refine match q431 with | ⟨_, _, e_430⟩ => ?_
        subst e_430
        refine W.nil ⟨hG425, ((List.Sublist.refl _).cons _).cons_cons _, _, ((List.Sublist.refl _).cons _).cons_cons _, List.Sublist.refl _, ?_⟩
        refine WD.any [7] (by kernel_rfl) rfl ⟨⟨_, rfl, rfl, ?_⟩, trivial⟩
        refine W.store (i := 1) (vs := [.slice _ _ _]) (L' := [.int .i64 _, .int .i64 _, .slice _ _ _, .slice _ _ _, .string _, .bool _, .int .i64 _, .int .i64 _, .slice _ _ _, .slice _ _ _]) ty43 rfl rfl rfl rfl rfl rfl rfl rfl ?_
        refine W.nil ⟨Le.rfl, ((List.Sublist.refl _).cons _).cons_cons _, _, ((List.Sublist.refl _).cons _).cons_cons _, List.Sublist.refl _, ?_⟩
        refine WD.take 8 rfl rfl rfl (by kernel_rfl) (by kernel_rfl) (by kernel_rfl) (ok_fieldB fd45_9 rfl) ?_
        refine WD.any [9] (by kernel_rfl) rfl ⟨⟨_, rfl, rfl, ?_⟩, trivial⟩
        refine W.store (i := 1) (vs := [.slice _ _ _]) (L' := [.int .i64 _, .int .i64 _, .slice _ _ _, .slice _ _ _, .string _, .bool _, .int .i64 _, .int .i64 _, .slice _ _ _, .slice _ _ _]) ty42 rfl rfl rfl rfl rfl rfl rfl rfl ?_
        refine W.nil ⟨Le.rfl, ((List.Sublist.refl _).cons _).cons_cons _, _, ((List.Sublist.refl _).cons _).cons_cons _, List.Sublist.refl _, ?_⟩
        refine WD.done (by kernel_rfl) (thn_n ?_)
        refine WC.seq ?_
        refine WC.region ?_
        refine W.ok (ok_loadB (i := 1) (vs := [.int .i64 _, .int .i64 _, .slice _ _ _, .slice _ _ _, .string _, .bool _, .int .i64 _, .int .i64 _, .slice _ _ _, .slice _ _ _]) ty45 rfl rfl rfl rfl (by simp)) ?_
        refine W.store (i := 0) (vs := [.int .i64 _, .int .i64 _, .slice _ _ _, .slice _ _ _, .string _, .bool _, .int .i64 _, .int .i64 _, .slice _ _ _, .slice _ _ _]) (L' := [.int .i64 _, .int .i64 _, .slice _ _ _, .slice _ _ _, .string _, .bool _, .int .i64 _, .int .i64 _, .slice _ _ _, .slice _ _ _]) ty45 rfl rfl rfl rfl rfl rfl rfl rfl ?_
        refine W.nil (thn_n ?_)
        refine WC.ret ?_
        refine ⟨.inr rfl, [_], ⟨⟨_, _, _, _, _, rfl, nthM_mem (i := 0) rfl, ty45, (by simp), rfl, rfl⟩, trivial⟩, [], List.nil_sublist _, ?_⟩
        refine ⟨rfl, _, rfl, ?_⟩
        · exact ⟨_, _, _, _, _, _, _, _, rfl, (hv377.mono ((hG383.trans hG418).trans hG425)), (hv384.mono (hG418.trans hG425)), (hv419.mono hG425), hv426, (by assumption)⟩
  · refine W.ok (ok_loadB (i := 1) (vs := [.slice _ _ _]) ty26 rfl rfl rfl rfl (by simp)) ?_
    refine W.nil ⟨Le.rfl, ((List.Sublist.refl _).cons _).cons_cons _, _, ((List.Sublist.refl _).cons _).cons_cons _, List.Sublist.refl _, ?_⟩
    refine WD.any [1] (by kernel_rfl) rfl ⟨⟨_, rfl, rfl, ?_⟩, trivial⟩
    refine W.ok (ok_loadB (i := 1) (vs := [.slice _ _ _]) ty25 rfl rfl rfl rfl (by simp)) ?_
    refine W.nil ⟨Le.rfl, ((List.Sublist.refl _).cons _).cons_cons _, _, ((List.Sublist.refl _).cons _).cons_cons _, List.Sublist.refl _, ?_⟩
    refine WD.any [2] (by kernel_rfl) rfl ⟨⟨_, rfl, rfl, ?_⟩, trivial⟩
    refine W.call (Mp := []) (clones_fc hp_a) rfl (List.Perm.refl _) ?_
    intro _ G432 _ hG432 q434
    refine match q434 with | ⟨e_435, _, e_436, hv433⟩ => ?_
    subst e_435
    subst e_436
    have q438 := hv433.form
    refine match q438 with | ⟨_, _, e_437⟩ => ?_
    subst e_437
    refine W.nil ⟨hG432, ((List.Sublist.refl _).cons _).cons_cons _, _, ((List.Sublist.refl _).cons _).cons_cons _, List.Sublist.refl _, ?_⟩
    refine WD.take 6 rfl rfl rfl (by kernel_rfl) (by kernel_rfl) (by kernel_rfl) (ok_fieldB fd45_2 rfl) ?_
    refine WD.any [5] (by kernel_rfl) rfl ⟨⟨_, rfl, rfl, ?_⟩, trivial⟩
    refine W.call (Mp := []) (clonei_fc (hk_a.mono hG432)) rfl (List.Perm.refl _) ?_
    intro _ G439 _ hG439 q441
    refine match q441 with | ⟨e_442, _, e_443, hv440⟩ => ?_
    subst e_442
    subst e_443
    have q445 := hv440.form
    refine match q445 with | ⟨_, _, e_444⟩ => ?_
    subst e_444
    refine W.nil ⟨hG439, ((List.Sublist.refl _).cons _).cons_cons _, _, ((List.Sublist.refl _).cons _).cons_cons _, List.Sublist.refl _, ?_⟩
    refine WD.any [7] (by kernel_rfl) rfl ⟨⟨_, rfl, rfl, ?_⟩, trivial⟩
    refine W.store (i := 1) (vs := [.slice _ _ _]) (L' := [.int .i64 _, .int .i64 _, .slice _ _ _, .slice _ _ _, .string _, .bool _, .int .i64 _, .int .i64 _, .slice _ _ _, .slice _ _ _]) ty25 rfl rfl rfl rfl rfl rfl rfl rfl ?_
    refine W.nil ⟨Le.rfl, ((List.Sublist.refl _).cons _).cons_cons _, _, ((List.Sublist.refl _).cons _).cons_cons _, List.Sublist.refl _, ?_⟩
    refine WD.take 8 rfl rfl rfl (by kernel_rfl) (by kernel_rfl) (by kernel_rfl) (ok_fieldB fd45_3 rfl) ?_
    refine WD.any [9] (by kernel_rfl) rfl ⟨⟨_, rfl, rfl, ?_⟩, trivial⟩
    refine W.store (i := 1) (vs := [.slice _ _ _]) (L' := [.int .i64 _, .int .i64 _, .slice _ _ _, .slice _ _ _, .string _, .bool _, .int .i64 _, .int .i64 _, .slice _ _ _, .slice _ _ _]) ty26 rfl rfl rfl rfl rfl rfl rfl rfl ?_
    refine W.nil ⟨Le.rfl, ((List.Sublist.refl _).cons _).cons_cons _, _, ((List.Sublist.refl _).cons _).cons_cons _, List.Sublist.refl _, ?_⟩
    refine WD.done (by kernel_rfl) (thn_n ?_)
    refine WC.seq ?_
    refine WC.drawW _ (((List.Sublist.refl _).cons _).cons_cons _) mix (by rintro _ _ _ _ ⟨h | h, _⟩ <;> cases h) ?_
    refine WD.take 0 rfl rfl rfl (by kernel_rfl) (by kernel_rfl) (by kernel_rfl) (ok_fieldB fd45_8 rfl) ?_
    refine WD.take 3 rfl rfl rfl (by kernel_rfl) (by kernel_rfl) (by kernel_rfl) (ok_fieldB fd45_9 rfl) ?_
    refine WD.any [1, 4] (by kernel_rfl) rfl ⟨⟨_, rfl, rfl, ?_⟩, ⟨_, rfl, rfl, ?_⟩, trivial⟩
    · refine W.ok (ok_loadB (i := 1) (vs := [.slice _ _ _]) ty43 rfl rfl rfl rfl (by simp)) ?_
      refine W.nil ⟨Le.rfl, ((List.Sublist.refl _).cons _).cons_cons _, _, ((List.Sublist.refl _).cons _).cons_cons _, List.Sublist.refl _, ?_⟩
      refine WD.any [2, 4] (by kernel_rfl) rfl ⟨⟨_, rfl, rfl, ?_⟩, ⟨_, rfl, rfl, ?_⟩, trivial⟩
      · refine W.call (Mp := []) (clonem_fc (hm_a.mono (hG432.trans hG439))) rfl (List.Perm.refl _) ?_
        intro _ G446 _ hG446 q448
        refine match q448 with | ⟨e_449, _, e_450, hv447⟩ => ?_
        subst e_449
        subst e_450
        have q452 := hv447.form
        refine match q452 with | ⟨_, _, e_451⟩ => ?_
        subst e_451
        refine W.nil ⟨hG446, ((List.Sublist.refl _).cons _).cons_cons _, _, ((List.Sublist.refl _).cons _).cons_cons _, List.Sublist.refl _, ?_⟩
        refine WD.any [4] (by kernel_rfl) rfl ⟨⟨_, rfl, rfl, ?_⟩, trivial⟩
        refine W.ok (ok_loadB (i := 1) (vs := [.slice _ _ _]) ty42 rfl rfl rfl rfl (by simp)) ?_
        refine W.nil ⟨Le.rfl, ((List.Sublist.refl _).cons _).cons_cons _, _, ((List.Sublist.refl _).cons _).cons_cons _, List.Sublist.refl _, ?_⟩
        refine WD.take 6 rfl rfl rfl (by kernel_rfl) (by kernel_rfl) (by kernel_rfl) (ok_fieldB fd45_8 rfl) ?_
        refine WD.any [5] (by kernel_rfl) rfl ⟨⟨_, rfl, rfl, ?_⟩, trivial⟩
        refine W.call (Mp := []) (clonep_fc (hr_a.mono ((hG432.trans hG439).trans hG446))) rfl (List.Perm.refl _) ?_
        intro _ G453 _ hG453 q455
        refine match q455 with | ⟨e_456, _, e_457, hv454⟩ => ?_
        subst e_456
        subst e_457
        have q459 := hv454.form
        refine match q459 with | ⟨_, _, e_458⟩ => ?_
        subst e_458
        refine W.nil ⟨hG453, ((List.Sublist.refl _).cons _).cons_cons _, _, ((List.Sublist.refl _).cons _).cons_cons _, List.Sublist.refl _, ?_⟩
        refine WD.any [7] (by kernel_rfl) rfl ⟨⟨_, rfl, rfl, ?_⟩, trivial⟩
        refine W.store (i := 1) (vs := [.slice _ _ _]) (L' := [.int .i64 _, .int .i64 _, .slice _ _ _, .slice _ _ _, .string _, .bool _, .int .i64 _, .int .i64 _, .slice _ _ _, .slice _ _ _]) ty43 rfl rfl rfl rfl rfl rfl rfl rfl ?_
        refine W.nil ⟨Le.rfl, ((List.Sublist.refl _).cons _).cons_cons _, _, ((List.Sublist.refl _).cons _).cons_cons _, List.Sublist.refl _, ?_⟩
        refine WD.take 8 rfl rfl rfl (by kernel_rfl) (by kernel_rfl) (by kernel_rfl) (ok_fieldB fd45_9 rfl) ?_
        refine WD.any [9] (by kernel_rfl) rfl ⟨⟨_, rfl, rfl, ?_⟩, trivial⟩
        refine W.store (i := 1) (vs := [.slice _ _ _]) (L' := [.int .i64 _, .int .i64 _, .slice _ _ _, .slice _ _ _, .string _, .bool _, .int .i64 _, .int .i64 _, .slice _ _ _, .slice _ _ _]) ty42 rfl rfl rfl rfl rfl rfl rfl rfl ?_
        refine W.nil ⟨Le.rfl, ((List.Sublist.refl _).cons _).cons_cons _, _, ((List.Sublist.refl _).cons _).cons_cons _, List.Sublist.refl _, ?_⟩
        refine WD.done (by kernel_rfl) (thn_n ?_)
        refine WC.seq ?_
        refine WC.region ?_
        refine W.ok (ok_loadB (i := 1) (vs := [.int .i64 _, .int .i64 _, .slice _ _ _, .slice _ _ _, .string _, .bool _, .int .i64 _, .int .i64 _, .slice _ _ _, .slice _ _ _]) ty45 rfl rfl rfl rfl (by simp)) ?_
        refine W.store (i := 0) (vs := [.int .i64 _, .int .i64 _, .slice _ _ _, .slice _ _ _, .string _, .bool _, .int .i64 _, .int .i64 _, .slice _ _ _, .slice _ _ _]) (L' := [.int .i64 _, .int .i64 _, .slice _ _ _, .slice _ _ _, .string _, .bool _, .int .i64 _, .int .i64 _, .slice _ _ _, .slice _ _ _]) ty45 rfl rfl rfl rfl rfl rfl rfl rfl ?_
        refine W.nil (thn_n ?_)
        refine WC.ret ?_
        refine ⟨.inr rfl, [_], ⟨⟨_, _, _, _, _, rfl, nthM_mem (i := 0) rfl, ty45, (by simp), rfl, rfl⟩, trivial⟩, [], List.nil_sublist _, ?_⟩
        refine ⟨rfl, _, rfl, ?_⟩
        · exact ⟨_, _, _, _, _, _, _, _, rfl, (hv433.mono ((hG439.trans hG446).trans hG453)), (hv440.mono (hG446.trans hG453)), (hv447.mono hG453), hv454, (by assumption)⟩
      · refine W.ok (ok_loadB (i := 1) (vs := [.slice _ _ _]) ty42 rfl rfl rfl rfl (by simp)) ?_
        refine W.nil ⟨Le.rfl, ((List.Sublist.refl _).cons _).cons_cons _, _, ((List.Sublist.refl _).cons _).cons_cons _, List.Sublist.refl _, ?_⟩
        refine WD.any [2] (by kernel_rfl) rfl ⟨⟨_, rfl, rfl, ?_⟩, trivial⟩
        refine W.call (Mp := []) (clonem_fc (hm_a.mono (hG432.trans hG439))) rfl (List.Perm.refl _) ?_
        intro _ G460 _ hG460 q462
        refine match q462 with | ⟨e_463, _, e_464, hv461⟩ => ?_
        subst e_463
        subst e_464
        have q466 := hv461.form
        refine match q466 with | ⟨_, _, e_465⟩ => ?_
        subst e_465
        refine W.nil ⟨hG460, ((List.Sublist.refl _).cons _).cons_cons _, _, ((List.Sublist.refl _).cons _).cons_cons _, List.Sublist.refl _, ?_⟩
        refine WD.take 6 rfl rfl rfl (by kernel_rfl) (by kernel_rfl) (by kernel_rfl) (ok_fieldB fd45_8 rfl) ?_
        refine WD.any [5] (by kernel_rfl) rfl ⟨⟨_, rfl, rfl, ?_⟩, trivial⟩
        refine W.call (Mp := []) (clonep_fc (hr_a.mono ((hG432.trans hG439).trans hG460))) rfl (List.Perm.refl _) ?_
        intro _ G467 _ hG467 q469
        refine match q469 with | ⟨e_470, _, e_471, hv468⟩ => ?_
        subst e_470
        subst e_471
        have q473 := hv468.form
        refine match q473 with | ⟨_, _, e_472⟩ => ?_
        subst e_472
        refine W.nil ⟨hG467, ((List.Sublist.refl _).cons _).cons_cons _, _, ((List.Sublist.refl _).cons _).cons_cons _, List.Sublist.refl _, ?_⟩
        refine WD.any [7] (by kernel_rfl) rfl ⟨⟨_, rfl, rfl, ?_⟩, trivial⟩
        refine W.store (i := 1) (vs := [.slice _ _ _]) (L' := [.int .i64 _, .int .i64 _, .slice _ _ _, .slice _ _ _, .string _, .bool _, .int .i64 _, .int .i64 _, .slice _ _ _, .slice _ _ _]) ty43 rfl rfl rfl rfl rfl rfl rfl rfl ?_
        refine W.nil ⟨Le.rfl, ((List.Sublist.refl _).cons _).cons_cons _, _, ((List.Sublist.refl _).cons _).cons_cons _, List.Sublist.refl _, ?_⟩
        refine WD.take 8 rfl rfl rfl (by kernel_rfl) (by kernel_rfl) (by kernel_rfl) (ok_fieldB fd45_9 rfl) ?_
        refine WD.any [9] (by kernel_rfl) rfl ⟨⟨_, rfl, rfl, ?_⟩, trivial⟩
        refine W.store (i := 1) (vs := [.slice _ _ _]) (L' := [.int .i64 _, .int .i64 _, .slice _ _ _, .slice _ _ _, .string _, .bool _, .int .i64 _, .int .i64 _, .slice _ _ _, .slice _ _ _]) ty42 rfl rfl rfl rfl rfl rfl rfl rfl ?_
        refine W.nil ⟨Le.rfl, ((List.Sublist.refl _).cons _).cons_cons _, _, ((List.Sublist.refl _).cons _).cons_cons _, List.Sublist.refl _, ?_⟩
        refine WD.done (by kernel_rfl) (thn_n ?_)
        refine WC.seq ?_
        refine WC.region ?_
        refine W.ok (ok_loadB (i := 1) (vs := [.int .i64 _, .int .i64 _, .slice _ _ _, .slice _ _ _, .string _, .bool _, .int .i64 _, .int .i64 _, .slice _ _ _, .slice _ _ _]) ty45 rfl rfl rfl rfl (by simp)) ?_
        refine W.store (i := 0) (vs := [.int .i64 _, .int .i64 _, .slice _ _ _, .slice _ _ _, .string _, .bool _, .int .i64 _, .int .i64 _, .slice _ _ _, .slice _ _ _]) (L' := [.int .i64 _, .int .i64 _, .slice _ _ _, .slice _ _ _, .string _, .bool _, .int .i64 _, .int .i64 _, .slice _ _ _, .slice _ _ _]) ty45 rfl rfl rfl rfl rfl rfl rfl rfl ?_
        refine W.nil (thn_n ?_)
        refine WC.ret ?_
        refine ⟨.inr rfl, [_], ⟨⟨_, _, _, _, _, rfl, nthM_mem (i := 0) rfl, ty45, (by simp), rfl, rfl⟩, trivial⟩, [], List.nil_sublist _, ?_⟩
        refine ⟨rfl, _, rfl, ?_⟩
        · exact ⟨_, _, _, _, _, _, _, _, rfl, (hv433.mono ((hG439.trans hG460).trans hG467)), (hv440.mono (hG460.trans hG467)), (hv461.mono hG467), hv468, (by assumption)⟩
    · refine W.ok (ok_loadB (i := 1) (vs := [.slice _ _ _]) ty42 rfl rfl rfl rfl (by simp)) ?_
      refine W.nil ⟨Le.rfl, ((List.Sublist.refl _).cons _).cons_cons _, _, ((List.Sublist.refl _).cons _).cons_cons _, List.Sublist.refl _, ?_⟩
      refine WD.any [1] (by kernel_rfl) rfl ⟨⟨_, rfl, rfl, ?_⟩, trivial⟩
      refine W.ok (ok_loadB (i := 1) (vs := [.slice _ _ _]) ty43 rfl rfl rfl rfl (by simp)) ?_
      refine W.nil ⟨Le.rfl, ((List.Sublist.refl _).cons _).cons_cons _, _, ((List.Sublist.refl _).cons _).cons_cons _, List.Sublist.refl _, ?_⟩
      refine WD.any [2] (by kernel_rfl) rfl ⟨⟨_, rfl, rfl, ?_⟩, trivial⟩
      refine W.call (Mp := []) (clonem_fc (hm_a.mono (hG432.trans hG439))) rfl (List.Perm.refl _) ?_
      intro _ G474 _ hG474 q476
      refine match q476 with | ⟨e_477, _, e_478, hv475⟩ => ?_
      subst e_477
      subst e_478
      have q480 := hv475.form
      refine match q480 with | ⟨_, _, e_479⟩ => ?_
      subst e_479
      refine W.nil ⟨hG474, ((List.Sublist.refl _).cons _).cons_cons _, _, ((List.Sublist.refl _).cons _).cons_cons _, List.Sublist.refl _, ?_⟩
      refine WD.take 6 rfl rfl rfl (by kernel_rfl) (by kernel_rfl) (by kernel_rfl) (ok_fieldB fd45_8 rfl) ?_
      refine WD.any [5] (by kernel_rfl) rfl ⟨⟨_, rfl, rfl, ?_⟩, trivial⟩
      refine W.call (Mp := []) (clonep_fc (hr_a.mono ((hG432.trans hG439).trans hG474))) rfl (List.Perm.refl _) ?_
      intro _ G481 _ hG481 q483
      refine match q483 with | ⟨e_484, _, e_485, hv482⟩ => ?_
      subst e_484
      subst e_485
      have q487 := hv482.form
      refine match q487 with | ⟨_, _, e_486⟩ => ?_
      subst e_486
      refine W.nil ⟨hG481, ((List.Sublist.refl _).cons _).cons_cons _, _, ((List.Sublist.refl _).cons _).cons_cons _, List.Sublist.refl _, ?_⟩
      refine WD.any [7] (by kernel_rfl) rfl ⟨⟨_, rfl, rfl, ?_⟩, trivial⟩
      refine W.store (i := 1) (vs := [.slice _ _ _]) (L' := [.int .i64 _, .int .i64 _, .slice _ _ _, .slice _ _ _, .string _, .bool _, .int .i64 _, .int .i64 _, .slice _ _ _, .slice _ _ _]) ty43 rfl rfl rfl rfl rfl rfl rfl rfl ?_
      refine W.nil ⟨Le.rfl, ((List.Sublist.refl _).cons _).cons_cons _, _, ((List.Sublist.refl _).cons _).cons_cons _, List.Sublist.refl _, ?_⟩
      refine WD.take 8 rfl rfl rfl (by kernel_rfl) (by kernel_rfl) (by kernel_rfl) (ok_fieldB fd45_9 rfl) ?_
      refine WD.any [9] (by kernel_rfl) rfl ⟨⟨_, rfl, rfl, ?_⟩, trivial⟩
      refine W.store (i := 1) (vs := [.slice _ _ _]) (L' := [.int .i64 _, .int .i64 _, .slice _ _ _, .slice _ _ _, .string _, .bool _, .int .i64 _, .int .i64 _, .slice _ _ _, .slice _ _ _]) ty42 rfl rfl rfl rfl rfl rfl rfl rfl ?_
      refine W.nil ⟨Le.rfl, ((List.Sublist.refl _).cons _).cons_cons _, _, ((List.Sublist.refl _).cons _).cons_cons _, List.Sublist.refl _, ?_⟩
      refine WD.done (by kernel_rfl) (thn_n ?_)
      refine WC.seq ?_
      refine WC.region ?_
      refine W.ok (ok_loadB (i := 1) (vs := [.int .i64 _, .int .i64 _, .slice _ _ _, .slice _ _ _, .string _, .bool _, .int .i64 _, .int .i64 _, .slice _ _ _, .slice _ _ _]) ty45 rfl rfl rfl rfl (by simp)) ?_
      refine W.store (i := 0) (vs := [.int .i64 _, .int .i64 _, .slice _ _ _, .slice _ _ _, .string _, .bool _, .int .i64 _, .int .i64 _, .slice _ _ _, .slice _ _ _]) (L' := [.int .i64 _, .int .i64 _, .slice _ _ _, .slice _ _ _, .string _, .bool _, .int .i64 _, .int .i64 _, .slice _ _ _, .slice _ _ _]) ty45 rfl rfl rfl rfl rfl rfl rfl rfl ?_
      refine W.nil (thn_n ?_)
      refine WC.ret ?_
      refine ⟨.inr rfl, [_], ⟨⟨_, _, _, _, _, rfl, nthM_mem (i := 0) rfl, ty45, (by simp), rfl, rfl⟩, trivial⟩, [], List.nil_sublist _, ?_⟩
      refine ⟨rfl, _, rfl, ?_⟩
      · exact ⟨_, _, _, _, _, _, _, _, rfl, (hv433.mono ((hG439.trans hG474).trans hG481)), (hv440.mono (hG474.trans hG481)), (hv475.mono hG481), hv482, (by assumption)⟩

end Go.Proofs.Ytmadhgdplocfbaa
