/- The law MergeFresh is walked. -/
import Derived.Test.YtipdjeemjiimbaaWh
import Derived.Test.YtipdjeemjiimbaaA24
namespace Go.Proofs.Ytipdjeemjiimbaa
open Go Go.Fw Go.RowKit
set_option maxRecDepth 100000
set_option maxHeartbeats 1600000
set_option linter.unusedVariables false
set_option linter.unusedSimpArgs false
set_option linter.unnecessarySimpa false
theorem mergeFresh_fc {G : GH} {v_l : Value} {l : List Msg} (h_l : SlR eMsg G v_l l) (slo : Str) (shi : Str) (so : Bool) (n : Int) (hi : i64 n) :
    Fc Try.prog 10 [v_l, .agg #[.string slo.b, .string shi.b, .bool so], .int .i64 n] G [] (fun v _ _ => v = .bool (true)) := by
  obtain ⟨sa_l, sc_l, rfl⟩ := h_l.form
  have hl := h_l.len47
  refine Fc.intro (rs := [.tmp 6]) cl10 Try.func10 rfl Try.ntmps10 rfl rfl (fun w0 => ?_)
  refine WC.seq ?_
  refine WC.region ?_
  refine W.box (L := [.string _, .string _, .bool _]) rfl rfl (fun b1 => ?_)
  refine W.as ?_
  refine W.nil (thn_n ?_)
  refine WC.seq ?_
  refine WC.seq ?_
  refine WC.region ?_
  refine W.mv ?_
  refine W.qcall (few_fc h_l _ (by omega)) rfl ?_
  refine W.ok (ok_not rfl) ?_
  refine W.mv ?_
  refine W.sp 10 rfl (fun h9 => ?_) (fun h9 => ?_)
  · refine W.no (dj := 10) rfl rfl h9 ?_
    refine W.no (dj := 10) rfl rfl h9 ?_
    refine W.no (dj := 10) rfl rfl h9 ?_
    refine W.no (dj := 10) rfl rfl h9 ?_
    refine W.ok (ok_pick_t rfl h9) ?_
    refine W.nil (thn_n ?_)
    refine WC.cond_t rfl rfl ?_
    refine WC.seq ?_
    refine WC.region ?_
    refine W.qcall (awake24_fc) rfl ?_
    refine W.as ?_
    refine W.nil (thn_n ?_)
    refine WC.ret (thn_r ?_)
    refine ⟨.inr rfl, [_], ⟨rfl, trivial⟩, [], List.nil_sublist _, ?_⟩
    rfl
  · refine W.yes (dj := 10) rfl rfl h9 ?_
    refine W.ok (ok_loadB (i := 0) (vs := [.string _, .string _, .bool _]) ty68 rfl rfl rfl rfl (by simp)) ?_
    refine W.yes (dj := 10) rfl rfl h9 ?_
    refine W.ok (ok_loadB (i := 0) (vs := [.string _, .string _, .bool _]) ty68 rfl rfl rfl rfl (by simp)) ?_
    refine W.yes (dj := 10) rfl rfl h9 ?_
    refine W.qcall (short_fc _ _ _ _ _ _ S_ _) rfl ?_
    refine W.yes (dj := 10) rfl rfl h9 ?_
    refine W.ok (ok_not rfl) ?_
    refine W.ok (ok_pick_f rfl h9) ?_
    refine W.nil (thn_n ?_)
    refine WC.cond (b := _) rfl (fun h14 => ?_) (fun h14 => ?_)
    · refine WC.seq ?_
      refine WC.region ?_
      refine W.qcall (awake24_fc) rfl ?_
      refine W.as ?_
      refine W.nil (thn_n ?_)
      refine WC.ret (thn_r ?_)
      refine ⟨.inr rfl, [_], ⟨rfl, trivial⟩, [], List.nil_sublist _, ?_⟩
      rfl
    · have q3 : longG Msg.w l 0 2000 ≤ 2000 := by simpa using h9
      have hks : ∀ m ∈ l, m.key.b.size < 140737488355328 := fun m h => by
        have h1 := (longG_mem (fun a => by have := Msg.w_pos a; omega) (by omega) q3).2 m h
        unfold Msg.w at h1; omega
      refine WC.skip (thn_n ?_)
      refine WC.seq ?_
      refine WC.drawW _ ((List.Sublist.refl _).cons_cons _) mix (by rintro _ _ _ _ ⟨h | h, _⟩ <;> cases h) ?_
      refine WD.take 0 rfl rfl rfl (by kernel_rfl) (by kernel_rfl) (by kernel_rfl) (ok_mv) ?_
      refine WD.take 1 rfl rfl rfl (by kernel_rfl) (by kernel_rfl) (by kernel_rfl) (ok_loadB (i := 0) (vs := [.string _, .string _, .bool _]) ty68 rfl rfl rfl rfl (by simp)) ?_
      refine WD.take 2 rfl rfl rfl (by kernel_rfl) (by kernel_rfl) (by kernel_rfl) (ok_mv) ?_
      refine WD.take 4 rfl rfl rfl (by kernel_rfl) (by kernel_rfl) (by kernel_rfl) (ok_mv) ?_
      refine WD.take 5 rfl rfl rfl (by kernel_rfl) (by kernel_rfl) (by kernel_rfl) (ok_loadB (i := 0) (vs := [.string _, .string _, .bool _]) ty68 rfl rfl rfl rfl (by simp)) ?_
      refine WD.take 6 rfl rfl rfl (by kernel_rfl) (by kernel_rfl) (by kernel_rfl) (ok_mv) ?_
      refine WD.any [3] (by kernel_rfl) rfl ⟨⟨_, rfl, rfl, ?_⟩, trivial⟩
      refine W.call (Mp := []) (mfresh_fc h_l _ _ _ _ (by assumption)) rfl (List.Perm.refl _) ?_
      intro _ G2 _ hG2 q4
      refine match q4 with | ⟨e_5, _, e_6, hv3⟩ => ?_
      subst e_5
      subst e_6
      have q8 := hv3.form
      refine match q8 with | ⟨sa_hv3, sc_hv3, e_7⟩ => ?_
      subst e_7
      refine W.nil ⟨hG2, (List.Sublist.refl _).cons_cons _, _, (List.Sublist.refl _).cons_cons _, List.Sublist.refl _, ?_⟩
      refine WD.any [7] (by kernel_rfl) rfl ⟨⟨_, rfl, rfl, ?_⟩, trivial⟩
      refine W.call (Mp := []) (rfresh_fc (h_l.mono hG2) _ _ _ _ (by assumption)) rfl (List.Perm.refl _) ?_
      intro _ G9 _ hG9 q11
      refine match q11 with | ⟨e_12, _, e_13, hv10⟩ => ?_
      subst e_12
      subst e_13
      have q15 := hv10.form
      refine match q15 with | ⟨sa_hv10, sc_hv10, e_14⟩ => ?_
      subst e_14
      refine W.nil ⟨hG9, (List.Sublist.refl _).cons_cons _, _, (List.Sublist.refl _).cons_cons _, List.Sublist.refl _, ?_⟩
      refine WD.any [8] (by kernel_rfl) rfl ⟨⟨_, rfl, rfl, ?_⟩, trivial⟩
      refine W.qcall ((samem_fc (hv3.mono hG9) hv10).mono (fun v _ _ _ hv => hv.trans (congrArg Value.bool (decide_eq_true (by congr 1; funext m; exact (Int.lt_or_le n m.stamp).elim (fun hq => by simp [hq, Int.not_le.2 hq]) (fun hq => by simp [hq, Int.not_lt.2 hq])))))) rfl ?_
      refine W.nil ⟨Le.rfl, (List.Sublist.refl _).cons_cons _, _, (List.Sublist.refl _).cons_cons _, List.Sublist.refl _, ?_⟩
      refine WD.take 9 rfl rfl rfl (by kernel_rfl) (by kernel_rfl) (by kernel_rfl) (ok_mv) ?_
      refine WD.anyG [10] (by kernel_rfl) rfl ⟨⟨_, rfl, .inr ⟨_, 26, _, _, rfl, rfl, rfl, rfl, rfl⟩, ?_⟩, trivial⟩
      refine W.qcall (awake24_fc) rfl ?_
      refine W.nil ⟨Le.rfl, (List.Sublist.refl _).cons_cons _, _, (List.Sublist.refl _).cons_cons _, List.Sublist.refl _, ?_⟩
      refine WD.take 11 rfl rfl rfl (by kernel_rfl) (by kernel_rfl) (by kernel_rfl) (ok_pick_t rfl rfl) ?_
      refine WD.take 12 rfl rfl rfl (by kernel_rfl) (by kernel_rfl) (by kernel_rfl) (ok_as) ?_
      refine WD.done (by kernel_rfl) (thn_n ?_)
      refine WC.ret ?_
      refine ⟨.inr rfl, [_], ⟨rfl, trivial⟩, [], List.nil_sublist _, ?_⟩
      rfl

end Go.Proofs.Ytipdjeemjiimbaa
