/- Walks of views and fresh messages. -/
import Derived.Test.YtebkfinhhpelbaaGreatQwWd
import Derived.Test.YtebkfinhhpelbaaGreatQwWg
namespace Go.Proofs.YtebkfinhhpelbaaGreat
open Go Go.Fw Go.RowKit
set_option maxRecDepth 100000
set_option maxHeartbeats 1600000
set_option linter.unusedVariables false
set_option linter.unusedSimpArgs false
set_option linter.unnecessarySimpa false
theorem mview_fc {G : GH} {v_l : Value} {l : List Pair} (h_l : SlR ePair G v_l l) (slo : Str) (shi : Str) (so : Bool) {v_ms : Value} {ms : List Msg} (h_ms : SlR eMsg G v_ms ms) (hP : PairsR l) (hn : l.length + ms.length ≤ 1000000) (hm : ∀ m ∈ ms, m.key.b.size ≤ 16 ∧ m.val.b.size ≤ 16) (hs : slo.b.size ≤ 300) :
    Fc Tryz.prog 89 [v_l, .agg #[.string slo.b, .string shi.b, .bool so], v_ms] G [] (fun v G' M' => M' = [] ∧ ∃ u0, v = u0 ∧ SlR ePair G' u0 (foldN (l.filter fun p => Span.has ⟨slo, shi, so⟩ p.key) (clips ⟨slo, shi, so⟩ ms))) := by
 obtain ⟨sa_l, sc_l, rfl⟩ := h_l.form
 obtain ⟨sa_ms, sc_ms, rfl⟩ := h_ms.form
 have hPf : PairsR (l.filter fun p => Span.has ⟨slo, shi, so⟩ p.key) := hP.filter _
 have hcm := clips_fit (s := ⟨slo, shi, so⟩) hs hm
 have hcl : (clips ⟨slo, shi, so⟩ ms).length ≤ ms.length := clips_le
 have hfl := List.length_filter_le (fun p : Pair => Span.has ⟨slo, shi, so⟩ p.key) l
 have hks : ∀ m ∈ ms, m.key.b.size < 140737488355328 := fun m h => by have := (hm m h).1; omega
 refine Fc.intro (rs := [.tmp 6]) cl89 Tryz.func89 rfl Tryz.ntmps89 rfl rfl (fun w0 => ?_)
 refine WC.seq (WC.region (W.box (L := [.string _, .string _, .bool _]) rfl rfl (fun b1 => (W.as (W.nil (thn_n (WC.seq (WC.drawW _ ((List.Sublist.refl _).cons_cons _) mix (by rintro _ _ _ _ ⟨h | h, _⟩ <;> cases h) (WD.take 0 rfl rfl rfl (by kernel_rfl) (by kernel_rfl) (by kernel_rfl) (ok_mv) ?_)))))))))
 refine WD.take 1 rfl rfl rfl (by kernel_rfl) (by kernel_rfl) (by kernel_rfl) (ok_loadB (i := 0) (vs := [.string _, .string _, .bool _]) ty52 rfl rfl rfl rfl (by simp)) (WD.take 3 rfl rfl rfl (by kernel_rfl) (by kernel_rfl) (by kernel_rfl) (ok_mv) (WD.take 4 rfl rfl rfl (by kernel_rfl) (by kernel_rfl) (by kernel_rfl) (ok_loadB (i := 0) (vs := [.string _, .string _, .bool _]) ty52 rfl rfl rfl rfl (by simp)) (WD.any [2] (by kernel_rfl) rfl ⟨⟨_, rfl, rfl, (W.call (Mp := []) (within_fc h_l _ _ _ (by first | assumption | omega | (simp; omega) | (exact PairsR.fold (by assumption) (by assumption)))) rfl (List.Perm.refl _) ?_)⟩, trivial⟩)))
 intro _ G2 _ hG2 q4
 refine match q4 with | ⟨e_5, _, e_6, hv3⟩ => ?_
 subst e_5
 subst e_6
 have q8 := hv3.form
 refine match q8 with | ⟨sa_hv3, sc_hv3, e_7⟩ => ?_
 subst e_7
 refine W.nil ⟨hG2, (List.Sublist.refl _).cons_cons _, _, (List.Sublist.refl _).cons_cons _, List.Sublist.refl _, (WD.any [5] (by kernel_rfl) rfl ⟨⟨_, rfl, rfl, (W.call (Mp := []) (bclips_fc (h_ms.mono hG2) slo shi so hks) rfl (List.Perm.refl _) ?_)⟩, trivial⟩)⟩
 intro _ G9 _ hG9 q11
 refine match q11 with | ⟨e_12, _, e_13, hv10⟩ => ?_
 subst e_12
 subst e_13
 have q15 := hv10.form
 refine match q15 with | ⟨sa_hv10, sc_hv10, e_14⟩ => ?_
 subst e_14
 refine W.nil ⟨hG9, (List.Sublist.refl _).cons_cons _, _, (List.Sublist.refl _).cons_cons _, List.Sublist.refl _, (WD.any [6] (by kernel_rfl) rfl ⟨⟨_, rfl, rfl, (W.call (Mp := []) (mfold_fc (hv3.mono hG9) hv10 hPf (by omega) hcm) rfl (List.Perm.refl _) ?_)⟩, trivial⟩)⟩
 intro _ G16 _ hG16 q18
 refine match q18 with | ⟨e_19, _, e_20, hv17⟩ => ?_
 subst e_19
 subst e_20
 have q22 := hv17.form
 refine match q22 with | ⟨sa_hv17, sc_hv17, e_21⟩ => ?_
 subst e_21
 refine W.nil ⟨hG16, (List.Sublist.refl _).cons_cons _, _, (List.Sublist.refl _).cons_cons _, List.Sublist.refl _, (WD.take 7 rfl rfl rfl (by kernel_rfl) (by kernel_rfl) (by kernel_rfl) (ok_as) (WD.done (by kernel_rfl) (thn_n (WC.ret ?_))))⟩
 refine ⟨.inr rfl, [_], ⟨rfl, trivial⟩, [], List.nil_sublist _, ?_⟩
 refine ⟨rfl, _, rfl, ?_⟩
 · exact hv17

theorem rview_fc {G : GH} {v_l : Value} {l : List Pair} (h_l : SlR ePair G v_l l) (slo : Str) (shi : Str) (so : Bool) {v_ms : Value} {ms : List Msg} (h_ms : SlR eMsg G v_ms ms) (hP : PairsR l) (hn : l.length + ms.length ≤ 1000000) (hm : ∀ m ∈ ms, m.key.b.size ≤ 16 ∧ m.val.b.size ≤ 16) (hs : slo.b.size ≤ 300) :
    Fc Tryz.prog 69 [v_l, .agg #[.string slo.b, .string shi.b, .bool so], v_ms] G [] (fun v G' M' => M' = [] ∧ ∃ u0, v = u0 ∧ SlR ePair G' u0 (foldN (l.filter fun p => Span.has ⟨slo, shi, so⟩ p.key) (clips ⟨slo, shi, so⟩ ms))) := by
 obtain ⟨sa_l, sc_l, rfl⟩ := h_l.form
 obtain ⟨sa_ms, sc_ms, rfl⟩ := h_ms.form
 have hPf : PairsR (l.filter fun p => Span.has ⟨slo, shi, so⟩ p.key) := hP.filter _
 have hcm := clips_fit (s := ⟨slo, shi, so⟩) hs hm
 have hcl : (clips ⟨slo, shi, so⟩ ms).length ≤ ms.length := clips_le
 have hfl := List.length_filter_le (fun p : Pair => Span.has ⟨slo, shi, so⟩ p.key) l
 have hks : ∀ m ∈ ms, m.key.b.size < 140737488355328 := fun m h => by have := (hm m h).1; omega
 refine Fc.intro (rs := [.tmp 6]) cl69 Tryz.func69 rfl Tryz.ntmps69 rfl rfl (fun w0 => ?_)
 refine WC.seq (WC.region (W.box (L := [.string _, .string _, .bool _]) rfl rfl (fun b23 => (W.as (W.nil (thn_n (WC.seq (WC.drawW _ ((List.Sublist.refl _).cons_cons _) mix (by rintro _ _ _ _ ⟨h | h, _⟩ <;> cases h) (WD.take 0 rfl rfl rfl (by kernel_rfl) (by kernel_rfl) (by kernel_rfl) (ok_mv) ?_)))))))))
 refine WD.take 1 rfl rfl rfl (by kernel_rfl) (by kernel_rfl) (by kernel_rfl) (ok_loadB (i := 0) (vs := [.string _, .string _, .bool _]) ty52 rfl rfl rfl rfl (by simp)) (WD.take 2 rfl rfl rfl (by kernel_rfl) (by kernel_rfl) (by kernel_rfl) (ok_mv) (WD.take 3 rfl rfl rfl (by kernel_rfl) (by kernel_rfl) (by kernel_rfl) (ok_len sl41 h_l rfl) (WD.take 5 rfl rfl rfl (by kernel_rfl) (by kernel_rfl) (by kernel_rfl) (ok_mv) (WD.take 6 rfl rfl rfl (by kernel_rfl) (by kernel_rfl) (by kernel_rfl) (ok_loadB (i := 0) (vs := [.string _, .string _, .bool _]) ty52 rfl rfl rfl rfl (by simp)) (WD.any [4] (by kernel_rfl) rfl ⟨⟨_, rfl, rfl, (W.call (Mp := []) (rscan_fc h_l slo shi so (l.length : Int) (by omega)) rfl (List.Perm.refl _) ?_)⟩, trivial⟩)))))
 intro _ G24 _ hG24 q26
 refine match q26 with | ⟨e_27, _, e_28, hv25⟩ => ?_
 subst e_27
 subst e_28
 have q30 := hv25.form
 refine match q30 with | ⟨sa_hv25, sc_hv25, e_29⟩ => ?_
 subst e_29
 refine W.nil ⟨hG24, (List.Sublist.refl _).cons_cons _, _, (List.Sublist.refl _).cons_cons _, List.Sublist.refl _, (WD.any [7] (by kernel_rfl) rfl ⟨⟨_, rfl, rfl, (W.call (Mp := []) (rclips_fc (h_ms.mono hG24) slo shi so hks) rfl (List.Perm.refl _) ?_)⟩, trivial⟩)⟩
 intro _ G31 _ hG31 q33
 refine match q33 with | ⟨e_34, _, e_35, hv32⟩ => ?_
 subst e_34
 subst e_35
 have q37 := hv32.form
 refine match q37 with | ⟨sa_hv32, sc_hv32, e_36⟩ => ?_
 subst e_36
 refine W.nil ⟨hG31, (List.Sublist.refl _).cons_cons _, _, (List.Sublist.refl _).cons_cons _, List.Sublist.refl _, (WD.any [8] (by kernel_rfl) rfl ⟨⟨_, rfl, rfl, (W.call (Mp := []) (rfoldF_fc (SlR.cast (hv25.mono hG31) (scan_whole l ⟨slo, shi, so⟩)) hv32 hPf (by omega) hcm) rfl (List.Perm.refl _) ?_)⟩, trivial⟩)⟩
 intro _ G38 _ hG38 q40
 refine match q40 with | ⟨e_41, _, e_42, hv39⟩ => ?_
 subst e_41
 subst e_42
 have q44 := hv39.form
 refine match q44 with | ⟨sa_hv39, sc_hv39, e_43⟩ => ?_
 subst e_43
 refine W.nil ⟨hG38, (List.Sublist.refl _).cons_cons _, _, (List.Sublist.refl _).cons_cons _, List.Sublist.refl _, (WD.take 9 rfl rfl rfl (by kernel_rfl) (by kernel_rfl) (by kernel_rfl) (ok_as) (WD.done (by kernel_rfl) (thn_n (WC.ret ?_))))⟩
 refine ⟨.inr rfl, [_], ⟨rfl, trivial⟩, [], List.nil_sublist _, ?_⟩
 refine ⟨rfl, _, rfl, ?_⟩
 · exact hv39

end Go.Proofs.YtebkfinhhpelbaaGreat
