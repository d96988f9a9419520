/- Halves of a node. -/
import Derived.Test.YtmadhgdplocfbaaWb
import Derived.Test.YtmadhgdplocfbaaFs
import Derived.Test.YtmadhgdplocfbaaSr
namespace Go.Proofs.Ytmadhgdplocfbaa
open Go Go.Fw Go.RowKit
set_option maxRecDepth 100000
set_option maxHeartbeats 1600000
set_option linter.unusedVariables false
theorem bhalve_fc {G : GH} {v_p : Value} {p : List Str} (h_p : SlR eStr G v_p p) {v_c : Value} {c : List Int} (h_c : SlR eInt G v_c c) :
    Fc Try.prog 40 [v_p, v_c] G [] (fun v G' M' => M' = [] ∧ ∃ r : List Str × List Int × Str × List Str × List Int × Bool, r = halveN p c ∧ ∃ u0 u1 u2 u3, v = .tuple #[u0, u1, .string (Str.b (r.2.2.1)), u2, u3, .bool (r.2.2.2.2.2)] ∧ SlR eStr G' u0 (r.1) ∧ SlR eInt G' u1 (r.2.1) ∧ SlR eStr G' u2 (r.2.2.2.1) ∧ SlR eInt G' u3 (r.2.2.2.2.1)) := by
  obtain ⟨sa_p, sc_p, rfl⟩ := h_p.form
  obtain ⟨sa_c, sc_c, rfl⟩ := h_c.form
  have hp := h_p.len47
  have hc := h_c.len47
  refine Fc.intro (rs := [.tmp 4, .tmp 5, .tmp 6, .tmp 7, .tmp 8, .tmp 9]) cl40 Try.func40 rfl Try.ntmps40 rfl rfl (fun w0 => ?_)
  refine WC.seq ?_
  refine WC.region ?_
  refine W.as ?_
  refine W.as ?_
  refine W.as ?_
  refine W.as ?_
  refine W.as ?_
  refine W.as ?_
  refine W.nil (thn_n ?_)
  refine WC.seq ?_
  refine WC.seq ?_
  refine WC.region ?_
  refine W.mv ?_
  refine W.ok (ok_len sl26 h_c rfl) ?_
  refine W.ok (ok_lss rfl rfl) ?_
  refine W.mv ?_
  refine W.sp 14 rfl (fun h13 => ?_) (fun h13 => ?_)
  · have p13 := of_decide_eq_true h13
    refine W.no (dj := 14) rfl rfl h13 ?_
    refine W.no (dj := 14) rfl rfl h13 ?_
    refine W.no (dj := 14) rfl rfl h13 ?_
    refine W.no (dj := 14) rfl rfl h13 ?_
    refine W.no (dj := 14) rfl rfl h13 ?_
    refine W.no (dj := 14) rfl rfl h13 ?_
    refine W.ok (ok_pick_t rfl h13) ?_
    refine W.nil (thn_n ?_)
    refine WC.cond_t rfl rfl ?_
    refine WC.seq ?_
    refine WC.region ?_
    refine W.as ?_
    refine W.as ?_
    refine W.as ?_
    refine W.as ?_
    refine W.as ?_
    refine W.as ?_
    refine W.nil (thn_n ?_)
    refine WC.ret (thn_r ?_)
    refine ⟨.inr rfl, [_, _, _, _, _, _], ⟨rfl, rfl, rfl, rfl, rfl, rfl, trivial⟩, [], List.nil_sublist _, ?_⟩
    refine ⟨rfl, _, (halveN_f (by omega)).symm, _, _, _, _, rfl, ?_, ?_, ?_, ?_⟩
    · exact SlR.nil
    · exact SlR.nil
    · exact SlR.nil
    · exact SlR.nil
  · have p13 := of_decide_eq_false h13
    refine W.yes (dj := 14) rfl rfl h13 ?_
    refine W.mv ?_
    refine W.yes (dj := 14) rfl rfl h13 ?_
    refine W.ok (ok_len sl25 h_p rfl) ?_
    refine W.yes (dj := 14) rfl rfl h13 ?_
    refine W.mv ?_
    refine W.yes (dj := 14) rfl rfl h13 ?_
    refine W.ok (ok_len sl26 h_c rfl) ?_
    refine W.yes (dj := 14) rfl rfl h13 ?_
    refine W.ok (ok_sub rfl rfl (by omega)) ?_
    refine W.yes (dj := 14) rfl rfl h13 ?_
    refine W.ok (ok_neq rfl rfl) ?_
    refine W.ok (ok_pick_f rfl h13) ?_
    refine W.nil (thn_n ?_)
    refine WC.cond (b := _) rfl (fun h20 => ?_) (fun h20 => ?_)
    · have p20 := nd_t h20
      refine WC.seq ?_
      refine WC.region ?_
      refine W.as ?_
      refine W.as ?_
      refine W.as ?_
      refine W.as ?_
      refine W.as ?_
      refine W.as ?_
      refine W.nil (thn_n ?_)
      refine WC.ret (thn_r ?_)
      refine ⟨.inr rfl, [_, _, _, _, _, _], ⟨rfl, rfl, rfl, rfl, rfl, rfl, trivial⟩, [], List.nil_sublist _, ?_⟩
      refine ⟨rfl, _, (halveN_f (by omega)).symm, _, _, _, _, rfl, ?_, ?_, ?_, ?_⟩
      · exact SlR.nil
      · exact SlR.nil
      · exact SlR.nil
      · exact SlR.nil
    · have p20 := nd_f h20
      refine WC.skip (thn_n ?_)
      refine WC.seq ?_
      refine WC.region ?_
      refine W.mv ?_
      refine W.ok (ok_len sl26 h_c rfl) ?_
      refine W.ok (ok_add rfl rfl (by omega)) ?_
      refine W.ok (ok_quo' rfl rfl (by omega) (by omega) (by omega)) ?_
      refine W.as ?_
      refine W.nil (thn_n ?_)
      refine WC.seq ?_
      refine WC.drawW _ (List.Sublist.refl _) mix (by rintro _ _ _ _ ⟨h | h, _⟩ <;> cases h) ?_
      refine WD.take 0 rfl rfl rfl (by kernel_rfl) (by kernel_rfl) (by kernel_rfl) (ok_mv) ?_
      refine WD.take 1 rfl rfl rfl (by kernel_rfl) (by kernel_rfl) (by kernel_rfl) (ok_mv) ?_
      refine WD.take 2 rfl rfl rfl (by kernel_rfl) (by kernel_rfl) (by kernel_rfl) (ok_sub rfl rfl (by omega)) ?_
      have hs85 := SlR.slice h_p (lo := 0) (hi := ((c.length + 1) / 2) - 1) (by omega) (by omega)
      refine WD.take 3 rfl rfl rfl (by kernel_rfl) (by kernel_rfl) (by kernel_rfl) (ok_slice (0) (((c.length + 1) / 2) - 1) sl25 ty9 h_p rfl rfl ⟨_, _, rfl, by omega⟩ ⟨by omega, by omega⟩) ?_
      refine WD.take 5 rfl rfl rfl (by kernel_rfl) (by kernel_rfl) (by kernel_rfl) (ok_mv) ?_
      refine WD.take 6 rfl rfl rfl (by kernel_rfl) (by kernel_rfl) (by kernel_rfl) (ok_mv) ?_
      have hs86 := SlR.slice h_c (lo := 0) (hi := ((c.length + 1) / 2)) (by omega) (by omega)
      refine WD.take 7 rfl rfl rfl (by kernel_rfl) (by kernel_rfl) (by kernel_rfl) (ok_slice (0) (((c.length + 1) / 2)) sl26 ty3 h_c rfl rfl ⟨_, _, rfl, by omega⟩ ⟨by omega, by omega⟩) ?_
      refine WD.take 9 rfl rfl rfl (by kernel_rfl) (by kernel_rfl) (by kernel_rfl) (ok_mv) ?_
      refine WD.take 10 rfl rfl rfl (by kernel_rfl) (by kernel_rfl) (by kernel_rfl) (ok_mv) ?_
      refine WD.take 11 rfl rfl rfl (by kernel_rfl) (by kernel_rfl) (by kernel_rfl) (ok_sub rfl rfl (by omega)) ?_
      obtain ⟨_, he87, rfl⟩ := h_p.at (i := ((c.length + 1) / 2) - 1) (by omega)
      refine WD.take 12 rfl rfl rfl (by kernel_rfl) (by kernel_rfl) (by kernel_rfl) (ok_indexAddr (i := ((c.length + 1) / 2) - 1) sl25 ty9 h_p rfl rfl ⟨by omega, by omega⟩) ?_
      refine WD.take 13 rfl rfl rfl (by kernel_rfl) (by kernel_rfl) (by kernel_rfl) (ok_loadE (vs := [.string _]) ty9 he87 rfl rfl rfl (by simp)) ?_
      refine WD.take 14 rfl rfl rfl (by kernel_rfl) (by kernel_rfl) (by kernel_rfl) (ok_mv) ?_
      refine WD.take 15 rfl rfl rfl (by kernel_rfl) (by kernel_rfl) (by kernel_rfl) (ok_mv) ?_
      have hs88 := SlR.slice h_p (lo := ((c.length + 1) / 2)) (hi := p.length) (by omega) (by omega)
      refine WD.take 16 rfl rfl rfl (by kernel_rfl) (by kernel_rfl) (by kernel_rfl) (ok_slice (((c.length + 1) / 2)) (p.length) sl25 ty9 h_p rfl ⟨_, _, rfl, by omega⟩ rfl ⟨by omega, by omega⟩) ?_
      refine WD.take 18 rfl rfl rfl (by kernel_rfl) (by kernel_rfl) (by kernel_rfl) (ok_mv) ?_
      refine WD.take 19 rfl rfl rfl (by kernel_rfl) (by kernel_rfl) (by kernel_rfl) (ok_mv) ?_
      have hs89 := SlR.slice h_c (lo := ((c.length + 1) / 2)) (hi := c.length) (by omega) (by omega)
      refine WD.take 20 rfl rfl rfl (by kernel_rfl) (by kernel_rfl) (by kernel_rfl) (ok_slice (((c.length + 1) / 2)) (c.length) sl26 ty3 h_c rfl ⟨_, _, rfl, by omega⟩ rfl ⟨by omega, by omega⟩) ?_
      refine WD.one 4 ([]) rfl (by kernel_rfl) rfl ?_
      refine W.call (Mp := []) (clones_fc hs85) rfl (List.Perm.refl _) ?_
      rintro _ G90 _ hG90 ⟨rfl, _, rfl, hv91⟩
      refine W.nil ⟨hG90, List.Sublist.refl _, List.Sublist.refl _, List.Sublist.refl _, ?_⟩
      refine WD.one 8 ([]) rfl (by kernel_rfl) rfl ?_
      refine W.call (Mp := []) (clonei_fc (hs86.mono hG90)) rfl (List.Perm.refl _) ?_
      rintro _ G92 _ hG92 ⟨rfl, _, rfl, hv93⟩
      refine W.nil ⟨hG92, List.Sublist.refl _, List.Sublist.refl _, List.Sublist.refl _, ?_⟩
      refine WD.one 17 ([]) rfl (by kernel_rfl) rfl ?_
      refine W.call (Mp := []) (clones_fc (hs88.mono (hG90.trans hG92))) rfl (List.Perm.refl _) ?_
      rintro _ G94 _ hG94 ⟨rfl, _, rfl, hv95⟩
      refine W.nil ⟨hG94, List.Sublist.refl _, List.Sublist.refl _, List.Sublist.refl _, ?_⟩
      refine WD.one 21 ([]) rfl (by kernel_rfl) rfl ?_
      refine W.call (Mp := []) (clonei_fc (hs89.mono ((hG90.trans hG92).trans hG94))) rfl (List.Perm.refl _) ?_
      rintro _ G96 _ hG96 ⟨rfl, _, rfl, hv97⟩
      refine W.nil ⟨hG96, List.Sublist.refl _, List.Sublist.refl _, List.Sublist.refl _, ?_⟩
      refine WD.take 22 rfl rfl rfl (by kernel_rfl) (by kernel_rfl) (by kernel_rfl) (ok_as) ?_
      refine WD.take 23 rfl rfl rfl (by kernel_rfl) (by kernel_rfl) (by kernel_rfl) (ok_as) ?_
      refine WD.take 24 rfl rfl rfl (by kernel_rfl) (by kernel_rfl) (by kernel_rfl) (ok_as) ?_
      refine WD.take 25 rfl rfl rfl (by kernel_rfl) (by kernel_rfl) (by kernel_rfl) (ok_as) ?_
      refine WD.take 26 rfl rfl rfl (by kernel_rfl) (by kernel_rfl) (by kernel_rfl) (ok_as) ?_
      refine WD.take 27 rfl rfl rfl (by kernel_rfl) (by kernel_rfl) (by kernel_rfl) (ok_as) ?_
      refine WD.done (by kernel_rfl) (thn_n ?_)
      refine WC.ret ?_
      refine ⟨.inr rfl, [_, _, _, _, _, _], ⟨rfl, rfl, rfl, rfl, rfl, rfl, trivial⟩, [], List.nil_sublist _, ?_⟩
      refine ⟨rfl, _, (halveN_t (by omega)).symm, _, _, _, _, rfl, ?_, ?_, ?_, ?_⟩
      · exact SlR.cast ((hv91.mono ((hG92.trans hG94).trans hG96))) (by simp)
      · exact SlR.cast ((hv93.mono (hG94.trans hG96))) (by simp)
      · exact SlR.cast ((hv95.mono hG96)) (by simp)
      · exact SlR.cast (hv97) (by simp)

theorem bjoin_fc {G : GH} {v_a : Value} {a : List Str} (h_a : SlR eStr G v_a a) {v_b : Value} {b : List Int} (h_b : SlR eInt G v_b b) (k : Str) {v_x : Value} {x : List Str} (h_x : SlR eStr G v_x x) {v_y : Value} {y : List Int} (h_y : SlR eInt G v_y y) (hb1 : (a.length + 1 + x.length) * 16 ≤ 140737488355328) (hb2 : (b.length + y.length) * 8 ≤ 140737488355328) :
    Fc Try.prog 41 [v_a, v_b, .string k.b, v_x, v_y] G [] (fun v G' M' => M' = [] ∧ ∃ u0 u1, v = .tuple #[u0, u1] ∧ SlR eStr G' u0 (a ++ k :: x) ∧ SlR eInt G' u1 (b ++ y)) := by
  obtain ⟨sa_a, sc_a, rfl⟩ := h_a.form
  obtain ⟨sa_b, sc_b, rfl⟩ := h_b.form
  obtain ⟨sa_x, sc_x, rfl⟩ := h_x.form
  obtain ⟨sa_y, sc_y, rfl⟩ := h_y.form
  refine Fc.intro (rs := [.tmp 10, .tmp 11]) cl41 Try.func41 rfl Try.ntmps41 rfl rfl (fun w0 => ?_)
  refine WC.seq ?_
  refine WC.region ?_
  refine W.as ?_
  refine W.as ?_
  refine W.nil (thn_n ?_)
  refine WC.seq ?_
  refine WC.region ?_
  refine W.mv ?_
  refine W.mv ?_
  refine W.lit (e := eStr) (l := [_]) (css := [[.string _]]) sl25 ty9 zr9 rfl rfl rfl rfl rfl rfl ⟨rfl, trivial⟩ (fun bl98 G98 hG98 hv98 => ?_)
  refine W.mv ?_
  refine W.lit (e := (eSl eStr)) (l := [_, _, _]) (css := [[.slice _ _ _], [.slice _ _ _], [.slice _ _ _]]) sl224 ty25 zr25 rfl rfl rfl rfl rfl rfl ⟨⟨_, rfl, (h_a.mono hG98)⟩, ⟨_, rfl, hv98⟩, ⟨_, rfl, (h_x.mono hG98)⟩, trivial⟩ (fun bl99 G99 hG99 hv99 => ?_)
  refine W.call (Mp := []) (concats_fc hv99 (by simp; omega)) rfl (List.Perm.refl _) ?_
  rintro _ G100 _ hG100 ⟨rfl, _, rfl, hv101⟩
  refine W.mv ?_
  refine W.mv ?_
  refine W.lit (e := (eSl eInt)) (l := [_, _]) (css := [[.slice _ _ _], [.slice _ _ _]]) sl226 ty26 zr26 rfl rfl rfl rfl rfl rfl ⟨⟨_, rfl, (h_b.mono ((hG98.trans hG99).trans hG100))⟩, ⟨_, rfl, (h_y.mono ((hG98.trans hG99).trans hG100))⟩, trivial⟩ (fun bl102 G102 hG102 hv102 => ?_)
  refine W.call (Mp := []) (concati_fc hv102 (by simp; omega)) rfl (List.Perm.refl _) ?_
  rintro _ G103 _ hG103 ⟨rfl, _, rfl, hv104⟩
  refine W.as ?_
  refine W.as ?_
  refine W.nil (thn_n ?_)
  refine WC.ret ?_
  refine ⟨.inr rfl, [_, _], ⟨rfl, rfl, trivial⟩, [], List.nil_sublist _, ?_⟩
  refine ⟨rfl, _, _, rfl, ?_, ?_⟩
  · exact SlR.cast ((hv101.mono (hG102.trans hG103))) (by simp)
  · exact SlR.cast (hv104) (by simp)

end Go.Proofs.Ytmadhgdplocfbaa
