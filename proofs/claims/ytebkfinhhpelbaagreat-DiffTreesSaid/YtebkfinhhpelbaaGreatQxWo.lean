/- Walks of two maps side by side. -/
import Derived.Test.YtebkfinhhpelbaaGreatQxWn
namespace Go.Proofs.YtebkfinhhpelbaaGreat
open Go Go.Fw Go.RowKit
set_option maxRecDepth 100000
set_option maxHeartbeats 1600000
set_option linter.unusedVariables false
set_option linter.unusedSimpArgs false
set_option linter.unnecessarySimpa false
theorem both_fc {G : GH} {v_a : Value} {a : List Pair} (h_a : SlR ePair G v_a a) {v_b : Value} {b : List Pair} (h_b : SlR ePair G v_b b) (hn : a.length + b.length ≤ 1000000) :
    Fc Tryz.prog 159 [v_a, v_b] G [] (fun v G' M' => M' = [] ∧ ∃ u0, v = u0 ∧ SlR eRow G' u0 (bothN a b)) := by
 obtain ⟨sa_a, sc_a, rfl⟩ := h_a.form
 obtain ⟨sa_b, sc_b, rfl⟩ := h_b.form
 have hla := h_a.len47
 have hlb := h_b.len47
 have hbl := both_len a b
 refine Fc.intro (rs := [.tmp 4]) cl159 Tryz.func159 rfl Tryz.ntmps159 rfl rfl (fun w0 => ?_)
 refine WC.seq (WC.region (W.as (W.nil (thn_n (WC.seq (WC.region (W.as (W.nil (thn_n ?_)))))))))
 refine WC.seq (WC.block ?_)
 refine WC.loop (X := (Nat × Nat × List Drow) × Value × MH × Value × Value) (fun x => [(5, x.2.1), (0, x.2.2.2.1), (1, x.2.2.2.2)]) (fun x G Ml => Ml = (x.2.2.1 ++ []) ∧ OwnR eRow 225 G x.2.1 (x.1.2.2) x.2.2.1 ∧ SlR ePair G x.2.2.2.1 (a.drop x.1.1) ∧ SlR ePair G x.2.2.2.2 (b.drop x.1.2.1) ∧ x.1.2.2 ++ bothN (a.drop x.1.1) (b.drop x.1.2.1) = bothN a b ∧ x.1.1 ≤ a.length ∧ x.1.2.1 ≤ b.length) (fun x => (a.length - x.1.1) + (b.length - x.1.2.1)) (((0, 0, []) : Nat × Nat × List Drow), .slice none 0 0, ([] : MH), .slice sa_a a.length sc_a, .slice sa_b b.length sc_b) ⟨eqv, eqv, eqv, trivial⟩ ?_ ?_
 ·exact ⟨rfl, (by exact OwnR.nil), (by simpa using h_a), (by simpa using h_b), by simp, by simp, by simp⟩
 ·rintro ⟨⟨i, j, m⟩, v_5, M_5, v_0, v_1⟩ gG1 G1 _ hG1 ⟨rfl, ho_5, ho_0, ho_1, hinv, hi, hj⟩
  try dsimp only at ho_5 ho_0 ho_1 hinv hi hj
  have hda : (a.drop i).length = a.length - i := List.length_drop ..
  have hdb : (b.drop j).length = b.length - j := List.length_drop ..
  have hga : ∀ h : 0 < (a.drop i).length, (a.drop i)[0]'h = a[i]'(by omega) := fun h => by rw [List.getElem_drop]; rfl
  have hgb : ∀ h : 0 < (b.drop j).length, (b.drop j)[0]'h = b[j]'(by omega) := fun h => by rw [List.getElem_drop]; rfl
  have hml : m.length + (bothN (a.drop i) (b.drop j)).length = (bothN a b).length := by rw [← hinv, List.length_append]
  refine WC.fr (f := setL gG1 [(5, v_5), (0, v_0), (1, v_1)]) rfl (WC.seq (WC.seq (WC.region (W.mv (W.ok (ok_len sl41 ho_0 rfl) (W.ok (ok_gtr rfl rfl) (W.mv ?_)))))))
  refine W.sp 9 rfl (fun h8 => ?_) (fun h8 => ?_)
  ·have p8 := of_decide_eq_true h8
   refine W.no (dj := 9) rfl rfl h8 (W.no (dj := 9) rfl rfl h8 (W.no (dj := 9) rfl rfl h8 (W.ok (ok_pick_t rfl h8) (W.nil (thn_n (WC.cond_t rfl rfl (WC.skip (thn_n (WC.block ?_)))))))))
   refine WC.block (WC.seq (WC.draw mix (by kernel_rfl) (W.mv (W.ok (ok_len sl41 ho_1 rfl) (W.ok (ok_eql rfl rfl) (W.mv ?_))))))
   refine W.sp 38 rfl (fun h37 => ?_) (fun h37 => ?_)
   ·have p37 := of_decide_eq_true h37
    refine W.no (dj := 38) rfl rfl h37 (W.no (dj := 38) rfl rfl h37 (W.no (dj := 38) rfl rfl h37 (W.no (dj := 38) rfl rfl h37 (W.nou (dj := 42) rfl rfl (W.nou (dj := 42) rfl rfl (W.nou (dj := 42) rfl rfl (W.nou (dj := 42) rfl rfl ?_)))))))
    refine W.nou (dj := 42) rfl rfl (W.nou (dj := 42) rfl rfl (W.nou (dj := 42) rfl rfl (W.nou (dj := 42) rfl rfl (W.nou (dj := 42) rfl rfl (W.no (dj := 38) rfl rfl h37 (W.ok (ok_pick_t rfl h37) (W.as ?_)))))))
    refine W.nil (thn_n (WC.cond_t rfl rfl (WC.seq (WC.drawW _ (List.nil_sublist _) mix (by rintro _ _ _ _ ⟨h | h, _⟩ <;> cases h) (WD.take 0 rfl rfl rfl (by kernel_rfl) (by kernel_rfl) (by kernel_rfl) (ok_mv) (WD.take 1 rfl rfl rfl (by kernel_rfl) (by kernel_rfl) (by kernel_rfl) (ok_mv) ?_))))))
    have q4 := ho_0.at (i := 0) (by omega)
    refine match q4 with | ⟨_, he2, e_3⟩ => ?_
    subst e_3
    refine WD.take 2 rfl rfl rfl (by kernel_rfl) (by kernel_rfl) (by kernel_rfl) (ok_indexAddr (i := 0) sl41 ty69 ho_0 rfl rfl ⟨by omega, by omega⟩) (WD.take 3 rfl rfl rfl (by kernel_rfl) (by kernel_rfl) (by kernel_rfl) (ok_fieldE fd69_0 rfl he2.form) (WD.take 4 rfl rfl rfl (by kernel_rfl) (by kernel_rfl) (by kernel_rfl) (ok_loadE (vs := [.string _]) ty9 he2 rfl rfl rfl (by simp)) (WD.take 5 rfl rfl rfl (by kernel_rfl) (by kernel_rfl) (by kernel_rfl) (ok_mv) ?_)))
    have q7 := ho_0.at (i := 0) (by omega)
    refine match q7 with | ⟨_, he5, e_6⟩ => ?_
    subst e_6
    refine WD.take 6 rfl rfl rfl (by kernel_rfl) (by kernel_rfl) (by kernel_rfl) (ok_indexAddr (i := 0) sl41 ty69 ho_0 rfl rfl ⟨by omega, by omega⟩) (WD.take 7 rfl rfl rfl (by kernel_rfl) (by kernel_rfl) (by kernel_rfl) (ok_fieldE fd69_1 rfl he5.form) (WD.take 8 rfl rfl rfl (by kernel_rfl) (by kernel_rfl) (by kernel_rfl) (ok_loadE (vs := [.string _]) ty9 he5 rfl rfl rfl (by simp)) (WD.take 9 rfl rfl rfl (by kernel_rfl) (by kernel_rfl) (by kernel_rfl) (ok_build (L := [.string _, .string _, .string _, .bool _, .bool _]) pl225 zr225 rfl rfl rfl) (WD.any [10] (by kernel_rfl) rfl ⟨⟨_, rfl, rfl, (W.lit (e := eRow) (l := [⟨((a.drop i)[0]'_).key, ((a.drop i)[0]'_).val, Str.nil, true, false⟩]) (css := [[.string _, .string _, .string _, .bool _, .bool _]]) sl221 ty225 zr225 rfl rfl rfl rfl rfl rfl ⟨rfl, trivial⟩ (fun bl8 G8 hG8 hv8 => (W.nil ⟨hG8, List.nil_sublist _, _, List.nil_sublist _, List.Sublist.refl _, (WD.any [11] (by kernel_rfl) rfl ⟨⟨_, rfl, rfl, ?_⟩, trivial⟩)⟩)))⟩, trivial⟩))))
    refine W.app (e := eRow) sl221 ty225 zr225 rfl by225 rfl rfl ((ho_5.mono hG8)) (hv8) (List.Perm.refl _) (by show (m.length + 1) * 56 ≤ _; omega) (fun v9 Ms10 ho11 => (W.nil ⟨Le.rfl, List.nil_sublist _, _, List.nil_sublist _, List.Sublist.refl _, (WD.take 12 rfl rfl rfl (by kernel_rfl) (by kernel_rfl) (by kernel_rfl) (ok_as) (WD.done (by kernel_rfl) (thn_n (WC.region (W.mv ?_)))))⟩))
    have hs12 := SlR.slice (ho_0.mono hG8) (lo := 1) (hi := (a.drop i).length) (by omega) (by omega)
    refine W.ok (ok_slice (1) ((a.drop i).length) sl41 ty69 (ho_0.mono hG8) rfl ⟨_, _, rfl, by omega⟩ rfl ⟨by omega, by omega⟩) (W.as (W.nil (blk_n (blk_n (thn_n ?_)))))
    exact ⟨hG8, ((i + 1, j, m ++ [⟨((a.drop i)[0]'_).key, ((a.drop i)[0]'_).val, Str.nil, true, false⟩]), v9, Ms10, (sliceV v_0 (ePair).k (1) ((a.drop i).length)), v_1), ⟨eqv, eqv, eqv, trivial⟩, ⟨rfl, (by exact ho11), (by exact SlR.cast hs12 (by first | rfl | (dsimp only; rw [List.take_length, List.drop_drop]))), (by exact SlR.cast (ho_1.mono hG8) (by first | rfl | (dsimp only; rw [List.take_length, List.drop_drop]))), by
      dsimp only
      rw [List.append_assoc, ← hinv, both_ff (i := i) (j := j) (by omega) (by omega)]
      simp [hga, hgb], by dsimp only; omega, by dsimp only; omega⟩, by dsimp only; omega⟩
   ·have p37 := of_decide_eq_false h37
    refine W.yes (dj := 38) rfl rfl h37 (W.mv (W.yes (dj := 38) rfl rfl h37 (W.ok (ok_len sl41 ho_0 rfl) (W.yes (dj := 38) rfl rfl h37 (W.ok (ok_gtr rfl rfl) (W.yes (dj := 38) rfl rfl h37 (W.mv ?_)))))))
    refine W.sp 42 rfl (fun h41 => ?_) (fun h41 => ?_)
    ·have p41 := of_decide_eq_true h41
     refine W.yes (dj := 42) rfl rfl h41 (W.mv (W.yes (dj := 42) rfl rfl h41 ?_))
     have q15 := ho_0.at (i := 0) (by omega)
     refine match q15 with | ⟨_, he13, e_14⟩ => ?_
     subst e_14
     refine W.ok (ok_indexAddr (i := 0) sl41 ty69 ho_0 rfl rfl ⟨by omega, by omega⟩) (W.yes (dj := 42) rfl rfl h41 (W.ok (ok_fieldE fd69_0 rfl he13.form) (W.yes (dj := 42) rfl rfl h41 (W.ok (ok_loadE (vs := [.string _]) ty9 he13 rfl rfl rfl (by simp)) (W.yes (dj := 42) rfl rfl h41 (W.mv (W.yes (dj := 42) rfl rfl h41 ?_)))))))
     have q18 := ho_1.at (i := 0) (by omega)
     refine match q18 with | ⟨_, he16, e_17⟩ => ?_
     subst e_17
     refine W.ok (ok_indexAddr (i := 0) sl41 ty69 ho_1 rfl rfl ⟨by omega, by omega⟩) (W.yes (dj := 42) rfl rfl h41 (W.ok (ok_fieldE fd69_0 rfl he16.form) (W.yes (dj := 42) rfl rfl h41 (W.ok (ok_loadE (vs := [.string _]) ty9 he16 rfl rfl rfl (by simp)) (W.yes (dj := 42) rfl rfl h41 (W.ok (ok_lssS rfl rfl) (W.yes (dj := 38) rfl rfl h37 ?_)))))))
     refine W.ok (ok_pick_t rfl h41) (W.ok (ok_pick_f rfl h37) (W.as (W.nil (thn_n ?_))))
     refine WC.cond (b := _) rfl (fun h51 => ?_) (fun h51 => ?_)
     ·refine WC.seq (WC.drawW _ (List.nil_sublist _) mix (by rintro _ _ _ _ ⟨h | h, _⟩ <;> cases h) (WD.take 0 rfl rfl rfl (by kernel_rfl) (by kernel_rfl) (by kernel_rfl) (ok_mv) (WD.take 1 rfl rfl rfl (by kernel_rfl) (by kernel_rfl) (by kernel_rfl) (ok_mv) ?_)))
      have q21 := ho_0.at (i := 0) (by omega)
      refine match q21 with | ⟨_, he19, e_20⟩ => ?_
      subst e_20
      refine WD.take 2 rfl rfl rfl (by kernel_rfl) (by kernel_rfl) (by kernel_rfl) (ok_indexAddr (i := 0) sl41 ty69 ho_0 rfl rfl ⟨by omega, by omega⟩) (WD.take 3 rfl rfl rfl (by kernel_rfl) (by kernel_rfl) (by kernel_rfl) (ok_fieldE fd69_0 rfl he19.form) (WD.take 4 rfl rfl rfl (by kernel_rfl) (by kernel_rfl) (by kernel_rfl) (ok_loadE (vs := [.string _]) ty9 he19 rfl rfl rfl (by simp)) (WD.take 5 rfl rfl rfl (by kernel_rfl) (by kernel_rfl) (by kernel_rfl) (ok_mv) ?_)))
      have q24 := ho_0.at (i := 0) (by omega)
      refine match q24 with | ⟨_, he22, e_23⟩ => ?_
      subst e_23
      refine WD.take 6 rfl rfl rfl (by kernel_rfl) (by kernel_rfl) (by kernel_rfl) (ok_indexAddr (i := 0) sl41 ty69 ho_0 rfl rfl ⟨by omega, by omega⟩) (WD.take 7 rfl rfl rfl (by kernel_rfl) (by kernel_rfl) (by kernel_rfl) (ok_fieldE fd69_1 rfl he22.form) (WD.take 8 rfl rfl rfl (by kernel_rfl) (by kernel_rfl) (by kernel_rfl) (ok_loadE (vs := [.string _]) ty9 he22 rfl rfl rfl (by simp)) (WD.take 9 rfl rfl rfl (by kernel_rfl) (by kernel_rfl) (by kernel_rfl) (ok_build (L := [.string _, .string _, .string _, .bool _, .bool _]) pl225 zr225 rfl rfl rfl) (WD.any [10] (by kernel_rfl) rfl ⟨⟨_, rfl, rfl, (W.lit (e := eRow) (l := [⟨((a.drop i)[0]'_).key, ((a.drop i)[0]'_).val, Str.nil, true, false⟩]) (css := [[.string _, .string _, .string _, .bool _, .bool _]]) sl221 ty225 zr225 rfl rfl rfl rfl rfl rfl ⟨rfl, trivial⟩ (fun bl25 G25 hG25 hv25 => (W.nil ⟨hG25, List.nil_sublist _, _, List.nil_sublist _, List.Sublist.refl _, (WD.any [11] (by kernel_rfl) rfl ⟨⟨_, rfl, rfl, ?_⟩, trivial⟩)⟩)))⟩, trivial⟩))))
      refine W.app (e := eRow) sl221 ty225 zr225 rfl by225 rfl rfl ((ho_5.mono hG25)) (hv25) (List.Perm.refl _) (by show (m.length + 1) * 56 ≤ _; omega) (fun v26 Ms27 ho28 => (W.nil ⟨Le.rfl, List.nil_sublist _, _, List.nil_sublist _, List.Sublist.refl _, (WD.take 12 rfl rfl rfl (by kernel_rfl) (by kernel_rfl) (by kernel_rfl) (ok_as) (WD.done (by kernel_rfl) (thn_n (WC.region (W.mv ?_)))))⟩))
      have hs29 := SlR.slice (ho_0.mono hG25) (lo := 1) (hi := (a.drop i).length) (by omega) (by omega)
      refine W.ok (ok_slice (1) ((a.drop i).length) sl41 ty69 (ho_0.mono hG25) rfl ⟨_, _, rfl, by omega⟩ rfl ⟨by omega, by omega⟩) (W.as (W.nil (blk_n (blk_n (thn_n ?_)))))
      exact ⟨hG25, ((i + 1, j, m ++ [⟨((a.drop i)[0]'_).key, ((a.drop i)[0]'_).val, Str.nil, true, false⟩]), v26, Ms27, (sliceV v_0 (ePair).k (1) ((a.drop i).length)), v_1), ⟨eqv, eqv, eqv, trivial⟩, ⟨rfl, (by exact ho28), (by exact SlR.cast hs29 (by first | rfl | (dsimp only; rw [List.take_length, List.drop_drop]))), (by exact SlR.cast (ho_1.mono hG25) (by first | rfl | (dsimp only; rw [List.take_length, List.drop_drop]))), by
      dsimp only
      rw [List.append_assoc, ← hinv, both_l (i := i) (j := j) (by omega) (by omega) (by have h := h51; simp only [hga, hgb] at h; simpa [Str.lt] using h)]
      simp [hga, hgb], by dsimp only; omega, by dsimp only; omega⟩, by dsimp only; omega⟩
     ·refine WC.seq (WC.draw mix (by kernel_rfl) (W.mv (W.ok (ok_len sl41 ho_0 rfl) (W.ok (ok_eql rfl rfl) (W.mv ?_)))))
      refine W.sp 72 rfl (fun h71 => ?_) (fun h71 => ?_)
      ·have p71 := of_decide_eq_true h71
       exfalso; omega
      ·have p71 := of_decide_eq_false h71
       refine W.yes (dj := 72) rfl rfl h71 (W.mv (W.yes (dj := 72) rfl rfl h71 ?_))
       have q32 := ho_1.at (i := 0) (by omega)
       refine match q32 with | ⟨_, he30, e_31⟩ => ?_
       subst e_31
       refine W.ok (ok_indexAddr (i := 0) sl41 ty69 ho_1 rfl rfl ⟨by omega, by omega⟩) (W.yes (dj := 72) rfl rfl h71 (W.ok (ok_fieldE fd69_0 rfl he30.form) (W.yes (dj := 72) rfl rfl h71 (W.ok (ok_loadE (vs := [.string _]) ty9 he30 rfl rfl rfl (by simp)) (W.yes (dj := 72) rfl rfl h71 (W.mv (W.yes (dj := 72) rfl rfl h71 ?_)))))))
       have q35 := ho_0.at (i := 0) (by omega)
       refine match q35 with | ⟨_, he33, e_34⟩ => ?_
       subst e_34
       refine W.ok (ok_indexAddr (i := 0) sl41 ty69 ho_0 rfl rfl ⟨by omega, by omega⟩) (W.yes (dj := 72) rfl rfl h71 (W.ok (ok_fieldE fd69_0 rfl he33.form) (W.yes (dj := 72) rfl rfl h71 (W.ok (ok_loadE (vs := [.string _]) ty9 he33 rfl rfl rfl (by simp)) (W.yes (dj := 72) rfl rfl h71 (W.ok (ok_lssS rfl rfl) (W.ok (ok_pick_f rfl h71) ?_)))))))
       refine W.as (W.nil (thn_n ?_))
       refine WC.cond (b := _) rfl (fun h81 => ?_) (fun h81 => ?_)
       ·refine WC.seq (WC.drawW _ (List.nil_sublist _) mix (by rintro _ _ _ _ ⟨h | h, _⟩ <;> cases h) (WD.take 0 rfl rfl rfl (by kernel_rfl) (by kernel_rfl) (by kernel_rfl) (ok_mv) (WD.take 1 rfl rfl rfl (by kernel_rfl) (by kernel_rfl) (by kernel_rfl) (ok_mv) ?_)))
        have q38 := ho_1.at (i := 0) (by omega)
        refine match q38 with | ⟨_, he36, e_37⟩ => ?_
        subst e_37
        refine WD.take 2 rfl rfl rfl (by kernel_rfl) (by kernel_rfl) (by kernel_rfl) (ok_indexAddr (i := 0) sl41 ty69 ho_1 rfl rfl ⟨by omega, by omega⟩) (WD.take 3 rfl rfl rfl (by kernel_rfl) (by kernel_rfl) (by kernel_rfl) (ok_fieldE fd69_0 rfl he36.form) (WD.take 4 rfl rfl rfl (by kernel_rfl) (by kernel_rfl) (by kernel_rfl) (ok_loadE (vs := [.string _]) ty9 he36 rfl rfl rfl (by simp)) (WD.take 5 rfl rfl rfl (by kernel_rfl) (by kernel_rfl) (by kernel_rfl) (ok_mv) ?_)))
        have q41 := ho_1.at (i := 0) (by omega)
        refine match q41 with | ⟨_, he39, e_40⟩ => ?_
        subst e_40
        refine WD.take 6 rfl rfl rfl (by kernel_rfl) (by kernel_rfl) (by kernel_rfl) (ok_indexAddr (i := 0) sl41 ty69 ho_1 rfl rfl ⟨by omega, by omega⟩) (WD.take 7 rfl rfl rfl (by kernel_rfl) (by kernel_rfl) (by kernel_rfl) (ok_fieldE fd69_1 rfl he39.form) (WD.take 8 rfl rfl rfl (by kernel_rfl) (by kernel_rfl) (by kernel_rfl) (ok_loadE (vs := [.string _]) ty9 he39 rfl rfl rfl (by simp)) (WD.take 9 rfl rfl rfl (by kernel_rfl) (by kernel_rfl) (by kernel_rfl) (ok_build (L := [.string _, .string _, .string _, .bool _, .bool _]) pl225 zr225 rfl rfl rfl) (WD.any [10] (by kernel_rfl) rfl ⟨⟨_, rfl, rfl, (W.lit (e := eRow) (l := [⟨((b.drop j)[0]'_).key, Str.nil, ((b.drop j)[0]'_).val, false, true⟩]) (css := [[.string _, .string _, .string _, .bool _, .bool _]]) sl221 ty225 zr225 rfl rfl rfl rfl rfl rfl ⟨rfl, trivial⟩ (fun bl42 G42 hG42 hv42 => (W.nil ⟨hG42, List.nil_sublist _, _, List.nil_sublist _, List.Sublist.refl _, (WD.any [11] (by kernel_rfl) rfl ⟨⟨_, rfl, rfl, ?_⟩, trivial⟩)⟩)))⟩, trivial⟩))))
        refine W.app (e := eRow) sl221 ty225 zr225 rfl by225 rfl rfl ((ho_5.mono hG42)) (hv42) (List.Perm.refl _) (by show (m.length + 1) * 56 ≤ _; omega) (fun v43 Ms44 ho45 => (W.nil ⟨Le.rfl, List.nil_sublist _, _, List.nil_sublist _, List.Sublist.refl _, (WD.take 12 rfl rfl rfl (by kernel_rfl) (by kernel_rfl) (by kernel_rfl) (ok_as) (WD.done (by kernel_rfl) (thn_n (WC.region (W.mv ?_)))))⟩))
        have hs46 := SlR.slice (ho_1.mono hG42) (lo := 1) (hi := (b.drop j).length) (by omega) (by omega)
        refine W.ok (ok_slice (1) ((b.drop j).length) sl41 ty69 (ho_1.mono hG42) rfl ⟨_, _, rfl, by omega⟩ rfl ⟨by omega, by omega⟩) (W.as (W.nil (blk_n (blk_n (thn_n ?_)))))
        exact ⟨hG42, ((i, j + 1, m ++ [⟨((b.drop j)[0]'_).key, Str.nil, ((b.drop j)[0]'_).val, false, true⟩]), v43, Ms44, v_0, (sliceV v_1 (ePair).k (1) ((b.drop j).length))), ⟨eqv, eqv, eqv, trivial⟩, ⟨rfl, (by exact ho45), (by exact SlR.cast (ho_0.mono hG42) (by first | rfl | (dsimp only; rw [List.take_length, List.drop_drop]))), (by exact SlR.cast hs46 (by first | rfl | (dsimp only; rw [List.take_length, List.drop_drop]))), by
      dsimp only
      rw [List.append_assoc, ← hinv, both_r (i := i) (j := j) (by omega) (by omega) (by have h := h51; simp only [hga, hgb] at h; simpa [Str.lt] using h) (by have h := h81; simp only [hga, hgb] at h; simpa [Str.lt] using h)]
      simp [hga, hgb], by dsimp only; omega, by dsimp only; omega⟩, by dsimp only; omega⟩
       ·refine WC.seq (WC.drawW _ (List.nil_sublist _) mix (by rintro _ _ _ _ ⟨h | h, _⟩ <;> cases h) (WD.take 0 rfl rfl rfl (by kernel_rfl) (by kernel_rfl) (by kernel_rfl) (ok_mv) (WD.take 1 rfl rfl rfl (by kernel_rfl) (by kernel_rfl) (by kernel_rfl) (ok_mv) ?_)))
        have q49 := ho_0.at (i := 0) (by omega)
        refine match q49 with | ⟨_, he47, e_48⟩ => ?_
        subst e_48
        refine WD.take 2 rfl rfl rfl (by kernel_rfl) (by kernel_rfl) (by kernel_rfl) (ok_indexAddr (i := 0) sl41 ty69 ho_0 rfl rfl ⟨by omega, by omega⟩) (WD.take 3 rfl rfl rfl (by kernel_rfl) (by kernel_rfl) (by kernel_rfl) (ok_fieldE fd69_0 rfl he47.form) (WD.take 4 rfl rfl rfl (by kernel_rfl) (by kernel_rfl) (by kernel_rfl) (ok_loadE (vs := [.string _]) ty9 he47 rfl rfl rfl (by simp)) (WD.take 5 rfl rfl rfl (by kernel_rfl) (by kernel_rfl) (by kernel_rfl) (ok_mv) ?_)))
        have q52 := ho_0.at (i := 0) (by omega)
        refine match q52 with | ⟨_, he50, e_51⟩ => ?_
        subst e_51
        refine WD.take 6 rfl rfl rfl (by kernel_rfl) (by kernel_rfl) (by kernel_rfl) (ok_indexAddr (i := 0) sl41 ty69 ho_0 rfl rfl ⟨by omega, by omega⟩) (WD.take 7 rfl rfl rfl (by kernel_rfl) (by kernel_rfl) (by kernel_rfl) (ok_fieldE fd69_1 rfl he50.form) (WD.take 8 rfl rfl rfl (by kernel_rfl) (by kernel_rfl) (by kernel_rfl) (ok_loadE (vs := [.string _]) ty9 he50 rfl rfl rfl (by simp)) (WD.take 9 rfl rfl rfl (by kernel_rfl) (by kernel_rfl) (by kernel_rfl) (ok_mv) ?_)))
        have q55 := ho_1.at (i := 0) (by omega)
        refine match q55 with | ⟨_, he53, e_54⟩ => ?_
        subst e_54
        refine WD.take 10 rfl rfl rfl (by kernel_rfl) (by kernel_rfl) (by kernel_rfl) (ok_indexAddr (i := 0) sl41 ty69 ho_1 rfl rfl ⟨by omega, by omega⟩) (WD.take 11 rfl rfl rfl (by kernel_rfl) (by kernel_rfl) (by kernel_rfl) (ok_fieldE fd69_1 rfl he53.form) (WD.take 12 rfl rfl rfl (by kernel_rfl) (by kernel_rfl) (by kernel_rfl) (ok_loadE (vs := [.string _]) ty9 he53 rfl rfl rfl (by simp)) (WD.take 13 rfl rfl rfl (by kernel_rfl) (by kernel_rfl) (by kernel_rfl) (ok_build (L := [.string _, .string _, .string _, .bool _, .bool _]) pl225 zr225 rfl rfl rfl) (WD.any [14] (by kernel_rfl) rfl ⟨⟨_, rfl, rfl, (W.lit (e := eRow) (l := [⟨((a.drop i)[0]'_).key, ((a.drop i)[0]'_).val, ((b.drop j)[0]'_).val, true, true⟩]) (css := [[.string _, .string _, .string _, .bool _, .bool _]]) sl221 ty225 zr225 rfl rfl rfl rfl rfl rfl ⟨rfl, trivial⟩ (fun bl56 G56 hG56 hv56 => (W.nil ⟨hG56, List.nil_sublist _, _, List.nil_sublist _, List.Sublist.refl _, (WD.any [15] (by kernel_rfl) rfl ⟨⟨_, rfl, rfl, ?_⟩, trivial⟩)⟩)))⟩, trivial⟩))))
        refine W.app (e := eRow) sl221 ty225 zr225 rfl by225 rfl rfl ((ho_5.mono hG56)) (hv56) (List.Perm.refl _) (by show (m.length + 1) * 56 ≤ _; omega) (fun v57 Ms58 ho59 => (W.nil ⟨Le.rfl, List.nil_sublist _, _, List.nil_sublist _, List.Sublist.refl _, (WD.take 16 rfl rfl rfl (by kernel_rfl) (by kernel_rfl) (by kernel_rfl) (ok_as) (WD.done (by kernel_rfl) (thn_n (WC.draw mix (by kernel_rfl) (W.mv ?_)))))⟩))
        have hs60 := SlR.slice (ho_0.mono hG56) (lo := 1) (hi := (a.drop i).length) (by omega) (by omega)
        refine W.ok (ok_slice (1) ((a.drop i).length) sl41 ty69 (ho_0.mono hG56) rfl ⟨_, _, rfl, by omega⟩ rfl ⟨by omega, by omega⟩) (W.mv ?_)
        have hs61 := SlR.slice (ho_1.mono hG56) (lo := 1) (hi := (b.drop j).length) (by omega) (by omega)
        refine W.ok (ok_slice (1) ((b.drop j).length) sl41 ty69 (ho_1.mono hG56) rfl ⟨_, _, rfl, by omega⟩ rfl ⟨by omega, by omega⟩) (W.as (W.as (W.nil (blk_n (blk_n (thn_n ?_))))))
        exact ⟨hG56, ((i + 1, j + 1, m ++ [⟨((a.drop i)[0]'_).key, ((a.drop i)[0]'_).val, ((b.drop j)[0]'_).val, true, true⟩]), v57, Ms58, (sliceV v_0 (ePair).k (1) ((a.drop i).length)), (sliceV v_1 (ePair).k (1) ((b.drop j).length))), ⟨eqv, eqv, eqv, trivial⟩, ⟨rfl, (by exact ho59), (by exact SlR.cast hs60 (by first | rfl | (dsimp only; rw [List.take_length, List.drop_drop]))), (by exact SlR.cast hs61 (by first | rfl | (dsimp only; rw [List.take_length, List.drop_drop]))), by
      dsimp only
      rw [List.append_assoc, ← hinv, both_e (i := i) (j := j) (by omega) (by omega) (by have h := h51; simp only [hga, hgb] at h; simpa [Str.lt] using h) (by have h := h81; simp only [hga, hgb] at h; simpa [Str.lt] using h)]
      simp [hga, hgb], by dsimp only; omega, by dsimp only; omega⟩, by dsimp only; omega⟩
    ·have p41 := of_decide_eq_false h41
     refine W.no (dj := 42) rfl rfl h41 (W.no (dj := 42) rfl rfl h41 (W.no (dj := 42) rfl rfl h41 (W.no (dj := 42) rfl rfl h41 (W.no (dj := 42) rfl rfl h41 (W.no (dj := 42) rfl rfl h41 (W.no (dj := 42) rfl rfl h41 (W.no (dj := 42) rfl rfl h41 ?_)))))))
     refine W.no (dj := 42) rfl rfl h41 (W.yes (dj := 38) rfl rfl h37 (W.ok (ok_pick_f rfl h41) (W.ok (ok_pick_f rfl h37) (W.as (W.nil (thn_n (WC.cond_f rfl rfl (WC.seq ?_))))))))
     refine WC.draw mix (by kernel_rfl) (W.mv (W.ok (ok_len sl41 ho_0 rfl) (W.ok (ok_eql rfl rfl) (W.mv ?_))))
     refine W.sp 72 rfl (fun h71 => ?_) (fun h71 => ?_)
     ·have p71 := of_decide_eq_true h71
      refine W.no (dj := 72) rfl rfl h71 (W.no (dj := 72) rfl rfl h71 (W.no (dj := 72) rfl rfl h71 (W.no (dj := 72) rfl rfl h71 (W.no (dj := 72) rfl rfl h71 (W.no (dj := 72) rfl rfl h71 (W.no (dj := 72) rfl rfl h71 (W.no (dj := 72) rfl rfl h71 ?_)))))))
      refine W.no (dj := 72) rfl rfl h71 (W.ok (ok_pick_t rfl h71) (W.as (W.nil (thn_n (WC.cond_t rfl rfl (WC.seq (WC.drawW _ (List.nil_sublist _) mix (by rintro _ _ _ _ ⟨h | h, _⟩ <;> cases h) (WD.take 0 rfl rfl rfl (by kernel_rfl) (by kernel_rfl) (by kernel_rfl) (ok_mv) ?_))))))))
      refine WD.take 1 rfl rfl rfl (by kernel_rfl) (by kernel_rfl) (by kernel_rfl) (ok_mv) ?_
      have q64 := ho_1.at (i := 0) (by omega)
      refine match q64 with | ⟨_, he62, e_63⟩ => ?_
      subst e_63
      refine WD.take 2 rfl rfl rfl (by kernel_rfl) (by kernel_rfl) (by kernel_rfl) (ok_indexAddr (i := 0) sl41 ty69 ho_1 rfl rfl ⟨by omega, by omega⟩) (WD.take 3 rfl rfl rfl (by kernel_rfl) (by kernel_rfl) (by kernel_rfl) (ok_fieldE fd69_0 rfl he62.form) (WD.take 4 rfl rfl rfl (by kernel_rfl) (by kernel_rfl) (by kernel_rfl) (ok_loadE (vs := [.string _]) ty9 he62 rfl rfl rfl (by simp)) (WD.take 5 rfl rfl rfl (by kernel_rfl) (by kernel_rfl) (by kernel_rfl) (ok_mv) ?_)))
      have q67 := ho_1.at (i := 0) (by omega)
      refine match q67 with | ⟨_, he65, e_66⟩ => ?_
      subst e_66
      refine WD.take 6 rfl rfl rfl (by kernel_rfl) (by kernel_rfl) (by kernel_rfl) (ok_indexAddr (i := 0) sl41 ty69 ho_1 rfl rfl ⟨by omega, by omega⟩) (WD.take 7 rfl rfl rfl (by kernel_rfl) (by kernel_rfl) (by kernel_rfl) (ok_fieldE fd69_1 rfl he65.form) (WD.take 8 rfl rfl rfl (by kernel_rfl) (by kernel_rfl) (by kernel_rfl) (ok_loadE (vs := [.string _]) ty9 he65 rfl rfl rfl (by simp)) (WD.take 9 rfl rfl rfl (by kernel_rfl) (by kernel_rfl) (by kernel_rfl) (ok_build (L := [.string _, .string _, .string _, .bool _, .bool _]) pl225 zr225 rfl rfl rfl) (WD.any [10] (by kernel_rfl) rfl ⟨⟨_, rfl, rfl, (W.lit (e := eRow) (l := [⟨((b.drop j)[0]'_).key, Str.nil, ((b.drop j)[0]'_).val, false, true⟩]) (css := [[.string _, .string _, .string _, .bool _, .bool _]]) sl221 ty225 zr225 rfl rfl rfl rfl rfl rfl ⟨rfl, trivial⟩ (fun bl68 G68 hG68 hv68 => (W.nil ⟨hG68, List.nil_sublist _, _, List.nil_sublist _, List.Sublist.refl _, (WD.any [11] (by kernel_rfl) rfl ⟨⟨_, rfl, rfl, ?_⟩, trivial⟩)⟩)))⟩, trivial⟩))))
      refine W.app (e := eRow) sl221 ty225 zr225 rfl by225 rfl rfl ((ho_5.mono hG68)) (hv68) (List.Perm.refl _) (by show (m.length + 1) * 56 ≤ _; omega) (fun v69 Ms70 ho71 => (W.nil ⟨Le.rfl, List.nil_sublist _, _, List.nil_sublist _, List.Sublist.refl _, (WD.take 12 rfl rfl rfl (by kernel_rfl) (by kernel_rfl) (by kernel_rfl) (ok_as) (WD.done (by kernel_rfl) (thn_n (WC.region (W.mv ?_)))))⟩))
      have hs72 := SlR.slice (ho_1.mono hG68) (lo := 1) (hi := (b.drop j).length) (by omega) (by omega)
      refine W.ok (ok_slice (1) ((b.drop j).length) sl41 ty69 (ho_1.mono hG68) rfl ⟨_, _, rfl, by omega⟩ rfl ⟨by omega, by omega⟩) (W.as (W.nil (blk_n (blk_n (thn_n ?_)))))
      exact ⟨hG68, ((i, j + 1, m ++ [⟨((b.drop j)[0]'_).key, Str.nil, ((b.drop j)[0]'_).val, false, true⟩]), v69, Ms70, v_0, (sliceV v_1 (ePair).k (1) ((b.drop j).length))), ⟨eqv, eqv, eqv, trivial⟩, ⟨rfl, (by exact ho71), (by exact SlR.cast (ho_0.mono hG68) (by first | rfl | (dsimp only; rw [List.take_length, List.drop_drop]))), (by exact SlR.cast hs72 (by first | rfl | (dsimp only; rw [List.take_length, List.drop_drop]))), by
      dsimp only
      rw [List.append_assoc, ← hinv, both_fr (i := i) (j := j) (by omega) (by omega)]
      simp [hga, hgb], by dsimp only; omega, by dsimp only; omega⟩, by dsimp only; omega⟩
     ·have p71 := of_decide_eq_false h71
      exfalso; omega
  ·have p8 := of_decide_eq_false h8
   refine W.yes (dj := 9) rfl rfl h8 (W.mv (W.yes (dj := 9) rfl rfl h8 (W.ok (ok_len sl41 ho_1 rfl) (W.yes (dj := 9) rfl rfl h8 (W.ok (ok_gtr rfl rfl) (W.ok (ok_pick_f rfl h8) (W.nil (thn_n ?_))))))))
   refine WC.cond (b := _) rfl (fun h12 => ?_) (fun h12 => ?_)
   ·have p12 := of_decide_eq_true h12
    refine WC.skip (thn_n (WC.block (WC.block (WC.seq (WC.draw mix (by kernel_rfl) (W.mv (W.ok (ok_len sl41 ho_1 rfl) (W.ok (ok_eql rfl rfl) ?_))))))))
    refine W.mv ?_
    refine W.sp 38 rfl (fun h37 => ?_) (fun h37 => ?_)
    ·have p37 := of_decide_eq_true h37
     refine W.no (dj := 38) rfl rfl h37 (W.no (dj := 38) rfl rfl h37 (W.no (dj := 38) rfl rfl h37 (W.no (dj := 38) rfl rfl h37 (W.nou (dj := 42) rfl rfl (W.nou (dj := 42) rfl rfl (W.nou (dj := 42) rfl rfl (W.nou (dj := 42) rfl rfl ?_)))))))
     refine W.nou (dj := 42) rfl rfl (W.nou (dj := 42) rfl rfl (W.nou (dj := 42) rfl rfl (W.nou (dj := 42) rfl rfl (W.nou (dj := 42) rfl rfl (W.no (dj := 38) rfl rfl h37 (W.ok (ok_pick_t rfl h37) (W.as ?_)))))))
     refine W.nil (thn_n (WC.cond_t rfl rfl (WC.seq (WC.drawW _ (List.nil_sublist _) mix (by rintro _ _ _ _ ⟨h | h, _⟩ <;> cases h) (WD.take 0 rfl rfl rfl (by kernel_rfl) (by kernel_rfl) (by kernel_rfl) (ok_mv) (WD.take 1 rfl rfl rfl (by kernel_rfl) (by kernel_rfl) (by kernel_rfl) (ok_mv) ?_))))))
     have q75 := ho_0.at (i := 0) (by omega)
     refine match q75 with | ⟨_, he73, e_74⟩ => ?_
     subst e_74
     refine WD.take 2 rfl rfl rfl (by kernel_rfl) (by kernel_rfl) (by kernel_rfl) (ok_indexAddr (i := 0) sl41 ty69 ho_0 rfl rfl ⟨by omega, by omega⟩) (WD.take 3 rfl rfl rfl (by kernel_rfl) (by kernel_rfl) (by kernel_rfl) (ok_fieldE fd69_0 rfl he73.form) (WD.take 4 rfl rfl rfl (by kernel_rfl) (by kernel_rfl) (by kernel_rfl) (ok_loadE (vs := [.string _]) ty9 he73 rfl rfl rfl (by simp)) (WD.take 5 rfl rfl rfl (by kernel_rfl) (by kernel_rfl) (by kernel_rfl) (ok_mv) ?_)))
     have q78 := ho_0.at (i := 0) (by omega)
     refine match q78 with | ⟨_, he76, e_77⟩ => ?_
     subst e_77
     refine WD.take 6 rfl rfl rfl (by kernel_rfl) (by kernel_rfl) (by kernel_rfl) (ok_indexAddr (i := 0) sl41 ty69 ho_0 rfl rfl ⟨by omega, by omega⟩) (WD.take 7 rfl rfl rfl (by kernel_rfl) (by kernel_rfl) (by kernel_rfl) (ok_fieldE fd69_1 rfl he76.form) (WD.take 8 rfl rfl rfl (by kernel_rfl) (by kernel_rfl) (by kernel_rfl) (ok_loadE (vs := [.string _]) ty9 he76 rfl rfl rfl (by simp)) (WD.take 9 rfl rfl rfl (by kernel_rfl) (by kernel_rfl) (by kernel_rfl) (ok_build (L := [.string _, .string _, .string _, .bool _, .bool _]) pl225 zr225 rfl rfl rfl) (WD.any [10] (by kernel_rfl) rfl ⟨⟨_, rfl, rfl, (W.lit (e := eRow) (l := [⟨((a.drop i)[0]'_).key, ((a.drop i)[0]'_).val, Str.nil, true, false⟩]) (css := [[.string _, .string _, .string _, .bool _, .bool _]]) sl221 ty225 zr225 rfl rfl rfl rfl rfl rfl ⟨rfl, trivial⟩ (fun bl79 G79 hG79 hv79 => (W.nil ⟨hG79, List.nil_sublist _, _, List.nil_sublist _, List.Sublist.refl _, (WD.any [11] (by kernel_rfl) rfl ⟨⟨_, rfl, rfl, ?_⟩, trivial⟩)⟩)))⟩, trivial⟩))))
     refine W.app (e := eRow) sl221 ty225 zr225 rfl by225 rfl rfl ((ho_5.mono hG79)) (hv79) (List.Perm.refl _) (by show (m.length + 1) * 56 ≤ _; omega) (fun v80 Ms81 ho82 => (W.nil ⟨Le.rfl, List.nil_sublist _, _, List.nil_sublist _, List.Sublist.refl _, (WD.take 12 rfl rfl rfl (by kernel_rfl) (by kernel_rfl) (by kernel_rfl) (ok_as) (WD.done (by kernel_rfl) (thn_n (WC.region (W.mv ?_)))))⟩))
     have hs83 := SlR.slice (ho_0.mono hG79) (lo := 1) (hi := (a.drop i).length) (by omega) (by omega)
     refine W.ok (ok_slice (1) ((a.drop i).length) sl41 ty69 (ho_0.mono hG79) rfl ⟨_, _, rfl, by omega⟩ rfl ⟨by omega, by omega⟩) (W.as (W.nil (blk_n (blk_n (thn_n ?_)))))
     exact ⟨hG79, ((i + 1, j, m ++ [⟨((a.drop i)[0]'_).key, ((a.drop i)[0]'_).val, Str.nil, true, false⟩]), v80, Ms81, (sliceV v_0 (ePair).k (1) ((a.drop i).length)), v_1), ⟨eqv, eqv, eqv, trivial⟩, ⟨rfl, (by exact ho82), (by exact SlR.cast hs83 (by first | rfl | (dsimp only; rw [List.take_length, List.drop_drop]))), (by exact SlR.cast (ho_1.mono hG79) (by first | rfl | (dsimp only; rw [List.take_length, List.drop_drop]))), by
      dsimp only
      rw [List.append_assoc, ← hinv, both_ff (i := i) (j := j) (by omega) (by omega)]
      simp [hga, hgb], by dsimp only; omega, by dsimp only; omega⟩, by dsimp only; omega⟩
    ·have p37 := of_decide_eq_false h37
     refine W.yes (dj := 38) rfl rfl h37 (W.mv (W.yes (dj := 38) rfl rfl h37 (W.ok (ok_len sl41 ho_0 rfl) (W.yes (dj := 38) rfl rfl h37 (W.ok (ok_gtr rfl rfl) (W.yes (dj := 38) rfl rfl h37 (W.mv ?_)))))))
     refine W.sp 42 rfl (fun h41 => ?_) (fun h41 => ?_)
     ·have p41 := of_decide_eq_true h41
      refine W.yes (dj := 42) rfl rfl h41 (W.mv (W.yes (dj := 42) rfl rfl h41 ?_))
      have q86 := ho_0.at (i := 0) (by omega)
      refine match q86 with | ⟨_, he84, e_85⟩ => ?_
      subst e_85
      refine W.ok (ok_indexAddr (i := 0) sl41 ty69 ho_0 rfl rfl ⟨by omega, by omega⟩) (W.yes (dj := 42) rfl rfl h41 (W.ok (ok_fieldE fd69_0 rfl he84.form) (W.yes (dj := 42) rfl rfl h41 (W.ok (ok_loadE (vs := [.string _]) ty9 he84 rfl rfl rfl (by simp)) (W.yes (dj := 42) rfl rfl h41 (W.mv (W.yes (dj := 42) rfl rfl h41 ?_)))))))
      have q89 := ho_1.at (i := 0) (by omega)
      refine match q89 with | ⟨_, he87, e_88⟩ => ?_
      subst e_88
      refine W.ok (ok_indexAddr (i := 0) sl41 ty69 ho_1 rfl rfl ⟨by omega, by omega⟩) (W.yes (dj := 42) rfl rfl h41 (W.ok (ok_fieldE fd69_0 rfl he87.form) (W.yes (dj := 42) rfl rfl h41 (W.ok (ok_loadE (vs := [.string _]) ty9 he87 rfl rfl rfl (by simp)) (W.yes (dj := 42) rfl rfl h41 (W.ok (ok_lssS rfl rfl) (W.yes (dj := 38) rfl rfl h37 ?_)))))))
      refine W.ok (ok_pick_t rfl h41) (W.ok (ok_pick_f rfl h37) (W.as (W.nil (thn_n ?_))))
      refine WC.cond (b := _) rfl (fun h51 => ?_) (fun h51 => ?_)
      ·refine WC.seq (WC.drawW _ (List.nil_sublist _) mix (by rintro _ _ _ _ ⟨h | h, _⟩ <;> cases h) (WD.take 0 rfl rfl rfl (by kernel_rfl) (by kernel_rfl) (by kernel_rfl) (ok_mv) (WD.take 1 rfl rfl rfl (by kernel_rfl) (by kernel_rfl) (by kernel_rfl) (ok_mv) ?_)))
       have q92 := ho_0.at (i := 0) (by omega)
       refine match q92 with | ⟨_, he90, e_91⟩ => ?_
       subst e_91
       refine WD.take 2 rfl rfl rfl (by kernel_rfl) (by kernel_rfl) (by kernel_rfl) (ok_indexAddr (i := 0) sl41 ty69 ho_0 rfl rfl ⟨by omega, by omega⟩) (WD.take 3 rfl rfl rfl (by kernel_rfl) (by kernel_rfl) (by kernel_rfl) (ok_fieldE fd69_0 rfl he90.form) (WD.take 4 rfl rfl rfl (by kernel_rfl) (by kernel_rfl) (by kernel_rfl) (ok_loadE (vs := [.string _]) ty9 he90 rfl rfl rfl (by simp)) (WD.take 5 rfl rfl rfl (by kernel_rfl) (by kernel_rfl) (by kernel_rfl) (ok_mv) ?_)))
       have q95 := ho_0.at (i := 0) (by omega)
       refine match q95 with | ⟨_, he93, e_94⟩ => ?_
       subst e_94
       refine WD.take 6 rfl rfl rfl (by kernel_rfl) (by kernel_rfl) (by kernel_rfl) (ok_indexAddr (i := 0) sl41 ty69 ho_0 rfl rfl ⟨by omega, by omega⟩) (WD.take 7 rfl rfl rfl (by kernel_rfl) (by kernel_rfl) (by kernel_rfl) (ok_fieldE fd69_1 rfl he93.form) (WD.take 8 rfl rfl rfl (by kernel_rfl) (by kernel_rfl) (by kernel_rfl) (ok_loadE (vs := [.string _]) ty9 he93 rfl rfl rfl (by simp)) (WD.take 9 rfl rfl rfl (by kernel_rfl) (by kernel_rfl) (by kernel_rfl) (ok_build (L := [.string _, .string _, .string _, .bool _, .bool _]) pl225 zr225 rfl rfl rfl) (WD.any [10] (by kernel_rfl) rfl ⟨⟨_, rfl, rfl, (W.lit (e := eRow) (l := [⟨((a.drop i)[0]'_).key, ((a.drop i)[0]'_).val, Str.nil, true, false⟩]) (css := [[.string _, .string _, .string _, .bool _, .bool _]]) sl221 ty225 zr225 rfl rfl rfl rfl rfl rfl ⟨rfl, trivial⟩ (fun bl96 G96 hG96 hv96 => (W.nil ⟨hG96, List.nil_sublist _, _, List.nil_sublist _, List.Sublist.refl _, (WD.any [11] (by kernel_rfl) rfl ⟨⟨_, rfl, rfl, ?_⟩, trivial⟩)⟩)))⟩, trivial⟩))))
       refine W.app (e := eRow) sl221 ty225 zr225 rfl by225 rfl rfl ((ho_5.mono hG96)) (hv96) (List.Perm.refl _) (by show (m.length + 1) * 56 ≤ _; omega) (fun v97 Ms98 ho99 => (W.nil ⟨Le.rfl, List.nil_sublist _, _, List.nil_sublist _, List.Sublist.refl _, (WD.take 12 rfl rfl rfl (by kernel_rfl) (by kernel_rfl) (by kernel_rfl) (ok_as) (WD.done (by kernel_rfl) (thn_n (WC.region (W.mv ?_)))))⟩))
       have hs100 := SlR.slice (ho_0.mono hG96) (lo := 1) (hi := (a.drop i).length) (by omega) (by omega)
       refine W.ok (ok_slice (1) ((a.drop i).length) sl41 ty69 (ho_0.mono hG96) rfl ⟨_, _, rfl, by omega⟩ rfl ⟨by omega, by omega⟩) (W.as (W.nil (blk_n (blk_n (thn_n ?_)))))
       exact ⟨hG96, ((i + 1, j, m ++ [⟨((a.drop i)[0]'_).key, ((a.drop i)[0]'_).val, Str.nil, true, false⟩]), v97, Ms98, (sliceV v_0 (ePair).k (1) ((a.drop i).length)), v_1), ⟨eqv, eqv, eqv, trivial⟩, ⟨rfl, (by exact ho99), (by exact SlR.cast hs100 (by first | rfl | (dsimp only; rw [List.take_length, List.drop_drop]))), (by exact SlR.cast (ho_1.mono hG96) (by first | rfl | (dsimp only; rw [List.take_length, List.drop_drop]))), by
      dsimp only
      rw [List.append_assoc, ← hinv, both_l (i := i) (j := j) (by omega) (by omega) (by have h := h51; simp only [hga, hgb] at h; simpa [Str.lt] using h)]
      simp [hga, hgb], by dsimp only; omega, by dsimp only; omega⟩, by dsimp only; omega⟩
      ·refine WC.seq (WC.draw mix (by kernel_rfl) (W.mv (W.ok (ok_len sl41 ho_0 rfl) (W.ok (ok_eql rfl rfl) (W.mv ?_)))))
       refine W.sp 72 rfl (fun h71 => ?_) (fun h71 => ?_)
       ·have p71 := of_decide_eq_true h71
        exfalso; omega
       ·have p71 := of_decide_eq_false h71
        refine W.yes (dj := 72) rfl rfl h71 (W.mv (W.yes (dj := 72) rfl rfl h71 ?_))
        have q103 := ho_1.at (i := 0) (by omega)
        refine match q103 with | ⟨_, he101, e_102⟩ => ?_
        subst e_102
        refine W.ok (ok_indexAddr (i := 0) sl41 ty69 ho_1 rfl rfl ⟨by omega, by omega⟩) (W.yes (dj := 72) rfl rfl h71 (W.ok (ok_fieldE fd69_0 rfl he101.form) (W.yes (dj := 72) rfl rfl h71 (W.ok (ok_loadE (vs := [.string _]) ty9 he101 rfl rfl rfl (by simp)) (W.yes (dj := 72) rfl rfl h71 (W.mv (W.yes (dj := 72) rfl rfl h71 ?_)))))))
        have q106 := ho_0.at (i := 0) (by omega)
        refine match q106 with | ⟨_, he104, e_105⟩ => ?_
        subst e_105
        refine W.ok (ok_indexAddr (i := 0) sl41 ty69 ho_0 rfl rfl ⟨by omega, by omega⟩) (W.yes (dj := 72) rfl rfl h71 (W.ok (ok_fieldE fd69_0 rfl he104.form) (W.yes (dj := 72) rfl rfl h71 (W.ok (ok_loadE (vs := [.string _]) ty9 he104 rfl rfl rfl (by simp)) (W.yes (dj := 72) rfl rfl h71 (W.ok (ok_lssS rfl rfl) (W.ok (ok_pick_f rfl h71) ?_)))))))
        refine W.as (W.nil (thn_n ?_))
        refine WC.cond (b := _) rfl (fun h81 => ?_) (fun h81 => ?_)
        ·refine WC.seq (WC.drawW _ (List.nil_sublist _) mix (by rintro _ _ _ _ ⟨h | h, _⟩ <;> cases h) (WD.take 0 rfl rfl rfl (by kernel_rfl) (by kernel_rfl) (by kernel_rfl) (ok_mv) (WD.take 1 rfl rfl rfl (by kernel_rfl) (by kernel_rfl) (by kernel_rfl) (ok_mv) ?_)))
         have q109 := ho_1.at (i := 0) (by omega)
         refine match q109 with | ⟨_, he107, e_108⟩ => ?_
         subst e_108
         refine WD.take 2 rfl rfl rfl (by kernel_rfl) (by kernel_rfl) (by kernel_rfl) (ok_indexAddr (i := 0) sl41 ty69 ho_1 rfl rfl ⟨by omega, by omega⟩) (WD.take 3 rfl rfl rfl (by kernel_rfl) (by kernel_rfl) (by kernel_rfl) (ok_fieldE fd69_0 rfl he107.form) (WD.take 4 rfl rfl rfl (by kernel_rfl) (by kernel_rfl) (by kernel_rfl) (ok_loadE (vs := [.string _]) ty9 he107 rfl rfl rfl (by simp)) (WD.take 5 rfl rfl rfl (by kernel_rfl) (by kernel_rfl) (by kernel_rfl) (ok_mv) ?_)))
         have q112 := ho_1.at (i := 0) (by omega)
         refine match q112 with | ⟨_, he110, e_111⟩ => ?_
         subst e_111
         refine WD.take 6 rfl rfl rfl (by kernel_rfl) (by kernel_rfl) (by kernel_rfl) (ok_indexAddr (i := 0) sl41 ty69 ho_1 rfl rfl ⟨by omega, by omega⟩) (WD.take 7 rfl rfl rfl (by kernel_rfl) (by kernel_rfl) (by kernel_rfl) (ok_fieldE fd69_1 rfl he110.form) (WD.take 8 rfl rfl rfl (by kernel_rfl) (by kernel_rfl) (by kernel_rfl) (ok_loadE (vs := [.string _]) ty9 he110 rfl rfl rfl (by simp)) (WD.take 9 rfl rfl rfl (by kernel_rfl) (by kernel_rfl) (by kernel_rfl) (ok_build (L := [.string _, .string _, .string _, .bool _, .bool _]) pl225 zr225 rfl rfl rfl) (WD.any [10] (by kernel_rfl) rfl ⟨⟨_, rfl, rfl, (W.lit (e := eRow) (l := [⟨((b.drop j)[0]'_).key, Str.nil, ((b.drop j)[0]'_).val, false, true⟩]) (css := [[.string _, .string _, .string _, .bool _, .bool _]]) sl221 ty225 zr225 rfl rfl rfl rfl rfl rfl ⟨rfl, trivial⟩ (fun bl113 G113 hG113 hv113 => (W.nil ⟨hG113, List.nil_sublist _, _, List.nil_sublist _, List.Sublist.refl _, (WD.any [11] (by kernel_rfl) rfl ⟨⟨_, rfl, rfl, ?_⟩, trivial⟩)⟩)))⟩, trivial⟩))))
         refine W.app (e := eRow) sl221 ty225 zr225 rfl by225 rfl rfl ((ho_5.mono hG113)) (hv113) (List.Perm.refl _) (by show (m.length + 1) * 56 ≤ _; omega) (fun v114 Ms115 ho116 => (W.nil ⟨Le.rfl, List.nil_sublist _, _, List.nil_sublist _, List.Sublist.refl _, (WD.take 12 rfl rfl rfl (by kernel_rfl) (by kernel_rfl) (by kernel_rfl) (ok_as) (WD.done (by kernel_rfl) (thn_n (WC.region (W.mv ?_)))))⟩))
         have hs117 := SlR.slice (ho_1.mono hG113) (lo := 1) (hi := (b.drop j).length) (by omega) (by omega)
         refine W.ok (ok_slice (1) ((b.drop j).length) sl41 ty69 (ho_1.mono hG113) rfl ⟨_, _, rfl, by omega⟩ rfl ⟨by omega, by omega⟩) (W.as (W.nil (blk_n (blk_n (thn_n ?_)))))
         exact ⟨hG113, ((i, j + 1, m ++ [⟨((b.drop j)[0]'_).key, Str.nil, ((b.drop j)[0]'_).val, false, true⟩]), v114, Ms115, v_0, (sliceV v_1 (ePair).k (1) ((b.drop j).length))), ⟨eqv, eqv, eqv, trivial⟩, ⟨rfl, (by exact ho116), (by exact SlR.cast (ho_0.mono hG113) (by first | rfl | (dsimp only; rw [List.take_length, List.drop_drop]))), (by exact SlR.cast hs117 (by first | rfl | (dsimp only; rw [List.take_length, List.drop_drop]))), by
      dsimp only
      rw [List.append_assoc, ← hinv, both_r (i := i) (j := j) (by omega) (by omega) (by have h := h51; simp only [hga, hgb] at h; simpa [Str.lt] using h) (by have h := h81; simp only [hga, hgb] at h; simpa [Str.lt] using h)]
      simp [hga, hgb], by dsimp only; omega, by dsimp only; omega⟩, by dsimp only; omega⟩
        ·refine WC.seq (WC.drawW _ (List.nil_sublist _) mix (by rintro _ _ _ _ ⟨h | h, _⟩ <;> cases h) (WD.take 0 rfl rfl rfl (by kernel_rfl) (by kernel_rfl) (by kernel_rfl) (ok_mv) (WD.take 1 rfl rfl rfl (by kernel_rfl) (by kernel_rfl) (by kernel_rfl) (ok_mv) ?_)))
         have q120 := ho_0.at (i := 0) (by omega)
         refine match q120 with | ⟨_, he118, e_119⟩ => ?_
         subst e_119
         refine WD.take 2 rfl rfl rfl (by kernel_rfl) (by kernel_rfl) (by kernel_rfl) (ok_indexAddr (i := 0) sl41 ty69 ho_0 rfl rfl ⟨by omega, by omega⟩) (WD.take 3 rfl rfl rfl (by kernel_rfl) (by kernel_rfl) (by kernel_rfl) (ok_fieldE fd69_0 rfl he118.form) (WD.take 4 rfl rfl rfl (by kernel_rfl) (by kernel_rfl) (by kernel_rfl) (ok_loadE (vs := [.string _]) ty9 he118 rfl rfl rfl (by simp)) (WD.take 5 rfl rfl rfl (by kernel_rfl) (by kernel_rfl) (by kernel_rfl) (ok_mv) ?_)))
         have q123 := ho_0.at (i := 0) (by omega)
         refine match q123 with | ⟨_, he121, e_122⟩ => ?_
         subst e_122
         refine WD.take 6 rfl rfl rfl (by kernel_rfl) (by kernel_rfl) (by kernel_rfl) (ok_indexAddr (i := 0) sl41 ty69 ho_0 rfl rfl ⟨by omega, by omega⟩) (WD.take 7 rfl rfl rfl (by kernel_rfl) (by kernel_rfl) (by kernel_rfl) (ok_fieldE fd69_1 rfl he121.form) (WD.take 8 rfl rfl rfl (by kernel_rfl) (by kernel_rfl) (by kernel_rfl) (ok_loadE (vs := [.string _]) ty9 he121 rfl rfl rfl (by simp)) (WD.take 9 rfl rfl rfl (by kernel_rfl) (by kernel_rfl) (by kernel_rfl) (ok_mv) ?_)))
         have q126 := ho_1.at (i := 0) (by omega)
         refine match q126 with | ⟨_, he124, e_125⟩ => ?_
         subst e_125
         refine WD.take 10 rfl rfl rfl (by kernel_rfl) (by kernel_rfl) (by kernel_rfl) (ok_indexAddr (i := 0) sl41 ty69 ho_1 rfl rfl ⟨by omega, by omega⟩) (WD.take 11 rfl rfl rfl (by kernel_rfl) (by kernel_rfl) (by kernel_rfl) (ok_fieldE fd69_1 rfl he124.form) (WD.take 12 rfl rfl rfl (by kernel_rfl) (by kernel_rfl) (by kernel_rfl) (ok_loadE (vs := [.string _]) ty9 he124 rfl rfl rfl (by simp)) (WD.take 13 rfl rfl rfl (by kernel_rfl) (by kernel_rfl) (by kernel_rfl) (ok_build (L := [.string _, .string _, .string _, .bool _, .bool _]) pl225 zr225 rfl rfl rfl) (WD.any [14] (by kernel_rfl) rfl ⟨⟨_, rfl, rfl, (W.lit (e := eRow) (l := [⟨((a.drop i)[0]'_).key, ((a.drop i)[0]'_).val, ((b.drop j)[0]'_).val, true, true⟩]) (css := [[.string _, .string _, .string _, .bool _, .bool _]]) sl221 ty225 zr225 rfl rfl rfl rfl rfl rfl ⟨rfl, trivial⟩ (fun bl127 G127 hG127 hv127 => (W.nil ⟨hG127, List.nil_sublist _, _, List.nil_sublist _, List.Sublist.refl _, (WD.any [15] (by kernel_rfl) rfl ⟨⟨_, rfl, rfl, ?_⟩, trivial⟩)⟩)))⟩, trivial⟩))))
         refine W.app (e := eRow) sl221 ty225 zr225 rfl by225 rfl rfl ((ho_5.mono hG127)) (hv127) (List.Perm.refl _) (by show (m.length + 1) * 56 ≤ _; omega) (fun v128 Ms129 ho130 => (W.nil ⟨Le.rfl, List.nil_sublist _, _, List.nil_sublist _, List.Sublist.refl _, (WD.take 16 rfl rfl rfl (by kernel_rfl) (by kernel_rfl) (by kernel_rfl) (ok_as) (WD.done (by kernel_rfl) (thn_n (WC.draw mix (by kernel_rfl) (W.mv ?_)))))⟩))
         have hs131 := SlR.slice (ho_0.mono hG127) (lo := 1) (hi := (a.drop i).length) (by omega) (by omega)
         refine W.ok (ok_slice (1) ((a.drop i).length) sl41 ty69 (ho_0.mono hG127) rfl ⟨_, _, rfl, by omega⟩ rfl ⟨by omega, by omega⟩) (W.mv ?_)
         have hs132 := SlR.slice (ho_1.mono hG127) (lo := 1) (hi := (b.drop j).length) (by omega) (by omega)
         refine W.ok (ok_slice (1) ((b.drop j).length) sl41 ty69 (ho_1.mono hG127) rfl ⟨_, _, rfl, by omega⟩ rfl ⟨by omega, by omega⟩) (W.as (W.as (W.nil (blk_n (blk_n (thn_n ?_))))))
         exact ⟨hG127, ((i + 1, j + 1, m ++ [⟨((a.drop i)[0]'_).key, ((a.drop i)[0]'_).val, ((b.drop j)[0]'_).val, true, true⟩]), v128, Ms129, (sliceV v_0 (ePair).k (1) ((a.drop i).length)), (sliceV v_1 (ePair).k (1) ((b.drop j).length))), ⟨eqv, eqv, eqv, trivial⟩, ⟨rfl, (by exact ho130), (by exact SlR.cast hs131 (by first | rfl | (dsimp only; rw [List.take_length, List.drop_drop]))), (by exact SlR.cast hs132 (by first | rfl | (dsimp only; rw [List.take_length, List.drop_drop]))), by
      dsimp only
      rw [List.append_assoc, ← hinv, both_e (i := i) (j := j) (by omega) (by omega) (by have h := h51; simp only [hga, hgb] at h; simpa [Str.lt] using h) (by have h := h81; simp only [hga, hgb] at h; simpa [Str.lt] using h)]
      simp [hga, hgb], by dsimp only; omega, by dsimp only; omega⟩, by dsimp only; omega⟩
     ·have p41 := of_decide_eq_false h41
      refine W.no (dj := 42) rfl rfl h41 (W.no (dj := 42) rfl rfl h41 (W.no (dj := 42) rfl rfl h41 (W.no (dj := 42) rfl rfl h41 (W.no (dj := 42) rfl rfl h41 (W.no (dj := 42) rfl rfl h41 (W.no (dj := 42) rfl rfl h41 (W.no (dj := 42) rfl rfl h41 ?_)))))))
      refine W.no (dj := 42) rfl rfl h41 (W.yes (dj := 38) rfl rfl h37 (W.ok (ok_pick_f rfl h41) (W.ok (ok_pick_f rfl h37) (W.as (W.nil (thn_n (WC.cond_f rfl rfl (WC.seq ?_))))))))
      refine WC.draw mix (by kernel_rfl) (W.mv (W.ok (ok_len sl41 ho_0 rfl) (W.ok (ok_eql rfl rfl) (W.mv ?_))))
      refine W.sp 72 rfl (fun h71 => ?_) (fun h71 => ?_)
      ·have p71 := of_decide_eq_true h71
       refine W.no (dj := 72) rfl rfl h71 (W.no (dj := 72) rfl rfl h71 (W.no (dj := 72) rfl rfl h71 (W.no (dj := 72) rfl rfl h71 (W.no (dj := 72) rfl rfl h71 (W.no (dj := 72) rfl rfl h71 (W.no (dj := 72) rfl rfl h71 (W.no (dj := 72) rfl rfl h71 ?_)))))))
       refine W.no (dj := 72) rfl rfl h71 (W.ok (ok_pick_t rfl h71) (W.as (W.nil (thn_n (WC.cond_t rfl rfl (WC.seq (WC.drawW _ (List.nil_sublist _) mix (by rintro _ _ _ _ ⟨h | h, _⟩ <;> cases h) (WD.take 0 rfl rfl rfl (by kernel_rfl) (by kernel_rfl) (by kernel_rfl) (ok_mv) ?_))))))))
       refine WD.take 1 rfl rfl rfl (by kernel_rfl) (by kernel_rfl) (by kernel_rfl) (ok_mv) ?_
       have q135 := ho_1.at (i := 0) (by omega)
       refine match q135 with | ⟨_, he133, e_134⟩ => ?_
       subst e_134
       refine WD.take 2 rfl rfl rfl (by kernel_rfl) (by kernel_rfl) (by kernel_rfl) (ok_indexAddr (i := 0) sl41 ty69 ho_1 rfl rfl ⟨by omega, by omega⟩) (WD.take 3 rfl rfl rfl (by kernel_rfl) (by kernel_rfl) (by kernel_rfl) (ok_fieldE fd69_0 rfl he133.form) (WD.take 4 rfl rfl rfl (by kernel_rfl) (by kernel_rfl) (by kernel_rfl) (ok_loadE (vs := [.string _]) ty9 he133 rfl rfl rfl (by simp)) (WD.take 5 rfl rfl rfl (by kernel_rfl) (by kernel_rfl) (by kernel_rfl) (ok_mv) ?_)))
       have q138 := ho_1.at (i := 0) (by omega)
       refine match q138 with | ⟨_, he136, e_137⟩ => ?_
       subst e_137
       refine WD.take 6 rfl rfl rfl (by kernel_rfl) (by kernel_rfl) (by kernel_rfl) (ok_indexAddr (i := 0) sl41 ty69 ho_1 rfl rfl ⟨by omega, by omega⟩) (WD.take 7 rfl rfl rfl (by kernel_rfl) (by kernel_rfl) (by kernel_rfl) (ok_fieldE fd69_1 rfl he136.form) (WD.take 8 rfl rfl rfl (by kernel_rfl) (by kernel_rfl) (by kernel_rfl) (ok_loadE (vs := [.string _]) ty9 he136 rfl rfl rfl (by simp)) (WD.take 9 rfl rfl rfl (by kernel_rfl) (by kernel_rfl) (by kernel_rfl) (ok_build (L := [.string _, .string _, .string _, .bool _, .bool _]) pl225 zr225 rfl rfl rfl) (WD.any [10] (by kernel_rfl) rfl ⟨⟨_, rfl, rfl, (W.lit (e := eRow) (l := [⟨((b.drop j)[0]'_).key, Str.nil, ((b.drop j)[0]'_).val, false, true⟩]) (css := [[.string _, .string _, .string _, .bool _, .bool _]]) sl221 ty225 zr225 rfl rfl rfl rfl rfl rfl ⟨rfl, trivial⟩ (fun bl139 G139 hG139 hv139 => (W.nil ⟨hG139, List.nil_sublist _, _, List.nil_sublist _, List.Sublist.refl _, (WD.any [11] (by kernel_rfl) rfl ⟨⟨_, rfl, rfl, ?_⟩, trivial⟩)⟩)))⟩, trivial⟩))))
       refine W.app (e := eRow) sl221 ty225 zr225 rfl by225 rfl rfl ((ho_5.mono hG139)) (hv139) (List.Perm.refl _) (by show (m.length + 1) * 56 ≤ _; omega) (fun v140 Ms141 ho142 => (W.nil ⟨Le.rfl, List.nil_sublist _, _, List.nil_sublist _, List.Sublist.refl _, (WD.take 12 rfl rfl rfl (by kernel_rfl) (by kernel_rfl) (by kernel_rfl) (ok_as) (WD.done (by kernel_rfl) (thn_n (WC.region (W.mv ?_)))))⟩))
       have hs143 := SlR.slice (ho_1.mono hG139) (lo := 1) (hi := (b.drop j).length) (by omega) (by omega)
       refine W.ok (ok_slice (1) ((b.drop j).length) sl41 ty69 (ho_1.mono hG139) rfl ⟨_, _, rfl, by omega⟩ rfl ⟨by omega, by omega⟩) (W.as (W.nil (blk_n (blk_n (thn_n ?_)))))
       exact ⟨hG139, ((i, j + 1, m ++ [⟨((b.drop j)[0]'_).key, Str.nil, ((b.drop j)[0]'_).val, false, true⟩]), v140, Ms141, v_0, (sliceV v_1 (ePair).k (1) ((b.drop j).length))), ⟨eqv, eqv, eqv, trivial⟩, ⟨rfl, (by exact ho142), (by exact SlR.cast (ho_0.mono hG139) (by first | rfl | (dsimp only; rw [List.take_length, List.drop_drop]))), (by exact SlR.cast hs143 (by first | rfl | (dsimp only; rw [List.take_length, List.drop_drop]))), by
      dsimp only
      rw [List.append_assoc, ← hinv, both_fr (i := i) (j := j) (by omega) (by omega)]
      simp [hga, hgb], by dsimp only; omega, by dsimp only; omega⟩, by dsimp only; omega⟩
      ·have p71 := of_decide_eq_false h71
       exfalso; omega
   ·have p12 := of_decide_eq_false h12
    refine WC.exit (thn_x (thn_x (blk_h (thn_n (WC.seq (WC.region (W.mv (W.as (W.nil (thn_n (WC.giveO ho_5 (List.Perm.refl _) (fun G144 hG144 hv144 => (WC.ret ?_)))))))))))))
    refine ⟨.inr rfl, [_], ⟨rfl, trivial⟩, [], List.nil_sublist _, ?_⟩
    refine ⟨rfl, _, rfl, ?_⟩
    · exact SlR.cast hv144 (by rw [← hinv, both_0 (by omega) (by omega), List.append_nil])

end Go.Proofs.YtebkfinhhpelbaaGreat
