/- The walk of the messages by their stamps, by definition. -/
import Derived.Test.YtebkfinhhpelbaaGreatQyV2
import Derived.Test.YtebkfinhhpelbaaGreatQyNe
import Derived.Test.YtebkfinhhpelbaaGreatQyW2
namespace Go.Proofs.YtebkfinhhpelbaaGreat
open Go Go.Fw Go.RowKit
set_option maxRecDepth 100000
set_option maxHeartbeats 1600000
set_option linter.unusedVariables false
set_option linter.unusedSimpArgs false
set_option linter.unnecessarySimpa false
theorem rlists_fc {G : GH} {v_ls : Value} {ls : List (List Msg)} (h_ls : SlR (eSl eMsg) G v_ls ls) (ht : totN ls ≤ 1000000) (hln : ls.length ≤ 100000) :
    Fc Tryz.prog 129 [v_ls] G [] (fun v G' M' => M' = [] ∧ ∃ u0, v = u0 ∧ SlR eMsg G' u0 (mergeN ls)) := by
 obtain ⟨sa_ls, sc_ls, rfl⟩ := h_ls.form
 have hl := h_ls.len47
 refine Fc.intro (rs := [.tmp 2]) cl129 Tryz.func129 rfl Tryz.ntmps129 rfl rfl (fun w0 => ?_)
 refine WC.seq (WC.region (W.as (W.nil (thn_n (WC.seq (WC.region (W.mv (W.ok (ok_len sl187 h_ls rfl) ?_))))))))
 refine W.mkSl (e := eInt) (a0 := (0 : Int)) (n := (ls).length) sl44 ty3 zr3 rfl by3 (⟨rfl, by decide, by decide⟩) rfl rfl (by first | (show _ * 8 ≤ 140737488355328; omega) | (show _ * 1 ≤ 16777216; omega)) (by first | (show _ * 8 ≤ 140737488355328; omega) | (show _ * 1 ≤ 16777216; omega)) (fun v1 Ms2 ho3 => (W.as (W.nil (thn_n (WC.seq (WC.region (W.as (W.nil (thn_n (WC.block ?_))))))))))
 refine WC.loop (X := (List Nat × List Msg) × Value × MH × Value × MH) (fun x => [(0, .slice sa_ls ls.length sc_ls), (3, x.2.1), (4, x.2.2.2.1)]) (fun x G Ml => Ml = (x.2.2.1 ++ (x.2.2.2.2 ++ [])) ∧ OwnR eInt 3 G x.2.1 (nats x.1.1) x.2.2.1 ∧ OwnR eMsg 49 G x.2.2.2.1 (x.1.2) x.2.2.2.2 ∧ x.1.1.length = ls.length ∧ x.1.2 ++ mergeN (curN ls x.1.1) = mergeN ls) (fun x => totN (curN ls x.1.1)) (((List.replicate ls.length 0, []) : List Nat × List Msg), v1, Ms2, .slice none 0 0, ([] : MH)) ⟨eqv, eqv, eqv, trivial⟩ ?_ ?_
 ·exact ⟨rfl, (by simpa [nats] using ho3), (by simpa using OwnR.nil), by simp, by rw [curN_zero]; rfl⟩
 ·rintro ⟨⟨ps, out⟩, v_3, M_3, v_4, M_4⟩ gG4 G4 _ hG4 ⟨rfl, ho_3, ho_4, hpl, hm⟩
  try dsimp only at ho_3 ho_4 hpl hm
  have hcl := curN_len hpl
  have hml := congrArg List.length hm
  rw [List.length_append] at hml
  have hml2 := merge_len ls
  have hnl : (nats ps).length = ps.length := List.length_map ..
  refine WC.fr (f := setL gG4 [(0, .slice sa_ls ls.length sc_ls), (3, v_3), (4, v_4)]) rfl (WC.block (WC.seq (WC.region (W.as (W.nil (thn_n (WC.seq (WC.seq ?_))))))))
  refine WC.region (W.as (W.nil (thn_n (WC.block ?_))))
  refine WC.loop (X := Nat × Int) (fun y => [(5, .int .i64 y.2), (6, .int .i64 ((y.1 : Nat) : Int)), (3, v_3), (4, v_4), (0, .slice sa_ls ls.length sc_ls)]) (fun y _ Ml => Ml = (M_3 ++ (M_4 ++ [])) ∧ y.1 ≤ ls.length ∧ BI (curN ls ps) y.1 y.2) (fun y => ls.length - y.1) ((0, -1) : Nat × Int) ⟨eqv, eqv, eqv, eqv, eqv, trivial⟩ ?_ ?_
  ·exact ⟨rfl, Nat.zero_le _, BI_nil _⟩
  ·rintro ⟨j, c⟩ gG5 G5 _ hG5 ⟨rfl, hj, hbi⟩
   dsimp only at hj hbi
   refine WC.fr (f := setL gG5 [(5, .int .i64 c), (6, .int .i64 ((j : Nat) : Int)), (3, v_3), (4, v_4), (0, .slice sa_ls ls.length sc_ls)]) rfl (WC.seq (WC.seq (WC.region (W.mv (W.mv (W.ok (ok_len sl187 (h_ls.mono (hG4.trans hG5)) rfl) (W.ok (ok_lss rfl rfl) ?_)))))))
   refine W.nil (thn_n ?_)
   refine WC.cond (b := _) rfl (fun h13 => ?_) (fun h13 => ?_)
   ·have p13 := of_decide_eq_true h13
    try dsimp only at p13
    refine WC.skip (thn_n (WC.seq (WC.block (WC.seq (WC.draw mix (by kernel_rfl) (W.mv (W.mv ?_)))))))
    have q9 := (ho_3.mono hG5).at (i := j) (by omega)
    refine match q9 with | ⟨_, he6, ⟨e_8, hi7⟩⟩ => ?_
    subst e_8
    refine W.ok (ok_indexAddrO (i := j) sl44 ty3 (ho_3.mono hG5) rfl rfl ⟨by omega, by omega⟩) (W.ok (ok_loadO (vs := [.int .i64 _]) ty3 he6 (List.Perm.refl _) rfl rfl rfl (by simp)) (W.mv (W.mv ?_)))
    have q13 := (h_ls.mono (hG4.trans hG5)).at (i := j) (by omega)
    refine match q13 with | ⟨_, he10, ⟨_, e_12, hs11⟩⟩ => ?_
    subst e_12
    obtain ⟨sa_hs11, sc_hs11, rfl⟩ := hs11.form
    refine W.ok (ok_indexAddr (i := j) sl187 ty45 (h_ls.mono (hG4.trans hG5)) rfl rfl ⟨by omega, by omega⟩) (W.ok (ok_loadE (vs := [.slice _ _ _]) ty45 he10 rfl rfl rfl (by simp)) (W.ok (ok_len sl45 hs11 rfl) (W.ok (ok_lss rfl rfl) (W.mv ?_))))
    refine W.sp 26 rfl (fun h25 => ?_) (fun h25 => ?_)
    ·have p25 := of_decide_eq_true h25
     try dsimp only at p25
     have hpj : (nats ps)[j]'(by omega) = ((ps[j]'(by omega) : Nat) : Int) := by simp
     refine W.yes (dj := 26) rfl rfl h25 (W.mv (W.yes (dj := 26) rfl rfl h25 (W.ok (ok_lss rfl rfl) (W.yes (dj := 26) rfl rfl h25 (W.mv ?_)))))
     refine W.sp 29 rfl (fun h28 => ?_) (fun h28 => ?_)
     ·have p28 := of_decide_eq_true h28
      try dsimp only at p28
      refine W.no (dj := 29) rfl rfl h28 (W.no (dj := 29) rfl rfl h28 (W.no (dj := 29) rfl rfl h28 (W.no (dj := 29) rfl rfl h28 (W.no (dj := 29) rfl rfl h28 (W.no (dj := 29) rfl rfl h28 (W.no (dj := 29) rfl rfl h28 (W.no (dj := 29) rfl rfl h28 ?_)))))))
      refine W.no (dj := 29) rfl rfl h28 (W.no (dj := 29) rfl rfl h28 (W.no (dj := 29) rfl rfl h28 (W.no (dj := 29) rfl rfl h28 (W.no (dj := 29) rfl rfl h28 (W.no (dj := 29) rfl rfl h28 (W.no (dj := 29) rfl rfl h28 (W.no (dj := 29) rfl rfl h28 ?_)))))))
      refine W.no (dj := 29) rfl rfl h28 (W.no (dj := 29) rfl rfl h28 (W.no (dj := 29) rfl rfl h28 (W.no (dj := 29) rfl rfl h28 (W.no (dj := 29) rfl rfl h28 (W.no (dj := 29) rfl rfl h28 (W.no (dj := 29) rfl rfl h28 (W.yes (dj := 26) rfl rfl h25 ?_)))))))
      refine W.ok (ok_pick_t rfl h28) (W.ok (ok_pick_t rfl h25) (W.nil (thn_n (WC.cond_t rfl rfl (WC.region (W.mv (W.as (W.nil (blk_n (thn_n ?_))))))))))
      refine WC.region (W.mv (W.ok (ok_add rfl rfl (by omega)) (W.as (W.nil (thn_n ?_)))))
      exact ⟨Le.rfl, ((j + 1, (j : Int)) : Nat × Int), ⟨eqv, eqv, eqv, eqv, eqv, trivial⟩, ⟨rfl, by dsimp only; omega, BI_first hbi p28 (by omega) (by rw [curN_atlen (by omega) (by omega)]; omega)⟩, by dsimp only; omega⟩
     ·have p28 := of_decide_eq_false h28
      try dsimp only at p28
      obtain ⟨b, hbC, rfl, hbj, hbn⟩ := BI_best hbi p28
      have hpb : (nats ps)[b]'(by simp; omega) = ((ps[b]'(by omega) : Nat) : Int) := by simp
      rw [curN_atlen (by omega) (by omega)] at hbn
      refine W.yes (dj := 29) rfl rfl h28 (W.mv (W.yes (dj := 29) rfl rfl h28 (W.mv (W.yes (dj := 29) rfl rfl h28 ?_))))
      have q17 := (h_ls.mono (hG4.trans hG5)).at (i := j) (by omega)
      refine match q17 with | ⟨_, he14, ⟨_, e_16, hs15⟩⟩ => ?_
      subst e_16
      obtain ⟨sa_hs15, sc_hs15, rfl⟩ := hs15.form
      refine W.ok (ok_indexAddr (i := j) sl187 ty45 (h_ls.mono (hG4.trans hG5)) rfl rfl ⟨by omega, by omega⟩) (W.yes (dj := 29) rfl rfl h28 (W.ok (ok_loadE (vs := [.slice _ _ _]) ty45 he14 rfl rfl rfl (by simp)) (W.yes (dj := 29) rfl rfl h28 (W.mv (W.yes (dj := 29) rfl rfl h28 (W.mv (W.yes (dj := 29) rfl rfl h28 ?_)))))))
      have q21 := (ho_3.mono hG5).at (i := j) (by omega)
      refine match q21 with | ⟨_, he18, ⟨e_20, hi19⟩⟩ => ?_
      subst e_20
      refine W.ok (ok_indexAddrO (i := j) sl44 ty3 (ho_3.mono hG5) rfl rfl ⟨by omega, by omega⟩) (W.yes (dj := 29) rfl rfl h28 (W.ok (ok_loadO (vs := [.int .i64 _]) ty3 he18 (List.Perm.refl _) rfl rfl rfl (by simp)) (W.yes (dj := 29) rfl rfl h28 ?_)))
      have q26 := hs15.at (i := ps[j]) (by omega)
      refine match q26 with | ⟨_, he22, ⟨e_25, hm23⟩⟩ => ?_
      subst e_25
      refine W.ok (ok_indexAddr (i := ps[j]) sl45 ty49 hs15 rfl rfl ⟨by omega, by omega⟩) (W.yes (dj := 29) rfl rfl h28 (W.ok (ok_fieldE fd49_0 rfl he22.form) (W.yes (dj := 29) rfl rfl h28 (W.ok (ok_loadE (vs := [.int .i64 _]) ty3 he22 rfl rfl rfl (by simp)) (W.yes (dj := 29) rfl rfl h28 (W.mv (W.yes (dj := 29) rfl rfl h28 ?_)))))))
      refine W.mv (W.yes (dj := 29) rfl rfl h28 ?_)
      have q30 := (h_ls.mono (hG4.trans hG5)).at (i := b) (by omega)
      refine match q30 with | ⟨_, he27, ⟨_, e_29, hs28⟩⟩ => ?_
      subst e_29
      obtain ⟨sa_hs28, sc_hs28, rfl⟩ := hs28.form
      refine W.ok (ok_indexAddr (i := b) sl187 ty45 (h_ls.mono (hG4.trans hG5)) rfl rfl ⟨by omega, by omega⟩) (W.yes (dj := 29) rfl rfl h28 (W.ok (ok_loadE (vs := [.slice _ _ _]) ty45 he27 rfl rfl rfl (by simp)) (W.yes (dj := 29) rfl rfl h28 (W.mv (W.yes (dj := 29) rfl rfl h28 (W.mv (W.yes (dj := 29) rfl rfl h28 ?_)))))))
      have q34 := (ho_3.mono hG5).at (i := b) (by omega)
      refine match q34 with | ⟨_, he31, ⟨e_33, hi32⟩⟩ => ?_
      subst e_33
      refine W.ok (ok_indexAddrO (i := b) sl44 ty3 (ho_3.mono hG5) rfl rfl ⟨by omega, by omega⟩) (W.yes (dj := 29) rfl rfl h28 (W.ok (ok_loadO (vs := [.int .i64 _]) ty3 he31 (List.Perm.refl _) rfl rfl rfl (by simp)) (W.yes (dj := 29) rfl rfl h28 ?_)))
      have q39 := hs28.at (i := ps[b]) (by omega)
      refine match q39 with | ⟨_, he35, ⟨e_38, hm36⟩⟩ => ?_
      subst e_38
      refine W.ok (ok_indexAddr (i := ps[b]) sl45 ty49 hs28 rfl rfl ⟨by omega, by omega⟩) (W.yes (dj := 29) rfl rfl h28 (W.ok (ok_fieldE fd49_0 rfl he35.form) (W.yes (dj := 29) rfl rfl h28 (W.ok (ok_loadE (vs := [.int .i64 _]) ty3 he35 rfl rfl rfl (by simp)) (W.yes (dj := 29) rfl rfl h28 (W.ok (ok_lss rfl rfl) (W.yes (dj := 26) rfl rfl h25 ?_)))))))
      refine W.ok (ok_pick_f rfl h28) (W.ok (ok_pick_t rfl h25) (W.nil (thn_n ?_)))
      refine WC.cond (b := _) rfl (fun h52 => ?_) (fun h52 => ?_)
      ·have p52 := of_decide_eq_true h52
       try dsimp only at p52
       refine WC.region (W.mv (W.as (W.nil (blk_n (thn_n (WC.region (W.mv (W.ok (ok_add rfl rfl (by omega)) (W.as ?_)))))))))
       refine W.nil (thn_n ?_)
       exact ⟨Le.rfl, ((j + 1, (j : Int)) : Nat × Int), ⟨eqv, eqv, eqv, eqv, eqv, trivial⟩, ⟨rfl, by dsimp only; omega, BI_less hbi (by omega) (by omega) (by rw [curN_atlen (by omega) (by omega)]; omega) (by rw [curN_st (by omega) (by omega) (by omega) (by omega), curN_st (by omega) (by omega) (by omega) (by omega)]; exact p52)⟩, by dsimp only; omega⟩
      ·have p52 := of_decide_eq_false h52
       try dsimp only at p52
       refine WC.skip (blk_n (thn_n (WC.region (W.mv (W.ok (ok_add rfl rfl (by omega)) (W.as (W.nil (thn_n ?_))))))))
       exact ⟨Le.rfl, ((j + 1, (b : Int)) : Nat × Int), ⟨eqv, eqv, eqv, eqv, eqv, trivial⟩, ⟨rfl, by dsimp only; omega, BI_keep hbi (by omega) (by omega) (by rw [curN_st (by omega) (by omega) (by omega) (by omega), curN_st (by omega) (by omega) (by omega) (by omega)]; exact p52)⟩, by dsimp only; omega⟩
    ·have p25 := of_decide_eq_false h25
     try dsimp only at p25
     have hpj : (nats ps)[j]'(by omega) = ((ps[j]'(by omega) : Nat) : Int) := by simp
     refine W.no (dj := 26) rfl rfl h25 (W.no (dj := 26) rfl rfl h25 (W.no (dj := 26) rfl rfl h25 (W.nou (dj := 29) rfl rfl (W.nou (dj := 29) rfl rfl (W.nou (dj := 29) rfl rfl (W.nou (dj := 29) rfl rfl (W.nou (dj := 29) rfl rfl ?_)))))))
     refine W.nou (dj := 29) rfl rfl (W.nou (dj := 29) rfl rfl (W.nou (dj := 29) rfl rfl (W.nou (dj := 29) rfl rfl (W.nou (dj := 29) rfl rfl (W.nou (dj := 29) rfl rfl (W.nou (dj := 29) rfl rfl (W.nou (dj := 29) rfl rfl ?_)))))))
     refine W.nou (dj := 29) rfl rfl (W.nou (dj := 29) rfl rfl (W.nou (dj := 29) rfl rfl (W.nou (dj := 29) rfl rfl (W.nou (dj := 29) rfl rfl (W.nou (dj := 29) rfl rfl (W.nou (dj := 29) rfl rfl (W.nou (dj := 29) rfl rfl ?_)))))))
     refine W.nou (dj := 29) rfl rfl (W.nou (dj := 29) rfl rfl (W.no (dj := 26) rfl rfl h25 (W.ok (ok_pick_f rfl h25) (W.nil (thn_n (WC.cond_f rfl rfl (WC.skip (blk_n (thn_n (WC.region ?_))))))))))
     refine W.mv (W.ok (ok_add rfl rfl (by omega)) (W.as (W.nil (thn_n ?_))))
     exact ⟨Le.rfl, ((j + 1, c) : Nat × Int), ⟨eqv, eqv, eqv, eqv, eqv, trivial⟩, ⟨rfl, by dsimp only; omega, BI_skip hbi (by omega) (by rw [curN_atlen (by omega) (by omega)]; omega)⟩, by dsimp only; omega⟩
   ·have p13 := of_decide_eq_false h13
    try dsimp only at p13
    refine WC.exit (thn_x (thn_x (blk_h (thn_n (WC.seq (WC.seq (WC.region (W.mv (W.ok (ok_lss rfl rfl) (W.nil (thn_n ?_)))))))))))
    refine WC.cond (b := _) rfl (fun h57 => ?_) (fun h57 => ?_)
    ·have p57 := of_decide_eq_true h57
     try dsimp only at p57
     refine WC.seq (WC.region (W.mv (W.as (W.nil (thn_n (WC.giveO (ho_4.mono hG5) (pmA (List.Perm.refl _)) (fun G40 hG40 hv40 => (WC.ret (thn_r (blk_r (thn_r (blk_r ?_))))))))))))
     refine ⟨.inr rfl, [_], ⟨rfl, trivial⟩, [], List.nil_sublist _, ?_⟩
     refine ⟨rfl, _, rfl, ?_⟩
     · exact SlR.cast hv40 (by rw [← hm, BI_end hbi (by omega) p57, List.append_nil])
    ·have p57 := of_decide_eq_false h57
     try dsimp only at p57
     obtain ⟨b, hbC, rfl, hbj, hbn⟩ := BI_best hbi p57
     have hpb : (nats ps)[b]'(by simp; omega) = ((ps[b]'(by omega) : Nat) : Int) := by simp
     rw [curN_atlen (by omega) (by omega)] at hbn
     have hlb := len_tot (ls := ls) (i := b) (by omega)
     have hB : Best (curN ls ps) b := BI_done hbi (by omega)
     refine WC.skip (thn_n (WC.seq (WC.drawW _ (List.nil_sublist _) mix (by rintro _ _ _ _ ⟨h | h, _⟩ <;> cases h) (WD.take 0 rfl rfl rfl (by kernel_rfl) (by kernel_rfl) (by kernel_rfl) (ok_mv) (WD.take 1 rfl rfl rfl (by kernel_rfl) (by kernel_rfl) (by kernel_rfl) (ok_mv) (WD.take 2 rfl rfl rfl (by kernel_rfl) (by kernel_rfl) (by kernel_rfl) (ok_mv) ?_))))))
     have q44 := (h_ls.mono (hG4.trans hG5)).at (i := b) (by omega)
     refine match q44 with | ⟨_, he41, ⟨_, e_43, hs42⟩⟩ => ?_
     subst e_43
     obtain ⟨sa_hs42, sc_hs42, rfl⟩ := hs42.form
     refine WD.take 3 rfl rfl rfl (by kernel_rfl) (by kernel_rfl) (by kernel_rfl) (ok_indexAddr (i := b) sl187 ty45 (h_ls.mono (hG4.trans hG5)) rfl rfl ⟨by omega, by omega⟩) (WD.take 4 rfl rfl rfl (by kernel_rfl) (by kernel_rfl) (by kernel_rfl) (ok_loadE (vs := [.slice _ _ _]) ty45 he41 rfl rfl rfl (by simp)) (WD.take 5 rfl rfl rfl (by kernel_rfl) (by kernel_rfl) (by kernel_rfl) (ok_mv) (WD.take 6 rfl rfl rfl (by kernel_rfl) (by kernel_rfl) (by kernel_rfl) (ok_mv) ?_)))
     have q48 := (ho_3.mono hG5).at (i := b) (by omega)
     refine match q48 with | ⟨_, he45, ⟨e_47, hi46⟩⟩ => ?_
     subst e_47
     refine WD.take 7 rfl rfl rfl (by kernel_rfl) (by kernel_rfl) (by kernel_rfl) (ok_indexAddrO (i := b) sl44 ty3 (ho_3.mono hG5) rfl rfl ⟨by omega, by omega⟩) (WD.any [8] (by kernel_rfl) rfl ⟨⟨_, rfl, rfl, (W.ok (ok_loadO (vs := [.int .i64 _]) ty3 he45 (List.Perm.refl _) rfl rfl rfl (by simp)) (W.nil ⟨Le.rfl, List.nil_sublist _, _, List.nil_sublist _, List.Sublist.refl _, ?_⟩))⟩, trivial⟩)
     have q53 := hs42.at (i := ps[b]) (by omega)
     refine match q53 with | ⟨_, he49, ⟨e_52, hm50⟩⟩ => ?_
     subst e_52
     refine WD.take 9 rfl rfl rfl (by kernel_rfl) (by kernel_rfl) (by kernel_rfl) (ok_indexAddr (i := ps[b]) sl45 ty49 hs42 rfl rfl ⟨by omega, by omega⟩) (WD.take 10 rfl rfl rfl (by kernel_rfl) (by kernel_rfl) (by kernel_rfl) (ok_loadE (vs := [.int .i64 _, .int .i64 _, .string _, .string _, .bool _, .string _]) ty49 he49 rfl rfl rfl (by simp)) (WD.any [11] (by kernel_rfl) rfl ⟨⟨_, rfl, rfl, (W.lit (e := eMsg) (l := [(((ls[b]))[ps[b]])]) (css := [[.int .i64 _, .int .i64 _, .string _, .string _, .bool _, .string _]]) sl45 ty49 zr49 rfl rfl rfl rfl rfl rfl ⟨⟨rfl, hm50⟩, trivial⟩ (fun bl54 G54 hG54 hv54 => (W.nil ⟨hG54, List.nil_sublist _, _, List.nil_sublist _, List.Sublist.refl _, (WD.any [12] (by kernel_rfl) rfl ⟨⟨_, rfl, rfl, (W.app (e := eMsg) sl45 ty49 zr49 rfl by49 rfl rfl ((ho_4.mono (hG5.trans hG54))) (hv54) (pmA (List.Perm.refl _)) (by show (_ + 1) * 72 ≤ _; omega) (fun v55 Ms56 ho57 => (W.nil ⟨Le.rfl, List.nil_sublist _, _, List.nil_sublist _, List.Sublist.refl _, ?_⟩)))⟩, trivial⟩)⟩)))⟩, trivial⟩))
     refine WD.take 13 rfl rfl rfl (by kernel_rfl) (by kernel_rfl) (by kernel_rfl) (ok_as) (WD.done (by kernel_rfl) (thn_n (WC.region (W.mv (W.mv ?_)))))
     have q61 := (ho_3.mono (hG5.trans hG54)).at (i := b) (by omega)
     refine match q61 with | ⟨_, he58, ⟨e_60, hi59⟩⟩ => ?_
     subst e_60
     refine W.ok (ok_indexAddrO (i := b) sl44 ty3 (ho_3.mono (hG5.trans hG54)) rfl rfl ⟨by omega, by omega⟩) (W.ok (ok_loadO (vs := [.int .i64 _]) ty3 he58 (pmA (List.Perm.refl _)) rfl rfl rfl (by simp)) (W.ok (Ok.int (n := ((ps[b] + 1 : Nat) : Int)) (ok_add rfl rfl (by omega)) (by omega)) ?_))
     have q65 := (ho_3.mono (hG5.trans hG54)).at (i := b) (by omega)
     refine match q65 with | ⟨_, he62, ⟨e_64, hi63⟩⟩ => ?_
     subst e_64
     refine W.ok (ok_indexAddrO (i := b) sl44 ty3 (ho_3.mono (hG5.trans hG54)) rfl rfl ⟨by omega, by omega⟩) (W.storeO (i := b) (o := 0) (vs := [.int .i64 _]) (a' := ((ps[b] + 1 : Nat) : Int)) ty3 rfl rfl rfl rfl rfl ((ho_3.mono (hG5.trans hG54))) (pmA (List.Perm.refl _)) (by omega) (by decide) (fun cs h => by rw [h.1]; exact ⟨rfl, by omega, by omega⟩) (fun Ms66 ho67 => (W.nil (blk_n (thn_n ?_)))))
     exact ⟨(hG5.trans hG54), (((ps.set b (ps[b] + 1), out ++ [(ls[b])[ps[b]]]) : List Nat × List Msg), v_3, Ms66, v55, Ms56), ⟨eqv, eqv, eqv, trivial⟩, ⟨rfl, (by have h := ho67; rw [show ((nats ps).set b ((ps[b] + 1 : Nat) : Int)) = nats (ps.set b (ps[b] + 1)) from (List.map_set ..).symm] at h; exact h), (by exact ho57), by dsimp only; rw [List.length_set]; exact hpl, by dsimp only; rw [← hm, merge_step hB, curN_set hpl (by omega) (by omega), curN_hd (by omega) (by omega) (by omega) (by omega), List.append_assoc]; rfl⟩, by dsimp only; rw [← curN_set hpl (by omega) (by omega) (by omega)]; have := totN_set hB; omega⟩

end Go.Proofs.YtebkfinhhpelbaaGreat
