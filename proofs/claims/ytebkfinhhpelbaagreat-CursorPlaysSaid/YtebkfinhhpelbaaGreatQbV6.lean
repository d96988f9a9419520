/- The walk of the messages by their stamps, by definition. -/
import Derived.Test.YtebkfinhhpelbaaGreatQbNm
set_option maxRecDepth 100000
set_option maxHeartbeats 1600000
set_option linter.unusedVariables false
set_option linter.unusedSimpArgs false
set_option linter.unnecessarySimpa false
namespace Go.Proofs.YtebkfinhhpelbaaGreat
open Go Go.Fw Go.RowKit
theorem rlists_fc {G : GH} {v_ls : Value} {ls : List (List Msg)} (h_ls : SlR (eSl eMsg) G v_ls ls) (ht : totN ls ≤ 1000000) (hln : ls.length ≤ 100000) :
    Fc Tryz.prog 129 [v_ls] G [] (fun v G' M' => M' = [] ∧ ∃ u0, v = u0 ∧ SlR eMsg G' u0 (mergeN ls)) := by
 obtain ⟨sa_ls, sc_ls, rfl⟩ := h_ls.form
 have hl := h_ls.len47
 refine Fc.intro (rs := [.tmp 2]) cl129 Tryz.func129 rfl Tryz.ntmps129 rfl rfl (fun w0 => ?_)
 refine WC.seq (WC.region (W.as (W.nil (thn_n (WC.seq (WC.region (W.mv (W.ok (ok_len sl187 h_ls rfl) (W.mkSl (e := eInt) (a0 := (0 : Int)) (n := (ls).length) sl44 ty3 zr3 rfl by3 (⟨rfl, by decide, by decide⟩) rfl rfl (by first | (show _ * 8 ≤ 140737488355328; omega) | (show _ * 1 ≤ 16777216; omega)) (by first | (show _ * 8 ≤ 140737488355328; omega) | (show _ * 1 ≤ 16777216; omega)) (fun v1 Ms2 ho3 => (W.as (W.nil (thn_n (WC.seq (WC.region (W.as ?_))))))))))))))))
 refine W.nil (thn_n (WC.block ?_))
 refine WC.loop (X := (List Nat × List Msg) × Value × MH × Value × MH) (fun x => [(0, .slice sa_ls ls.length sc_ls), (3, x.2.1), (4, x.2.2.2.1)]) (fun x G Ml => Ml = (x.2.2.1 ++ (x.2.2.2.2 ++ [])) ∧ OwnR eInt 3 G x.2.1 (nats x.1.1) x.2.2.1 ∧ OwnR eMsg 49 G x.2.2.2.1 (x.1.2) x.2.2.2.2 ∧ x.1.1.length = ls.length ∧ x.1.2 ++ mergeN (curN ls x.1.1) = mergeN ls) (fun x => totN (curN ls x.1.1)) (((List.replicate ls.length 0, []) : List Nat × List Msg), v1, Ms2, .slice none 0 0, ([] : MH)) ⟨eqv, eqv, eqv, trivial⟩ ?_ ?_
 ·exact ⟨rfl, (by simpa [nats] using ho3), (by simpa using OwnR.nil), by simp, by rw [curN_zero]; rfl⟩
 rintro ⟨⟨ps, out⟩, v_3, M_3, v_4, M_4⟩ gG4 G4 _ hG4 ⟨rfl, ho_3, ho_4, hpl, hm⟩
 try dsimp only at ho_3 ho_4 hpl hm
 have hcl := curN_len hpl
 have hml := congrArg List.length hm
 rw [List.length_append] at hml
 have hml2 := merge_len ls
 have hnl : (nats ps).length = ps.length := List.length_map ..
 refine WC.fr (f := setL gG4 [(0, .slice sa_ls ls.length sc_ls), (3, v_3), (4, v_4)]) rfl (WC.block (WC.seq (WC.region (W.as (W.nil (thn_n (WC.seq (WC.seq (WC.region (W.as (W.nil (thn_n (WC.block ?_)))))))))))))
 refine WC.loop (X := Nat × Int) (fun y => [(5, .int .i64 y.2), (6, .int .i64 ((y.1 : Nat) : Int)), (3, v_3), (4, v_4), (0, .slice sa_ls ls.length sc_ls)]) (fun y _ Ml => Ml = (M_3 ++ (M_4 ++ [])) ∧ y.1 ≤ ls.length ∧ BI (curN ls ps) y.1 y.2) (fun y => ls.length - y.1) ((0, -1) : Nat × Int) ⟨eqv, eqv, eqv, eqv, eqv, trivial⟩ ?_ ?_
 ·exact ⟨rfl, Nat.zero_le _, BI_nil _⟩
 rintro ⟨j, c⟩ gG5 G5 _ hG5 ⟨rfl, hj, hbi⟩
 dsimp only at hj hbi
 refine WC.fr (f := setL gG5 [(5, .int .i64 c), (6, .int .i64 ((j : Nat) : Int)), (3, v_3), (4, v_4), (0, .slice sa_ls ls.length sc_ls)]) rfl (WC.seq (WC.seq (WC.region (W.mv (W.mv (W.ok (ok_len sl187 (h_ls.mono (hG4.trans hG5)) rfl) (W.ok (ok_lss rfl rfl) (W.nil (thn_n ?_)))))))))
 refine WC.cond (b := _) rfl (fun h13 => ?_) (fun h13 => ?_)
 ·have p13 := of_decide_eq_true h13
  try dsimp only at p13
  refine WC.skip (thn_n (WC.seq (WC.block (WC.seq (WC.draw mix (by kernel_rfl) (W.mv (W.mv ?_)))))))
  have q9 := (ho_3.mono hG5).at (i := j) (by omega)
  refine match q9 with | ⟨_, he6, ⟨e_8, hi7⟩⟩ => ?_
  subst e_8
  refine W.ok (ok_indexAddrO (i := j) sl44 ty3 (ho_3.mono hG5) rfl rfl ⟨by omega, by omega⟩) (W.ok (ok_loadO (vs := [.int .i64 _]) ty3 he6 pr9 rfl rfl rfl (by simp)) (W.mv (W.mv ?_)))
  have q13 := (h_ls.mono (hG4.trans hG5)).at (i := j) (by omega)
  refine match q13 with | ⟨_, he10, ⟨_, e_12, hs11⟩⟩ => ?_
  subst e_12
  obtain ⟨sa_hs11, sc_hs11, rfl⟩ := hs11.form
  refine W.ok (ok_indexAddr (i := j) sl187 ty45 (h_ls.mono (hG4.trans hG5)) rfl rfl ⟨by omega, by omega⟩) (W.ok (ok_loadE (vs := [.slice _ _ _]) ty45 he10 rfl rfl rfl (by simp)) (W.ok (ok_len sl45 hs11 rfl) (W.ok (ok_lss rfl rfl) (W.mv ?_))))
  refine W.sp 26 rfl (fun h25 => ?_) (fun h25 => ?_)
  ·have p25 := of_decide_eq_true h25
   try dsimp only at p25
   have hpj : (nats ps)[j]'(by omega) = ((ps[j]'(by omega) : Nat) : Int) := by simp
   refine W.yes (dj := 26) rfl rfl h25 (W.mv (W.yes (dj := 26) rfl rfl h25 (W.ok (ok_lss rfl rfl) (W.yes (dj := 26) rfl rfl h25 (W.mv ?_)))))
   refine W.sp 29 rfl (fun h28 => ?_) (fun h28 => ?_)
   ·have p28 := of_decide_eq_true h28
    try dsimp only at p28
    refine W.no (dj := 29) rfl rfl h28 (W.no (dj := 29) rfl rfl h28 (W.no (dj := 29) rfl rfl h28 (W.no (dj := 29) rfl rfl h28 (W.no (dj := 29) rfl rfl h28 (W.no (dj := 29) rfl rfl h28 (W.no (dj := 29) rfl rfl h28 (W.no (dj := 29) rfl rfl h28 (W.no (dj := 29) rfl rfl h28 (W.no (dj := 29) rfl rfl h28 (W.no (dj := 29) rfl rfl h28 (W.no (dj := 29) rfl rfl h28 (W.no (dj := 29) rfl rfl h28 (W.no (dj := 29) rfl rfl h28 ?_)))))))))))))
    refine W.no (dj := 29) rfl rfl h28 (W.no (dj := 29) rfl rfl h28 (W.no (dj := 29) rfl rfl h28 (W.no (dj := 29) rfl rfl h28 (W.no (dj := 29) rfl rfl h28 (W.no (dj := 29) rfl rfl h28 (W.no (dj := 29) rfl rfl h28 (W.no (dj := 29) rfl rfl h28 (W.no (dj := 29) rfl rfl h28 (W.yes (dj := 26) rfl rfl h25 (W.ok (ok_pick_t rfl h28) (W.ok (ok_pick_t rfl h25) (W.nil (thn_n (WC.cond_t rfl rfl ?_))))))))))))))
    refine WC.region (W.mv (W.as (W.nil (blk_n (thn_n (WC.region (W.mv (W.ok (ok_add rfl rfl (by omega)) (W.as (W.nil (thn_n ?_)))))))))))
    exact ⟨Le.rfl, ((j + 1, (j : Int)) : Nat × Int), ⟨eqv, eqv, eqv, eqv, eqv, trivial⟩, ⟨rfl, by dsimp only; omega, BI_first hbi p28 (by omega) (by rw [curN_atlen (by omega) (by omega)]; omega)⟩, by dsimp only; omega⟩
   have p28 := of_decide_eq_false h28
   try dsimp only at p28
   obtain ⟨b, hbC, rfl, hbj, hbn⟩ := BI_best hbi p28
   have hpb : (nats ps)[b]'(by simp; omega) = ((ps[b]'(by omega) : Nat) : Int) := by simp
   rw [curN_atlen (by omega) (by omega)] at hbn
   refine W.yes (dj := 29) rfl rfl h28 (W.mv (W.yes (dj := 29) rfl rfl h28 (W.mv (W.yes (dj := 29) rfl rfl h28 ?_))))
   have q17 := (h_ls.mono (hG4.trans hG5)).at (i := j) (by omega)
   refine match q17 with | ⟨_, he14, ⟨_, e_16, hs15⟩⟩ => ?_
   subst e_16
   obtain ⟨sa_hs15, sc_hs15, rfl⟩ := hs15.form
   refine W.ok (ok_indexAddr (i := j) sl187 ty45 (h_ls.mono (hG4.trans hG5)) rfl rfl ⟨by omega, by omega⟩) (W.yes (dj := 29) rfl rfl h28 (W.ok (ok_loadE (vs := [.slice _ _ _]) ty45 he14 rfl rfl rfl (by simp)) (W.yes (dj := 29) rfl rfl h28 (W.mv (W.yes (dj := 29) rfl rfl h28 (W.mv (W.yes (dj := 29) rfl rfl h28 ?_)))))))
   have q21 := (ho_3.mono hG5).at (i := j) (by omega)
   refine match q21 with | ⟨_, he18, ⟨e_20, hi19⟩⟩ => ?_
   subst e_20
   refine W.ok (ok_indexAddrO (i := j) sl44 ty3 (ho_3.mono hG5) rfl rfl ⟨by omega, by omega⟩) (W.yes (dj := 29) rfl rfl h28 (W.ok (ok_loadO (vs := [.int .i64 _]) ty3 he18 pr9 rfl rfl rfl (by simp)) (W.yes (dj := 29) rfl rfl h28 ?_)))
   have q26 := hs15.at (i := ps[j]) (by omega)
   refine match q26 with | ⟨_, he22, ⟨e_25, hm23⟩⟩ => ?_
   subst e_25
   refine W.ok (ok_indexAddr (i := ps[j]) sl45 ty49 hs15 rfl rfl ⟨by omega, by omega⟩) (W.yes (dj := 29) rfl rfl h28 (W.ok (ok_fieldE fd49_0 rfl he22.form) (W.yes (dj := 29) rfl rfl h28 (W.ok (ok_loadE (vs := [.int .i64 _]) ty3 he22 rfl rfl rfl (by simp)) (W.yes (dj := 29) rfl rfl h28 (W.mv (W.yes (dj := 29) rfl rfl h28 (W.mv (W.yes (dj := 29) rfl rfl h28 ?_)))))))))
   have q30 := (h_ls.mono (hG4.trans hG5)).at (i := b) (by omega)
   refine match q30 with | ⟨_, he27, ⟨_, e_29, hs28⟩⟩ => ?_
   subst e_29
   obtain ⟨sa_hs28, sc_hs28, rfl⟩ := hs28.form
   refine W.ok (ok_indexAddr (i := b) sl187 ty45 (h_ls.mono (hG4.trans hG5)) rfl rfl ⟨by omega, by omega⟩) (W.yes (dj := 29) rfl rfl h28 (W.ok (ok_loadE (vs := [.slice _ _ _]) ty45 he27 rfl rfl rfl (by simp)) (W.yes (dj := 29) rfl rfl h28 (W.mv (W.yes (dj := 29) rfl rfl h28 (W.mv (W.yes (dj := 29) rfl rfl h28 ?_)))))))
   have q34 := (ho_3.mono hG5).at (i := b) (by omega)
   refine match q34 with | ⟨_, he31, ⟨e_33, hi32⟩⟩ => ?_
   subst e_33
   refine W.ok (ok_indexAddrO (i := b) sl44 ty3 (ho_3.mono hG5) rfl rfl ⟨by omega, by omega⟩) (W.yes (dj := 29) rfl rfl h28 (W.ok (ok_loadO (vs := [.int .i64 _]) ty3 he31 pr9 rfl rfl rfl (by simp)) (W.yes (dj := 29) rfl rfl h28 ?_)))
   have q39 := hs28.at (i := ps[b]) (by omega)
   refine match q39 with | ⟨_, he35, ⟨e_38, hm36⟩⟩ => ?_
   subst e_38
   refine W.ok (ok_indexAddr (i := ps[b]) sl45 ty49 hs28 rfl rfl ⟨by omega, by omega⟩) (W.yes (dj := 29) rfl rfl h28 (W.ok (ok_fieldE fd49_0 rfl he35.form) (W.yes (dj := 29) rfl rfl h28 (W.ok (ok_loadE (vs := [.int .i64 _]) ty3 he35 rfl rfl rfl (by simp)) (W.yes (dj := 29) rfl rfl h28 (W.ok (ok_lss rfl rfl) (W.yes (dj := 26) rfl rfl h25 (W.ok (ok_pick_f rfl h28) (W.ok (ok_pick_t rfl h25) (W.nil (thn_n ?_)))))))))))
   refine WC.cond (b := _) rfl (fun h52 => ?_) (fun h52 => ?_)
   ·have p52 := of_decide_eq_true h52
    try dsimp only at p52
    refine WC.region (W.mv (W.as (W.nil (blk_n (thn_n (WC.region (W.mv (W.ok (ok_add rfl rfl (by omega)) (W.as (W.nil (thn_n ?_)))))))))))
    exact ⟨Le.rfl, ((j + 1, (j : Int)) : Nat × Int), ⟨eqv, eqv, eqv, eqv, eqv, trivial⟩, ⟨rfl, by dsimp only; omega, BI_less hbi (by omega) (by omega) (by rw [curN_atlen (by omega) (by omega)]; omega) (by rw [curN_st (by omega) (by omega) (by omega) (by omega), curN_st (by omega) (by omega) (by omega) (by omega)]; exact p52)⟩, by dsimp only; omega⟩
   have p52 := of_decide_eq_false h52
   try dsimp only at p52
   refine WC.skip (blk_n (thn_n (WC.region (W.mv (W.ok (ok_add rfl rfl (by omega)) (W.as (W.nil (thn_n ?_))))))))
   exact ⟨Le.rfl, ((j + 1, (b : Int)) : Nat × Int), ⟨eqv, eqv, eqv, eqv, eqv, trivial⟩, ⟨rfl, by dsimp only; omega, BI_keep hbi (by omega) (by omega) (by rw [curN_st (by omega) (by omega) (by omega) (by omega), curN_st (by omega) (by omega) (by omega) (by omega)]; exact p52)⟩, by dsimp only; omega⟩
  have p25 := of_decide_eq_false h25
  try dsimp only at p25
  have hpj : (nats ps)[j]'(by omega) = ((ps[j]'(by omega) : Nat) : Int) := by simp
  refine W.no (dj := 26) rfl rfl h25 (W.no (dj := 26) rfl rfl h25 (W.no (dj := 26) rfl rfl h25 (W.nou (dj := 29) rfl rfl (W.nou (dj := 29) rfl rfl (W.nou (dj := 29) rfl rfl (W.nou (dj := 29) rfl rfl (W.nou (dj := 29) rfl rfl (W.nou (dj := 29) rfl rfl (W.nou (dj := 29) rfl rfl (W.nou (dj := 29) rfl rfl (W.nou (dj := 29) rfl rfl (W.nou (dj := 29) rfl rfl (W.nou (dj := 29) rfl rfl ?_)))))))))))))
  refine W.nou (dj := 29) rfl rfl (W.nou (dj := 29) rfl rfl (W.nou (dj := 29) rfl rfl (W.nou (dj := 29) rfl rfl (W.nou (dj := 29) rfl rfl (W.nou (dj := 29) rfl rfl (W.nou (dj := 29) rfl rfl (W.nou (dj := 29) rfl rfl (W.nou (dj := 29) rfl rfl (W.nou (dj := 29) rfl rfl (W.nou (dj := 29) rfl rfl (W.nou (dj := 29) rfl rfl (W.no (dj := 26) rfl rfl h25 (W.ok (ok_pick_f rfl h25) ?_)))))))))))))
  refine W.nil (thn_n (WC.cond_f rfl rfl (WC.skip (blk_n (thn_n (WC.region (W.mv (W.ok (ok_add rfl rfl (by omega)) (W.as (W.nil (thn_n ?_)))))))))))
  exact ⟨Le.rfl, ((j + 1, c) : Nat × Int), ⟨eqv, eqv, eqv, eqv, eqv, trivial⟩, ⟨rfl, by dsimp only; omega, BI_skip hbi (by omega) (by rw [curN_atlen (by omega) (by omega)]; omega)⟩, by dsimp only; omega⟩
 have p13 := of_decide_eq_false h13
 try dsimp only at p13
 refine WC.exit (thn_x (thn_x (blk_h (thn_n (WC.seq (WC.seq (WC.region (W.mv (W.ok (ok_lss rfl rfl) (W.nil (thn_n ?_)))))))))))
 refine WC.cond (b := _) rfl (fun h57 => ?_) (fun h57 => ?_)
 ·have p57 := of_decide_eq_true h57
  try dsimp only at p57
  refine WC.seq (WC.region (W.mv (W.as (W.nil (thn_n (WC.giveO (ho_4.mono hG5) (pmA pr9) (fun G40 hG40 hv40 => (WC.ret (thn_r (blk_r (thn_r (blk_r ?_))))))))))))
  refine ⟨.inr rfl, [_], ⟨rfl, trivial⟩, [], sn9, ?_⟩
  refine ⟨rfl, _, rfl, ?_⟩
  · exact SlR.cast hv40 (by rw [← hm, BI_end hbi (by omega) p57, List.append_nil])
 have p57 := of_decide_eq_false h57
 try dsimp only at p57
 obtain ⟨b, hbC, rfl, hbj, hbn⟩ := BI_best hbi p57
 have hpb : (nats ps)[b]'(by simp; omega) = ((ps[b]'(by omega) : Nat) : Int) := by simp
 rw [curN_atlen (by omega) (by omega)] at hbn
 have hlb := len_tot (ls := ls) (i := b) (by omega)
 have hB : Best (curN ls ps) b := BI_done hbi (by omega)
 refine WC.skip (thn_n (WC.seq (WC.drawW _ sn9 mix (by rintro _ _ _ _ ⟨h | h, _⟩ <;> cases h) (WD.tk 0 rfl (ok_mv) (WD.tk 1 rfl (ok_mv) (WD.tk 2 rfl (ok_mv) ?_))))))
 have q44 := (h_ls.mono (hG4.trans hG5)).at (i := b) (by omega)
 refine match q44 with | ⟨_, he41, ⟨_, e_43, hs42⟩⟩ => ?_
 subst e_43
 obtain ⟨sa_hs42, sc_hs42, rfl⟩ := hs42.form
 refine WD.tk 3 rfl (ok_indexAddr (i := b) sl187 ty45 (h_ls.mono (hG4.trans hG5)) rfl rfl ⟨by omega, by omega⟩) (WD.tk 4 rfl (ok_loadE (vs := [.slice _ _ _]) ty45 he41 rfl rfl rfl (by simp)) (WD.tk 5 rfl (ok_mv) (WD.tk 6 rfl (ok_mv) ?_)))
 have q48 := (ho_3.mono hG5).at (i := b) (by omega)
 refine match q48 with | ⟨_, he45, ⟨e_47, hi46⟩⟩ => ?_
 subst e_47
 refine WD.tk 7 rfl (ok_indexAddrO (i := b) sl44 ty3 (ho_3.mono hG5) rfl rfl ⟨by omega, by omega⟩) (WD.a1 8 rfl (W.ok (ok_loadO (vs := [.int .i64 _]) ty3 he45 pr9 rfl rfl rfl (by simp)) (W.nil (WD.n9 Le.rfl sn9 ?_))))
 have q53 := hs42.at (i := ps[b]) (by omega)
 refine match q53 with | ⟨_, he49, ⟨e_52, hm50⟩⟩ => ?_
 subst e_52
 refine WD.tk 9 rfl (ok_indexAddr (i := ps[b]) sl45 ty49 hs42 rfl rfl ⟨by omega, by omega⟩) (WD.tk 10 rfl (ok_loadE (vs := [.int .i64 _, .int .i64 _, .string _, .string _, .bool _, .string _]) ty49 he49 rfl rfl rfl (by simp)) (WD.a1 11 rfl (W.lit (e := eMsg) (l := [(((ls[b]))[ps[b]])]) (css := [[.int .i64 _, .int .i64 _, .string _, .string _, .bool _, .string _]]) sl45 ty49 zr49 rfl rfl rfl rfl rfl rfl ⟨⟨rfl, hm50⟩, trivial⟩ (fun bl54 G54 hG54 hv54 => (W.nil (WD.n9 hG54 sn9 (WD.a1 12 rfl (W.app (e := eMsg) sl45 ty49 zr49 rfl by49 rfl rfl ((ho_4.mono (hG5.trans hG54))) (hv54) (pmA pr9) (by show (_ + 1) * 72 ≤ _; omega) (fun v55 Ms56 ho57 => (W.nil (WD.n9 Le.rfl sn9 (WD.tk 13 rfl (ok_as) (WD.done (by kernel_rfl) (thn_n (WC.region (W.mv (W.mv ?_)))))))))))))))))
 have q61 := (ho_3.mono (hG5.trans hG54)).at (i := b) (by omega)
 refine match q61 with | ⟨_, he58, ⟨e_60, hi59⟩⟩ => ?_
 subst e_60
 refine W.ok (ok_indexAddrO (i := b) sl44 ty3 (ho_3.mono (hG5.trans hG54)) rfl rfl ⟨by omega, by omega⟩) (W.ok (ok_loadO (vs := [.int .i64 _]) ty3 he58 (pmA pr9) rfl rfl rfl (by simp)) (W.ok (Ok.int (n := ((ps[b] + 1 : Nat) : Int)) (ok_add rfl rfl (by omega)) (by omega)) ?_))
 have q65 := (ho_3.mono (hG5.trans hG54)).at (i := b) (by omega)
 refine match q65 with | ⟨_, he62, ⟨e_64, hi63⟩⟩ => ?_
 subst e_64
 refine W.ok (ok_indexAddrO (i := b) sl44 ty3 (ho_3.mono (hG5.trans hG54)) rfl rfl ⟨by omega, by omega⟩) (W.storeO (i := b) (o := 0) (vs := [.int .i64 _]) (a' := ((ps[b] + 1 : Nat) : Int)) ty3 rfl rfl rfl rfl rfl ((ho_3.mono (hG5.trans hG54))) (pmA pr9) (by omega) (by decide) (fun cs h => by rw [h.1]; exact ⟨rfl, by omega, by omega⟩) (fun Ms66 ho67 => (W.nil (blk_n (thn_n ?_)))))
 exact ⟨(hG5.trans hG54), (((ps.set b (ps[b] + 1), out ++ [(ls[b])[ps[b]]]) : List Nat × List Msg), v_3, Ms66, v55, Ms56), ⟨eqv, eqv, eqv, trivial⟩, ⟨rfl, (by have h := ho67; rw [show ((nats ps).set b ((ps[b] + 1 : Nat) : Int)) = nats (ps.set b (ps[b] + 1)) from (List.map_set ..).symm] at h; exact h), (by exact ho57), by dsimp only; rw [List.length_set]; exact hpl, by dsimp only; rw [← hm, merge_step hB, curN_set hpl (by omega) (by omega), curN_hd (by omega) (by omega) (by omega) (by omega), List.append_assoc]; rfl⟩, by dsimp only; rw [← curN_set hpl (by omega) (by omega) (by omega)]; have := totN_set hB; omega⟩

end Go.Proofs.YtebkfinhhpelbaaGreat
namespace Go.Proofs.YtebkfinhhpelbaaGreat
open Go Go.Fw Go.RowKit
theorem rclips_fc {G : GH} {v_l : Value} {l : List Msg} (h_l : SlR eMsg G v_l l) (alo : Str) (ahi : Str) (ao : Bool) (hks : ∀ m ∈ l, m.key.b.size < 140737488355328) :
    Fc Tryz.prog 130 [v_l, .agg #[.string alo.b, .string ahi.b, .bool ao]] G [] (fun v G' M' => M' = [] ∧ ∃ u0, v = u0 ∧ SlR eMsg G' u0 (clips ⟨alo, ahi, ao⟩ l)) := by
 obtain ⟨sa_l, sc_l, rfl⟩ := h_l.form
 have hl := h_l.len47
 have hlb : l.length * 72 ≤ 140737488355328 := h_l.bytes
 refine Fc.intro (rs := [.tmp 4]) cl130 Tryz.func130 rfl Tryz.ntmps130 rfl rfl (fun w0 => ?_)
 refine WC.seq (WC.region (W.box (L := [.string _, .string _, .bool _]) rfl rfl (fun b1 => (W.as (W.nil (thn_n (WC.seq (WC.region (W.as (W.nil (thn_n (WC.seq (WC.seq (WC.region (W.as (W.nil (thn_n ?_)))))))))))))))))
 refine WC.block ?_
 refine WC.loop (X := (Nat) × Value × MH) (fun i => [(6, .int .i64 ((i.1 : Nat) : Int)), (3, .pointer (some ⟨b1, 0, none⟩)), (0, .slice sa_l l.length sc_l), (5, i.2.1)]) (fun i G Ml => Ml = ((b1, .cells (List.toArray [.string alo.b, .string ahi.b, .bool ao]) 52 (0, 0)) :: (i.2.2 ++ [])) ∧ OwnR eMsg 49 G i.2.1 (clips ⟨alo, ahi, ao⟩ (l.take i.1)) i.2.2 ∧ i.1 ≤ l.length) (fun i => l.length - i.1) (0, .slice none 0 0, ([] : MH)) ⟨eqv, eqv, eqv, eqv, trivial⟩ ?_ ?_
 ·exact ⟨rfl, (by exact OwnR.nil), by omega⟩
 rintro ⟨i, v_5, M_5⟩ gG2 G2 _ hG2 ⟨rfl, ho_5, hi⟩
 try dsimp only at ho_5 hi
 have hcl := clips_le (s := ⟨alo, ahi, ao⟩) (l := l.take i)
 have htl : (l.take i).length ≤ i := by simp; omega
 refine WC.fr (f := setL gG2 [(6, .int .i64 ((i : Nat) : Int)), (3, .pointer (some ⟨b1, 0, none⟩)), (0, .slice sa_l l.length sc_l), (5, v_5)]) rfl (WC.seq (WC.seq (WC.region (W.mv (W.mv (W.ok (ok_len sl45 (h_l.mono hG2) rfl) (W.ok (ok_lss rfl rfl) (W.nil (thn_n ?_)))))))))
 refine WC.cond (b := _) rfl (fun h12 => ?_) (fun h12 => ?_)
 ·have p12 := of_decide_eq_true h12
  refine WC.skip (thn_n (WC.seq (WC.block (WC.seq (WC.drawW _ sr9.k9 mix (by rintro _ _ _ _ ⟨h | h, _⟩ <;> cases h) (WD.tk 0 rfl (ok_mv) (WD.tk 1 rfl (ok_mv) ?_)))))))
  have q7 := (h_l.mono hG2).at (i := i) (by omega)
  refine match q7 with | ⟨_, he3, ⟨e_6, hm4⟩⟩ => ?_
  subst e_6
  refine WD.tk 2 rfl (ok_indexAddr (i := i) sl45 ty49 (h_l.mono hG2) rfl rfl ⟨by omega, by omega⟩) (WD.tk 3 rfl (ok_loadE (vs := [.int .i64 _, .int .i64 _, .string _, .string _, .bool _, .string _]) ty49 he3 rfl rfl rfl (by simp)) (WD.tk 4 rfl (ok_loadB (i := 0) (vs := [.string _, .string _, .bool _]) ty52 rfl rfl rfl rfl (by simp)) ?_))
  refine WD.any [5, 9] (by kernel_rfl) rfl ⟨⟨_, rfl, rfl, ?_⟩, ⟨_, rfl, rfl, ?_⟩, trivial⟩
  ·refine W.qcall (rclip_fc _ _ _ _ _ _ _ _ _ (hks _ (List.getElem_mem _))) rfl (W.nil (WD.n9 Le.rfl sr9.k9 (WD.tk 6 rfl (ok_mv) (WD.tk 7 rfl (ok_extract rfl rfl) (WD.tk 8 rfl (ok_extract rfl rfl) (WD.a1 9 rfl (W.alloc zr49 (fun b8 => (W.nil (WD.n9 Le.rfl (sr9.k9.cons _) (WD.a1 10 rfl (W.store (i := 0) (vs := [.int .i64 _, .int .i64 _, .string _, .string _, .bool _, .string _]) (L' := [.int .i64 _, .int .i64 _, .string _, .string _, .bool _, .string _]) ty49 rfl rfl rfl rfl rfl rfl rfl rfl (W.nil (WD.n9 Le.rfl (sr9.k9.cons _) (WD.tk 11 rfl (ok_as) (WD.done (by kernel_rfl) (thn_n (WC.seq ?_))))))))))))))))))
   refine WC.region (W.mv (W.nil (thn_n ?_)))
   refine WC.cond (b := _) rfl (fun h21_1 => ?_) (fun h21_1 => ?_)
   ·refine WC.region (W.mv (W.ok (ok_loadB (i := 0) (vs := [.int .i64 _, .int .i64 _, .string _, .string _, .bool _, .string _]) ty49 rfl rfl rfl rfl (by simp)) (W.lit (e := eMsg) (l := [(Msg.clip l[i] ⟨alo, ahi, ao⟩).1]) (css := [[.int .i64 _, .int .i64 _, .string _, .string _, .bool _, .string _]]) sl45 ty49 zr49 rfl rfl rfl rfl rfl rfl ⟨⟨rfl, clip_ok (by assumption)⟩, trivial⟩ (fun bl9 G9 hG9 hv9 => (W.app (e := eMsg) sl45 ty49 zr49 rfl by49 rfl rfl ((ho_5.mono hG9)) (hv9) (pmC (pmC pr9)) (by show ((clips ⟨alo, ahi, ao⟩ (l.take i)).length + 1) * 72 ≤ _; omega) (fun v10 Ms11 ho12 => (W.perm (pmC (pmC pr9)).symm (W.as (W.nil (blk_n (thn_n (WC.region (W.mv (W.ok (ok_add rfl rfl (by omega)) (W.as (W.sub (sr9.cons _) (W.nil (thn_n ?_))))))))))))))))))
    exact ⟨hG9, (i + 1, v10, Ms11), ⟨eqv, eqv, eqv, eqv, trivial⟩, ⟨rfl, (by have h := ho12; rw [clips_t (by omega) h21_1]; exact h), by omega⟩, by omega⟩
   refine WC.skip (blk_n (thn_n (WC.region (W.mv (W.ok (ok_add rfl rfl (by omega)) (W.as (W.sub (sr9.cons _) (W.nil (thn_n ?_)))))))))
   exact ⟨Le.rfl, (i + 1, v_5, M_5), ⟨eqv, eqv, eqv, eqv, trivial⟩, ⟨rfl, (by have h := ho_5; rw [clips_f (by omega) h21_1]; exact h), by omega⟩, by omega⟩
  refine W.alloc zr49 (fun b13 => (W.nil (WD.n9 Le.rfl (sr9.k9.cons _) (WD.a1 5 rfl (W.qcall (rclip_fc _ _ _ _ _ _ _ _ _ (hks _ (List.getElem_mem _))) rfl (W.nil (WD.n9 Le.rfl (sr9.k9.cons _) (WD.tk 6 rfl (ok_mv) (WD.tk 7 rfl (ok_extract rfl rfl) (WD.tk 8 rfl (ok_extract rfl rfl) (WD.a1 10 rfl (W.store (i := 0) (vs := [.int .i64 _, .int .i64 _, .string _, .string _, .bool _, .string _]) (L' := [.int .i64 _, .int .i64 _, .string _, .string _, .bool _, .string _]) ty49 rfl rfl rfl rfl rfl rfl rfl rfl (W.nil (WD.n9 Le.rfl (sr9.k9.cons _) (WD.tk 11 rfl (ok_as) (WD.done (by kernel_rfl) (thn_n (WC.seq ?_))))))))))))))))))
  refine WC.region (W.mv (W.nil (thn_n ?_)))
  refine WC.cond (b := _) rfl (fun h21_1 => ?_) (fun h21_1 => ?_)
  ·refine WC.region (W.mv (W.ok (ok_loadB (i := 0) (vs := [.int .i64 _, .int .i64 _, .string _, .string _, .bool _, .string _]) ty49 rfl rfl rfl rfl (by simp)) (W.lit (e := eMsg) (l := [(Msg.clip l[i] ⟨alo, ahi, ao⟩).1]) (css := [[.int .i64 _, .int .i64 _, .string _, .string _, .bool _, .string _]]) sl45 ty49 zr49 rfl rfl rfl rfl rfl rfl ⟨⟨rfl, clip_ok (by assumption)⟩, trivial⟩ (fun bl14 G14 hG14 hv14 => (W.app (e := eMsg) sl45 ty49 zr49 rfl by49 rfl rfl ((ho_5.mono hG14)) (hv14) (pmC (pmC pr9)) (by show ((clips ⟨alo, ahi, ao⟩ (l.take i)).length + 1) * 72 ≤ _; omega) (fun v15 Ms16 ho17 => (W.perm (pmC (pmC pr9)).symm (W.as (W.nil (blk_n (thn_n (WC.region (W.mv (W.ok (ok_add rfl rfl (by omega)) (W.as (W.sub (sr9.cons _) (W.nil (thn_n ?_))))))))))))))))))
   exact ⟨hG14, (i + 1, v15, Ms16), ⟨eqv, eqv, eqv, eqv, trivial⟩, ⟨rfl, (by have h := ho17; rw [clips_t (by omega) h21_1]; exact h), by omega⟩, by omega⟩
  refine WC.skip (blk_n (thn_n (WC.region (W.mv (W.ok (ok_add rfl rfl (by omega)) (W.as (W.sub (sr9.cons _) (W.nil (thn_n ?_)))))))))
  exact ⟨Le.rfl, (i + 1, v_5, M_5), ⟨eqv, eqv, eqv, eqv, trivial⟩, ⟨rfl, (by have h := ho_5; rw [clips_f (by omega) h21_1]; exact h), by omega⟩, by omega⟩
 have p12 := of_decide_eq_false h12
 refine WC.exit (thn_x (thn_x (blk_h (thn_n (WC.seq (WC.region (W.mv (W.as (W.nil (thn_n (WC.giveO ho_5 (pmC pr9) (fun G18 hG18 hv18 => (WC.ret ?_)))))))))))))
 refine ⟨.inr rfl, [_], ⟨rfl, trivial⟩, [], sn9, ?_⟩
 refine ⟨rfl, _, rfl, ?_⟩
 · have h := hv18; rw [List.take_of_length_le (by omega)] at h; exact h

theorem bclips_fc {G : GH} {v_l : Value} {l : List Msg} (h_l : SlR eMsg G v_l l) (alo : Str) (ahi : Str) (ao : Bool) (hks : ∀ m ∈ l, m.key.b.size < 140737488355328) :
    Fc Tryz.prog 74 [v_l, .agg #[.string alo.b, .string ahi.b, .bool ao]] G [] (fun v G' M' => M' = [] ∧ ∃ u0, v = u0 ∧ SlR eMsg G' u0 (clips ⟨alo, ahi, ao⟩ l)) := by
 obtain ⟨sa_l, sc_l, rfl⟩ := h_l.form
 have hl := h_l.len47
 have hlb : l.length * 72 ≤ 140737488355328 := h_l.bytes
 refine Fc.intro (rs := [.tmp 4]) cl74 Tryz.func74 rfl Tryz.ntmps74 rfl rfl (fun w0 => ?_)
 refine WC.seq (WC.region (W.box (L := [.string _, .string _, .bool _]) rfl rfl (fun b19 => (W.as (W.nil (thn_n (WC.seq (WC.region (W.as (W.nil (thn_n (WC.seq (WC.seq (WC.region (W.mv (W.ok (ok_len sl45 h_l rfl) ?_))))))))))))))))
 refine W.mv (W.nil (thn_n (WC.block ?_)))
 refine WC.loop (X := (Nat) × Value × MH) (fun i => [(10, .slice sa_l l.length sc_l), (11, .int .i64 ((l.length : Nat) : Int)), (12, .int .i64 ((i.1 : Nat) : Int)), (3, .pointer (some ⟨b19, 0, none⟩)), (5, i.2.1)]) (fun i G Ml => Ml = ((b19, .cells (List.toArray [.string alo.b, .string ahi.b, .bool ao]) 52 (0, 0)) :: (i.2.2 ++ [])) ∧ OwnR eMsg 49 G i.2.1 (clips ⟨alo, ahi, ao⟩ (l.take i.1)) i.2.2 ∧ i.1 ≤ l.length) (fun i => l.length - i.1) (0, .slice none 0 0, ([] : MH)) ⟨eqv, eqv, eqv, eqv, eqv, trivial⟩ ?_ ?_
 ·exact ⟨rfl, (by exact OwnR.nil), by omega⟩
 rintro ⟨i, v_5, M_5⟩ gG20 G20 _ hG20 ⟨rfl, ho_5, hi⟩
 try dsimp only at ho_5 hi
 have hcl := clips_le (s := ⟨alo, ahi, ao⟩) (l := l.take i)
 have htl : (l.take i).length ≤ i := by simp; omega
 refine WC.fr (f := setL gG20 [(10, .slice sa_l l.length sc_l), (11, .int .i64 ((l.length : Nat) : Int)), (12, .int .i64 ((i : Nat) : Int)), (3, .pointer (some ⟨b19, 0, none⟩)), (5, v_5)]) rfl (WC.seq (WC.region (W.ok (ok_lss rfl rfl) (W.nil (thn_n (WC.seq ?_))))))
 refine WC.cond (b := _) rfl (fun h13 => ?_) (fun h13 => ?_)
 ·have p13 := of_decide_eq_true h13
  refine WC.skip (thn_n (WC.seq (WC.block (WC.seq (WC.region ?_)))))
  have q25 := (h_l.mono hG20).at (i := i) (by omega)
  refine match q25 with | ⟨_, he21, ⟨e_24, hm22⟩⟩ => ?_
  subst e_24
  refine W.ok (ok_indexAddr (i := i) sl45 ty49 (h_l.mono hG20) rfl rfl ⟨by omega, by omega⟩) (W.ok (ok_loadE (vs := [.int .i64 _, .int .i64 _, .string _, .string _, .bool _, .string _]) ty49 he21 rfl rfl rfl (by simp)) (W.alloc zr49 (fun b26 => (W.store (i := 0) (vs := [.int .i64 _, .int .i64 _, .string _, .string _, .bool _, .string _]) (L' := [.int .i64 _, .int .i64 _, .string _, .string _, .bool _, .string _]) ty49 rfl rfl rfl rfl rfl rfl rfl rfl (W.nil (thn_n (WC.seq (WC.region (W.ok (ok_loadB (i := 0) (vs := [.int .i64 _, .int .i64 _, .string _, .string _, .bool _, .string _]) ty49 rfl rfl rfl rfl (by simp)) (W.ok (ok_loadB (i := 1) (vs := [.string _, .string _, .bool _]) ty52 rfl rfl rfl rfl (by simp)) (W.qcall (mclip_fc _ _ _ _ _ _ _ _ _ (hks _ (List.getElem_mem _))) rfl (W.mv (W.ok (ok_extract rfl rfl) (W.ok (ok_extract rfl rfl) (W.alloc zr49 (fun b27 => ?_))))))))))))))))
  refine W.store (i := 0) (vs := [.int .i64 _, .int .i64 _, .string _, .string _, .bool _, .string _]) (L' := [.int .i64 _, .int .i64 _, .string _, .string _, .bool _, .string _]) ty49 rfl rfl rfl rfl rfl rfl rfl rfl (W.as (W.nil (thn_n (WC.seq (WC.region (W.mv (W.nil (thn_n ?_))))))))
  refine WC.cond (b := _) rfl (fun h19_1 => ?_) (fun h19_1 => ?_)
  ·refine WC.region (W.mv (W.ok (ok_loadB (i := 0) (vs := [.int .i64 _, .int .i64 _, .string _, .string _, .bool _, .string _]) ty49 rfl rfl rfl rfl (by simp)) (W.lit (e := eMsg) (l := [(Msg.clip l[i] ⟨alo, ahi, ao⟩).1]) (css := [[.int .i64 _, .int .i64 _, .string _, .string _, .bool _, .string _]]) sl45 ty49 zr49 rfl rfl rfl rfl rfl rfl ⟨⟨rfl, clip_ok (by assumption)⟩, trivial⟩ (fun bl28 G28 hG28 hv28 => (W.app (e := eMsg) sl45 ty49 zr49 rfl by49 rfl rfl ((ho_5.mono hG28)) (hv28) (pmC (pmC (pmC pr9))) (by show ((clips ⟨alo, ahi, ao⟩ (l.take i)).length + 1) * 72 ≤ _; omega) (fun v29 Ms30 ho31 => (W.perm (pmC (pmC (pmC pr9))).symm (W.as (W.nil (blk_n (thn_n (WC.region (W.ok (ok_add rfl rfl (by omega)) (W.mv (W.sub ((sr9.cons _).cons _) (W.nil (thn_n ?_)))))))))))))))))
   exact ⟨hG28, (i + 1, v29, Ms30), ⟨eqv, eqv, eqv, eqv, eqv, trivial⟩, ⟨rfl, (by have h := ho31; rw [clips_t (by omega) h19_1]; exact h), by omega⟩, by omega⟩
  refine WC.skip (blk_n (thn_n (WC.region (W.ok (ok_add rfl rfl (by omega)) (W.mv (W.sub ((sr9.cons _).cons _) (W.nil (thn_n ?_))))))))
  exact ⟨Le.rfl, (i + 1, v_5, M_5), ⟨eqv, eqv, eqv, eqv, eqv, trivial⟩, ⟨rfl, (by have h := ho_5; rw [clips_f (by omega) h19_1]; exact h), by omega⟩, by omega⟩
 have p13 := of_decide_eq_false h13
 refine WC.exit (thn_x (thn_x (blk_h (thn_n (WC.seq (WC.region (W.mv (W.as (W.nil (thn_n (WC.giveO ho_5 (pmC pr9) (fun G32 hG32 hv32 => (WC.ret ?_)))))))))))))
 refine ⟨.inr rfl, [_], ⟨rfl, trivial⟩, [], sn9, ?_⟩
 refine ⟨rfl, _, rfl, ?_⟩
 · have h := hv32; rw [List.take_of_length_le (by omega)] at h; exact h

end Go.Proofs.YtebkfinhhpelbaaGreat
