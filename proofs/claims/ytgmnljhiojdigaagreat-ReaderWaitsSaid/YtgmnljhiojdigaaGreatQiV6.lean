/- The walk of the messages by their stamps, by definition. -/
import Derived.Test.YtgmnljhiojdigaaGreatQiU2
set_option maxRecDepth 100000
set_option maxHeartbeats 1600000
set_option linter.unusedVariables false
set_option linter.unusedSimpArgs false
set_option linter.unnecessarySimpa false
namespace Go.Proofs.YtgmnljhiojdigaaGreat
open Go Go.Fw Go.RowKit
attribute [local irreducible] Ok W WC
theorem rlists_fc {G : GH} {v_ls : Value} {ls : List (List Msg)} (h_ls : SlR (eSl eMsg) G v_ls ls) (ht : totN ls ≤ 100000000) (hln : ls.length ≤ 100000) :
    Fc Tryz.prog 41 [v_ls] G [] (fun v G' M' => M' = [] ∧ ∃ u0, v = u0 ∧ SlR eMsg G' u0 (mergeN ls)) := by
 obtain ⟨sa_ls, sc_ls, rfl⟩ := h_ls.form
 have hl := h_ls.len47
 refine Fc.go [.tmp 2] Tryz.func41 Tryz.ntmps41 rfl (fun w0 => (g9 9 ?_))
 refine W.mkSl (e := eInt) (a0 := (0 : Int)) (n := (ls).length) sl39 ty3 zr3 rfl by3 (⟨rfl, by decide, by decide⟩) rfl rfl (by first | (show _ * 8 ≤ 140737488355328; omega) | (show _ * 1 ≤ 16777216; omega)) (by first | (show _ * 8 ≤ 140737488355328; omega) | (show _ * 1 ≤ 16777216; omega)) (fun v1 Ms2 ho3 => (g9 9 ?_))
 refine WC.loop (X := (List Nat × List Msg) × Value × MH × Value × MH) (fun x => [(0, lV sa_ls ls.length sc_ls), (3, x.2.1), (4, x.2.2.2.1)]) (fun x G Ml => Ml = (x.2.2.1 ++ (x.2.2.2.2 ++ [])) ∧ OwnR eInt 3 G x.2.1 (nats x.1.1) x.2.2.1 ∧ OwnR eMsg 118 G x.2.2.2.1 (x.1.2) x.2.2.2.2 ∧ x.1.1.length = ls.length ∧ x.1.2 ++ mergeN (curN ls x.1.1) = mergeN ls) (fun x => totN (curN ls x.1.1)) (((List.replicate ls.length 0, []) : List Nat × List Msg), v1, Ms2, lV none 0 0, ([] : MH)) hs9 ?_ ?_
 ·exact ⟨rfl, (by simpa [nats] using ho3), (by simpa using OwnR.nil), by simp, by rw [curN_zero]; rfl⟩
 rintro ⟨⟨ps, out⟩, v_3, M_3, v_4, M_4⟩ gG4 G4 _ hG4 ⟨rfl, ho_3, ho_4, hpl, hm⟩
 try dsimp only at ho_3 ho_4 hpl hm
 have hcl := curN_len hpl
 have hml := congrArg List.length hm
 rw [List.length_append] at hml
 have hml2 := merge_len ls
 have hnl : (nats ps).length = ps.length := List.length_map ..
 refine WC.fr (f := setL gG4 [(0, lV sa_ls ls.length sc_ls), (3, v_3), (4, v_4)]) rfl (g9 13 ?_)
 refine WC.loop (X := Nat × Int) (fun y => [(5, iV y.2), (6, nt9 y.1), (3, v_3), (4, v_4), (0, lV sa_ls ls.length sc_ls)]) (fun y _ Ml => Ml = (M_3 ++ (M_4 ++ [])) ∧ y.1 ≤ ls.length ∧ BI (curN ls ps) y.1 y.2) (fun y => ls.length - y.1) ((0, -1) : Nat × Int) hs9 ?_ ?_
 ·exact ⟨rfl, Nat.zero_le _, BI_nil _⟩
 rintro ⟨j, c⟩ gG5 G5 _ hG5 ⟨rfl, hj, hbi⟩
 dsimp only at hj hbi
 refine WC.fr (f := setL gG5 [(5, iV c), (6, nt9 j), (3, v_3), (4, v_4), (0, lV sa_ls ls.length sc_ls)]) rfl (g9 9 ?_)
 refine WC.cd (fun h13 p13 => ?_) (fun h13 p13 => ?_)
 ·try dsimp only at p13
  refine g9 8 ?_
  refine (ho_3.mono hG5).a2 (i := j) om9 (fun he6 hi7 => (W.ok (ok_indexAddrO (i := j) sl39 ty3 (ho_3.mono hG5) rfl rfl ⟨om9, om9⟩) (W.ok (ok_loadO (vs := ic9) ty3 he6 pr9 rfl rfl rfl (by simp)) (g9 2 ?_))))
  have q13 := (h_ls.mono (hG4.trans hG5)).at (i := j) om9
  refine match q13 with | ⟨_, he10, ⟨_, e_12, hs11⟩⟩ => ?_
  subst e_12
  obtain ⟨sa_hs11, sc_hs11, rfl⟩ := hs11.form
  refine g9 5 ?_
  refine W.sd 26 (fun h25 p25 => ?_) (fun h25 p25 => ?_)
  ·try dsimp only at p25
   have hpj : (nats ps)[j]'om9 = ((ps[j]'om9 : Nat) : Int) := by simp
   refine g9 6 ?_
   refine W.sd 29 (fun h28 p28 => ?_) (fun h28 p28 => ?_)
   ·try dsimp only at p28
    refine g9 41 ?_
    exact ⟨Le.rfl, ((j + 1, (j : Int)) : Nat × Int), hs9, ⟨rfl, by dsimp only; omega, BI_first hbi p28 om9 (by rw [curN_atlen om9 om9]; omega)⟩, by dsimp only; omega⟩
   try dsimp only at p28
   obtain ⟨b, hbC, rfl, hbj, hbn⟩ := BI_best hbi p28
   have hpb : (nats ps)[b]'(by simp; omega) = ((ps[b]'om9 : Nat) : Int) := by simp
   rw [curN_atlen om9 om9] at hbn
   refine g9 5 ?_
   have q17 := (h_ls.mono (hG4.trans hG5)).at (i := j) om9
   refine match q17 with | ⟨_, he14, ⟨_, e_16, hs15⟩⟩ => ?_
   subst e_16
   obtain ⟨sa_hs15, sc_hs15, rfl⟩ := hs15.form
   refine g9 8 ?_
   refine (ho_3.mono hG5).a2 (i := j) om9 (fun he18 hi19 => (W.ok (ok_indexAddrO (i := j) sl39 ty3 (ho_3.mono hG5) rfl rfl ⟨om9, om9⟩) (g9 1 ?_)))
   refine W.ok (ok_loadO (vs := ic9) ty3 he18 pr9 rfl rfl rfl (by simp)) (g9 1 ?_)
   refine hs15.a2 (i := ps[j]) om9 (fun he22 hm23 => (W.ok (ok_indexAddr (i := ps[j]) sl40 ty118 hs15 rfl rfl ⟨om9, om9⟩) (g9 9 ?_)))
   have q30 := (h_ls.mono (hG4.trans hG5)).at (i := b) om9
   refine match q30 with | ⟨_, he27, ⟨_, e_29, hs28⟩⟩ => ?_
   subst e_29
   obtain ⟨sa_hs28, sc_hs28, rfl⟩ := hs28.form
   refine g9 8 ?_
   refine (ho_3.mono hG5).a2 (i := b) om9 (fun he31 hi32 => (W.ok (ok_indexAddrO (i := b) sl39 ty3 (ho_3.mono hG5) rfl rfl ⟨om9, om9⟩) (g9 1 ?_)))
   refine W.ok (ok_loadO (vs := ic9) ty3 he31 pr9 rfl rfl rfl (by simp)) (g9 1 ?_)
   refine hs28.a2 (i := ps[b]) om9 (fun he35 hm36 => (W.ok (ok_indexAddr (i := ps[b]) sl40 ty118 hs28 rfl rfl ⟨om9, om9⟩) (g9 11 ?_)))
   refine WC.cd (fun h52 p52 => ?_) (fun h52 p52 => ?_)
   ·try dsimp only at p52
    refine g9 12 ?_
    exact ⟨Le.rfl, ((j + 1, (j : Int)) : Nat × Int), hs9, ⟨rfl, by dsimp only; omega, BI_less hbi om9 om9 (by rw [curN_atlen om9 om9]; omega) (by rw [curN_st om9 om9 om9 om9, curN_st om9 om9 om9 om9]; exact p52)⟩, by dsimp only; omega⟩
   try dsimp only at p52
   refine g9 9 ?_
   exact ⟨Le.rfl, ((j + 1, (b : Int)) : Nat × Int), hs9, ⟨rfl, by dsimp only; omega, BI_keep hbi om9 om9 (by rw [curN_st om9 om9 om9 om9, curN_st om9 om9 om9 om9]; exact p52)⟩, by dsimp only; omega⟩
  try dsimp only at p25
  have hpj : (nats ps)[j]'om9 = ((ps[j]'om9 : Nat) : Int) := by simp
  refine g9 40 ?_
  exact ⟨Le.rfl, ((j + 1, c) : Nat × Int), hs9, ⟨rfl, by dsimp only; omega, BI_skip hbi om9 (by rw [curN_atlen om9 om9]; omega)⟩, by dsimp only; omega⟩
 try dsimp only at p13
 refine g9 12 ?_
 refine WC.cd (fun h57 p57 => ?_) (fun h57 p57 => ?_)
 ·try dsimp only at p57
  refine g9 6 ?_
  refine WC.giveO (ho_4.mono hG5) (pmA pr9) (fun G40 hG40 hv40 => (g9 6 ?_))
  refine ⟨rfl, _, rfl, ?_⟩
  · exact SlR.cast hv40 (by rw [← hm, BI_end hbi om9 p57, List.append_nil])
 try dsimp only at p57
 obtain ⟨b, hbC, rfl, hbj, hbn⟩ := BI_best hbi p57
 have hpb : (nats ps)[b]'(by simp; omega) = ((ps[b]'om9 : Nat) : Int) := by simp
 rw [curN_atlen om9 om9] at hbn
 have hlb := len_tot (ls := ls) (i := b) om9
 have hB : Best (curN ls ps) b := BI_done hbi om9
 refine g9 3 ?_
 refine WC.dw sn9 (d9 [0, 1, 2] ?_)
 have q44 := (h_ls.mono (hG4.trans hG5)).at (i := b) om9
 refine match q44 with | ⟨_, he41, ⟨_, e_43, hs42⟩⟩ => ?_
 subst e_43
 obtain ⟨sa_hs42, sc_hs42, rfl⟩ := hs42.form
 refine d9 [3, 4, 5, 6] ?_
 refine (ho_3.mono hG5).a2 (i := b) om9 (fun he45 hi46 => (WD.tk 7 rfl (ok_indexAddrO (i := b) sl39 ty3 (ho_3.mono hG5) rfl rfl ⟨om9, om9⟩) (WD.a1 8 rfl (W.ok (ok_loadO (vs := ic9) ty3 he45 pr9 rfl rfl rfl (by simp)) (W.nn (hs42.a2 (i := ps[b]) om9 (fun he49 hm50 => (WD.tk 9 rfl (ok_indexAddr (i := ps[b]) sl40 ty118 hs42 rfl rfl ⟨om9, om9⟩) (d9 [10] ?_)))))))))
 refine WD.a1 11 rfl (W.lit (e := eMsg) (l := [(((ls[b]))[ps[b]])]) (css := [[iV _, iV _, sV _, sV _, .bool _, sV _]]) sl40 ty118 zr118 rfl rfl rfl rfl rfl rfl ⟨⟨rfl, hm50⟩, trivial⟩ (fun bl54 G54 hG54 hv54 => (W.nn (WD.a1 12 rfl (W.app (e := eMsg) sl40 ty118 zr118 rfl by118 rfl rfl ((ho_4.mono lec)) (hv54) (pmA pr9) (by show (_ + 1) * 72 ≤ _; omega) (fun v55 Ms56 ho57 => (W.nn (d9 [13] ?_))))))))
 refine g9 5 ?_
 refine (ho_3.mono (hG5.trans hG54)).a2 (i := b) om9 (fun he58 hi59 => (W.ok (ok_indexAddrO (i := b) sl39 ty3 (ho_3.mono lec) rfl rfl ⟨om9, om9⟩) (W.ok (ok_loadO (vs := ic9) ty3 he58 (pmA pr9) rfl rfl rfl (by simp)) (W.ok (Ok.int (n := ((ps[b] + 1 : Nat) : Int)) (ok_add rfl rfl om9) om9) ((ho_3.mono (hG5.trans hG54)).a2 (i := b) om9 (fun he62 hi63 => (W.ok (ok_indexAddrO (i := b) sl39 ty3 (ho_3.mono lec) rfl rfl ⟨om9, om9⟩) (W.storeO (i := b) (o := 0) (vs := ic9) (a' := ((ps[b] + 1 : Nat) : Int)) ty3 rfl rfl rfl rfl rfl ((ho_3.mono lec)) (pmA pr9) om9 (by decide) (fun cs h => by rw [h.1]; exact ⟨rfl, om9, om9⟩) (fun Ms66 ho67 => (g9 3 ?_))))))))))
 exact ⟨lec, (((ps.set b (ps[b] + 1), out ++ [(ls[b])[ps[b]]]) : List Nat × List Msg), v_3, Ms66, v55, Ms56), hs9, ⟨rfl, (by have h := ho67; rw [show ((nats ps).set b ((ps[b] + 1 : Nat) : Int)) = nats (ps.set b (ps[b] + 1)) from (List.map_set ..).symm] at h; exact h), (by exact ho57), by dsimp only; rw [List.length_set]; exact hpl, by dsimp only; rw [← hm, merge_step hB, curN_set hpl om9 om9, curN_hd om9 om9 om9 om9, List.append_assoc]; rfl⟩, by dsimp only; rw [← curN_set hpl om9 om9 om9]; have := totN_set hB; omega⟩

theorem rclips_fc {G : GH} {v_l : Value} {l : List Msg} (h_l : SlR eMsg G v_l l) (alo : Str) (ahi : Str) (ao : Bool) (hks : ∀ m ∈ l, m.key.b.size < 140737488355328) :
    Fc Tryz.prog 42 [v_l, .agg #[sV alo.b, sV ahi.b, .bool ao]] G [] (fun v G' M' => M' = [] ∧ ∃ u0, v = u0 ∧ SlR eMsg G' u0 (clips ⟨alo, ahi, ao⟩ l)) := by
 obtain ⟨sa_l, sc_l, rfl⟩ := h_l.form
 have hl := h_l.len47
 have hlb : l.length * 72 ≤ 140737488355328 := h_l.bytes
 refine Fc.go [.tmp 4] Tryz.func42 Tryz.ntmps42 rfl (fun w0 => (g9 2 ?_))
 refine W.box (L := [sV _, sV _, .bool _]) rfl rfl (fun b1 => (g9 15 ?_))
 refine WC.loop (X := (Nat) × Value × MH) (fun i => [(6, nt9 i.1), (3, pt9 b1), (0, lV sa_l l.length sc_l), (5, i.2.1)]) (fun i G Ml => Ml = ((b1, ce9 45 [sV alo.b, sV ahi.b, .bool ao]) :: (i.2.2 ++ [])) ∧ OwnR eMsg 118 G i.2.1 (clips ⟨alo, ahi, ao⟩ (l.take i.1)) i.2.2 ∧ i.1 ≤ l.length) (fun i => l.length - i.1) (0, lV none 0 0, ([] : MH)) hs9 ?_ ?_
 ·exact ⟨rfl, (by exact OwnR.nil), om9⟩
 rintro ⟨i, v_5, M_5⟩ gG2 G2 _ hG2 ⟨rfl, ho_5, hi⟩
 try dsimp only at ho_5 hi
 have hcl := clips_le (s := ⟨alo, ahi, ao⟩) (l := l.take i)
 have htl : (l.take i).length ≤ i := by simp; omega
 refine WC.fr (f := setL gG2 [(6, nt9 i), (3, pt9 b1), (0, lV sa_l l.length sc_l), (5, v_5)]) rfl (g9 9 ?_)
 refine WC.cd (fun h12 p12 => ?_) (fun h12 p12 => ?_)
 ·refine g9 5 ?_
  refine WC.dw sr9.k9 (d9 [0, 1] ?_)
  refine (h_l.mono hG2).a2 (i := i) om9 (fun he3 hm4 => (d9 [2, 3, 4] ?_))
  refine WD.any [5, 9] (by kernel_rfl) rfl ⟨WD.ap ?_, WD.ap ?_, trivial⟩
  ·refine W.qcall (rclip_fc _ _ _ _ _ _ _ _ _ (hks _ (List.getElem_mem _))) rfl (W.nn (d9 [6, 7, 8] ?_))
   refine WD.a1 9 rfl (W.alloc zr118 (fun b8 => (W.nn (d9 [10, 11] ?_))))
   refine g9 7 ?_
   refine WC.cond rfl (fun h21_1 => ?_) (fun h21_1 => ?_)
   ·refine g9 3 ?_
    refine W.lit (e := eMsg) (l := [(Msg.clip l[i] ⟨alo, ahi, ao⟩).1]) (css := [[iV _, iV _, sV _, sV _, .bool _, sV _]]) sl40 ty118 zr118 rfl rfl rfl rfl rfl rfl ⟨⟨rfl, clip_ok (by assumption)⟩, trivial⟩ (fun bl9 G9 hG9 hv9 => (W.app (e := eMsg) sl40 ty118 zr118 rfl by118 rfl rfl ((ho_5.mono hG9)) (hv9) (pmC (pmC pr9)) (by show ((clips ⟨alo, ahi, ao⟩ (l.take i)).length + 1) * 72 ≤ _; omega) (fun v10 Ms11 ho12 => (W.perm (pmC (pmC pr9)).symm (g9 8 ?_)))))
    refine W.sub (sr9.cons _) (g9 2 ?_)
    exact ⟨hG9, (i + 1, v10, Ms11), hs9, ⟨rfl, (by have h := ho12; rw [clips_t om9 h21_1]; exact h), om9⟩, om9⟩
   refine g9 7 ?_
   refine W.sub (sr9.cons _) (g9 2 ?_)
   exact ⟨Le.rfl, (i + 1, v_5, M_5), hs9, ⟨rfl, (by have h := ho_5; rw [clips_f om9 h21_1]; exact h), om9⟩, om9⟩
  refine W.alloc zr118 (fun b13 => (W.nn (WD.a1 5 rfl (W.qcall (rclip_fc _ _ _ _ _ _ _ _ _ (hks _ (List.getElem_mem _))) rfl (W.nn (d9 [6, 7, 8, 10, 11] ?_))))))
  refine g9 7 ?_
  refine WC.cond rfl (fun h21_1 => ?_) (fun h21_1 => ?_)
  ·refine g9 3 ?_
   refine W.lit (e := eMsg) (l := [(Msg.clip l[i] ⟨alo, ahi, ao⟩).1]) (css := [[iV _, iV _, sV _, sV _, .bool _, sV _]]) sl40 ty118 zr118 rfl rfl rfl rfl rfl rfl ⟨⟨rfl, clip_ok (by assumption)⟩, trivial⟩ (fun bl14 G14 hG14 hv14 => (W.app (e := eMsg) sl40 ty118 zr118 rfl by118 rfl rfl ((ho_5.mono hG14)) (hv14) (pmC (pmC pr9)) (by show ((clips ⟨alo, ahi, ao⟩ (l.take i)).length + 1) * 72 ≤ _; omega) (fun v15 Ms16 ho17 => (W.perm (pmC (pmC pr9)).symm (g9 8 ?_)))))
   refine W.sub (sr9.cons _) (g9 2 ?_)
   exact ⟨hG14, (i + 1, v15, Ms16), hs9, ⟨rfl, (by have h := ho17; rw [clips_t om9 h21_1]; exact h), om9⟩, om9⟩
  refine g9 7 ?_
  refine W.sub (sr9.cons _) (g9 2 ?_)
  exact ⟨Le.rfl, (i + 1, v_5, M_5), hs9, ⟨rfl, (by have h := ho_5; rw [clips_f om9 h21_1]; exact h), om9⟩, om9⟩
 refine g9 11 ?_
 refine WC.giveO ho_5 (pmC pr9) (fun G18 hG18 hv18 => (g9 2 ?_))
 refine ⟨rfl, _, rfl, ?_⟩
 · have h := hv18; rw [List.take_of_length_le om9] at h; exact h

theorem bclips_fc {G : GH} {v_l : Value} {l : List Msg} (h_l : SlR eMsg G v_l l) (alo : Str) (ahi : Str) (ao : Bool) (hks : ∀ m ∈ l, m.key.b.size < 140737488355328) :
    Fc Tryz.prog 122 [v_l, .agg #[sV alo.b, sV ahi.b, .bool ao]] G [] (fun v G' M' => M' = [] ∧ ∃ u0, v = u0 ∧ SlR eMsg G' u0 (clips ⟨alo, ahi, ao⟩ l)) := by
 obtain ⟨sa_l, sc_l, rfl⟩ := h_l.form
 have hl := h_l.len47
 have hlb : l.length * 72 ≤ 140737488355328 := h_l.bytes
 refine Fc.go [.tmp 4] Tryz.func122 Tryz.ntmps122 rfl (fun w0 => (g9 2 ?_))
 refine W.box (L := [sV _, sV _, .bool _]) rfl rfl (fun b19 => (g9 17 ?_))
 refine WC.loop (X := (Nat) × Value × MH) (fun i => [(10, lV sa_l l.length sc_l), (11, nt9 l.length), (12, nt9 i.1), (3, pt9 b19), (5, i.2.1)]) (fun i G Ml => Ml = ((b19, ce9 45 [sV alo.b, sV ahi.b, .bool ao]) :: (i.2.2 ++ [])) ∧ OwnR eMsg 118 G i.2.1 (clips ⟨alo, ahi, ao⟩ (l.take i.1)) i.2.2 ∧ i.1 ≤ l.length) (fun i => l.length - i.1) (0, lV none 0 0, ([] : MH)) hs9 ?_ ?_
 ·exact ⟨rfl, (by exact OwnR.nil), om9⟩
 rintro ⟨i, v_5, M_5⟩ gG20 G20 _ hG20 ⟨rfl, ho_5, hi⟩
 try dsimp only at ho_5 hi
 have hcl := clips_le (s := ⟨alo, ahi, ao⟩) (l := l.take i)
 have htl : (l.take i).length ≤ i := by simp; omega
 refine WC.fr (f := setL gG20 [(10, lV sa_l l.length sc_l), (11, nt9 l.length), (12, nt9 i), (3, pt9 b19), (5, v_5)]) rfl (g9 6 ?_)
 refine WC.cd (fun h13 p13 => ?_) (fun h13 p13 => ?_)
 ·refine g9 6 ?_
  refine (h_l.mono hG20).a2 (i := i) om9 (fun he21 hm22 => (g9 2 ?_))
  refine W.alloc zr118 (fun b26 => (g9 7 ?_))
  refine W.qcall (mclip_fc _ _ _ _ _ _ _ _ _ (hks _ (List.getElem_mem _))) rfl (g9 3 ?_)
  refine W.alloc zr118 (fun b27 => (g9 9 ?_))
  refine WC.cond rfl (fun h19_1 => ?_) (fun h19_1 => ?_)
  ·refine g9 3 ?_
   refine W.lit (e := eMsg) (l := [(Msg.clip l[i] ⟨alo, ahi, ao⟩).1]) (css := [[iV _, iV _, sV _, sV _, .bool _, sV _]]) sl40 ty118 zr118 rfl rfl rfl rfl rfl rfl ⟨⟨rfl, clip_ok (by assumption)⟩, trivial⟩ (fun bl28 G28 hG28 hv28 => (W.app (e := eMsg) sl40 ty118 zr118 rfl by118 rfl rfl ((ho_5.mono hG28)) (hv28) (pmC (pmC (pmC pr9))) (by show ((clips ⟨alo, ahi, ao⟩ (l.take i)).length + 1) * 72 ≤ _; omega) (fun v29 Ms30 ho31 => (W.perm (pmC (pmC (pmC pr9))).symm (g9 7 ?_)))))
   refine W.sub ((sr9.cons _).cons _) (g9 2 ?_)
   exact ⟨hG28, (i + 1, v29, Ms30), hs9, ⟨rfl, (by have h := ho31; rw [clips_t om9 h19_1]; exact h), om9⟩, om9⟩
  refine g9 6 ?_
  refine W.sub ((sr9.cons _).cons _) (g9 2 ?_)
  exact ⟨Le.rfl, (i + 1, v_5, M_5), hs9, ⟨rfl, (by have h := ho_5; rw [clips_f om9 h19_1]; exact h), om9⟩, om9⟩
 refine g9 11 ?_
 refine WC.giveO ho_5 (pmC pr9) (fun G32 hG32 hv32 => (g9 2 ?_))
 refine ⟨rfl, _, rfl, ?_⟩
 · have h := hv32; rw [List.take_of_length_le om9] at h; exact h

theorem findnd_fc {G : GH} {v_l : Value} {l : List Nd} (h_l : SlR eNode G v_l l) (i : Int) :
    Fc Tryz.prog 37 [v_l, iV i] G [] (fun v G' M' => M' = [] ∧ ∃ u0, v = .tuple #[.agg (List.toArray u0), .bool ((findN l i).2)] ∧ NodeC G' u0 ((findN l i).1)) := by
 obtain ⟨sa_l, sc_l, rfl⟩ := h_l.form
 have hl := h_l.len47
 have hok : ∀ n ∈ l, n.Ok := h_l.nok
 refine Fc.go [.cell 4 43, .tmp 5] Tryz.func37 Tryz.ntmps37 rfl (fun w0 => (g9 2 ?_))
 refine W.alloc zr43 (fun b1 => (g9 5 ?_))
 refine W.ok (ok_build (L := [iV _, iV _, lV _ _ _, lV _ _ _, sV _, .bool _, iV _, iV _, lV _ _ _, lV _ _ _]) pl43 zr43 rfl rfl rfl) (W.alloc zr43 (fun b2 => (g9 15 ?_)))
 refine WC.loop (X := (Nat) × List Value) (fun k => [(7, nt9 ((atS (l.take k.1) i).length)), (8, nt9 k.1), (4, pt9 b1), (6, pt9 b2), (0, lV sa_l l.length sc_l), (1, iV i)]) (fun k G Ml => Ml = [(b2, .cells (List.toArray k.2) 43 (0, 0)), (b1, ce9 43 nz9)] ∧ NodeC G k.2 ((atS (l.take k.1) i).getLast?.getD Nd.zero) ∧ k.1 ≤ l.length) (fun k => l.length - k.1) (0, (nz9 : List Value)) hs9 ?_ ?_
 ·exact ⟨rfl, (by exact ⟨_, _, _, _, _, _, _, _, rfl, SlR.nil, SlR.nil, SlR.nil, SlR.nil, Nd.zero_ok⟩), om9⟩
 rintro ⟨k, C_6⟩ gG3 G3 _ hG3 ⟨rfl, ho_6, hk⟩
 try dsimp only at ho_6 hk
 have hal := atS_len l i k
 refine match ho_6 with | ⟨pa_nb4, pc_nb4, ka_nb4, kc_nb4, ma_nb4, mc_nb4, ra_nb4, rc_nb4, e_5, hp_nb4, hk_nb4, hm_nb4, hr_nb4, hok_nb4⟩ => ?_
 subst e_5
 refine WC.fr (f := setL gG3 [(7, nt9 ((atS (l.take k) i).length)), (8, nt9 k), (4, pt9 b1), (6, pt9 b2), (0, lV sa_l l.length sc_l), (1, iV i)]) rfl (g9 9 ?_)
 refine WC.cd (fun h13 p13 => ?_) (fun h13 p13 => ?_)
 ·refine g9 8 ?_
  refine (h_l.mono hG3).aN (i := k) om9 (fun _ _ _ _ _ _ _ _ he6 hp_n7 hk_n7 hm_n7 hr_n7 hok_n7 => (g9 7 ?_))
  refine WC.cd (fun h22 p22 => ?_) (fun h22 p22 => ?_)
  ·refine g9 4 ?_
   refine (h_l.mono hG3).aN (i := k) om9 (fun pa_n11 pc_n11 ka_n11 kc_n11 ma_n11 mc_n11 ra_n11 rc_n11 he10 hp_n11 hk_n11 hm_n11 hr_n11 hok_n11 => (g9 18 ?_))
   exact ⟨Le.rfl, (k + 1, (ndl ((l)[k]) pa_n11 pc_n11 ka_n11 kc_n11 ma_n11 mc_n11 ra_n11 rc_n11)), ⟨(congrArg (fun n : Nat => Value.int .i64 (n : Int)) (by rw [atS_t om9 p22]; simp)), eqv, eqv, eqv, eqv, eqv, trivial⟩, ⟨rfl, (by have h0 : NodeC _ _ (l[k]'om9) := (nk9 hp_n11 hk_n11 hm_n11 hr_n11 hok_n11); rw [atS_t om9 p22, last_snoc]; exact h0), om9⟩, om9⟩
  refine g9 9 ?_
  exact ⟨Le.rfl, (k + 1, (ndl ((atS (l.take k) i).getLast?.getD Nd.zero) pa_nb4 pc_nb4 ka_nb4 kc_nb4 ma_nb4 mc_nb4 ra_nb4 rc_nb4)), ⟨(congrArg (fun n : Nat => Value.int .i64 (n : Int)) (by rw [atS_f om9 p22])), eqv, eqv, eqv, eqv, eqv, trivial⟩, ⟨rfl, (by have h0 : NodeC _ _ ((atS (l.take k) i).getLast?.getD Nd.zero) := (nk9 hp_nb4 hk_nb4 hm_nb4 hr_nb4 hok_nb4); rw [atS_f om9 p22]; exact h0), om9⟩, om9⟩
 refine g9 16 ?_
 exact ⟨rfl, _, congrArg (fun b : Bool => Value.tuple #[.agg (List.toArray _), .bool b]) (find_b om9), NodeC.of (nk9 hp_nb4 hk_nb4 hm_nb4 hr_nb4 hok_nb4) (find_n om9)⟩

theorem seats_fc {G : GH} {v_l : Value} {l : List Nd} (h_l : SlR eNode G v_l l) (i : Int) (hS : Sml l) :
    Fc Tryz.prog 10 [v_l, iV i] G [] (fun v G' M' => M' = [] ∧ ((∃ u ss, seatsN l i = some ss ∧ v = .tuple #[u, .bool true] ∧ SlR eSeat G' u ss ∧ QS l ss) ∨ (∃ u ss, seatsN l i = none ∧ v = .tuple #[u, .bool false] ∧ SlR eSeat G' u ss))) := by
 obtain ⟨sa_l, sc_l, rfl⟩ := h_l.form
 have hl := h_l.len47
 have hl100 := hS.1
 refine Fc.go [.tmp 4, .tmp 5] Tryz.func10 Tryz.ntmps10 rfl (fun w0 => (g9 10 ?_))
 refine W.cN (findnd_fc h_l _) rfl (fun _ _ _ _ _ _ _ _ G14 hG14 hp_hv15 hk_hv15 hm_hv15 hr_hv15 hok_hv15 => (g9 3 ?_))
 refine W.alloc zr43 (fun b20 => (g9 11 ?_))
 refine WC.cond rfl (fun h23 => ?_) (fun h23 => ?_)
 ·refine g9 9 ?_
  exact ⟨rfl, .inr ⟨_, [], seats_none (by simpa using h23), rfl, SlR.nil⟩⟩
 have hq0 := QOk.init (l := l) (root := i) (by simpa using h23)
 refine g9 5 ?_
 refine W.ok (ok_build (L := [sV _, sV _, .bool _]) pl45 zr45 rfl rfl rfl) (W.ok (ok_build (L := [iV _, iV _, lV _ _ _, lV _ _ _, sV _, .bool _, iV _, iV _, lV _ _ _, lV _ _ _, sV _, sV _, .bool _, lV _ _ _]) pl47 zr47 rfl rfl rfl) (W.litO (e := eSeat) (l := [(rootS l i)]) (css := [[iV _, iV _, lV _ _ _, lV _ _ _, sV _, .bool _, iV _, iV _, lV _ _ _, lV _ _ _, sV _, sV _, .bool _, lV _ _ _]]) sl35 ty47 zr47 rfl rfl rfl rfl rfl rfl ⟨⟨_, _, _, _, _, _, _, _, _, _, rfl, hp_hv15, hk_hv15, hm_hv15, hr_hv15, SlR.nil, hok_hv15⟩, trivial⟩ (fun v21 Ms22 ho23 => (W.perm (pmC pr9).symm (g9 5 ?_)))))
 refine WC.sub (sr9.cons _) (g9 5 ?_)
 refine WC.loop (X := (Nat × List Seat) × Value × MH) (fun x => [(9, nt9 x.1.1), (0, lV sa_l l.length sc_l), (8, x.2.1)]) (fun x G Ml => Ml = (x.2.2 ++ []) ∧ OwnR eSeat 47 G x.2.1 (x.1.2) x.2.2 ∧ QOk l i x.1.1 x.1.2 ∧ QS l x.1.2) (fun x => l.length + 1 - x.1.1) (((0, [rootS l i]) : Nat × List Seat), v21, Ms22) hs9 ?_ ?_
 ·exact ⟨rfl, (by exact ho23), hq0, QS.init hS i⟩
 rintro ⟨⟨q, out⟩, v_8, M_8⟩ gG24 G24 _ hG24 ⟨rfl, ho_8, hq, hqs⟩
 try dsimp only at ho_8 hq hqs
 have hq1 := hq.le
 have hq2 := hq.len
 have hq3 := hq.pos
 refine WC.fr (f := setL gG24 [(9, nt9 q), (0, lV sa_l l.length sc_l), (8, v_8)]) rfl (g9 9 ?_)
 refine WC.cd (fun h31 p31 => ?_) (fun h31 p31 => ?_)
 ·refine g9 8 ?_
  have q28 := ho_8.at (i := q) om9
  refine match q28 with | ⟨_, he25, ⟨pa_t26, pc_t26, ka_t26, kc_t26, ma_t26, mc_t26, ra_t26, rc_t26, qa_t26, qc_t26, e_27, hp_t26, hk_t26, hm_t26, hr_t26, hq_t26, hok_t26⟩⟩ => ?_
  subst e_27
  obtain ⟨sx, hssx⟩ : ∃ y, y = ((out)[q]) := ⟨_, rfl⟩
  rw [← hssx] at he25 hp_t26 hk_t26 hm_t26 hr_t26 hq_t26 hok_t26
  refine W.ok (ok_indexAddrO (i := q) sl35 ty47 ho_8 rfl rfl ⟨om9, om9⟩) (W.ok (ok_loadO (vs := [iV _, iV _, lV _ _ _, lV _ _ _, sV _, .bool _, iV _, iV _, lV _ _ _, lV _ _ _, sV _, sV _, .bool _, lV _ _ _]) ty47 he25 pr9 rfl rfl rfl (by simp)) (W.alloc zr47 (fun b29 => (g9 13 ?_))))
  refine WC.cd (fun h42 p42 => ?_) (fun h42 p42 => ?_)
  ·refine g9 7 ?_
   refine WC.giveO ho_8 (pmC pr9) (fun G30 hG30 hv30 => (g9 8 ?_))
   exact ⟨rfl, .inr ⟨_, _, hq.long om9 om9, rfl, hv30⟩⟩
  refine g9 4 ?_
  obtain ⟨hlv1, hlv2⟩ := hok_t26.2.1
  have hsx := hqs q om9
  rw [← hssx] at hsx
  have hnd := hS.at hsx.nd
  have hnk : sx.n.kids.length ≤ 4000 := hnd.1
  have hk1 : ∀ m ∈ sx.n.msgs, m.key.b.size < 140737488355328 := fun m hm => by have := hnd.2.2.2.2.2.1 m hm; omega
  have hk2 : ∀ m ∈ sx.ms, m.key.b.size < 140737488355328 := fun m hm => by have := hsx.key m hm; omega
  refine g9 7 ?_
  refine WC.cd (fun h47 p47 => ?_) (fun h47 p47 => ?_)
  ·refine g9 8 ?_
   refine W.sub (sr9.cons _) (g9 2 ?_)
   exact ⟨Le.rfl, (((q + 1, out ++ []) : Nat × List Seat), v_8, M_8), hs9, ⟨rfl, (by rw [List.append_nil]; exact ho_8), hq.next om9 om9 (by rw [← hssx]; exact kidsO_0 p47), by dsimp only; rw [List.append_nil]; exact hqs⟩, by dsimp only; omega⟩
  refine g9 10 ?_
  refine W.sd 52 (fun h51 p51 => ?_) (fun h51 p51 => ?_)
  ·refine g9 19 ?_
   refine WC.giveO ho_8 (pmC pr9) (fun G31 hG31 hv31 => (g9 8 ?_))
   exact ⟨rfl, .inr ⟨_, _, hq.none om9 (by rw [← hssx]; exact kidsO_n p47 (.inl p51)), rfl, hv31⟩⟩
  refine g9 13 ?_
  refine W.qcall (rright_fc hp_t26 hk_t26) rfl (g9 5 ?_)
  refine WC.cond rfl (fun h60 => ?_) (fun h60 => ?_)
  ·refine g9 7 ?_
   refine WC.giveO ho_8 (pmC pr9) (fun G32 hG32 hv32 => (g9 8 ?_))
   exact ⟨rfl, .inr ⟨_, _, hq.none om9 (by rw [← hssx]; exact kidsO_n p47 (.inr (by simpa using h60))), rfl, hv32⟩⟩
  refine g9 8 ?_
  refine WC.loop (X := (Nat) × Value × MH) (fun j => [(11, nt9 j.1), (10, pt9 b29), (0, lV sa_l l.length sc_l), (9, nt9 q), (8, j.2.1)]) (fun j G Ml => Ml = ((b29, ce9 47 [iV sx.n.slot, iV sx.n.level, lV pa_t26 (sx.n.pivots).length pc_t26, lV ka_t26 (sx.n.kids).length kc_t26, sV sx.n.high.b, .bool sx.n.top, iV sx.n.right, iV sx.n.seen, lV ma_t26 (sx.n.msgs).length mc_t26, lV ra_t26 (sx.n.rows).length rc_t26, sV (sx.s).lo.b, sV (sx.s).hi.b, .bool (sx.s).opn, lV qa_t26 (sx.ms).length qc_t26]) :: (j.2.2 ++ [])) ∧ OwnR eSeat 47 G j.2.1 (out ++ kidsF l sx j.1) j.2.2 ∧ j.1 ≤ sx.n.kids.length ∧ (∀ j2, j2 < j.1 → kidOk l sx j2 = true) ∧ QS l (out ++ kidsF l sx j.1)) (fun j => sx.n.kids.length - j.1) (0, v_8, M_8) hs9 ?_ ?_
  ·exact ⟨rfl, (by rw [show kidsF l sx 0 = [] from rfl, List.append_nil]; exact ho_8), om9, (fun j2 h => by omega), by rw [show kidsF l sx 0 = [] from rfl, List.append_nil]; exact hqs⟩
  rintro ⟨j, v_8, M_8⟩ gG33 G33 _ hG33 ⟨rfl, ho_8, hj, hjk, hqj⟩
  try dsimp only at ho_8 hj hjk hqj
  have hkl := kidsF_len l sx j
  refine WC.fr (f := setL gG33 [(11, nt9 j), (10, pt9 b29), (0, lV sa_l l.length sc_l), (9, nt9 q), (8, v_8)]) rfl (g9 11 ?_)
  refine WC.cd (fun h68 p68 => ?_) (fun h68 p68 => ?_)
  ·refine g9 11 ?_
   refine (hk_t26.mono hG33).a2 (i := j) om9 (fun he34 hi35 => (g9 2 ?_))
   refine W.cN (findnd_fc (h_l.mono lec) (sx.n.kids[j]'om9)) rfl (fun pa_hv39 pc_hv39 ka_hv39 kc_hv39 ma_hv39 mc_hv39 ra_hv39 rc_hv39 G38 hG38 hp_hv39 hk_hv39 hm_hv39 hr_hv39 hok_hv39 => (g9 3 ?_))
   refine W.alloc zr43 (fun b44 => (g9 10 ?_))
   refine W.sp 84 rfl (fun h83 => ?_) (fun h83 => ?_)
   ·refine g9 18 ?_
    refine WC.giveO (ho_8.mono hG38) (pmC (pmC pr9)) (fun G45 hG45 hv45 => (g9 12 ?_))
    exact ⟨rfl, .inr ⟨_, _, hq.none om9 (by rw [← hssx]; exact kidsO_f (j := j) p47 om9 (kidOk_a om9 (by simpa using h83))), rfl, hv45⟩⟩
   refine g9 17 ?_
   refine WC.cn (fun h91 p91 => ?_) (fun h91 p91 => ?_)
   ·refine g9 7 ?_
    refine WC.giveO (ho_8.mono hG38) (pmC (pmC pr9)) (fun G46 hG46 hv46 => (g9 12 ?_))
    exact ⟨rfl, .inr ⟨_, _, hq.none om9 (by rw [← hssx]; exact kidsO_f (j := j) p47 om9 (kidOk_b om9 p91)), rfl, hv46⟩⟩
   refine g9 2 ?_
   refine WC.join (X := (Unit) × Nat) (fun u21 => [(8, v_8), (10, pt9 b29), (12, pt9 b44), (0, lV sa_l l.length sc_l), (9, nt9 q), (11, nt9 j), (14, .pointer (some ⟨u21.2, 0, none⟩))]) (fun u21 G Ml => Ml = ((u21.2, ce9 45 [sV ((sx.s.meet (rangeN sx.n.pivots (j : Int)))).lo.b, sV ((sx.s.meet (rangeN sx.n.pivots (j : Int)))).hi.b, .bool ((sx.s.meet (rangeN sx.n.pivots (j : Int)))).opn]) :: ((b44, ce9 43 (ndl ((findN l (sx.n.kids[j])).1) pa_hv39 pc_hv39 ka_hv39 kc_hv39 ma_hv39 mc_hv39 ra_hv39 rc_hv39)) :: ((b29, ce9 47 [iV sx.n.slot, iV sx.n.level, lV pa_t26 (sx.n.pivots).length pc_t26, lV ka_t26 (sx.n.kids).length kc_t26, sV sx.n.high.b, .bool sx.n.top, iV sx.n.right, iV sx.n.seen, lV ma_t26 (sx.n.msgs).length mc_t26, lV ra_t26 (sx.n.rows).length rc_t26, sV (sx.s).lo.b, sV (sx.s).hi.b, .bool (sx.s).opn, lV qa_t26 (sx.ms).length qc_t26]) :: (M_8 ++ []))))) ?_ ?_
   ·refine WC.dw (sr9.k9.k9) (d9 [0, 1, 2, 3, 4, 5] ?_)
    refine WD.any [6, 8] (by kernel_rfl) rfl ⟨WD.ap ?_, WD.ap ?_, trivial⟩
    ·refine W.qcall (rrange_fc (hp_t26.mono lec) _ ⟨om9, om9⟩) rfl (W.nn ?_)
     refine WD.any [7, 8] (by kernel_rfl) rfl ⟨WD.ap ?_, WD.ap ?_, trivial⟩
     ·refine W.qcall (rmeet_fc _ _ _ _ _ _) rfl (W.nn (WD.a1 8 rfl (W.alloc zr45 (fun b47 => (W.nn (d9 [9] ?_))))))
      refine g9 2 ?_
      exact ⟨Le.rfl, ((), b47), hs9, rfl⟩
     refine W.alloc zr45 (fun b48 => (W.nn (WD.a1 7 rfl (W.qcall (rmeet_fc _ _ _ _ _ _) rfl (W.nn (d9 [9] ?_))))))
     refine g9 2 ?_
     exact ⟨Le.rfl, ((), b48), hs9, rfl⟩
    refine W.alloc zr45 (fun b49 => (W.nn (WD.a1 6 rfl (W.qcall (rrange_fc (hp_t26.mono lec) _ ⟨om9, om9⟩) rfl (W.nn (WD.a1 7 rfl (W.qcall (rmeet_fc _ _ _ _ _ _) rfl (W.nn (d9 [9] ?_)))))))))
    refine g9 2 ?_
    exact ⟨Le.rfl, ((), b49), hs9, rfl⟩
   rintro ⟨u21, B_14⟩ gG50 G50 _ hG50 rfl
   refine WC.seq (WC.dw ((sn9.k9.k9).k9) (d9 [0, 1, 2, 3, 5, 6, 7] ?_))
   refine WD.a1 4 rfl (W.cS (rclips_fc (hm_t26.mono lec) _ _ _ hk1) rfl (fun sa_hv52 sc_hv52 G51 hG51 hv52 => (W.nn (WD.a1 8 rfl (W.cS (rclips_fc (hq_t26.mono lec) _ _ _ hk2) rfl (fun sa_hv59 sc_hv59 G58 hG58 hv59 => (W.nn (WD.a1 9 rfl (W.lit (e := (eSl eMsg)) (l := [(clips (sx.s.meet (rangeN sx.n.pivots (j : Int))) sx.n.msgs), (clips (sx.s.meet (rangeN sx.n.pivots (j : Int))) sx.ms)]) (css := [[lV _ _ _], [lV _ _ _]]) sl92 ty40 zr40 rfl rfl rfl rfl rfl rfl ⟨⟨_, rfl, (hv52.mono hG58)⟩, ⟨_, rfl, hv59⟩, trivial⟩ (fun bl65 G65 hG65 hv65 => (W.nn (WD.a1 10 rfl (W.cS (rlists_fc hv65 (by first | omega | exact Nat.le_trans (kid_tot hS hsx _) om9) (by show 2 ≤ 100000; omega)) rfl (fun sa_hv67 sc_hv67 G66 hG66 hv67 => (W.nn (d9 [11] ?_))))))))))))))))
   refine g9 7 ?_
   refine W.ok (ok_build (L := [iV _, iV _, lV _ _ _, lV _ _ _, sV _, .bool _, iV _, iV _, lV _ _ _, lV _ _ _, sV _, sV _, .bool _, lV _ _ _]) pl47 zr47 rfl rfl rfl) (W.lit (e := eSeat) (l := [(kidSt l sx j)]) (css := [[iV _, iV _, lV _ _ _, lV _ _ _, sV _, .bool _, iV _, iV _, lV _ _ _, lV _ _ _, sV _, sV _, .bool _, lV _ _ _]]) sl35 ty47 zr47 rfl rfl rfl rfl rfl rfl ⟨kid_rel om9 ⟨_, _, _, _, _, _, _, _, _, _, rfl, (hp_hv39.mono lec), (hk_hv39.mono lec), (hm_hv39.mono lec), (hr_hv39.mono lec), hv67, hok_hv39⟩, trivial⟩ (fun bl73 G73 hG73 hv73 => (W.app (e := eSeat) sl35 ty47 zr47 rfl by47 rfl rfl ((ho_8.mono lec)) (hv73) (pmC (pmC (pmC pr9))) (by show (List.length _ + 1) * 216 ≤ _; rw [List.length_append]; omega) (fun v74 Ms75 ho76 => (W.perm (pmC (pmC (pmC pr9))).symm (g9 8 ?_))))))
   refine W.sub ((sr9.cons _).cons _) (g9 2 ?_)
   exact ⟨lec, (j + 1, v74, Ms75), hs9, ⟨rfl, (by have h0 := ho76; rw [kidsF_succ, ← List.append_assoc]; exact h0), om9, kidOk_all om9 hjk (by simpa using h83) p91, (by rw [kidsF_succ, ← List.append_assoc]; exact hqj.snoc hS hsx (by rw [List.length_append]; omega) j)⟩, om9⟩
  refine g9 10 ?_
  refine W.sub (sr9.cons _) (g9 2 ?_)
  exact ⟨hG33, (((q + 1, out ++ kidsF l sx sx.n.kids.length) : Nat × List Seat), v_8, M_8), hs9, ⟨rfl, (by have h0 := ho_8; rw [show j = sx.n.kids.length by omega] at h0; exact h0), hq.next om9 om9 (by rw [← hssx]; exact kidsO_t p47 p51 (by simpa using h60) (fun j2 h2 => hjk j2 om9)), by dsimp only; rw [show sx.n.kids.length = j by omega]; exact hqj⟩, by dsimp only; omega⟩
 refine g9 12 ?_
 refine WC.giveO ho_8 pr9 (fun G77 hG77 hv77 => (g9 2 ?_))
 exact ⟨rfl, .inl ⟨_, _, hq.done om9, rfl, hv77, hqs⟩⟩

theorem mk74 : mapIK Tryz.prog 74 = some 32 := by kernel_rfl
theorem mz32 : zvK Tryz.prog 32 = some (.pointer none) := by kernel_rfl
theorem tconfig_fc {G : GH} {b_s : Nat} {c : Cfg} {b_a : Nat} {a : List Nd × List Bool} {Ms_a : MH} (h_a : ArR eNode 43 4 3 150 b_a G a Ms_a) :
    Fc Tryz.prog 61 [.pointer (some ⟨b_s, 0, none⟩)] G ((b_s, .cells (List.toArray [.int .i64 c.fan, .int .i64 c.leaf, .int .i64 c.bud, .int .i64 c.slots, .int .i64 c.rest, .pointer (some ⟨b_a, 0, none⟩)]) 107 (0, 0)) :: (Ms_a)) (fun v G' M' => v = .agg (List.toArray [.int .i64 c.fan, .int .i64 c.leaf, .int .i64 c.bud, .int .i64 c.slots, .int .i64 c.rest]) ∧ M' = (b_s, .cells (List.toArray [.int .i64 c.fan, .int .i64 c.leaf, .int .i64 c.bud, .int .i64 c.slots, .int .i64 c.rest, .pointer (some ⟨b_a, 0, none⟩)]) 107 (0, 0)) :: Ms_a) := by
 refine Fc.intro (rs := [.cell 2 23]) cl61 Tryz.func61 rfl Tryz.ntmps61 rfl rfl (fun w0 => ?_)
 refine WC.perm (M' := ((b_s, .cells (List.toArray [.int .i64 c.fan, .int .i64 c.leaf, .int .i64 c.bud, .int .i64 c.slots, .int .i64 c.rest, .pointer (some ⟨b_a, 0, none⟩)]) 107 (0, 0)) :: (Ms_a ++ []))) (by simp) ?_
 refine WC.seq ?_
 refine WC.region ?_
 refine W.alloc zr23 (fun b1 => ?_)
 refine W.nil (thn_n ?_)
 refine WC.seq ?_
 refine WC.seq ?_
 refine WC.region ?_
 refine W.mv ?_
 refine W.ok (ok_eqlPN pp63 rfl rfl) ?_
 refine W.nil (thn_n ?_)
 refine WC.cond_f rfl rfl ?_
 refine WC.skip (thn_n ?_)
 refine WC.seq ?_
 refine WC.region ?_
 refine W.mv ?_
 refine W.ok (ok_nilP rfl) ?_
 refine W.ok (ok_fieldB fd107_0 rfl) ?_
 refine W.ok (ok_loadB (i := 1) (vs := [.int .i64 _, .int .i64 _, .int .i64 _, .int .i64 _, .int .i64 _]) ty23 rfl rfl rfl rfl (by simp)) ?_
 refine W.store (i := 0) (vs := [.int .i64 _, .int .i64 _, .int .i64 _, .int .i64 _, .int .i64 _]) (L' := [.int .i64 _, .int .i64 _, .int .i64 _, .int .i64 _, .int .i64 _]) ty23 rfl rfl rfl rfl rfl rfl rfl rfl ?_
 refine W.nil (thn_n ?_)
 refine WC.ret ?_
 refine ⟨.inr rfl, [_], ⟨⟨_, _, _, _, _, rfl, nthM_mem (i := 0) rfl, ty23, (by simp), rfl, rfl⟩, trivial⟩, ((b_s, .cells (List.toArray [.int .i64 c.fan, .int .i64 c.leaf, .int .i64 c.bud, .int .i64 c.slots, .int .i64 c.rest, .pointer (some ⟨b_a, 0, none⟩)]) 107 (0, 0)) :: (Ms_a ++ [])), ((List.Sublist.refl _).cons_cons _).cons _, ?_⟩
 exact ⟨rfl, congrArg _ (List.append_nil _)⟩

theorem pconfig_fc {G : GH} {b : Nat} {c : Cfg} {l : List Nd} {M : MH} (h : StR 43 4 3 150 107 b c G l M) : Fc Tryz.prog 61 [.pointer (some ⟨b, 0, none⟩)] G M (fun v G' M' => v = .agg (List.toArray [.int .i64 c.fan, .int .i64 c.leaf, .int .i64 c.bud, .int .i64 c.slots, .int .i64 c.rest]) ∧ M' = M) := by
  obtain ⟨hc, hl, b2, Ma, rfl, hA⟩ := h
  exact tconfig_fc (c := c) hA
theorem hcore_fc {G : GH} {b_s : Nat} {c c2 : Cfg} {l : List Nd} {ss : List Seat} {Ms_s : MH} (h_s : StR 43 4 3 150 107 b_s c G l Ms_s) (t : Tree c2 l ss) (e : Int) (he : e = 0) (hC : CfgR c) (Th : List Int) (hTh : (∀ x ∈ Th, i64 x) ∧ Th.length ≤ 1000) :
    Fc Tryz.prog 30 [.pointer (some ⟨b_s, 0, none⟩), .int .i64 e] G Ms_s (fun v G' M' => ∃ b_c b_t b_m Ms Mt Mm, v = .tuple #[.pointer (some ⟨b_c, 0, none⟩), .int .i64 0] ∧ M' = (b_c, .cells (List.toArray [.pointer (some ⟨b_s, 0, none⟩), .pointer (some ⟨b_t, 0, none⟩), .map (some b_m), .int .i64 0, .int .i64 0]) 76 (0, 0)) :: (Ms ++ (Mt ++ Mm)) ∧ StR 43 4 3 150 107 b_s c G' l Ms ∧ TabR 128 132 3 Th b_t G' (List.replicate c.slots.toNat ([], 0)) Mt ∧ MpR vPtr b_m G' ([] : List (Int × Option Nat)) Mm) := by
 refine Fc.intro (rs := [.tmp 4, .tmp 5]) cl30 Tryz.func30 rfl Tryz.ntmps30 rfl rfl (fun w0 => ?_)
 refine WC.perm (M' := (Ms_s ++ [])) (by simp) ?_
 refine WC.seq ?_
 refine WC.region ?_
 refine W.as ?_
 refine W.as ?_
 refine W.nil (thn_n ?_)
 refine WC.seq ?_
 refine WC.seq ?_
 refine WC.region ?_
 refine W.mv ?_
 refine W.ok (ok_neq rfl rfl) ?_
 refine W.nil (thn_n ?_)
 refine WC.cond (b := _) rfl (fun h8 => ?_) (fun h8 => ?_)
 ·have p8 := nd_t h8
  exact absurd he p8
 ·have p8 := nd_f h8
  refine WC.skip (thn_n ?_)
  refine WC.seq ?_
  refine WC.region ?_
  refine W.mv ?_
  refine W.call (Mp := Ms_s) (pconfig_fc h_s) rfl (List.Perm.refl _) ?_
  intro v5 G2 Ms4 hG2 q3
  refine match q3 with | ⟨e_7, eeq3⟩ => ?_
  subst e_7
  have eeq3 := eeq3.symm
  subst eeq3
  refine W.ok (ok_field (L := [.int .i64 _, .int .i64 _, .int .i64 _, .int .i64 _, .int .i64 _]) (vs := [.int .i64 _]) pt23_3 rfl rfl rfl) ?_
  refine W.call (Mp := []) (lnew_fc c.slots Th hTh) rfl (List.Perm.refl _) ?_
  intro v11 G8 Ms10 hG8 q9
  refine Or.elim q9 (fun q12 => ?_) (fun q13 => ?_)
  ·exact absurd hC.2.2.2.1 q12.1
  ·refine match q13 with | ⟨_, b_t, e_14, hT9⟩ => ?_
   subst e_14
   refine W.mv ?_
   refine W.ok (ok_extract rfl rfl) ?_
   refine W.ok (ok_extract rfl rfl) ?_
   refine W.as ?_
   refine W.as ?_
   refine W.nil (thn_n ?_)
   refine WC.seq ?_
   refine WC.seq ?_
   refine WC.region ?_
   refine W.mv ?_
   refine W.ok (ok_neq rfl rfl) ?_
   refine W.nil (thn_n ?_)
   refine WC.cond_f rfl rfl ?_
   refine WC.skip (thn_n ?_)
   refine WC.seq ?_
   refine WC.region ?_
   refine W.mv ?_
   refine W.mv ?_
   refine W.makeMap (V := vPtr) (fun bm15 hm16 => ?_)
   refine W.ok (ok_build (L := [.pointer _, .pointer _, .map _, .int .i64 _, .int .i64 _]) pl76 zr76 rfl rfl rfl) ?_
   refine W.box (L := [.pointer _, .pointer _, .map _, .int .i64 _, .int .i64 _]) rfl rfl (fun b17 => ?_)
   refine W.as ?_
   refine W.as ?_
   refine W.nil (thn_n ?_)
   refine WC.perm (M' := ((b17, .cells (List.toArray [.pointer (some ⟨b_s, 0, none⟩), .pointer (some ⟨b_t, 0, none⟩), .map (some bm15), .int .i64 0, .int .i64 0]) 76 (0, 0)) :: (Ms_s ++ (Ms10 ++ ([(bm15, Obj.map #[] 0)] ++ []))))) (((List.Perm.append_left _ ((List.Perm.append_left _ ((List.Perm.append_left _ (List.Perm.refl _)).trans (List.Perm.refl _))).trans (pmA (List.Perm.refl _)))).trans (pmA (pmA (List.Perm.refl _)))).cons _) ?_
   refine WC.ret ?_
   refine ⟨.inr rfl, [_, _], ⟨rfl, rfl, trivial⟩, ((b17, .cells (List.toArray [.pointer (some ⟨b_s, 0, none⟩), .pointer (some ⟨b_t, 0, none⟩), .map (some bm15), .int .i64 0, .int .i64 0]) 76 (0, 0)) :: (Ms_s ++ (Ms10 ++ [(bm15, Obj.map #[] 0)]))), (List.Sublist.append_left (List.Sublist.append_left (List.sublist_append_left _ _) _) _).cons_cons _, ?_⟩
   exact ⟨_, _, _, _, _, _, rfl, congrArg _ (by simp), (StR.mono (hG2.trans hG8) h_s), hT9, hm16⟩

theorem hcount_fc {G : GH} {b_c : Nat} {b_s : Nat} {c c2 : Cfg} {l : List Nd} {ss : List Seat} {Ms_s : MH} (h_s : StR 43 4 3 150 107 b_s c G l Ms_s) (t : Tree c2 l ss) {vT : Option Addr} {vM : Value} {wt : Int} {ch : Int} :
    Fc Tryz.prog 32 [.pointer (some ⟨b_c, 0, none⟩)] G ((b_c, .cells (List.toArray [.pointer (some ⟨b_s, 0, none⟩), .pointer vT, vM, .int .i64 wt, .int .i64 ch]) 76 (0, 0)) :: (Ms_s)) (fun v G' M' => ∃ n Ms, v = .int .i64 n ∧ i64 n ∧ M' = (b_c, .cells (List.toArray [.pointer (some ⟨b_s, 0, none⟩), .pointer vT, vM, .int .i64 wt, .int .i64 ch]) 76 (0, 0)) :: Ms ∧ StR 43 4 3 150 107 b_s c G' l Ms) := by
 refine Fc.intro (rs := [.tmp 2]) cl32 Tryz.func32 rfl Tryz.ntmps32 rfl rfl (fun w0 => ?_)
 refine WC.perm (M' := ((b_c, .cells (List.toArray [.pointer (some ⟨b_s, 0, none⟩), .pointer vT, vM, .int .i64 wt, .int .i64 ch]) 76 (0, 0)) :: (Ms_s ++ []))) (by simp) ?_
 refine WC.seq ?_
 refine WC.region ?_
 refine W.as ?_
 refine W.nil (thn_n ?_)
 refine WC.seq ?_
 refine WC.region ?_
 refine W.as ?_
 refine W.nil (thn_n ?_)
 refine WC.seq ?_
 refine WC.seq ?_
 refine WC.region ?_
 refine W.mv ?_
 refine W.ok (ok_nilP rfl) ?_
 refine W.ok (ok_fieldB fd76_0 rfl) ?_
 refine W.ok (ok_loadB (i := 0) (vs := [.pointer _]) ty63 rfl rfl rfl rfl (by simp)) ?_
 refine W.call (Mp := Ms_s) (pnodes_fc h_s) rfl (pmC (List.Perm.refl _)) ?_
 intro v21 G18 Ms20 hG18 q19
 refine match q19 with | ⟨hR22, eeq19⟩ => ?_
 have eeq19 := eeq19.symm
 subst eeq19
 refine W.perm (pmC (List.Perm.refl _)).symm ?_
 have hln_sa23 := hR22.len47
 have q26 := hR22.form
 refine match q26 with | ⟨sa23, sc24, e_25⟩ => ?_
 subst e_25
 refine W.ok (ok_len sl24 hR22 rfl) ?_
 refine W.mv ?_
 refine W.nil (thn_n ?_)
 refine WC.block ?_
 refine WC.loop (X := Nat × Int) (fun x => [(3, .int .i64 x.2), (12, .int .i64 ((x.1 : Nat) : Int)), (10, .slice sa23 (l).length sc24), (11, .int .i64 (((l).length : Nat) : Int))]) (fun x _ Ml => Ml = ((b_c, .cells (List.toArray [.pointer (some ⟨b_s, 0, none⟩), .pointer vT, vM, .int .i64 wt, .int .i64 ch]) 76 (0, 0)) :: (Ms_s ++ [])) ∧ x.1 ≤ l.length ∧ 0 ≤ x.2 ∧ x.2 ≤ 4000 * (x.1 : Int)) (fun x => l.length - x.1) ((0, 0) : Nat × Int) ⟨eqv, eqv, eqv, eqv, trivial⟩ ?_ ?_
 ·exact ⟨rfl, Nat.zero_le _, Int.le_refl _, Int.le_refl _⟩
 ·rintro ⟨k, n⟩ gG27 G27 _ hG27 ⟨rfl, hk, hn0, hn1⟩
  have hll9 := t.sml.1
  refine WC.fr (f := setL gG27 [(3, .int .i64 n), (12, .int .i64 ((k : Nat) : Int)), (10, .slice sa23 (l).length sc24), (11, .int .i64 (((l).length : Nat) : Int))]) rfl ?_
  refine WC.seq ?_
  refine WC.region ?_
  refine W.ok (ok_lss rfl rfl) ?_
  refine W.nil (thn_n ?_)
  refine WC.seq ?_
  refine WC.cond (b := _) rfl (fun h13 => ?_) (fun h13 => ?_)
  ·have p13 := of_decide_eq_true h13
   try dsimp only at p13
   refine WC.skip (thn_n ?_)
   refine WC.seq ?_
   refine WC.block ?_
   refine WC.seq ?_
   refine WC.region ?_
   have q31 := (hR22.mono hG27).at (i := k) (by omega)
   refine match q31 with | ⟨_, he28, ⟨pa_n29, pc_n29, ka_n29, kc_n29, ma_n29, mc_n29, ra_n29, rc_n29, e_30, hp_n29, hk_n29, hm_n29, hr_n29, hok_n29⟩⟩ => ?_
   subst e_30
   refine W.ok (ok_indexAddr (i := k) sl24 ty43 (hR22.mono hG27) rfl rfl ⟨by omega, by omega⟩) ?_
   refine W.ok (ok_loadE (vs := [.int .i64 _, .int .i64 _, .slice _ _ _, .slice _ _ _, .string _, .bool _, .int .i64 _, .int .i64 _, .slice _ _ _, .slice _ _ _]) ty43 he28 rfl rfl rfl (by simp)) ?_
   refine W.alloc zr43 (fun b32 => ?_)
   refine W.store (i := 0) (vs := [.int .i64 _, .int .i64 _, .slice _ _ _, .slice _ _ _, .string _, .bool _, .int .i64 _, .int .i64 _, .slice _ _ _, .slice _ _ _]) (L' := [.int .i64 _, .int .i64 _, .slice _ _ _, .slice _ _ _, .string _, .bool _, .int .i64 _, .int .i64 _, .slice _ _ _, .slice _ _ _]) ty43 rfl rfl rfl rfl rfl rfl rfl rfl ?_
   refine W.nil (thn_n ?_)
   have hml9 := (t.sml.2 (l[k]'(by omega)) (List.getElem_mem _)).2.2.1
   refine WC.region ?_
   refine W.mv ?_
   refine W.ok (ok_fieldB fd43_8 rfl) ?_
   refine W.ok (ok_loadB (i := 0) (vs := [.slice _ _ _]) ty40 rfl rfl rfl rfl (by simp)) ?_
   refine W.ok (ok_len sl40 hm_n29 rfl) ?_
   refine W.ok (ok_add rfl rfl (by omega)) ?_
   refine W.as ?_
   refine W.nil (blk_n (thn_n ?_))
   refine WC.region ?_
   refine W.ok (ok_add rfl rfl (by omega)) ?_
   refine W.mv ?_
   refine W.sub ((List.Sublist.refl _).cons _) ?_
   refine W.nil (thn_n ?_)
   exact ⟨Le.rfl, ((k + 1, n + ((l[k]'(by omega)).msgs.length : Int)) : Nat × Int), ⟨eqv, eqv, eqv, eqv, trivial⟩, ⟨rfl, by dsimp only; omega, by dsimp only; omega, by have h9 := (t.sml.2 (l[k]'(by omega)) (List.getElem_mem _)).2.2.1; dsimp only; omega⟩, by dsimp only; omega⟩
  ·have p13 := of_decide_eq_false h13
   try dsimp only at p13
   refine WC.exit (thn_x (thn_x (blk_h (thn_n ?_))))
   refine WC.seq ?_
   refine WC.region ?_
   refine W.mv ?_
   refine W.as ?_
   refine W.nil (thn_n ?_)
   refine WC.ret ?_
   refine ⟨.inr rfl, [_], ⟨rfl, trivial⟩, ((b_c, .cells (List.toArray [.pointer (some ⟨b_s, 0, none⟩), .pointer vT, vM, .int .i64 wt, .int .i64 ch]) 76 (0, 0)) :: Ms_s), (List.sublist_append_left _ _).cons_cons _, ?_⟩
   exact ⟨_, _, rfl, ⟨by omega, by omega⟩, congrArg _ (by simp), (StR.mono (hG18.trans hG27) h_s)⟩

theorem hload_fc {G : GH} (cfan : Int) (cleaf : Int) (cbud : Int) (cslots : Int) (crest : Int) {v_l : Value} {l : List Nd} (h_l : SlR eNode G v_l l) (ss : List Seat) (t : Tree (⟨cfan, cleaf, cbud, cslots, crest⟩ : Cfg) l ss) (Th : List Int) (hTh : (∀ x ∈ Th, i64 x) ∧ Th.length ≤ 1000) :
    Fc Tryz.prog 7 [.agg #[.int .i64 cfan, .int .i64 cleaf, .int .i64 cbud, .int .i64 cslots, .int .i64 crest], v_l] G [] (fun v G' M' => ∃ b_c b_s b_t b_m wt Ms Mt Mm, v = .tuple #[.pointer (some ⟨b_c, 0, none⟩), .int .i64 0] ∧ M' = (b_c, .cells (List.toArray [.pointer (some ⟨b_s, 0, none⟩), .pointer (some ⟨b_t, 0, none⟩), .map (some b_m), .int .i64 wt, .int .i64 0]) 76 (0, 0)) :: (Ms ++ (Mt ++ Mm)) ∧ StR 43 4 3 150 107 b_s (⟨cfan, cleaf, cbud, cslots, crest⟩ : Cfg) G' l Ms ∧ TabR 128 132 3 Th b_t G' (List.replicate cslots.toNat ([], 0)) Mt ∧ MpR vPtr b_m G' ([] : List (Int × Option Nat)) Mm) := by
 obtain ⟨sa_l, sc_l, rfl⟩ := h_l.form
 have hl := h_l.len47
 refine Fc.intro (rs := [.tmp 4, .tmp 5]) cl7 Tryz.func7 rfl Tryz.ntmps7 rfl rfl (fun w0 => ?_)
 refine WC.seq ?_
 refine WC.region ?_
 refine W.box (L := [.int .i64 _, .int .i64 _, .int .i64 _, .int .i64 _, .int .i64 _]) rfl rfl (fun b33 => ?_)
 refine W.as ?_
 refine W.as ?_
 refine W.nil (thn_n ?_)
 refine WC.seq ?_
 refine WC.region ?_
 refine W.ok (ok_loadB (i := 0) (vs := [.int .i64 _, .int .i64 _, .int .i64 _, .int .i64 _, .int .i64 _]) ty23 rfl rfl rfl rfl (by simp)) ?_
 refine W.mv ?_
 refine W.call (Mp := []) (gload_fc (cfan) (cleaf) (cbud) (cslots) (crest) h_l) rfl (List.Perm.refl _) ?_
 intro v37 G34 Ms36 hG34 q35
 have q38 := or3 q35
 refine Or.elim q38 (fun q39 => ?_) (fun q40 => ?_)
 ·refine match q39 with | ⟨hnl, e_41, e_42⟩ => ?_
  subst e_41
  subst e_42
  exact absurd ⟨t.cfg, t.pos, placed_of t.slot⟩ hnl
 ·refine Or.elim q40 (fun q43 => ?_) (fun q44 => ?_)
  ·refine match q43 with | ⟨hOK, hnle, e_45, e_46⟩ => ?_
   subst e_45
   subst e_46
   exact absurd t.q.1.2.2 hnle
  ·refine match q44 with | ⟨hOK, hle, bSt, e_47, hS9⟩ => ?_
   subst e_47
   refine W.perm (pmC (List.Perm.refl _)).symm ?_
   refine W.ok (ok_extract rfl rfl) ?_
   refine W.ok (ok_extract rfl rfl) ?_
   refine W.call (Mp := Ms36) (hcore_fc hS9 t 0 rfl t.cfg Th hTh) rfl (pmC (List.Perm.refl _)) ?_
   intro v51 G48 Ms50 hG48 q49
   refine match q49 with | ⟨b_c, b_t, b_m, Ms9, Mt9, Mm9, e_52, e_53, hS8, hT8, hM8⟩ => ?_
   subst e_52
   subst e_53
   refine W.perm (M' := ((b_c, .cells (List.toArray [.pointer (some ⟨bSt, 0, none⟩), .pointer (some ⟨b_t, 0, none⟩), .map (some b_m), .int .i64 0, .int .i64 0]) 76 (0, 0)) :: ((b33, .cells (List.toArray [.int .i64 cfan, .int .i64 cleaf, .int .i64 cbud, .int .i64 cslots, .int .i64 crest]) 23 (0, 0)) :: (Ms9 ++ (Mt9 ++ (Mm9 ++ [])))))) (of_mq (show mq ((b_c, .cells (List.toArray [.pointer (some ⟨bSt, 0, none⟩), .pointer (some ⟨b_t, 0, none⟩), .map (some b_m), .int .i64 0, .int .i64 0]) 76 (0, 0)) :: ((b33, .cells (List.toArray [.int .i64 cfan, .int .i64 cleaf, .int .i64 cbud, .int .i64 cslots, .int .i64 crest]) 23 (0, 0)) :: (Ms9 ++ (Mt9 ++ (Mm9 ++ []))))) = mq (((b_c, .cells (List.toArray [.pointer (some ⟨bSt, 0, none⟩), .pointer (some ⟨b_t, 0, none⟩), .map (some b_m), .int .i64 0, .int .i64 0]) 76 (0, 0)) :: (Ms9 ++ (Mt9 ++ Mm9))) ++ ((b33, .cells (List.toArray [.int .i64 cfan, .int .i64 cleaf, .int .i64 cbud, .int .i64 cslots, .int .i64 crest]) 23 (0, 0)) :: [])) by first | (simp only [mq_app, mq_cons, mq_zero]; done) | (simp only [mq_app, mq_cons, mq_zero]; ac_rfl))) ?_
   refine W.mv ?_
   refine W.ok (ok_extract rfl rfl) ?_
   refine W.ok (ok_extract rfl rfl) ?_
   refine W.as ?_
   refine W.as ?_
   refine W.nil (thn_n ?_)
   refine WC.seq ?_
   refine WC.seq ?_
   refine WC.region ?_
   refine W.mv ?_
   refine W.ok (ok_eql rfl rfl) ?_
   refine W.nil (thn_n ?_)
   refine WC.cond_t rfl rfl ?_
   refine WC.region ?_
   refine W.mv ?_
   refine W.mv ?_
   refine W.call (Mp := ((b_c, .cells (List.toArray [.pointer (some ⟨bSt, 0, none⟩), .pointer (some ⟨b_t, 0, none⟩), .map (some b_m), .int .i64 0, .int .i64 0]) 76 (0, 0)) :: Ms9)) (Mr := ((b33, .cells (List.toArray [.int .i64 cfan, .int .i64 cleaf, .int .i64 cbud, .int .i64 cslots, .int .i64 crest]) 23 (0, 0)) :: (Mt9 ++ (Mm9 ++ [])))) (hcount_fc hS8 t) rfl (((pmC (List.Perm.refl _)).cons _).trans (List.Perm.refl _)) ?_
   intro v58 G55 Ms57 hG55 q56
   refine match q56 with | ⟨n_u54, Ms_u54, e_59, hn_u54, e_60, hs_u54⟩ => ?_
   subst e_59
   subst e_60
   refine W.perm (M' := ((b_c, .cells (List.toArray [.pointer (some ⟨bSt, 0, none⟩), .pointer (some ⟨b_t, 0, none⟩), .map (some b_m), .int .i64 0, .int .i64 0]) 76 (0, 0)) :: ((b33, .cells (List.toArray [.int .i64 cfan, .int .i64 cleaf, .int .i64 cbud, .int .i64 cslots, .int .i64 crest]) 23 (0, 0)) :: (Ms_u54 ++ (Mt9 ++ (Mm9 ++ [])))))) (((pmC (List.Perm.refl _)).cons _).trans (List.Perm.refl _)).symm ?_
   refine W.ok (ok_nilP rfl) ?_
   refine W.ok (ok_fieldB fd76_3 rfl) ?_
   refine W.store (i := 0) (vs := [.int .i64 _]) (L' := [.pointer _, .pointer _, .map _, .int .i64 _, .int .i64 _]) ty3 rfl rfl rfl rfl rfl rfl rfl rfl ?_
   refine W.nil (thn_n ?_)
   refine WC.seq ?_
   refine WC.region ?_
   refine W.mv ?_
   refine W.mv ?_
   refine W.as ?_
   refine W.as ?_
   refine W.nil (thn_n ?_)
   refine WC.sub (M' := ((b_c, .cells (List.toArray [.pointer (some ⟨bSt, 0, none⟩), .pointer (some ⟨b_t, 0, none⟩), .map (some b_m), .int .i64 n_u54, .int .i64 0]) 76 (0, 0)) :: (Ms_u54 ++ (Mt9 ++ (Mm9 ++ []))))) (((List.Sublist.append_left (List.Sublist.append_left (List.Sublist.append_left (List.Sublist.refl _) _) _) _).cons _).cons_cons _) ?_
   refine WC.ret ?_
   refine ⟨.inr rfl, [_, _], ⟨rfl, rfl, trivial⟩, ((b_c, .cells (List.toArray [.pointer (some ⟨bSt, 0, none⟩), .pointer (some ⟨b_t, 0, none⟩), .map (some b_m), .int .i64 n_u54, .int .i64 0]) 76 (0, 0)) :: (Ms_u54 ++ (Mt9 ++ Mm9))), (List.Sublist.append_left (List.Sublist.append_left (List.sublist_append_left _ _) _) _).cons_cons _, ?_⟩
   exact ⟨_, _, _, _, _, _, _, _, rfl, congrArg _ (by simp), hs_u54, (TabR.mono hG55 hT8), (MpR.mono hG55 hM8)⟩

theorem hand1_fc {G : GH} {b_c : Nat} {vS vT : Option Addr} {b_m : Nat} {mp : List (Int × Option Nat)} {Ms_m : MH} (h_m : MpR vPtr b_m G mp Ms_m) {wt : Int} {ch : Int} (th : Int) (b9 : Nat) (hth0 : ¬ th < 0) (hm9 : getM mp th = some (some b9)) :
    Fc Tryz.prog 8 [.pointer (some ⟨b_c, 0, none⟩), .int .i64 th] G ((b_c, .cells (List.toArray [.pointer vS, .pointer vT, .map (some b_m), .int .i64 wt, .int .i64 ch]) 76 (0, 0)) :: (Ms_m)) (fun v G' M' => v = .pointer (some ⟨b9, 0, none⟩) ∧ ∃ Mm, M' = (b_c, .cells (List.toArray [.pointer vS, .pointer vT, .map (some b_m), .int .i64 wt, .int .i64 ch]) 76 (0, 0)) :: Mm ∧ MpR vPtr b_m G' mp Mm) := by
 refine Fc.intro (rs := [.tmp 4]) cl8 Tryz.func8 rfl Tryz.ntmps8 rfl rfl (fun w0 => ?_)
 refine WC.perm (M' := ((b_c, .cells (List.toArray [.pointer vS, .pointer vT, .map (some b_m), .int .i64 wt, .int .i64 ch]) 76 (0, 0)) :: (Ms_m ++ []))) (by simp) ?_
 refine WC.seq ?_
 refine WC.region ?_
 refine W.as ?_
 refine W.nil (thn_n ?_)
 refine WC.seq ?_
 refine WC.seq ?_
 refine WC.region ?_
 refine W.mv ?_
 refine W.ok (ok_eqlPN pp27 rfl rfl) ?_
 refine W.mv ?_
 refine W.yes (dj := 7) rfl rfl rfl ?_
 refine W.mv ?_
 refine W.yes (dj := 7) rfl rfl rfl ?_
 refine W.ok (ok_lss rfl rfl) ?_
 refine W.ok (ok_pick_f rfl rfl) ?_
 refine W.nil (thn_n ?_)
 refine WC.cond (b := _) rfl (fun h9 => ?_) (fun h9 => ?_)
 ·have p9 := of_decide_eq_true h9
  exact absurd p9 hth0
 ·have p9 := of_decide_eq_false h9
  refine WC.skip (thn_n ?_)
  refine WC.seq ?_
  refine WC.seq ?_
  refine WC.region ?_
  refine W.mv ?_
  refine W.ok (ok_nilP rfl) ?_
  refine W.ok (ok_fieldB fd76_2 rfl) ?_
  refine W.ok (ok_loadB (i := 0) (vs := [.map _]) ty74 rfl rfl rfl rfl (by simp)) ?_
  refine W.mv ?_
  refine W.lookO (V := vPtr) mk74 mz32 (show vPtr.R _ (.pointer none) none from rfl) rfl rfl h_m (pmC (List.Perm.refl _)) (fun v61 hv62 => ?_)
  rw [hm9] at hv62
  have ehv62 : v61 = .pointer (some ⟨b9, 0, none⟩) := hv62
  subst ehv62
  refine W.ok (ok_eqlPN pp32 rfl rfl) ?_
  refine W.nil (thn_n ?_)
  refine WC.cond_f rfl rfl ?_
  refine WC.skip (thn_n ?_)
  refine WC.seq ?_
  refine WC.region ?_
  refine W.mv ?_
  refine W.ok (ok_nilP rfl) ?_
  refine W.ok (ok_fieldB fd76_2 rfl) ?_
  refine W.ok (ok_loadB (i := 0) (vs := [.map _]) ty74 rfl rfl rfl rfl (by simp)) ?_
  refine W.mv ?_
  refine W.lookO (V := vPtr) mk74 mz32 (show vPtr.R _ (.pointer none) none from rfl) rfl rfl h_m (pmC (List.Perm.refl _)) (fun v63 hv64 => ?_)
  rw [hm9] at hv64
  have ehv64 : v63 = .pointer (some ⟨b9, 0, none⟩) := hv64
  subst ehv64
  refine W.as ?_
  refine W.nil (thn_n ?_)
  refine WC.ret ?_
  refine ⟨.inr rfl, [_], ⟨rfl, trivial⟩, ((b_c, .cells (List.toArray [.pointer vS, .pointer vT, .map (some b_m), .int .i64 wt, .int .i64 ch]) 76 (0, 0)) :: Ms_m), (List.sublist_append_left _ _).cons_cons _, ?_⟩
  exact ⟨rfl, _, congrArg _ (by simp), h_m⟩

theorem hand0_fc {G : GH} {b_c : Nat} {vS vT : Option Addr} {b_m : Nat} {mp : List (Int × Option Nat)} {Ms_m : MH} (h_m : MpR vPtr b_m G mp Ms_m) {wt : Int} {ch : Int} (th : Int) (hth0 : ¬ th < 0) (hm9 : getM mp th = none) :
    Fc Tryz.prog 8 [.pointer (some ⟨b_c, 0, none⟩), .int .i64 th] G ((b_c, .cells (List.toArray [.pointer vS, .pointer vT, .map (some b_m), .int .i64 wt, .int .i64 ch]) 76 (0, 0)) :: (Ms_m)) (fun v G' M' => ∃ b9 Mm, v = .pointer (some ⟨b9, 0, none⟩) ∧ M' = (b9, .cells (List.toArray [.pointer (some ⟨b_c, 0, none⟩), .int .i64 th, .pointer none, .int .i64 0]) 79 (0, 0)) :: ((b_c, .cells (List.toArray [.pointer vS, .pointer vT, .map (some b_m), .int .i64 wt, .int .i64 ch]) 76 (0, 0)) :: Mm) ∧ MpR vPtr b_m G' (putM mp th (some b9)) Mm) := by
 refine Fc.intro (rs := [.tmp 4]) cl8 Tryz.func8 rfl Tryz.ntmps8 rfl rfl (fun w0 => ?_)
 refine WC.perm (M' := ((b_c, .cells (List.toArray [.pointer vS, .pointer vT, .map (some b_m), .int .i64 wt, .int .i64 ch]) 76 (0, 0)) :: (Ms_m ++ []))) (by simp) ?_
 refine WC.seq ?_
 refine WC.region ?_
 refine W.as ?_
 refine W.nil (thn_n ?_)
 refine WC.seq ?_
 refine WC.seq ?_
 refine WC.region ?_
 refine W.mv ?_
 refine W.ok (ok_eqlPN pp27 rfl rfl) ?_
 refine W.mv ?_
 refine W.yes (dj := 7) rfl rfl rfl ?_
 refine W.mv ?_
 refine W.yes (dj := 7) rfl rfl rfl ?_
 refine W.ok (ok_lss rfl rfl) ?_
 refine W.ok (ok_pick_f rfl rfl) ?_
 refine W.nil (thn_n ?_)
 refine WC.cond (b := _) rfl (fun h9 => ?_) (fun h9 => ?_)
 ·have p9 := of_decide_eq_true h9
  exact absurd p9 hth0
 ·have p9 := of_decide_eq_false h9
  refine WC.skip (thn_n ?_)
  refine WC.seq ?_
  refine WC.seq ?_
  refine WC.region ?_
  refine W.mv ?_
  refine W.ok (ok_nilP rfl) ?_
  refine W.ok (ok_fieldB fd76_2 rfl) ?_
  refine W.ok (ok_loadB (i := 0) (vs := [.map _]) ty74 rfl rfl rfl rfl (by simp)) ?_
  refine W.mv ?_
  refine W.lookO (V := vPtr) mk74 mz32 (show vPtr.R _ (.pointer none) none from rfl) rfl rfl h_m (pmC (List.Perm.refl _)) (fun v65 hv66 => ?_)
  rw [hm9] at hv66
  have ehv66 : v65 = .pointer none := hv66
  subst ehv66
  refine W.ok (ok_eqlPN pp32 rfl rfl) ?_
  refine W.nil (thn_n ?_)
  refine WC.cond_t rfl rfl ?_
  refine WC.region ?_
  refine W.mv ?_
  refine W.ok (ok_nilP rfl) ?_
  refine W.ok (ok_fieldB fd76_2 rfl) ?_
  refine W.ok (ok_loadB (i := 0) (vs := [.map _]) ty74 rfl rfl rfl rfl (by simp)) ?_
  refine W.mv ?_
  refine W.mv ?_
  refine W.mv ?_
  refine W.ok (ok_build (L := [.pointer _, .int .i64 _, .pointer _, .int .i64 _]) pl79 zr79 rfl rfl rfl) ?_
  refine W.box (L := [.pointer _, .int .i64 _, .pointer _, .int .i64 _]) rfl rfl (fun b67 => ?_)
  refine W.mapUp (V := vPtr) (k := th) mk74 rfl rfl rfl h_m (pmC (pmC (List.Perm.refl _))) (show vPtr.R _ (.pointer (some ⟨b67, 0, none⟩)) (some b67) from rfl) (fun Ms68 hm69 => ?_)
  refine W.perm (pmC (pmC (List.Perm.refl _))).symm ?_
  refine W.nil (thn_n ?_)
  refine WC.seq ?_
  refine WC.region ?_
  refine W.mv ?_
  refine W.ok (ok_nilP rfl) ?_
  refine W.ok (ok_fieldB fd76_2 rfl) ?_
  refine W.ok (ok_loadB (i := 1) (vs := [.map _]) ty74 rfl rfl rfl rfl (by simp)) ?_
  refine W.mv ?_
  refine W.lookO (V := vPtr) mk74 mz32 (show vPtr.R _ (.pointer none) none from rfl) rfl rfl hm69 (pmC (pmC (List.Perm.refl _))) (fun v70 hv71 => ?_)
  rw [getM_put, if_pos rfl] at hv71
  have ehv71 : v70 = .pointer (some ⟨b67, 0, none⟩) := hv71
  subst ehv71
  refine W.as ?_
  refine W.nil (thn_n ?_)
  refine WC.ret ?_
  refine ⟨.inr rfl, [_], ⟨rfl, trivial⟩, ((b67, .cells (List.toArray [.pointer (some ⟨b_c, 0, none⟩), .int .i64 th, .pointer none, .int .i64 0]) 79 (0, 0)) :: ((b_c, .cells (List.toArray [.pointer vS, .pointer vT, .map (some b_m), .int .i64 wt, .int .i64 ch]) 76 (0, 0)) :: Ms68)), ((List.sublist_append_left _ _).cons_cons _).cons_cons _, ?_⟩
  exact ⟨b67, _, rfl, congrArg _ (congrArg _ (by simp)), hm69⟩

theorem handn_fc {G : GH} {b_c : Nat} {vS vT : Option Addr} {b_m : Nat} {mp : List (Int × Option Nat)} {Ms_m : MH} (h_m : MpR vPtr b_m G mp Ms_m) {wt : Int} {ch : Int} (th : Int) (hth0 : th < 0) :
    Fc Tryz.prog 8 [.pointer (some ⟨b_c, 0, none⟩), .int .i64 th] G ((b_c, .cells (List.toArray [.pointer vS, .pointer vT, .map (some b_m), .int .i64 wt, .int .i64 ch]) 76 (0, 0)) :: (Ms_m)) (fun v G' M' => v = .pointer none ∧ ∃ Mm, M' = (b_c, .cells (List.toArray [.pointer vS, .pointer vT, .map (some b_m), .int .i64 wt, .int .i64 ch]) 76 (0, 0)) :: Mm ∧ MpR vPtr b_m G' mp Mm) := by
 refine Fc.intro (rs := [.tmp 4]) cl8 Tryz.func8 rfl Tryz.ntmps8 rfl rfl (fun w0 => ?_)
 refine WC.perm (M' := ((b_c, .cells (List.toArray [.pointer vS, .pointer vT, .map (some b_m), .int .i64 wt, .int .i64 ch]) 76 (0, 0)) :: (Ms_m ++ []))) (by simp) ?_
 refine WC.seq ?_
 refine WC.region ?_
 refine W.as ?_
 refine W.nil (thn_n ?_)
 refine WC.seq ?_
 refine WC.seq ?_
 refine WC.region ?_
 refine W.mv ?_
 refine W.ok (ok_eqlPN pp27 rfl rfl) ?_
 refine W.mv ?_
 refine W.yes (dj := 7) rfl rfl rfl ?_
 refine W.mv ?_
 refine W.yes (dj := 7) rfl rfl rfl ?_
 refine W.ok (ok_lss rfl rfl) ?_
 refine W.ok (ok_pick_f rfl rfl) ?_
 refine W.nil (thn_n ?_)
 refine WC.cond (b := _) rfl (fun h9 => ?_) (fun h9 => ?_)
 ·have p9 := of_decide_eq_true h9
  refine WC.seq ?_
  refine WC.region ?_
  refine W.as ?_
  refine W.nil (thn_n ?_)
  refine WC.ret (thn_r ?_)
  refine ⟨.inr rfl, [_], ⟨rfl, trivial⟩, ((b_c, .cells (List.toArray [.pointer vS, .pointer vT, .map (some b_m), .int .i64 wt, .int .i64 ch]) 76 (0, 0)) :: Ms_m), (List.sublist_append_left _ _).cons_cons _, ?_⟩
  exact ⟨rfl, _, congrArg _ (by simp), h_m⟩
 ·have p9 := of_decide_eq_false h9
  exact absurd hth0 p9

end Go.Proofs.YtgmnljhiojdigaaGreat
namespace Go.Fw
open Go Go.RowKit
section
variable {c : Cfg} {l : List Nd} {ss : List Seat}
structure Rp (l : List Nd) (ss : List Seat) (k : Str) (x : Seat) (L : List (List Msg)) : Prop where
  mem : x ∈ ss
  has : x.s.has k = true
  all : ∀ A ∈ L, Rst A ∧ (∀ m ∈ A, m.R) ∧ A.length ≤ 4000
  perm : ((L.map (clips (ptS k))).flatten).Perm (clips (ptS k) x.ms)
  len : (L.length : Int) = (rootS l 0).n.level - x.n.level
theorem Rp.init (t : Tree c l ss) (k : Str) : Rp l ss k (rootS l 0) [] := ⟨t.root, all_has k, (fun A hA => by cases hA), List.Perm.refl _, by simp⟩
theorem Rp.next (t : Tree c l ss) {k : Str} (hk : k.b.size < 140737488355328) {x : Seat} {L : List (List Msg)} (g : Rp l ss k x L) (h0 : ¬ x.n.level ≤ 0) : Rp l ss k (kidSt l x (routeN x.n.pivots k)) (L ++ [x.n.msgs]) := by
  have h3 := t.right g.mem h0
  have hj := t.route g.mem h0 k
  have ha := t.at g.mem (by omega) hj
  have hh : (kidSt l x (routeN x.n.pivots k)).s.has k = true := by rw [kidSt_has h3 hj, g.has]; simp
  obtain ⟨q1, q2, q3⟩ := t.msgs g.mem
  have hms := t.kid_ms g.mem (t.rst x g.mem) (routeN x.n.pivots k)
  refine ⟨ha.1, hh, fun A hA => ?_, ?_, ?_⟩
  · rcases List.mem_append.1 hA with h | h
    · exact g.all A h
    · rw [List.mem_singleton.1 h]; exact ⟨q1, q2, (t.sml.2 _ (t.nd g.mem).2.2).2.2.1⟩
  · have e1 : clips (ptS k) (kidSt l x (routeN x.n.pivots k)).ms = clips (ptS k) (x.n.msgs ++ x.ms) := by
      rw [hms.1, clips_append, clips_append, clips_clips (pt_in hk hh), clips_clips (pt_in hk hh)]
    rw [e1, List.map_append, List.flatten_append, clips_append]
    simp only [List.map_cons, List.map_nil, List.flatten_cons, List.flatten_nil, List.append_nil]
    exact (List.Perm.append_right _ g.perm).trans List.perm_append_comm
  · rw [List.length_append]
    have := g.len
    simp only [List.length_cons, List.length_nil]
    omega
theorem Rp.path (t : Tree c l ss) {k : Str} {x : Seat} {L : List (List Msg)} (g : Rp l ss k x L) : mergeN (L.map (clips (ptS k))) = clips (ptS k) x.ms := by
  refine wst_eq (merge_wst _ _ rfl fun A hA => ?_) (clips_rst (t.rst x g.mem)) ((merge_perm _ _ rfl).trans g.perm)
  obtain ⟨B, hB, rfl⟩ := List.mem_map.1 hA
  exact clips_wst (g.all B hB).1.wst
theorem Rp.get (t : Tree c l ss) {k : Str} (hk : k.b.size < 140737488355328) {x : Seat} {L : List (List Msg)} (g : Rp l ss k x L) (h0 : x.n.level = 0) : Eff.apply (onsN (mergeN (L.map (clips (ptS k)))) k) (getN x.n.rows k) = getN (mapN l) k := by
  have e := t.leaf_eq g.mem g.has h0
  rw [← t.lookup k, ← e, g.path t]
  have h : (ptS k).has k = true := (point_has hk).trans (decide_eq_true rfl)
  exact ons_clips' h x.ms _
theorem Rp.fit (t : Tree c l ss) {k : Str} (hk : k.b.size ≤ 300) {x : Seat} {L : List (List Msg)} (g : Rp l ss k x L) : ∀ m ∈ mergeN (L.map (clips (ptS k))), m.fit := by
  rw [g.path t]
  exact clips_fit hk fun m hm => msgR_key ((t.fits x g.mem).2 m hm)
theorem Rp.key {k : Str} {x : Seat} {L : List (List Msg)} (g : Rp l ss k x L) : ∀ i (h : i < L.length), ∀ m ∈ L[i], m.key.b.size < 140737488355328 := fun i h m hm => by
  have := (msgR_key ((g.all _ (List.getElem_mem h)).2.1 m hm)).1
  omega
theorem tot_le9 {b : Nat} : ∀ {L : List (List Msg)}, (∀ A ∈ L, A.length ≤ b) → totN L ≤ b * L.length
  | [], _ => Nat.zero_le _
  | A :: L, h => by
    rw [totN_cons, List.length_cons, Nat.mul_succ]
    have h1 := h A (List.mem_cons_self ..)
    have h2 := tot_le9 (L := L) fun B hB => h B (List.mem_cons_of_mem _ hB)
    omega
theorem Rp.few (t : Tree c l ss) {k : Str} {x : Seat} {L : List (List Msg)} (g : Rp l ss k x L) : L.length ≤ 11 ∧ totN L ≤ 44000 := by
  have h1 := g.len
  have h2 := t.height
  have h3 := t.lvl g.mem
  have h4 := tot_le9 (b := 4000) fun A hA => (g.all A hA).2.2
  exact ⟨by omega, by omega⟩
theorem Tree.placed (t : Tree c l ss) {x : Seat} (hx : x ∈ ss) : PlacedP x := by
  obtain ⟨i, hi, rfl⟩ := List.getElem_of_mem hx
  exact (t.q.2 i hi).2.1
end
def nspN (n : Nd) : Span := if n.top = true then Span.all else (⟨Str.nil, n.high, false⟩ : Span).norm
theorem nsp_has {c : Cfg} {l : List Nd} {ss : List Seat} (t : Tree c l ss) {x : Seat} (hx : x ∈ ss) {k : Str} (h : x.s.has k = true) : (nspN x.n).has k = true := by
  obtain ⟨h1, h2⟩ := (t.placed hx).1
  unfold nspN
  split
  · exact all_has k
  · rename_i h3
    rw [norm_has]
    unfold Span.has at h ⊢
    dsimp only
    rw [h1] at h3
    rw [h2, Str.nil_le]
    rw [Bool.not_eq_true] at h3
    rw [h3] at h
    simp only [Bool.and_eq_true] at h
    simpa using h.2
end Go.Fw
namespace Go.Proofs.YtgmnljhiojdigaaGreat
open Go Go.Fw Go.RowKit
attribute [local irreducible] Ok W WC
theorem mpath_fc {G : GH} (slo : Str) (shi : Str) (so : Bool) {v_ls : Value} {ls : List (List Msg)} (h_ls : SlR (eSl eMsg) G v_ls ls) (ht : totN ls ≤ 100000000) (hln : ls.length ≤ 100000) (hks : ∀ i (h : i < ls.length), ∀ m ∈ ls[i], m.key.b.size < 140737488355328) :
    Fc Tryz.prog 98 [.agg #[sV slo.b, sV shi.b, .bool so], v_ls] G [] (fun v G' M' => M' = [] ∧ ∃ u0, v = u0 ∧ SlR eMsg G' u0 (mergeN (ls.map (clips ⟨slo, shi, so⟩)))) := by
 obtain ⟨sa_ls, sc_ls, rfl⟩ := h_ls.form
 have hl := h_ls.len47
 have htm := tot_map (f := (clips ⟨slo, shi, so⟩)) (fun l => clips_le) ls
 refine Fc.go [.tmp 4] Tryz.func98 Tryz.ntmps98 rfl (fun w0 => (g9 2 ?_))
 refine W.box (L := [sV _, sV _, .bool _]) rfl rfl (fun b1 => (g9 17 ?_))
 refine WC.loop (X := (Nat) × Value × MH) (fun k => [(10, nt9 k.1), (2, pt9 b1), (8, lV sa_ls ls.length sc_ls), (9, nt9 ((ls).length)), (5, k.2.1)]) (fun k G Ml => Ml = ((b1, ce9 45 [sV slo.b, sV shi.b, .bool so]) :: (k.2.2 ++ [])) ∧ OwnR (eSl eMsg) 40 G k.2.1 ((ls.take k.1).map (clips ⟨slo, shi, so⟩)) k.2.2 ∧ k.1 ≤ ls.length) (fun k => ls.length - k.1) (0, lV none 0 0, ([] : MH)) hs9 ?_ ?_
 ·exact ⟨rfl, (by simpa using OwnR.nil), om9⟩
 rintro ⟨k, v_5, M_5⟩ gG2 G2 _ hG2 ⟨rfl, ho_5, hk⟩
 try dsimp only at ho_5 hk
 refine WC.fr (f := setL gG2 [(10, nt9 k), (2, pt9 b1), (8, lV sa_ls ls.length sc_ls), (9, nt9 ((ls).length)), (5, v_5)]) rfl (g9 6 ?_)
 refine WC.cd (fun h11 p11 => ?_) (fun h11 p11 => ?_)
 ·refine g9 6 ?_
  have q6 := (h_ls.mono hG2).at (i := k) om9
  refine match q6 with | ⟨_, he3, ⟨_, e_5, hs4⟩⟩ => ?_
  subst e_5
  obtain ⟨sa_hs4, sc_hs4, rfl⟩ := hs4.form
  refine g9 9 ?_
  refine W.cS (bclips_fc hs4 slo shi so (hks k om9)) rfl (fun sa_hv8 sc_hv8 G7 hG7 hv8 => (W.lit (e := (eSl eMsg)) (l := [clips ⟨slo, shi, so⟩ (ls[k])]) (css := [[lV _ _ _]]) sl92 ty40 zr40 rfl rfl rfl rfl rfl rfl ⟨⟨_, rfl, hv8⟩, trivial⟩ (fun bl14 G14 hG14 hv14 => (W.app (e := (eSl eMsg)) sl92 ty40 zr40 rfl by40 rfl rfl ((ho_5.mono lec)) (hv14) (pmC pr9) (by show (List.length _ + 1) * 24 ≤ _; rw [List.length_map, List.length_take]; omega) (fun v15 Ms16 ho17 => (W.perm (pmC pr9).symm (g9 9 ?_)))))))
  exact ⟨lec, (k + 1, v15, Ms16), hs9, ⟨rfl, (by have h := ho17; rw [List.take_succ_eq_append_getElem om9, List.map_append]; exact h), om9⟩, om9⟩
 refine g9 8 ?_
 refine W.giveO ho_5 (pmC pr9) (fun G18 hG18 hv18 => ?_)
 have hc19 := SlR.cast hv18 (l' := ls.map (clips ⟨slo, shi, so⟩)) (by rw [List.take_of_length_le om9])
 have q21 := hc19.form
 refine match q21 with | ⟨_, _, e_20⟩ => ?_
 subst e_20
 refine W.cS (mlists_fc hc19 om9 (by rw [List.length_map]; omega)) rfl (fun sa_hv23 sc_hv23 G22 hG22 hv23 => (g9 5 ?_))
 refine ⟨rfl, _, rfl, ?_⟩
 · exact hv23

theorem merget_fc {G : GH} {v_l : Value} {l : List Pair} (h_l : SlR ePair G v_l l) (k : Str) {v_ms : Value} {ms : List Msg} (h_ms : SlR eMsg G v_ms ms) (hP : PairsR l) (hm : ∀ m ∈ ms, m.key.b.size < 140737488355328 ∧ m.val.b.size ≤ 16) :
    Fc Tryz.prog 121 [v_l, sV k.b, v_ms] G [] (fun v _ _ => v = .tuple #[sV (Str.b ((Eff.apply (onsN ms k) (getN l k)).getD Str.nil)), .bool ((Eff.apply (onsN ms k) (getN l k)).isSome)]) := by
 obtain ⟨sa_l, sc_l, rfl⟩ := h_l.form
 obtain ⟨sa_ms, sc_ms, rfl⟩ := h_ms.form
 have hr := hP.srt
 have hgv := hP.val k
 have hov := onsN_val ms k (fun m h => (hm m h).2)
 have hos := optS_get (getN l k)
 refine Fc.go [.tmp 6, .tmp 7] Tryz.func121 Tryz.ntmps121 rfl (fun w0 => (g9 10 ?_))
 refine W.qcall (mget_fc h_l _ (by assumption)) rfl (g9 11 ?_)
 refine W.qcall (bufon_fc h_ms _ (by assumption)) rfl (g9 2 ?_)
 refine W.qcall (eapply_fc (onsN ms k).kind (onsN ms k).val (getN l k).isSome ((getN l k).getD Str.nil) om9 om9) rfl (g9 14 ?_)
 refine WC.cond rfl (fun h28 => ?_) (fun h28 => ?_)
 ·refine g9 9 ?_
  show Value.tuple #[Value.string _, Value.bool _] = _
  have hx : Eff.apply (⟨(onsN ms k).kind, (onsN ms k).val⟩ : Eff) (optS (getN l k).isSome ((getN l k).getD Str.nil)) = Eff.apply (onsN ms k) (getN l k) := by rw [hos]
  rw [hx] at h28
  have e : Eff.apply (onsN ms k) (getN l k) = none := by simpa using h28
  rw [e]; rfl
 refine g9 11 ?_
 show Value.tuple #[Value.string _, Value.bool _] = _
 have hx : Eff.apply (⟨(onsN ms k).kind, (onsN ms k).val⟩ : Eff) (optS (getN l k).isSome ((getN l k).getD Str.nil)) = Eff.apply (onsN ms k) (getN l k) := by rw [hos]
 rw [hx] at h28
 have e : (Eff.apply (onsN ms k) (getN l k)).isSome = true := by simpa using h28
 rw [hx, e]

theorem lookof_fc {G : GH} {v_l : Value} {l : List Pair} (h_l : SlR ePair G v_l l) (k : Str) {v_ms : Value} {ms : List Msg} (h_ms : SlR eMsg G v_ms ms) (hP : PairsR l) (hm : ∀ m ∈ ms, m.key.b.size < 140737488355328 ∧ m.val.b.size ≤ 16) :
    Fc Tryz.prog 97 [v_l, sV k.b, v_ms] G [] (fun v _ _ => v = .tuple #[sV (Str.b ((Eff.apply (onsN ms k) (getN l k)).getD Str.nil)), .bool ((Eff.apply (onsN ms k) (getN l k)).isSome)]) := by
 obtain ⟨sa_l, sc_l, rfl⟩ := h_l.form
 obtain ⟨sa_ms, sc_ms, rfl⟩ := h_ms.form
 have hr := hP.srt
 have hgv := hP.val k
 have hov := onsN_val ms k (fun m h => (hm m h).2)
 have hos := optS_get (getN l k)
 refine Fc.go [.tmp 6, .tmp 7] Tryz.func97 Tryz.ntmps97 rfl (fun w0 => (g9 11 ?_))
 refine W.qcall (merget_fc h_l _ h_ms (by assumption) (by assumption)) rfl (g9 8 ?_)
 rfl

theorem rwith_fc {G : GH} {v_l : Value} {l : List Pair} (h_l : SlR ePair G v_l l) (k : Str) (ek : Int) (ev : Str) (hP : PairsR l) (hn : l.length ≤ 1000000) (he : ev.b.size ≤ 1048576) :
    Fc Tryz.prog 126 [v_l, sV k.b, .agg #[iV ek, sV ev.b]] G [] (fun v G' M' => M' = [] ∧ ∃ u0, v = u0 ∧ SlR ePair G' u0 (withN l k (⟨ek, ev⟩ : Eff))) := by
 obtain ⟨sa_l, sc_l, rfl⟩ := h_l.form
 have hl := h_l.len47
 have hgv := hP.val k
 refine Fc.go [.tmp 6] Tryz.func126 Tryz.ntmps126 rfl (fun w0 => (g9 2 ?_))
 refine W.box (L := [iV _, sV _]) rfl rfl (fun b1 => (g9 15 ?_))
 refine WC.loop (X := (Nat) × Value × MH) (fun i => [(8, nt9 i.1), (5, pt9 b1), (0, lV sa_l l.length sc_l), (1, sV k.b), (7, i.2.1)]) (fun i G Ml => Ml = ((b1, ce9 189 [iV ek, sV ev.b]) :: (i.2.2 ++ [])) ∧ OwnR ePair 101 G i.2.1 (List.filter (fun p : Pair => p.key.lt k) (l.take i.1)) i.2.2 ∧ i.1 ≤ l.length) (fun i => l.length - i.1) (0, lV none 0 0, ([] : MH)) hs9 ?_ ?_
 ·exact ⟨rfl, (by simpa using OwnR.nil), om9⟩
 rintro ⟨i, v_7, M_7⟩ gG2 G2 _ hG2 ⟨rfl, ho_7, hi⟩
 try dsimp only at ho_7 hi
 have hfl := filt_le (fun p : Pair => p.key.lt k) l i
 refine WC.fr (f := setL gG2 [(8, nt9 i), (5, pt9 b1), (0, lV sa_l l.length sc_l), (1, sV k.b), (7, v_7)]) rfl (g9 9 ?_)
 refine WC.cd (fun h17 p17 => ?_) (fun h17 p17 => ?_)
 ·refine g9 8 ?_
  refine (h_l.mono hG2).a1 (i := i) om9 (fun he3 => (g9 4 ?_))
  refine W.qcall (less_fc _ _) rfl (g9 2 ?_)
  refine WC.cond rfl (fun h26 => ?_) (fun h26 => ?_)
  ·refine g9 4 ?_
   refine (h_l.mono hG2).a1 (i := i) om9 (fun he6 => (g9 2 ?_))
   refine W.lit (e := ePair) (l := [((l)[i])]) (css := [[sV _, sV _]]) sl41 ty101 zr101 rfl rfl rfl rfl rfl rfl ⟨rfl, trivial⟩ (fun bl9 G9 hG9 hv9 => (W.app (e := ePair) sl41 ty101 zr101 rfl by101 rfl rfl ((ho_7.mono hG9)) (hv9) (pmC pr9) (by show (_ + 1) * 32 ≤ _; (try simp only [List.length_append] at *); omega) (fun v10 Ms11 ho12 => (W.perm (pmC pr9).symm (g9 10 ?_)))))
   exact ⟨hG9, (i + 1, v10, Ms11), hs9, ⟨rfl, (by have h := ho12; rw [filt_t (p := (fun p : Pair => p.key.lt k)) om9 (by simpa using h26)]; exact h), om9⟩, om9⟩
  refine g9 9 ?_
  exact ⟨Le.rfl, (i + 1, v_7, M_7), hs9, ⟨rfl, (by have h := ho_7; rw [filt_f (p := (fun p : Pair => p.key.lt k)) om9 (by simpa using h26)]; exact h), om9⟩, om9⟩
 refine g9 9 ?_
 refine W.qcall (rget_fc (h_l.mono hG2) _) rfl (g9 12 ?_)
 refine W.qcall (rapply_fc _ _ _ _ (by first | assumption | omega | (dsimp only; omega) | (simp; omega)) (by first | assumption | omega | (dsimp only; omega) | (simp; omega))) rfl (g9 13 ?_)
 refine WC.cond rfl (fun h44_0 => ?_) (fun h44_0 => ?_)
 ·refine g9 4 ?_
  refine W.ok (ok_build (L := [sV _, sV _]) pl101 zr101 rfl rfl rfl) (W.lit (e := ePair) (l := [⟨k, (((Eff.apply (⟨(ek), (ev)⟩ : Eff) (optS (((getN (l) (k)).isSome)) (((getN (l) (k)).getD Str.nil))))).getD Str.nil)⟩]) (css := [[sV _, sV _]]) sl41 ty101 zr101 rfl rfl rfl rfl rfl rfl ⟨rfl, trivial⟩ (fun bl13 G13 hG13 hv13 => (W.app (e := ePair) sl41 ty101 zr101 rfl by101 rfl rfl ((ho_7.mono hG13)) (hv13) (pmC pr9) (by show (_ + 1) * 32 ≤ _; (try simp only [List.length_append] at *); omega) (fun v14 Ms15 ho16 => (W.perm (pmC pr9).symm (g9 10 ?_))))))
  refine WC.loop (X := (Nat) × Value × MH) (fun i => [(13, nt9 i.1), (0, lV sa_l l.length sc_l), (1, sV k.b), (7, i.2.1)]) (fun i G Ml => Ml = ((b1, ce9 189 [iV ek, sV ev.b]) :: (i.2.2 ++ [])) ∧ OwnR ePair 101 G i.2.1 ((List.filter (fun p : Pair => p.key.lt k) l ++ midN (Eff.apply (⟨ek, ev⟩ : Eff) (getN l k)) k) ++ List.filter (fun p : Pair => k.lt p.key) (l.take i.1)) i.2.2 ∧ i.1 ≤ l.length) (fun i => l.length - i.1) (0, v14, Ms15) hs9 ?_ ?_
  ·exact ⟨rfl, (by have h := ho16; rw [List.take_of_length_le om9] at h; have hs := h44_0; rw [optS_get] at hs; rw [midN_some hs]; rw [optS_get] at h; simpa using h), om9⟩
  rintro ⟨i, v_7, M_7⟩ gG17 G17 _ hG17 ⟨rfl, ho_7, hi⟩
  try dsimp only at ho_7 hi
  have hfl := filt_le (fun p : Pair => k.lt p.key) l i
  have hfl2 := List.length_filter_le (fun p : Pair => p.key.lt k) l
  have hml := midN_le (Eff.apply (⟨ek, ev⟩ : Eff) (getN l k)) k
  refine WC.fr (f := setL gG17 [(13, nt9 i), (0, lV sa_l l.length sc_l), (1, sV k.b), (7, v_7)]) rfl (g9 9 ?_)
  refine WC.cd (fun h57 p57 => ?_) (fun h57 p57 => ?_)
  ·refine g9 9 ?_
   refine (h_l.mono ((hG2.trans hG13).trans hG17)).a1 (i := i) om9 (fun he18 => (g9 3 ?_))
   refine W.qcall (less_fc _ _) rfl (g9 2 ?_)
   refine WC.cond rfl (fun h66 => ?_) (fun h66 => ?_)
   ·refine g9 4 ?_
    refine (h_l.mono ((hG2.trans hG13).trans hG17)).a1 (i := i) om9 (fun he21 => (g9 2 ?_))
    refine W.lit (e := ePair) (l := [((l)[i])]) (css := [[sV _, sV _]]) sl41 ty101 zr101 rfl rfl rfl rfl rfl rfl ⟨rfl, trivial⟩ (fun bl24 G24 hG24 hv24 => (W.app (e := ePair) sl41 ty101 zr101 rfl by101 rfl rfl ((ho_7.mono hG24)) (hv24) (pmC pr9) (by show (_ + 1) * 32 ≤ _; (try simp only [List.length_append] at *); omega) (fun v25 Ms26 ho27 => (W.perm (pmC pr9).symm (g9 10 ?_)))))
    exact ⟨hG24, (i + 1, v25, Ms26), hs9, ⟨rfl, (by have h := ho27; rw [filt_t (p := (fun p : Pair => k.lt p.key)) om9 (by simpa using h66), ← List.append_assoc]; exact h), om9⟩, om9⟩
   refine g9 9 ?_
   exact ⟨Le.rfl, (i + 1, v_7, M_7), hs9, ⟨rfl, (by have h := ho_7; rw [filt_f (p := (fun p : Pair => k.lt p.key)) om9 (by simpa using h66)]; exact h), om9⟩, om9⟩
  refine g9 11 ?_
  refine WC.giveO ho_7 (pmC pr9) (fun G28 hG28 hv28 => (g9 2 ?_))
  refine ⟨rfl, _, rfl, ?_⟩
  · have h := hv28; rw [List.take_of_length_le om9, ← withN_mid] at h; exact h
 refine g9 9 ?_
 refine WC.loop (X := (Nat) × Value × MH) (fun i => [(13, nt9 i.1), (0, lV sa_l l.length sc_l), (1, sV k.b), (7, i.2.1)]) (fun i G Ml => Ml = ((b1, ce9 189 [iV ek, sV ev.b]) :: (i.2.2 ++ [])) ∧ OwnR ePair 101 G i.2.1 ((List.filter (fun p : Pair => p.key.lt k) l ++ midN (Eff.apply (⟨ek, ev⟩ : Eff) (getN l k)) k) ++ List.filter (fun p : Pair => k.lt p.key) (l.take i.1)) i.2.2 ∧ i.1 ≤ l.length) (fun i => l.length - i.1) (0, v_7, M_7) hs9 ?_ ?_
 ·exact ⟨rfl, (by have h := ho_7; rw [List.take_of_length_le om9] at h; have hs := h44_0; rw [optS_get] at hs; rw [midN_none hs]; simpa using h), om9⟩
 rintro ⟨i, v_7, M_7⟩ gG29 G29 _ hG29 ⟨rfl, ho_7, hi⟩
 try dsimp only at ho_7 hi
 have hfl := filt_le (fun p : Pair => k.lt p.key) l i
 have hfl2 := List.length_filter_le (fun p : Pair => p.key.lt k) l
 have hml := midN_le (Eff.apply (⟨ek, ev⟩ : Eff) (getN l k)) k
 refine WC.fr (f := setL gG29 [(13, nt9 i), (0, lV sa_l l.length sc_l), (1, sV k.b), (7, v_7)]) rfl (g9 9 ?_)
 refine WC.cd (fun h57 p57 => ?_) (fun h57 p57 => ?_)
 ·refine g9 9 ?_
  refine (h_l.mono (hG2.trans hG29)).a1 (i := i) om9 (fun he30 => (g9 3 ?_))
  refine W.qcall (less_fc _ _) rfl (g9 2 ?_)
  refine WC.cond rfl (fun h66 => ?_) (fun h66 => ?_)
  ·refine g9 4 ?_
   refine (h_l.mono (hG2.trans hG29)).a1 (i := i) om9 (fun he33 => (g9 2 ?_))
   refine W.lit (e := ePair) (l := [((l)[i])]) (css := [[sV _, sV _]]) sl41 ty101 zr101 rfl rfl rfl rfl rfl rfl ⟨rfl, trivial⟩ (fun bl36 G36 hG36 hv36 => (W.app (e := ePair) sl41 ty101 zr101 rfl by101 rfl rfl ((ho_7.mono hG36)) (hv36) (pmC pr9) (by show (_ + 1) * 32 ≤ _; (try simp only [List.length_append] at *); omega) (fun v37 Ms38 ho39 => (W.perm (pmC pr9).symm (g9 10 ?_)))))
   exact ⟨hG36, (i + 1, v37, Ms38), hs9, ⟨rfl, (by have h := ho39; rw [filt_t (p := (fun p : Pair => k.lt p.key)) om9 (by simpa using h66), ← List.append_assoc]; exact h), om9⟩, om9⟩
  refine g9 9 ?_
  exact ⟨Le.rfl, (i + 1, v_7, M_7), hs9, ⟨rfl, (by have h := ho_7; rw [filt_f (p := (fun p : Pair => k.lt p.key)) om9 (by simpa using h66)]; exact h), om9⟩, om9⟩
 refine g9 11 ?_
 refine WC.giveO ho_7 (pmC pr9) (fun G40 hG40 hv40 => (g9 2 ?_))
 refine ⟨rfl, _, rfl, ?_⟩
 · have h := hv40; rw [List.take_of_length_le om9, ← withN_mid] at h; exact h

theorem rtakeF_fc {G : GH} {v_l : Value} {l : List Pair} (h_l : SlR ePair G v_l l) (ms : Int) (mk : Int) (mkey : Str) (mhi : Str) (mo : Bool) (mv : Str) (hP : PairsR l) (hn : l.length ≤ 1000000) (hk : Msg.fit (⟨ms, mk, mkey, mhi, mo, mv⟩ : Msg)) :
    Fc Tryz.prog 102 [v_l, .agg #[iV ms, iV mk, sV mkey.b, sV mhi.b, .bool mo, sV mv.b]] G [] (fun v G' M' => M' = [] ∧ ∃ u0, v = u0 ∧ SlR ePair G' u0 (takeN l (⟨ms, mk, mkey, mhi, mo, mv⟩ : Msg))) := by
 obtain ⟨sa_l, sc_l, rfl⟩ := h_l.form
 obtain ⟨hk1, hk2, hk3⟩ := hk
 dsimp only at hk1 hk2 hk3
 have hl := h_l.len47
 have hov := on_val (m := (⟨ms, mk, mkey, mhi, mo, mv⟩ : Msg)) mkey hk3
 refine Fc.go [.tmp 4] Tryz.func102 Tryz.ntmps102 rfl (fun w0 => (g9 2 ?_))
 refine W.box (L := [iV _, iV _, sV _, sV _, .bool _, sV _]) rfl rfl (fun b1 => (g9 11 ?_))
 refine WC.cn (fun h9 p9 => ?_) (fun h9 p9 => ?_)
 ·refine WC.seq (WC.dw sr9.k9 (d9 [0, 1, 2, 3, 4, 5] ?_))
  refine WD.a1 6 rfl (W.qcall (ron_fc ms mk mkey mhi mo mv mkey om9) rfl (W.nn (WD.a1 7 rfl (W.cS (rwith_fc h_l mkey (Msg.on (⟨ms, mk, mkey, mhi, mo, mv⟩ : Msg) mkey).kind (Msg.on (⟨ms, mk, mkey, mhi, mo, mv⟩ : Msg) mkey).val hP hn om9) rfl (fun sa_hv3 sc_hv3 G2 hG2 hv3 => (W.nn (d9 [8] ?_)))))))
  refine g9 5 ?_
  refine ⟨rfl, _, rfl, ?_⟩
  · have h := hv3; rw [takeN, if_neg (by simpa using h9)]; exact h
 refine g9 14 ?_
 refine WC.loop (X := (Nat) × Value × MH) (fun i => [(6, nt9 i.1), (3, pt9 b1), (0, lV sa_l l.length sc_l), (5, i.2.1)]) (fun i G Ml => Ml = ((b1, ce9 118 [iV ms, iV mk, sV mkey.b, sV mhi.b, .bool mo, sV mv.b]) :: (i.2.2 ++ [])) ∧ OwnR ePair 101 G i.2.1 (List.filter (fun p : Pair => !(Msg.span (⟨ms, mk, mkey, mhi, mo, mv⟩ : Msg)).has p.key) (l.take i.1)) i.2.2 ∧ i.1 ≤ l.length) (fun i => l.length - i.1) (0, lV none 0 0, ([] : MH)) hs9 ?_ ?_
 ·exact ⟨rfl, (by simpa using OwnR.nil), om9⟩
 rintro ⟨i, v_5, M_5⟩ gG9 G9 _ hG9 ⟨rfl, ho_5, hi⟩
 try dsimp only at ho_5 hi
 have hfl := filt_le (fun p : Pair => !(Msg.span (⟨ms, mk, mkey, mhi, mo, mv⟩ : Msg)).has p.key) l i
 refine WC.fr (f := setL gG9 [(6, nt9 i), (3, pt9 b1), (0, lV sa_l l.length sc_l), (5, v_5)]) rfl (g9 9 ?_)
 refine WC.cd (fun h21 p21 => ?_) (fun h21 p21 => ?_)
 ·refine g9 7 ?_
  refine W.qcall (rspan_fc _ _ _ _ _ _ (by first | assumption | omega | (dsimp only; omega))) rfl (g9 2 ?_)
  refine (h_l.mono hG9).a1 (i := i) om9 (fun he10 => (g9 3 ?_))
  refine W.qcall (has_fc _ _ _ _) rfl (g9 3 ?_)
  refine WC.cond rfl (fun h32 => ?_) (fun h32 => ?_)
  ·refine g9 4 ?_
   refine (h_l.mono hG9).a1 (i := i) om9 (fun he13 => (g9 2 ?_))
   refine W.lit (e := ePair) (l := [((l)[i])]) (css := [[sV _, sV _]]) sl41 ty101 zr101 rfl rfl rfl rfl rfl rfl ⟨rfl, trivial⟩ (fun bl16 G16 hG16 hv16 => (W.app (e := ePair) sl41 ty101 zr101 rfl by101 rfl rfl ((ho_5.mono hG16)) (hv16) (pmC pr9) (by show (_ + 1) * 32 ≤ _; (try simp only [List.length_append] at *); omega) (fun v17 Ms18 ho19 => (W.perm (pmC pr9).symm (g9 10 ?_)))))
   exact ⟨hG16, (i + 1, v17, Ms18), hs9, ⟨rfl, (by have h := ho19; rw [filt_t (p := (fun p : Pair => !(Msg.span (⟨ms, mk, mkey, mhi, mo, mv⟩ : Msg)).has p.key)) om9 (by simpa using h32)]; exact h), om9⟩, om9⟩
  refine g9 9 ?_
  exact ⟨Le.rfl, (i + 1, v_5, M_5), hs9, ⟨rfl, (by have h := ho_5; rw [filt_f (p := (fun p : Pair => !(Msg.span (⟨ms, mk, mkey, mhi, mo, mv⟩ : Msg)).has p.key)) om9 (by simpa using h32)]; exact h), om9⟩, om9⟩
 refine g9 11 ?_
 refine WC.giveO ho_5 (pmC pr9) (fun G20 hG20 hv20 => (g9 2 ?_))
 refine ⟨rfl, _, rfl, ?_⟩
 · have h := hv20; rw [List.take_of_length_le om9] at h; rw [takeN, if_pos (by simpa using h9)]; exact h

theorem rfoldF_fc {G : GH} {v_l : Value} {l : List Pair} (h_l : SlR ePair G v_l l) {v_ms : Value} {ms : List Msg} (h_ms : SlR eMsg G v_ms ms) (hP : PairsR l) (hn : l.length + ms.length ≤ 1000000) (hm : ∀ m ∈ ms, m.fit) :
    Fc Tryz.prog 73 [v_l, v_ms] G [] (fun v G' M' => M' = [] ∧ ∃ u0, v = u0 ∧ SlR ePair G' u0 (foldN l ms)) := by
 obtain ⟨sa_l, sc_l, rfl⟩ := h_l.form
 obtain ⟨sa_ms, sc_ms, rfl⟩ := h_ms.form
 have hl := h_l.len47
 have hlm := h_ms.len47
 refine Fc.go [.tmp 4] Tryz.func73 Tryz.ntmps73 rfl (fun w0 => (g9 7 ?_))
 refine W.lit0 (e := ePair) sl41 ty101 zr101 rfl (fun v21 Ms22 ho23 => (W.mv (W.app (e := ePair) sl41 ty101 zr101 rfl by101 rfl rfl (ho23) (h_l) pr9 (by show (0 + _) * 32 ≤ _; omega) (fun v24 Ms25 ho26 => (g9 10 ?_)))))
 refine WC.giveO (ho26) pr9 (fun G27 hG27 hv27 => ?_)
 refine WC.loop (X := (Nat) × Value) (fun k => [(6, nt9 k.1), (1, lV sa_ms ms.length sc_ms), (5, k.2)]) (fun k G Ml => Ml = [] ∧ SlR ePair G k.2 (foldN l (ms.take k.1)) ∧ k.1 ≤ ms.length) (fun k => ms.length - k.1) (0, v24) hs9 ?_ ?_
 ·exact ⟨rfl, (by simpa [foldN] using hv27), om9⟩
 rintro ⟨k, v_5⟩ gG28 G28 _ hG28 ⟨rfl, ho_5, hk⟩
 try dsimp only at ho_5 hk
 have hPk := PairsR.foldF (ms := ms.take k) hP (fun m h => hm m (List.mem_of_mem_take h))
 have hnk := fold_lenF (ms := ms.take k) hP (fun m h => hm m (List.mem_of_mem_take h))
 have hkl : (ms.take k).length ≤ k := by simp; omega
 refine WC.fr (f := setL gG28 [(6, nt9 k), (1, lV sa_ms ms.length sc_ms), (5, v_5)]) rfl (g9 9 ?_)
 refine WC.cd (fun h13 p13 => ?_) (fun h13 p13 => ?_)
 ·refine g9 8 ?_
  refine (h_ms.mono (hG27.trans hG28)).a2 (i := k) om9 (fun he29 hm30 => (g9 2 ?_))
  refine W.cS (rtakeF_fc ho_5 ms[k].stamp ms[k].kind ms[k].key ms[k].hi ms[k].opn ms[k].val hPk om9 (hm _ (List.getElem_mem _))) rfl (fun sa_hv35 sc_hv35 G34 hG34 hv35 => (g9 10 ?_))
  exact ⟨hG34, (k + 1, lV sa_hv35 (takeN (foldN l (ms.take k)) ms[k]).length sc_hv35), hs9, ⟨rfl, (by have h := hv35; rw [foldN_succ om9]; exact h), om9⟩, om9⟩
 refine g9 13 ?_
 refine ⟨rfl, _, rfl, ?_⟩
 · have h := ho_5; rw [List.take_of_length_le om9] at h; exact h

theorem rview_fc {G : GH} {v_l : Value} {l : List Pair} (h_l : SlR ePair G v_l l) (slo : Str) (shi : Str) (so : Bool) {v_ms : Value} {ms : List Msg} (h_ms : SlR eMsg G v_ms ms) (hP : PairsR l) (hn : l.length + ms.length ≤ 1000000) (hm : ∀ m ∈ ms, m.key.b.size ≤ 16 ∧ m.val.b.size ≤ 16) (hs : slo.b.size ≤ 300) :
    Fc Tryz.prog 46 [v_l, .agg #[sV slo.b, sV shi.b, .bool so], v_ms] G [] (fun v G' M' => M' = [] ∧ ∃ u0, v = u0 ∧ SlR ePair G' u0 (foldN (l.filter fun p => Span.has ⟨slo, shi, so⟩ p.key) (clips ⟨slo, shi, so⟩ ms))) := by
 obtain ⟨sa_l, sc_l, rfl⟩ := h_l.form
 obtain ⟨sa_ms, sc_ms, rfl⟩ := h_ms.form
 have hPf : PairsR (l.filter fun p => Span.has ⟨slo, shi, so⟩ p.key) := hP.filter _
 have hcm := clips_fit (s := ⟨slo, shi, so⟩) hs hm
 have hcl : (clips ⟨slo, shi, so⟩ ms).length ≤ ms.length := clips_le
 have hfl := List.length_filter_le (fun p : Pair => Span.has ⟨slo, shi, so⟩ p.key) l
 have hks : ∀ m ∈ ms, m.key.b.size < 140737488355328 := fun m h => by have := (hm m h).1; omega
 refine Fc.go [.tmp 6] Tryz.func46 Tryz.ntmps46 rfl (fun w0 => (g9 2 ?_))
 refine W.box (L := [sV _, sV _, .bool _]) rfl rfl (fun b1 => (g9 4 ?_))
 refine WC.dw sr9.k9 (d9 [0, 1, 2, 3, 5, 6] ?_)
 refine WD.a1 4 rfl (W.cS (rscan_fc h_l slo shi so (l.length : Int) om9) rfl (fun sa_hv3 sc_hv3 G2 hG2 hv3 => (W.nn (WD.a1 7 rfl (W.cS (rclips_fc (h_ms.mono hG2) slo shi so hks) rfl (fun sa_hv10 sc_hv10 G9 hG9 hv10 => (W.nn (WD.a1 8 rfl (W.cS (rfoldF_fc (SlR.cast (hv3.mono hG9) (scan_whole l ⟨slo, shi, so⟩)) hv10 hPf om9 hcm) rfl (fun sa_hv17 sc_hv17 G16 hG16 hv17 => (W.nn (d9 [9] ?_))))))))))))
 refine g9 4 ?_
 refine ⟨rfl, _, rfl, ?_⟩
 · exact hv17

theorem nspan_fc {G : GH} {cs_a : List Value} {a : Nd} (h_a : NodeC G cs_a a) :
    Fc Tryz.prog 119 [.agg (List.toArray cs_a)] G [] (fun v _ _ => v = .agg (List.toArray ((nspN a).cells))) := by
 obtain ⟨pa_a, pc_a, ka_a, kc_a, ma_a, mc_a, ra_a, rc_a, rfl, hp_a, hk_a, hm_a, hr_a, hok_a⟩ := h_a
 refine Fc.intro (rs := [.cell 2 45]) cl119 Tryz.func119 rfl Tryz.ntmps119 rfl rfl (fun w0 => ?_)
 refine WC.seq ?_
 refine WC.region ?_
 refine W.box (L := [.int .i64 _, .int .i64 _, .slice _ _ _, .slice _ _ _, .string _, .bool _, .int .i64 _, .int .i64 _, .slice _ _ _, .slice _ _ _]) rfl rfl (fun b1 => ?_)
 refine W.alloc zr45 (fun b2 => ?_)
 refine W.nil (thn_n ?_)
 refine WC.seq ?_
 refine WC.seq ?_
 refine WC.region ?_
 refine W.ok (ok_fieldB fd43_5 rfl) ?_
 refine W.ok (ok_loadB (i := 1) (vs := [.bool _]) ty4 rfl rfl rfl rfl (by simp)) ?_
 refine W.nil (thn_n ?_)
 refine WC.cond (b := _) rfl (fun hb_top_a => ?_) (fun hb_top_a => ?_)
 ·refine WC.seq ?_
  refine WC.region ?_
  refine W.qcall (spanall_fc ) rfl ?_
  refine W.store (i := 0) (vs := [.string _, .string _, .bool _]) (L' := [.string _, .string _, .bool _]) ty45 rfl rfl rfl rfl rfl rfl rfl rfl ?_
  refine W.nil (thn_n ?_)
  refine WC.ret (thn_r ?_)
  refine ⟨.inr rfl, [_], ⟨⟨_, _, _, _, _, rfl, nthM_mem (i := 0) rfl, ty45, (by simp), rfl, rfl⟩, trivial⟩, [], List.nil_sublist _, ?_⟩
  exact congrArg (fun s : Span => Value.agg (List.toArray s.cells)) (show _ = nspN a from (if_pos hb_top_a).symm)
 ·refine WC.skip (thn_n ?_)
  refine WC.seq ?_
  refine WC.region ?_
  refine W.ok (ok_fieldB fd43_4 rfl) ?_
  refine W.ok (ok_loadB (i := 1) (vs := [.string _]) ty9 rfl rfl rfl rfl (by simp)) ?_
  refine W.ok (ok_build (L := [.string _, .string _, .bool _]) pl45 zr45 rfl rfl rfl) ?_
  refine W.qcall (spannorm_fc Str.nil _ _) rfl ?_
  refine W.store (i := 0) (vs := [.string _, .string _, .bool _]) (L' := [.string _, .string _, .bool _]) ty45 rfl rfl rfl rfl rfl rfl rfl rfl ?_
  refine W.nil (thn_n ?_)
  refine WC.ret ?_
  refine ⟨.inr rfl, [_], ⟨⟨_, _, _, _, _, rfl, nthM_mem (i := 0) rfl, ty45, (by simp), rfl, rfl⟩, trivial⟩, [], List.nil_sublist _, ?_⟩
  exact congrArg (fun s : Span => Value.agg (List.toArray s.cells)) (show _ = nspN a from (if_neg (by rw [hb_top_a]; decide)).symm)

theorem nodehas_fc {G : GH} {cs_a : List Value} {a : Nd} (h_a : NodeC G cs_a a) (k : Str) :
    Fc Tryz.prog 95 [.agg (List.toArray cs_a), .string k.b] G [] (fun v _ _ => v = .bool ((nspN a).has k)) := by
 obtain ⟨pa_a, pc_a, ka_a, kc_a, ma_a, mc_a, ra_a, rc_a, rfl, hp_a, hk_a, hm_a, hr_a, hok_a⟩ := h_a
 refine Fc.intro (rs := [.tmp 4]) cl95 Tryz.func95 rfl Tryz.ntmps95 rfl rfl (fun w0 => ?_)
 refine WC.seq ?_
 refine WC.region ?_
 refine W.box (L := [.int .i64 _, .int .i64 _, .slice _ _ _, .slice _ _ _, .string _, .bool _, .int .i64 _, .int .i64 _, .slice _ _ _, .slice _ _ _]) rfl rfl (fun b3 => ?_)
 refine W.as ?_
 refine W.nil (thn_n ?_)
 refine WC.seq ?_
 refine WC.region ?_
 refine W.ok (ok_loadB (i := 0) (vs := [.int .i64 _, .int .i64 _, .slice _ _ _, .slice _ _ _, .string _, .bool _, .int .i64 _, .int .i64 _, .slice _ _ _, .slice _ _ _]) ty43 rfl rfl rfl rfl (by simp)) ?_
 refine W.qcall (nspan_fc ⟨_, _, _, _, _, _, _, _, rfl, hp_a, hk_a, hm_a, hr_a, hok_a⟩) rfl ?_
 refine W.mv ?_
 refine W.qcall (spanhas_fc _ _ _ _) rfl ?_
 refine W.as ?_
 refine W.nil (thn_n ?_)
 refine WC.ret ?_
 refine ⟨.inr rfl, [_], ⟨rfl, trivial⟩, [], List.nil_sublist _, ?_⟩
 rfl

theorem rdtake_fc {G : GH} {b_r : Nat} {fr : Int} {to : Int} {b_c : Nat} {Th : List Int} {b_h b_t : Nat} {vS : Option Addr} {vM : Value} {wt ch th most : Int} {Lw : Lat} {Ms_h : MH} (h_h : HcR 128 132 3 79 76 Th b_h b_c b_t vS vM wt ch G th most Lw Ms_h) {key : Str} {vn : Value} {vl : Value} {vp : Value} {dn : Bool} {va : Str} (hth : th ∈ Th) :
    Fc Tryz.prog 44 [.pointer (some ⟨b_r, 0, none⟩)] G ((b_r, .cells (List.toArray [.int .i64 fr, .int .i64 to, .pointer (some ⟨b_c, 0, none⟩), .pointer (some ⟨b_h, 0, none⟩), .string key.b, vn, vl, vp, .bool dn, .int .i64 0, .bool false, .string va.b, .slice none 0 0]) 98 (0, 0)) :: (Ms_h)) (fun v G' M' => ((htakeN Lw th to false).1 = true ∧ v = .bool true ∧ ∃ Mh, M' = (b_r, .cells (List.toArray [.int .i64 fr, .int .i64 to, .pointer (some ⟨b_c, 0, none⟩), .pointer (some ⟨b_h, 0, none⟩), .string key.b, .func (.func 71) #[] #[], vl, .bool (decide (fr = -1)), .bool dn, .int .i64 0, .bool false, .string va.b, .slice none 0 0]) 98 (0, 0)) :: Mh ∧ HcR 128 132 3 79 76 Th b_h b_c b_t vS vM wt ch G' th (hmost (htakeN Lw th to false).2 th most) (lrelN (htakeN Lw th to false).2 th fr).2 Mh) ∨ ((htakeN Lw th to false).1 = false ∧ v = .bool false ∧ ∃ Mh, M' = (b_r, .cells (List.toArray [.int .i64 fr, .int .i64 to, .pointer (some ⟨b_c, 0, none⟩), .pointer (some ⟨b_h, 0, none⟩), .string key.b, vn, vl, vp, .bool dn, .int .i64 0, .bool false, .string va.b, .slice none 0 0]) 98 (0, 0)) :: Mh ∧ HcR 128 132 3 79 76 Th b_h b_c b_t vS vM wt ch G' th most (htakeN Lw th to false).2 Mh)) := by
 refine Fc.intro (rs := [.tmp 2]) cl44 Tryz.func44 rfl Tryz.ntmps44 rfl rfl (fun w0 => ?_)
 refine WC.perm (M' := ((b_r, .cells (List.toArray [.int .i64 fr, .int .i64 to, .pointer (some ⟨b_c, 0, none⟩), .pointer (some ⟨b_h, 0, none⟩), .string key.b, vn, vl, vp, .bool dn, .int .i64 0, .bool false, .string va.b, .slice none 0 0]) 98 (0, 0)) :: (Ms_h ++ []))) (by simp) ?_
 refine WC.seq ?_
 refine WC.region ?_
 refine W.as ?_
 refine W.nil (thn_n ?_)
 refine WC.seq ?_
 refine WC.seq ?_
 refine WC.drawW _ ((List.nil_sublist _).cons_cons _) mix (by rintro _ _ _ _ ⟨h | h, _⟩ <;> cases h) ?_
 refine WD.take 0 rfl rfl rfl (by kernel_rfl) (by kernel_rfl) (by kernel_rfl) (ok_mv) ?_
 refine WD.take 1 rfl rfl rfl (by kernel_rfl) (by kernel_rfl) (by kernel_rfl) (ok_nilP rfl) ?_
 refine WD.take 2 rfl rfl rfl (by kernel_rfl) (by kernel_rfl) (by kernel_rfl) (ok_fieldB fd98_2 rfl) ?_
 refine WD.take 3 rfl rfl rfl (by kernel_rfl) (by kernel_rfl) (by kernel_rfl) (ok_loadB (i := 0) (vs := [.pointer _]) ty32 rfl rfl rfl rfl (by simp)) ?_
 refine WD.take 4 rfl rfl rfl (by kernel_rfl) (by kernel_rfl) (by kernel_rfl) (ok_mv) ?_
 refine WD.take 5 rfl rfl rfl (by kernel_rfl) (by kernel_rfl) (by kernel_rfl) (ok_nilP rfl) ?_
 refine WD.take 6 rfl rfl rfl (by kernel_rfl) (by kernel_rfl) (by kernel_rfl) (ok_fieldB fd98_0 rfl) ?_
 refine WD.take 7 rfl rfl rfl (by kernel_rfl) (by kernel_rfl) (by kernel_rfl) (ok_fieldB fd95_1 rfl) ?_
 refine WD.take 8 rfl rfl rfl (by kernel_rfl) (by kernel_rfl) (by kernel_rfl) (ok_loadB (i := 0) (vs := [.int .i64 _]) ty3 rfl rfl rfl rfl (by simp)) ?_
 refine WD.any [9] (by kernel_rfl) rfl ⟨⟨_, rfl, rfl, ?_⟩, trivial⟩
 refine W.call (Mp := Ms_h) (htake_fc h_h to false hth) rfl (pmC (List.Perm.refl _)) ?_
 intro v7 G4 Ms6 hG4 q5
 refine match q5 with | ⟨e_9, hR8⟩ => ?_
 subst e_9
 refine W.perm (pmC (List.Perm.refl _)).symm ?_
 refine W.nil ⟨hG4, (List.nil_sublist _).cons_cons _, _, (List.nil_sublist _).cons_cons _, List.Sublist.refl _, ?_⟩
 refine WD.take 10 rfl rfl rfl (by kernel_rfl) (by kernel_rfl) (by kernel_rfl) (ok_not rfl) ?_
 refine WD.done (by kernel_rfl) (thn_n ?_)
 refine WC.cond (b := _) rfl (fun h13 => ?_) (fun h13 => ?_)
 ·have h12 : (htakeN Lw th to false).1 = false := by simpa using h13
  refine WC.seq ?_
  refine WC.region ?_
  refine W.as ?_
  refine W.nil (thn_n ?_)
  refine WC.ret (thn_r ?_)
  refine ⟨.inr rfl, [_], ⟨rfl, trivial⟩, ((b_r, .cells (List.toArray [.int .i64 fr, .int .i64 to, .pointer (some ⟨b_c, 0, none⟩), .pointer (some ⟨b_h, 0, none⟩), .string key.b, vn, vl, vp, .bool dn, .int .i64 0, .bool false, .string va.b, .slice none 0 0]) 98 (0, 0)) :: Ms6), (List.sublist_append_left _ _).cons_cons _, ?_⟩
  exact .inr ⟨h12, rfl, _, congrArg _ (by simp), HcR.cast (show most = (if (htakeN Lw th to false).1 = true then hmost (htakeN Lw th to false).2 th most else most) by rw [h12]; rfl) rfl hR8⟩
 ·have h12 : (htakeN Lw th to false).1 = true := by simpa using h13
  refine WC.skip (thn_n ?_)
  refine WC.seq ?_
  refine WC.drawW _ ((List.nil_sublist _).cons_cons _) mix (by rintro _ _ _ _ ⟨h | h, _⟩ <;> cases h) ?_
  refine WD.take 0 rfl rfl rfl (by kernel_rfl) (by kernel_rfl) (by kernel_rfl) (ok_mv) ?_
  refine WD.take 1 rfl rfl rfl (by kernel_rfl) (by kernel_rfl) (by kernel_rfl) (ok_nilP rfl) ?_
  refine WD.take 2 rfl rfl rfl (by kernel_rfl) (by kernel_rfl) (by kernel_rfl) (ok_fieldB fd98_2 rfl) ?_
  refine WD.take 3 rfl rfl rfl (by kernel_rfl) (by kernel_rfl) (by kernel_rfl) (ok_loadB (i := 0) (vs := [.pointer _]) ty32 rfl rfl rfl rfl (by simp)) ?_
  refine WD.take 4 rfl rfl rfl (by kernel_rfl) (by kernel_rfl) (by kernel_rfl) (ok_mv) ?_
  refine WD.take 5 rfl rfl rfl (by kernel_rfl) (by kernel_rfl) (by kernel_rfl) (ok_nilP rfl) ?_
  refine WD.take 6 rfl rfl rfl (by kernel_rfl) (by kernel_rfl) (by kernel_rfl) (ok_fieldB fd98_0 rfl) ?_
  refine WD.take 7 rfl rfl rfl (by kernel_rfl) (by kernel_rfl) (by kernel_rfl) (ok_fieldB fd95_0 rfl) ?_
  refine WD.take 8 rfl rfl rfl (by kernel_rfl) (by kernel_rfl) (by kernel_rfl) (ok_loadB (i := 0) (vs := [.int .i64 _]) ty3 rfl rfl rfl rfl (by simp)) ?_
  refine WD.any [9] (by kernel_rfl) rfl ⟨⟨_, rfl, rfl, ?_⟩, trivial⟩
  refine W.call (Mp := Ms6) (hlet_fc hR8 fr) rfl (pmC (List.Perm.refl _)) ?_
  intro v13 G10 Ms12 hG10 q11
  refine match q11 with | ⟨_, hR14⟩ => ?_
  refine W.perm (pmC (List.Perm.refl _)).symm ?_
  refine W.nil ⟨hG10, (List.nil_sublist _).cons_cons _, _, (List.nil_sublist _).cons_cons _, List.Sublist.refl _, ?_⟩
  refine WD.done (by kernel_rfl) (thn_n ?_)
  refine WC.seq ?_
  refine WC.region ?_
  refine W.mv ?_
  refine W.mv ?_
  refine W.ok (ok_nilP rfl) ?_
  refine W.ok (ok_fieldB fd98_0 rfl) ?_
  refine W.ok (ok_fieldB fd95_0 rfl) ?_
  refine W.ok (ok_loadB (i := 0) (vs := [.int .i64 _]) ty3 rfl rfl rfl rfl (by simp)) ?_
  refine W.ok (ok_eql rfl rfl) ?_
  refine W.ok (ok_nilP rfl) ?_
  refine W.ok (ok_fieldB fd98_6 rfl) ?_
  refine W.store (i := 0) (vs := [.bool _]) (L' := [_, _, _, _, _, _, _, .bool _, _, _, _, _, _]) ty4 rfl rfl rfl rfl rfl rfl rfl rfl ?_
  refine W.nil (thn_n ?_)
  refine WC.seq ?_
  refine WC.region ?_
  refine W.mv ?_
  refine W.ok (ok_nilP rfl) ?_
  refine W.ok (ok_fieldB fd98_4 rfl) ?_
  refine W.store (i := 0) (vs := [.func _ _ _]) (L' := [_, _, _, _, _, .func _ _ _, _, _, _, _, _, _, _]) ty96 rfl rfl rfl rfl rfl rfl rfl rfl ?_
  refine W.nil (thn_n ?_)
  refine WC.seq ?_
  refine WC.region ?_
  refine W.as ?_
  refine W.nil (thn_n ?_)
  refine WC.ret ?_
  refine ⟨.inr rfl, [_], ⟨rfl, trivial⟩, ((b_r, .cells (List.toArray [.int .i64 fr, .int .i64 to, .pointer (some ⟨b_c, 0, none⟩), .pointer (some ⟨b_h, 0, none⟩), .string key.b, .func (.func 71) #[] #[], vl, .bool (decide (fr = -1)), .bool dn, .int .i64 0, .bool false, .string va.b, .slice none 0 0]) 98 (0, 0)) :: Ms12), (List.sublist_append_left _ _).cons_cons _, ?_⟩
  exact .inl ⟨h12, rfl, _, congrArg _ (by simp), HcR.cast (show hmost (htakeN Lw th to false).2 th most = (if (htakeN Lw th to false).1 = true then hmost (htakeN Lw th to false).2 th most else most) by rw [h12]; rfl) rfl hR14⟩

end Go.Proofs.YtgmnljhiojdigaaGreat
