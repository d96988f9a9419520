/- Two things that container/heap can work with. -/
import Derived.Test.YtcngningbcaggaaQkW9
set_option maxRecDepth 100000
set_option maxHeartbeats 1600000
set_option linter.unusedVariables false
set_option linter.unusedSimpArgs false
set_option linter.unnecessarySimpa false
namespace Go.Proofs.Ytcngningbcaggaa
open Go Go.Fw Go.RowKit
attribute [local irreducible] Ok W WC

abbrev HeadsR (b : Nat) (Tb : TypeId) (G : GH) (l : List Hd) (M : MH) : Prop := (∀ h ∈ l, 0 < h.1.length) ∧ ∃ v Ms, M = (b, ce9 Tb [v]) :: Ms ∧ OwnR eHead 127 G v l Ms
abbrev HeadV (G : GH) (u : Value) (a : Hd) : Prop := (∃ p c, u = .iface 127 (.agg (List.toArray [lV p a.1.length c, iV a.2])) ∧ SlR eMsg G (lV p a.1.length c) a.1 ∧ i64 a.2) ∧ 0 < a.1.length
theorem rlists_fc {G : GH} {v_ls : Value} {ls : List (List Msg)} (h_ls : SlR (eSl eMsg) G v_ls ls) (ht : totN ls ≤ 100000000) (hln : ls.length ≤ 100000) :
    Fc Try.prog 37 [v_ls] G [] (fun v G' M' => M' = [] ∧ ∃ u0, v = u0 ∧ SlR eMsg G' u0 (mergeN ls)) := by
 obtain ⟨sa_ls, sc_ls, rfl⟩ := h_ls.form
 have hl := h_ls.len47
 refine Fc.go [.tmp 2] Try.func37 Try.ntmps37 rfl (fun w0 => (g9 9 ?_))
 refine W.mkSl (e := eInt) (a0 := (0 : Int)) (n := (ls).length) sl30 ty3 zr3 rfl by3 (⟨rfl, by decide, by decide⟩) rfl rfl (by first | (show _ * 8 ≤ 140737488355328; omega) | (show _ * 1 ≤ 16777216; omega)) (by first | (show _ * 8 ≤ 140737488355328; omega) | (show _ * 1 ≤ 16777216; omega)) (fun v1 Ms2 ho3 => (g9 9 ?_))
 refine WC.loop (X := (List Nat × List Msg) × Value × MH × Value × MH) (fun x => [(0, lV sa_ls ls.length sc_ls), (3, x.2.1), (4, x.2.2.2.1)]) (fun x G Ml => Ml = (x.2.2.1 ++ (x.2.2.2.2 ++ [])) ∧ OwnR eInt 3 G x.2.1 (nats x.1.1) x.2.2.1 ∧ OwnR eMsg 90 G x.2.2.2.1 (x.1.2) x.2.2.2.2 ∧ x.1.1.length = ls.length ∧ x.1.2 ++ mergeN (curN ls x.1.1) = mergeN ls) (fun x => totN (curN ls x.1.1)) (((List.replicate ls.length 0, []) : List Nat × List Msg), v1, Ms2, lV none 0 0, ([] : MH)) hs9 ?_ ?_
 ·exact ⟨rfl, (by simpa [nats] using ho3), (by simpa using OwnR.nil), by simp, by rw [curN_zero]; rfl⟩
 rintro ⟨⟨ps, out⟩, v_3, M_3, v_4, M_4⟩ gG4 G4 _ hG4 ⟨rfl, ho_3, ho_4, hpl, hm⟩
 try dsimp only at ho_3 ho_4 hpl hm
 have hcl := curN_len hpl
 have hml := congrArg List.length hm
 rw [List.length_append] at hml
 have hml2 := merge_len ls
 have hnl : (nats ps).length = ps.length := List.length_map ..
 refine WC.fr (f := setL gG4 [(0, lV sa_ls ls.length sc_ls), (3, v_3), (4, v_4)]) rfl (g9 13 ?_)
 refine WC.loop (X := Nat × Int) (fun y => [(5, iV y.2), (6, nt9 y.1), (3, v_3), (4, v_4), (0, lV sa_ls ls.length sc_ls)]) (fun y _ Ml => Ml = (M_3 ++ (M_4 ++ [])) ∧ y.1 ≤ ls.length ∧ BI (curN ls ps) y.1 y.2) (fun y => ls.length - y.1) ((0, -1) : Nat × Int) hs9 ?_ ?_
 ·exact ⟨rfl, Nat.zero_le _, BI_nil _⟩
 rintro ⟨j, c⟩ gG5 G5 _ hG5 ⟨rfl, hj, hbi⟩
 dsimp only at hj hbi
 refine WC.fr (f := setL gG5 [(5, iV c), (6, nt9 j), (3, v_3), (4, v_4), (0, lV sa_ls ls.length sc_ls)]) rfl (g9 9 ?_)
 refine WC.cd (fun h13 p13 => ?_) (fun h13 p13 => ?_)
 ·try dsimp only at p13
  refine g9 8 ?_
  refine (ho_3.mono hG5).a2 (i := j) om9 (fun he6 hi7 => (W.ok (ok_indexAddrO (i := j) sl30 ty3 (ho_3.mono hG5) rfl rfl ⟨om9, om9⟩) (W.ok (ok_loadO (vs := ic9) ty3 he6 pr9 rfl rfl rfl (by simp)) (g9 2 ?_))))
  have q13 := (h_ls.mono (hG4.trans hG5)).at (i := j) om9
  refine match q13 with | ⟨_, he10, ⟨_, e_12, hs11⟩⟩ => ?_
  subst e_12
  obtain ⟨sa_hs11, sc_hs11, rfl⟩ := hs11.form
  refine g9 5 ?_
  refine W.sd 26 (fun h25 p25 => ?_) (fun h25 p25 => ?_)
  ·try dsimp only at p25
   have hpj : (nats ps)[j]'om9 = ((ps[j]'om9 : Nat) : Int) := by simp
   refine g9 6 ?_
   refine W.sd 29 (fun h28 p28 => ?_) (fun h28 p28 => ?_)
   ·try dsimp only at p28
    refine g9 41 ?_
    exact ⟨Le.rfl, ((j + 1, (j : Int)) : Nat × Int), hs9, ⟨rfl, by dsimp only; omega, BI_first hbi p28 om9 (by rw [curN_atlen om9 om9]; omega)⟩, by dsimp only; omega⟩
   try dsimp only at p28
   obtain ⟨b, hbC, rfl, hbj, hbn⟩ := BI_best hbi p28
   have hpb : (nats ps)[b]'(by simp; omega) = ((ps[b]'om9 : Nat) : Int) := by simp
   rw [curN_atlen om9 om9] at hbn
   refine g9 5 ?_
   have q17 := (h_ls.mono (hG4.trans hG5)).at (i := j) om9
   refine match q17 with | ⟨_, he14, ⟨_, e_16, hs15⟩⟩ => ?_
   subst e_16
   obtain ⟨sa_hs15, sc_hs15, rfl⟩ := hs15.form
   refine g9 8 ?_
   refine (ho_3.mono hG5).a2 (i := j) om9 (fun he18 hi19 => (W.ok (ok_indexAddrO (i := j) sl30 ty3 (ho_3.mono hG5) rfl rfl ⟨om9, om9⟩) (g9 1 ?_)))
   refine W.ok (ok_loadO (vs := ic9) ty3 he18 pr9 rfl rfl rfl (by simp)) (g9 1 ?_)
   refine hs15.a2 (i := ps[j]) om9 (fun he22 hm23 => (W.ok (ok_indexAddr (i := ps[j]) sl33 ty90 hs15 rfl rfl ⟨om9, om9⟩) (g9 9 ?_)))
   have q30 := (h_ls.mono (hG4.trans hG5)).at (i := b) om9
   refine match q30 with | ⟨_, he27, ⟨_, e_29, hs28⟩⟩ => ?_
   subst e_29
   obtain ⟨sa_hs28, sc_hs28, rfl⟩ := hs28.form
   refine g9 8 ?_
   refine (ho_3.mono hG5).a2 (i := b) om9 (fun he31 hi32 => (W.ok (ok_indexAddrO (i := b) sl30 ty3 (ho_3.mono hG5) rfl rfl ⟨om9, om9⟩) (g9 1 ?_)))
   refine W.ok (ok_loadO (vs := ic9) ty3 he31 pr9 rfl rfl rfl (by simp)) (g9 1 ?_)
   refine hs28.a2 (i := ps[b]) om9 (fun he35 hm36 => (W.ok (ok_indexAddr (i := ps[b]) sl33 ty90 hs28 rfl rfl ⟨om9, om9⟩) (g9 11 ?_)))
   refine WC.cd (fun h52 p52 => ?_) (fun h52 p52 => ?_)
   ·try dsimp only at p52
    refine g9 12 ?_
    exact ⟨Le.rfl, ((j + 1, (j : Int)) : Nat × Int), hs9, ⟨rfl, by dsimp only; omega, BI_less hbi om9 om9 (by rw [curN_atlen om9 om9]; omega) (by rw [curN_st om9 om9 om9 om9, curN_st om9 om9 om9 om9]; exact p52)⟩, by dsimp only; omega⟩
   try dsimp only at p52
   refine g9 9 ?_
   exact ⟨Le.rfl, ((j + 1, (b : Int)) : Nat × Int), hs9, ⟨rfl, by dsimp only; omega, BI_keep hbi om9 om9 (by rw [curN_st om9 om9 om9 om9, curN_st om9 om9 om9 om9]; exact p52)⟩, by dsimp only; omega⟩
  try dsimp only at p25
  have hpj : (nats ps)[j]'om9 = ((ps[j]'om9 : Nat) : Int) := by simp
  refine g9 40 ?_
  exact ⟨Le.rfl, ((j + 1, c) : Nat × Int), hs9, ⟨rfl, by dsimp only; omega, BI_skip hbi om9 (by rw [curN_atlen om9 om9]; omega)⟩, by dsimp only; omega⟩
 try dsimp only at p13
 refine g9 12 ?_
 refine WC.cd (fun h57 p57 => ?_) (fun h57 p57 => ?_)
 ·try dsimp only at p57
  refine g9 6 ?_
  refine WC.giveO (ho_4.mono hG5) (pmA pr9) (fun G40 hG40 hv40 => (g9 6 ?_))
  refine ⟨rfl, _, rfl, ?_⟩
  · exact SlR.cast hv40 (by rw [← hm, BI_end hbi om9 p57, List.append_nil])
 try dsimp only at p57
 obtain ⟨b, hbC, rfl, hbj, hbn⟩ := BI_best hbi p57
 have hpb : (nats ps)[b]'(by simp; omega) = ((ps[b]'om9 : Nat) : Int) := by simp
 rw [curN_atlen om9 om9] at hbn
 have hlb := len_tot (ls := ls) (i := b) om9
 have hB : Best (curN ls ps) b := BI_done hbi om9
 refine g9 3 ?_
 refine WC.dw sn9 (d9 [0, 1, 2] ?_)
 have q44 := (h_ls.mono (hG4.trans hG5)).at (i := b) om9
 refine match q44 with | ⟨_, he41, ⟨_, e_43, hs42⟩⟩ => ?_
 subst e_43
 obtain ⟨sa_hs42, sc_hs42, rfl⟩ := hs42.form
 refine d9 [3, 4, 5, 6] ?_
 refine (ho_3.mono hG5).a2 (i := b) om9 (fun he45 hi46 => (WD.tk 7 rfl (ok_indexAddrO (i := b) sl30 ty3 (ho_3.mono hG5) rfl rfl ⟨om9, om9⟩) (WD.a1 8 rfl (W.ok (ok_loadO (vs := ic9) ty3 he45 pr9 rfl rfl rfl (by simp)) (W.nn (hs42.a2 (i := ps[b]) om9 (fun he49 hm50 => (WD.tk 9 rfl (ok_indexAddr (i := ps[b]) sl33 ty90 hs42 rfl rfl ⟨om9, om9⟩) (d9 [10] ?_)))))))))
 refine WD.a1 11 rfl (W.lit (e := eMsg) (l := [(((ls[b]))[ps[b]])]) (css := [[iV _, iV _, sV _, sV _, .bool _, sV _]]) sl33 ty90 zr90 rfl rfl rfl rfl rfl rfl ⟨⟨rfl, hm50⟩, trivial⟩ (fun bl54 G54 hG54 hv54 => (W.nn (WD.a1 12 rfl (W.app (e := eMsg) sl33 ty90 zr90 rfl by90 rfl rfl ((ho_4.mono lec)) (hv54) (pmA pr9) (by show (_ + 1) * 72 ≤ _; omega) (fun v55 Ms56 ho57 => (W.nn (d9 [13] ?_))))))))
 refine g9 5 ?_
 refine (ho_3.mono (hG5.trans hG54)).a2 (i := b) om9 (fun he58 hi59 => (W.ok (ok_indexAddrO (i := b) sl30 ty3 (ho_3.mono lec) rfl rfl ⟨om9, om9⟩) (W.ok (ok_loadO (vs := ic9) ty3 he58 (pmA pr9) rfl rfl rfl (by simp)) (W.ok (Ok.int (n := ((ps[b] + 1 : Nat) : Int)) (ok_add rfl rfl om9) om9) ((ho_3.mono (hG5.trans hG54)).a2 (i := b) om9 (fun he62 hi63 => (W.ok (ok_indexAddrO (i := b) sl30 ty3 (ho_3.mono lec) rfl rfl ⟨om9, om9⟩) (W.storeO (i := b) (o := 0) (vs := ic9) (a' := ((ps[b] + 1 : Nat) : Int)) ty3 rfl rfl rfl rfl rfl ((ho_3.mono lec)) (pmA pr9) om9 (by decide) (fun cs h => by rw [h.1]; exact ⟨rfl, om9, om9⟩) (fun Ms66 ho67 => (g9 3 ?_))))))))))
 exact ⟨lec, (((ps.set b (ps[b] + 1), out ++ [(ls[b])[ps[b]]]) : List Nat × List Msg), v_3, Ms66, v55, Ms56), hs9, ⟨rfl, (by have h := ho67; rw [show ((nats ps).set b ((ps[b] + 1 : Nat) : Int)) = nats (ps.set b (ps[b] + 1)) from (List.map_set ..).symm] at h; exact h), (by exact ho57), by dsimp only; rw [List.length_set]; exact hpl, by dsimp only; rw [← hm, merge_step hB, curN_set hpl om9 om9, curN_hd om9 om9 om9 om9, List.append_assoc]; rfl⟩, by dsimp only; rw [← curN_set hpl om9 om9 om9]; have := totN_set hB; omega⟩

theorem findnd_fc {G : GH} {v_l : Value} {l : List Nd} (h_l : SlR eNode G v_l l) (i : Int) :
    Fc Try.prog 21 [v_l, iV i] G [] (fun v G' M' => M' = [] ∧ ∃ u0, v = .tuple #[.agg (List.toArray u0), .bool ((findN l i).2)] ∧ NodeC G' u0 ((findN l i).1)) := by
 obtain ⟨sa_l, sc_l, rfl⟩ := h_l.form
 have hl := h_l.len47
 have hok : ∀ n ∈ l, n.Ok := h_l.nok
 refine Fc.go [.cell 4 35, .tmp 5] Try.func21 Try.ntmps21 rfl (fun w0 => (g9 2 ?_))
 refine W.alloc zr35 (fun b1 => (g9 5 ?_))
 refine W.ok (ok_build (L := [iV _, iV _, lV _ _ _, lV _ _ _, sV _, .bool _, iV _, iV _, lV _ _ _, lV _ _ _]) pl35 zr35 rfl rfl rfl) (W.alloc zr35 (fun b2 => (g9 15 ?_)))
 refine WC.loop (X := (Nat) × List Value) (fun k => [(7, nt9 ((atS (l.take k.1) i).length)), (8, nt9 k.1), (4, pt9 b1), (6, pt9 b2), (0, lV sa_l l.length sc_l), (1, iV i)]) (fun k G Ml => Ml = [(b2, .cells (List.toArray k.2) 35 (0, 0)), (b1, ce9 35 nz9)] ∧ NodeC G k.2 ((atS (l.take k.1) i).getLast?.getD Nd.zero) ∧ k.1 ≤ l.length) (fun k => l.length - k.1) (0, (nz9 : List Value)) hs9 ?_ ?_
 ·exact ⟨rfl, (by exact ⟨_, _, _, _, _, _, _, _, rfl, SlR.nil, SlR.nil, SlR.nil, SlR.nil, Nd.zero_ok⟩), om9⟩
 rintro ⟨k, C_6⟩ gG3 G3 _ hG3 ⟨rfl, ho_6, hk⟩
 try dsimp only at ho_6 hk
 have hal := atS_len l i k
 refine match ho_6 with | ⟨pa_nb4, pc_nb4, ka_nb4, kc_nb4, ma_nb4, mc_nb4, ra_nb4, rc_nb4, e_5, hp_nb4, hk_nb4, hm_nb4, hr_nb4, hok_nb4⟩ => ?_
 subst e_5
 refine WC.fr (f := setL gG3 [(7, nt9 ((atS (l.take k) i).length)), (8, nt9 k), (4, pt9 b1), (6, pt9 b2), (0, lV sa_l l.length sc_l), (1, iV i)]) rfl (g9 9 ?_)
 refine WC.cd (fun h13 p13 => ?_) (fun h13 p13 => ?_)
 ·refine g9 8 ?_
  refine (h_l.mono hG3).aN (i := k) om9 (fun _ _ _ _ _ _ _ _ he6 hp_n7 hk_n7 hm_n7 hr_n7 hok_n7 => (g9 7 ?_))
  refine WC.cd (fun h22 p22 => ?_) (fun h22 p22 => ?_)
  ·refine g9 4 ?_
   refine (h_l.mono hG3).aN (i := k) om9 (fun pa_n11 pc_n11 ka_n11 kc_n11 ma_n11 mc_n11 ra_n11 rc_n11 he10 hp_n11 hk_n11 hm_n11 hr_n11 hok_n11 => (g9 18 ?_))
   exact ⟨Le.rfl, (k + 1, (ndl ((l)[k]) pa_n11 pc_n11 ka_n11 kc_n11 ma_n11 mc_n11 ra_n11 rc_n11)), ⟨(congrArg (fun n : Nat => Value.int .i64 (n : Int)) (by rw [atS_t om9 p22]; simp)), eqv, eqv, eqv, eqv, eqv, trivial⟩, ⟨rfl, (by have h0 : NodeC _ _ (l[k]'om9) := (nk9 hp_n11 hk_n11 hm_n11 hr_n11 hok_n11); rw [atS_t om9 p22, last_snoc]; exact h0), om9⟩, om9⟩
  refine g9 9 ?_
  exact ⟨Le.rfl, (k + 1, (ndl ((atS (l.take k) i).getLast?.getD Nd.zero) pa_nb4 pc_nb4 ka_nb4 kc_nb4 ma_nb4 mc_nb4 ra_nb4 rc_nb4)), ⟨(congrArg (fun n : Nat => Value.int .i64 (n : Int)) (by rw [atS_f om9 p22])), eqv, eqv, eqv, eqv, eqv, trivial⟩, ⟨rfl, (by have h0 : NodeC _ _ ((atS (l.take k) i).getLast?.getD Nd.zero) := (nk9 hp_nb4 hk_nb4 hm_nb4 hr_nb4 hok_nb4); rw [atS_f om9 p22]; exact h0), om9⟩, om9⟩
 refine g9 16 ?_
 exact ⟨rfl, _, congrArg (fun b : Bool => Value.tuple #[.agg (List.toArray _), .bool b]) (find_b om9), NodeC.of (nk9 hp_nb4 hk_nb4 hm_nb4 hr_nb4 hok_nb4) (find_n om9)⟩

theorem seats_fc {G : GH} {v_l : Value} {l : List Nd} (h_l : SlR eNode G v_l l) (i : Int) (hS : Sml l) :
    Fc Try.prog 8 [v_l, iV i] G [] (fun v G' M' => M' = [] ∧ ((∃ u ss, seatsN l i = some ss ∧ v = .tuple #[u, .bool true] ∧ SlR eSeat G' u ss ∧ QS l ss) ∨ (∃ u ss, seatsN l i = none ∧ v = .tuple #[u, .bool false] ∧ SlR eSeat G' u ss))) := by
 obtain ⟨sa_l, sc_l, rfl⟩ := h_l.form
 have hl := h_l.len47
 have hl100 := hS.1
 refine Fc.go [.tmp 4, .tmp 5] Try.func8 Try.ntmps8 rfl (fun w0 => (g9 10 ?_))
 refine W.cN (findnd_fc h_l _) rfl (fun _ _ _ _ _ _ _ _ G14 hG14 hp_hv15 hk_hv15 hm_hv15 hr_hv15 hok_hv15 => (g9 3 ?_))
 refine W.alloc zr35 (fun b20 => (g9 11 ?_))
 refine WC.cond rfl (fun h23 => ?_) (fun h23 => ?_)
 ·refine g9 9 ?_
  exact ⟨rfl, .inr ⟨_, [], seats_none (by simpa using h23), rfl, SlR.nil⟩⟩
 have hq0 := QOk.init (l := l) (root := i) (by simpa using h23)
 refine g9 5 ?_
 refine W.ok (ok_build (L := [sV _, sV _, .bool _]) pl37 zr37 rfl rfl rfl) (W.ok (ok_build (L := [iV _, iV _, lV _ _ _, lV _ _ _, sV _, .bool _, iV _, iV _, lV _ _ _, lV _ _ _, sV _, sV _, .bool _, lV _ _ _]) pl39 zr39 rfl rfl rfl) (W.litO (e := eSeat) (l := [(rootS l i)]) (css := [[iV _, iV _, lV _ _ _, lV _ _ _, sV _, .bool _, iV _, iV _, lV _ _ _, lV _ _ _, sV _, sV _, .bool _, lV _ _ _]]) sl27 ty39 zr39 rfl rfl rfl rfl rfl rfl ⟨⟨_, _, _, _, _, _, _, _, _, _, rfl, hp_hv15, hk_hv15, hm_hv15, hr_hv15, SlR.nil, hok_hv15⟩, trivial⟩ (fun v21 Ms22 ho23 => (W.perm (pmC pr9).symm (g9 5 ?_)))))
 refine WC.sub (sr9.cons _) (g9 5 ?_)
 refine WC.loop (X := (Nat × List Seat) × Value × MH) (fun x => [(9, nt9 x.1.1), (0, lV sa_l l.length sc_l), (8, x.2.1)]) (fun x G Ml => Ml = (x.2.2 ++ []) ∧ OwnR eSeat 39 G x.2.1 (x.1.2) x.2.2 ∧ QOk l i x.1.1 x.1.2 ∧ QS l x.1.2) (fun x => l.length + 1 - x.1.1) (((0, [rootS l i]) : Nat × List Seat), v21, Ms22) hs9 ?_ ?_
 ·exact ⟨rfl, (by exact ho23), hq0, QS.init hS i⟩
 rintro ⟨⟨q, out⟩, v_8, M_8⟩ gG24 G24 _ hG24 ⟨rfl, ho_8, hq, hqs⟩
 try dsimp only at ho_8 hq hqs
 have hq1 := hq.le
 have hq2 := hq.len
 have hq3 := hq.pos
 refine WC.fr (f := setL gG24 [(9, nt9 q), (0, lV sa_l l.length sc_l), (8, v_8)]) rfl (g9 9 ?_)
 refine WC.cd (fun h31 p31 => ?_) (fun h31 p31 => ?_)
 ·refine g9 8 ?_
  have q28 := ho_8.at (i := q) om9
  refine match q28 with | ⟨_, he25, ⟨pa_t26, pc_t26, ka_t26, kc_t26, ma_t26, mc_t26, ra_t26, rc_t26, qa_t26, qc_t26, e_27, hp_t26, hk_t26, hm_t26, hr_t26, hq_t26, hok_t26⟩⟩ => ?_
  subst e_27
  obtain ⟨sx, hssx⟩ : ∃ y, y = ((out)[q]) := ⟨_, rfl⟩
  rw [← hssx] at he25 hp_t26 hk_t26 hm_t26 hr_t26 hq_t26 hok_t26
  refine W.ok (ok_indexAddrO (i := q) sl27 ty39 ho_8 rfl rfl ⟨om9, om9⟩) (W.ok (ok_loadO (vs := [iV _, iV _, lV _ _ _, lV _ _ _, sV _, .bool _, iV _, iV _, lV _ _ _, lV _ _ _, sV _, sV _, .bool _, lV _ _ _]) ty39 he25 pr9 rfl rfl rfl (by simp)) (W.alloc zr39 (fun b29 => (g9 13 ?_))))
  refine WC.cd (fun h42 p42 => ?_) (fun h42 p42 => ?_)
  ·refine g9 7 ?_
   refine WC.giveO ho_8 (pmC pr9) (fun G30 hG30 hv30 => (g9 8 ?_))
   exact ⟨rfl, .inr ⟨_, _, hq.long om9 om9, rfl, hv30⟩⟩
  refine g9 4 ?_
  obtain ⟨hlv1, hlv2⟩ := hok_t26.2.1
  have hsx := hqs q om9
  rw [← hssx] at hsx
  have hnd := hS.at hsx.nd
  have hnk : sx.n.kids.length ≤ 4000 := hnd.1
  have hk1 : ∀ m ∈ sx.n.msgs, m.key.b.size < 140737488355328 := fun m hm => by have := hnd.2.2.2.2.2.1 m hm; omega
  have hk2 : ∀ m ∈ sx.ms, m.key.b.size < 140737488355328 := fun m hm => by have := hsx.key m hm; omega
  refine g9 7 ?_
  refine WC.cd (fun h47 p47 => ?_) (fun h47 p47 => ?_)
  ·refine g9 8 ?_
   refine W.sub (sr9.cons _) (g9 2 ?_)
   exact ⟨Le.rfl, (((q + 1, out ++ []) : Nat × List Seat), v_8, M_8), hs9, ⟨rfl, (by rw [List.append_nil]; exact ho_8), hq.next om9 om9 (by rw [← hssx]; exact kidsO_0 p47), by dsimp only; rw [List.append_nil]; exact hqs⟩, by dsimp only; omega⟩
  refine g9 10 ?_
  refine W.sd 52 (fun h51 p51 => ?_) (fun h51 p51 => ?_)
  ·refine g9 19 ?_
   refine WC.giveO ho_8 (pmC pr9) (fun G31 hG31 hv31 => (g9 8 ?_))
   exact ⟨rfl, .inr ⟨_, _, hq.none om9 (by rw [← hssx]; exact kidsO_n p47 (.inl p51)), rfl, hv31⟩⟩
  refine g9 13 ?_
  refine W.qcall (rright_fc hp_t26 hk_t26) rfl (g9 5 ?_)
  refine WC.cond rfl (fun h60 => ?_) (fun h60 => ?_)
  ·refine g9 7 ?_
   refine WC.giveO ho_8 (pmC pr9) (fun G32 hG32 hv32 => (g9 8 ?_))
   exact ⟨rfl, .inr ⟨_, _, hq.none om9 (by rw [← hssx]; exact kidsO_n p47 (.inr (by simpa using h60))), rfl, hv32⟩⟩
  refine g9 8 ?_
  refine WC.loop (X := (Nat) × Value × MH) (fun j => [(11, nt9 j.1), (10, pt9 b29), (0, lV sa_l l.length sc_l), (9, nt9 q), (8, j.2.1)]) (fun j G Ml => Ml = ((b29, ce9 39 [iV sx.n.slot, iV sx.n.level, lV pa_t26 (sx.n.pivots).length pc_t26, lV ka_t26 (sx.n.kids).length kc_t26, sV sx.n.high.b, .bool sx.n.top, iV sx.n.right, iV sx.n.seen, lV ma_t26 (sx.n.msgs).length mc_t26, lV ra_t26 (sx.n.rows).length rc_t26, sV (sx.s).lo.b, sV (sx.s).hi.b, .bool (sx.s).opn, lV qa_t26 (sx.ms).length qc_t26]) :: (j.2.2 ++ [])) ∧ OwnR eSeat 39 G j.2.1 (out ++ kidsF l sx j.1) j.2.2 ∧ j.1 ≤ sx.n.kids.length ∧ (∀ j2, j2 < j.1 → kidOk l sx j2 = true) ∧ QS l (out ++ kidsF l sx j.1)) (fun j => sx.n.kids.length - j.1) (0, v_8, M_8) hs9 ?_ ?_
  ·exact ⟨rfl, (by rw [show kidsF l sx 0 = [] from rfl, List.append_nil]; exact ho_8), om9, (fun j2 h => by omega), by rw [show kidsF l sx 0 = [] from rfl, List.append_nil]; exact hqs⟩
  rintro ⟨j, v_8, M_8⟩ gG33 G33 _ hG33 ⟨rfl, ho_8, hj, hjk, hqj⟩
  try dsimp only at ho_8 hj hjk hqj
  have hkl := kidsF_len l sx j
  refine WC.fr (f := setL gG33 [(11, nt9 j), (10, pt9 b29), (0, lV sa_l l.length sc_l), (9, nt9 q), (8, v_8)]) rfl (g9 11 ?_)
  refine WC.cd (fun h68 p68 => ?_) (fun h68 p68 => ?_)
  ·refine g9 11 ?_
   refine (hk_t26.mono hG33).a2 (i := j) om9 (fun he34 hi35 => (g9 2 ?_))
   refine W.cN (findnd_fc (h_l.mono lec) (sx.n.kids[j]'om9)) rfl (fun pa_hv39 pc_hv39 ka_hv39 kc_hv39 ma_hv39 mc_hv39 ra_hv39 rc_hv39 G38 hG38 hp_hv39 hk_hv39 hm_hv39 hr_hv39 hok_hv39 => (g9 3 ?_))
   refine W.alloc zr35 (fun b44 => (g9 10 ?_))
   refine W.sp 84 rfl (fun h83 => ?_) (fun h83 => ?_)
   ·refine g9 18 ?_
    refine WC.giveO (ho_8.mono hG38) (pmC (pmC pr9)) (fun G45 hG45 hv45 => (g9 12 ?_))
    exact ⟨rfl, .inr ⟨_, _, hq.none om9 (by rw [← hssx]; exact kidsO_f (j := j) p47 om9 (kidOk_a om9 (by simpa using h83))), rfl, hv45⟩⟩
   refine g9 17 ?_
   refine WC.cn (fun h91 p91 => ?_) (fun h91 p91 => ?_)
   ·refine g9 7 ?_
    refine WC.giveO (ho_8.mono hG38) (pmC (pmC pr9)) (fun G46 hG46 hv46 => (g9 12 ?_))
    exact ⟨rfl, .inr ⟨_, _, hq.none om9 (by rw [← hssx]; exact kidsO_f (j := j) p47 om9 (kidOk_b om9 p91)), rfl, hv46⟩⟩
   refine g9 2 ?_
   refine WC.join (X := (Unit) × Nat) (fun u21 => [(8, v_8), (10, pt9 b29), (12, pt9 b44), (0, lV sa_l l.length sc_l), (9, nt9 q), (11, nt9 j), (14, .pointer (some ⟨u21.2, 0, none⟩))]) (fun u21 G Ml => Ml = ((u21.2, ce9 37 [sV ((sx.s.meet (rangeN sx.n.pivots (j : Int)))).lo.b, sV ((sx.s.meet (rangeN sx.n.pivots (j : Int)))).hi.b, .bool ((sx.s.meet (rangeN sx.n.pivots (j : Int)))).opn]) :: ((b44, ce9 35 (ndl ((findN l (sx.n.kids[j])).1) pa_hv39 pc_hv39 ka_hv39 kc_hv39 ma_hv39 mc_hv39 ra_hv39 rc_hv39)) :: ((b29, ce9 39 [iV sx.n.slot, iV sx.n.level, lV pa_t26 (sx.n.pivots).length pc_t26, lV ka_t26 (sx.n.kids).length kc_t26, sV sx.n.high.b, .bool sx.n.top, iV sx.n.right, iV sx.n.seen, lV ma_t26 (sx.n.msgs).length mc_t26, lV ra_t26 (sx.n.rows).length rc_t26, sV (sx.s).lo.b, sV (sx.s).hi.b, .bool (sx.s).opn, lV qa_t26 (sx.ms).length qc_t26]) :: (M_8 ++ []))))) ?_ ?_
   ·refine WC.dw (sr9.k9.k9) (d9 [0, 1, 2, 3, 4, 5] ?_)
    refine WD.any [6, 8] (by kernel_rfl) rfl ⟨WD.ap ?_, WD.ap ?_, trivial⟩
    ·refine W.qcall (rrange_fc (hp_t26.mono lec) _ ⟨om9, om9⟩) rfl (W.nn ?_)
     refine WD.any [7, 8] (by kernel_rfl) rfl ⟨WD.ap ?_, WD.ap ?_, trivial⟩
     ·refine W.qcall (rmeet_fc _ _ _ _ _ _) rfl (W.nn (WD.a1 8 rfl (W.alloc zr37 (fun b47 => (W.nn (d9 [9] ?_))))))
      refine g9 2 ?_
      exact ⟨Le.rfl, ((), b47), hs9, rfl⟩
     refine W.alloc zr37 (fun b48 => (W.nn (WD.a1 7 rfl (W.qcall (rmeet_fc _ _ _ _ _ _) rfl (W.nn (d9 [9] ?_))))))
     refine g9 2 ?_
     exact ⟨Le.rfl, ((), b48), hs9, rfl⟩
    refine W.alloc zr37 (fun b49 => (W.nn (WD.a1 6 rfl (W.qcall (rrange_fc (hp_t26.mono lec) _ ⟨om9, om9⟩) rfl (W.nn (WD.a1 7 rfl (W.qcall (rmeet_fc _ _ _ _ _ _) rfl (W.nn (d9 [9] ?_)))))))))
    refine g9 2 ?_
    exact ⟨Le.rfl, ((), b49), hs9, rfl⟩
   rintro ⟨u21, B_14⟩ gG50 G50 _ hG50 rfl
   refine WC.seq (WC.dw ((sn9.k9.k9).k9) (d9 [0, 1, 2, 3, 5, 6, 7] ?_))
   refine WD.a1 4 rfl (W.cS (rclips_fc (hm_t26.mono lec) _ _ _ hk1) rfl (fun sa_hv52 sc_hv52 G51 hG51 hv52 => (W.nn (WD.a1 8 rfl (W.cS (rclips_fc (hq_t26.mono lec) _ _ _ hk2) rfl (fun sa_hv59 sc_hv59 G58 hG58 hv59 => (W.nn (WD.a1 9 rfl (W.lit (e := (eSl eMsg)) (l := [(clips (sx.s.meet (rangeN sx.n.pivots (j : Int))) sx.n.msgs), (clips (sx.s.meet (rangeN sx.n.pivots (j : Int))) sx.ms)]) (css := [[lV _ _ _], [lV _ _ _]]) sl63 ty33 zr33 rfl rfl rfl rfl rfl rfl ⟨⟨_, rfl, (hv52.mono hG58)⟩, ⟨_, rfl, hv59⟩, trivial⟩ (fun bl65 G65 hG65 hv65 => (W.nn (WD.a1 10 rfl (W.cS (rlists_fc hv65 (by first | omega | exact Nat.le_trans (kid_tot hS hsx _) om9) (by show 2 ≤ 100000; omega)) rfl (fun sa_hv67 sc_hv67 G66 hG66 hv67 => (W.nn (d9 [11] ?_))))))))))))))))
   refine g9 7 ?_
   refine W.ok (ok_build (L := [iV _, iV _, lV _ _ _, lV _ _ _, sV _, .bool _, iV _, iV _, lV _ _ _, lV _ _ _, sV _, sV _, .bool _, lV _ _ _]) pl39 zr39 rfl rfl rfl) (W.lit (e := eSeat) (l := [(kidSt l sx j)]) (css := [[iV _, iV _, lV _ _ _, lV _ _ _, sV _, .bool _, iV _, iV _, lV _ _ _, lV _ _ _, sV _, sV _, .bool _, lV _ _ _]]) sl27 ty39 zr39 rfl rfl rfl rfl rfl rfl ⟨kid_rel om9 ⟨_, _, _, _, _, _, _, _, _, _, rfl, (hp_hv39.mono lec), (hk_hv39.mono lec), (hm_hv39.mono lec), (hr_hv39.mono lec), hv67, hok_hv39⟩, trivial⟩ (fun bl73 G73 hG73 hv73 => (W.app (e := eSeat) sl27 ty39 zr39 rfl by39 rfl rfl ((ho_8.mono lec)) (hv73) (pmC (pmC (pmC pr9))) (by show (List.length _ + 1) * 216 ≤ _; rw [List.length_append]; omega) (fun v74 Ms75 ho76 => (W.perm (pmC (pmC (pmC pr9))).symm (g9 8 ?_))))))
   refine W.sub ((sr9.cons _).cons _) (g9 2 ?_)
   exact ⟨lec, (j + 1, v74, Ms75), hs9, ⟨rfl, (by have h0 := ho76; rw [kidsF_succ, ← List.append_assoc]; exact h0), om9, kidOk_all om9 hjk (by simpa using h83) p91, (by rw [kidsF_succ, ← List.append_assoc]; exact hqj.snoc hS hsx (by rw [List.length_append]; omega) j)⟩, om9⟩
  refine g9 10 ?_
  refine W.sub (sr9.cons _) (g9 2 ?_)
  exact ⟨hG33, (((q + 1, out ++ kidsF l sx sx.n.kids.length) : Nat × List Seat), v_8, M_8), hs9, ⟨rfl, (by have h0 := ho_8; rw [show j = sx.n.kids.length by omega] at h0; exact h0), hq.next om9 om9 (by rw [← hssx]; exact kidsO_t p47 p51 (by simpa using h60) (fun j2 h2 => hjk j2 om9)), by dsimp only; rw [show sx.n.kids.length = j by omega]; exact hqj⟩, by dsimp only; omega⟩
 refine g9 12 ?_
 refine WC.giveO ho_8 pr9 (fun G77 hG77 hv77 => (g9 2 ?_))
 exact ⟨rfl, .inl ⟨_, _, hq.done om9, rfl, hv77, hqs⟩⟩

end Go.Proofs.Ytcngningbcaggaa
