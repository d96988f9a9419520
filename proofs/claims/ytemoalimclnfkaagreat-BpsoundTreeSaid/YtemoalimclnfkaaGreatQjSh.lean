/- Walks of two kids made one, or given enough each. -/
import Derived.Test.YtemoalimclnfkaaGreatQjWj
set_option maxRecDepth 100000
set_option maxHeartbeats 1600000
set_option linter.unusedVariables false
set_option linter.unusedSimpArgs false
set_option linter.unnecessarySimpa false
namespace Go.Proofs.YtemoalimclnfkaaGreat
open Go Go.Fw Go.RowKit
attribute [local irreducible] Ok W WC
theorem bmend0_fc {G : GH} {b_t : Nat} {ba : Nat} {st : List (Option Nat) × List Bool} {Ma : MH} (h_a : ArR ePt 64 4 3 114 ba G st Ma) {root : Int} {fan : Int} {leaf : Int} {b_n : Nat} {lv : Int} {v_Pn : Value} {Pn : List Str} {Ms_Pn : MH} (h_Pn : OwnR eStr 9 G v_Pn Pn Ms_Pn) {v_Kn : Value} {Kn : List Int} (h_Kn : SlR eInt G v_Kn Kn) {v_Rn : Value} {Rn : List Pair} (h_Rn : SlR ePair G v_Rn Rn) (i : Nat) {b_a : Nat} {v_Pa : Value} {Pa : List Str} {Ms_Pa : MH} (h_Pa : OwnR eStr 9 G v_Pa Pa Ms_Pa) {v_Ka : Value} {Ka : List Int} (h_Ka : SlR eInt G v_Ka Ka) {v_Ra : Value} {Ra : List Pair} (h_Ra : SlR ePair G v_Ra Ra) {b_b : Nat} {v_Pb : Value} {Pb : List Str} {Ms_Pb : MH} (h_Pb : OwnR eStr 9 G v_Pb Pb Ms_Pb) {v_Kb : Value} {Kb : List Int} (h_Kb : SlR eInt G v_Kb Kb) {v_Rb : Value} {Rb : List Pair} (h_Rb : SlR ePair G v_Rb Rb) (hi : i + 1 < Kn.length) (hpn : Pn.length + 1 = Kn.length) (hA : Blk st.1 (Kn[i]'om9) b_a) (hB : Blk st.1 (Kn[i + 1]'hi) b_b) (huA : hasN st.2 (Kn[i]'om9) = true) (huB : hasN st.2 (Kn[i + 1]'hi) = true) (hk1 : i64 (Kn[i + 1]'hi)) (hRl : Ra.length + Rb.length ≤ 10000) :
    Fc Tryz.prog 100 [pt9 b_t, pt9 b_n, nt9 i] G ((b_t, ce9 66 [pt9 ba, iV root, iV fan, iV leaf]) :: ((b_n, ce9 70 [iV lv, v_Pn, v_Kn, v_Rn]) :: ((b_a, ce9 70 [iV 0, v_Pa, v_Ka, v_Ra]) :: ((b_b, ce9 70 [iV 0, v_Pb, v_Kb, v_Rb]) :: (Ma ++ (Ms_Pn ++ (Ms_Pa ++ (Ms_Pb)))))))) (fun v G' M' => v = .tuple #[] ∧ ((((Ra ++ Rb).length : Int) ≤ leaf ∧ ∃ vp vk vr Ma' Mp', M' = (b_t, ce9 66 [pt9 ba, iV root, iV fan, iV leaf]) :: (b_n, ce9 70 [iV lv, vp, vk, v_Rn]) :: (b_a, ce9 70 [iV 0, v_Pa, v_Ka, vr]) :: (Ma' ++ (Mp' ++ Ms_Pa)) ∧ ArR ePt 64 4 3 114 ba G' (freeA st (Kn[i + 1]'hi) (none : Option Nat)).2 Ma' ∧ OwnR eStr 9 G' vp (Pn.take (i + 1 - 1) ++ Pn.drop (i + 1)) Mp' ∧ SlR eInt G' vk (Kn.take (i + 1) ++ Kn.drop (i + 1 + 1)) ∧ SlR ePair G' vr (Ra ++ Rb)) ∨ (¬ (((Ra ++ Rb).length : Int) ≤ leaf) ∧ ∃ vp vr vs Mp', M' = (b_t, ce9 66 [pt9 ba, iV root, iV fan, iV leaf]) :: (b_n, ce9 70 [iV lv, vp, v_Kn, v_Rn]) :: (b_a, ce9 70 [iV 0, v_Pa, v_Ka, vr]) :: (b_b, ce9 70 [iV 0, v_Pb, v_Kb, vs]) :: (Ma ++ (Mp' ++ (Ms_Pa ++ Ms_Pb))) ∧ OwnR eStr 9 G' vp (Pn.set i (rowsN (Ra ++ Rb)).2.2.1) Mp' ∧ SlR ePair G' vr (rowsN (Ra ++ Rb)).1 ∧ SlR ePair G' vs (rowsN (Ra ++ Rb)).2.1))) := by
 obtain ⟨sa_Pn, sc_Pn, rfl⟩ := h_Pn.form
 obtain ⟨sa_Kn, sc_Kn, rfl⟩ := h_Kn.form
 obtain ⟨sa_Rn, sc_Rn, rfl⟩ := h_Rn.form
 obtain ⟨sa_Pa, sc_Pa, rfl⟩ := h_Pa.form
 obtain ⟨sa_Ka, sc_Ka, rfl⟩ := h_Ka.form
 obtain ⟨sa_Ra, sc_Ra, rfl⟩ := h_Ra.form
 obtain ⟨sa_Pb, sc_Pb, rfl⟩ := h_Pb.form
 obtain ⟨sa_Kb, sc_Kb, rfl⟩ := h_Kb.form
 obtain ⟨sa_Rb, sc_Rb, rfl⟩ := h_Rb.form
 have hl1 := h_Kn.len47
 refine Fc.go [] Tryz.func100 Tryz.ntmps100 rfl (fun w0 => (WC.perm (M' := ((b_t, ce9 66 [pt9 ba, iV root, iV fan, iV leaf]) :: ((b_n, ce9 70 [iV lv, lV sa_Pn Pn.length sc_Pn, lV sa_Kn Kn.length sc_Kn, lV sa_Rn Rn.length sc_Rn]) :: ((b_a, ce9 70 [iV 0, lV sa_Pa Pa.length sc_Pa, lV sa_Ka Ka.length sc_Ka, lV sa_Ra Ra.length sc_Ra]) :: ((b_b, ce9 70 [iV 0, lV sa_Pb Pb.length sc_Pb, lV sa_Kb Kb.length sc_Kb, lV sa_Rb Rb.length sc_Rb]) :: (Ma ++ (Ms_Pn ++ (Ms_Pa ++ (Ms_Pb ++ []))))))))) (by simp) (g9 8 ?_)))
 refine h_Kn.a2 (i := i) om9 (fun he1 hi2 => (g9 2 ?_))
 refine W.lendQ (fun G1 hl1 hn1 => bat_fc (ArR.lent h_a hl1 (sub_of (((((List.sublist_append_left _ _).cons _).cons _).cons _).cons _) hn1) (in_of (i := 0) hn1 rfl)) _ b_a hA huA) cl43 rfl (g9 7 ?_)
 refine h_Kn.a2 (i := i + 1) om9 (fun he5 hi6 => (W.ok (ok_indexAddr (i := i + 1) sl55 ty3 h_Kn rfl rfl ⟨om9, om9⟩) (g9 1 ?_)))
 refine W.lendQ (fun G1 hl1 hn1 => bat_fc (ArR.lent h_a hl1 (sub_of (((((List.sublist_append_left _ _).cons _).cons _).cons _).cons _) hn1) (in_of (i := 0) hn1 rfl)) _ b_b hB huB) cl43 rfl (g9 16 ?_)
 refine WC.dw (((sn9.k9.k9).k9).k9) (d9 [0, 1, 2, 3, 4, 5, 6, 7] ?_)
 refine WD.a1 8 rfl (W.cS (rowsjoin_fc h_Ra h_Rb om9) rfl (fun sa_hv10 sc_hv10 G9 hG9 hv10 => (W.nn (d9 [9] ?_))))
 refine g9 14 ?_
 refine WC.cd (fun h50 p50 => ?_) (fun h50 p50 => ?_)
 ·refine g9 15 ?_
  refine W.call (Mp := ((b_t, ce9 66 [pt9 ba, iV root, iV fan, iV leaf]) :: ((b_n, ce9 70 [iV lv, lV sa_Pn Pn.length sc_Pn, lV sa_Kn Kn.length sc_Kn, lV sa_Rn Rn.length sc_Rn]) :: (Ma ++ Ms_Pn)))) (Mr := ((b_a, ce9 70 [iV 0, lV sa_Pa Pa.length sc_Pa, lV sa_Ka Ka.length sc_Ka, lV sa_hv10 ((Ra) ++ (Rb)).length sc_hv10]) :: ((b_b, ce9 70 [iV 0, lV sa_Pb Pb.length sc_Pb, lV sa_Kb Kb.length sc_Kb, lV sa_Rb Rb.length sc_Rb]) :: (Ms_Pa ++ (Ms_Pb ++ []))))) (bdrop_fc (ArR.mono hG9 h_a) (h_Pn.mono hG9) (h_Kn.mono hG9) (h_Rn.mono hG9) (i + 1) ⟨om9, om9, om9⟩ hk1) rfl (((((pmC (pmC ((pmF pr9).trans pr9))).cons _).trans pr9).cons _).trans pr9) ?_
  intro v20 G17 Ms19 hG17 q18
  refine match q18 with | ⟨_, vp_d16, vk_d16, Ma_d16, Mp_d16, e_21, ha_d16, hp_d16, hk_d16⟩ => ?_
  subst e_21
  have q25 := hp_d16.form
  refine match q25 with | ⟨sa22, sc23, e_24⟩ => ?_
  subst e_24
  have q29 := hk_d16.form
  refine match q29 with | ⟨sa26, sc27, e_28⟩ => ?_
  subst e_28
  refine W.perm (M' := ((b_t, ce9 66 [pt9 ba, iV root, iV fan, iV leaf]) :: ((b_n, ce9 70 [iV lv, lV sa22 ((Pn.take (i + 1 - 1) ++ Pn.drop (i + 1))).length sc23, lV sa26 ((Kn.take (i + 1) ++ Kn.drop (i + 1 + 1))).length sc27, lV sa_Rn Rn.length sc_Rn]) :: ((b_a, ce9 70 [iV 0, lV sa_Pa Pa.length sc_Pa, lV sa_Ka Ka.length sc_Ka, lV sa_hv10 ((Ra) ++ (Rb)).length sc_hv10]) :: ((b_b, ce9 70 [iV 0, lV sa_Pb Pb.length sc_Pb, lV sa_Kb Kb.length sc_Kb, lV sa_Rb Rb.length sc_Rb]) :: (Ma_d16 ++ (Mp_d16 ++ (Ms_Pa ++ (Ms_Pb ++ []))))))))) (((((pmC (pmC ((pmF pr9).trans pr9))).cons _).trans pr9).cons _).trans pr9).symm (g9 2 ?_)
  refine WC.sub (M' := ((b_t, ce9 66 [pt9 ba, iV root, iV fan, iV leaf]) :: ((b_n, ce9 70 [iV lv, lV sa22 ((Pn.take (i + 1 - 1) ++ Pn.drop (i + 1))).length sc23, lV sa26 ((Kn.take (i + 1) ++ Kn.drop (i + 1 + 1))).length sc27, lV sa_Rn Rn.length sc_Rn]) :: ((b_a, ce9 70 [iV 0, lV sa_Pa Pa.length sc_Pa, lV sa_Ka Ka.length sc_Ka, lV sa_hv10 ((Ra) ++ (Rb)).length sc_hv10]) :: (Ma_d16 ++ (Mp_d16 ++ (Ms_Pa ++ []))))))) (((((List.Sublist.append_left (List.Sublist.append_left (List.Sublist.append_left (sr9.trans (List.sublist_append_right _ _)) _) _) _).cons _).k9).k9).k9) (g9 3 ?_)
  refine ⟨.inr rfl, [], trivial, ((b_t, ce9 66 [pt9 ba, iV root, iV fan, iV leaf]) :: ((b_n, ce9 70 [iV lv, lV sa22 ((Pn.take (i + 1 - 1) ++ Pn.drop (i + 1))).length sc23, lV sa26 ((Kn.take (i + 1) ++ Kn.drop (i + 1 + 1))).length sc27, lV sa_Rn Rn.length sc_Rn]) :: ((b_a, ce9 70 [iV 0, lV sa_Pa Pa.length sc_Pa, lV sa_Ka Ka.length sc_Ka, lV sa_hv10 ((Ra) ++ (Rb)).length sc_hv10]) :: (Ma_d16 ++ (Mp_d16 ++ Ms_Pa))))), (((List.Sublist.append_left (List.Sublist.append_left (List.sublist_append_left _ _) _) _).k9).k9).k9, ?_⟩
  exact ⟨rfl, .inl ⟨p50, _, _, _, _, _, rfl, ha_d16, hp_d16, hk_d16, (hv10.mono hG17)⟩⟩
 refine g9 3 ?_
 refine WC.dw ((((sn9.cons _).cons _).k9).k9) (d9 [0, 1, 2, 3, 4, 5, 6, 7] ?_)
 refine WD.a1 8 rfl (W.call (Mp := []) (rowsh_fc hv10) rfl pr9 ?_)
 intro _ G30 _ hG30 q33
 refine match q33 with | ⟨e_34, _, e_35, _, _, e_36, hv31, hv32⟩ => ?_
 subst e_34
 subst e_35
 subst e_36
 have q38 := hv31.form
 refine match q38 with | ⟨sa_hv31, sc_hv31, e_37⟩ => ?_
 subst e_37
 have q40 := hv32.form
 refine match q40 with | ⟨sa_hv32, sc_hv32, e_39⟩ => ?_
 subst e_39
 refine W.nn (d9 [9, 10, 11, 12, 13, 14, 15, 16, 17, 18, 19] ?_)
 refine (h_Pn.mono (hG9.trans hG30)).a1 (i := i) om9 (fun he41 => (WD.tk 20 rfl (ok_indexAddrO (i := i) sl54 ty9 (h_Pn.mono lec) rfl rfl ⟨om9, om9⟩) (WD.a1 21 rfl (W.storeO (i := i) (o := 0) (vs := sc9) (a' := ((rowsN ((Ra) ++ (Rb))).2.2.1)) ty9 rfl rfl rfl rfl rfl ((h_Pn.mono lec)) (pmC (pmC (pmC (pmC (pmA pr9))))) om9 (by decide) (fun cs h => by rw [h]; rfl) (fun Ms44 ho45 => (W.perm (pmC (pmC (pmC (pmC pr9)))).symm (W.nn (g9 2 ?_))))))))
 refine WC.perm (M' := ((b_t, ce9 66 [pt9 ba, iV root, iV fan, iV leaf]) :: ((b_n, ce9 70 [iV lv, lV sa_Pn Pn.length sc_Pn, lV sa_Kn Kn.length sc_Kn, lV sa_Rn Rn.length sc_Rn]) :: ((b_a, ce9 70 [iV 0, lV sa_Pa Pa.length sc_Pa, lV sa_Ka Ka.length sc_Ka, lV sa_hv31 ((rowsN ((Ra) ++ (Rb))).1).length sc_hv31]) :: ((b_b, ce9 70 [iV 0, lV sa_Pb Pb.length sc_Pb, lV sa_Kb Kb.length sc_Kb, lV sa_hv32 ((rowsN ((Ra) ++ (Rb))).2.1).length sc_hv32]) :: (Ma ++ (Ms44 ++ (Ms_Pa ++ (Ms_Pb ++ []))))))))) ((((((List.Perm.append_left _ ((List.Perm.append_left _ ((List.Perm.append_left _ ((List.Perm.append_left _ pr9).trans pr9)).trans pr9)).trans pr9)).trans (pmA pr9)).cons _).cons _).cons _).cons _) (g9 2 ?_)
 refine ⟨.inr rfl, [], trivial, ((b_t, ce9 66 [pt9 ba, iV root, iV fan, iV leaf]) :: ((b_n, ce9 70 [iV lv, lV sa_Pn Pn.length sc_Pn, lV sa_Kn Kn.length sc_Kn, lV sa_Rn Rn.length sc_Rn]) :: ((b_a, ce9 70 [iV 0, lV sa_Pa Pa.length sc_Pa, lV sa_Ka Ka.length sc_Ka, lV sa_hv31 ((rowsN ((Ra) ++ (Rb))).1).length sc_hv31]) :: ((b_b, ce9 70 [iV 0, lV sa_Pb Pb.length sc_Pb, lV sa_Kb Kb.length sc_Kb, lV sa_hv32 ((rowsN ((Ra) ++ (Rb))).2.1).length sc_hv32]) :: (Ma ++ (Ms44 ++ (Ms_Pa ++ Ms_Pb))))))), ((((List.Sublist.append_left (List.Sublist.append_left (List.Sublist.append_left (List.sublist_append_left _ _) _) _) _).k9).k9).k9).k9, ?_⟩
 exact ⟨rfl, .inr ⟨p50, _, _, _, _, rfl, ho45, hv31, hv32⟩⟩

theorem bmend1_fc {G : GH} {b_t : Nat} {ba : Nat} {st : List (Option Nat) × List Bool} {Ma : MH} (h_a : ArR ePt 64 4 3 114 ba G st Ma) {root : Int} {fan : Int} {leaf : Int} {b_n : Nat} {lv : Int} {v_Pn : Value} {Pn : List Str} {Ms_Pn : MH} (h_Pn : OwnR eStr 9 G v_Pn Pn Ms_Pn) {v_Kn : Value} {Kn : List Int} (h_Kn : SlR eInt G v_Kn Kn) {v_Rn : Value} {Rn : List Pair} (h_Rn : SlR ePair G v_Rn Rn) (i : Nat) {b_a : Nat} {la : Int} {v_Pa : Value} {Pa : List Str} {Ms_Pa : MH} (h_Pa : OwnR eStr 9 G v_Pa Pa Ms_Pa) {v_Ka : Value} {Ka : List Int} (h_Ka : SlR eInt G v_Ka Ka) {v_Ra : Value} {Ra : List Pair} (h_Ra : SlR ePair G v_Ra Ra) {b_b : Nat} {lb : Int} {v_Pb : Value} {Pb : List Str} {Ms_Pb : MH} (h_Pb : OwnR eStr 9 G v_Pb Pb Ms_Pb) {v_Kb : Value} {Kb : List Int} (h_Kb : SlR eInt G v_Kb Kb) {v_Rb : Value} {Rb : List Pair} (h_Rb : SlR ePair G v_Rb Rb) (hi : i + 1 < Kn.length) (hpn : Pn.length + 1 = Kn.length) (hA : Blk st.1 (Kn[i]'om9) b_a) (hB : Blk st.1 (Kn[i + 1]'hi) b_b) (huA : hasN st.2 (Kn[i]'om9) = true) (huB : hasN st.2 (Kn[i + 1]'hi) = true) (hk1 : i64 (Kn[i + 1]'hi)) (hla : la ≠ 0) (hKl : Pa.length + 1 = Ka.length ∧ Pb.length + 1 = Kb.length ∧ Ka.length + Kb.length ≤ 10000) (hfn : 4 ≤ fan) :
    Fc Tryz.prog 100 [pt9 b_t, pt9 b_n, nt9 i] G ((b_t, ce9 66 [pt9 ba, iV root, iV fan, iV leaf]) :: ((b_n, ce9 70 [iV lv, v_Pn, v_Kn, v_Rn]) :: ((b_a, ce9 70 [iV la, v_Pa, v_Ka, v_Ra]) :: ((b_b, ce9 70 [iV lb, v_Pb, v_Kb, v_Rb]) :: (Ma ++ (Ms_Pn ++ (Ms_Pa ++ (Ms_Pb)))))))) (fun v G' M' => v = .tuple #[] ∧ ((((Ka ++ Kb).length : Int) ≤ fan ∧ ∃ vp vk vq vl Ma' Mp' Mq', M' = (b_t, ce9 66 [pt9 ba, iV root, iV fan, iV leaf]) :: (b_n, ce9 70 [iV lv, vp, vk, v_Rn]) :: (b_a, ce9 70 [iV la, vq, vl, v_Ra]) :: (Ma' ++ (Mp' ++ Mq')) ∧ ArR ePt 64 4 3 114 ba G' (freeA st (Kn[i + 1]'hi) (none : Option Nat)).2 Ma' ∧ OwnR eStr 9 G' vp (Pn.take (i + 1 - 1) ++ Pn.drop (i + 1)) Mp' ∧ SlR eInt G' vk (Kn.take (i + 1) ++ Kn.drop (i + 1 + 1)) ∧ OwnR eStr 9 G' vq ((Pa ++ (Pn[i]'om9) :: Pb)) Mq' ∧ SlR eInt G' vl ((Ka ++ Kb))) ∨ (¬ (((Ka ++ Kb).length : Int) ≤ fan) ∧ ∃ vp va ka vb kb Mp' Mq' Mr', M' = (b_t, ce9 66 [pt9 ba, iV root, iV fan, iV leaf]) :: (b_n, ce9 70 [iV lv, vp, v_Kn, v_Rn]) :: (b_a, ce9 70 [iV la, va, ka, v_Ra]) :: (b_b, ce9 70 [iV lb, vb, kb, v_Rb]) :: (Ma ++ (Mp' ++ (Mq' ++ Mr'))) ∧ OwnR eStr 9 G' vp (Pn.set i ((Pa ++ (Pn[i]'om9) :: Pb).getD ((((Ka ++ Kb).length + 1) / 2) - 1) Str.nil)) Mp' ∧ OwnR eStr 9 G' va ((Pa ++ (Pn[i]'om9) :: Pb).take ((((Ka ++ Kb).length + 1) / 2) - 1)) Mq' ∧ SlR eInt G' ka ((Ka ++ Kb).take (((Ka ++ Kb).length + 1) / 2)) ∧ OwnR eStr 9 G' vb ((Pa ++ (Pn[i]'om9) :: Pb).drop (((Ka ++ Kb).length + 1) / 2)) Mr' ∧ SlR eInt G' kb ((Ka ++ Kb).drop (((Ka ++ Kb).length + 1) / 2))))) := by
 obtain ⟨sa_Pn, sc_Pn, rfl⟩ := h_Pn.form
 obtain ⟨sa_Kn, sc_Kn, rfl⟩ := h_Kn.form
 obtain ⟨sa_Rn, sc_Rn, rfl⟩ := h_Rn.form
 obtain ⟨sa_Pa, sc_Pa, rfl⟩ := h_Pa.form
 obtain ⟨sa_Ka, sc_Ka, rfl⟩ := h_Ka.form
 obtain ⟨sa_Ra, sc_Ra, rfl⟩ := h_Ra.form
 obtain ⟨sa_Pb, sc_Pb, rfl⟩ := h_Pb.form
 obtain ⟨sa_Kb, sc_Kb, rfl⟩ := h_Kb.form
 obtain ⟨sa_Rb, sc_Rb, rfl⟩ := h_Rb.form
 have hl1 := h_Kn.len47
 have hlp := h_Pn.len47
 obtain ⟨hKl1, hKl2, hKl3⟩ := hKl
 refine Fc.go [] Tryz.func100 Tryz.ntmps100 rfl (fun w0 => (WC.perm (M' := ((b_t, ce9 66 [pt9 ba, iV root, iV fan, iV leaf]) :: ((b_n, ce9 70 [iV lv, lV sa_Pn Pn.length sc_Pn, lV sa_Kn Kn.length sc_Kn, lV sa_Rn Rn.length sc_Rn]) :: ((b_a, ce9 70 [iV la, lV sa_Pa Pa.length sc_Pa, lV sa_Ka Ka.length sc_Ka, lV sa_Ra Ra.length sc_Ra]) :: ((b_b, ce9 70 [iV lb, lV sa_Pb Pb.length sc_Pb, lV sa_Kb Kb.length sc_Kb, lV sa_Rb Rb.length sc_Rb]) :: (Ma ++ (Ms_Pn ++ (Ms_Pa ++ (Ms_Pb ++ []))))))))) (by simp) (g9 8 ?_)))
 refine h_Kn.a2 (i := i) om9 (fun he46 hi47 => (g9 2 ?_))
 refine W.lendQ (fun G1 hl1 hn1 => bat_fc (ArR.lent h_a hl1 (sub_of (((((List.sublist_append_left _ _).cons _).cons _).cons _).cons _) hn1) (in_of (i := 0) hn1 rfl)) _ b_a hA huA) cl43 rfl (g9 7 ?_)
 refine h_Kn.a2 (i := i + 1) om9 (fun he50 hi51 => (W.ok (ok_indexAddr (i := i + 1) sl55 ty3 h_Kn rfl rfl ⟨om9, om9⟩) (g9 1 ?_)))
 refine W.lendQ (fun G1 hl1 hn1 => bat_fc (ArR.lent h_a hl1 (sub_of (((((List.sublist_append_left _ _).cons _).cons _).cons _).cons _) hn1) (in_of (i := 0) hn1 rfl)) _ b_b hB huB) cl43 rfl (g9 14 ?_)
 refine WC.cd (fun h34 p34 => ?_) (fun h34 p34 => ?_)
 ·exact absurd p34 hla
 refine g9 3 ?_
 refine WC.dw (((sn9.k9.k9).k9).k9) (d9 [0, 1, 2, 3, 4, 5, 6, 7, 8, 9, 10, 11, 12] ?_)
 refine h_Pn.a1 (i := i) om9 (fun he54 => (WD.tk 13 rfl (ok_indexAddrO (i := i) sl54 ty9 h_Pn rfl rfl ⟨om9, om9⟩) (d9 [15, 16, 17, 18, 19, 20, 21, 22] ?_)))
 refine WD.a1 14 rfl (W.ok (ok_loadO (vs := sc9) ty9 he54 (pmC (pmC (pmC (pmC (pmA pr9))))) rfl rfl rfl (by simp)) (W.nn (WD.a1 23 rfl (W.giveO h_Pa (pmC (pmC (pmC (pmC (pmA (pmA pr9)))))) (fun G57 hG57 hv57 => (W.giveO (h_Pb.mono hG57) (pmC (pmC (pmC (pmC (pmA (pmA pr9)))))) (fun G58 hG58 hv58 => (W.call (Mp := []) (bjoinO_fc (hv57.mono hG58) (h_Ka.mono lec) _ hv58 (h_Kb.mono lec) om9 om9) rfl pr9 ?_))))))))
 intro v62 G59 Ms61 hG59 q60
 refine match q60 with | ⟨vp_z63, vk_z63, e_64, hp_z63, hk_z63⟩ => ?_
 subst e_64
 refine W.perm (pmC (pmC (pmC (pmC pr9)))).symm ?_
 have q68 := hp_z63.form
 refine match q68 with | ⟨sa65, sc66, e_67⟩ => ?_
 subst e_67
 have q72 := hk_z63.form
 refine match q72 with | ⟨sa69, sc70, e_71⟩ => ?_
 subst e_71
 refine W.nn (d9 [24, 25, 26, 27, 28] ?_)
 refine g9 14 ?_
 refine WC.cd (fun h112 p112 => ?_) (fun h112 p112 => ?_)
 ·refine g9 20 ?_
  refine W.call (Mp := ((b_t, ce9 66 [pt9 ba, iV root, iV fan, iV leaf]) :: ((b_n, ce9 70 [iV lv, lV sa_Pn Pn.length sc_Pn, lV sa_Kn Kn.length sc_Kn, lV sa_Rn Rn.length sc_Rn]) :: (Ma ++ Ms_Pn)))) (Mr := ((b_a, ce9 70 [iV la, lV sa65 ((Pa ++ (Pn[i]'om9) :: Pb)).length sc66, lV sa69 ((Ka ++ Kb)).length sc70, lV sa_Ra Ra.length sc_Ra]) :: ((b_b, ce9 70 [iV lb, lV sa_Pb Pb.length sc_Pb, lV sa_Kb Kb.length sc_Kb, lV sa_Rb Rb.length sc_Rb]) :: (Ms61 ++ [])))) (bdrop_fc (ArR.mono lec h_a) (h_Pn.mono lec) (h_Kn.mono lec) (h_Rn.mono lec) (i + 1) ⟨om9, om9, om9⟩ hk1) rfl (((((pmC (pmC ((pmF (pmA pr9)).trans (pmA pr9)))).cons _).trans pr9).cons _).trans pr9) ?_
  intro v77 G74 Ms76 hG74 q75
  refine match q75 with | ⟨_, vp_d73, vk_d73, Ma_d73, Mp_d73, e_78, ha_d73, hp_d73, hk_d73⟩ => ?_
  subst e_78
  have q82 := hp_d73.form
  refine match q82 with | ⟨sa79, sc80, e_81⟩ => ?_
  subst e_81
  have q86 := hk_d73.form
  refine match q86 with | ⟨sa83, sc84, e_85⟩ => ?_
  subst e_85
  refine W.perm (M' := ((b_t, ce9 66 [pt9 ba, iV root, iV fan, iV leaf]) :: ((b_n, ce9 70 [iV lv, lV sa79 ((Pn.take (i + 1 - 1) ++ Pn.drop (i + 1))).length sc80, lV sa83 ((Kn.take (i + 1) ++ Kn.drop (i + 1 + 1))).length sc84, lV sa_Rn Rn.length sc_Rn]) :: ((b_a, ce9 70 [iV la, lV sa65 ((Pa ++ (Pn[i]'om9) :: Pb)).length sc66, lV sa69 ((Ka ++ Kb)).length sc70, lV sa_Ra Ra.length sc_Ra]) :: ((b_b, ce9 70 [iV lb, lV sa_Pb Pb.length sc_Pb, lV sa_Kb Kb.length sc_Kb, lV sa_Rb Rb.length sc_Rb]) :: (Ma_d73 ++ (Mp_d73 ++ (Ms61 ++ [])))))))) (((((pmC (pmC ((pmF pr9).trans pr9))).cons _).trans pr9).cons _).trans pr9).symm (g9 2 ?_)
  refine WC.sub (M' := ((b_t, ce9 66 [pt9 ba, iV root, iV fan, iV leaf]) :: ((b_n, ce9 70 [iV lv, lV sa79 ((Pn.take (i + 1 - 1) ++ Pn.drop (i + 1))).length sc80, lV sa83 ((Kn.take (i + 1) ++ Kn.drop (i + 1 + 1))).length sc84, lV sa_Rn Rn.length sc_Rn]) :: ((b_a, ce9 70 [iV la, lV sa65 ((Pa ++ (Pn[i]'om9) :: Pb)).length sc66, lV sa69 ((Ka ++ Kb)).length sc70, lV sa_Ra Ra.length sc_Ra]) :: (Ma_d73 ++ (Mp_d73 ++ (Ms61 ++ []))))))) (((((List.Sublist.append_left (List.Sublist.append_left (List.Sublist.append_left sr9 _) _) _).cons _).k9).k9).k9) (g9 2 ?_)
  refine ⟨.inr rfl, [], trivial, ((b_t, ce9 66 [pt9 ba, iV root, iV fan, iV leaf]) :: ((b_n, ce9 70 [iV lv, lV sa79 ((Pn.take (i + 1 - 1) ++ Pn.drop (i + 1))).length sc80, lV sa83 ((Kn.take (i + 1) ++ Kn.drop (i + 1 + 1))).length sc84, lV sa_Rn Rn.length sc_Rn]) :: ((b_a, ce9 70 [iV la, lV sa65 ((Pa ++ (Pn[i]'om9) :: Pb)).length sc66, lV sa69 ((Ka ++ Kb)).length sc70, lV sa_Ra Ra.length sc_Ra]) :: (Ma_d73 ++ (Mp_d73 ++ Ms61))))), (((List.Sublist.append_left (List.Sublist.append_left (List.sublist_append_left _ _) _) _).k9).k9).k9, ?_⟩
  exact ⟨rfl, .inl ⟨p112, _, _, _, _, _, _, _, rfl, ha_d73, hp_d73, hk_d73, (hp_z63.mono hG74), (hk_z63.mono hG74)⟩⟩
 refine g9 2 ?_
 refine WC.dw ((((sn9.cons _).cons _).k9).k9) (d9 [0, 1, 2, 3, 4, 5, 6, 7, 8, 9, 10] ?_)
 refine WD.a1 11 rfl (W.giveO hp_z63 (pmC (pmC (pmC (pmC pr9)))) (fun G87 hG87 hv87 => ?_))
 have hL9 : (Pa ++ (Pn[i]'om9) :: Pb).length + 1 = (Ka ++ Kb).length := by simp only [List.length_append, List.length_cons]; omega
 refine W.call (Mp := []) (bhalveO_fc hv87 (hk_z63.mono hG87) ⟨om9, hL9⟩) rfl pr9 ?_
 intro v91 G88 Ms90 hG88 q89
 refine match q89 with | ⟨va_z92, _, vb_z92, kb_z92, Ma_z92, Mb_z92, K_z92, e_93, e_94, hK_z92, ha_z92, hka_z92, hb_z92, hkb_z92⟩ => ?_
 subst e_93
 subst e_94
 refine W.perm (M' := ((b_t, ce9 66 [pt9 ba, iV root, iV fan, iV leaf]) :: ((b_n, ce9 70 [iV lv, lV sa_Pn Pn.length sc_Pn, lV sa_Kn Kn.length sc_Kn, lV sa_Rn Rn.length sc_Rn]) :: ((b_a, ce9 70 [iV la, lV sa_Pa Pa.length sc_Pa, lV sa_Ka Ka.length sc_Ka, lV sa_Ra Ra.length sc_Ra]) :: ((b_b, ce9 70 [iV lb, lV sa_Pb Pb.length sc_Pb, lV sa_Kb Kb.length sc_Kb, lV sa_Rb Rb.length sc_Rb]) :: (Ma_z92 ++ (Mb_z92 ++ (Ma ++ (Ms_Pn ++ []))))))))) (pmC (Ms := Ma_z92 ++ Mb_z92) (pmC (Ms := Ma_z92 ++ Mb_z92) (pmC (Ms := Ma_z92 ++ Mb_z92) (pmC (Ms := Ma_z92 ++ Mb_z92) (List.Perm.of_eq (List.append_assoc _ _ _)))))).symm ?_
 have q98 := ha_z92.form
 refine match q98 with | ⟨sa95, sc96, e_97⟩ => ?_
 subst e_97
 have q102 := hka_z92.form
 refine match q102 with | ⟨sa99, sc100, e_101⟩ => ?_
 subst e_101
 have q106 := hb_z92.form
 refine match q106 with | ⟨sa103, sc104, e_105⟩ => ?_
 subst e_105
 have q110 := hkb_z92.form
 refine match q110 with | ⟨sa107, sc108, e_109⟩ => ?_
 subst e_109
 refine W.nn (d9 [12, 13, 14, 15, 16, 17, 18, 19, 20, 21, 22, 23, 24] ?_)
 refine (h_Pn.mono ((((hG57.trans hG58).trans hG59).trans hG87).trans hG88)).a1 (i := i) om9 (fun he111 => (WD.tk 25 rfl (ok_indexAddrO (i := i) sl54 ty9 (h_Pn.mono lec) rfl rfl ⟨om9, om9⟩) (WD.a1 26 rfl (W.storeO (i := i) (o := 0) (vs := sc9) (a' := K_z92) ty9 rfl rfl rfl rfl rfl ((h_Pn.mono lec)) (pmC (pmC (pmC (pmC (pmA (pmA (pmA pr9))))))) om9 (by decide) (fun cs h => by rw [h]; rfl) (fun Ms114 ho115 => (W.perm (pmC (pmC (pmC (pmC pr9)))).symm (W.nn (d9 [27, 28, 29, 30, 31, 32] ?_))))))))
 refine WD.doneP (M' := ((b_t, ce9 66 [pt9 ba, iV root, iV fan, iV leaf]) :: ((b_n, ce9 70 [iV lv, lV sa_Pn Pn.length sc_Pn, lV sa_Kn Kn.length sc_Kn, lV sa_Rn Rn.length sc_Rn]) :: ((b_a, ce9 70 [iV la, lV sa95 (((Pa ++ (Pn[i]'om9) :: Pb).take ((((Ka ++ Kb).length + 1) / 2) - 1))).length sc96, lV sa99 (((Ka ++ Kb).take (((Ka ++ Kb).length + 1) / 2))).length sc100, lV sa_Ra Ra.length sc_Ra]) :: ((b_b, ce9 70 [iV lb, lV sa103 (((Pa ++ (Pn[i]'om9) :: Pb).drop (((Ka ++ Kb).length + 1) / 2))).length sc104, lV sa107 (((Ka ++ Kb).drop (((Ka ++ Kb).length + 1) / 2))).length sc108, lV sa_Rb Rb.length sc_Rb]) :: (Ma ++ (Ms114 ++ (Ma_z92 ++ (Mb_z92 ++ []))))))))) (by kernel_rfl) sr9 ((((((List.Perm.append_left _ ((List.Perm.append_left _ ((List.Perm.append_left _ ((List.Perm.append_left _ pr9).trans pr9)).trans pr9)).trans pr9)).trans (pmA (pmA (pmA pr9)))).cons _).cons _).cons _).cons _) ?_
 refine ⟨.inl rfl, [], trivial, ((b_t, ce9 66 [pt9 ba, iV root, iV fan, iV leaf]) :: ((b_n, ce9 70 [iV lv, lV sa_Pn Pn.length sc_Pn, lV sa_Kn Kn.length sc_Kn, lV sa_Rn Rn.length sc_Rn]) :: ((b_a, ce9 70 [iV la, lV sa95 (((Pa ++ (Pn[i]'om9) :: Pb).take ((((Ka ++ Kb).length + 1) / 2) - 1))).length sc96, lV sa99 (((Ka ++ Kb).take (((Ka ++ Kb).length + 1) / 2))).length sc100, lV sa_Ra Ra.length sc_Ra]) :: ((b_b, ce9 70 [iV lb, lV sa103 (((Pa ++ (Pn[i]'om9) :: Pb).drop (((Ka ++ Kb).length + 1) / 2))).length sc104, lV sa107 (((Ka ++ Kb).drop (((Ka ++ Kb).length + 1) / 2))).length sc108, lV sa_Rb Rb.length sc_Rb]) :: (Ma ++ (Ms114 ++ (Ma_z92 ++ Mb_z92))))))), ((((List.Sublist.append_left (List.Sublist.append_left (List.Sublist.append_left (List.sublist_append_left _ _) _) _) _).k9).k9).k9).k9, ?_⟩
 have hP9 := ho115
 rw [hK_z92] at hP9
 exact ⟨rfl, .inr ⟨p112, _, _, _, _, _, _, _, _, rfl, hP9, ha_z92, hka_z92, hb_z92, hkb_z92⟩⟩

end Go.Proofs.YtemoalimclnfkaaGreat
