/- The law MergeLists is walked. -/
import Derived.Test.YtjbbookmgohamaaV7
import Derived.Test.YtjbbookmgohamaaW7
import Derived.Test.YtjbbookmgohamaaA24
namespace Go.Proofs.Ytjbbookmgohamaa
open Go Go.Fw Go.RowKit
set_option maxRecDepth 100000
set_option maxHeartbeats 1600000
set_option linter.unusedVariables false
set_option linter.unusedSimpArgs false
set_option linter.unnecessarySimpa false
theorem mergeLists_fc {G : GH} {v_ls : Value} {ls : List (List Msg)} (h_ls : SlR (eSl eMsg) G v_ls ls) (slo : Str) (shi : Str) (so : Bool) :
    Fc Try.prog 7 [v_ls, .agg #[.string slo.b, .string shi.b, .bool so]] G [] (fun v _ _ => v = .bool (true)) := by
 obtain ⟨sa_ls, sc_ls, rfl⟩ := h_ls.form
 have hl := h_ls.len47
 have htm := tot_map (f := (clips ⟨slo, shi, so⟩)) (fun l => clips_le) ls
 refine Fc.intro (rs := [.tmp 4]) cl7 Try.func7 rfl Try.ntmps7 rfl rfl (fun w0 => ?_)
 refine WC.seq ?_
 refine WC.region ?_
 refine W.box (L := [.string _, .string _, .bool _]) rfl rfl (fun b1 => ?_)
 refine W.as ?_
 refine W.nil (thn_n ?_)
 refine WC.seq ?_
 refine WC.seq ?_
 refine WC.region ?_
 refine W.mv ?_
 refine W.ok (ok_len sl101 h_ls rfl) ?_
 refine W.ok (ok_gtr rfl rfl) ?_
 refine W.mv ?_
 refine W.sp 11 rfl (fun h10 => ?_) (fun h10 => ?_)
 ·have p10 := of_decide_eq_true h10
  refine W.no (dj := 11) rfl rfl h10 ?_
  refine W.no (dj := 11) rfl rfl h10 ?_
  refine W.no (dj := 11) rfl rfl h10 ?_
  refine W.no (dj := 11) rfl rfl h10 ?_
  refine W.ok (ok_pick_t rfl h10) ?_
  refine W.nil (thn_n ?_)
  refine WC.cond_t rfl rfl ?_
  refine WC.seq ?_
  refine WC.region ?_
  refine W.qcall (awake24_fc) rfl ?_
  refine W.as ?_
  refine W.nil (thn_n ?_)
  refine WC.ret (thn_r ?_)
  refine ⟨.inr rfl, [_], ⟨rfl, trivial⟩, [], List.nil_sublist _, ?_⟩
  rfl
 ·have p10 := of_decide_eq_false h10
  refine W.yes (dj := 11) rfl rfl h10 ?_
  refine W.ok (ok_loadB (i := 0) (vs := [.string _, .string _, .bool _]) ty37 rfl rfl rfl rfl (by simp)) ?_
  refine W.yes (dj := 11) rfl rfl h10 ?_
  refine W.ok (ok_loadB (i := 0) (vs := [.string _, .string _, .bool _]) ty37 rfl rfl rfl rfl (by simp)) ?_
  refine W.yes (dj := 11) rfl rfl h10 ?_
  refine W.qcall (short_fc _ _ _ _ _ _ S_ _) rfl ?_
  refine W.yes (dj := 11) rfl rfl h10 ?_
  refine W.ok (ok_not rfl) ?_
  refine W.ok (ok_pick_f rfl h10) ?_
  refine W.nil (thn_n ?_)
  refine WC.cond (b := _) rfl (fun h15 => ?_) (fun h15 => ?_)
  ·refine WC.seq ?_
   refine WC.region ?_
   refine W.qcall (awake24_fc) rfl ?_
   refine W.as ?_
   refine W.nil (thn_n ?_)
   refine WC.ret (thn_r ?_)
   refine ⟨.inr rfl, [_], ⟨rfl, trivial⟩, [], List.nil_sublist _, ?_⟩
   rfl
  ·refine WC.skip (thn_n ?_)
   refine WC.seq ?_
   refine WC.region ?_
   refine W.as ?_
   refine W.nil (thn_n ?_)
   refine WC.seq ?_
   refine WC.seq ?_
   refine WC.region ?_
   refine W.mv ?_
   refine W.ok (ok_len sl101 h_ls rfl) ?_
   refine W.mv ?_
   refine W.nil (thn_n ?_)
   refine WC.block ?_
   refine WC.loop (X := (Nat) × Value × MH) (fun k => [(20, .int .i64 ((k.1 : Nat) : Int)), (3, .pointer (some ⟨b1, 0, none⟩)), (0, .slice sa_ls ls.length sc_ls), (18, .slice sa_ls ls.length sc_ls), (19, .int .i64 (((ls).length : Nat) : Int)), (5, k.2.1)]) (fun k G Ml => Ml = ((b1, .cells (List.toArray [.string slo.b, .string shi.b, .bool so]) 37 (0, 0)) :: (k.2.2 ++ [])) ∧ OwnR (eSl eMsg) 33 G k.2.1 ((ls.take k.1).map (clips ⟨slo, shi, so⟩)) k.2.2 ∧ k.1 ≤ ls.length ∧ ∀ i (h : i < ls.length), i < k.1 → longG Msg.w ls[i] 0 2000 ≤ 2000) (fun k => ls.length - k.1) (0, .slice none 0 0, ([] : MH)) ⟨(by first | rfl | exact iv (by dsimp only; omega) | exact iv (by omega)), (by first | rfl | exact iv (by dsimp only; omega) | exact iv (by omega)), (by first | rfl | exact iv (by dsimp only; omega) | exact iv (by omega)), (by first | rfl | exact iv (by dsimp only; omega) | exact iv (by omega)), (by first | rfl | exact iv (by dsimp only; omega) | exact iv (by omega)), (by first | rfl | exact iv (by dsimp only; omega) | exact iv (by omega)), trivial⟩ ?_ ?_
   ·exact ⟨rfl, (by simpa using OwnR.nil), by omega, fun i _ h => by omega⟩
   ·rintro ⟨k, v_5, M_5⟩ gG2 G2 _ hG2 ⟨rfl, ho_5, hk, hfew⟩
    try dsimp only at ho_5 hk hfew
    refine WC.fr (f := setL gG2 [(20, .int .i64 ((k : Nat) : Int)), (3, .pointer (some ⟨b1, 0, none⟩)), (0, .slice sa_ls ls.length sc_ls), (18, .slice sa_ls ls.length sc_ls), (19, .int .i64 (((ls).length : Nat) : Int)), (5, v_5)]) rfl ?_
    refine WC.seq ?_
    refine WC.region ?_
    refine W.ok (ok_lss rfl rfl) ?_
    refine W.nil (thn_n ?_)
    refine WC.seq ?_
    refine WC.cond (b := _) rfl (fun h21 => ?_) (fun h21 => ?_)
    ·have p21 := of_decide_eq_true h21
     refine WC.skip (thn_n ?_)
     refine WC.seq ?_
     refine WC.block ?_
     refine WC.seq ?_
     refine WC.region ?_
     have q6 := (h_ls.mono hG2).at (i := k) (by omega)
     refine match q6 with | ⟨_, he3, ⟨_, e_5, hs4⟩⟩ => ?_
     subst e_5
     obtain ⟨sa_hs4, sc_hs4, rfl⟩ := hs4.form
     refine W.ok (ok_indexAddr (i := k) sl101 ty33 (h_ls.mono hG2) rfl rfl ⟨by omega, by omega⟩) ?_
     refine W.ok (ok_loadE (vs := [.slice _ _ _]) ty33 he3 rfl rfl rfl (by simp)) ?_
     refine W.as ?_
     refine W.nil (thn_n ?_)
     refine WC.seq ?_
     refine WC.seq ?_
     refine WC.region ?_
     refine W.mv ?_
     refine W.qcall (few_fc hs4 _ (by omega)) rfl ?_
     refine W.ok (ok_not rfl) ?_
     refine W.nil (thn_n ?_)
     refine WC.cond (b := _) rfl (fun h26 => ?_) (fun h26 => ?_)
     ·refine WC.seq ?_
      refine WC.region ?_
      refine W.qcall (awake24_fc) rfl ?_
      refine W.as ?_
      refine W.nil (thn_n ?_)
      refine WC.ret (thn_r (blk_r (thn_r (thn_r (blk_r (thn_r ?_))))))
      refine ⟨.inr rfl, [_], ⟨rfl, trivial⟩, [], List.nil_sublist _, ?_⟩
      rfl
     ·have hfk : longG Msg.w ls[k] 0 2000 ≤ 2000 := by simpa using h26
      have hkk : ∀ m ∈ ls[k], m.key.b.size < 140737488355328 := fun m h => by
        have h1 := (longG_mem (fun a => by have := Msg.w_pos a; omega) (by omega) hfk).2 m h
        unfold Msg.w at h1; omega
      refine WC.skip (thn_n ?_)
      refine WC.region ?_
      refine W.mv ?_
      refine W.mv ?_
      refine W.ok (ok_loadB (i := 0) (vs := [.string _, .string _, .bool _]) ty37 rfl rfl rfl rfl (by simp)) ?_
      refine W.call (Mp := []) (rclips_fc hs4 slo shi so hkk) rfl (List.Perm.refl _) ?_
      intro _ G7 _ hG7 q9
      refine match q9 with | ⟨e_10, _, e_11, hv8⟩ => ?_
      subst e_10
      subst e_11
      have q13 := hv8.form
      refine match q13 with | ⟨sa_hv8, sc_hv8, e_12⟩ => ?_
      subst e_12
      refine W.lit (e := (eSl eMsg)) (l := [clips ⟨slo, shi, so⟩ (ls[k])]) (css := [[.slice _ _ _]]) sl101 ty33 zr33 rfl rfl rfl rfl rfl rfl ⟨⟨_, rfl, hv8⟩, trivial⟩ (fun bl14 G14 hG14 hv14 => ?_)
      refine W.app (e := (eSl eMsg)) sl101 ty33 zr33 rfl by33 rfl rfl ((ho_5.mono (hG7.trans hG14))) (hv14) (pmC (List.Perm.refl _)) (by show (List.length _ + 1) * 24 ≤ _; rw [List.length_map, List.length_take]; omega) (fun v15 Ms16 ho17 => ?_)
      refine W.perm (pmC (List.Perm.refl _)).symm ?_
      refine W.as ?_
      refine W.nil (blk_n (thn_n ?_))
      refine WC.region ?_
      refine W.ok (ok_add rfl rfl (by omega)) ?_
      refine W.mv ?_
      refine W.nil (thn_n ?_)
      exact ⟨(hG7.trans hG14), (k + 1, v15, Ms16), ⟨(by first | rfl | exact iv (by dsimp only; omega) | exact iv (by omega)), (by first | rfl | exact iv (by dsimp only; omega) | exact iv (by omega)), (by first | rfl | exact iv (by dsimp only; omega) | exact iv (by omega)), (by first | rfl | exact iv (by dsimp only; omega) | exact iv (by omega)), (by first | rfl | exact iv (by dsimp only; omega) | exact iv (by omega)), (by first | rfl | exact iv (by dsimp only; omega) | exact iv (by omega)), trivial⟩, ⟨rfl, (by have h := ho17; rw [List.take_succ_eq_append_getElem (by omega), List.map_append]; exact h), by omega, fun i h hi => by
      by_cases e : i = k
      · subst e; simpa using h26
      · exact hfew i h (by omega)⟩, by omega⟩
    ·have p21 := of_decide_eq_false h21
     have hks : ∀ i (h : i < ls.length), ∀ m ∈ ls[i], m.key.b.size < 140737488355328 := fun i hi m h => by
       have h1 := (longG_mem (fun a => by have := Msg.w_pos a; omega) (by omega) (hfew i hi (by omega))).2 m h
       unfold Msg.w at h1; omega
     have htt := tot_le (n := 2000) (ls := ls) (fun i hi => by
       have h1 := longG_len Msg.w_pos (l := ls[i]) (n := 0) (m := 2000) (hfew i hi (by omega))
       have h2 := hfew i hi (by omega)
       omega)
     have htl : totN ls ≤ 1000000 := by omega
     refine WC.exit (thn_x (thn_x (blk_h (thn_n ?_))))
     refine WC.seq ?_
     refine WC.region ?_
     refine W.mv ?_
     refine W.call (Mp := []) (mlists_fc (h_ls.mono hG2) htl (by omega)) rfl (List.Perm.refl _) ?_
     intro _ G18 _ hG18 q20
     refine match q20 with | ⟨e_21, _, e_22, hv19⟩ => ?_
     subst e_21
     subst e_22
     have q24 := hv19.form
     refine match q24 with | ⟨sa_hv19, sc_hv19, e_23⟩ => ?_
     subst e_23
     refine W.mv ?_
     refine W.call (Mp := []) (rlists_fc (h_ls.mono (hG2.trans hG18)) htl (by omega)) rfl (List.Perm.refl _) ?_
     intro _ G25 _ hG25 q27
     refine match q27 with | ⟨e_28, _, e_29, hv26⟩ => ?_
     subst e_28
     subst e_29
     have q31 := hv26.form
     refine match q31 with | ⟨sa_hv26, sc_hv26, e_30⟩ => ?_
     subst e_30
     refine W.qcall ((samem_fc (hv19.mono hG25) hv26).mono (fun v _ _ _ hv => hv.trans (congrArg Value.bool (decide_eq_true rfl)))) rfl ?_
     refine W.mv ?_
     refine W.yes (dj := 40) rfl rfl rfl ?_
     refine W.ok (ok_loadB (i := 0) (vs := [.string _, .string _, .bool _]) ty37 rfl rfl rfl rfl (by simp)) ?_
     refine W.yes (dj := 40) rfl rfl rfl ?_
     refine W.mv ?_
     refine W.yes (dj := 40) rfl rfl rfl ?_
     refine W.call (Mp := []) (mpath_fc slo shi so (h_ls.mono ((hG2.trans hG18).trans hG25)) htl (by omega) hks) rfl (List.Perm.refl _) ?_
     intro _ G32 _ hG32 q34
     refine match q34 with | ⟨e_35, _, e_36, hv33⟩ => ?_
     subst e_35
     subst e_36
     have q38 := hv33.form
     refine match q38 with | ⟨sa_hv33, sc_hv33, e_37⟩ => ?_
     subst e_37
     refine W.yes (dj := 40) rfl rfl rfl ?_
     refine W.mv ?_
     refine W.yes (dj := 40) rfl rfl rfl ?_
     refine W.giveO (ho_5.mono ((hG18.trans hG25).trans hG32)) (pmC (List.Perm.refl _)) (fun G39 hG39 hv39 => ?_)
     have hc40 := SlR.cast hv39 (l' := ls.map (clips ⟨slo, shi, so⟩)) (by rw [List.take_of_length_le (by omega)])
     have q42 := hc40.form
     refine match q42 with | ⟨_, _, e_41⟩ => ?_
     subst e_41
     refine W.call (Mp := []) (rlists_fc hc40 (by omega) (by rw [List.length_map]; omega)) rfl (List.Perm.refl _) ?_
     intro _ G43 _ hG43 q45
     refine match q45 with | ⟨e_46, _, e_47, hv44⟩ => ?_
     subst e_46
     subst e_47
     have q49 := hv44.form
     refine match q49 with | ⟨sa_hv44, sc_hv44, e_48⟩ => ?_
     subst e_48
     refine W.yes (dj := 40) rfl rfl rfl ?_
     refine W.qcall ((samem_fc (hv33.mono (hG39.trans hG43)) hv44).mono (fun v _ _ _ hv => hv.trans (congrArg Value.bool (decide_eq_true rfl)))) rfl ?_
     refine W.ok (ok_pick_t rfl rfl) ?_
     refine W.mv ?_
     refine W.yes (dj := 48) rfl rfl rfl ?_
     refine W.qcall (awake24_fc) rfl ?_
     refine W.ok (ok_pick_t rfl rfl) ?_
     refine W.as ?_
     refine W.nil (thn_n ?_)
     refine WC.ret ?_
     refine ⟨.inr rfl, [_], ⟨rfl, trivial⟩, [], List.nil_sublist _, ?_⟩
     rfl

end Go.Proofs.Ytjbbookmgohamaa
