/- The walk of merge.Lists. -/
import Derived.Test.YtebkfinhhpelbaaGreatQxV4
import Derived.Test.YtebkfinhhpelbaaGreatQxNe
import Derived.Test.YtebkfinhhpelbaaGreatQxW2
namespace Go.Proofs.YtebkfinhhpelbaaGreat
open Go Go.Fw Go.RowKit
set_option maxRecDepth 100000
set_option maxHeartbeats 1600000
set_option linter.unusedVariables false
set_option linter.unusedSimpArgs false
set_option linter.unnecessarySimpa false
theorem mlists_fc {G : GH} {v_ls : Value} {ls : List (List Msg)} (h_ls : SlR (eSl eMsg) G v_ls ls) (ht : totN ls ≤ 1000000) (hln : ls.length ≤ 100000) :
    Fc Tryz.prog 85 [v_ls] G [] (fun v G' M' => M' = [] ∧ ∃ u0, v = u0 ∧ SlR eMsg G' u0 (mergeN ls)) := by
 obtain ⟨sa_ls, sc_ls, rfl⟩ := h_ls.form
 have hl := h_ls.len47
 refine Fc.intro (rs := [.tmp 2]) cl85 Tryz.func85 rfl Tryz.ntmps85 rfl rfl (fun w0 => ?_)
 refine WC.seq (WC.region (W.as (W.nil (thn_n (WC.seq (WC.region (W.lit0 (e := eHead) sl202 ty205 zr205 rfl (fun v1 Ms2 ho3 => ?_))))))))
 have q7 := ho3.form
 refine match q7 with | ⟨sa4, sc5, e_6⟩ => ?_
 subst e_6
 refine W.box (L := [.slice _ _ _]) rfl rfl (fun b8 => (W.as (W.nil (thn_n (WC.seq (WC.seq ?_))))))
 have hR9 : HeadsR b8 202 G [] ((b8, .cells (List.toArray [.slice sa4 0 sc5]) 202 (0, 0)) :: Ms2) := ⟨(fun h hh => by cases hh), _, _, rfl, ho3⟩
 refine WC.perm (M' := (((b8, .cells (List.toArray [.slice sa4 0 sc5]) 202 (0, 0)) :: Ms2) ++ [])) ((List.Perm.refl _).symm.trans (((List.Perm.refl _).cons _).trans (List.Perm.refl _))) (WC.region (W.mv (W.ok (ok_len sl187 h_ls rfl) (W.mv (W.nil (thn_n (WC.block ?_)))))))
 refine WC.loop (X := (Nat × List Hd) × MH) (fun x => [(12, .int .i64 ((x.1.1 : Nat) : Int)), (10, .slice sa_ls ls.length sc_ls), (11, .int .i64 (((ls).length : Nat) : Int)), (3, .pointer (some ⟨b8, 0, none⟩))]) (fun x G Ml => Ml = (x.2 ++ []) ∧ HeadsR b8 202 G (x.1.2) x.2 ∧ x.1.1 ≤ ls.length ∧ Heap Hd.lt x.1.2 ∧ x.1.2.Perm (hdsF 0 (ls.take x.1.1))) (fun x => ls.length - x.1.1) (((0, []) : Nat × List Hd), ((b8, .cells (List.toArray [.slice sa4 0 sc5]) 202 (0, 0)) :: Ms2)) ⟨eqv, eqv, eqv, eqv, trivial⟩ ?_ ?_
 ·exact ⟨rfl, (by simpa using hR9), Nat.zero_le _, (fun c h0 hc _ => by simp at hc), by simp [hdsF]⟩
 ·rintro ⟨⟨k, H⟩, M_3⟩ gG10 G10 _ hG10 ⟨rfl, ho_3, hk, hH, hp⟩
  try dsimp only at ho_3 hk hH hp
  have hHl := hp.length_eq
  have hHl2 := hds_len (ls.take k) 0
  have hHl3 : (ls.take k).length ≤ k := by simp; omega
  refine WC.fr (f := setL gG10 [(12, .int .i64 ((k : Nat) : Int)), (10, .slice sa_ls ls.length sc_ls), (11, .int .i64 (((ls).length : Nat) : Int)), (3, .pointer (some ⟨b8, 0, none⟩))]) rfl (WC.seq (WC.region (W.ok (ok_lss rfl rfl) (W.nil (thn_n (WC.seq ?_))))))
  refine WC.cond (b := _) rfl (fun h13 => ?_) (fun h13 => ?_)
  ·have p13 := of_decide_eq_true h13
   try dsimp only at p13
   refine WC.skip (thn_n (WC.seq (WC.block (WC.seq (WC.region (W.mv ?_))))))
   have q14 := (h_ls.mono hG10).at (i := (k)) (by omega)
   refine match q14 with | ⟨_, he11, ⟨_, e_13, hs12⟩⟩ => ?_
   subst e_13
   obtain ⟨sa_hs12, sc_hs12, rfl⟩ := hs12.form
   refine W.ok (ok_indexAddr (i := (k)) sl187 ty45 (h_ls.mono hG10) rfl rfl ⟨by omega, by omega⟩) (W.ok (ok_loadE (vs := [.slice _ _ _]) ty45 he11 rfl rfl rfl (by simp)) (W.as (W.as (W.nil (thn_n (WC.seq (WC.region (W.mv ?_))))))))
   refine W.ok (ok_len sl45 hs12 rfl) (W.ok (ok_gtr rfl rfl) (W.nil (thn_n ?_)))
   refine WC.cond (b := _) rfl (fun h19 => ?_) (fun h19 => ?_)
   ·have p19 := of_decide_eq_true h19
    try dsimp only at p19
    refine WC.region (W.mv (W.ok (ok_mkI pi200 rfl) (W.mv (W.mv (W.ok (ok_build (L := [.slice _ _ _, .int .i64 _]) pl205 zr205 rfl rfl rfl) (W.ok (ok_mkI pi205 rfl) (W.call (Mp := M_3) (hpush_fc (heads_heap (b := b8) (Tb := 202)) ho_3 (a := ((ls[k], (k : Int)) : Hd)) ⟨⟨_, _, rfl, hs12, ⟨by dsimp only; omega, by dsimp only; omega⟩⟩, by dsimp only; omega⟩ (by omega) (fun hl h => headV_mono hl h)) rfl (List.Perm.refl _) ?_)))))))
    intro _ G15 Ms17 hG15 q16
    refine match q16 with | ⟨e_20, hR19⟩ => ?_
    subst e_20
    refine W.nil (blk_n (thn_n (WC.region (W.ok (ok_add rfl rfl (by omega)) (W.mv (W.nil (thn_n ?_)))))))
    exact ⟨hG15, (((k + 1, pushL Hd.lt H ((ls[k], (k : Int)) : Hd)) : Nat × List Hd), Ms17), ⟨eqv, eqv, eqv, eqv, trivial⟩, ⟨rfl, (by simpa using hR19), by dsimp only; omega, (push_heap Hd.lo hH _).1, (push_heap Hd.lo hH _).2.trans (hds_push (by omega) hp (by omega))⟩, by dsimp only; omega⟩
   ·have p19 := of_decide_eq_false h19
    try dsimp only at p19
    refine WC.skip (blk_n (thn_n (WC.region (W.ok (ok_add rfl rfl (by omega)) (W.mv (W.nil (thn_n ?_)))))))
    exact ⟨Le.rfl, (((k + 1, H) : Nat × List Hd), M_3), ⟨eqv, eqv, eqv, eqv, trivial⟩, ⟨rfl, (by simpa using ho_3), by dsimp only; omega, hH, hds_skip (by omega) hp (by omega)⟩, by dsimp only; omega⟩
  ·have p13 := of_decide_eq_false h13
   try dsimp only at p13
   refine WC.exit (thn_x (thn_x (blk_h (thn_n (WC.seq (WC.region (W.as (W.nil (thn_n (WC.seq (WC.block ?_)))))))))))
   refine WC.loop (X := (Ls × List Hd × List Msg) × Value × MH × MH) (fun x => [(6, x.2.1), (3, .pointer (some ⟨b8, 0, none⟩))]) (fun x G Ml => Ml = (x.2.2.1 ++ (x.2.2.2 ++ [])) ∧ OwnR eMsg 49 G x.2.1 (x.1.2.2) x.2.2.1 ∧ HeadsR b8 202 G (x.1.2.1) x.2.2.2 ∧ Heap Hd.lt x.1.2.1 ∧ x.1.2.1.Perm (hdsF 0 x.1.1) ∧ x.1.2.2 ++ mergeN x.1.1 = mergeN ls ∧ x.1.1.length = ls.length) (fun x => totN x.1.1) (((ls, H, []) : Ls × List Hd × List Msg), .slice none 0 0, ([] : MH), M_3) ⟨eqv, eqv, trivial⟩ ?_ ?_
   ·exact ⟨rfl, (by simpa using OwnR.nil), (by simpa using ho_3), hH, by rw [List.take_of_length_le (by omega)] at hp; exact hp, by simp, rfl⟩
   ·rintro ⟨⟨cur, H, out⟩, v_6, M_6, M_3⟩ gG21 G21 _ hG21 ⟨rfl, ho_6, ho_3, hH, hp, hm, hcl⟩
    try dsimp only at ho_6 ho_3 hH hp hm hcl
    have hml := congrArg List.length hm
    rw [List.length_append] at hml
    have hml2 := merge_len ls
    have hHl := hp.length_eq
    have hHl2 := hds_len cur 0
    refine WC.fr (f := setL gG21 [(6, v_6), (3, .pointer (some ⟨b8, 0, none⟩))]) rfl (WC.seq (WC.seq ?_))
    refine match ho_3 with | ⟨hne_u, v_u, Ms_u, eM_, ho_u⟩ => ?_
    subst eM_
    refine WC.perm (M' := ((b8, .cells (List.toArray [v_u]) 202 (0, 0)) :: (M_6 ++ (Ms_u ++ [])))) (pmB (List.Perm.refl _)).symm ?_
    refine match ho_u.form with | ⟨sa_u, sc_u, eV_⟩ => ?_
    subst eV_
    refine WC.region (W.mv (W.ok (ok_nilP rfl) (W.ok (ok_loadB (i := 0) (vs := [.slice _ _ _]) ty202 rfl rfl rfl rfl (by simp)) (W.call (Mp := Ms_u) (hlen_fc ho_u) rfl (pmC (pmA (List.Perm.refl _))) ?_))))
    intro _ G22 Ms24 hG22 q23
    refine match q23 with | ⟨e_25, e_26⟩ => ?_
    subst e_25
    subst e_26
    refine W.perm (pmC (List.Perm.refl _)).symm (W.ok (ok_gtr rfl rfl) (W.nil (thn_n ?_)))
    refine WC.cond (b := _) rfl (fun h32 => ?_) (fun h32 => ?_)
    ·have p32 := of_decide_eq_true h32
     try dsimp only at p32
     obtain ⟨b, hb, hbe⟩ := best_of hH hp (by omega)
     have e9 : List.drop 1 (List.take (nth H 0).1.length (nth H 0).1) = List.drop 1 (cur[b]'hb.lt) := by rw [List.take_length, hbe]
     have hpl := (pop_heap Hd.lo hH (by omega)).2.2
     refine WC.skip (thn_n (WC.block (WC.seq ?_)))
     have hR27 : HeadsR b8 202 G22 H ((b8, .cells (List.toArray [.slice sa_u H.length sc_u]) 202 (0, 0)) :: Ms_u) := ⟨hne_u, _, _, rfl, (ho_u.mono hG22)⟩
     refine WC.perm (M' := (((b8, .cells (List.toArray [.slice sa_u H.length sc_u]) 202 (0, 0)) :: Ms_u) ++ (M_6 ++ []))) ((List.Perm.refl _).symm.trans (((List.Perm.refl _).cons _).trans (List.Perm.refl _))) (WC.region (W.mv (W.ok (ok_mkI pi200 rfl) (W.call (Mp := ((b8, .cells (List.toArray [.slice sa_u H.length sc_u]) 202 (0, 0)) :: Ms_u)) (hpop_fc (heads_heap (b := b8) (Tb := 202)) hR27 (by omega)) rfl (List.Perm.refl _) ?_))))
     intro v31 G28 Ms30 hG28 q29
     refine match q29 with | ⟨hvhR32, hR32⟩ => ?_
     refine match hvhR32 with | ⟨⟨pa_p33, pc_p33, e_34, hw_p33, hok_p33⟩, hn_p33⟩ => ?_
     subst e_34
     refine W.ok (ok_tyA pi205 rfl) (W.alloc zr205 (fun b35 => (W.store (i := 0) (vs := [.slice _ _ _, .int .i64 _]) (L' := [.slice _ _ _, .int .i64 _]) ty205 rfl rfl rfl rfl rfl rfl rfl rfl (W.nil (thn_n (WC.seq (WC.region (W.mv (W.ok (ok_fieldB fd205_0 rfl) ?_)))))))))
     refine W.ok (ok_loadB (i := 0) (vs := [.slice _ _ _]) ty45 rfl rfl rfl rfl (by simp)) ?_
     have q40 := hw_p33.at (i := 0) (by omega)
     refine match q40 with | ⟨_, he36, ⟨e_39, hm37⟩⟩ => ?_
     subst e_39
     refine W.ok (ok_indexAddr (i := 0) sl45 ty49 hw_p33 rfl rfl ⟨by omega, by omega⟩) (W.ok (ok_loadE (vs := [.int .i64 _, .int .i64 _, .string _, .string _, .bool _, .string _]) ty49 he36 rfl rfl rfl (by simp)) (W.lit (e := eMsg) (l := [((((nth H 0).1))[0])]) (css := [[.int .i64 _, .int .i64 _, .string _, .string _, .bool _, .string _]]) sl45 ty49 zr49 rfl rfl rfl rfl rfl rfl ⟨⟨rfl, hm37⟩, trivial⟩ (fun bl41 G41 hG41 hv41 => (W.app (e := eMsg) sl45 ty49 zr49 rfl by49 rfl rfl ((ho_6.mono ((hG22.trans hG28).trans hG41))) (hv41) (pmC (pmA (List.Perm.refl _))) (by show (_ + 1) * 72 ≤ _; omega) (fun v42 Ms43 ho44 => (W.perm (pmC (List.Perm.refl _)).symm ?_))))))
     have q48 := ho44.form
     refine match q48 with | ⟨sa45, sc46, e_47⟩ => ?_
     subst e_47
     refine W.as (W.nil (thn_n (WC.seq (WC.region (W.ok (ok_fieldB fd205_0 rfl) (W.ok (ok_loadB (i := 0) (vs := [.slice _ _ _]) ty45 rfl rfl rfl rfl (by simp)) (W.slR (1) (((nth H 0).1).length) sl45 ty49 (hw_p33.mono hG41) rfl ⟨_, _, rfl, by omega⟩ rfl (by omega) (by omega) (fun v50 hs49 => ?_))))))))
     have q54 := hs49.form
     refine match q54 with | ⟨sa51, sc52, e_53⟩ => ?_
     subst e_53
     refine W.ok (ok_fieldB fd205_0 rfl) (W.store (i := 0) (vs := [.slice _ _ _]) (L' := [.slice _ _ _, .int .i64 _]) ty45 rfl rfl rfl rfl rfl rfl rfl rfl (W.nil (thn_n (WC.seq (WC.region (W.ok (ok_fieldB fd205_0 rfl) (W.ok (ok_loadB (i := 0) (vs := [.slice _ _ _]) ty45 rfl rfl rfl rfl (by simp)) (W.ok (ok_len sl45 hs49 rfl) ?_))))))))
     refine W.ok (ok_gtr rfl rfl) (W.nil (thn_n ?_))
     refine WC.cond (b := _) rfl (fun h51 => ?_) (fun h51 => ?_)
     ·have p51 := of_decide_eq_true h51
      try dsimp only at p51
      refine WC.region (W.mv (W.ok (ok_mkI pi200 rfl) (W.ok (ok_loadB (i := 0) (vs := [.slice _ _ _, .int .i64 _]) ty205 rfl rfl rfl rfl (by simp)) (W.ok (ok_mkI pi205 rfl) (W.call (Mp := Ms30) (hpush_fc (heads_heap (b := b8) (Tb := 202)) ((heads_heap (b := b8) (Tb := 202)).mono hG41 hR32) (a := (((((nth H 0).1).take ((nth H 0).1).length).drop 1, (nth H 0).2) : Hd)) ⟨⟨_, _, rfl, hs49, hok_p33⟩, by dsimp only; omega⟩ (by omega) (fun hl h => headV_mono hl h)) rfl (pmC (pmA (List.Perm.refl _))) ?_)))))
      intro _ G55 Ms57 hG55 q56
      refine match q56 with | ⟨e_60, hR59⟩ => ?_
      subst e_60
      refine W.perm (pmC (List.Perm.refl _)).symm (W.sub ((List.Sublist.refl _).cons _) (W.perm (M' := (Ms43 ++ (Ms57 ++ []))) ((List.Perm.append_left _ ((List.Perm.append_left _ (List.Perm.refl _)).trans (List.Perm.refl _))).trans (pmA (List.Perm.refl _))) (W.nil (blk_n (thn_n ?_)))))
      exact ⟨(((hG22.trans hG28).trans hG41).trans hG55), (((cur.set b ((cur[b]'hb.lt).drop 1), pushL Hd.lt (popL Hd.lt H) (((((nth H 0).1).take ((nth H 0).1).length).drop 1, (nth H 0).2) : Hd), out ++ [(nth H 0).1[0]'(by first | assumption | (rw [hbe]; exact hb.ne))]) : Ls × List Hd × List Msg), .slice sa45 ((out ++ [((((nth H 0).1))[0])])).length sc46, Ms43, Ms57), ⟨eqv, eqv, trivial⟩, ⟨rfl, (by simpa using (ho44.mono hG55)), (by simpa using hR59), (mstep_t hH hp (by omega) hb hbe (el := (((((nth H 0).1).take ((nth H 0).1).length).drop 1, (nth H 0).2) : Hd)) (by rw [e9, hbe]) (by dsimp only; omega)).1, (mstep_t hH hp (by omega) hb hbe (el := (((((nth H 0).1).take ((nth H 0).1).length).drop 1, (nth H 0).2) : Hd)) (by rw [e9, hbe]) (by dsimp only; omega)).2, by dsimp only; rw [← hm, merge_step hb, List.append_assoc, List.singleton_append]; simp only [hbe], by dsimp only; rw [List.length_set]; exact hcl⟩, by dsimp only; have := totN_set hb; omega⟩
     ·have p51 := of_decide_eq_false h51
      try dsimp only at p51
      refine WC.sub ((List.Sublist.refl _).cons _) (WC.skip (blk_n (thn_n ?_)))
      exact ⟨((hG22.trans hG28).trans hG41), (((cur.set b ((cur[b]'hb.lt).drop 1), popL Hd.lt H, out ++ [(nth H 0).1[0]'(by first | assumption | (rw [hbe]; exact hb.ne))]) : Ls × List Hd × List Msg), .slice sa45 ((out ++ [((((nth H 0).1))[0])])).length sc46, Ms43, Ms30), ⟨eqv, eqv, trivial⟩, ⟨rfl, (by simpa using ho44), (by simpa using ((heads_heap (b := b8) (Tb := 202)).mono hG41 hR32)), (mstep_f hH hp (by omega) hb hbe (by rw [e9] at p51; omega)).1, (mstep_f hH hp (by omega) hb hbe (by rw [e9] at p51; omega)).2, by dsimp only; rw [← hm, merge_step hb, List.append_assoc, List.singleton_append]; simp only [hbe], by dsimp only; rw [List.length_set]; exact hcl⟩, by dsimp only; have := totN_set hb; omega⟩
    ·have p32 := of_decide_eq_false h32
     try dsimp only at p32
     refine WC.exit (thn_x (thn_x (blk_h (thn_n (WC.seq (WC.region (W.mv (W.as (W.nil (thn_n (WC.giveO (ho_6.mono hG22) (pmC (pmA (List.Perm.refl _))) (fun G61 hG61 hv61 => (WC.ret ?_)))))))))))))
     refine ⟨.inr rfl, [_], ⟨rfl, trivial⟩, [], List.nil_sublist _, ?_⟩
     refine ⟨rfl, _, rfl, ?_⟩
     · exact SlR.cast hv61 (by rw [← hm, merge_done hp (by omega), List.append_nil])

end Go.Proofs.YtebkfinhhpelbaaGreat
