/- The walk of what some lists do to some keys. -/
import Derived.Test.YtebkfinhhpelbaaGreatQvV6
import Derived.Test.YtebkfinhhpelbaaGreatQvWg
import Derived.Test.YtebkfinhhpelbaaGreatQvW9
namespace Go.Proofs.YtebkfinhhpelbaaGreat
open Go Go.Fw Go.RowKit
set_option maxRecDepth 100000
set_option maxHeartbeats 1600000
set_option linter.unusedVariables false
set_option linter.unusedSimpArgs false
set_option linter.unnecessarySimpa false
theorem mpath_fc {G : GH} (slo : Str) (shi : Str) (so : Bool) {v_ls : Value} {ls : List (List Msg)} (h_ls : SlR (eSl eMsg) G v_ls ls) (ht : totN ls ≤ 1000000) (hln : ls.length ≤ 100000) (hks : ∀ i (h : i < ls.length), ∀ m ∈ ls[i], m.key.b.size < 140737488355328) :
    Fc Tryz.prog 136 [.agg #[.string slo.b, .string shi.b, .bool so], v_ls] G [] (fun v G' M' => M' = [] ∧ ∃ u0, v = u0 ∧ SlR eMsg G' u0 (mergeN (ls.map (clips ⟨slo, shi, so⟩)))) := by
 obtain ⟨sa_ls, sc_ls, rfl⟩ := h_ls.form
 have hl := h_ls.len47
 have htm := tot_map (f := (clips ⟨slo, shi, so⟩)) (fun l => clips_le) ls
 refine Fc.intro (rs := [.tmp 4]) cl136 Tryz.func136 rfl Tryz.ntmps136 rfl rfl (fun w0 => ?_)
 refine WC.seq (WC.region (W.box (L := [.string _, .string _, .bool _]) rfl rfl (fun b1 => (W.as (W.nil (thn_n (WC.seq (WC.region (W.as ?_)))))))))
 refine W.nil (thn_n (WC.seq (WC.seq (WC.region (W.mv (W.ok (ok_len sl187 h_ls rfl) (W.mv (W.nil (thn_n ?_)))))))))
 refine WC.block ?_
 refine WC.loop (X := (Nat) × Value × MH) (fun k => [(10, .int .i64 ((k.1 : Nat) : Int)), (2, .pointer (some ⟨b1, 0, none⟩)), (8, .slice sa_ls ls.length sc_ls), (9, .int .i64 (((ls).length : Nat) : Int)), (5, k.2.1)]) (fun k G Ml => Ml = ((b1, .cells (List.toArray [.string slo.b, .string shi.b, .bool so]) 52 (0, 0)) :: (k.2.2 ++ [])) ∧ OwnR (eSl eMsg) 45 G k.2.1 ((ls.take k.1).map (clips ⟨slo, shi, so⟩)) k.2.2 ∧ k.1 ≤ ls.length) (fun k => ls.length - k.1) (0, .slice none 0 0, ([] : MH)) ⟨eqv, eqv, eqv, eqv, eqv, trivial⟩ ?_ ?_
 ·exact ⟨rfl, (by simpa using OwnR.nil), by omega⟩
 ·rintro ⟨k, v_5, M_5⟩ gG2 G2 _ hG2 ⟨rfl, ho_5, hk⟩
  try dsimp only at ho_5 hk
  refine WC.fr (f := setL gG2 [(10, .int .i64 ((k : Nat) : Int)), (2, .pointer (some ⟨b1, 0, none⟩)), (8, .slice sa_ls ls.length sc_ls), (9, .int .i64 (((ls).length : Nat) : Int)), (5, v_5)]) rfl (WC.seq (WC.region (W.ok (ok_lss rfl rfl) (W.nil (thn_n (WC.seq ?_))))))
  refine WC.cond (b := _) rfl (fun h11 => ?_) (fun h11 => ?_)
  ·have p11 := of_decide_eq_true h11
   refine WC.skip (thn_n (WC.seq (WC.block (WC.seq (WC.region ?_)))))
   have q6 := (h_ls.mono hG2).at (i := k) (by omega)
   refine match q6 with | ⟨_, he3, ⟨_, e_5, hs4⟩⟩ => ?_
   subst e_5
   obtain ⟨sa_hs4, sc_hs4, rfl⟩ := hs4.form
   refine W.ok (ok_indexAddr (i := k) sl187 ty45 (h_ls.mono hG2) rfl rfl ⟨by omega, by omega⟩) (W.ok (ok_loadE (vs := [.slice _ _ _]) ty45 he3 rfl rfl rfl (by simp)) (W.as (W.nil (thn_n (WC.region (W.mv (W.mv (W.ok (ok_loadB (i := 0) (vs := [.string _, .string _, .bool _]) ty52 rfl rfl rfl rfl (by simp)) ?_))))))))
   refine W.call (Mp := []) (bclips_fc hs4 slo shi so (hks k (by omega))) rfl (List.Perm.refl _) ?_
   intro _ G7 _ hG7 q9
   refine match q9 with | ⟨e_10, _, e_11, hv8⟩ => ?_
   subst e_10
   subst e_11
   have q13 := hv8.form
   refine match q13 with | ⟨sa_hv8, sc_hv8, e_12⟩ => ?_
   subst e_12
   refine W.lit (e := (eSl eMsg)) (l := [clips ⟨slo, shi, so⟩ (ls[k])]) (css := [[.slice _ _ _]]) sl187 ty45 zr45 rfl rfl rfl rfl rfl rfl ⟨⟨_, rfl, hv8⟩, trivial⟩ (fun bl14 G14 hG14 hv14 => (W.app (e := (eSl eMsg)) sl187 ty45 zr45 rfl by45 rfl rfl ((ho_5.mono (hG7.trans hG14))) (hv14) (pmC (List.Perm.refl _)) (by show (List.length _ + 1) * 24 ≤ _; rw [List.length_map, List.length_take]; omega) (fun v15 Ms16 ho17 => (W.perm (pmC (List.Perm.refl _)).symm (W.as (W.nil (blk_n (thn_n (WC.region (W.ok (ok_add rfl rfl (by omega)) (W.mv ?_)))))))))))
   refine W.nil (thn_n ?_)
   exact ⟨(hG7.trans hG14), (k + 1, v15, Ms16), ⟨eqv, eqv, eqv, eqv, eqv, trivial⟩, ⟨rfl, (by have h := ho17; rw [List.take_succ_eq_append_getElem (by omega), List.map_append]; exact h), by omega⟩, by omega⟩
  ·have p11 := of_decide_eq_false h11
   refine WC.exit (thn_x (thn_x (blk_h (thn_n (WC.seq (WC.region (W.mv (W.giveO ho_5 (pmC (List.Perm.refl _)) (fun G18 hG18 hv18 => ?_)))))))))
   have hc19 := SlR.cast hv18 (l' := ls.map (clips ⟨slo, shi, so⟩)) (by rw [List.take_of_length_le (by omega)])
   have q21 := hc19.form
   refine match q21 with | ⟨_, _, e_20⟩ => ?_
   subst e_20
   refine W.call (Mp := []) (mlists_fc hc19 (by omega) (by rw [List.length_map]; omega)) rfl (List.Perm.refl _) ?_
   intro _ G22 _ hG22 q24
   refine match q24 with | ⟨e_25, _, e_26, hv23⟩ => ?_
   subst e_25
   subst e_26
   have q28 := hv23.form
   refine match q28 with | ⟨sa_hv23, sc_hv23, e_27⟩ => ?_
   subst e_27
   refine W.as (W.nil (thn_n (WC.ret ?_)))
   refine ⟨.inr rfl, [_], ⟨rfl, trivial⟩, [], List.nil_sublist _, ?_⟩
   refine ⟨rfl, _, rfl, ?_⟩
   · exact hv23

end Go.Proofs.YtebkfinhhpelbaaGreat
