/- The walk of merge.Lists. -/
import Derived.Test.YtcngningbcaggaaQgV4
import Derived.Test.YtcngningbcaggaaQgNe
import Derived.Test.YtcngningbcaggaaQgW2
set_option maxRecDepth 100000
set_option maxHeartbeats 1600000
set_option linter.unusedVariables false
set_option linter.unusedSimpArgs false
set_option linter.unnecessarySimpa false
namespace Go.Proofs.Ytcngningbcaggaa
open Go Go.Fw Go.RowKit
attribute [local irreducible] Ok W WC
theorem mlists_fc {G : GH} {v_ls : Value} {ls : List (List Msg)} (h_ls : SlR (eSl eMsg) G v_ls ls) (ht : totN ls ≤ 100000000) (hln : ls.length ≤ 100000) :
    Fc Try.prog 57 [v_ls] G [] (fun v G' M' => M' = [] ∧ ∃ u0, v = u0 ∧ SlR eMsg G' u0 (mergeN ls)) := by
 obtain ⟨sa_ls, sc_ls, rfl⟩ := h_ls.form
 have hl := h_ls.len47
 refine Fc.go [.tmp 2] Try.func57 Try.ntmps57 rfl (fun w0 => (g9 7 ?_))
 refine W.lit0 (e := eHead) sl124 ty127 zr127 rfl (fun v1 Ms2 ho3 => ?_)
 have q7 := ho3.form
 refine match q7 with | ⟨sa4, sc5, e_6⟩ => ?_
 subst e_6
 refine W.box (L := [lV _ _ _]) rfl rfl (fun b8 => (g9 5 ?_))
 have hR9 : HeadsR b8 124 G [] ((b8, ce9 124 [lV sa4 0 sc5]) :: Ms2) := ⟨(fun h hh => by cases hh), _, _, rfl, ho3⟩
 refine WC.perm (M' := (((b8, ce9 124 [lV sa4 0 sc5]) :: Ms2) ++ [])) (pr9.symm.trans ((pr9.cons _).trans pr9)) (g9 7 ?_)
 refine WC.loop (X := (Nat × List Hd) × MH) (fun x => [(12, nt9 x.1.1), (10, lV sa_ls ls.length sc_ls), (11, nt9 ((ls).length)), (3, pt9 b8)]) (fun x G Ml => Ml = (x.2 ++ []) ∧ HeadsR b8 124 G (x.1.2) x.2 ∧ x.1.1 ≤ ls.length ∧ Heap Hd.lt x.1.2 ∧ x.1.2.Perm (hdsF 0 (ls.take x.1.1))) (fun x => ls.length - x.1.1) (((0, []) : Nat × List Hd), ((b8, ce9 124 [lV sa4 0 sc5]) :: Ms2)) hs9 ?_ ?_
 ·exact ⟨rfl, (by simpa using hR9), Nat.zero_le _, (fun c h0 hc _ => by simp at hc), by simp [hdsF]⟩
 rintro ⟨⟨k, H⟩, M_3⟩ gG10 G10 _ hG10 ⟨rfl, ho_3, hk, hH, hp⟩
 try dsimp only at ho_3 hk hH hp
 have hHl := hp.length_eq
 have hHl2 := hds_len (ls.take k) 0
 have hHl3 : (ls.take k).length ≤ k := by simp; omega
 refine WC.fr (f := setL gG10 [(12, nt9 k), (10, lV sa_ls ls.length sc_ls), (11, nt9 ((ls).length)), (3, pt9 b8)]) rfl (g9 6 ?_)
 refine WC.cd (fun h13 p13 => ?_) (fun h13 p13 => ?_)
 ·try dsimp only at p13
  refine g9 7 ?_
  have q14 := (h_ls.mono hG10).at (i := (k)) om9
  refine match q14 with | ⟨_, he11, ⟨_, e_13, hs12⟩⟩ => ?_
  subst e_13
  obtain ⟨sa_hs12, sc_hs12, rfl⟩ := hs12.form
  refine W.ok (ok_indexAddr (i := (k)) sl63 ty33 (h_ls.mono hG10) rfl rfl ⟨om9, om9⟩) (g9 12 ?_)
  refine WC.cd (fun h19 p19 => ?_) (fun h19 p19 => ?_)
  ·try dsimp only at p19
   refine g9 2 ?_
   refine W.ok (ok_mkI pi122 rfl) (g9 2 ?_)
   refine W.ok (ok_build (L := [lV _ _ _, iV _]) pl127 zr127 rfl rfl rfl) (W.ok (ok_mkI pi127 rfl) (W.call (Mp := M_3) (hpush_fc (heads_heap (b := b8) (Tb := 124)) ho_3 (a := ((ls[k], (k : Int)) : Hd)) ⟨⟨_, _, rfl, hs12, ⟨by dsimp only; omega, by dsimp only; omega⟩⟩, by dsimp only; omega⟩ om9 (fun hl h => headV_mono hl h)) rfl pr9 ?_))
   intro _ G15 Ms17 hG15 q16
   refine match q16 with | ⟨e_20, hR19⟩ => ?_
   subst e_20
   refine g9 8 ?_
   exact ⟨hG15, (((k + 1, pushL Hd.lt H ((ls[k], (k : Int)) : Hd)) : Nat × List Hd), Ms17), hs9, ⟨rfl, (by simpa using hR19), by dsimp only; omega, (push_heap Hd.lo hH _).1, (push_heap Hd.lo hH _).2.trans (hds_push om9 hp om9)⟩, by dsimp only; omega⟩
  try dsimp only at p19
  refine g9 8 ?_
  exact ⟨Le.rfl, (((k + 1, H) : Nat × List Hd), M_3), hs9, ⟨rfl, (by simpa using ho_3), by dsimp only; omega, hH, hds_skip om9 hp om9⟩, by dsimp only; omega⟩
 try dsimp only at p13
 refine g9 12 ?_
 refine WC.loop (X := (Ls × List Hd × List Msg) × Value × MH × MH) (fun x => [(6, x.2.1), (3, pt9 b8)]) (fun x G Ml => Ml = (x.2.2.1 ++ (x.2.2.2 ++ [])) ∧ OwnR eMsg 90 G x.2.1 (x.1.2.2) x.2.2.1 ∧ HeadsR b8 124 G (x.1.2.1) x.2.2.2 ∧ Heap Hd.lt x.1.2.1 ∧ x.1.2.1.Perm (hdsF 0 x.1.1) ∧ x.1.2.2 ++ mergeN x.1.1 = mergeN ls ∧ x.1.1.length = ls.length) (fun x => totN x.1.1) (((ls, H, []) : Ls × List Hd × List Msg), lV none 0 0, ([] : MH), M_3) hs9 ?_ ?_
 ·exact ⟨rfl, (by simpa using OwnR.nil), (by simpa using ho_3), hH, by rw [List.take_of_length_le om9] at hp; exact hp, by simp, rfl⟩
 rintro ⟨⟨cur, H, out⟩, v_6, M_6, M_3⟩ gG21 G21 _ hG21 ⟨rfl, ho_6, ho_3, hH, hp, hm, hcl⟩
 try dsimp only at ho_6 ho_3 hH hp hm hcl
 have hml := congrArg List.length hm
 rw [List.length_append] at hml
 have hml2 := merge_len ls
 have hHl := hp.length_eq
 have hHl2 := hds_len cur 0
 refine WC.fr (f := setL gG21 [(6, v_6), (3, pt9 b8)]) rfl (g9 2 ?_)
 refine match ho_3 with | ⟨hne_u, v_u, Ms_u, eM_, ho_u⟩ => ?_
 subst eM_
 refine WC.perm (M' := ((b8, ce9 124 [v_u]) :: (M_6 ++ (Ms_u ++ [])))) (pmB pr9).symm ?_
 refine match ho_u.form with | ⟨sa_u, sc_u, eV_⟩ => ?_
 subst eV_
 refine g9 4 ?_
 refine W.call (Mp := Ms_u) (hlen_fc ho_u) rfl (pmC (pmA pr9)) ?_
 intro _ G22 Ms24 hG22 q23
 refine match q23 with | ⟨e_25, e_26⟩ => ?_
 subst e_25
 subst e_26
 refine W.perm (pmC pr9).symm (g9 3 ?_)
 refine WC.cd (fun h32 p32 => ?_) (fun h32 p32 => ?_)
 ·try dsimp only at p32
  obtain ⟨b, hb, hbe⟩ := best_of hH hp om9
  have e9 : List.drop 1 (List.take (nth H 0).1.length (nth H 0).1) = List.drop 1 (cur[b]'hb.lt) := by rw [List.take_length, hbe]
  have hpl := (pop_heap Hd.lo hH om9).2.2
  refine g9 4 ?_
  have hR27 : HeadsR b8 124 G22 H ((b8, ce9 124 [lV sa_u H.length sc_u]) :: Ms_u) := ⟨hne_u, _, _, rfl, (ho_u.mono hG22)⟩
  refine WC.perm (M' := (((b8, ce9 124 [lV sa_u H.length sc_u]) :: Ms_u) ++ (M_6 ++ []))) (pr9.symm.trans ((pr9.cons _).trans pr9)) (g9 2 ?_)
  refine W.ok (ok_mkI pi122 rfl) (W.call (Mp := ((b8, ce9 124 [lV sa_u H.length sc_u]) :: Ms_u)) (hpop_fc (heads_heap (b := b8) (Tb := 124)) hR27 om9) rfl pr9 ?_)
  intro v31 G28 Ms30 hG28 q29
  refine match q29 with | ⟨hvhR32, hR32⟩ => ?_
  refine match hvhR32 with | ⟨⟨_, _, e_34, hw_p33, hok_p33⟩, hn_p33⟩ => ?_
  subst e_34
  refine W.ok (ok_tyA pi127 rfl) (W.alloc zr127 (fun b35 => (g9 8 ?_)))
  refine hw_p33.a2 (i := 0) om9 (fun he36 hm37 => (W.ok (ok_indexAddr (i := 0) sl33 ty90 hw_p33 rfl rfl ⟨om9, om9⟩) (g9 1 ?_)))
  refine W.lit (e := eMsg) (l := [((((nth H 0).1))[0])]) (css := [[iV _, iV _, sV _, sV _, .bool _, sV _]]) sl33 ty90 zr90 rfl rfl rfl rfl rfl rfl ⟨⟨rfl, hm37⟩, trivial⟩ (fun bl41 G41 hG41 hv41 => (W.app (e := eMsg) sl33 ty90 zr90 rfl by90 rfl rfl ((ho_6.mono lec)) (hv41) (pmC (pmA pr9)) (by show (_ + 1) * 72 ≤ _; omega) (fun v42 Ms43 ho44 => (W.perm (pmC pr9).symm ?_))))
  have q48 := ho44.form
  refine match q48 with | ⟨sa45, sc46, e_47⟩ => ?_
  subst e_47
  refine g9 7 ?_
  refine W.slR (1) (((nth H 0).1).length) sl33 ty90 (hw_p33.mono hG41) rfl ⟨_, _, rfl, om9⟩ rfl om9 om9 (fun v50 hs49 => ?_)
  have q54 := hs49.form
  refine match q54 with | ⟨sa51, sc52, e_53⟩ => ?_
  subst e_53
  refine g9 12 ?_
  refine WC.cd (fun h51 p51 => ?_) (fun h51 p51 => ?_)
  ·try dsimp only at p51
   refine g9 2 ?_
   refine W.ok (ok_mkI pi122 rfl) (g9 1 ?_)
   refine W.ok (ok_mkI pi127 rfl) (W.call (Mp := Ms30) (hpush_fc (heads_heap (b := b8) (Tb := 124)) ((heads_heap (b := b8) (Tb := 124)).mono hG41 hR32) (a := (((((nth H 0).1).take ((nth H 0).1).length).drop 1, (nth H 0).2) : Hd)) ⟨⟨_, _, rfl, hs49, hok_p33⟩, by dsimp only; omega⟩ om9 (fun hl h => headV_mono hl h)) rfl (pmC (pmA pr9)) ?_)
   intro _ G55 Ms57 hG55 q56
   refine match q56 with | ⟨e_60, hR59⟩ => ?_
   subst e_60
   refine W.perm (pmC pr9).symm (W.sub (sr9.cons _) (W.perm (M' := (Ms43 ++ (Ms57 ++ []))) ((List.Perm.append_left _ ((List.Perm.append_left _ pr9).trans pr9)).trans (pmA pr9)) (g9 3 ?_)))
   exact ⟨lec, (((cur.set b ((cur[b]'hb.lt).drop 1), pushL Hd.lt (popL Hd.lt H) (((((nth H 0).1).take ((nth H 0).1).length).drop 1, (nth H 0).2) : Hd), out ++ [(nth H 0).1[0]'(by first | assumption | (rw [hbe]; exact hb.ne))]) : Ls × List Hd × List Msg), lV sa45 ((out ++ [((((nth H 0).1))[0])])).length sc46, Ms43, Ms57), hs9, ⟨rfl, (by simpa using (ho44.mono hG55)), (by simpa using hR59), (mstep_t hH hp om9 hb hbe (el := (((((nth H 0).1).take ((nth H 0).1).length).drop 1, (nth H 0).2) : Hd)) (by rw [e9, hbe]) (by dsimp only; omega)).1, (mstep_t hH hp om9 hb hbe (el := (((((nth H 0).1).take ((nth H 0).1).length).drop 1, (nth H 0).2) : Hd)) (by rw [e9, hbe]) (by dsimp only; omega)).2, by dsimp only; rw [← hm, merge_step hb, List.append_assoc, List.singleton_append]; simp only [hbe], by dsimp only; rw [List.length_set]; exact hcl⟩, by dsimp only; have := totN_set hb; omega⟩
  try dsimp only at p51
  refine WC.sub (sr9.cons _) (g9 3 ?_)
  exact ⟨lec, (((cur.set b ((cur[b]'hb.lt).drop 1), popL Hd.lt H, out ++ [(nth H 0).1[0]'(by first | assumption | (rw [hbe]; exact hb.ne))]) : Ls × List Hd × List Msg), lV sa45 ((out ++ [((((nth H 0).1))[0])])).length sc46, Ms43, Ms30), hs9, ⟨rfl, (by simpa using ho44), (by simpa using ((heads_heap (b := b8) (Tb := 124)).mono hG41 hR32)), (mstep_f hH hp om9 hb hbe (by rw [e9] at p51; omega)).1, (mstep_f hH hp om9 hb hbe (by rw [e9] at p51; omega)).2, by dsimp only; rw [← hm, merge_step hb, List.append_assoc, List.singleton_append]; simp only [hbe], by dsimp only; rw [List.length_set]; exact hcl⟩, by dsimp only; have := totN_set hb; omega⟩
 try dsimp only at p32
 refine g9 11 ?_
 refine WC.giveO (ho_6.mono hG22) (pmC (pmA pr9)) (fun G61 hG61 hv61 => (g9 2 ?_))
 refine ⟨rfl, _, rfl, ?_⟩
 · exact SlR.cast hv61 (by rw [← hm, merge_done hp om9, List.append_nil])

end Go.Proofs.Ytcngningbcaggaa
