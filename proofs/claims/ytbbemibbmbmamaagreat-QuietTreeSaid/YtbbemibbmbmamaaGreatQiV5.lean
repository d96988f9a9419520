/- The walk of merge.Lists. -/
import Derived.Test.YtbbemibbmbmamaaGreatQiWd
set_option maxRecDepth 100000
set_option maxHeartbeats 1600000
set_option linter.unusedVariables false
set_option linter.unusedSimpArgs false
set_option linter.unnecessarySimpa false
namespace Go.Proofs.YtbbemibbmbmamaaGreat
open Go Go.Fw Go.RowKit
attribute [local irreducible] Ok W WC
theorem ZtG {G : GH} {v_ls : Value} {ls : List (List Msg)} (h_ls : SlR (eSl Zu) G v_ls ls) (ht : YW ls ≤ 100000000) (hln : ls.length ≤ 100000) :
    Fc Tryz.prog 184 [v_ls] G [] (fun v G' M' => M' = [] ∧ ∃ u0, v = u0 ∧ SlR Zu G' u0 (ZO ls)) := by
 obtain ⟨sa_ls, sc_ls, rfl⟩ := h_ls.form
 have hl := h_ls.len47
 refine Fc.go [.tmp 2] Tryz.func184 Tryz.ntmps184 rfl (fun w0 => (g9 7 ?_))
 refine W.lit0 (e := Jj) XZ YQ JQ rfl (fun v1 Ms2 ho3 => ?_)
 have q7 := ho3.form
 refine match q7 with | ⟨sa4, sc5, e_6⟩ => ?_
 subst e_6
 refine W.box (L := [lV _ _ _]) rfl rfl (fun b8 => (g9 5 ?_))
 have hR9 : HeadsR b8 269 G [] ((b8, ce9 269 [lV sa4 0 sc5]) :: Ms2) := ⟨(fun h hh => by cases hh), _, _, rfl, ho3⟩
 refine WC.perm (M' := (((b8, ce9 269 [lV sa4 0 sc5]) :: Ms2) ++ [])) (pr9.symm.trans ((pr9.cons _).trans pr9)) (g9 7 ?_)
 refine WC.loop (X := (Nat × List Hd) × MH) (fun x => [(12, nt9 x.1.1), (10, lV sa_ls ls.length sc_ls), (11, nt9 ((ls).length)), (3, pt9 b8)]) (fun x G Ml => Ml = (x.2 ++ []) ∧ HeadsR b8 269 G (x.1.2) x.2 ∧ x.1.1 ≤ ls.length ∧ Heap Hd.lt x.1.2 ∧ x.1.2.Perm (Z3 0 (ls.take x.1.1))) (fun x => ls.length - x.1.1) (((0, []) : Nat × List Hd), ((b8, ce9 269 [lV sa4 0 sc5]) :: Ms2)) hs9 ?_ ?_
 ·exact ⟨rfl, (by simpa using hR9), Nat.zero_le _, (fun c h0 hc _ => by simp at hc), by simp [Z3]⟩
 rintro ⟨⟨k, H⟩, M_3⟩ gG10 G10 _ hG10 ⟨rfl, ho_3, hk, hH, hp⟩
 try dsimp only at ho_3 hk hH hp
 have hHl := hp.length_eq
 have hHl2 := Zfc (ls.take k) 0
 have hHl3 : (ls.take k).length ≤ k := by simp; omega
 refine WC.fr (f := ZX gG10 [(12, nt9 k), (10, lV sa_ls ls.length sc_ls), (11, nt9 ((ls).length)), (3, pt9 b8)]) rfl (g9 6 ?_)
 refine WC.cd (fun h13 p13 => ?_) (fun h13 p13 => ?_)
 ·try dsimp only at p13
  refine g9 7 ?_
  have q14 := (h_ls.mono hG10).at (i := (k)) om9
  refine match q14 with | ⟨_, he11, ⟨_, e_13, hs12⟩⟩ => ?_
  subst e_13
  obtain ⟨sa_hs12, sc_hs12, rfl⟩ := hs12.form
  refine W.ok (Yu (i := (k)) Zb7 Zb6 (h_ls.mono hG10) rfl rfl ⟨om9, om9⟩) (g9 12 ?_)
  refine WC.cd (fun h19 p19 => ?_) (fun h19 p19 => ?_)
  ·try dsimp only at p19
   refine g9 2 ?_
   refine W.ok (Zau ZgC rfl) (g9 2 ?_)
   refine W.ok (Ya (L := [lV _ _ _, iV _]) Zsw JQ rfl rfl rfl) (W.ok (Zau ZcP rfl) (W.call (Mp := M_3) (ZlI (ZcZ (b := b8) (Tb := 269)) ho_3 (a := ((ls[k], (k : Int)) : Hd)) ⟨⟨_, _, rfl, hs12, ⟨by dsimp only; omega, by dsimp only; omega⟩⟩, by dsimp only; omega⟩ om9 (fun hl h => ZlL hl h)) rfl pr9 ?_))
   intro _ G15 Ms17 hG15 q16
   refine match q16 with | ⟨e_20, hR19⟩ => ?_
   subst e_20
   refine g9 8 ?_
   exact ⟨hG15, (((k + 1, Zaz Hd.lt H ((ls[k], (k : Int)) : Hd)) : Nat × List Hd), Ms17), hs9, ⟨rfl, (by simpa using hR19), by dsimp only; omega, (ZeZ Hd.lo hH _).1, (ZeZ Hd.lo hH _).2.trans (Zn7 om9 hp om9)⟩, by dsimp only; omega⟩
  try dsimp only at p19
  refine g9 8 ?_
  exact ⟨Le.rfl, (((k + 1, H) : Nat × List Hd), M_3), hs9, ⟨rfl, (by simpa using ho_3), by dsimp only; omega, hH, Zn8 om9 hp om9⟩, by dsimp only; omega⟩
 try dsimp only at p13
 refine g9 12 ?_
 refine WC.loop (X := (Ls × List Hd × List Msg) × Value × MH × MH) (fun x => [(6, x.2.1), (3, pt9 b8)]) (fun x G Ml => Ml = (x.2.2.1 ++ (x.2.2.2 ++ [])) ∧ OwnR Zu 87 G x.2.1 (x.1.2.2) x.2.2.1 ∧ HeadsR b8 269 G (x.1.2.1) x.2.2.2 ∧ Heap Hd.lt x.1.2.1 ∧ x.1.2.1.Perm (Z3 0 x.1.1) ∧ x.1.2.2 ++ ZO x.1.1 = ZO ls ∧ x.1.1.length = ls.length) (fun x => YW x.1.1) (((ls, H, []) : Ls × List Hd × List Msg), lV none 0 0, ([] : MH), M_3) hs9 ?_ ?_
 ·exact ⟨rfl, (by simpa using OwnR.nil), (by simpa using ho_3), hH, by rw [List.take_of_length_le om9] at hp; exact hp, by simp, rfl⟩
 rintro ⟨⟨cur, H, out⟩, v_6, M_6, M_3⟩ gG21 G21 _ hG21 ⟨rfl, ho_6, ho_3, hH, hp, hm, hcl⟩
 try dsimp only at ho_6 ho_3 hH hp hm hcl
 have hml := congrArg List.length hm
 rw [List.length_append] at hml
 have hml2 := Zih ls
 have hHl := hp.length_eq
 have hHl2 := Zfc cur 0
 refine WC.fr (f := ZX gG21 [(6, v_6), (3, pt9 b8)]) rfl (g9 2 ?_)
 refine match ho_3 with | ⟨hne_u, v_u, Ms_u, eM_, ho_u⟩ => ?_
 subst eM_
 refine WC.perm (M' := ((b8, ce9 269 [v_u]) :: (M_6 ++ (Ms_u ++ [])))) (pmB pr9).symm ?_
 refine match ho_u.form with | ⟨sa_u, sc_u, eV_⟩ => ?_
 subst eV_
 refine g9 4 ?_
 refine W.call (Mp := Ms_u) (ZlK ho_u) rfl (pmC (pmA pr9)) ?_
 intro _ G22 Ms24 hG22 q23
 refine match q23 with | ⟨e_25, e_26⟩ => ?_
 subst e_25
 subst e_26
 refine W.perm (pmC pr9).symm (g9 3 ?_)
 refine WC.cd (fun h32 p32 => ?_) (fun h32 p32 => ?_)
 ·try dsimp only at p32
  obtain ⟨b, hb, hbe⟩ := Zn9 hH hp om9
  have e9 : List.drop 1 (List.take (nth H 0).1.length (nth H 0).1) = List.drop 1 (cur[b]'hb.lt) := by rw [List.take_length, hbe]
  have hpl := (Zdm Hd.lo hH om9).2.2
  refine g9 4 ?_
  have hR27 : HeadsR b8 269 G22 H ((b8, ce9 269 [lV sa_u H.length sc_u]) :: Ms_u) := ⟨hne_u, _, _, rfl, (ho_u.mono hG22)⟩
  refine WC.perm (M' := (((b8, ce9 269 [lV sa_u H.length sc_u]) :: Ms_u) ++ (M_6 ++ []))) (pr9.symm.trans ((pr9.cons _).trans pr9)) (g9 2 ?_)
  refine W.ok (Zau ZgC rfl) (W.call (Mp := ((b8, ce9 269 [lV sa_u H.length sc_u]) :: Ms_u)) (ZlH (ZcZ (b := b8) (Tb := 269)) hR27 om9) rfl pr9 ?_)
  intro v31 G28 Ms30 hG28 q29
  refine match q29 with | ⟨hvhR32, hR32⟩ => ?_
  refine match hvhR32 with | ⟨⟨_, _, e_34, hw_p33, hok_p33⟩, hn_p33⟩ => ?_
  subst e_34
  refine W.ok (ZeI ZcP rfl) (W.alloc JQ (fun b35 => (g9 8 ?_)))
  refine hw_p33.a2 (i := 0) om9 (fun he36 hm37 => (W.ok (Yu (i := 0) Z2 Z7 hw_p33 rfl rfl ⟨om9, om9⟩) (g9 1 ?_)))
  refine W.lit (e := Zu) (l := [((((nth H 0).1))[0])]) (css := [[iV _, iV _, sV _, sV _, .bool _, sV _]]) Z2 Z7 Z1 rfl rfl rfl rfl rfl rfl ⟨⟨rfl, hm37⟩, trivial⟩ (fun bl41 G41 hG41 hv41 => (W.app (e := Zu) Z2 Z7 Z1 rfl JP rfl rfl ((ho_6.mono lec)) (hv41) (pmC (pmA pr9)) (by show (_ + 1) * 72 ≤ _; omega) (fun v42 Ms43 ho44 => (W.perm (pmC pr9).symm ?_))))
  have q48 := ho44.form
  refine match q48 with | ⟨sa45, sc46, e_47⟩ => ?_
  subst e_47
  refine g9 7 ?_
  refine W.slR (1) (((nth H 0).1).length) Z2 Z7 (hw_p33.mono hG41) rfl ⟨_, _, rfl, om9⟩ rfl om9 om9 (fun v50 hs49 => ?_)
  have q54 := hs49.form
  refine match q54 with | ⟨sa51, sc52, e_53⟩ => ?_
  subst e_53
  refine g9 12 ?_
  refine WC.cd (fun h51 p51 => ?_) (fun h51 p51 => ?_)
  ·try dsimp only at p51
   refine g9 2 ?_
   refine W.ok (Zau ZgC rfl) (g9 1 ?_)
   refine W.ok (Zau ZcP rfl) (W.call (Mp := Ms30) (ZlI (ZcZ (b := b8) (Tb := 269)) ((ZcZ (b := b8) (Tb := 269)).mono hG41 hR32) (a := (((((nth H 0).1).take ((nth H 0).1).length).drop 1, (nth H 0).2) : Hd)) ⟨⟨_, _, rfl, hs49, hok_p33⟩, by dsimp only; omega⟩ om9 (fun hl h => ZlL hl h)) rfl (pmC (pmA pr9)) ?_)
   intro _ G55 Ms57 hG55 q56
   refine match q56 with | ⟨e_60, hR59⟩ => ?_
   subst e_60
   refine W.perm (pmC pr9).symm (W.sub (sr9.cons _) (W.perm (M' := (Ms43 ++ (Ms57 ++ []))) ((List.Perm.append_left _ ((List.Perm.append_left _ pr9).trans pr9)).trans (pmA pr9)) (g9 3 ?_)))
   exact ⟨lec, (((cur.set b ((cur[b]'hb.lt).drop 1), Zaz Hd.lt (Y6 Hd.lt H) (((((nth H 0).1).take ((nth H 0).1).length).drop 1, (nth H 0).2) : Hd), out ++ [(nth H 0).1[0]'(by first | assumption | (rw [hbe]; exact hb.ne))]) : Ls × List Hd × List Msg), lV sa45 ((out ++ [((((nth H 0).1))[0])])).length sc46, Ms43, Ms57), hs9, ⟨rfl, (by simpa using (ho44.mono hG55)), (by simpa using hR59), (Zie hH hp om9 hb hbe (el := (((((nth H 0).1).take ((nth H 0).1).length).drop 1, (nth H 0).2) : Hd)) (by rw [e9, hbe]) (by dsimp only; omega)).1, (Zie hH hp om9 hb hbe (el := (((((nth H 0).1).take ((nth H 0).1).length).drop 1, (nth H 0).2) : Hd)) (by rw [e9, hbe]) (by dsimp only; omega)).2, by dsimp only; rw [← hm, Zcv hb, List.append_assoc, List.singleton_append]; simp only [hbe], by dsimp only; rw [List.length_set]; exact hcl⟩, by dsimp only; have := ZaR hb; omega⟩
  try dsimp only at p51
  refine WC.sub (sr9.cons _) (g9 3 ?_)
  exact ⟨lec, (((cur.set b ((cur[b]'hb.lt).drop 1), Y6 Hd.lt H, out ++ [(nth H 0).1[0]'(by first | assumption | (rw [hbe]; exact hb.ne))]) : Ls × List Hd × List Msg), lV sa45 ((out ++ [((((nth H 0).1))[0])])).length sc46, Ms43, Ms30), hs9, ⟨rfl, (by simpa using ho44), (by simpa using ((ZcZ (b := b8) (Tb := 269)).mono hG41 hR32)), (Zif hH hp om9 hb hbe (by rw [e9] at p51; omega)).1, (Zif hH hp om9 hb hbe (by rw [e9] at p51; omega)).2, by dsimp only; rw [← hm, Zcv hb, List.append_assoc, List.singleton_append]; simp only [hbe], by dsimp only; rw [List.length_set]; exact hcl⟩, by dsimp only; have := ZaR hb; omega⟩
 try dsimp only at p32
 refine g9 11 ?_
 refine WC.giveO (ho_6.mono hG22) (pmC (pmA pr9)) (fun G61 hG61 hv61 => (g9 2 ?_))
 refine ⟨rfl, _, rfl, ?_⟩
 · exact SlR.cast hv61 (by rw [← hm, Zoc hp om9, List.append_nil])

theorem ZtH {G : GH} {cs_n : List Value} {n : Nd} (h_n : NodeC G cs_n n) (cfan : Int) (cleaf : Int) (cbud : Int) (cslots : Int) (crest : Int) {b_c : Nat} (h_c : CellsG G b_c 0 [iV cfan, iV cleaf, iV cbud, iV cslots, iV crest]) (hif : i64 cfan) :
    Fc Tryz.prog 68 [.agg (List.toArray cs_n), pt9 b_c] G [] (fun v _ _ => v = .bool (JC (⟨cfan, cleaf, cbud, cslots, crest⟩ : Cfg) n)) := by
 obtain ⟨_, _, _, _, _, _, _, _, rfl, hp_n, hk_n, hm_n, hr_n, hok_n⟩ := h_n
 have h1 := hk_n.len47
 refine Fc.go [.tmp 3] Tryz.func68 Tryz.ntmps68 rfl (fun w0 => (g9 2 ?_))
 refine W.box (L := [iV _, iV _, lV _ _ _, lV _ _ _, sV _, .bool _, iV _, iV _, lV _ _ _, lV _ _ _]) rfl rfl (fun b1 => (g9 9 ?_))
 refine W.sm 7 (fun h6 p6 => ?_) (fun h6 p6 => ?_)
 ·refine g9 8 ?_
  refine W.sd 12 (fun h10 p10 => ?_) (fun h10 p10 => ?_)
  ·refine g9 9 ?_
   refine W.ok (Zcl (vs := ic9) ty3 h_c rfl rfl rfl (by simp)) (g9 1 ?_)
   refine W.ok (ZgS rfl rfl (by decide) (Zrb hif)) (g9 8 ?_)
   refine congrArg Value.bool ?_
   unfold JC
   rw [decide_eq_true (p := ¬ n.slot = 0) (by simpa using h6), Bool.true_and]
   rw [h10]; rfl
  refine g9 13 ?_
  refine congrArg Value.bool ?_
  unfold JC
  rw [decide_eq_true (p := ¬ n.slot = 0) (by simpa using h6), Bool.true_and]
  rw [h10]; rfl
 refine g9 18 ?_
 refine congrArg Value.bool ?_
 unfold JC
 rw [decide_eq_false (p := ¬ n.slot = 0) (by simpa using h6)]; rfl

theorem ZtI {G : GH} {v_l : Value} {l : List Nd} (h_l : SlR Zv G v_l l) (cfan : Int) (cleaf : Int) (cbud : Int) (cslots : Int) (crest : Int) {b_c : Nat} (h_c : CellsG G b_c 0 [iV cfan, iV cleaf, iV cbud, iV cslots, iV crest]) (hif : i64 cfan) :
    Fc Tryz.prog 111 [v_l, .func (.func 68) #[] #[pt9 b_c]] G [] (fun v _ _ => v = iV (Yf (JC (⟨cfan, cleaf, cbud, cslots, crest⟩ : Cfg)) l)) := by
 obtain ⟨sa_l, sc_l, rfl⟩ := h_l.form
 have hl := h_l.len47
 refine Fc.go [.tmp 4] Tryz.func111 Tryz.ntmps111 rfl (fun w0 => (g9 14 ?_))
 refine WC.loop (X := Nat) (fun k => [(8, nt9 k), (0, lV sa_l l.length sc_l), (1, .func (.func 68) #[] #[pt9 b_c]), (7, nt9 ((l).length))]) (fun k _ Ml => Ml = [] ∧ k ≤ l.length ∧ ∀ j (h : j < l.length), j < k → (JC (⟨cfan, cleaf, cbud, cslots, crest⟩ : Cfg)) l[j] = false) (fun k => l.length - k) 0 hs9 ?_ ?_
 ·exact ⟨rfl, om9, fun j _ h => by omega⟩
 rintro k gG2 G2 _ hG2 ⟨rfl, hk, hj⟩
 refine g9 6 ?_
 refine WC.cd (fun h9 p9 => ?_) (fun h9 p9 => ?_)
 ·refine g9 15 ?_
  refine (h_l.mono hG2).aN (i := k) om9 (fun _ _ _ _ _ _ _ _ he3 hp_n4 hk_n4 hm_n4 hr_n4 hok_n4 => (g9 2 ?_))
  refine W.qcallV (fst := []) (caps := [pt9 b_c]) rfl (ZtH (nk9 hp_n4 hk_n4 hm_n4 hr_n4 hok_n4) _ _ _ _ _ (h_c.mono hG2) (by assumption)) rfl (g9 2 ?_)
  refine WC.cond rfl (fun h16 => ?_) (fun h16 => ?_)
  ·refine g9 13 ?_
   refine congrArg (Value.int .i64) ?_
   exact (Zdy (q := (JC (⟨cfan, cleaf, cbud, cslots, crest⟩ : Cfg))) om9 h16 hj).symm
  refine g9 8 ?_
  exact ⟨Le.rfl, k + 1, hs9, ⟨rfl, om9, fun j h hji => by
      by_cases e2 : j = k
      · subst e2; exact h16
      · exact hj j h om9⟩, om9⟩
 refine g9 12 ?_
 refine congrArg (Value.int .i64) ?_
 exact (Zdz (q := (JC (⟨cfan, cleaf, cbud, cslots, crest⟩ : Cfg))) (fun j h => hj j om9 om9)).symm

theorem ZtJ {G : GH} {v_l : Value} {l : List Nd} (h_l : SlR Zv G v_l l) (cfan : Int) (cleaf : Int) (cbud : Int) (cslots : Int) (crest : Int) {b_c : Nat} (h_c : CellsG G b_c 0 [iV cfan, iV cleaf, iV cbud, iV cslots, iV crest]) (hif : i64 cfan) :
    Fc Tryz.prog 57 [v_l, .func (.func 68) #[] #[pt9 b_c]] G [] (fun v _ _ => v = .bool (decide ((0 : Int) ≤ Yf (JC (⟨cfan, cleaf, cbud, cslots, crest⟩ : Cfg)) l))) := by
 obtain ⟨sa_l, sc_l, rfl⟩ := h_l.form
 refine Fc.go [.tmp 4] Tryz.func57 Tryz.ntmps57 rfl (fun w0 => (g9 9 ?_))
 refine W.qcall (ZtI h_l _ _ _ _ _ h_c (by assumption)) rfl (g9 6 ?_)
 rfl

theorem ZtK {G : GH} (cfan : Int) (cleaf : Int) (cbud : Int) (cslots : Int) (crest : Int) {v_l : Value} {l : List Nd} (h_l : SlR Zv G v_l l) (hif : i64 cfan) :
    Fc Tryz.prog 29 [.agg #[iV cfan, iV cleaf, iV cbud, iV cslots, iV crest], v_l] G [] (fun v _ _ => v = .bool ((!decide ((0 : Int) ≤ Yf (JC (⟨cfan, cleaf, cbud, cslots, crest⟩ : Cfg)) l)))) := by
 obtain ⟨sa_l, sc_l, rfl⟩ := h_l.form
 refine Fc.go [.tmp 4] Tryz.func29 Tryz.ntmps29 rfl (fun w0 => (g9 2 ?_))
 refine W.box (L := [iV _, iV _, iV _, iV _, iV _]) rfl rfl (fun b7 => (g9 6 ?_))
 refine W.giveB (b := b7) (L := [iV _, iV _, iV _, iV _, iV _]) pr9 (fun G8 hG8 hc8 => (W.ok (Zhd (fst := []) (caps := [.tmp 2]) (vs := []) (ws := [pt9 b7]) rfl rfl) (W.qcall (ZtJ (h_l.mono hG8) _ _ _ _ _ hc8 (by assumption)) rfl (g9 6 ?_))))
 rfl

theorem ZtL {G : GH} {v_l : Value} {l : List Nd} (h_l : SlR Zv G v_l l) (hS : Sml l) :
    Fc Tryz.prog 70 [v_l] G [] (fun v _ _ => v = nt9 (wmN l)) := by
 obtain ⟨sa_l, sc_l, rfl⟩ := h_l.form
 have hl := h_l.len47
 have hl100 := hS.1
 refine Fc.go [.tmp 2] Tryz.func70 Tryz.ntmps70 rfl (fun w0 => (g9 19 ?_))
 refine WC.loop (X := Nat) (fun i => [(3, nt9 ((wmN (l.take i)))), (8, nt9 i), (6, lV sa_l l.length sc_l), (7, nt9 ((l).length))]) (fun i _ Ml => Ml = [] ∧ i ≤ l.length) (fun i => l.length - i) 0 hs9 ?_ ?_
 ·exact ⟨rfl, om9⟩
 rintro i gG9 G9 _ hG9 ⟨rfl, hi⟩
 have hw9 := ZkJ hS i hi
 refine g9 6 ?_
 refine WC.cd (fun h9 p9 => ?_) (fun h9 p9 => ?_)
 ·have hm9 := (hS.at (.inr (List.getElem_mem (show i < l.length by omega)))).2.2.1
  refine g9 6 ?_
  refine (h_l.mono hG9).aN (i := i) om9 (fun _ _ _ _ _ _ _ _ he10 hp_n11 hk_n11 hm_n11 hr_n11 hok_n11 => (g9 2 ?_))
  refine W.alloc Zm (fun b14 => (g9 16 ?_))
  refine W.sub (sr9.cons _) (g9 2 ?_)
  exact ⟨Le.rfl, i + 1, ⟨(iv (by rw [ZkI om9]; omega)), eqv, eqv, eqv, trivial⟩, ⟨rfl, om9⟩, om9⟩
 refine g9 13 ?_
 exact iv (by rw [List.take_of_length_le om9])

theorem ZtM {G : GH} {v_l : Value} {l : List Nd} (h_l : SlR Zv G v_l l) (hS : Sml l) :
    Fc Tryz.prog 33 [v_l] G [] (fun v _ _ => v = .bool (Xd l)) := by
 obtain ⟨sa_l, sc_l, rfl⟩ := h_l.form
 refine Fc.go [.tmp 2] Tryz.func33 Tryz.ntmps33 rfl (fun w0 => (g9 8 ?_))
 refine W.qcall (ZtL h_l (by assumption)) rfl (g9 6 ?_)
 refine congrArg Value.bool ?_
 exact ZkT l

theorem Zlx {G : GH} {v_l : Value} {l : List Nd} (h_l : SlR Zv G v_l l) (c2 : Cfg) (ss : List Seat) (t : Tree c2 l ss) :
    Fc Tryz.prog 30 [v_l] G [] (fun v _ _ => v = iV ((Zg l 0).n.level + 1)) := by
 obtain ⟨sa_l, sc_l, rfl⟩ := h_l.form
 have hl := h_l.len47
 have hht := t.height
 have hl0 := t.lvl t.root
 refine Fc.go [.tmp 2] Tryz.func30 Tryz.ntmps30 rfl (fun w0 => (g9 8 ?_))
 refine W.call (Mp := []) (ZlF h_l) rfl pr9 ?_
 intro v15 G16 G16 hG16 q17
 refine match q17 with | ⟨e_20, hmp19⟩ => ?_
 subst e_20
 have q22 := hmp19.form
 refine match q22 with | ⟨b18, e_21⟩ => ?_
 subst e_21
 refine W.lookS (V := ZaC) (show ZP (YV l) 0 = some (Zg l 0).n from by have h := t.inMap t.root; rw [t.root0] at h; exact h) ZcQ Zei ⟨_, rfl, ⟨_, _, _, _, _, _, _, _, rfl, SlR.nil, SlR.nil, SlR.nil, SlR.nil, Nd.zero_ok⟩⟩ hmp19 rfl rfl (fun v23 hv24 => ?_)
 refine match hv24 with | ⟨_, e_26, ⟨_, _, _, _, _, _, _, _, e_27, hp_mn25, hk_mn25, hm_mn25, hr_mn25, hok_mn25⟩⟩ => ?_
 subst e_26
 subst e_27
 refine g9 3 ?_
 refine W.alloc Zm (fun b28 => (g9 24 ?_))
 rfl

theorem Zeo {G : GH} (ms : Int) (mk : Int) (mkey : Str) (mhi : Str) (mo : Bool) (mv : Str) :
    Fc Tryz.prog 220 [.agg #[iV ms, iV mk, sV mkey.b, sV mhi.b, .bool mo, sV mv.b]] G [] (fun v _ _ => v = iV (Msg.size (⟨ms, mk, mkey, mhi, mo, mv⟩ : Msg))) := by
 have h1 := mkey.le
 have h2 := mv.le
 refine Fc.go [.tmp 2] Tryz.func220 Tryz.ntmps220 rfl (fun w0 => (g9 2 ?_))
 refine W.box (L := [iV _, iV _, sV _, sV _, .bool _, sV _]) rfl rfl (fun b1 => (g9 11 ?_))
 refine WC.cd (fun h5 p5 => ?_) (fun h5 p5 => ?_)
 ·refine g9 8 ?_
  refine congrArg (Value.int .i64) ?_
  rw [Msg.size, if_pos p5]
 refine g9 17 ?_
 refine congrArg (Value.int .i64) ?_
 rw [Msg.size, if_neg p5]

theorem ZtN {G : GH} {v_l : Value} {l : List Msg} (h_l : SlR Zu G v_l l) (hs : ∀ m ∈ l, m.key.b.size ≤ 16 ∧ m.val.b.size ≤ 16) :
    Fc Tryz.prog 242 [v_l] G [] (fun v _ _ => v = iV (Zz l)) := by
 obtain ⟨sa_l, sc_l, rfl⟩ := h_l.form
 have hl := h_l.len47
 refine Fc.go [.tmp 2] Tryz.func242 Tryz.ntmps242 rfl (fun w0 => (g9 19 ?_))
 refine WC.loop (X := Nat) (fun k => [(3, iV (Zz (l.take k))), (8, nt9 k), (6, lV sa_l l.length sc_l), (7, nt9 ((l).length))]) (fun k _ Ml => Ml = [] ∧ k ≤ l.length ∧ 0 ≤ Zz (l.take k) ∧ Zz (l.take k) ≤ 36 * k) (fun k => l.length - k) 0 hs9 ?_ ?_
 ·exact ⟨rfl, om9, by simp [Zz], by simp [Zz]⟩
 rintro k gG2 G2 _ hG2 ⟨rfl, hk, h0, h36⟩
 refine g9 6 ?_
 refine WC.cd (fun h9 p9 => ?_) (fun h9 p9 => ?_)
 ·have hz := Zm8 (l := l) (k := k) om9
  have hz2 := Zdf (hs l[k] (List.getElem_mem _))
  have he : Msg.size ⟨l[k].stamp, l[k].kind, l[k].key, l[k].hi, l[k].opn, l[k].val⟩ = l[k].size := rfl
  refine g9 6 ?_
  refine (h_l.mono hG2).a2 (i := k) om9 (fun he3 hm4 => (g9 2 ?_))
  refine W.alloc Z1 (fun b8 => (g9 6 ?_))
  refine W.qcall (Zeo _ _ _ _ _ _) rfl (g9 8 ?_)
  refine W.sub (sr9.cons _) (g9 2 ?_)
  exact ⟨Le.rfl, k + 1, ⟨(iv om9), eqv, eqv, eqv, trivial⟩, ⟨rfl, om9, om9, om9⟩, om9⟩
 refine g9 13 ?_
 refine congrArg (Value.int .i64) ?_
 rw [List.take_of_length_le om9]

theorem ZtO {G : GH} {v_l : Value} {l : List Msg} (h_l : SlR Zu G v_l l) (ms : Int) (mk : Int) (mkey : Str) (mhi : Str) (mo : Bool) (mv : Str) (n : Int) (hs : ∀ m ∈ l, m.key.b.size ≤ 16 ∧ m.val.b.size ≤ 16) (hn : 0 ≤ n ∧ n ≤ 9223372036854775807) :
    Fc Tryz.prog 216 [v_l, .agg #[iV ms, iV mk, sV mkey.b, sV mhi.b, .bool mo, sV mv.b], iV n] G [] (fun v _ _ => v = .bool (decide (Msg.size (⟨ms, mk, mkey, mhi, mo, mv⟩ : Msg) ≤ n - Zz l))) := by
 obtain ⟨sa_l, sc_l, rfl⟩ := h_l.form
 have hl := h_l.len47
 have hz0 := Zd6 hs
 refine Fc.go [.tmp 6] Tryz.func216 Tryz.ntmps216 rfl (fun w0 => (g9 2 ?_))
 refine W.box (L := [iV _, iV _, sV _, sV _, .bool _, sV _]) rfl rfl (fun b9 => (g9 6 ?_))
 refine W.qcall (Zeo _ _ _ _ _ _) rfl (g9 2 ?_)
 refine W.qcall (ZtN h_l (by assumption)) rfl (g9 7 ?_)
 rfl

theorem ZtP {G : GH} (ms : Int) (mk : Int) (mkey : Str) (mhi : Str) (mo : Bool) (mv : Str) :
    Fc Tryz.prog 245 [.agg #[iV ms, iV mk, sV mkey.b, sV mhi.b, .bool mo, sV mv.b]] G [] (fun v _ _ => v = .bool (decide (mk = 4))) := by
 refine Fc.go [.tmp 2] Tryz.func245 Tryz.ntmps245 rfl (fun w0 => (g9 2 ?_))
 refine W.box (L := [iV _, iV _, sV _, sV _, .bool _, sV _]) rfl rfl (fun b10 => (g9 13 ?_))
 rfl

theorem ZtQ {G : GH} {v_l : Value} {l : List Msg} (h_l : SlR Zu G v_l l) :
    Fc Tryz.prog 244 [v_l, .func (.func 245) #[] #[]] G [] (fun v _ _ => v = iV (Yf isW l)) := by
 obtain ⟨sa_l, sc_l, rfl⟩ := h_l.form
 have hl := h_l.len47
 refine Fc.go [.tmp 4] Tryz.func244 Tryz.ntmps244 rfl (fun w0 => (g9 14 ?_))
 refine WC.loop (X := Nat) (fun k => [(8, nt9 k), (0, lV sa_l l.length sc_l), (1, .func (.func 245) #[] #[]), (7, nt9 ((l).length))]) (fun k _ Ml => Ml = [] ∧ k ≤ l.length ∧ ∀ j (h : j < l.length), j < k → isW l[j] = false) (fun k => l.length - k) 0 hs9 ?_ ?_
 ·exact ⟨rfl, om9, fun j _ h => by omega⟩
 rintro k gG11 G11 _ hG11 ⟨rfl, hk, hj⟩
 refine g9 6 ?_
 refine WC.cd (fun h9 p9 => ?_) (fun h9 p9 => ?_)
 ·refine g9 15 ?_
  refine (h_l.mono hG11).a2 (i := k) om9 (fun he12 hm13 => (g9 2 ?_))
  refine W.qcallV (fst := []) (caps := []) rfl (ZtP _ _ _ _ _ _) rfl (g9 2 ?_)
  refine WC.cond rfl (fun h16 => ?_) (fun h16 => ?_)
  ·refine g9 13 ?_
   refine congrArg (Value.int .i64) ?_
   exact (Zdy (q := isW) om9 h16 hj).symm
  refine g9 8 ?_
  exact ⟨Le.rfl, k + 1, hs9, ⟨rfl, om9, fun j h hji => by
      by_cases e2 : j = k
      · subst e2; exact h16
      · exact hj j h om9⟩, om9⟩
 refine g9 12 ?_
 refine congrArg (Value.int .i64) ?_
 exact (Zdz (q := isW) (fun j h => hj j om9 om9)).symm

theorem Zly {G : GH} {v_l : Value} {l : List Msg} (h_l : SlR Zu G v_l l) :
    Fc Tryz.prog 219 [v_l] G [] (fun v G' M' => M' = [] ∧ ∃ u0, v = u0 ∧ SlR Zu G' u0 (Zk l)) := by
 obtain ⟨sa_l, sc_l, rfl⟩ := h_l.form
 have hl := h_l.len47
 have hix := Zff isW l
 refine Fc.go [.tmp 2] Tryz.func219 Tryz.ntmps219 rfl (fun w0 => (g9 8 ?_))
 refine W.qcall (ZtQ h_l) rfl (g9 16 ?_)
 refine WC.cd (fun h8 p8 => ?_) (fun h8 p8 => ?_)
 ·refine g9 3 ?_
  refine W.cS (JS h_l) rfl (fun sa_hv18 sc_hv18 G17 hG17 hv18 => (g9 7 ?_))
  refine ⟨rfl, _, rfl, ?_⟩
  · exact SlR.cast hv18 (ZpR p8)
 refine g9 6 ?_
 refine WC.cd (fun h12 p12 => ?_) (fun h12 p12 => ?_)
 ·refine g9 9 ?_
  have hs24 := SlR.slice h_l (lo := 0) (hi := 1) om9 om9
  refine W.ok (JE (0) (1) Z2 Z7 h_l rfl rfl ⟨_, _, rfl, om9⟩ ⟨om9, om9⟩) (W.cS (JS hs24) rfl (fun sa_hv26 sc_hv26 G25 hG25 hv26 => (g9 5 ?_)))
  refine ⟨rfl, _, rfl, ?_⟩
  · exact SlR.cast hv26 (ZpS p8 p12)
 refine g9 7 ?_
 have hs32 := SlR.slice h_l (lo := 0) (hi := (Yf isW l).toNat) om9 om9
 refine W.ok (JE (0) ((Yf isW l).toNat) Z2 Z7 h_l rfl rfl ⟨_, _, rfl, om9⟩ ⟨om9, om9⟩) (W.cS (JS hs32) rfl (fun sa_hv34 sc_hv34 G33 hG33 hv34 => (g9 5 ?_)))
 refine ⟨rfl, _, rfl, ?_⟩
 · exact SlR.cast hv34 (ZpT p8 p12)

theorem Zlz {G : GH} {v_P : Value} {P : List Str} (h_P : SlR Yh G v_P P) {v_l : Value} {l : List Msg} (h_l : SlR Zu G v_l l) (i : Int) (hks : ∀ m ∈ l, m.key.b.size < 140737488355328) (hr : ZZ P = true) (hi : i64 i) :
    Fc Tryz.prog 246 [v_P, v_l, iV i] G [] (fun v G' M' => M' = [] ∧ ∃ u0, v = u0 ∧ SlR Zu G' u0 (Zd P l i)) := by
 obtain ⟨sa_P, sc_P, rfl⟩ := h_P.form
 obtain ⟨sa_l, sc_l, rfl⟩ := h_l.form
 have hl := h_l.len47
 have hlb : l.length * 72 ≤ 140737488355328 := h_l.bytes
 have hfl := ZfY l
 have hkf : ∀ m ∈ Zk l, m.key.b.size < 140737488355328 := fun m h => hks m (Zd5 h)
 refine Fc.go [.tmp 6] Tryz.func246 Tryz.ntmps246 rfl (fun w0 => (g9 14 ?_))
 refine W.qcall (Za3 h_P _ hi) rfl (W.alloc ZU (fun b40 => (g9 7 ?_)))
 refine W.cS (Zly h_l) rfl (fun sa_hv42 sc_hv42 G41 hG41 hv42 => (g9 5 ?_))
 refine WC.loop (X := (Nat) × Value × MH) (fun k => [(19, nt9 k.1), (8, pt9 b40), (0, lV sa_P P.length sc_P), (2, iV i), (17, lV sa_hv42 (Zk (l)).length sc_hv42), (18, nt9 ((Zk (l)).length)), (7, k.2.1)]) (fun k G Ml => Ml = ((b40, ce9 62 [sV (Zf P i).lo.b, sV (Zf P i).hi.b, .bool (Zf P i).opn]) :: (k.2.2 ++ [])) ∧ OwnR Zu 87 G k.2.1 (((Zk l).take k.1).filterMap (XL P i)) k.2.2 ∧ k.1 ≤ (Zk l).length) (fun k => (Zk l).length - k.1) (0, lV none 0 0, ([] : MH)) hs9 ?_ ?_
 ·exact ⟨rfl, (by exact OwnR.nil), om9⟩
 rintro ⟨k, v_7, M_7⟩ gG48 G48 _ hG48 ⟨rfl, ho_7, hk⟩
 try dsimp only at ho_7 hk
 have hfm := ZjS (XL P i) (Zk l) k
 refine WC.fr (f := ZX gG48 [(19, nt9 k), (8, pt9 b40), (0, lV sa_P P.length sc_P), (2, iV i), (17, lV sa_hv42 (Zk (l)).length sc_hv42), (18, nt9 ((Zk (l)).length)), (7, v_7)]) rfl (g9 6 ?_)
 refine WC.cd (fun h20 p20 => ?_) (fun h20 p20 => ?_)
 ·refine g9 6 ?_
  refine (hv42.mono hG48).a2 (i := k) om9 (fun he49 hm50 => (g9 2 ?_))
  refine W.alloc Z1 (fun b54 => (g9 9 ?_))
  refine W.qcall (Zcc (h_P.mono lec) _ hr) rfl (g9 4 ?_)
  refine WC.cn (fun h28 p28 => ?_) (fun h28 p28 => ?_)
  ·refine g9 7 ?_
   refine W.sub (sr9.cons _) (g9 2 ?_)
   exact ⟨Le.rfl, (k + 1, v_7, M_7), hs9, ⟨rfl, (by have h := ho_7; rw [ZjT om9 (fun hh => absurd hh.1 p28)]; exact h), om9⟩, om9⟩
  refine g9 6 ?_
  refine W.qcall (ZgG _ _ _ _ _ _ _ _ _ (hkf _ (List.getElem_mem (by omega : k < (Zk l).length)))) rfl (g9 3 ?_)
  refine W.alloc Z1 (fun b55 => (g9 9 ?_))
  refine WC.cond rfl (fun h32_1 => ?_) (fun h32_1 => ?_)
  ·refine g9 3 ?_
   refine W.lit (e := Zu) (l := [(Msg.clip (Zk l)[k] (Zf P i)).1]) (css := [[iV _, iV _, sV _, sV _, .bool _, sV _]]) Z2 Z7 Z1 rfl rfl rfl rfl rfl rfl ⟨⟨rfl, ZeL (by assumption)⟩, trivial⟩ (fun bl56 G56 hG56 hv56 => (W.app (e := Zu) Z2 Z7 Z1 rfl JP rfl rfl ((ho_7.mono hG56)) (hv56) (pmC (pmC (pmC pr9))) (by show (List.length _ + 1) * 72 ≤ _; omega) (fun v57 Ms58 ho59 => (W.perm (pmC (pmC (pmC pr9))).symm (g9 7 ?_)))))
   refine W.sub ((sr9.cons _).cons _) (g9 2 ?_)
   exact ⟨hG56, (k + 1, v57, Ms58), hs9, ⟨rfl, (by have h := ho59; rw [ZpU om9 p28 h32_1]; exact h), om9⟩, om9⟩
  refine g9 6 ?_
  refine W.sub ((sr9.cons _).cons _) (g9 2 ?_)
  exact ⟨Le.rfl, (k + 1, v_7, M_7), hs9, ⟨rfl, (by have h := ho_7; rw [ZjT om9 (fun hh => absurd (h32_1.symm.trans hh.2) (by simp))]; exact h), om9⟩, om9⟩
 refine g9 11 ?_
 refine WC.giveO ho_7 (pmC pr9) (fun G60 hG60 hv60 => (g9 2 ?_))
 refine ⟨rfl, _, rfl, ?_⟩
 · have h := hv60; rw [List.take_of_length_le om9] at h; exact h

theorem Zep {G : GH} {v_a : Value} {a : List Msg} (h_a : SlR Zu G v_a a) :
    Fc Tryz.prog 160 [v_a] G [] (fun v G' M' => OwnR Zu 87 G' v (a) M') := by
 obtain ⟨sa_a, sc_a, rfl⟩ := h_a.form
 have ha := h_a.bytes
 refine Fc.go [.tmp 2] Tryz.func160 Tryz.ntmps160 rfl (fun w0 => (g9 9 ?_))
 refine W.ok (Za4 Z2 rfl rfl) (g9 2 ?_)
 refine WC.cond rfl (fun h4 => ?_) (fun h4 => ?_)
 ·have hn := SlR.isNone h_a h4
  subst hn
  refine g9 8 ?_
  exact OwnR.nil
 refine g9 4 ?_
 refine W.lit0 (e := Zu) Z2 Z7 Z1 rfl (fun v61 Ms62 ho63 => (W.mv (W.app (e := Zu) Z2 Z7 Z1 rfl JP rfl rfl (ho63) (h_a) pr9 (by simpa using ha) (fun v64 Ms65 ho66 => (g9 4 ?_)))))
 refine ⟨.inr rfl, [_], ⟨rfl, trivial⟩, Ms65, List.sublist_append_left _ _, ?_⟩
 have h := ho66
 rw [List.nil_append] at h
 exact h

theorem ZgK {G : GH} {v_l : Value} {l : List Msg} (h_l : SlR Zu G v_l l) (ms : Int) (mk : Int) (mkey : Str) (mhi : Str) (mo : Bool) (mv : Str) (n : Int) (hs : ∀ m ∈ l, m.key.b.size ≤ 16 ∧ m.val.b.size ≤ 16) (hn : 0 ≤ n ∧ n ≤ 9223372036854775807) (hmi : i64 ms ∧ i64 mk) (hl9 : l.length ≤ 1000000) :
    Fc Tryz.prog 187 [v_l, .agg #[iV ms, iV mk, sV mkey.b, sV mhi.b, .bool mo, sV mv.b], iV n] G [] (fun v G' M' => M' = [] ∧ ∃ r : List Msg × Bool, r = JN n l (⟨ms, mk, mkey, mhi, mo, mv⟩ : Msg) ∧ ∃ u0, v = .tuple #[u0, .bool (r.2)] ∧ SlR Zu G' u0 (r.1)) := by
 obtain ⟨sa_l, sc_l, rfl⟩ := h_l.form
 have hl := h_l.len47
 have hlb : l.length * 72 ≤ 140737488355328 := h_l.bytes
 refine Fc.go [.tmp 6, .tmp 7] Tryz.func187 Tryz.ntmps187 rfl (fun w0 => (g9 2 ?_))
 refine W.box (L := [iV _, iV _, sV _, sV _, .bool _, sV _]) rfl rfl (fun b67 => (g9 10 ?_))
 refine W.qcall (ZtO h_l _ _ _ _ _ _ _ (by assumption) om9) rfl (g9 2 ?_)
 refine W.sp 13 rfl (fun h12 => ?_) (fun h12 => ?_)
 ·have q11 : ¬ (Msg.size (⟨ms, mk, mkey, mhi, mo, mv⟩ : Msg) ≤ n - Zz l) := by simpa using h12
  refine g9 28 ?_
  refine ⟨rfl, _, (ZjU (ZpV q11)).symm, _, rfl, ?_⟩
  · exact SlR.nil
 have q11 : Msg.size (⟨ms, mk, mkey, mhi, mo, mv⟩ : Msg) ≤ n - Zz l := by simpa using h12
 refine g9 8 ?_
 refine W.sd 17 (fun h16 p16 => ?_) (fun h16 p16 => ?_)
 ·refine g9 9 ?_
  refine h_l.a2 (i := l.length - 1) om9 (fun he68 hm69 => (W.ok (Yu (i := l.length - 1) Z2 Z7 h_l rfl rfl ⟨om9, om9⟩) (g9 15 ?_)))
  refine WC.cd (fun h27 p27 => ?_) (fun h27 p27 => ?_)
  ·refine g9 9 ?_
   refine ⟨rfl, _, (ZjU (ZpW om9 (by dsimp only; omega))).symm, _, rfl, ?_⟩
   · exact SlR.nil
  refine g9 3 ?_
  refine WC.dw sr9.k9 (d9 [0, 2] ?_)
  refine WD.any [1, 3] (by kernel_rfl) rfl ⟨WD.ap ?_, WD.ap ?_, trivial⟩
  ·refine W.call (Mp := []) (Zep h_l) rfl pr9 ?_
   rintro v74 G73 Ms75 hG73 ho76
   refine W.perm (pmC pr9).symm ?_
   have q80 := ho76.form
   refine match q80 with | ⟨sa77, sc78, e_79⟩ => ?_
   subst e_79
   refine W.nn (WD.a1 3 rfl (W.litO (e := Zu) (l := [(⟨ms, mk, mkey, mhi, mo, mv⟩ : Msg)]) (css := [[iV _, iV _, sV _, sV _, .bool _, sV _]]) Z2 Z7 Z1 rfl rfl rfl rfl rfl rfl ⟨⟨rfl, hmi⟩, trivial⟩ (fun v81 Ms82 ho83 => (W.perm (pmC pr9).symm ?_))))
   have q87 := ho83.form
   refine match q87 with | ⟨sa84, sc85, e_86⟩ => ?_
   subst e_86
   refine W.nn (WD.a1 4 rfl (W.giveO ho83 (pmC pr9) (fun G88 hG88 hv88 => (W.app (e := Zu) Z2 Z7 Z1 rfl JP rfl rfl ((ho76.mono hG88)) (hv88) (pmC pr9) (by show (List.length _ + List.length _) * 72 ≤ _; simp; omega) (fun v89 Ms90 ho91 => (W.perm (pmC pr9).symm ?_))))))
   have q95 := ho91.form
   refine match q95 with | ⟨sa92, sc93, e_94⟩ => ?_
   subst e_94
   refine W.nn (d9 [5, 6] ?_)
   refine g9 2 ?_
   refine WC.giveO ho91 (pmC pr9) (fun G96 hG96 hv96 => (g9 2 ?_))
   refine ⟨rfl, _, (ZbZ (Zb0.2 ⟨q11, fun h => by dsimp only; omega⟩)).symm, _, rfl, ?_⟩
   · exact hv96
  refine W.litO (e := Zu) (l := [(⟨ms, mk, mkey, mhi, mo, mv⟩ : Msg)]) (css := [[iV _, iV _, sV _, sV _, .bool _, sV _]]) Z2 Z7 Z1 rfl rfl rfl rfl rfl rfl ⟨⟨rfl, hmi⟩, trivial⟩ (fun v97 Ms98 ho99 => (W.perm (pmC pr9).symm ?_))
  have q103 := ho99.form
  refine match q103 with | ⟨sa100, sc101, e_102⟩ => ?_
  subst e_102
  refine W.nn (WD.a1 1 rfl (W.call (Mp := []) (Zep h_l) rfl pr9 ?_))
  rintro v105 G104 Ms106 hG104 ho107
  refine W.perm (pmC pr9).symm ?_
  have q111 := ho107.form
  refine match q111 with | ⟨sa108, sc109, e_110⟩ => ?_
  subst e_110
  refine W.nn (WD.a1 4 rfl (W.giveO (ho99.mono hG104) (pmC (pmA pr9)) (fun G112 hG112 hv112 => (W.app (e := Zu) Z2 Z7 Z1 rfl JP rfl rfl ((ho107.mono hG112)) (hv112) (pmC pr9) (by show (List.length _ + List.length _) * 72 ≤ _; simp; omega) (fun v113 Ms114 ho115 => (W.perm (pmC pr9).symm ?_))))))
  have q119 := ho115.form
  refine match q119 with | ⟨sa116, sc117, e_118⟩ => ?_
  subst e_118
  refine W.nn (d9 [5, 6] ?_)
  refine g9 2 ?_
  refine WC.giveO ho115 (pmC pr9) (fun G120 hG120 hv120 => (g9 2 ?_))
  refine ⟨rfl, _, (ZbZ (Zb0.2 ⟨q11, fun h => by dsimp only; omega⟩)).symm, _, rfl, ?_⟩
  · exact hv120
 refine g9 19 ?_
 refine WC.dw sr9.k9 (d9 [0, 2] ?_)
 refine WD.any [1, 3] (by kernel_rfl) rfl ⟨WD.ap ?_, WD.ap ?_, trivial⟩
 ·refine W.call (Mp := []) (Zep h_l) rfl pr9 ?_
  rintro v122 G121 Ms123 hG121 ho124
  refine W.perm (pmC pr9).symm ?_
  have q128 := ho124.form
  refine match q128 with | ⟨sa125, sc126, e_127⟩ => ?_
  subst e_127
  refine W.nn (WD.a1 3 rfl (W.litO (e := Zu) (l := [(⟨ms, mk, mkey, mhi, mo, mv⟩ : Msg)]) (css := [[iV _, iV _, sV _, sV _, .bool _, sV _]]) Z2 Z7 Z1 rfl rfl rfl rfl rfl rfl ⟨⟨rfl, hmi⟩, trivial⟩ (fun v129 Ms130 ho131 => (W.perm (pmC pr9).symm ?_))))
  have q135 := ho131.form
  refine match q135 with | ⟨sa132, sc133, e_134⟩ => ?_
  subst e_134
  refine W.nn (WD.a1 4 rfl (W.giveO ho131 (pmC pr9) (fun G136 hG136 hv136 => (W.app (e := Zu) Z2 Z7 Z1 rfl JP rfl rfl ((ho124.mono hG136)) (hv136) (pmC pr9) (by show (List.length _ + List.length _) * 72 ≤ _; simp; omega) (fun v137 Ms138 ho139 => (W.perm (pmC pr9).symm ?_))))))
  have q143 := ho139.form
  refine match q143 with | ⟨sa140, sc141, e_142⟩ => ?_
  subst e_142
  refine W.nn (d9 [5, 6] ?_)
  refine g9 2 ?_
  refine WC.giveO ho139 (pmC pr9) (fun G144 hG144 hv144 => (g9 2 ?_))
  refine ⟨rfl, _, (ZbZ (Zb0.2 ⟨q11, fun h => by omega⟩)).symm, _, rfl, ?_⟩
  · exact hv144
 refine W.litO (e := Zu) (l := [(⟨ms, mk, mkey, mhi, mo, mv⟩ : Msg)]) (css := [[iV _, iV _, sV _, sV _, .bool _, sV _]]) Z2 Z7 Z1 rfl rfl rfl rfl rfl rfl ⟨⟨rfl, hmi⟩, trivial⟩ (fun v145 Ms146 ho147 => (W.perm (pmC pr9).symm ?_))
 have q151 := ho147.form
 refine match q151 with | ⟨sa148, sc149, e_150⟩ => ?_
 subst e_150
 refine W.nn (WD.a1 1 rfl (W.call (Mp := []) (Zep h_l) rfl pr9 ?_))
 rintro v153 G152 Ms154 hG152 ho155
 refine W.perm (pmC pr9).symm ?_
 have q159 := ho155.form
 refine match q159 with | ⟨sa156, sc157, e_158⟩ => ?_
 subst e_158
 refine W.nn (WD.a1 4 rfl (W.giveO (ho147.mono hG152) (pmC (pmA pr9)) (fun G160 hG160 hv160 => (W.app (e := Zu) Z2 Z7 Z1 rfl JP rfl rfl ((ho155.mono hG160)) (hv160) (pmC pr9) (by show (List.length _ + List.length _) * 72 ≤ _; simp; omega) (fun v161 Ms162 ho163 => (W.perm (pmC pr9).symm ?_))))))
 have q167 := ho163.form
 refine match q167 with | ⟨sa164, sc165, e_166⟩ => ?_
 subst e_166
 refine W.nn (d9 [5, 6] ?_)
 refine g9 2 ?_
 refine WC.giveO ho163 (pmC pr9) (fun G168 hG168 hv168 => (g9 2 ?_))
 refine ⟨rfl, _, (ZbZ (Zb0.2 ⟨q11, fun h => by omega⟩)).symm, _, rfl, ?_⟩
 · exact hv168

theorem ZtR {G : GH} {v_l : Value} {l : List Pair} (h_l : SlR Zp G v_l l) {v_ms : Value} {ms : List Msg} (h_ms : SlR Zu G v_ms ms) (n : Int) (hP : PairsR l) (hn : l.length + ms.length ≤ 1000000) (hR : ∀ m ∈ ms, m.R) :
    Fc Tryz.prog 247 [v_l, v_ms, iV n] G [] (fun v G' M' => M' = [] ∧ ∃ r : List Pair × Nat, r = Yc n l ms ∧ ∃ u0, v = .tuple #[u0, nt9 r.2] ∧ SlR Zp G' u0 (r.1)) := by
 obtain ⟨sa_l, sc_l, rfl⟩ := h_l.form
 obtain ⟨sa_ms, sc_ms, rfl⟩ := h_ms.form
 have hl := h_l.len47
 have hlm := h_ms.len47
 refine Fc.go [.tmp 6, .tmp 7] Tryz.func247 Tryz.ntmps247 rfl (fun w0 => (g9 9 ?_))
 refine W.cS (Jf h_l) rfl (fun sa_hv2 sc_hv2 G1 hG1 hv2 => (g9 12 ?_))
 refine WC.loop (X := (Nat) × Value) (fun k => [(17, nt9 k.1), (1, lV sa_ms ms.length sc_ms), (2, iV n), (15, lV sa_ms ms.length sc_ms), (16, nt9 ((ms).length)), (8, k.2)]) (fun k G Ml => Ml = [] ∧ SlR Zp G k.2 (Zt l (ms.take k.1)) ∧ k.1 ≤ ms.length ∧ DrainAt n l ms k.1) (fun k => ms.length - k.1) (0, lV sa_hv2 ((l)).length sc_hv2) hs9 ?_ ?_
 ·exact ⟨rfl, (by simpa [Zt] using hv2), om9, DrainAt.zero n l ms⟩
 rintro ⟨k, v_8⟩ gG8 G8 _ hG8 ⟨rfl, ho_8, hk, hd⟩
 try dsimp only at ho_8 hk hd
 have hm : ∀ m ∈ ms, m.fit := fun m h => Zcz (Ziu (hR m h))
 have hPk := PairsR.foldF (ms := ms.take k) hP (fun m h => hm m (List.mem_of_mem_take h))
 have hnk := Ziv (ms := ms.take k) hP (fun m h => hm m (List.mem_of_mem_take h))
 have hkl : (ms.take k).length ≤ k := by simp; omega
 refine WC.fr (f := ZX gG8 [(17, nt9 k), (1, lV sa_ms ms.length sc_ms), (2, iV n), (15, lV sa_ms ms.length sc_ms), (16, nt9 ((ms).length)), (8, v_8)]) rfl (g9 6 ?_)
 refine WC.cd (fun h18 p18 => ?_) (fun h18 p18 => ?_)
 ·refine g9 7 ?_
  refine (h_ms.mono (hG1.trans hG8)).a2 (i := k) om9 (fun he9 hm10 => (g9 2 ?_))
  refine W.alloc Z1 (fun b14 => (g9 9 ?_))
  refine W.call (Mp := []) (ZgO ho_8 ms[k].stamp ms[k].kind ms[k].key ms[k].hi ms[k].opn ms[k].val _ hPk om9 (hm _ (List.getElem_mem _))) rfl pr9 ?_
  intro _ G15 _ hG15 q17
  refine match q17 with | ⟨e_18, _, e_19, _, e_20, hv16⟩ => ?_
  subst e_18
  subst e_19
  subst e_20
  have q22 := hv16.form
  refine match q22 with | ⟨sa_hv16, sc_hv16, e_21⟩ => ?_
  subst e_21
  refine g9 14 ?_
  refine WC.cond rfl (fun h30 => ?_) (fun h30 => ?_)
  ·have hlf : Yj (Zt l (ms.take k)) ms[k] n = false := by
     cases h : Yj (Zt l (ms.take k)) ms[k] n
     · rfl
     exfalso; rw [Zcy h] at h30; simp at h30
   refine g9 16 ?_
   refine ⟨rfl, _, (hd.stop om9 hlf).symm, _, rfl, ?_⟩
   · exact (ho_8.mono hG15)
  have hlf : Yj (Zt l (ms.take k)) ms[k] n = true := by
    by_cases h : Yj (Zt l (ms.take k)) ms[k] n = true
    · exact h
    exfalso; rw [Zfg (by simpa using h)] at h30; simp at h30
  refine g9 11 ?_
  refine W.sub (sr9.cons _) (g9 2 ?_)
  exact ⟨hG15, (k + 1, lV sa_hv16 ((ZaD (Zt l (ms.take k)) ms[k] n).1).length sc_hv16), hs9, ⟨rfl, (by exact SlR.cast hv16 (by rw [Zcy hlf, ZeU om9])), om9, hd.succ om9 hlf⟩, om9⟩
 refine g9 16 ?_
 refine ⟨rfl, _, ((hd.all om9).trans (by rw [show k = ms.length from by omega])).symm, _, rfl, ?_⟩
 · have h := ho_8; rw [List.take_of_length_le om9] at h; exact h

theorem ZgL {G : GH} {cs_p : List Value} {p : Nd} (h_p : NodeC G cs_p p) {cs_k : List Value} {k : Nd} (h_k : NodeC G cs_k k) (i : Int) :
    Fc Tryz.prog 224 [.agg (List.toArray cs_p), .agg (List.toArray cs_k), iV i] G [] (fun v _ _ => v = .bool (decide (KidOf p k i))) := by
 obtain ⟨_, _, _, _, _, _, _, _, rfl, hp_p, hk_p, hm_p, hr_p, hok_p⟩ := h_p
 obtain ⟨_, _, _, _, _, _, _, _, rfl, hp_k, hk_k, hm_k, hr_k, hok_k⟩ := h_k
 have hlk := hk_p.len47
 obtain ⟨hlv1, hlv2⟩ := hok_p.2.1
 refine Fc.go [.tmp 6] Tryz.func224 Tryz.ntmps224 rfl (fun w0 => (g9 2 ?_))
 refine W.box (L := [iV _, iV _, lV _ _ _, lV _ _ _, sV _, .bool _, iV _, iV _, lV _ _ _, lV _ _ _]) rfl rfl (fun b1 => (W.box (L := [iV _, iV _, lV _ _ _, lV _ _ _, sV _, .bool _, iV _, iV _, lV _ _ _, lV _ _ _]) rfl rfl (fun b2 => (g9 9 ?_))))
 refine W.sd 10 (fun h9 p9 => ?_) (fun h9 p9 => ?_)
 ·refine g9 14 ?_
  refine W.sd 18 (fun h16 p16 => ?_) (fun h16 p16 => ?_)
  ·refine g9 6 ?_
   refine W.sd 22 (fun h20 p20 => ?_) (fun h20 p20 => ?_)
   ·refine g9 16 ?_
    refine congrArg Value.bool ?_
    exact decide_eq_decide.2 ⟨fun h => ⟨om9, p16, om9, h⟩, fun h => h.2.2.2⟩
   refine g9 11 ?_
   refine congrArg Value.bool ?_
   exact (decide_eq_false fun h => by unfold KidOf at h; omega).symm
  refine g9 15 ?_
  refine congrArg Value.bool ?_
  exact (decide_eq_false fun h => by unfold KidOf at h; omega).symm
 refine g9 23 ?_
 refine congrArg Value.bool ?_
 exact (decide_eq_false fun h => by unfold KidOf at h; omega).symm

theorem ZlA {G : GH} (cf : Int) (cl : Int) (cb : Int) (cs : Int) (cr : Int) {cs_p : List Value} {p : Nd} (h_p : NodeC G cs_p p) {cs_k : List Value} {k : Nd} (h_k : NodeC G cs_k k) (i : Int) (hb : 0 ≤ cb ∧ cb ≤ 9223372036854775807) (hr : ZZ p.pivots = true) (hpv : ∀ q ∈ p.pivots, q.b.size ≤ 16) (hpm : ∀ m ∈ p.msgs, m.R) (hkm : ∀ m ∈ k.msgs, m.key.b.size ≤ 16 ∧ m.val.b.size ≤ 16) (hkr : PairsR k.rows) (hi : i64 i) (hsz : k.msgs.length + p.msgs.length ≤ 100000 ∧ k.rows.length ≤ 100000) :
    Fc Tryz.prog 225 [.agg #[iV cf, iV cl, iV cb, iV cs, iV cr], .agg (List.toArray cs_p), .agg (List.toArray cs_k), iV i] G [] (fun v G' M' => M' = [] ∧ ∃ r : Nd × Nat, r = Zr cl cb k (Zd p.pivots p.msgs i) ∧ ∃ u0 u1, v = .tuple #[.agg (List.toArray u0), u1] ∧ NodeC G' u0 (r.1) ∧ SlR Zu G' u1 ((Zd p.pivots p.msgs i).take r.2)) := by
 obtain ⟨pa_p, pc_p, ka_p, kc_p, ma_p, mc_p, ra_p, rc_p, rfl, hp_p, hk_p, hm_p, hr_p, hok_p⟩ := h_p
 obtain ⟨_, _, _, _, _, _, _, _, rfl, hp_k, hk_k, hm_k, hr_k, hok_k⟩ := h_k
 have hfR : ∀ m ∈ (Zd p.pivots p.msgs i), m.R := ZcH hpv hpm
 have hfl := Zj0 p.pivots p.msgs i
 have hpk : ∀ m ∈ p.msgs, m.key.b.size < 140737488355328 := fun m h => by have := (Y1 (hpm m h)).1; omega
 have hdl := Zfh cl (Zd p.pivots p.msgs i) k.rows
 refine Fc.go [.cell 8 60, .tmp 9] Tryz.func225 Tryz.ntmps225 rfl (fun w0 => (g9 2 ?_))
 refine W.box (L := [iV _, iV _, iV _, iV _, iV _]) rfl rfl (fun b3 => (W.box (L := [iV _, iV _, lV _ _ _, lV _ _ _, sV _, .bool _, iV _, iV _, lV _ _ _, lV _ _ _]) rfl rfl (fun b4 => (W.box (L := [iV _, iV _, lV _ _ _, lV _ _ _, sV _, .bool _, iV _, iV _, lV _ _ _, lV _ _ _]) rfl rfl (fun b5 => (W.alloc Zm (fun b6 => (g9 10 ?_))))))))
 refine W.cS (Zlz hp_p hm_p i hpk hr hi) rfl (fun sa_hv8 sc_hv8 G7 hG7 hv8 => (g9 6 ?_))
 refine W.cN (X1 (a := k) (nm9 hG7 hp_k hk_k hm_k hr_k hok_k)) rfl (fun pa_hv15 pc_hv15 ka_hv15 kc_hv15 ma_hv15 mc_hv15 ra_hv15 rc_hv15 G14 hG14 hp_hv15 hk_hv15 hm_hv15 hr_hv15 hok_hv15 => (g9 11 ?_))
 refine WC.cd (fun h26 p26 => ?_) (fun h26 p26 => ?_)
 ·refine g9 12 ?_
  refine W.call (Mp := []) (ZtR hr_hv15 (hv8.mono hG14) cl hkr om9 hfR) rfl pr9 ?_
  intro _ G20 _ hG20 q22
  refine match q22 with | ⟨e_23, _, e_24, _, e_25, hv21⟩ => ?_
  subst e_23
  subst e_24
  subst e_25
  have q27 := hv21.form
  refine match q27 with | ⟨sa_hv21, sc_hv21, e_26⟩ => ?_
  subst e_26
  refine g9 9 ?_
  refine WC.dw (((sr9.k9.k9).k9).cons _) (d9 [0, 1, 2] ?_)
  have hs28 := SlR.slice (hv8.mono (hG14.trans hG20)) (lo := 0) (hi := (Yc cl k.rows (Zd p.pivots p.msgs i)).2) om9 om9
  refine WD.tk 3 rfl (JE (0) ((Yc cl k.rows (Zd p.pivots p.msgs i)).2) Z2 Z7 (hv8.mono lec) rfl rfl ⟨_, _, rfl, om9⟩ ⟨om9, om9⟩) (d9 [4, 5] ?_)
  refine g9 5 ?_
  refine ⟨rfl, _, (ZfZ p26).symm, _, _, rfl, ?_, ?_⟩
  · exact ⟨_, _, _, _, _, _, _, _, rfl, (hp_hv15.mono hG20), (hk_hv15.mono hG20), (hm_hv15.mono hG20), hv21, hok_k⟩
  exact SlR.cast hs28 (by rw [List.drop_zero])
 refine g9 11 ?_
 refine WC.loop (X := (Nat) × List Value) (fun j => [(43, nt9 j.1), (4, pt9 b3), (6, pt9 b5), (8, pt9 b6), (10, lV sa_hv8 ((Zd p.pivots p.msgs i)).length sc_hv8), (41, lV sa_hv8 ((Zd p.pivots p.msgs i)).length sc_hv8), (42, nt9 (((Zd p.pivots p.msgs i)).length))]) (fun j G Ml => Ml = [(b6, ce9 60 nz9), (b5, .cells (List.toArray j.2) 60 (0, 0)), (b4, ce9 60 (ndl p pa_p pc_p ka_p kc_p ma_p mc_p ra_p rc_p)), (b3, ce9 23 [iV cf, iV cl, iV cb, iV cs, iV cr])] ∧ NodeC G j.2 ({ k with msgs := (k.msgs ++ (Zd p.pivots p.msgs i).take j.1) }) ∧ j.1 ≤ (Zd p.pivots p.msgs i).length ∧ AddsAt cb k.msgs (Zd p.pivots p.msgs i) j.1) (fun j => (Zd p.pivots p.msgs i).length - j.1) (0, ((ndl (k) pa_hv15 pc_hv15 ka_hv15 kc_hv15 ma_hv15 mc_hv15 ra_hv15 rc_hv15) : List Value)) hs9 ?_ ?_
 ·exact ⟨rfl, (by dsimp only; rw [List.take_zero, List.append_nil]; exact (nk9 hp_hv15 hk_hv15 hm_hv15 hr_hv15 hok_hv15)), om9, AddsAt.zero _ _ _⟩
 rintro ⟨j, C_6⟩ gG29 G29 _ hG29 ⟨rfl, ho_6, hj, hd⟩
 try dsimp only at ho_6 hj hd
 have hsj : ∀ m ∈ (k.msgs ++ (Zd p.pivots p.msgs i).take j), m.key.b.size ≤ 16 ∧ m.val.b.size ≤ 16 := fun m h => by
   rcases List.mem_append.1 h with h | h
   · exact hkm m h
   exact Y1 (hfR m (List.mem_of_mem_take h))
 have hlj : (k.msgs ++ (Zd p.pivots p.msgs i).take j).length ≤ 100000 := by rw [List.length_append, List.length_take]; omega
 refine match ho_6 with | ⟨pa_nb30, pc_nb30, ka_nb30, kc_nb30, _, _, ra_nb30, rc_nb30, e_31, hp_nb30, hk_nb30, hm_nb30, hr_nb30, hok_nb30⟩ => ?_
 subst e_31
 refine WC.fr (f := ZX gG29 [(43, nt9 j), (4, pt9 b3), (6, pt9 b5), (8, pt9 b6), (10, lV sa_hv8 ((Zd p.pivots p.msgs i)).length sc_hv8), (41, lV sa_hv8 ((Zd p.pivots p.msgs i)).length sc_hv8), (42, nt9 (((Zd p.pivots p.msgs i)).length))]) rfl (g9 6 ?_)
 refine WC.cd (fun h44 p44 => ?_) (fun h44 p44 => ?_)
 ·refine g9 7 ?_
  refine (hv8.mono (hG14.trans hG29)).a2 (i := j) om9 (fun he32 hm33 => (g9 2 ?_))
  refine W.alloc Z1 (fun b37 => (g9 11 ?_))
  refine W.call (Mp := []) (ZgK hm_nb30 ((Zd p.pivots p.msgs i)[j]'om9).stamp ((Zd p.pivots p.msgs i)[j]'om9).kind ((Zd p.pivots p.msgs i)[j]'om9).key ((Zd p.pivots p.msgs i)[j]'om9).hi ((Zd p.pivots p.msgs i)[j]'om9).opn ((Zd p.pivots p.msgs i)[j]'om9).val cb hsj hb (by assumption) (by show List.length (k.msgs ++ (Zd p.pivots p.msgs i).take j) ≤ _; omega)) rfl pr9 ?_
  intro _ G38 _ hG38 q40
  refine match q40 with | ⟨e_41, _, e_42, _, e_43, hv39⟩ => ?_
  subst e_41
  subst e_42
  subst e_43
  have q45 := hv39.form
  refine match q45 with | ⟨sa_hv39, sc_hv39, e_44⟩ => ?_
  subst e_44
  refine g9 14 ?_
  refine WC.cond rfl (fun h58 => ?_) (fun h58 => ?_)
  ·have hro : Yo cb (k.msgs ++ (Zd p.pivots p.msgs i).take j) ((Zd p.pivots p.msgs i)[j]'om9) = false := by rw [← Zf1]; simpa using h58
   have hst := hd.stop om9 hro
   refine WC.seq (WC.dw ((((sr9.k9.k9).k9).cons _).k9) (d9 [0, 1, 2] ?_))
   have hs46 := SlR.slice (hv8.mono ((hG14.trans hG29).trans hG38)) (lo := 0) (hi := j) om9 om9
   refine WD.tk 3 rfl (JE (0) (j) Z2 Z7 (hv8.mono lec) rfl rfl ⟨_, _, rfl, om9⟩ ⟨om9, om9⟩) (d9 [4, 5] ?_)
   refine g9 10 ?_
   refine ⟨rfl, _, (Zf0 p26 hst).symm, _, _, rfl, ?_, ?_⟩
   · exact (nm9 hG38 hp_nb30 hk_nb30 hm_nb30 hr_nb30 hok_k)
   exact SlR.cast hs46 (by rw [List.drop_zero])
  have hro : Yo cb (k.msgs ++ (Zd p.pivots p.msgs i).take j) ((Zd p.pivots p.msgs i)[j]'om9) = true := by rw [← Zf1]; simpa using h58
  have hnx : k.msgs ++ (Zd p.pivots p.msgs i).take (j + 1) = (JN cb (k.msgs ++ (Zd p.pivots p.msgs i).take j) ((Zd p.pivots p.msgs i)[j]'om9)).1 := by rw [ZbZ hro, List.take_succ_eq_append_getElem om9, List.append_assoc]
  refine g9 12 ?_
  refine W.sub (sr9.cons _) (g9 2 ?_)
  exact ⟨hG38, (j + 1, [iV ({ k with msgs := (k.msgs ++ (Zd p.pivots p.msgs i).take j) }).slot, iV ({ k with msgs := (k.msgs ++ (Zd p.pivots p.msgs i).take j) }).level, lV pa_nb30 (({ k with msgs := (k.msgs ++ (Zd p.pivots p.msgs i).take j) }).pivots).length pc_nb30, lV ka_nb30 (({ k with msgs := (k.msgs ++ (Zd p.pivots p.msgs i).take j) }).kids).length kc_nb30, sV ({ k with msgs := (k.msgs ++ (Zd p.pivots p.msgs i).take j) }).high.b, .bool ({ k with msgs := (k.msgs ++ (Zd p.pivots p.msgs i).take j) }).top, iV ({ k with msgs := (k.msgs ++ (Zd p.pivots p.msgs i).take j) }).right, iV ({ k with msgs := (k.msgs ++ (Zd p.pivots p.msgs i).take j) }).seen, lV sa_hv39 ((JN cb (k.msgs ++ (Zd p.pivots p.msgs i).take j) ((Zd p.pivots p.msgs i)[j]'om9)).1).length sc_hv39, lV ra_nb30 (({ k with msgs := (k.msgs ++ (Zd p.pivots p.msgs i).take j) }).rows).length rc_nb30]), hs9, ⟨rfl, (by dsimp only; rw [hnx]; exact ⟨_, _, _, _, _, _, _, _, rfl, (hp_nb30.mono hG38), (hk_nb30.mono hG38), hv39, (hr_nb30.mono hG38), hok_nb30⟩), om9, hd.succ om9 hro⟩, om9⟩
 refine g9 15 ?_
 refine ⟨rfl, _, (Zf0 p26 (hd.all om9)).symm, _, _, rfl, ?_, ?_⟩
 · exact (nk9 hp_nb30 hk_nb30 hm_nb30 hr_nb30 hok_k)
 exact SlR.cast (hv8.mono lec) (List.take_of_length_le om9).symm

theorem ZcX {G : GH} (cf : Int) (cl : Int) (cb : Int) (cs : Int) (cr : Int) {cs_p : List Value} {p : Nd} (h_p : NodeC G cs_p p) {cs_k : List Value} {k : Nd} (h_k : NodeC G cs_k k) (i : Int) (hb : 0 ≤ cb ∧ cb ≤ 9223372036854775807) (hr : ZZ p.pivots = true) (hpv : ∀ q ∈ p.pivots, q.b.size ≤ 16) (hpm : ∀ m ∈ p.msgs, m.R) (hkm : ∀ m ∈ k.msgs, m.key.b.size ≤ 16 ∧ m.val.b.size ≤ 16) (hkr : PairsR k.rows) (hi : i64 i) (hsz : k.msgs.length + p.msgs.length ≤ 100000 ∧ k.rows.length ≤ 100000) :
    Fc Tryz.prog 221 [.agg #[iV cf, iV cl, iV cb, iV cs, iV cr], .agg (List.toArray cs_p), .agg (List.toArray cs_k), iV i] G [] (fun v _ _ => v = nt9 (ZS cl cb p k i)) := by
 obtain ⟨_, _, _, _, _, _, _, _, rfl, hp_p, hk_p, hm_p, hr_p, hok_p⟩ := h_p
 obtain ⟨_, _, _, _, _, _, _, _, rfl, hp_k, hk_k, hm_k, hr_k, hok_k⟩ := h_k
 refine Fc.go [.tmp 8] Tryz.func221 Tryz.ntmps221 rfl (fun w0 => (g9 2 ?_))
 refine W.box (L := [iV _, iV _, iV _, iV _, iV _]) rfl rfl (fun b47 => (W.box (L := [iV _, iV _, lV _ _ _, lV _ _ _, sV _, .bool _, iV _, iV _, lV _ _ _, lV _ _ _]) rfl rfl (fun b48 => (W.box (L := [iV _, iV _, lV _ _ _, lV _ _ _, sV _, .bool _, iV _, iV _, lV _ _ _, lV _ _ _]) rfl rfl (fun b49 => (g9 9 ?_))))))
 refine W.qcall (ZgL (p := p) (k := k) (nk9 hp_p hk_p hm_p hr_p hok_p) (nk9 hp_k hk_k hm_k hr_k hok_k) i) rfl (g9 3 ?_)
 refine WC.cond rfl (fun h15 => ?_) (fun h15 => ?_)
 ·refine g9 8 ?_
  refine congrArg (Value.int .i64) (congrArg Nat.cast ?_)
  exact (ZjV (by simpa using h15)).symm
 refine g9 8 ?_
 refine W.call (Mp := []) (ZlA cf cl cb cs cr (p := p) (k := k) (nk9 hp_p hk_p hm_p hr_p hok_p) (nk9 hp_k hk_k hm_k hr_k hok_k) i hb hr hpv hpm hkm hkr hi hsz) rfl pr9 ?_
 intro _ G50 _ hG50 q53
 refine match q53 with | ⟨e_54, _, e_55, _, _, e_56, hv51, hv52⟩ => ?_
 subst e_54
 subst e_55
 subst e_56
 refine match hv51 with | ⟨_, _, _, _, _, _, _, _, e_57, hp_hv51, hk_hv51, hm_hv51, hr_hv51, hok_hv51⟩ => ?_
 subst e_57
 have q59 := hv52.form
 refine match q59 with | ⟨sa_hv52, sc_hv52, e_58⟩ => ?_
 subst e_58
 refine g9 3 ?_
 refine W.alloc Zm (fun b60 => (g9 13 ?_))
 refine congrArg (Value.int .i64) (congrArg Nat.cast ?_)
 rw [Zbn (by simpa using h15), Zf2]

theorem ZlB {G : GH} (ms : Int) (mk : Int) (mkey : Str) (mhi : Str) (mo : Bool) (mv : Str) (slo : Str) (shi : Str) (so : Bool) (hk : mkey.b.size < 140737488355328) :
    Fc Tryz.prog 226 [.agg #[iV ms, iV mk, sV mkey.b, sV mhi.b, .bool mo, sV mv.b], .agg #[sV slo.b, sV shi.b, .bool so]] G [] (fun v _ _ => v = .tuple #[.agg (List.toArray ((ZC (⟨ms, mk, mkey, mhi, mo, mv⟩ : Msg) ⟨slo, shi, so⟩).1.cells)), .bool ((ZC (⟨ms, mk, mkey, mhi, mo, mv⟩ : Msg) ⟨slo, shi, so⟩).2)]) := by
 refine Fc.go [.cell 4 87, .tmp 5] Tryz.func226 Tryz.ntmps226 rfl (fun w0 => (g9 2 ?_))
 refine W.box (L := [iV _, iV _, sV _, sV _, .bool _, sV _]) rfl rfl (fun b61 => (W.box (L := [sV _, sV _, .bool _]) rfl rfl (fun b62 => (W.alloc Z1 (fun b63 => (g9 10 ?_))))))
 refine WC.cond rfl (fun ha_so => ?_) (fun ha_so => ?_)
 ·refine g9 2 ?_
  refine W.ok (Ya (L := [iV _, iV _, sV _, sV _, .bool _, sV _]) Zgx Z1 rfl rfl rfl) (g9 7 ?_)
  show Value.tuple #[Value.agg (List.toArray [_, _, _, _, _, _]), Value.bool _] = _
  rw [ZC, if_pos (by assumption)]; rfl
 refine g9 7 ?_
 refine W.ok (Ya (L := [sV _, sV _, .bool _]) JD ZU rfl rfl rfl) (W.qcall (ZgG _ _ _ _ _ _ _ Str.nil _ (by first | assumption | omega | (dsimp only; omega))) rfl (g9 8 ?_))
 show Value.tuple #[Value.agg (List.toArray [_, _, _, _, _, _]), Value.bool _] = _
 rw [ZC, if_neg (by simp_all)]; rfl

theorem Zeq {G : GH} (cf : Int) (cl : Int) (cb : Int) (cs : Int) (cr : Int) {cs_p : List Value} {p : Nd} (h_p : NodeC G cs_p p) {cs_k : List Value} {k : Nd} (h_k : NodeC G cs_k k) (i : Int) (hb : 0 ≤ cb ∧ cb ≤ 9223372036854775807) (hr : ZZ p.pivots = true) (hpv : ∀ q ∈ p.pivots, q.b.size ≤ 16) (hpm : ∀ m ∈ p.msgs, m.R) (hkm : ∀ m ∈ k.msgs, m.key.b.size ≤ 16 ∧ m.val.b.size ≤ 16) (hkr : PairsR k.rows) (hi : i64 i) (hsz : k.msgs.length + p.msgs.length ≤ 100000 ∧ k.rows.length ≤ 100000) :
    Fc Tryz.prog 222 [.agg #[iV cf, iV cl, iV cb, iV cs, iV cr], .agg (List.toArray cs_p), .agg (List.toArray cs_k), iV i] G [] (fun v _ _ => v = .bool (decide (KidOf p k i ∧ 0 < (Zd p.pivots p.msgs i).length ∧ ZS cl cb p k i = 0))) := by
 obtain ⟨_, _, _, _, _, _, _, _, rfl, hp_p, hk_p, hm_p, hr_p, hok_p⟩ := h_p
 obtain ⟨_, _, _, _, _, _, _, _, rfl, hp_k, hk_k, hm_k, hr_k, hok_k⟩ := h_k
 have hpk : ∀ m ∈ p.msgs, m.key.b.size < 140737488355328 := fun m h => by have := (Y1 (hpm m h)).1; omega
 refine Fc.go [.tmp 8] Tryz.func222 Tryz.ntmps222 rfl (fun w0 => (g9 2 ?_))
 refine W.box (L := [iV _, iV _, iV _, iV _, iV _]) rfl rfl (fun b64 => (W.box (L := [iV _, iV _, lV _ _ _, lV _ _ _, sV _, .bool _, iV _, iV _, lV _ _ _, lV _ _ _]) rfl rfl (fun b65 => (W.box (L := [iV _, iV _, lV _ _ _, lV _ _ _, sV _, .bool _, iV _, iV _, lV _ _ _, lV _ _ _]) rfl rfl (fun b66 => (g9 8 ?_))))))
 refine W.qcall (ZgL (p := p) (k := k) (nk9 hp_p hk_p hm_p hr_p hok_p) (nk9 hp_k hk_k hm_k hr_k hok_k) i) rfl (W.mv ?_)
 refine W.sp 13 rfl (fun h12 => ?_) (fun h12 => ?_)
 ·refine g9 11 ?_
  refine W.cS (Zlz hp_p hm_p i hpk hr hi) rfl (fun sa_hv68 sc_hv68 G67 hG67 hv68 => (g9 6 ?_))
  refine W.sd 23 (fun h21 p21 => ?_) (fun h21 p21 => ?_)
  ·refine g9 9 ?_
   refine W.qcall (ZcX cf cl cb cs cr (p := p) (k := k) (nm9 hG67 hp_p hk_p hm_p hr_p hok_p) (nm9 hG67 hp_k hk_k hm_k hr_k hok_k) i hb hr hpv hpm hkm hkr hi hsz) rfl (g9 8 ?_)
   refine congrArg Value.bool ?_
   first | (simp_all; done) | (simp_all; omega)
  refine g9 12 ?_
  refine congrArg Value.bool ?_
  first | (simp_all; done) | (simp_all; omega)
 refine g9 22 ?_
 refine congrArg Value.bool ?_
 first | (simp_all; done) | (simp_all; omega)

theorem ZlC {G : GH} {v_P : Value} {P : List Str} (h_P : SlR Yh G v_P P) {v_l : Value} {l : List Msg} (h_l : SlR Zu G v_l l) (hs : ∀ m ∈ l, m.key.b.size ≤ 16 ∧ m.val.b.size ≤ 16) (hl9 : l.length ≤ 100000 ∧ P.length ≤ 100000) (hr : ZZ P = true) :
    Fc Tryz.prog 191 [v_P, v_l] G [] (fun v _ _ => v = .tuple #[iV ((XE P l).1), .bool ((XE P l).2)]) := by
 obtain ⟨sa_P, sc_P, rfl⟩ := h_P.form
 obtain ⟨sa_l, sc_l, rfl⟩ := h_l.form
 have hl := h_l.len47
 have hlP := h_P.len47
 have hfl := ZfY l
 have hfs : ∀ m ∈ Zk l, m.key.b.size ≤ 16 ∧ m.val.b.size ≤ 16 := fun m h => hs m (Zd5 h)
 refine Fc.go [.tmp 4, .tmp 5] Tryz.func191 Tryz.ntmps191 rfl (fun w0 => (g9 14 ?_))
 refine WC.cd (fun h14 p14 => ?_) (fun h14 p14 => ?_)
 ·refine g9 9 ?_
  show Value.tuple #[Value.int _ _, Value.bool _] = _
  rw [Zji om9]
 refine g9 6 ?_
 refine W.ok (Ok.int (n := ((P.length + 1 : Nat) : Int)) (YY rfl rfl om9) om9) (W.mkSl (e := ZA) (a0 := (0 : Int)) (n := P.length + 1) Z8 ty3 zr3 rfl by3 (⟨rfl, by decide, by decide⟩) rfl rfl (by first | (show _ * 8 ≤ 140737488355328; omega) | (show _ * 8 ≤ 16777216; omega) | (show _ * 1 ≤ 16777216; omega)) (by first | (show _ * 8 ≤ 140737488355328; omega) | (show _ * 8 ≤ 16777216; omega) | (show _ * 1 ≤ 16777216; omega)) (fun v1 Ms2 ho3 => ?_))
 have q7 := ho3.form
 refine match q7 with | ⟨sa4, sc5, e_6⟩ => ?_
 subst e_6
 refine g9 7 ?_
 refine W.cS (Zly h_l) rfl (fun sa_hv9 sc_hv9 G8 hG8 hv9 => (g9 5 ?_))
 refine WC.loop (X := (Nat) × Value × MH) (fun q => [(22, nt9 q.1), (0, lV sa_P P.length sc_P), (20, lV sa_hv9 ((Zk l)).length sc_hv9), (21, nt9 (((Zk l)).length)), (6, q.2.1)]) (fun q G Ml => Ml = (q.2.2 ++ []) ∧ OwnR ZA 3 G q.2.1 (wts P ((Zk l).take q.1)) q.2.2 ∧ q.1 ≤ (Zk l).length) (fun q => (Zk l).length - q.1) (0, lV sa4 ((List.replicate (P.length + 1) (0 : Int))).length sc5, Ms2) hs9 ?_ ?_
 ·exact ⟨rfl, (by exact OwnR.cast (ho3.mono hG8) (Zpi P)), om9⟩
 rintro ⟨q, v_6, M_6⟩ gG15 G15 _ hG15 ⟨rfl, ho_6, hq⟩
 try dsimp only at ho_6 hq
 have hwl := ZcE P ((Zk l).take q)
 refine WC.fr (f := ZX gG15 [(22, nt9 q), (0, lV sa_P P.length sc_P), (20, lV sa_hv9 ((Zk l)).length sc_hv9), (21, nt9 (((Zk l)).length)), (6, v_6)]) rfl (g9 6 ?_)
 refine WC.cd (fun h23 p23 => ?_) (fun h23 p23 => ?_)
 ·have hrl : (Ze P ((Zk l)[q]'om9).key) < (wts P ((Zk l).take q)).length := by rw [ZcE]; have : (Ze P ((Zk l)[q]'om9).key) ≤ P.length := List.length_filter_le _ _; omega
  have hg9 := ZaI hrl
  have hb9 := Zpd P ((Zk l).take q) (Ze P ((Zk l)[q]'om9).key) (fun m h => hfs m (List.mem_of_mem_take h))
  have hb8 := ZfH P ((Zk l).take q) (Ze P ((Zk l)[q]'om9).key)
  have ht9 : ((Zk l).take q).length ≤ 100000 := by rw [List.length_take]; omega
  have hz9 := Zdf (hfs _ (List.getElem_mem (by omega : q < (Zk l).length)))
  have hwi : i64 ((wts P ((Zk l).take q))[(Ze P ((Zk l)[q]'om9).key)]'hrl + ((Zk l)[q]'om9).size) := ⟨om9, om9⟩
  have he9 : Msg.size ⟨((Zk l)[q]'om9).stamp, ((Zk l)[q]'om9).kind, ((Zk l)[q]'om9).key, ((Zk l)[q]'om9).hi, ((Zk l)[q]'om9).opn, ((Zk l)[q]'om9).val⟩ = ((Zk l)[q]'om9).size := rfl
  refine g9 6 ?_
  refine (hv9.mono hG15).a2 (i := q) om9 (fun he16 hm17 => (g9 2 ?_))
  refine W.alloc Z1 (fun b21 => (g9 3 ?_))
  refine WC.dw sn9.k9 (d9 [0, 1, 2, 3, 7] ?_)
  refine WD.a1 4 rfl (W.qcall (Zcc (h_P.mono lec) _ hr) rfl (W.nn (ho_6.a2 (i := (Ze P ((Zk l)[q]'om9).key)) om9 (fun he22 hi23 => (WD.tk 5 rfl (Yw (i := (Ze P ((Zk l)[q]'om9).key)) Z8 ty3 ho_6 rfl rfl ⟨rfl, om9⟩) ?_)))))
  refine WD.any [6, 8] (by kernel_rfl) rfl ⟨WD.ap ?_, WD.ap ?_, trivial⟩
  ·refine W.ok (Y4 (vs := ic9) ty3 he22 (pmC pr9) rfl rfl rfl (by simp)) (W.nn (WD.a1 8 rfl (W.qcall (Zeo _ _ _ _ _ _) rfl (W.nn (d9 [9] ?_)))))
   refine ho_6.a2 (i := (Ze P ((Zk l)[q]'om9).key)) om9 (fun he26 hi27 => (WD.tk 10 rfl (Yw (i := (Ze P ((Zk l)[q]'om9).key)) Z8 ty3 ho_6 rfl rfl ⟨rfl, om9⟩) (WD.a1 11 rfl (W.storeO (i := (Ze P ((Zk l)[q]'om9).key)) (o := 0) (vs := ic9) (a' := ((wts P ((Zk l).take q))[(Ze P ((Zk l)[q]'om9).key)]'hrl + ((Zk l)[q]'om9).size)) ty3 rfl rfl rfl rfl rfl (ho_6) (pmC pr9) om9 (by decide) (fun cs h => by rw [h.1]; exact ⟨rfl, hwi⟩) (fun Ms30 ho31 => (W.perm (pmC pr9).symm (W.nn (WD.done (by kernel_rfl) (JV (Xg (g9 3 ?_)))))))))))
   refine W.sub (sr9.cons _) (g9 2 ?_)
   exact ⟨Le.rfl, (q + 1, v_6, Ms30), hs9, ⟨rfl, (by have h := ho31; rw [Zjj om9 hrl] at h; exact h), om9⟩, om9⟩
  refine W.qcall (Zeo _ _ _ _ _ _) rfl (W.nn (WD.a1 6 rfl (W.ok (Y4 (vs := ic9) ty3 he22 (pmC pr9) rfl rfl rfl (by simp)) (W.nn (d9 [9] ?_)))))
  refine ho_6.a2 (i := (Ze P ((Zk l)[q]'om9).key)) om9 (fun he32 hi33 => (WD.tk 10 rfl (Yw (i := (Ze P ((Zk l)[q]'om9).key)) Z8 ty3 ho_6 rfl rfl ⟨rfl, om9⟩) (WD.a1 11 rfl (W.storeO (i := (Ze P ((Zk l)[q]'om9).key)) (o := 0) (vs := ic9) (a' := ((wts P ((Zk l).take q))[(Ze P ((Zk l)[q]'om9).key)]'hrl + ((Zk l)[q]'om9).size)) ty3 rfl rfl rfl rfl rfl (ho_6) (pmC pr9) om9 (by decide) (fun cs h => by rw [h.1]; exact ⟨rfl, hwi⟩) (fun Ms36 ho37 => (W.perm (pmC pr9).symm (W.nn (WD.done (by kernel_rfl) (JV (Xg (g9 3 ?_)))))))))))
  refine W.sub (sr9.cons _) (g9 2 ?_)
  exact ⟨Le.rfl, (q + 1, v_6, Ms36), hs9, ⟨rfl, (by have h := ho37; rw [Zjj om9 hrl] at h; exact h), om9⟩, om9⟩
 refine g9 6 ?_
 have hw38 := ho_6
 rw [List.take_of_length_le (by omega : (Zk l).length ≤ q)] at hw38
 refine g9 13 ?_
 refine WC.loop (X := Nat) (fun k => [(9, nt9 ((YX (wOf P (Zk l)) k))), (40, nt9 k), (6, v_6), (38, v_6), (39, nt9 (((wts P (Zk l))).length))]) (fun k _ Ml => Ml = (M_6 ++ []) ∧ k ≤ P.length + 1) (fun k => P.length + 1 - k) 0 hs9 ?_ ?_
 ·exact ⟨rfl, om9⟩
 rintro k gG39 G39 _ hG39 ⟨rfl, hk⟩
 have hbl := ZfF (wOf P (Zk l)) k
 have hwl9 := ZcE P (Zk l)
 refine g9 6 ?_
 refine WC.cd (fun h41 p41 => ?_) (fun h41 p41 => ?_)
 ·refine g9 7 ?_
  refine (hw38.mono hG39).a2 (i := k) om9 (fun he40 hi41 => (W.ok (Yw (i := k) Z8 ty3 (hw38.mono hG39) rfl rfl ⟨om9, om9⟩) (W.ok (Y4 (vs := ic9) ty3 he40 pr9 rfl rfl rfl (by simp)) (g9 9 ?_))))
  refine (hw38.mono hG39).a2 (i := (YX (wOf P (Zk l)) k)) om9 (fun he44 hi45 => (W.ok (Yw (i := (YX (wOf P (Zk l)) k)) Z8 ty3 (hw38.mono hG39) rfl rfl ⟨rfl, om9⟩) (W.ok (Y4 (vs := ic9) ty3 he44 pr9 rfl rfl rfl (by simp)) (g9 3 ?_))))
  refine WC.cd (fun h50 p50 => ?_) (fun h50 p50 => ?_)
  ·refine g9 11 ?_
   exact ⟨Le.rfl, k + 1, ⟨(iv (by rw [Zpb (by rw [ZaI, ZaI] at p50; omega)])), eqv, eqv, eqv, eqv, trivial⟩, ⟨rfl, om9⟩, om9⟩
  refine g9 8 ?_
  exact ⟨Le.rfl, k + 1, ⟨(iv (by rw [Zpc (by rw [ZaI, ZaI] at p50; omega)])), eqv, eqv, eqv, eqv, trivial⟩, ⟨rfl, om9⟩, om9⟩
 refine g9 14 ?_
 show Value.tuple #[Value.int _ _, Value.bool _] = _
 rw [ZfI om9, show k = P.length + 1 by omega]

theorem ZtS {G : GH} {v_p : Value} {p : List Str} (h_p : SlR Yh G v_p p) {v_c : Value} {c : List Int} (h_c : SlR ZA G v_c c) :
    Fc Tryz.prog 177 [v_p, v_c] G [] (fun v G' M' => M' = [] ∧ ∃ r : List Str × List Int × Str × List Str × List Int × Bool, r = Xe p c ∧ ∃ u0 u1 u2 u3, v = .tuple #[u0, u1, sV (Str.b (r.2.2.1)), u2, u3, .bool (r.2.2.2.2.2)] ∧ SlR Yh G' u0 (r.1) ∧ SlR ZA G' u1 (r.2.1) ∧ SlR Yh G' u2 (r.2.2.2.1) ∧ SlR ZA G' u3 (r.2.2.2.2.1)) := by
 obtain ⟨sa_p, sc_p, rfl⟩ := h_p.form
 obtain ⟨sa_c, sc_c, rfl⟩ := h_c.form
 have hp := h_p.len47
 have hc := h_c.len47
 refine Fc.go [.tmp 4, .tmp 5, .tmp 6, .tmp 7, .tmp 8, .tmp 9] Tryz.func177 Tryz.ntmps177 rfl (fun w0 => (g9 17 ?_))
 refine W.sd 14 (fun h13 p13 => ?_) (fun h13 p13 => ?_)
 ·refine g9 23 ?_
  refine ⟨rfl, _, (Zg5 om9).symm, _, _, _, _, rfl, ?_, ?_, ?_, ?_⟩
  · exact SlR.nil
  · exact SlR.nil
  · exact SlR.nil
  exact SlR.nil
 refine g9 15 ?_
 refine WC.cn (fun h20 p20 => ?_) (fun h20 p20 => ?_)
 ·refine g9 13 ?_
  refine ⟨rfl, _, (Zg5 om9).symm, _, _, _, _, rfl, ?_, ?_, ?_, ?_⟩
  · exact SlR.nil
  · exact SlR.nil
  · exact SlR.nil
  exact SlR.nil
 refine g9 7 ?_
 refine W.ok (Zce rfl rfl om9 om9 om9) (g9 4 ?_)
 refine WC.dw sr9 (d9 [0, 1, 2] ?_)
 have hs1 := SlR.slice h_p (lo := 0) (hi := ((c.length + 1) / 2) - 1) om9 om9
 refine WD.tk 3 rfl (JE (0) (((c.length + 1) / 2) - 1) Yb ty9 h_p rfl rfl ⟨_, _, rfl, om9⟩ ⟨om9, om9⟩) (d9 [5, 6] ?_)
 have hs2 := SlR.slice h_c (lo := 0) (hi := ((c.length + 1) / 2)) om9 om9
 refine WD.tk 7 rfl (JE (0) (((c.length + 1) / 2)) Z8 ty3 h_c rfl rfl ⟨_, _, rfl, om9⟩ ⟨om9, om9⟩) (d9 [9, 10, 11] ?_)
 refine h_p.a1 (i := ((c.length + 1) / 2) - 1) om9 (fun he3 => (WD.tk 12 rfl (Yu (i := ((c.length + 1) / 2) - 1) Yb ty9 h_p rfl rfl ⟨om9, om9⟩) (d9 [13, 14, 15] ?_)))
 have hs6 := SlR.slice h_p (lo := ((c.length + 1) / 2)) (hi := p.length) om9 om9
 refine WD.tk 16 rfl (JE (((c.length + 1) / 2)) (p.length) Yb ty9 h_p rfl ⟨_, _, rfl, om9⟩ rfl ⟨om9, om9⟩) (d9 [18, 19] ?_)
 have hs7 := SlR.slice h_c (lo := ((c.length + 1) / 2)) (hi := c.length) om9 om9
 refine WD.tk 20 rfl (JE (((c.length + 1) / 2)) (c.length) Z8 ty3 h_c rfl ⟨_, _, rfl, om9⟩ rfl ⟨om9, om9⟩) (WD.a1 4 rfl (W.cS (Zc0 hs1) rfl (fun sa_hv9 sc_hv9 G8 hG8 hv9 => (W.nn (WD.a1 8 rfl (W.cS (Zc1 (hs2.mono hG8)) rfl (fun sa_hv16 sc_hv16 G15 hG15 hv16 => (W.nn (WD.a1 17 rfl (W.cS (Zc0 (hs6.mono lec)) rfl (fun sa_hv23 sc_hv23 G22 hG22 hv23 => (W.nn (WD.a1 21 rfl (W.cS (Zc1 (hs7.mono lec)) rfl (fun sa_hv30 sc_hv30 G29 hG29 hv30 => (W.nn (d9 [22, 23, 24, 25, 26, 27] ?_)))))))))))))))))
 refine g9 4 ?_
 refine ⟨rfl, _, (Zg6 om9).symm, _, _, _, _, rfl, ?_, ?_, ?_, ?_⟩
 · exact SlR.cast ((hv9.mono lec)) (by simp)
 · exact SlR.cast ((hv16.mono lec)) (by simp)
 · exact SlR.cast ((hv23.mono hG29)) (by simp)
 exact SlR.cast (hv30) (by simp)

theorem ZtT {G : GH} {cs_a : List Value} {a : Nd} (h_a : NodeC G cs_a a) (hks : ∀ m ∈ a.msgs, m.key.b.size < 140737488355328) :
    Fc Tryz.prog 243 [.agg (List.toArray cs_a)] G [] (fun v G' M' => M' = [] ∧ ∃ r : Nd × Nd × Str × Bool, r = ZN a ∧ ∃ u0 u1, v = .tuple #[.agg (List.toArray u0), .agg (List.toArray u1), sV (Str.b (r.2.2.1)), .bool (r.2.2.2)] ∧ NodeC G' u0 (r.1) ∧ NodeC G' u1 (r.2.1)) := by
 obtain ⟨_, _, _, _, _, _, _, _, rfl, hp_a, hk_a, hm_a, hr_a, hok_a⟩ := h_a
 refine Fc.go [.cell 2 60, .cell 3 60, .tmp 4, .tmp 5] Tryz.func243 Tryz.ntmps243 rfl (fun w0 => (g9 2 ?_))
 refine W.box (L := [iV _, iV _, lV _ _ _, lV _ _ _, sV _, .bool _, iV _, iV _, lV _ _ _, lV _ _ _]) rfl rfl (fun b36 => (W.alloc Zm (fun b37 => (W.alloc Zm (fun b38 => (g9 5 ?_))))))
 refine WC.dw ((sr9.k9.cons _).cons _) (d9 [0, 1, 2, 3] ?_)
 refine g9 10 ?_
 refine WC.cd (fun h10 p10 => ?_) (fun h10 p10 => ?_)
 ·refine g9 4 ?_
  refine W.call (Mp := []) (Zuv hr_a) rfl pr9 ?_
  intro _ G39 _ hG39 q42
  refine match q42 with | ⟨e_43, _, e_44, _, _, e_45, hv40, hv41⟩ => ?_
  subst e_43
  subst e_44
  subst e_45
  have q47 := hv40.form
  refine match q47 with | ⟨sa_hv40, sc_hv40, e_46⟩ => ?_
  subst e_46
  have q49 := hv41.form
  refine match q49 with | ⟨sa_hv41, sc_hv41, e_48⟩ => ?_
  subst e_48
  refine g9 14 ?_
  refine WC.dw ((sr9.k9.cons _).cons _) (d9 [2, 3] ?_)
  refine WD.any [0, 1] (by kernel_rfl) rfl ⟨WD.ap ?_, WD.ap ?_, trivial⟩
  ·refine g9 1 ?_
   refine W.nn ?_
   refine WD.any [1, 4] (by kernel_rfl) rfl ⟨WD.ap ?_, WD.ap ?_, trivial⟩
   ·refine g9 1 ?_
    refine W.nn (d9 [4, 5, 6, 7] ?_)
    refine g9 5 ?_
    refine ⟨rfl, _, (Zav p10).symm, _, _, rfl, ?_, ?_⟩
    · exact ⟨_, _, _, _, _, _, _, _, rfl, (hp_a.mono hG39), (hk_a.mono hG39), (hm_a.mono hG39), hv40, hok_a⟩
    exact ⟨_, _, _, _, _, _, _, _, rfl, (hp_a.mono hG39), (hk_a.mono hG39), (hm_a.mono hG39), hv41, hok_a⟩
   refine g9 1 ?_
   refine W.nn (WD.a1 1 rfl (g9 1 ?_))
   refine W.nn (d9 [5, 6, 7] ?_)
   refine g9 5 ?_
   refine ⟨rfl, _, (Zav p10).symm, _, _, rfl, ?_, ?_⟩
   · exact ⟨_, _, _, _, _, _, _, _, rfl, (hp_a.mono hG39), (hk_a.mono hG39), (hm_a.mono hG39), hv40, hok_a⟩
   exact ⟨_, _, _, _, _, _, _, _, rfl, (hp_a.mono hG39), (hk_a.mono hG39), (hm_a.mono hG39), hv41, hok_a⟩
  refine g9 1 ?_
  refine W.nn (WD.a1 0 rfl (g9 1 ?_))
  refine W.nn (d9 [4, 5, 6, 7] ?_)
  refine g9 5 ?_
  refine ⟨rfl, _, (Zav p10).symm, _, _, rfl, ?_, ?_⟩
  · exact ⟨_, _, _, _, _, _, _, _, rfl, (hp_a.mono hG39), (hk_a.mono hG39), (hm_a.mono hG39), hv40, hok_a⟩
  exact ⟨_, _, _, _, _, _, _, _, rfl, (hp_a.mono hG39), (hk_a.mono hG39), (hm_a.mono hG39), hv41, hok_a⟩
 refine g9 9 ?_
 refine W.qcall (ZgE hp_a hk_a) rfl (g9 3 ?_)
 refine WC.cond rfl (fun h30 => ?_) (fun h30 => ?_)
 ·refine WC.seq (WC.dw ((sr9.k9.cons _).cons _) ?_)
  refine WD.any [0, 1] (by kernel_rfl) rfl ⟨WD.ap ?_, WD.ap ?_, trivial⟩
  ·refine g9 1 ?_
   refine W.nn ?_
   refine WD.any [1, 2] (by kernel_rfl) rfl ⟨WD.ap ?_, WD.ap ?_, trivial⟩
   ·refine g9 1 ?_
    refine W.nn (d9 [2, 3, 4, 5] ?_)
    refine g9 5 ?_
    refine ⟨rfl, _, (Za8 p10 (by simpa using h30)).symm, _, _, rfl, ?_, ?_⟩
    · exact (nk9 hp_a hk_a hm_a hr_a hok_a)
    exact (nk9 hp_a hk_a hm_a hr_a hok_a)
   refine g9 1 ?_
   refine W.nn (WD.a1 1 rfl (g9 1 ?_))
   refine W.nn (d9 [3, 4, 5] ?_)
   refine g9 5 ?_
   refine ⟨rfl, _, (Za8 p10 (by simpa using h30)).symm, _, _, rfl, ?_, ?_⟩
   · exact (nk9 hp_a hk_a hm_a hr_a hok_a)
   exact (nk9 hp_a hk_a hm_a hr_a hok_a)
  refine g9 1 ?_
  refine W.nn (WD.a1 0 rfl (g9 1 ?_))
  refine W.nn (d9 [2, 3, 4, 5] ?_)
  refine g9 5 ?_
  refine ⟨rfl, _, (Za8 p10 (by simpa using h30)).symm, _, _, rfl, ?_, ?_⟩
  · exact (nk9 hp_a hk_a hm_a hr_a hok_a)
  exact (nk9 hp_a hk_a hm_a hr_a hok_a)
 refine g9 8 ?_
 refine W.call (Mp := []) (ZtS hp_a hk_a) rfl pr9 ?_
 intro _ G50 _ hG50 q55
 refine match q55 with | ⟨e_56, _, e_57, _, _, _, _, e_58, hv51, hv52, hv53, hv54⟩ => ?_
 subst e_56
 subst e_57
 subst e_58
 have q60 := hv51.form
 refine match q60 with | ⟨sa_hv51, sc_hv51, e_59⟩ => ?_
 subst e_59
 have q62 := hv52.form
 refine match q62 with | ⟨sa_hv52, sc_hv52, e_61⟩ => ?_
 subst e_61
 have q64 := hv53.form
 refine match q64 with | ⟨sa_hv53, sc_hv53, e_63⟩ => ?_
 subst e_63
 have q66 := hv54.form
 refine match q66 with | ⟨sa_hv54, sc_hv54, e_65⟩ => ?_
 subst e_65
 refine g9 20 ?_
 refine WC.dw ((sr9.k9.cons _).cons _) (d9 [0, 1, 2] ?_)
 refine WD.tk 3 rfl (Ya (L := [sV _, sV _, .bool _]) JD ZU rfl rfl rfl) (d9 [5, 6, 7] ?_)
 refine WD.tk 8 rfl (Ya (L := [sV _, sV _, .bool _]) JD ZU rfl rfl rfl) (WD.a1 4 rfl (W.cS (Zer (hm_a.mono hG50) Str.nil _ _ (by assumption)) rfl (fun sa_hv68 sc_hv68 G67 hG67 hv68 => (W.nn (d9 [10] ?_)))))
 refine WD.a1 9 rfl (W.cS (Zer (hm_a.mono lec) _ Str.nil _ (by assumption)) rfl (fun sa_hv75 sc_hv75 G74 hG74 hv75 => (W.nn (d9 [11, 12, 13] ?_))))
 refine g9 3 ?_
 refine WC.dw ((sr9.k9.cons _).cons _) (d9 [2, 3] ?_)
 refine WD.any [0, 1] (by kernel_rfl) rfl ⟨WD.ap ?_, WD.ap ?_, trivial⟩
 ·refine g9 1 ?_
  refine W.nn ?_
  refine WD.any [1, 4] (by kernel_rfl) rfl ⟨WD.ap ?_, WD.ap ?_, trivial⟩
  ·refine g9 1 ?_
   refine W.nn (d9 [4, 5, 6, 7] ?_)
   refine g9 4 ?_
   refine ⟨rfl, _, (Zaw p10 (by simpa using h30)).symm, _, _, rfl, ?_, ?_⟩
   · exact ⟨_, _, _, _, _, _, _, _, rfl, (hv51.mono lec), (hv52.mono lec), (hv68.mono hG74), (hr_a.mono lec), hok_a⟩
   exact ⟨_, _, _, _, _, _, _, _, rfl, (hv53.mono lec), (hv54.mono lec), hv75, (hr_a.mono lec), hok_a⟩
  refine g9 1 ?_
  refine W.nn (WD.a1 1 rfl (g9 1 ?_))
  refine W.nn (d9 [5, 6, 7] ?_)
  refine g9 4 ?_
  refine ⟨rfl, _, (Zaw p10 (by simpa using h30)).symm, _, _, rfl, ?_, ?_⟩
  · exact ⟨_, _, _, _, _, _, _, _, rfl, (hv51.mono lec), (hv52.mono lec), (hv68.mono hG74), (hr_a.mono lec), hok_a⟩
  exact ⟨_, _, _, _, _, _, _, _, rfl, (hv53.mono lec), (hv54.mono lec), hv75, (hr_a.mono lec), hok_a⟩
 refine g9 1 ?_
 refine W.nn (WD.a1 0 rfl (g9 1 ?_))
 refine W.nn (d9 [4, 5, 6, 7] ?_)
 refine g9 4 ?_
 refine ⟨rfl, _, (Zaw p10 (by simpa using h30)).symm, _, _, rfl, ?_, ?_⟩
 · exact ⟨_, _, _, _, _, _, _, _, rfl, (hv51.mono lec), (hv52.mono lec), (hv68.mono hG74), (hr_a.mono lec), hok_a⟩
 exact ⟨_, _, _, _, _, _, _, _, rfl, (hv53.mono lec), (hv54.mono lec), hv75, (hr_a.mono lec), hok_a⟩

theorem ZgM {G : GH} {cs_a : List Value} {a : Nd} (h_a : NodeC G cs_a a) (i : Int) (hi : i64 i) (hks : ∀ m ∈ a.msgs, m.key.b.size < 140737488355328) :
    Fc Tryz.prog 217 [.agg (List.toArray cs_a), iV i] G [] (fun v G' M' => M' = [] ∧ ∃ r : Nd × Nd × Str × Bool, r = Zo a i ∧ ∃ u0 u1, v = .tuple #[.agg (List.toArray u0), .agg (List.toArray u1), sV (Str.b (r.2.2.1)), .bool (r.2.2.2)] ∧ NodeC G' u0 (r.1) ∧ NodeC G' u1 (r.2.1)) := by
 obtain ⟨_, _, _, _, _, _, _, _, rfl, hp_a, hk_a, hm_a, hr_a, hok_a⟩ := h_a
 refine Fc.go [.cell 4 60, .cell 5 60, .tmp 6, .tmp 7] Tryz.func217 Tryz.ntmps217 rfl (fun w0 => (g9 2 ?_))
 refine W.box (L := [iV _, iV _, lV _ _ _, lV _ _ _, sV _, .bool _, iV _, iV _, lV _ _ _, lV _ _ _]) rfl rfl (fun b81 => (W.alloc Zm (fun b82 => (W.alloc Zm (fun b83 => (g9 7 ?_))))))
 refine W.cM (ZtT (nk9 hp_a hk_a hm_a hr_a hok_a) (by assumption)) rfl (fun _ _ _ _ _ _ _ _ _ _ _ _ _ _ _ _ G84 hG84 hp_hv85 hk_hv85 hm_hv85 hr_hv85 hok_hv85 hp_hv86 hk_hv86 hm_hv86 hr_hv86 hok_hv86 => (g9 18 ?_))
 refine WC.cond rfl (fun h16 => ?_) (fun h16 => ?_)
 ·refine g9 2 ?_
  refine W.ok (Ya (L := [iV _, iV _, lV _ _ _, lV _ _ _, sV _, .bool _, iV _, iV _, lV _ _ _, lV _ _ _]) ZaO Zm rfl rfl rfl) (W.ok (Ya (L := [iV _, iV _, lV _ _ _, lV _ _ _, sV _, .bool _, iV _, iV _, lV _ _ _, lV _ _ _]) ZaO Zm rfl rfl rfl) (g9 9 ?_))
  refine ⟨rfl, _, (ZbB (by simpa using h16)).symm, _, _, rfl, ?_, ?_⟩
  · exact ⟨_, _, _, _, _, _, _, _, rfl, SlR.nil, SlR.nil, SlR.nil, SlR.nil, Nd.zero_ok⟩
  exact ⟨_, _, _, _, _, _, _, _, rfl, SlR.nil, SlR.nil, SlR.nil, SlR.nil, Nd.zero_ok⟩
 refine g9 22 ?_
 refine WC.dw ((sr9.k9.cons _).cons _) (d9 [4] ?_)
 refine WD.any [0, 2] (by kernel_rfl) rfl ⟨WD.ap ?_, WD.ap ?_, trivial⟩
 ·refine g9 1 ?_
  refine W.nn ?_
  refine WD.any [1, 2] (by kernel_rfl) rfl ⟨WD.ap ?_, WD.ap ?_, trivial⟩
  ·refine W.cN (X1 (show NodeC _ _ { (ZN a).1 with high := (ZN a).2.2.1, top := false, right := i } from ⟨_, _, _, _, _, _, _, _, rfl, hp_hv85, hk_hv85, hm_hv85, hr_hv85, (ZbC (by assumption) hi)⟩)) rfl (fun _ _ _ _ _ _ _ _ G93 hG93 hp_hv94 hk_hv94 hm_hv94 hr_hv94 hok_hv94 => (W.nn (WD.a1 2 rfl (g9 1 ?_))))
   refine W.nn (WD.a1 3 rfl (W.cN (X1 (show NodeC _ _ { (ZN a).2.1 with slot := i } from ⟨_, _, _, _, _, _, _, _, rfl, (hp_hv86.mono hG93), (hk_hv86.mono hG93), (hm_hv86.mono hG93), (hr_hv86.mono hG93), (ZbD (by assumption) hi)⟩)) rfl (fun _ _ _ _ _ _ _ _ G99 hG99 hp_hv100 hk_hv100 hm_hv100 hr_hv100 hok_hv100 => (W.nn (d9 [5, 6, 7, 8] ?_)))))
   refine g9 4 ?_
   refine ⟨rfl, _, (XQ (by simpa using h16)).symm, _, _, rfl, ?_, ?_⟩
   · exact ⟨_, _, _, _, _, _, _, _, rfl, (hp_hv94.mono hG99), (hk_hv94.mono hG99), (hm_hv94.mono hG99), (hr_hv94.mono hG99), ZbC (by assumption) hi⟩
   exact ⟨_, _, _, _, _, _, _, _, rfl, hp_hv100, hk_hv100, hm_hv100, hr_hv100, ZbD (by assumption) hi⟩
  refine g9 1 ?_
  refine W.nn (WD.a1 1 rfl (W.cN (X1 (show NodeC _ _ { (ZN a).1 with high := (ZN a).2.2.1, top := false, right := i } from ⟨_, _, _, _, _, _, _, _, rfl, hp_hv85, hk_hv85, hm_hv85, hr_hv85, (ZbC (by assumption) hi)⟩)) rfl (fun _ _ _ _ _ _ _ _ G105 hG105 hp_hv106 hk_hv106 hm_hv106 hr_hv106 hok_hv106 => (W.nn (WD.a1 3 rfl (W.cN (X1 (show NodeC _ _ { (ZN a).2.1 with slot := i } from ⟨_, _, _, _, _, _, _, _, rfl, (hp_hv86.mono hG105), (hk_hv86.mono hG105), (hm_hv86.mono hG105), (hr_hv86.mono hG105), (ZbD (by assumption) hi)⟩)) rfl (fun _ _ _ _ _ _ _ _ G111 hG111 hp_hv112 hk_hv112 hm_hv112 hr_hv112 hok_hv112 => (W.nn (d9 [5, 6, 7, 8] ?_)))))))))
  refine g9 4 ?_
  refine ⟨rfl, _, (XQ (by simpa using h16)).symm, _, _, rfl, ?_, ?_⟩
  · exact ⟨_, _, _, _, _, _, _, _, rfl, (hp_hv106.mono hG111), (hk_hv106.mono hG111), (hm_hv106.mono hG111), (hr_hv106.mono hG111), ZbC (by assumption) hi⟩
  exact ⟨_, _, _, _, _, _, _, _, rfl, hp_hv112, hk_hv112, hm_hv112, hr_hv112, ZbD (by assumption) hi⟩
 refine g9 1 ?_
 refine W.nn (WD.a1 0 rfl (g9 1 ?_))
 refine W.nn (WD.a1 1 rfl (W.cN (X1 (show NodeC _ _ { (ZN a).1 with high := (ZN a).2.2.1, top := false, right := i } from ⟨_, _, _, _, _, _, _, _, rfl, hp_hv85, hk_hv85, hm_hv85, hr_hv85, (ZbC (by assumption) hi)⟩)) rfl (fun _ _ _ _ _ _ _ _ G117 hG117 hp_hv118 hk_hv118 hm_hv118 hr_hv118 hok_hv118 => (W.nn (WD.a1 3 rfl (W.cN (X1 (show NodeC _ _ { (ZN a).2.1 with slot := i } from ⟨_, _, _, _, _, _, _, _, rfl, (hp_hv86.mono hG117), (hk_hv86.mono hG117), (hm_hv86.mono hG117), (hr_hv86.mono hG117), (ZbD (by assumption) hi)⟩)) rfl (fun _ _ _ _ _ _ _ _ G123 hG123 hp_hv124 hk_hv124 hm_hv124 hr_hv124 hok_hv124 => (W.nn (d9 [5, 6, 7, 8] ?_)))))))))
 refine g9 4 ?_
 refine ⟨rfl, _, (XQ (by simpa using h16)).symm, _, _, rfl, ?_, ?_⟩
 · exact ⟨_, _, _, _, _, _, _, _, rfl, (hp_hv118.mono hG123), (hk_hv118.mono hG123), (hm_hv118.mono hG123), (hr_hv118.mono hG123), ZbC (by assumption) hi⟩
 exact ⟨_, _, _, _, _, _, _, _, rfl, hp_hv124, hk_hv124, hm_hv124, hr_hv124, ZbD (by assumption) hi⟩

theorem ZlD {G : GH} {cs_n : List Value} {n : Nd} (h_n : NodeC G cs_n n) (x : Int) (y : Int) (hx : i64 x) (hy : i64 y) (hlv : i64 (n.level + 1)) (hks : ∀ m ∈ n.msgs, m.key.b.size < 140737488355328) :
    Fc Tryz.prog 188 [.agg (List.toArray cs_n), iV x, iV y] G [] (fun v G' M' => M' = [] ∧ ∃ r : Nd × Nd × Nd × Bool, r = Z0 n x y ∧ ∃ u0 u1 u2, v = .tuple #[.agg (List.toArray u0), .agg (List.toArray u1), .agg (List.toArray u2), .bool (r.2.2.2)] ∧ NodeC G' u0 (r.1) ∧ NodeC G' u1 (r.2.1) ∧ NodeC G' u2 (r.2.2.1)) := by
 obtain ⟨_, _, _, _, _, _, _, _, rfl, hp_n, hk_n, hm_n, hr_n, hok_n⟩ := h_n
 have hx1 := hx.1
 have hx2 := hx.2
 have hy1 := hy.1
 have hy2 := hy.2
 have hlv1 := hlv.1
 have hlv2 := hlv.2
 refine Fc.go [.cell 6 60, .cell 7 60, .cell 8 60, .tmp 9] Tryz.func188 Tryz.ntmps188 rfl (fun w0 => (g9 2 ?_))
 refine W.box (L := [iV _, iV _, lV _ _ _, lV _ _ _, sV _, .bool _, iV _, iV _, lV _ _ _, lV _ _ _]) rfl rfl (fun b1 => (W.alloc Zm (fun b2 => (W.alloc Zm (fun b3 => (W.alloc Zm (fun b4 => (g9 7 ?_))))))))
 refine W.cM (ZgM (nk9 hp_n hk_n hm_n hr_n hok_n) _ (by assumption) (by assumption)) rfl (fun _ _ _ _ _ _ _ _ _ _ _ _ _ _ _ _ G5 hG5 hp_hv6 hk_hv6 hm_hv6 hr_hv6 hok_hv6 hp_hv7 hk_hv7 hm_hv7 hr_hv7 hok_hv7 => (g9 18 ?_))
 refine WC.cond rfl (fun h20 => ?_) (fun h20 => ?_)
 ·refine g9 2 ?_
  refine W.ok (Ya (L := [iV _, iV _, lV _ _ _, lV _ _ _, sV _, .bool _, iV _, iV _, lV _ _ _, lV _ _ _]) ZaO Zm rfl rfl rfl) (W.ok (Ya (L := [iV _, iV _, lV _ _ _, lV _ _ _, sV _, .bool _, iV _, iV _, lV _ _ _, lV _ _ _]) ZaO Zm rfl rfl rfl) (W.ok (Ya (L := [iV _, iV _, lV _ _ _, lV _ _ _, sV _, .bool _, iV _, iV _, lV _ _ _, lV _ _ _]) ZaO Zm rfl rfl rfl) (g9 9 ?_)))
  refine ⟨rfl, _, (Zja (by simpa using h20)).symm, _, _, _, rfl, ?_, ?_, ?_⟩
  · exact ⟨_, _, _, _, _, _, _, _, rfl, SlR.nil, SlR.nil, SlR.nil, SlR.nil, Nd.zero_ok⟩
  · exact ⟨_, _, _, _, _, _, _, _, rfl, SlR.nil, SlR.nil, SlR.nil, SlR.nil, Nd.zero_ok⟩
  exact ⟨_, _, _, _, _, _, _, _, rfl, SlR.nil, SlR.nil, SlR.nil, SlR.nil, Nd.zero_ok⟩
 refine g9 5 ?_
 refine W.cN (X1 (nm9 hG5 hp_n hk_n hm_n hr_n hok_n)) rfl (fun _ _ _ _ _ _ _ _ G14 hG14 hp_hv15 hk_hv15 hm_hv15 hr_hv15 hok_hv15 => (g9 15 ?_))
 refine W.lit (e := Yh) (l := [_]) (css := [[sV _]]) Yb ty9 zr9 rfl rfl rfl rfl rfl rfl ⟨rfl, trivial⟩ (fun bl20 G20 hG20 hv20 => (g9 2 ?_))
 refine W.lit (e := ZA) (l := [_, _]) (css := [[iV _], [iV _]]) Z8 ty3 zr3 rfl rfl rfl rfl rfl rfl ⟨⟨rfl, om9, om9⟩, ⟨rfl, om9, om9⟩, trivial⟩ (fun bl21 G21 hG21 hv21 => (g9 23 ?_))
 refine WC.cn (fun h42 p42 => ?_) (fun h42 p42 => ?_)
 ·refine g9 16 ?_
  refine WC.dw (((sr9.k9.k9).k9).k9) (d9 [0, 1, 2, 3, 4, 5, 6] ?_)
  refine g9 4 ?_
  refine ⟨rfl, _, (Zo1 (by simpa using h20) p42).symm, _, _, _, rfl, ?_, ?_, ?_⟩
  · exact ⟨_, _, _, _, _, _, _, _, rfl, (hv20.mono hG21), hv21, (hm_hv15.mono lec), SlR.nil, ⟨hok_n.1, hlv, hok_n.2.2⟩⟩
  · exact ⟨_, _, _, _, _, _, _, _, rfl, (hp_hv6.mono lec), (hk_hv6.mono lec), SlR.nil, (hr_hv6.mono lec), ⟨hx, (show Nd.Ok (Zo n y).1 from by assumption).2.1, (show Nd.Ok (Zo n y).1 from by assumption).2.2.1, (show i64 0 from ⟨by decide, by decide⟩)⟩⟩
  exact ⟨_, _, _, _, _, _, _, _, rfl, (hp_hv7.mono lec), (hk_hv7.mono lec), SlR.nil, (hr_hv7.mono lec), ⟨(show Nd.Ok (Zo n y).2.1 from by assumption).1, (show Nd.Ok (Zo n y).2.1 from by assumption).2.1, (show Nd.Ok (Zo n y).2.1 from by assumption).2.2.1, (show i64 0 from ⟨by decide, by decide⟩)⟩⟩
 refine g9 14 ?_
 refine WC.dw (((sr9.k9.k9).k9).k9) (d9 [0, 1, 2, 3, 4, 5, 6] ?_)
 refine g9 4 ?_
 refine ⟨rfl, _, (Zo2 (by simpa using h20) p42).symm, _, _, _, rfl, ?_, ?_, ?_⟩
 · exact ⟨_, _, _, _, _, _, _, _, rfl, (hv20.mono hG21), hv21, SlR.nil, SlR.nil, ⟨hok_n.1, hlv, hok_n.2.2⟩⟩
 · exact ⟨_, _, _, _, _, _, _, _, rfl, (hp_hv6.mono lec), (hk_hv6.mono lec), SlR.nil, (hr_hv6.mono lec), ⟨hx, (show Nd.Ok (Zo n y).1 from by assumption).2.1, (show Nd.Ok (Zo n y).1 from by assumption).2.2.1, (show Nd.Ok (Zo n y).1 from by assumption).2.2.2⟩⟩
 exact ⟨_, _, _, _, _, _, _, _, rfl, (hp_hv7.mono lec), (hk_hv7.mono lec), SlR.nil, (hr_hv7.mono lec), ⟨(show Nd.Ok (Zo n y).2.1 from by assumption).1, (show Nd.Ok (Zo n y).2.1 from by assumption).2.1, (show Nd.Ok (Zo n y).2.1 from by assumption).2.2.1, (show Nd.Ok (Zo n y).2.1 from by assumption).2.2.2⟩⟩

theorem ZcY {G : GH} (cfan : Int) (cleaf : Int) (cbud : Int) (cslots : Int) (crest : Int) {cs_n : List Value} {n : Nd} (h_n : NodeC G cs_n n) :
    Fc Tryz.prog 190 [.agg #[iV cfan, iV cleaf, iV cbud, iV cslots, iV crest], .agg (List.toArray cs_n)] G [] (fun v _ _ => v = .bool (ZF (⟨cfan, cleaf, cbud, cslots, crest⟩ : Cfg) n)) := by
 obtain ⟨_, _, _, _, _, _, _, _, rfl, hp_n, hk_n, hm_n, hr_n, hok_n⟩ := h_n
 have h1 := hp_n.len47
 have h2 := hk_n.len47
 have h3 := hm_n.len47
 have h4 := hr_n.len47
 refine Fc.go [.tmp 4] Tryz.func190 Tryz.ntmps190 rfl (fun w0 => (g9 2 ?_))
 refine W.box (L := [iV _, iV _, iV _, iV _, iV _]) rfl rfl (fun b22 => (W.box (L := [iV _, iV _, lV _ _ _, lV _ _ _, sV _, .bool _, iV _, iV _, lV _ _ _, lV _ _ _]) rfl rfl (fun b23 => (g9 11 ?_))))
 refine WC.cd (fun h7 p7 => ?_) (fun h7 p7 => ?_)
 ·refine g9 14 ?_
  refine congrArg Value.bool ?_
  first | (rw [ZF, if_pos p7]; done) | (rw [ZF, if_pos p7]; first | (simp_all; done) | (simp_all; omega))
 refine g9 15 ?_
 refine congrArg Value.bool ?_
 first | (rw [ZF, if_neg p7]; done) | (rw [ZF, if_neg p7]; first | (simp_all; done) | (simp_all; omega))

theorem ZtU {G : GH} (cf : Int) (cl : Int) (cb : Int) (cs : Int) (cr : Int) {cs_n : List Value} {n : Nd} (h_n : NodeC G cs_n n) (k : Str) (hq : ChoosePre n) :
    Fc Tryz.prog 150 [.agg #[iV cf, iV cl, iV cb, iV cs, iV cr], .agg (List.toArray cs_n), sV k.b] G [] (fun v _ _ => v = .tuple #[iV ((Zw (⟨cf, cl, cb, cs, cr⟩ : Cfg) n k).1), iV ((Zw (⟨cf, cl, cb, cs, cr⟩ : Cfg) n k).2)]) := by
 obtain ⟨_, _, _, _, _, _, _, _, rfl, hp_n, hk_n, hm_n, hr_n, hok_n⟩ := h_n
 refine Fc.go [.tmp 6, .tmp 7] Tryz.func150 Tryz.ntmps150 rfl (fun w0 => (g9 2 ?_))
 refine W.box (L := [iV _, iV _, iV _, iV _, iV _]) rfl rfl (fun b1 => (W.box (L := [iV _, iV _, lV _ _ _, lV _ _ _, sV _, .bool _, iV _, iV _, lV _ _ _, lV _ _ _]) rfl rfl (fun b2 => (g9 14 ?_))))
 refine WC.cd (fun h13 p13 => ?_) (fun h13 p13 => ?_)
 ·refine g9 10 ?_
  show Value.tuple #[Value.int _ _, Value.int _ _] = _
  rw [Zjk p13]
 refine g9 6 ?_
 refine W.sd 18 (fun h17 p17 => ?_) (fun h17 p17 => ?_)
 ·refine g9 5 ?_
  refine W.qcall (ZcY cf cl cb cs cr (n := n) (nk9 hp_n hk_n hm_n hr_n hok_n)) rfl (g9 4 ?_)
  refine WC.cond rfl (fun h21 => ?_) (fun h21 => ?_)
  ·refine g9 10 ?_
   show Value.tuple #[Value.int _ _, Value.int _ _] = _
   rw [ZfJ p13 p17 h21]
  refine g9 9 ?_
  refine W.qcall (ZlC hp_n hm_n (hq p13).2.1 (hq p13).2.2 (hq p13).1) rfl (g9 14 ?_)
  refine WC.cond rfl (fun h32 => ?_) (fun h32 => ?_)
  ·refine g9 4 ?_
   refine W.qcall (Zcc hp_n _ (hq p13).1) rfl (g9 12 ?_)
   show Value.tuple #[Value.int _ _, Value.int _ _] = _
   rw [ZfL p13 (fun h => by rw [h21] at h; exact absurd h.2 (by simp)) (by simpa using h32)]
  refine g9 11 ?_
  show Value.tuple #[Value.int _ _, Value.int _ _] = _
  rw [ZfK p13 (fun h => by rw [h21] at h; exact absurd h.2 (by simp)) (by simpa using h32)]
 refine g9 17 ?_
 refine W.qcall (ZlC hp_n hm_n (hq p13).2.1 (hq p13).2.2 (hq p13).1) rfl (g9 14 ?_)
 refine WC.cond rfl (fun h32 => ?_) (fun h32 => ?_)
 ·refine g9 4 ?_
  refine W.qcall (Zcc hp_n _ (hq p13).1) rfl (g9 12 ?_)
  show Value.tuple #[Value.int _ _, Value.int _ _] = _
  rw [ZfL p13 (fun h => p17 h.1) (by simpa using h32)]
 refine g9 11 ?_
 show Value.tuple #[Value.int _ _, Value.int _ _] = _
 rw [ZfK p13 (fun h => p17 h.1) (by simpa using h32)]

theorem ZtV {G : GH} (cf : Int) (cl : Int) (cb : Int) (cs : Int) (cr : Int) {cs_p : List Value} {p : Nd} (h_p : NodeC G cs_p p) {cs_k : List Value} {k : Nd} (h_k : NodeC G cs_k k) (i : Int) (hq : PourPre cb p k) (hi : i64 i) (hko : KidOf p k i) (hms : MsgsR p.msgs) (hkl : p.kids.length = p.pivots.length + 1) :
    Fc Tryz.prog 192 [.agg #[iV cf, iV cl, iV cb, iV cs, iV cr], .agg (List.toArray cs_p), .agg (List.toArray cs_k), iV i] G [] (fun v _ _ => v = iV (ZV (⟨cf, cl, cb, cs, cr⟩ : Cfg) p k i)) := by
 obtain ⟨_, _, _, _, _, _, _, _, rfl, hp_p, hk_p, hm_p, hr_p, hok_p⟩ := h_p
 obtain ⟨_, _, _, _, _, _, _, _, rfl, hp_k, hk_k, hm_k, hr_k, hok_k⟩ := h_k
 refine Fc.go [.tmp 8] Tryz.func192 Tryz.ntmps192 rfl (fun w0 => (g9 2 ?_))
 refine W.box (L := [iV _, iV _, iV _, iV _, iV _]) rfl rfl (fun b1 => (W.box (L := [iV _, iV _, lV _ _ _, lV _ _ _, sV _, .bool _, iV _, iV _, lV _ _ _, lV _ _ _]) rfl rfl (fun b2 => (W.box (L := [iV _, iV _, lV _ _ _, lV _ _ _, sV _, .bool _, iV _, iV _, lV _ _ _, lV _ _ _]) rfl rfl (fun b3 => (g9 13 ?_))))))
 refine W.qcall (ZcY cf cl cb cs cr (n := p) (nk9 hp_p hk_p hm_p hr_p hok_p)) rfl (g9 2 ?_)
 refine WC.cond rfl (fun h12 => ?_) (fun h12 => ?_)
 ·refine g9 12 ?_
  refine W.sd 17 (fun h16 p16 => ?_) (fun h16 p16 => ?_)
  ·refine g9 5 ?_
   refine W.qcall (ZcY cf cl cb cs cr (n := k) (nk9 hp_k hk_k hm_k hr_k hok_k)) rfl (g9 4 ?_)
   refine WC.cond rfl (fun h20 => ?_) (fun h20 => ?_)
   ·refine g9 10 ?_
    refine congrArg (Value.int .i64) ?_
    rw [Zjl (c := (⟨cf, cl, cb, cs, cr⟩ : Cfg)) om9 h20]
    rw [if_pos h12]
   refine g9 6 ?_
   refine W.qcall (ZcX cf cl cb cs cr (p := p) (k := k) (nk9 hp_p hk_p hm_p hr_p hok_p) (nk9 hp_k hk_k hm_k hr_k hok_k) i hq.hb hq.hr hq.hpv hq.hpm hq.hkm hq.hkr hi hq.hsz) rfl (g9 4 ?_)
   refine WC.cd (fun h29 p29 => ?_) (fun h29 p29 => ?_)
   ·refine g9 9 ?_
    refine congrArg (Value.int .i64) ?_
    exact (ZdP (c := (⟨cf, cl, cb, cs, cr⟩ : Cfg)) (fun h => by rw [h20] at h; exact absurd h.2 (by simp)) (show 0 < ZS cl cb p k i by omega)).symm
   refine g9 8 ?_
   refine WC.cd (fun h33 p33 => ?_) (fun h33 p33 => ?_)
   ·refine g9 9 ?_
    refine congrArg (Value.int .i64) ?_
    exact (ZdQ (c := (⟨cf, cl, cb, cs, cr⟩ : Cfg)) (fun h => by rw [h20] at h; exact absurd h.2 (by simp)) (show ¬ 0 < ZS cl cb p k i by omega) om9).symm
   refine g9 6 ?_
   refine W.qcall (Zeq cf cl cb cs cr (p := p) (k := k) (nk9 hp_p hk_p hm_p hr_p hok_p) (nk9 hp_k hk_k hm_k hr_k hok_k) i hq.hb hq.hr hq.hpv hq.hpm hq.hkm hq.hkr hi hq.hsz) rfl (g9 3 ?_)
   refine WC.cond rfl (fun h39 => ?_) (fun h39 => ?_)
   ·have hwt : 0 < (Zd p.pivots p.msgs i).length := (odt h39).2.1
    refine g9 10 ?_
    refine congrArg (Value.int .i64) ?_
    rw [ZdR (c := (⟨cf, cl, cb, cs, cr⟩ : Cfg)) (show ¬ 0 < ZS cl cb p k i by omega) om9 hwt]
    rw [if_pos h12]
   have hwt : ¬ 0 < (Zd p.pivots p.msgs i).length := fun hh => odf h39 ⟨hko, hh, om9⟩
   refine g9 10 ?_
   refine congrArg (Value.int .i64) ?_
   exact (ZdS (c := (⟨cf, cl, cb, cs, cr⟩ : Cfg)) (show ¬ 0 < ZS cl cb p k i by omega) om9 hwt).symm
  refine g9 14 ?_
  refine W.qcall (ZcX cf cl cb cs cr (p := p) (k := k) (nk9 hp_p hk_p hm_p hr_p hok_p) (nk9 hp_k hk_k hm_k hr_k hok_k) i hq.hb hq.hr hq.hpv hq.hpm hq.hkm hq.hkr hi hq.hsz) rfl (g9 4 ?_)
  refine WC.cd (fun h29 p29 => ?_) (fun h29 p29 => ?_)
  ·refine g9 9 ?_
   refine congrArg (Value.int .i64) ?_
   exact (ZdP (c := (⟨cf, cl, cb, cs, cr⟩ : Cfg)) (fun h => by omega) (show 0 < ZS cl cb p k i by omega)).symm
  refine g9 8 ?_
  refine WC.cd (fun h33 p33 => ?_) (fun h33 p33 => ?_)
  ·refine g9 9 ?_
   refine congrArg (Value.int .i64) ?_
   exact (ZdQ (c := (⟨cf, cl, cb, cs, cr⟩ : Cfg)) (fun h => by omega) (show ¬ 0 < ZS cl cb p k i by omega) om9).symm
  refine g9 6 ?_
  refine W.qcall (Zeq cf cl cb cs cr (p := p) (k := k) (nk9 hp_p hk_p hm_p hr_p hok_p) (nk9 hp_k hk_k hm_k hr_k hok_k) i hq.hb hq.hr hq.hpv hq.hpm hq.hkm hq.hkr hi hq.hsz) rfl (g9 3 ?_)
  refine WC.cond rfl (fun h39 => ?_) (fun h39 => ?_)
  ·have hwt : 0 < (Zd p.pivots p.msgs i).length := (odt h39).2.1
   refine g9 10 ?_
   refine congrArg (Value.int .i64) ?_
   rw [ZdR (c := (⟨cf, cl, cb, cs, cr⟩ : Cfg)) (show ¬ 0 < ZS cl cb p k i by omega) om9 hwt]
   rw [if_pos h12]
  have hwt : ¬ 0 < (Zd p.pivots p.msgs i).length := fun hh => odf h39 ⟨hko, hh, om9⟩
  refine g9 10 ?_
  refine congrArg (Value.int .i64) ?_
  exact (ZdS (c := (⟨cf, cl, cb, cs, cr⟩ : Cfg)) (show ¬ 0 < ZS cl cb p k i by omega) om9 hwt).symm
 refine g9 10 ?_
 refine W.sd 17 (fun h16 p16 => ?_) (fun h16 p16 => ?_)
 ·refine g9 5 ?_
  refine W.qcall (ZcY cf cl cb cs cr (n := k) (nk9 hp_k hk_k hm_k hr_k hok_k)) rfl (g9 4 ?_)
  refine WC.cond rfl (fun h20 => ?_) (fun h20 => ?_)
  ·refine g9 10 ?_
   refine congrArg (Value.int .i64) ?_
   rw [Zjl (c := (⟨cf, cl, cb, cs, cr⟩ : Cfg)) om9 h20]
   rw [if_neg (by rw [h12] <;> simp)]
  refine g9 6 ?_
  refine W.qcall (ZcX cf cl cb cs cr (p := p) (k := k) (nk9 hp_p hk_p hm_p hr_p hok_p) (nk9 hp_k hk_k hm_k hr_k hok_k) i hq.hb hq.hr hq.hpv hq.hpm hq.hkm hq.hkr hi hq.hsz) rfl (g9 4 ?_)
  refine WC.cd (fun h29 p29 => ?_) (fun h29 p29 => ?_)
  ·refine g9 9 ?_
   refine congrArg (Value.int .i64) ?_
   exact (ZdP (c := (⟨cf, cl, cb, cs, cr⟩ : Cfg)) (fun h => by rw [h20] at h; exact absurd h.2 (by simp)) (show 0 < ZS cl cb p k i by omega)).symm
  refine g9 8 ?_
  refine WC.cd (fun h33 p33 => ?_) (fun h33 p33 => ?_)
  ·refine g9 9 ?_
   refine congrArg (Value.int .i64) ?_
   exact (ZdQ (c := (⟨cf, cl, cb, cs, cr⟩ : Cfg)) (fun h => by rw [h20] at h; exact absurd h.2 (by simp)) (show ¬ 0 < ZS cl cb p k i by omega) om9).symm
  refine g9 6 ?_
  refine W.qcall (Zeq cf cl cb cs cr (p := p) (k := k) (nk9 hp_p hk_p hm_p hr_p hok_p) (nk9 hp_k hk_k hm_k hr_k hok_k) i hq.hb hq.hr hq.hpv hq.hpm hq.hkm hq.hkr hi hq.hsz) rfl (g9 3 ?_)
  refine WC.cond rfl (fun h39 => ?_) (fun h39 => ?_)
  ·have hwt : 0 < (Zd p.pivots p.msgs i).length := (odt h39).2.1
   refine g9 10 ?_
   refine congrArg (Value.int .i64) ?_
   rw [ZdR (c := (⟨cf, cl, cb, cs, cr⟩ : Cfg)) (show ¬ 0 < ZS cl cb p k i by omega) om9 hwt]
   rw [if_neg (by rw [h12] <;> simp)]
  have hwt : ¬ 0 < (Zd p.pivots p.msgs i).length := fun hh => odf h39 ⟨hko, hh, om9⟩
  refine g9 10 ?_
  refine congrArg (Value.int .i64) ?_
  exact (ZdS (c := (⟨cf, cl, cb, cs, cr⟩ : Cfg)) (show ¬ 0 < ZS cl cb p k i by omega) om9 hwt).symm
 refine g9 14 ?_
 refine W.qcall (ZcX cf cl cb cs cr (p := p) (k := k) (nk9 hp_p hk_p hm_p hr_p hok_p) (nk9 hp_k hk_k hm_k hr_k hok_k) i hq.hb hq.hr hq.hpv hq.hpm hq.hkm hq.hkr hi hq.hsz) rfl (g9 4 ?_)
 refine WC.cd (fun h29 p29 => ?_) (fun h29 p29 => ?_)
 ·refine g9 9 ?_
  refine congrArg (Value.int .i64) ?_
  exact (ZdP (c := (⟨cf, cl, cb, cs, cr⟩ : Cfg)) (fun h => by omega) (show 0 < ZS cl cb p k i by omega)).symm
 refine g9 8 ?_
 refine WC.cd (fun h33 p33 => ?_) (fun h33 p33 => ?_)
 ·refine g9 9 ?_
  refine congrArg (Value.int .i64) ?_
  exact (ZdQ (c := (⟨cf, cl, cb, cs, cr⟩ : Cfg)) (fun h => by omega) (show ¬ 0 < ZS cl cb p k i by omega) om9).symm
 refine g9 6 ?_
 refine W.qcall (Zeq cf cl cb cs cr (p := p) (k := k) (nk9 hp_p hk_p hm_p hr_p hok_p) (nk9 hp_k hk_k hm_k hr_k hok_k) i hq.hb hq.hr hq.hpv hq.hpm hq.hkm hq.hkr hi hq.hsz) rfl (g9 3 ?_)
 refine WC.cond rfl (fun h39 => ?_) (fun h39 => ?_)
 ·have hwt : 0 < (Zd p.pivots p.msgs i).length := (odt h39).2.1
  refine g9 10 ?_
  refine congrArg (Value.int .i64) ?_
  rw [ZdR (c := (⟨cf, cl, cb, cs, cr⟩ : Cfg)) (show ¬ 0 < ZS cl cb p k i by omega) om9 hwt]
  rw [if_neg (by rw [h12] <;> simp)]
 have hwt : ¬ 0 < (Zd p.pivots p.msgs i).length := fun hh => odf h39 ⟨hko, hh, om9⟩
 refine g9 10 ?_
 refine congrArg (Value.int .i64) ?_
 exact (ZdS (c := (⟨cf, cl, cb, cs, cr⟩ : Cfg)) (show ¬ 0 < ZS cl cb p k i by omega) om9 hwt).symm

theorem Zaa {G : GH} (cf : Int) (cl : Int) (cb : Int) (cs : Int) (cr : Int) {cs_p : List Value} {p : Nd} (h_p : NodeC G cs_p p) {cs_k : List Value} {k : Nd} (h_k : NodeC G cs_k k) (i : Int) (hb : 0 ≤ cb ∧ cb ≤ 9223372036854775807) (hr : ZZ p.pivots = true) (hpv : ∀ q ∈ p.pivots, q.b.size ≤ 16) (hpm : ∀ m ∈ p.msgs, m.R) (hkm : ∀ m ∈ k.msgs, m.key.b.size ≤ 16 ∧ m.val.b.size ≤ 16) (hkr : PairsR k.rows) (hi : i64 i) (hsz : k.msgs.length + p.msgs.length ≤ 100000 ∧ k.rows.length ≤ 100000) :
    Fc Tryz.prog 194 [.agg #[iV cf, iV cl, iV cb, iV cs, iV cr], .agg (List.toArray cs_p), .agg (List.toArray cs_k), iV i] G [] (fun v G' M' => M' = [] ∧ ∃ r : Nd × Nd × Nat, r = ZW cl cb p k i ∧ ∃ u0 u1, v = .tuple #[.agg (List.toArray u0), .agg (List.toArray u1), nt9 r.2.2] ∧ NodeC G' u0 (r.1) ∧ NodeC G' u1 (r.2.1)) := by
 obtain ⟨pa_p, pc_p, ka_p, kc_p, ma_p, mc_p, ra_p, rc_p, rfl, hp_p, hk_p, hm_p, hr_p, hok_p⟩ := h_p
 obtain ⟨pa_k, pc_k, ka_k, kc_k, ma_k, mc_k, ra_k, rc_k, rfl, hp_k, hk_k, hm_k, hr_k, hok_k⟩ := h_k
 have hpk : ∀ m ∈ p.msgs, m.key.b.size < 140737488355328 := fun m h => by have := (Y1 (hpm m h)).1; omega
 have hlm := hm_p.len47
 have hfl := Zj0 p.pivots p.msgs i
 have htl : ((Zd p.pivots p.msgs i).take (Zr cl cb k (Zd p.pivots p.msgs i)).2).length ≤ (Zd p.pivots p.msgs i).length := by rw [List.length_take]; omega
 refine Fc.go [.cell 8 60, .cell 9 60, .tmp 10] Tryz.func194 Tryz.ntmps194 rfl (fun w0 => (g9 2 ?_))
 refine W.box (L := [iV _, iV _, iV _, iV _, iV _]) rfl rfl (fun b1 => (W.box (L := [iV _, iV _, lV _ _ _, lV _ _ _, sV _, .bool _, iV _, iV _, lV _ _ _, lV _ _ _]) rfl rfl (fun b2 => (W.box (L := [iV _, iV _, lV _ _ _, lV _ _ _, sV _, .bool _, iV _, iV _, lV _ _ _, lV _ _ _]) rfl rfl (fun b3 => (W.alloc Zm (fun b4 => (W.alloc Zm (fun b5 => (g9 9 ?_))))))))))
 refine W.qcall (ZgL (p := p) (k := k) (nk9 hp_p hk_p hm_p hr_p hok_p) (nk9 hp_k hk_k hm_k hr_k hok_k) i) rfl (g9 3 ?_)
 refine WC.cond rfl (fun h24 => ?_) (fun h24 => ?_)
 ·refine WC.seq (WC.dw ((((sr9.k9.k9).k9).cons _).cons _) (d9 [0, 2] ?_))
  refine WD.a1 1 rfl (W.cN (X1 (a := p) (nk9 hp_p hk_p hm_p hr_p hok_p)) rfl (fun _ _ _ _ _ _ _ _ G6 hG6 hp_hv7 hk_hv7 hm_hv7 hr_hv7 hok_hv7 => (W.nn (WD.a1 3 rfl (W.cN (X1 (a := k) (nm9 hG6 hp_k hk_k hm_k hr_k hok_k)) rfl (fun _ _ _ _ _ _ _ _ G12 hG12 hp_hv13 hk_hv13 hm_hv13 hr_hv13 hok_hv13 => (W.nn (d9 [4, 5, 6] ?_))))))))
  refine g9 5 ?_
  refine ⟨rfl, _, (Zp0 (by simpa using h24)).symm, _, _, rfl, ?_, ?_⟩
  · exact (nm9 hG12 hp_hv7 hk_hv7 hm_hv7 hr_hv7 hok_p)
  exact (nk9 hp_hv13 hk_hv13 hm_hv13 hr_hv13 hok_k)
 have hko : KidOf p k i := by simpa using h24
 refine g9 8 ?_
 refine W.call (Mp := []) (ZlA cf cl cb cs cr (p := p) (k := k) (nk9 hp_p hk_p hm_p hr_p hok_p) (nk9 hp_k hk_k hm_k hr_k hok_k) i hb hr hpv hpm hkm hkr hi hsz) rfl pr9 ?_
 intro _ G18 _ hG18 q21
 refine match q21 with | ⟨e_22, _, e_23, _, _, e_24, hv19, hv20⟩ => ?_
 subst e_22
 subst e_23
 subst e_24
 refine match hv19 with | ⟨pa_hv19, pc_hv19, ka_hv19, kc_hv19, ma_hv19, mc_hv19, ra_hv19, rc_hv19, e_25, hp_hv19, hk_hv19, hm_hv19, hr_hv19, hok_hv19⟩ => ?_
 subst e_25
 have q27 := hv20.form
 refine match q27 with | ⟨sa_hv20, sc_hv20, e_26⟩ => ?_
 subst e_26
 refine g9 3 ?_
 refine W.alloc Zm (fun b28 => (g9 12 ?_))
 refine WC.cd (fun h39 p39 => ?_) (fun h39 p39 => ?_)
 ·refine WC.seq (WC.dw (((((sr9.k9.k9).k9).cons _).cons _).k9) (d9 [0, 2] ?_))
  refine WD.a1 1 rfl (W.cN (X1 (a := p) (nm9 hG18 hp_p hk_p hm_p hr_p hok_p)) rfl (fun _ _ _ _ _ _ _ _ G29 hG29 hp_hv30 hk_hv30 hm_hv30 hr_hv30 hok_hv30 => (W.nn (WD.a1 3 rfl (W.cN (X1 (a := k) (nm9 lec hp_k hk_k hm_k hr_k hok_k)) rfl (fun _ _ _ _ _ _ _ _ G35 hG35 hp_hv36 hk_hv36 hm_hv36 hr_hv36 hok_hv36 => (W.nn (d9 [4, 5, 6] ?_))))))))
  refine g9 5 ?_
  refine ⟨rfl, _, (Zp1 hko om9).symm, _, _, rfl, ?_, ?_⟩
  · exact (nm9 hG35 hp_hv30 hk_hv30 hm_hv30 hr_hv30 hok_p)
  exact (nk9 hp_hv36 hk_hv36 hm_hv36 hr_hv36 hok_k)
 refine g9 4 ?_
 refine W.makeMap (V := Zds) (fun bm41 hm42 => (W.perm (pmC (Ms := [(bm41, Obj.map #[] 0)]) (pmC (Ms := [(bm41, Obj.map #[] 0)]) (pmC (Ms := [(bm41, Obj.map #[] 0)]) (pmC (Ms := [(bm41, Obj.map #[] 0)]) (pmC (Ms := [(bm41, Obj.map #[] 0)]) (pmC (Ms := [(bm41, Obj.map #[] 0)]) pr9)))))).symm (g9 12 ?_)))
 refine WC.loop (X := (Nat) × MH) (fun y => [(47, nt9 y.1), (5, pt9 b2), (8, pt9 b4), (9, pt9 b5), (11, pt9 b28), (3, iV i), (12, lV sa_hv20 (((Zd p.pivots p.msgs i).take (Zr cl cb k (Zd p.pivots p.msgs i)).2)).length sc_hv20), (45, lV sa_hv20 (((Zd p.pivots p.msgs i).take (Zr cl cb k (Zd p.pivots p.msgs i)).2)).length sc_hv20), (46, nt9 ((((Zd p.pivots p.msgs i).take (Zr cl cb k (Zd p.pivots p.msgs i)).2)).length)), (13, .map (some bm41))]) (fun y G Ml => Ml = ((b28, ce9 60 (ndl ((Zr cl cb k (Zd p.pivots p.msgs i)).1) pa_hv19 pc_hv19 ka_hv19 kc_hv19 ma_hv19 mc_hv19 ra_hv19 rc_hv19)) :: ((b5, ce9 60 nz9) :: ((b4, ce9 60 nz9) :: ((b3, ce9 60 (ndl k pa_k pc_k ka_k kc_k ma_k mc_k ra_k rc_k)) :: ((b2, ce9 60 (ndl p pa_p pc_p ka_p kc_p ma_p mc_p ra_p rc_p)) :: ((b1, ce9 23 [iV cf, iV cl, iV cb, iV cs, iV cr]) :: (y.2 ++ []))))))) ∧ MpR Zds bm41 G ((Zb1 (((Zd p.pivots p.msgs i).take (Zr cl cb k (Zd p.pivots p.msgs i)).2).take y.1))) y.2 ∧ y.1 ≤ ((Zd p.pivots p.msgs i).take (Zr cl cb k (Zd p.pivots p.msgs i)).2).length) (fun y => ((Zd p.pivots p.msgs i).take (Zr cl cb k (Zd p.pivots p.msgs i)).2).length - y.1) (0, [(bm41, Obj.map #[] 0)]) hs9 ?_ ?_
 ·exact ⟨rfl, (by exact hm42), Nat.zero_le _⟩
 rintro ⟨y, M_13⟩ gG43 G43 _ hG43 ⟨rfl, ho_13, hy⟩
 try dsimp only at ho_13 hy
 refine WC.fr (f := ZX gG43 [(47, nt9 y), (5, pt9 b2), (8, pt9 b4), (9, pt9 b5), (11, pt9 b28), (3, iV i), (12, lV sa_hv20 (((Zd p.pivots p.msgs i).take (Zr cl cb k (Zd p.pivots p.msgs i)).2)).length sc_hv20), (45, lV sa_hv20 (((Zd p.pivots p.msgs i).take (Zr cl cb k (Zd p.pivots p.msgs i)).2)).length sc_hv20), (46, nt9 ((((Zd p.pivots p.msgs i).take (Zr cl cb k (Zd p.pivots p.msgs i)).2)).length)), (13, .map (some bm41))]) rfl (g9 6 ?_)
 refine WC.cd (fun h48 p48 => ?_) (fun h48 p48 => ?_)
 ·refine g9 6 ?_
  refine (hv20.mono hG43).a2 (i := y) om9 (fun he44 hm45 => (g9 2 ?_))
  refine W.alloc Z1 (fun b49 => (g9 7 ?_))
  refine W.mapUp (V := Zds) (k := ((((Zd p.pivots p.msgs i).take (Zr cl cb k (Zd p.pivots p.msgs i)).2))[y]).stamp) Zk7 rfl rfl rfl ho_13 (pmC (pmC (pmC (pmC (pmC (pmC (pmC pr9))))))) rfl (fun Ms50 hm51 => (W.perm (pmC (pmC (pmC (pmC (pmC (pmC (pmC pr9))))))).symm (g9 6 ?_)))
  refine W.sub (sr9.cons _) (g9 2 ?_)
  exact ⟨Le.rfl, (y + 1, Ms50), hs9, ⟨rfl, (by rw [ZpZ om9]; exact hm51), om9⟩, om9⟩
 refine g9 6 ?_
 have hm52 := ho_13
 rw [List.take_of_length_le (by omega : ((Zd p.pivots p.msgs i).take (Zr cl cb k (Zd p.pivots p.msgs i)).2).length ≤ y)] at hm52
 refine g9 2 ?_
 refine W.cN (X1 (a := p) (nm9 lec hp_p hk_p hm_p hr_p hok_p)) rfl (fun pa_hv54 pc_hv54 ka_hv54 kc_hv54 _ _ ra_hv54 rc_hv54 G53 hG53 hp_hv54 hk_hv54 hm_hv54 hr_hv54 hok_hv54 => (W.alloc Zm (fun b59 => (g9 19 ?_))))
 have hN60 : NmR 60 87 b59 G53 ({ p with msgs := [] }) ((b59, ce9 60 [iV (p).slot, iV (p).level, lV pa_hv54 ((p).pivots).length pc_hv54, lV ka_hv54 ((p).kids).length kc_hv54, sV (p).high.b, .bool (p).top, iV (p).right, iV (p).seen, lV none 0 0, lV ra_hv54 ((p).rows).length rc_hv54]) :: []) := ⟨_, _, _, _, _, _, _, _, rfl, hp_hv54, hk_hv54, OwnR.nil, hr_hv54, hok_p⟩
 have hN60 := NmR.cast hN60 (n' := { p with msgs := ZJ p.pivots i ((Zd p.pivots p.msgs i).take (Zr cl cb k (Zd p.pivots p.msgs i)).2) (p.msgs.take 0) }) rfl
 refine WC.perm (M' := ((b28, ce9 60 (ndl ((Zr cl cb k (Zd p.pivots p.msgs i)).1) pa_hv19 pc_hv19 ka_hv19 kc_hv19 ma_hv19 mc_hv19 ra_hv19 rc_hv19)) :: ((b5, ce9 60 nz9) :: ((b4, ce9 60 nz9) :: ((b3, ce9 60 (ndl k pa_k pc_k ka_k kc_k ma_k mc_k ra_k rc_k)) :: ((b2, ce9 60 (ndl p pa_p pc_p ka_p kc_p ma_p mc_p ra_p rc_p)) :: ((b1, ce9 23 [iV cf, iV cl, iV cb, iV cs, iV cr]) :: (((b59, ce9 60 [iV (p).slot, iV (p).level, lV pa_hv54 ((p).pivots).length pc_hv54, lV ka_hv54 ((p).kids).length kc_hv54, sV (p).high.b, .bool (p).top, iV (p).right, iV (p).seen, lV none 0 0, lV ra_hv54 ((p).rows).length rc_hv54]) :: []) ++ (M_13 ++ []))))))))) ((pmC (pmC (pmC (pmC (pmC (pmC pr9)))))).symm.trans pr9) ?_
 refine WC.loop (X := (Nat) × MH) (fun q => [(61, nt9 q.1), (13, .map (some bm41)), (5, pt9 b2), (8, pt9 b4), (9, pt9 b5), (11, pt9 b28), (3, iV i), (12, lV sa_hv20 (((Zd p.pivots p.msgs i).take (Zr cl cb k (Zd p.pivots p.msgs i)).2)).length sc_hv20), (59, lV ma_p p.msgs.length mc_p), (60, nt9 ((p.msgs).length)), (16, pt9 b59)]) (fun q G Ml => Ml = ((b28, ce9 60 (ndl ((Zr cl cb k (Zd p.pivots p.msgs i)).1) pa_hv19 pc_hv19 ka_hv19 kc_hv19 ma_hv19 mc_hv19 ra_hv19 rc_hv19)) :: ((b5, ce9 60 nz9) :: ((b4, ce9 60 nz9) :: ((b3, ce9 60 (ndl k pa_k pc_k ka_k kc_k ma_k mc_k ra_k rc_k)) :: ((b2, ce9 60 (ndl p pa_p pc_p ka_p kc_p ma_p mc_p ra_p rc_p)) :: ((b1, ce9 23 [iV cf, iV cl, iV cb, iV cs, iV cr]) :: (q.2 ++ (M_13 ++ [])))))))) ∧ NmR 60 87 b59 G ({ p with msgs := ZJ p.pivots i ((Zd p.pivots p.msgs i).take (Zr cl cb k (Zd p.pivots p.msgs i)).2) (p.msgs.take q.1) }) q.2 ∧ q.1 ≤ p.msgs.length) (fun q => p.msgs.length - q.1) (0, ((b59, ce9 60 [iV (p).slot, iV (p).level, lV pa_hv54 ((p).pivots).length pc_hv54, lV ka_hv54 ((p).kids).length kc_hv54, sV (p).high.b, .bool (p).top, iV (p).right, iV (p).seen, lV none 0 0, lV ra_hv54 ((p).rows).length rc_hv54]) :: [])) hs9 ?_ ?_
 ·exact ⟨rfl, (by exact hN60), Nat.zero_le _⟩
 rintro ⟨q, M_16⟩ gG61 G61 _ hG61 ⟨rfl, ho_16, hq⟩
 try dsimp only at ho_16 hq
 have hrl := Zp5 p.pivots i ((Zd p.pivots p.msgs i).take (Zr cl cb k (Zd p.pivots p.msgs i)).2) p.msgs q
 refine WC.fr (f := ZX gG61 [(61, nt9 q), (13, .map (some bm41)), (5, pt9 b2), (8, pt9 b4), (9, pt9 b5), (11, pt9 b28), (3, iV i), (12, lV sa_hv20 (((Zd p.pivots p.msgs i).take (Zr cl cb k (Zd p.pivots p.msgs i)).2)).length sc_hv20), (59, lV ma_p p.msgs.length mc_p), (60, nt9 ((p.msgs).length)), (16, pt9 b59)]) rfl (g9 6 ?_)
 refine WC.cd (fun h62 p62 => ?_) (fun h62 p62 => ?_)
 ·refine g9 6 ?_
  refine (hm_p.mono (((hG18.trans hG43).trans hG53).trans hG61)).a2 (i := q) om9 (fun he62 hm63 => (g9 2 ?_))
  refine W.alloc Z1 (fun b67 => (g9 8 ?_))
  refine W.lookO (V := Zds) Zk7 mz4 rfl rfl rfl (MpR.mono lec hm52) (pmC (pmC (pmC (pmC (pmC (pmC (pmC (pmA pr9)))))))) (fun v68 hv69 => ?_)
  have ehv69 := hv69
  subst ehv69
  refine g9 10 ?_
  refine W.sp 72 rfl (fun h71 => ?_) (fun h71 => ?_)
  ·have hg : (p.msgs[q]'om9).stamp ∈ ((Zd p.pivots p.msgs i).take (Zr cl cb k (Zd p.pivots p.msgs i)).2).map Msg.stamp := by have h9 := h71; rw [ZjX] at h9; simpa using h9
   refine g9 9 ?_
   refine WC.cd (fun h75 p75 => ?_) (fun h75 p75 => ?_)
   ·refine WC.dw ((((((sr9.k9.k9).k9).k9).k9).k9).cons _) (d9 [1, 2, 3] ?_)
    refine WD.any [0, 4] (by kernel_rfl) rfl ⟨WD.ap ?_, WD.ap ?_, trivial⟩
    ·refine g9 1 ?_
     refine W.nn (WD.a1 4 rfl (W.qcall (Za3 (hp_p.mono lec) _ hi) rfl (W.nn (WD.a1 5 rfl (W.qcall (ZlB _ _ _ _ _ _ _ _ _ (hpk _ (List.getElem_mem (by omega : q < p.msgs.length)))) rfl (W.nn (d9 [6, 7, 8, 9, 10] ?_)))))))
     refine g9 7 ?_
     refine WC.cond rfl (fun h83_1 => ?_) (fun h83_1 => ?_)
     ·obtain ⟨pau70, pcu70, kau70, kcu70, vmu70, rau70, rcu70, Mmu70, eMu70, hpu70, hku70, hmu70, hru70, hoku70⟩ := ho_16
      subst eMu70
      have hfu70 := hmu70.form
      refine match hfu70 with | ⟨mau70, mcu70, e_71⟩ => ?_
      subst e_71
      dsimp only at hpu70 hku70 hmu70 hru70
      refine WC.perm (M' := ((b59, ce9 60 [iV p.slot, iV p.level, lV pau70 p.pivots.length pcu70, lV kau70 p.kids.length kcu70, sV p.high.b, .bool p.top, iV p.right, iV p.seen, lV mau70 (ZJ p.pivots i ((Zd p.pivots p.msgs i).take (Zr cl cb k (Zd p.pivots p.msgs i)).2) (p.msgs.take q)).length mcu70, lV rau70 p.rows.length rcu70]) :: ((b67, ce9 87 [iV ((ZC (p.msgs[q]'om9) (Zf p.pivots i)).1.stamp), iV ((ZC (p.msgs[q]'om9) (Zf p.pivots i)).1.kind), sV ((ZC (p.msgs[q]'om9) (Zf p.pivots i)).1.key).b, sV ((ZC (p.msgs[q]'om9) (Zf p.pivots i)).1.hi).b, .bool ((ZC (p.msgs[q]'om9) (Zf p.pivots i)).1.opn), sV ((ZC (p.msgs[q]'om9) (Zf p.pivots i)).1.val).b]) :: ((b28, ce9 60 (ndl ((Zr cl cb k (Zd p.pivots p.msgs i)).1) pa_hv19 pc_hv19 ka_hv19 kc_hv19 ma_hv19 mc_hv19 ra_hv19 rc_hv19)) :: ((b5, ce9 60 nz9) :: ((b4, ce9 60 nz9) :: ((b3, ce9 60 (ndl k pa_k pc_k ka_k kc_k ma_k mc_k ra_k rc_k)) :: ((b2, ce9 60 (ndl p pa_p pc_p ka_p kc_p ma_p mc_p ra_p rc_p)) :: ((b1, ce9 23 [iV cf, iV cl, iV cb, iV cs, iV cr]) :: (Mmu70 ++ (M_13 ++ []))))))))))) (pmD (pmD (pmD (pmD (pmD (pmD (pmD pr9))))))).symm (g9 4 ?_)
      refine W.lit (e := Zu) (l := [(ZC (p.msgs[q]'om9) (Zf p.pivots i)).1]) (css := [[iV _, iV _, sV _, sV _, .bool _, sV _]]) Z2 Z7 Z1 rfl rfl rfl rfl rfl rfl ⟨⟨rfl, ZjZ hm63⟩, trivial⟩ (fun bl72 G72 hG72 hv72 => (W.app (e := Zu) Z2 Z7 Z1 rfl JP rfl rfl ((hmu70.mono hG72)) (hv72) (pmC (pmC (pmC (pmC (pmC (pmC (pmC (pmC pr9)))))))) (by show (List.length _ + 1) * 72 ≤ _; omega) (fun v73 Ms74 ho75 => (W.perm (pmC (pmC (pmC (pmC (pmC (pmC (pmC (pmC pr9)))))))).symm ?_))))
      have q79 := ho75.form
      refine match q79 with | ⟨sa76, sc77, e_78⟩ => ?_
      subst e_78
      refine g9 5 ?_
      have hN80 : NmR 60 87 b59 G72 ({ p with msgs := (ZJ p.pivots i ((Zd p.pivots p.msgs i).take (Zr cl cb k (Zd p.pivots p.msgs i)).2) (p.msgs.take q) ++ [(ZC (p.msgs[q]'om9) (Zf p.pivots i)).1]) }) ((b59, ce9 60 [iV p.slot, iV p.level, lV pau70 p.pivots.length pcu70, lV kau70 p.kids.length kcu70, sV p.high.b, .bool p.top, iV p.right, iV p.seen, lV sa76 ((ZJ p.pivots i ((Zd p.pivots p.msgs i).take (Zr cl cb k (Zd p.pivots p.msgs i)).2) (p.msgs.take q) ++ [(ZC (p.msgs[q]'om9) (Zf p.pivots i)).1])).length sc77, lV rau70 p.rows.length rcu70]) :: Ms74) := ⟨_, _, _, _, _, _, _, _, rfl, (hpu70.mono hG72), (hku70.mono hG72), ho75, (hru70.mono hG72), hok_p⟩
      have hN80 := NmR.cast hN80 (Zf4 om9 (ZjY hg p75 h83_1))
      refine WC.perm (M' := ((b67, ce9 87 [iV ((ZC (p.msgs[q]'om9) (Zf p.pivots i)).1.stamp), iV ((ZC (p.msgs[q]'om9) (Zf p.pivots i)).1.kind), sV ((ZC (p.msgs[q]'om9) (Zf p.pivots i)).1.key).b, sV ((ZC (p.msgs[q]'om9) (Zf p.pivots i)).1.hi).b, .bool ((ZC (p.msgs[q]'om9) (Zf p.pivots i)).1.opn), sV ((ZC (p.msgs[q]'om9) (Zf p.pivots i)).1.val).b]) :: ((b28, ce9 60 (ndl ((Zr cl cb k (Zd p.pivots p.msgs i)).1) pa_hv19 pc_hv19 ka_hv19 kc_hv19 ma_hv19 mc_hv19 ra_hv19 rc_hv19)) :: ((b5, ce9 60 nz9) :: ((b4, ce9 60 nz9) :: ((b3, ce9 60 (ndl k pa_k pc_k ka_k kc_k ma_k mc_k ra_k rc_k)) :: ((b2, ce9 60 (ndl p pa_p pc_p ka_p kc_p ma_p mc_p ra_p rc_p)) :: ((b1, ce9 23 [iV cf, iV cl, iV cb, iV cs, iV cr]) :: (((b59, ce9 60 [iV p.slot, iV p.level, lV pau70 p.pivots.length pcu70, lV kau70 p.kids.length kcu70, sV p.high.b, .bool p.top, iV p.right, iV p.seen, lV sa76 ((ZJ p.pivots i ((Zd p.pivots p.msgs i).take (Zr cl cb k (Zd p.pivots p.msgs i)).2) (p.msgs.take q) ++ [(ZC (p.msgs[q]'om9) (Zf p.pivots i)).1])).length sc77, lV rau70 p.rows.length rcu70]) :: Ms74) ++ (M_13 ++ [])))))))))) ((pmC (pmC (pmC (pmC (pmC (pmC (pmC pr9))))))).symm.trans (((pmC (pmC (pmC (pmC (pmC (pmC (pmC pr9))))))).cons _).trans pr9)) (g9 3 ?_)
      refine W.sub (sr9.cons _) (g9 2 ?_)
      exact ⟨hG72, (q + 1, ((b59, ce9 60 [iV p.slot, iV p.level, lV pau70 p.pivots.length pcu70, lV kau70 p.kids.length kcu70, sV p.high.b, .bool p.top, iV p.right, iV p.seen, lV sa76 ((ZJ p.pivots i ((Zd p.pivots p.msgs i).take (Zr cl cb k (Zd p.pivots p.msgs i)).2) (p.msgs.take q) ++ [(ZC (p.msgs[q]'om9) (Zf p.pivots i)).1])).length sc77, lV rau70 p.rows.length rcu70]) :: Ms74)), hs9, ⟨rfl, (by exact hN80), om9⟩, om9⟩
     refine g9 6 ?_
     refine W.sub (sr9.cons _) (g9 2 ?_)
     exact ⟨Le.rfl, (q + 1, M_16), hs9, ⟨rfl, (by exact NmR.cast ho_16 (Zf5 om9 (Zf3 hg (fun hh => absurd (h83_1.symm.trans hh.2) (by simp))))), om9⟩, om9⟩
    refine W.qcall (Za3 (hp_p.mono lec) _ hi) rfl (W.nn (WD.a1 0 rfl (g9 1 ?_)))
    refine W.nn (WD.a1 5 rfl (W.qcall (ZlB _ _ _ _ _ _ _ _ _ (hpk _ (List.getElem_mem (by omega : q < p.msgs.length)))) rfl (W.nn (d9 [6, 7, 8, 9, 10] ?_))))
    refine g9 7 ?_
    refine WC.cond rfl (fun h83_1 => ?_) (fun h83_1 => ?_)
    ·obtain ⟨pau81, pcu81, kau81, kcu81, vmu81, rau81, rcu81, Mmu81, eMu81, hpu81, hku81, hmu81, hru81, hoku81⟩ := ho_16
     subst eMu81
     have hfu81 := hmu81.form
     refine match hfu81 with | ⟨mau81, mcu81, e_82⟩ => ?_
     subst e_82
     dsimp only at hpu81 hku81 hmu81 hru81
     refine WC.perm (M' := ((b59, ce9 60 [iV p.slot, iV p.level, lV pau81 p.pivots.length pcu81, lV kau81 p.kids.length kcu81, sV p.high.b, .bool p.top, iV p.right, iV p.seen, lV mau81 (ZJ p.pivots i ((Zd p.pivots p.msgs i).take (Zr cl cb k (Zd p.pivots p.msgs i)).2) (p.msgs.take q)).length mcu81, lV rau81 p.rows.length rcu81]) :: ((b67, ce9 87 [iV ((ZC (p.msgs[q]'om9) (Zf p.pivots i)).1.stamp), iV ((ZC (p.msgs[q]'om9) (Zf p.pivots i)).1.kind), sV ((ZC (p.msgs[q]'om9) (Zf p.pivots i)).1.key).b, sV ((ZC (p.msgs[q]'om9) (Zf p.pivots i)).1.hi).b, .bool ((ZC (p.msgs[q]'om9) (Zf p.pivots i)).1.opn), sV ((ZC (p.msgs[q]'om9) (Zf p.pivots i)).1.val).b]) :: ((b28, ce9 60 (ndl ((Zr cl cb k (Zd p.pivots p.msgs i)).1) pa_hv19 pc_hv19 ka_hv19 kc_hv19 ma_hv19 mc_hv19 ra_hv19 rc_hv19)) :: ((b5, ce9 60 nz9) :: ((b4, ce9 60 nz9) :: ((b3, ce9 60 (ndl k pa_k pc_k ka_k kc_k ma_k mc_k ra_k rc_k)) :: ((b2, ce9 60 (ndl p pa_p pc_p ka_p kc_p ma_p mc_p ra_p rc_p)) :: ((b1, ce9 23 [iV cf, iV cl, iV cb, iV cs, iV cr]) :: (Mmu81 ++ (M_13 ++ []))))))))))) (pmD (pmD (pmD (pmD (pmD (pmD (pmD pr9))))))).symm (g9 4 ?_)
     refine W.lit (e := Zu) (l := [(ZC (p.msgs[q]'om9) (Zf p.pivots i)).1]) (css := [[iV _, iV _, sV _, sV _, .bool _, sV _]]) Z2 Z7 Z1 rfl rfl rfl rfl rfl rfl ⟨⟨rfl, ZjZ hm63⟩, trivial⟩ (fun bl83 G83 hG83 hv83 => (W.app (e := Zu) Z2 Z7 Z1 rfl JP rfl rfl ((hmu81.mono hG83)) (hv83) (pmC (pmC (pmC (pmC (pmC (pmC (pmC (pmC pr9)))))))) (by show (List.length _ + 1) * 72 ≤ _; omega) (fun v84 Ms85 ho86 => (W.perm (pmC (pmC (pmC (pmC (pmC (pmC (pmC (pmC pr9)))))))).symm ?_))))
     have q90 := ho86.form
     refine match q90 with | ⟨sa87, sc88, e_89⟩ => ?_
     subst e_89
     refine g9 5 ?_
     have hN91 : NmR 60 87 b59 G83 ({ p with msgs := (ZJ p.pivots i ((Zd p.pivots p.msgs i).take (Zr cl cb k (Zd p.pivots p.msgs i)).2) (p.msgs.take q) ++ [(ZC (p.msgs[q]'om9) (Zf p.pivots i)).1]) }) ((b59, ce9 60 [iV p.slot, iV p.level, lV pau81 p.pivots.length pcu81, lV kau81 p.kids.length kcu81, sV p.high.b, .bool p.top, iV p.right, iV p.seen, lV sa87 ((ZJ p.pivots i ((Zd p.pivots p.msgs i).take (Zr cl cb k (Zd p.pivots p.msgs i)).2) (p.msgs.take q) ++ [(ZC (p.msgs[q]'om9) (Zf p.pivots i)).1])).length sc88, lV rau81 p.rows.length rcu81]) :: Ms85) := ⟨_, _, _, _, _, _, _, _, rfl, (hpu81.mono hG83), (hku81.mono hG83), ho86, (hru81.mono hG83), hok_p⟩
     have hN91 := NmR.cast hN91 (Zf4 om9 (ZjY hg p75 h83_1))
     refine WC.perm (M' := ((b67, ce9 87 [iV ((ZC (p.msgs[q]'om9) (Zf p.pivots i)).1.stamp), iV ((ZC (p.msgs[q]'om9) (Zf p.pivots i)).1.kind), sV ((ZC (p.msgs[q]'om9) (Zf p.pivots i)).1.key).b, sV ((ZC (p.msgs[q]'om9) (Zf p.pivots i)).1.hi).b, .bool ((ZC (p.msgs[q]'om9) (Zf p.pivots i)).1.opn), sV ((ZC (p.msgs[q]'om9) (Zf p.pivots i)).1.val).b]) :: ((b28, ce9 60 (ndl ((Zr cl cb k (Zd p.pivots p.msgs i)).1) pa_hv19 pc_hv19 ka_hv19 kc_hv19 ma_hv19 mc_hv19 ra_hv19 rc_hv19)) :: ((b5, ce9 60 nz9) :: ((b4, ce9 60 nz9) :: ((b3, ce9 60 (ndl k pa_k pc_k ka_k kc_k ma_k mc_k ra_k rc_k)) :: ((b2, ce9 60 (ndl p pa_p pc_p ka_p kc_p ma_p mc_p ra_p rc_p)) :: ((b1, ce9 23 [iV cf, iV cl, iV cb, iV cs, iV cr]) :: (((b59, ce9 60 [iV p.slot, iV p.level, lV pau81 p.pivots.length pcu81, lV kau81 p.kids.length kcu81, sV p.high.b, .bool p.top, iV p.right, iV p.seen, lV sa87 ((ZJ p.pivots i ((Zd p.pivots p.msgs i).take (Zr cl cb k (Zd p.pivots p.msgs i)).2) (p.msgs.take q) ++ [(ZC (p.msgs[q]'om9) (Zf p.pivots i)).1])).length sc88, lV rau81 p.rows.length rcu81]) :: Ms85) ++ (M_13 ++ [])))))))))) ((pmC (pmC (pmC (pmC (pmC (pmC (pmC pr9))))))).symm.trans (((pmC (pmC (pmC (pmC (pmC (pmC (pmC pr9))))))).cons _).trans pr9)) (g9 3 ?_)
     refine W.sub (sr9.cons _) (g9 2 ?_)
     exact ⟨hG83, (q + 1, ((b59, ce9 60 [iV p.slot, iV p.level, lV pau81 p.pivots.length pcu81, lV kau81 p.kids.length kcu81, sV p.high.b, .bool p.top, iV p.right, iV p.seen, lV sa87 ((ZJ p.pivots i ((Zd p.pivots p.msgs i).take (Zr cl cb k (Zd p.pivots p.msgs i)).2) (p.msgs.take q) ++ [(ZC (p.msgs[q]'om9) (Zf p.pivots i)).1])).length sc88, lV rau81 p.rows.length rcu81]) :: Ms85)), hs9, ⟨rfl, (by exact hN91), om9⟩, om9⟩
    refine g9 6 ?_
    refine W.sub (sr9.cons _) (g9 2 ?_)
    exact ⟨Le.rfl, (q + 1, M_16), hs9, ⟨rfl, (by exact NmR.cast ho_16 (Zf5 om9 (Zf3 hg (fun hh => absurd (h83_1.symm.trans hh.2) (by simp))))), om9⟩, om9⟩
   refine g9 7 ?_
   refine WC.cond rfl (fun h69 => ?_) (fun h69 => ?_)
   ·exfalso
    simp_all
   refine g9 6 ?_
   refine W.sub (sr9.cons _) (g9 2 ?_)
   exact ⟨Le.rfl, (q + 1, M_16), hs9, ⟨rfl, (by exact NmR.cast ho_16 (Zf5 om9 (Zf3 hg (fun hh => p75 hh.1)))), om9⟩, om9⟩
  have hng : ¬ (p.msgs[q]'om9).stamp ∈ ((Zd p.pivots p.msgs i).take (Zr cl cb k (Zd p.pivots p.msgs i)).2).map Msg.stamp := by have h9 := h71; rw [ZjX] at h9; simpa using h9
  refine g9 14 ?_
  refine WC.cond rfl (fun h69 => ?_) (fun h69 => ?_)
  ·obtain ⟨pau92, pcu92, kau92, kcu92, vmu92, rau92, rcu92, Mmu92, eMu92, hpu92, hku92, hmu92, hru92, hoku92⟩ := ho_16
   subst eMu92
   have hfu92 := hmu92.form
   refine match hfu92 with | ⟨mau92, mcu92, e_93⟩ => ?_
   subst e_93
   dsimp only at hpu92 hku92 hmu92 hru92
   refine WC.perm (M' := ((b59, ce9 60 [iV p.slot, iV p.level, lV pau92 p.pivots.length pcu92, lV kau92 p.kids.length kcu92, sV p.high.b, .bool p.top, iV p.right, iV p.seen, lV mau92 (ZJ p.pivots i ((Zd p.pivots p.msgs i).take (Zr cl cb k (Zd p.pivots p.msgs i)).2) (p.msgs.take q)).length mcu92, lV rau92 p.rows.length rcu92]) :: ((b67, ce9 87 [iV ((p.msgs)[q]).stamp, iV ((p.msgs)[q]).kind, sV ((p.msgs)[q]).key.b, sV ((p.msgs)[q]).hi.b, .bool ((p.msgs)[q]).opn, sV ((p.msgs)[q]).val.b]) :: ((b28, ce9 60 (ndl ((Zr cl cb k (Zd p.pivots p.msgs i)).1) pa_hv19 pc_hv19 ka_hv19 kc_hv19 ma_hv19 mc_hv19 ra_hv19 rc_hv19)) :: ((b5, ce9 60 nz9) :: ((b4, ce9 60 nz9) :: ((b3, ce9 60 (ndl k pa_k pc_k ka_k kc_k ma_k mc_k ra_k rc_k)) :: ((b2, ce9 60 (ndl p pa_p pc_p ka_p kc_p ma_p mc_p ra_p rc_p)) :: ((b1, ce9 23 [iV cf, iV cl, iV cb, iV cs, iV cr]) :: (Mmu92 ++ (M_13 ++ []))))))))))) (pmD (pmD (pmD (pmD (pmD (pmD (pmD pr9))))))).symm (g9 4 ?_)
   refine W.lit (e := Zu) (l := [(p.msgs[q]'om9)]) (css := [[iV _, iV _, sV _, sV _, .bool _, sV _]]) Z2 Z7 Z1 rfl rfl rfl rfl rfl rfl ⟨⟨rfl, hm63⟩, trivial⟩ (fun bl94 G94 hG94 hv94 => (W.app (e := Zu) Z2 Z7 Z1 rfl JP rfl rfl ((hmu92.mono hG94)) (hv94) (pmC (pmC (pmC (pmC (pmC (pmC (pmC (pmC pr9)))))))) (by show (List.length _ + 1) * 72 ≤ _; omega) (fun v95 Ms96 ho97 => (W.perm (pmC (pmC (pmC (pmC (pmC (pmC (pmC (pmC pr9)))))))).symm ?_))))
   have q101 := ho97.form
   refine match q101 with | ⟨sa98, sc99, e_100⟩ => ?_
   subst e_100
   refine g9 5 ?_
   have hN102 : NmR 60 87 b59 G94 ({ p with msgs := (ZJ p.pivots i ((Zd p.pivots p.msgs i).take (Zr cl cb k (Zd p.pivots p.msgs i)).2) (p.msgs.take q) ++ [(p.msgs[q]'om9)]) }) ((b59, ce9 60 [iV p.slot, iV p.level, lV pau92 p.pivots.length pcu92, lV kau92 p.kids.length kcu92, sV p.high.b, .bool p.top, iV p.right, iV p.seen, lV sa98 ((ZJ p.pivots i ((Zd p.pivots p.msgs i).take (Zr cl cb k (Zd p.pivots p.msgs i)).2) (p.msgs.take q) ++ [(p.msgs[q]'om9)])).length sc99, lV rau92 p.rows.length rcu92]) :: Ms96) := ⟨_, _, _, _, _, _, _, _, rfl, (hpu92.mono hG94), (hku92.mono hG94), ho97, (hru92.mono hG94), hok_p⟩
   have hN102 := NmR.cast hN102 (Zf4 om9 (Zp4 hng))
   refine WC.perm (M' := ((b67, ce9 87 [iV ((p.msgs)[q]).stamp, iV ((p.msgs)[q]).kind, sV ((p.msgs)[q]).key.b, sV ((p.msgs)[q]).hi.b, .bool ((p.msgs)[q]).opn, sV ((p.msgs)[q]).val.b]) :: ((b28, ce9 60 (ndl ((Zr cl cb k (Zd p.pivots p.msgs i)).1) pa_hv19 pc_hv19 ka_hv19 kc_hv19 ma_hv19 mc_hv19 ra_hv19 rc_hv19)) :: ((b5, ce9 60 nz9) :: ((b4, ce9 60 nz9) :: ((b3, ce9 60 (ndl k pa_k pc_k ka_k kc_k ma_k mc_k ra_k rc_k)) :: ((b2, ce9 60 (ndl p pa_p pc_p ka_p kc_p ma_p mc_p ra_p rc_p)) :: ((b1, ce9 23 [iV cf, iV cl, iV cb, iV cs, iV cr]) :: (((b59, ce9 60 [iV p.slot, iV p.level, lV pau92 p.pivots.length pcu92, lV kau92 p.kids.length kcu92, sV p.high.b, .bool p.top, iV p.right, iV p.seen, lV sa98 ((ZJ p.pivots i ((Zd p.pivots p.msgs i).take (Zr cl cb k (Zd p.pivots p.msgs i)).2) (p.msgs.take q) ++ [(p.msgs[q]'om9)])).length sc99, lV rau92 p.rows.length rcu92]) :: Ms96) ++ (M_13 ++ [])))))))))) ((pmC (pmC (pmC (pmC (pmC (pmC (pmC pr9))))))).symm.trans (((pmC (pmC (pmC (pmC (pmC (pmC (pmC pr9))))))).cons _).trans pr9)) (g9 3 ?_)
   refine W.sub (sr9.cons _) (g9 2 ?_)
   exact ⟨hG94, (q + 1, ((b59, ce9 60 [iV p.slot, iV p.level, lV pau92 p.pivots.length pcu92, lV kau92 p.kids.length kcu92, sV p.high.b, .bool p.top, iV p.right, iV p.seen, lV sa98 ((ZJ p.pivots i ((Zd p.pivots p.msgs i).take (Zr cl cb k (Zd p.pivots p.msgs i)).2) (p.msgs.take q) ++ [(p.msgs[q]'om9)])).length sc99, lV rau92 p.rows.length rcu92]) :: Ms96)), hs9, ⟨rfl, (by exact hN102), om9⟩, om9⟩
  exfalso
  simp_all
 refine g9 11 ?_
 refine (hv20.mono ((hG43.trans hG53).trans hG61)).a2 (i := ((Zd p.pivots p.msgs i).take (Zr cl cb k (Zd p.pivots p.msgs i)).2).length - 1) om9 (fun he103 hm104 => (W.ok (Yu (i := ((Zd p.pivots p.msgs i).take (Zr cl cb k (Zd p.pivots p.msgs i)).2).length - 1) Z2 Z7 (hv20.mono lec) rfl rfl ⟨om9, om9⟩) (g9 7 ?_)))
 have hN108 := NmR.cast ho_16 (n' := { p with msgs := ZJ p.pivots i ((Zd p.pivots p.msgs i).take (Zr cl cb k (Zd p.pivots p.msgs i)).2) p.msgs }) (by rw [List.take_of_length_le (show p.msgs.length ≤ q by omega)])
 have hTl : (((Zd p.pivots p.msgs i).take (Zr cl cb k (Zd p.pivots p.msgs i)).2)[((Zd p.pivots p.msgs i).take (Zr cl cb k (Zd p.pivots p.msgs i)).2).length - 1]'om9).Ok := hm104
 obtain ⟨pau109, pcu109, kau109, kcu109, vmu109, rau109, rcu109, Mmu109, eMu109, hpu109, hku109, hmu109, hru109, hoku109⟩ := hN108
 subst eMu109
 have hfu109 := hmu109.form
 refine match hfu109 with | ⟨mau109, mcu109, e_110⟩ => ?_
 subst e_110
 dsimp only at hpu109 hku109 hmu109 hru109
 refine WC.perm (M' := ((b59, ce9 60 [iV p.slot, iV p.level, lV pau109 p.pivots.length pcu109, lV kau109 p.kids.length kcu109, sV p.high.b, .bool p.top, iV p.right, iV p.seen, lV mau109 (ZJ p.pivots i ((Zd p.pivots p.msgs i).take (Zr cl cb k (Zd p.pivots p.msgs i)).2) p.msgs).length mcu109, lV rau109 p.rows.length rcu109]) :: ((b28, ce9 60 [iV ((Zr cl cb k (Zd p.pivots p.msgs i)).1).slot, iV ((Zr cl cb k (Zd p.pivots p.msgs i)).1).level, lV pa_hv19 (((Zr cl cb k (Zd p.pivots p.msgs i)).1).pivots).length pc_hv19, lV ka_hv19 (((Zr cl cb k (Zd p.pivots p.msgs i)).1).kids).length kc_hv19, sV ((Zr cl cb k (Zd p.pivots p.msgs i)).1).high.b, .bool ((Zr cl cb k (Zd p.pivots p.msgs i)).1).top, iV ((Zr cl cb k (Zd p.pivots p.msgs i)).1).right, iV ((((Zd p.pivots p.msgs i).take (Zr cl cb k (Zd p.pivots p.msgs i)).2))[(((Zd p.pivots p.msgs i).take (Zr cl cb k (Zd p.pivots p.msgs i)).2).length - 1)]).stamp, lV ma_hv19 (((Zr cl cb k (Zd p.pivots p.msgs i)).1).msgs).length mc_hv19, lV ra_hv19 (((Zr cl cb k (Zd p.pivots p.msgs i)).1).rows).length rc_hv19]) :: ((b5, ce9 60 nz9) :: ((b4, ce9 60 nz9) :: ((b3, ce9 60 (ndl k pa_k pc_k ka_k kc_k ma_k mc_k ra_k rc_k)) :: ((b2, ce9 60 (ndl p pa_p pc_p ka_p kc_p ma_p mc_p ra_p rc_p)) :: ((b1, ce9 23 [iV cf, iV cl, iV cb, iV cs, iV cr]) :: (Mmu109 ++ (M_13 ++ [])))))))))) (pmD (pmD (pmD (pmD (pmD (pmD pr9)))))).symm (WC.giveO hmu109 (pmC (pmC (pmC (pmC (pmC (pmC (pmC pr9))))))) (fun G111 hG111 hv111 => (WC.dw ((((((sr9.k9.k9).k9).cons _).cons _).k9).k9) (d9 [0, 1, 2, 3, 4, 5, 6] ?_))))
 refine g9 4 ?_
 refine ⟨rfl, _, (Zp3 hko rfl om9).symm, _, _, rfl, ?_, ?_⟩
 · exact ⟨_, _, _, _, _, _, _, _, rfl, (hpu109.mono hG111), (hku109.mono hG111), hv111, (hru109.mono hG111), hok_p⟩
 exact ⟨_, _, _, _, _, _, _, _, rfl, (hp_hv19.mono lec), (hk_hv19.mono lec), (hm_hv19.mono lec), (hr_hv19.mono lec), ⟨hok_hv19.1, hok_hv19.2.1, hok_hv19.2.2.1, hTl.1⟩⟩

end Go.Proofs.YtbbemibbmbmamaaGreat
