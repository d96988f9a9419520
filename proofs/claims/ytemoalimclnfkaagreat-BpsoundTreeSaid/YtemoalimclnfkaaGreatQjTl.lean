/- Walks of what goes through plain trees. -/
import Derived.Test.YtemoalimclnfkaaGreatQjRw
set_option maxRecDepth 100000
set_option maxHeartbeats 1600000
set_option linter.unusedVariables false
set_option linter.unusedSimpArgs false
set_option linter.unnecessarySimpa false
namespace Go.Proofs.YtemoalimclnfkaaGreat
open Go Go.Fw Go.RowKit
attribute [local irreducible] Ok W WC
theorem lkl1_fc {G : GH} (pk : Str) (pv : Str) (slo : Str) (shi : Str) (so : Bool) {b_s : Nat} (h_s : CellsG G b_s 0 [sV slo.b, sV shi.b, .bool so]) :
    Fc Tryz.prog 130 [.agg #[sV pk.b, sV pv.b], pt9 b_s] G [] (fun v _ _ => v = .bool ((!Span.has ⟨slo, shi, so⟩ pk))) := by
 refine Fc.go [.tmp 3] Tryz.func130 Tryz.ntmps130 rfl (fun w0 => (g9 2 ?_))
 refine W.box (L := [sV _, sV _]) rfl rfl (fun b1 => (g9 5 ?_))
 refine W.ok (ok_loadG (vs := sp9) ty74 h_s rfl rfl rfl (by simp)) (g9 2 ?_)
 refine W.qcall (spanhas_fc _ _ _ _) rfl (g9 6 ?_)
 rfl

theorem ixlk_fc {G : GH} {v_l : Value} {l : List Pair} (h_l : SlR ePair G v_l l) (slo : Str) (shi : Str) (so : Bool) {b_s : Nat} (h_s : CellsG G b_s 0 [sV slo.b, sV shi.b, .bool so]) :
    Fc Tryz.prog 144 [v_l, .func (.func 130) #[] #[pt9 b_s]] G [] (fun v _ _ => v = iV (idxN (fun p : Pair => !Span.has ⟨slo, shi, so⟩ p.key) l)) := by
 obtain ⟨sa_l, sc_l, rfl⟩ := h_l.form
 have hl := h_l.len47
 refine Fc.go [.tmp 4] Tryz.func144 Tryz.ntmps144 rfl (fun w0 => (g9 14 ?_))
 refine WC.loop (X := Nat) (fun k => [(8, nt9 k), (0, lV sa_l l.length sc_l), (1, .func (.func 130) #[] #[pt9 b_s]), (7, nt9 ((l).length))]) (fun k _ Ml => Ml = [] ∧ k ≤ l.length ∧ ∀ j (h : j < l.length), j < k → (fun p : Pair => !Span.has ⟨slo, shi, so⟩ p.key) l[j] = false) (fun k => l.length - k) 0 hs9 ?_ ?_
 ·exact ⟨rfl, om9, fun j _ h => by omega⟩
 rintro k gG2 G2 _ hG2 ⟨rfl, hk, hj⟩
 refine g9 6 ?_
 refine WC.cd (fun h9 p9 => ?_) (fun h9 p9 => ?_)
 ·refine g9 15 ?_
  refine (h_l.mono hG2).a1 (i := k) om9 (fun he3 => (g9 2 ?_))
  refine W.qcallV (fst := []) (caps := [pt9 b_s]) rfl (lkl1_fc _ _ _ _ _ (h_s.mono hG2)) rfl (g9 2 ?_)
  refine WC.cond rfl (fun h16 => ?_) (fun h16 => ?_)
  ·refine g9 13 ?_
   refine congrArg (Value.int .i64) ?_
   exact (idxN_at (q := (fun p : Pair => !Span.has ⟨slo, shi, so⟩ p.key)) om9 h16 hj).symm
  refine g9 8 ?_
  exact ⟨Le.rfl, k + 1, hs9, ⟨rfl, om9, fun j h hji => by
      by_cases e2 : j = k
      · subst e2; exact h16
      · exact hj j h om9⟩, om9⟩
 refine g9 12 ?_
 refine congrArg (Value.int .i64) ?_
 exact (idxN_no (q := (fun p : Pair => !Span.has ⟨slo, shi, so⟩ p.key)) (fun j h => hj j om9 om9)).symm

theorem cflk_fc {G : GH} {v_l : Value} {l : List Pair} (h_l : SlR ePair G v_l l) (slo : Str) (shi : Str) (so : Bool) {b_s : Nat} (h_s : CellsG G b_s 0 [sV slo.b, sV shi.b, .bool so]) :
    Fc Tryz.prog 129 [v_l, .func (.func 130) #[] #[pt9 b_s]] G [] (fun v _ _ => v = .bool (decide ((0 : Int) ≤ idxN (fun p : Pair => !Span.has ⟨slo, shi, so⟩ p.key) l))) := by
 obtain ⟨sa_l, sc_l, rfl⟩ := h_l.form
 refine Fc.go [.tmp 4] Tryz.func129 Tryz.ntmps129 rfl (fun w0 => (g9 9 ?_))
 refine W.qcall (ixlk_fc h_l _ _ _ h_s) rfl (g9 6 ?_)
 rfl

theorem lkleaf_fc {G : GH} {c : Cfg} {l : List Nd} {bk : Nat} {mt : List (Int × Bool)} {rows : List Pair} {Ms_k : MH} (h_k : LkR 110 84 bk c (bySl l) G (mt, rows) Ms_k) {cs_a : List Value} {x : Seat} (h_a : NodeC G cs_a x.n)  (top : Bool) (hcl : i64 c.leaf) (hrl : rows.length ≤ 20000000) (hxr : x.n.rows.length ≤ 4000) :
    Fc Tryz.prog 111 [pt9 bk, .agg (List.toArray cs_a), .agg #[sV x.s.lo.b, sV x.s.hi.b, .bool x.s.opn], .bool top] G Ms_k (fun v G' M' => ∃ b rows', v = .bool b ∧ (b = true → Leaf17 x (if top = true then 0 else c.leaf.tdiv 2) c.leaf ∧ rows' = rows ++ x.n.rows) ∧ (b = false → ¬ Leaf17 x (if top = true then 0 else c.leaf.tdiv 2) c.leaf) ∧ LkR 110 84 bk c (bySl l) G' (mt, rows') M') := by
 obtain ⟨pa_a, pc_a, ka_a, kc_a, ma_a, mc_a, ra_a, rc_a, rfl, hp_a, hk_a, hm_a, hr_a, hok_a⟩ := h_a
 have h1 := hp_a.len47
 have h2 := hk_a.len47
 refine Fc.go [.tmp 8] Tryz.func111 Tryz.ntmps111 rfl (fun w0 => (WC.perm (M' := (Ms_k ++ [])) (by simp) (g9 2 ?_)))
 refine W.box (L := [iV _, iV _, lV _ _ _, lV _ _ _, sV _, .bool _, iV _, iV _, lV _ _ _, lV _ _ _]) rfl rfl (fun b6 => (W.box (L := [sV _, sV _, .bool _]) rfl rfl (fun b7 => (g9 5 ?_))))
 obtain ⟨vatlk8, bmlk8, volk8, Mmlk8, Molk8, eMlk8, hatlk8, hmtlk8, holk8⟩ := h_k
 subst eMlk8
 obtain ⟨balk8, rfl⟩ := hatlk8.form
 obtain ⟨sa_lk8, sc_lk8, rfl⟩ := holk8.form
 dsimp only at hmtlk8 holk8
 refine WC.perm (M' := ((bk, ce9 110 [iV c.fan, iV c.leaf, iV c.bud, iV c.slots, iV c.rest, .map (some balk8), .map (some bmlk8), lV sa_lk8 (rows).length sc_lk8]) :: ((b7, ce9 74 [sV (x.s).lo.b, sV (x.s).hi.b, .bool (x.s).opn]) :: ((b6, ce9 58 (ndl x.n pa_a pc_a ka_a kc_a ma_a mc_a ra_a rc_a)) :: (Mmlk8 ++ (Molk8 ++ [])))))) (((by simp : List.Perm _ _)).trans (pmD (pmD pr9)).symm) (g9 10 ?_)
 refine W.sd 17 (fun h16 p16 => ?_) (fun h16 p16 => ?_)
 ·try dsimp only at p16
  refine g9 40 ?_
  have hR9 : LkR 110 84 bk c (bySl l) G (mt, rows) ((bk, ce9 110 [iV c.fan, iV c.leaf, iV c.bud, iV c.slots, iV c.rest, .map (some balk8), .map (some bmlk8), lV sa_lk8 (rows).length sc_lk8]) :: (Mmlk8 ++ Molk8)) := ⟨_, _, _, _, _, rfl, hatlk8, hmtlk8, holk8⟩
  refine WC.perm (M' := ((b7, ce9 74 [sV (x.s).lo.b, sV (x.s).hi.b, .bool (x.s).opn]) :: ((b6, ce9 58 (ndl x.n pa_a pc_a ka_a kc_a ma_a mc_a ra_a rc_a)) :: (((bk, ce9 110 [iV c.fan, iV c.leaf, iV c.bud, iV c.slots, iV c.rest, .map (some balk8), .map (some bmlk8), lV sa_lk8 (rows).length sc_lk8]) :: (Mmlk8 ++ Molk8)) ++ [])))) ((pmC (pmC pr9)).symm.trans (((pmC (pmC ((pmF pr9).trans pr9))).cons _).trans pr9)) (g9 2 ?_)
  refine ⟨.inr rfl, [_], ⟨rfl, trivial⟩, ((bk, ce9 110 [iV c.fan, iV c.leaf, iV c.bud, iV c.slots, iV c.rest, .map (some balk8), .map (some bmlk8), lV sa_lk8 (rows).length sc_lk8]) :: (Mmlk8 ++ Molk8)), ((List.sublist_append_left _ _).cons _).cons _, ?_⟩
  exact ⟨false, _, rfl, fun e => (by cases e), fun _ h => by have := h.1.1; omega, hR9⟩
 try dsimp only at p16
 refine g9 20 ?_
 refine W.sd 28 (fun h26 p26 => ?_) (fun h26 p26 => ?_)
 ·try dsimp only at p26
  refine g9 29 ?_
  have hR10 : LkR 110 84 bk c (bySl l) G (mt, rows) ((bk, ce9 110 [iV c.fan, iV c.leaf, iV c.bud, iV c.slots, iV c.rest, .map (some balk8), .map (some bmlk8), lV sa_lk8 (rows).length sc_lk8]) :: (Mmlk8 ++ Molk8)) := ⟨_, _, _, _, _, rfl, hatlk8, hmtlk8, holk8⟩
  refine WC.perm (M' := ((b7, ce9 74 [sV (x.s).lo.b, sV (x.s).hi.b, .bool (x.s).opn]) :: ((b6, ce9 58 (ndl x.n pa_a pc_a ka_a kc_a ma_a mc_a ra_a rc_a)) :: (((bk, ce9 110 [iV c.fan, iV c.leaf, iV c.bud, iV c.slots, iV c.rest, .map (some balk8), .map (some bmlk8), lV sa_lk8 (rows).length sc_lk8]) :: (Mmlk8 ++ Molk8)) ++ [])))) ((pmC (pmC pr9)).symm.trans (((pmC (pmC ((pmF pr9).trans pr9))).cons _).trans pr9)) (g9 2 ?_)
  refine ⟨.inr rfl, [_], ⟨rfl, trivial⟩, ((bk, ce9 110 [iV c.fan, iV c.leaf, iV c.bud, iV c.slots, iV c.rest, .map (some balk8), .map (some bmlk8), lV sa_lk8 (rows).length sc_lk8]) :: (Mmlk8 ++ Molk8)), ((List.sublist_append_left _ _).cons _).cons _, ?_⟩
  exact ⟨false, _, rfl, fun e => (by cases e), fun _ h => by have := h.1.2.1; omega, hR10⟩
 try dsimp only at p26
 refine g9 6 ?_
 refine W.sp 31 rfl (fun h30 => ?_) (fun h30 => ?_)
 ·refine g9 17 ?_
  refine W.ok (ok_quo rfl rfl (by decide) (tdiv2 hcl)) (g9 6 ?_)
  refine W.sd 44 (fun h41 p41 => ?_) (fun h41 p41 => ?_)
  ·try dsimp only at p41
   refine g9 13 ?_
   have hR11 : LkR 110 84 bk c (bySl l) G (mt, rows) ((bk, ce9 110 [iV c.fan, iV c.leaf, iV c.bud, iV c.slots, iV c.rest, .map (some balk8), .map (some bmlk8), lV sa_lk8 (rows).length sc_lk8]) :: (Mmlk8 ++ Molk8)) := ⟨_, _, _, _, _, rfl, hatlk8, hmtlk8, holk8⟩
   refine WC.perm (M' := ((b7, ce9 74 [sV (x.s).lo.b, sV (x.s).hi.b, .bool (x.s).opn]) :: ((b6, ce9 58 (ndl x.n pa_a pc_a ka_a kc_a ma_a mc_a ra_a rc_a)) :: (((bk, ce9 110 [iV c.fan, iV c.leaf, iV c.bud, iV c.slots, iV c.rest, .map (some balk8), .map (some bmlk8), lV sa_lk8 (rows).length sc_lk8]) :: (Mmlk8 ++ Molk8)) ++ [])))) ((pmC (pmC pr9)).symm.trans (((pmC (pmC ((pmF pr9).trans pr9))).cons _).trans pr9)) (g9 2 ?_)
   refine ⟨.inr rfl, [_], ⟨rfl, trivial⟩, ((bk, ce9 110 [iV c.fan, iV c.leaf, iV c.bud, iV c.slots, iV c.rest, .map (some balk8), .map (some bmlk8), lV sa_lk8 (rows).length sc_lk8]) :: (Mmlk8 ++ Molk8)), ((List.sublist_append_left _ _).cons _).cons _, ?_⟩
   exact ⟨false, _, rfl, fun e => (by cases e), fun _ h => by have h9 := h.1.2.2; rw [if_neg (by simpa using h30)] at h9; omega, hR11⟩
  try dsimp only at p41
  refine g9 5 ?_
  refine W.qcall (mright9_fc hr_a) rfl (g9 5 ?_)
  refine WC.cond rfl (fun h48 => ?_) (fun h48 => ?_)
  ·refine g9 5 ?_
   have hR12 : LkR 110 84 bk c (bySl l) G (mt, rows) ((bk, ce9 110 [iV c.fan, iV c.leaf, iV c.bud, iV c.slots, iV c.rest, .map (some balk8), .map (some bmlk8), lV sa_lk8 (rows).length sc_lk8]) :: (Mmlk8 ++ Molk8)) := ⟨_, _, _, _, _, rfl, hatlk8, hmtlk8, holk8⟩
   refine WC.perm (M' := ((b7, ce9 74 [sV (x.s).lo.b, sV (x.s).hi.b, .bool (x.s).opn]) :: ((b6, ce9 58 (ndl x.n pa_a pc_a ka_a kc_a ma_a mc_a ra_a rc_a)) :: (((bk, ce9 110 [iV c.fan, iV c.leaf, iV c.bud, iV c.slots, iV c.rest, .map (some balk8), .map (some bmlk8), lV sa_lk8 (rows).length sc_lk8]) :: (Mmlk8 ++ Molk8)) ++ [])))) ((pmC (pmC pr9)).symm.trans (((pmC (pmC ((pmF pr9).trans pr9))).cons _).trans pr9)) (g9 2 ?_)
   refine ⟨.inr rfl, [_], ⟨rfl, trivial⟩, ((bk, ce9 110 [iV c.fan, iV c.leaf, iV c.bud, iV c.slots, iV c.rest, .map (some balk8), .map (some bmlk8), lV sa_lk8 (rows).length sc_lk8]) :: (Mmlk8 ++ Molk8)), ((List.sublist_append_left _ _).cons _).cons _, ?_⟩
   exact ⟨false, _, rfl, fun e => (by cases e), fun _ h => by have h1 := h.2.1; simp [h1] at h48, hR12⟩
  refine g9 3 ?_
  refine WC.dw ((sn9.k9.k9).cons _) (d9 [0, 1, 2, 3, 5, 6] ?_)
  refine WD.a1 4 rfl (g9 1 ?_)
  refine W.nn (WD.a1 7 rfl (W.app (e := ePair) sl31 ty84 zr84 rfl by84 rfl rfl (holk8) (hr_a) (pmC (pmC (pmC (pmA pr9)))) (by show (List.length _ + List.length _) * 32 ≤ _; omega) (fun v13 Ms14 ho15 => (W.perm (pmC (pmC (pmC pr9))).symm ?_))))
  have q19 := ho15.form
  refine match q19 with | ⟨sa16, sc17, e_18⟩ => ?_
  subst e_18
  refine W.nn (d9 [8, 9, 10] ?_)
  refine g9 6 ?_
  refine W.giveB (b := b7) (L := [sV _, sV _, .bool _]) ((List.Perm.swap _ _ _).trans (pr9.cons _)) (fun G20 hG20 hc20 => (W.ok (ok_makeFn (fst := []) (caps := [.tmp 6]) (vs := []) (ws := [pt9 b7]) rfl rfl) (W.qcall (cflk_fc (hr_a.mono hG20) _ _ _ hc20) rfl (g9 4 ?_))))
  have hR21 : LkR 110 84 bk c (bySl l) G20 (mt, (rows ++ x.n.rows)) ((bk, ce9 110 [iV c.fan, iV c.leaf, iV c.bud, iV c.slots, iV c.rest, .map (some balk8), .map (some bmlk8), lV sa16 ((rows ++ x.n.rows)).length sc17]) :: (Mmlk8 ++ Ms14)) := ⟨_, _, _, _, _, rfl, (hatlk8.mono hG20), (MpR.mono hG20 hmtlk8), (ho15.mono hG20)⟩
  refine WC.perm (M' := ((b6, ce9 58 (ndl x.n pa_a pc_a ka_a kc_a ma_a mc_a ra_a rc_a)) :: (((bk, ce9 110 [iV c.fan, iV c.leaf, iV c.bud, iV c.slots, iV c.rest, .map (some balk8), .map (some bmlk8), lV sa16 ((rows ++ x.n.rows)).length sc17]) :: (Mmlk8 ++ Ms14)) ++ []))) ((pmC pr9).symm.trans (((pmC ((pmF pr9).trans (pmA pr9))).cons _).trans pr9)) (WC.ret ?_)
  refine ⟨.inr rfl, [_], ⟨rfl, trivial⟩, ((bk, ce9 110 [iV c.fan, iV c.leaf, iV c.bud, iV c.slots, iV c.rest, .map (some balk8), .map (some bmlk8), lV sa16 ((rows ++ x.n.rows)).length sc17]) :: (Mmlk8 ++ Ms14)), (List.sublist_append_left _ _).cons _, ?_⟩
  exact ⟨_, _, rfl, fun h => ⟨⟨⟨om9, om9, by rw [if_neg (by simpa using h30)]; omega⟩, by simpa using h48, fun i h9 => by simpa using (idx_all _ _).1 h _ (List.getElem_mem h9)⟩, rfl⟩, fun h h2 => by rw [Bool.eq_false_iff] at h; exact h ((idx_all _ _).2 fun p hp => by obtain ⟨i, hi, rfl⟩ := List.getElem_of_mem hp; simpa using h2.2.2 i hi), hR21⟩
 refine g9 19 ?_
 refine W.qcall (mright9_fc hr_a) rfl (g9 5 ?_)
 refine WC.cond rfl (fun h48 => ?_) (fun h48 => ?_)
 ·refine g9 5 ?_
  have hR22 : LkR 110 84 bk c (bySl l) G (mt, rows) ((bk, ce9 110 [iV c.fan, iV c.leaf, iV c.bud, iV c.slots, iV c.rest, .map (some balk8), .map (some bmlk8), lV sa_lk8 (rows).length sc_lk8]) :: (Mmlk8 ++ Molk8)) := ⟨_, _, _, _, _, rfl, hatlk8, hmtlk8, holk8⟩
  refine WC.perm (M' := ((b7, ce9 74 [sV (x.s).lo.b, sV (x.s).hi.b, .bool (x.s).opn]) :: ((b6, ce9 58 (ndl x.n pa_a pc_a ka_a kc_a ma_a mc_a ra_a rc_a)) :: (((bk, ce9 110 [iV c.fan, iV c.leaf, iV c.bud, iV c.slots, iV c.rest, .map (some balk8), .map (some bmlk8), lV sa_lk8 (rows).length sc_lk8]) :: (Mmlk8 ++ Molk8)) ++ [])))) ((pmC (pmC pr9)).symm.trans (((pmC (pmC ((pmF pr9).trans pr9))).cons _).trans pr9)) (g9 2 ?_)
  refine ⟨.inr rfl, [_], ⟨rfl, trivial⟩, ((bk, ce9 110 [iV c.fan, iV c.leaf, iV c.bud, iV c.slots, iV c.rest, .map (some balk8), .map (some bmlk8), lV sa_lk8 (rows).length sc_lk8]) :: (Mmlk8 ++ Molk8)), ((List.sublist_append_left _ _).cons _).cons _, ?_⟩
  exact ⟨false, _, rfl, fun e => (by cases e), fun _ h => by have h1 := h.2.1; simp [h1] at h48, hR22⟩
 refine g9 3 ?_
 refine WC.dw ((sn9.k9.k9).cons _) (d9 [0, 1, 2, 3, 5, 6] ?_)
 refine WD.a1 4 rfl (g9 1 ?_)
 refine W.nn (WD.a1 7 rfl (W.app (e := ePair) sl31 ty84 zr84 rfl by84 rfl rfl (holk8) (hr_a) (pmC (pmC (pmC (pmA pr9)))) (by show (List.length _ + List.length _) * 32 ≤ _; omega) (fun v23 Ms24 ho25 => (W.perm (pmC (pmC (pmC pr9))).symm ?_))))
 have q29 := ho25.form
 refine match q29 with | ⟨sa26, sc27, e_28⟩ => ?_
 subst e_28
 refine W.nn (d9 [8, 9, 10] ?_)
 refine g9 6 ?_
 refine W.giveB (b := b7) (L := [sV _, sV _, .bool _]) ((List.Perm.swap _ _ _).trans (pr9.cons _)) (fun G30 hG30 hc30 => (W.ok (ok_makeFn (fst := []) (caps := [.tmp 6]) (vs := []) (ws := [pt9 b7]) rfl rfl) (W.qcall (cflk_fc (hr_a.mono hG30) _ _ _ hc30) rfl (g9 4 ?_))))
 have hR31 : LkR 110 84 bk c (bySl l) G30 (mt, (rows ++ x.n.rows)) ((bk, ce9 110 [iV c.fan, iV c.leaf, iV c.bud, iV c.slots, iV c.rest, .map (some balk8), .map (some bmlk8), lV sa26 ((rows ++ x.n.rows)).length sc27]) :: (Mmlk8 ++ Ms24)) := ⟨_, _, _, _, _, rfl, (hatlk8.mono hG30), (MpR.mono hG30 hmtlk8), (ho25.mono hG30)⟩
 refine WC.perm (M' := ((b6, ce9 58 (ndl x.n pa_a pc_a ka_a kc_a ma_a mc_a ra_a rc_a)) :: (((bk, ce9 110 [iV c.fan, iV c.leaf, iV c.bud, iV c.slots, iV c.rest, .map (some balk8), .map (some bmlk8), lV sa26 ((rows ++ x.n.rows)).length sc27]) :: (Mmlk8 ++ Ms24)) ++ []))) ((pmC pr9).symm.trans (((pmC ((pmF pr9).trans (pmA pr9))).cons _).trans pr9)) (WC.ret ?_)
 refine ⟨.inr rfl, [_], ⟨rfl, trivial⟩, ((bk, ce9 110 [iV c.fan, iV c.leaf, iV c.bud, iV c.slots, iV c.rest, .map (some balk8), .map (some bmlk8), lV sa26 ((rows ++ x.n.rows)).length sc27]) :: (Mmlk8 ++ Ms24)), (List.sublist_append_left _ _).cons _, ?_⟩
 exact ⟨_, _, rfl, fun h => ⟨⟨⟨om9, om9, by rw [if_pos (by simpa using h30)]; omega⟩, by simpa using h48, fun i h9 => by simpa using (idx_all _ _).1 h _ (List.getElem_mem h9)⟩, rfl⟩, fun h h2 => by rw [Bool.eq_false_iff] at h; exact h ((idx_all _ _).2 fun p hp => by obtain ⟨i, hi, rfl⟩ := List.getElem_of_mem hp; simpa using h2.2.2 i hi), hR31⟩

def DfsW (c : Cfg) (l : List Nd) (n : Nat) : Prop := ∀ {G : GH} {bk : Nat} {mt : List (Int × Bool)} {rows : List Pair} {Ms_k : MH} (h_k : LkR 110 84 bk c (bySl l) G (mt, rows) Ms_k) (slot lv : Int) (top : Bool) (x : Seat) (hx : x.n = (findN l slot).1) (hlvi : i64 lv) (hmet : Met l mt) (hrw : rows.length ≤ 4000 * mt.length) (hlv : lv.toNat = n), Fc Tryz.prog 87 [pt9 bk, iV slot, iV lv, .agg #[sV x.s.lo.b, sV x.s.hi.b, .bool x.s.opn], .bool top] G Ms_k (fun v G' M' => ∃ b mt' rows', v = .bool b ∧ DfsQ c l lv top x slot mt rows b mt' rows' ∧ LkR 110 84 bk c (bySl l) G' (mt', rows') M')
theorem lkwalk_step {G : GH} {c : Cfg} {l : List Nd} {bk : Nat} {mt : List (Int × Bool)} {rows : List Pair} {Ms_k : MH} (h_k : LkR 110 84 bk c (bySl l) G (mt, rows) Ms_k) (slot lv : Int) (top : Bool) (x : Seat) (hx : x.n = (findN l slot).1) (hlvi : i64 lv) (hmet : Met l mt) (hrw : rows.length ≤ 4000 * mt.length) {n : Nat} (hlv : lv.toNat = n) (ih : ∀ q, q + 1 = n → DfsW c l q) (hS : Sml l) (hnd : SlotsNd l) (hcf : i64 c.fan) (hcl : i64 c.leaf)     :
    Fc Tryz.prog 87 [pt9 bk, iV slot, iV lv, .agg #[sV x.s.lo.b, sV x.s.hi.b, .bool x.s.opn], .bool top] G Ms_k (fun v G' M' => ∃ b mt' rows', v = .bool b ∧ DfsQ c l lv top x slot mt rows b mt' rows' ∧ LkR 110 84 bk c (bySl l) G' (mt', rows') M') := by
 have hxs := hS.at (show x.n = Nd.zero ∨ x.n ∈ l by rw [hx]; exact hS.find slot)
 have hxk : x.n.kids.length ≤ 4000 := hxs.1
 have hxr : x.n.rows.length ≤ 4000 := hxs.2.2.2.1
 have hxpv : x.n.pivots.length ≤ 4000 := hxs.2.1
 have hlvj : lv ≤ 9223372036854775807 := hlvi.2
 refine Fc.go [.tmp 10] Tryz.func87 Tryz.ntmps87 rfl (fun w0 => (WC.perm (M' := (Ms_k ++ [])) (by simp) (g9 2 ?_)))
 refine W.box (L := [sV _, sV _, .bool _]) rfl rfl (fun b32 => (g9 4 ?_))
 obtain ⟨vatlk33, bmlk33, volk33, Mmlk33, Molk33, eMlk33, hatlk33, hmtlk33, holk33⟩ := h_k
 subst eMlk33
 obtain ⟨balk33, rfl⟩ := hatlk33.form
 obtain ⟨sa_lk33, sc_lk33, rfl⟩ := holk33.form
 dsimp only at hmtlk33 holk33
 refine WC.perm (M' := ((bk, ce9 110 [iV c.fan, iV c.leaf, iV c.bud, iV c.slots, iV c.rest, .map (some balk33), .map (some bmlk33), lV sa_lk33 (rows).length sc_lk33]) :: ((b32, ce9 74 [sV (x.s).lo.b, sV (x.s).hi.b, .bool (x.s).opn]) :: (Mmlk33 ++ (Molk33 ++ []))))) (((by simp : List.Perm _ _)).trans (pmD pr9).symm) (g9 6 ?_)
 refine W.lookG (V := vNode) mk107 mz58 ⟨_, rfl, ⟨_, _, _, _, _, _, _, _, rfl, SlR.nil, SlR.nil, SlR.nil, SlR.nil, Nd.zero_ok⟩⟩ hatlk33 rfl rfl (fun v34 hv35 => ?_)
 have hbf := by_find hnd slot
 rw [hbf.2, ← hx] at hv35
 refine match hv35 with | ⟨_, e_37, ⟨pa_mn36, pc_mn36, ka_mn36, kc_mn36, ma_mn36, mc_mn36, ra_mn36, rc_mn36, e_38, hp_mn36, hk_mn36, hm_mn36, hr_mn36, hok_mn36⟩⟩ => ?_
 subst e_37
 subst e_38
 refine g9 3 ?_
 refine W.alloc zr58 (fun b39 => (g9 10 ?_))
 refine W.sp 29 rfl (fun h28 => ?_) (fun h28 => ?_)
 ·refine g9 21 ?_
  have hR40 : LkR 110 84 bk c (bySl l) G (mt, rows) ((bk, ce9 110 [iV c.fan, iV c.leaf, iV c.bud, iV c.slots, iV c.rest, .map (some balk33), .map (some bmlk33), lV sa_lk33 (rows).length sc_lk33]) :: (Mmlk33 ++ Molk33)) := ⟨_, _, _, _, _, rfl, hatlk33, hmtlk33, holk33⟩
  refine WC.perm (M' := ((b39, ce9 58 (ndl x.n pa_mn36 pc_mn36 ka_mn36 kc_mn36 ma_mn36 mc_mn36 ra_mn36 rc_mn36)) :: ((b32, ce9 74 [sV (x.s).lo.b, sV (x.s).hi.b, .bool (x.s).opn]) :: (((bk, ce9 110 [iV c.fan, iV c.leaf, iV c.bud, iV c.slots, iV c.rest, .map (some balk33), .map (some bmlk33), lV sa_lk33 (rows).length sc_lk33]) :: (Mmlk33 ++ Molk33)) ++ [])))) ((pmC (pmC pr9)).symm.trans (((pmC (pmC ((pmF pr9).trans pr9))).cons _).trans ((List.Perm.swap _ _ _).trans (pr9.cons _)))) (g9 2 ?_)
  refine ⟨.inr rfl, [_], ⟨rfl, trivial⟩, ((bk, ce9 110 [iV c.fan, iV c.leaf, iV c.bud, iV c.slots, iV c.rest, .map (some balk33), .map (some bmlk33), lV sa_lk33 (rows).length sc_lk33]) :: (Mmlk33 ++ Molk33)), ((List.sublist_append_left _ _).cons _).cons _, ?_⟩
  exact ⟨false, _, _, rfl, dfs_no fun h => by have h1 := (down_lvl hx h).1; rw [hbf.1, h1] at h28; simp at h28, hR40⟩
 have hfnd : (findN l slot).2 = true := by rw [← hbf.1]; simpa using h28
 have hxsl : x.n.slot = slot := by rw [hx]; exact (find_slot hfnd).1
 have hxin : slot ∈ l.map fun n : Nd => n.slot := by rw [← hxsl, hx]; exact List.mem_map.2 ⟨_, (find_slot hfnd).2, rfl⟩
 refine g9 11 ?_
 refine W.lookO (V := vBool) mk108 mz4 rfl rfl rfl hmtlk33 (pmC (pmC (pmC pr9))) (fun v41 hv42 => ?_)
 have ehv42 := hv42
 subst ehv42
 refine g9 2 ?_
 refine W.sp 37 rfl (fun h35 => ?_) (fun h35 => ?_)
 ·refine g9 13 ?_
  have hR43 : LkR 110 84 bk c (bySl l) G (mt, rows) ((bk, ce9 110 [iV c.fan, iV c.leaf, iV c.bud, iV c.slots, iV c.rest, .map (some balk33), .map (some bmlk33), lV sa_lk33 (rows).length sc_lk33]) :: (Mmlk33 ++ Molk33)) := ⟨_, _, _, _, _, rfl, hatlk33, hmtlk33, holk33⟩
  refine WC.perm (M' := ((b39, ce9 58 (ndl x.n pa_mn36 pc_mn36 ka_mn36 kc_mn36 ma_mn36 mc_mn36 ra_mn36 rc_mn36)) :: ((b32, ce9 74 [sV (x.s).lo.b, sV (x.s).hi.b, .bool (x.s).opn]) :: (((bk, ce9 110 [iV c.fan, iV c.leaf, iV c.bud, iV c.slots, iV c.rest, .map (some balk33), .map (some bmlk33), lV sa_lk33 (rows).length sc_lk33]) :: (Mmlk33 ++ Molk33)) ++ [])))) ((pmC (pmC pr9)).symm.trans (((pmC (pmC ((pmF pr9).trans pr9))).cons _).trans ((List.Perm.swap _ _ _).trans (pr9.cons _)))) (g9 2 ?_)
  refine ⟨.inr rfl, [_], ⟨rfl, trivial⟩, ((bk, ce9 110 [iV c.fan, iV c.leaf, iV c.bud, iV c.slots, iV c.rest, .map (some balk33), .map (some bmlk33), lV sa_lk33 (rows).length sc_lk33]) :: (Mmlk33 ++ Molk33)), ((List.sublist_append_left _ _).cons _).cons _, ?_⟩
  exact ⟨false, _, _, rfl, dfs_no fun h => by have h1 := (down_lvl hx h).2.1; rw [h1] at h35; simp at h35, hR43⟩
 have hno : getM mt slot = none := hmet.none h35
 refine g9 11 ?_
 refine WC.cn (fun h41 p41 => ?_) (fun h41 p41 => ?_)
 ·try dsimp only at p41
  refine g9 5 ?_
  have hR44 : LkR 110 84 bk c (bySl l) G (mt, rows) ((bk, ce9 110 [iV c.fan, iV c.leaf, iV c.bud, iV c.slots, iV c.rest, .map (some balk33), .map (some bmlk33), lV sa_lk33 (rows).length sc_lk33]) :: (Mmlk33 ++ Molk33)) := ⟨_, _, _, _, _, rfl, hatlk33, hmtlk33, holk33⟩
  refine WC.perm (M' := ((b39, ce9 58 (ndl x.n pa_mn36 pc_mn36 ka_mn36 kc_mn36 ma_mn36 mc_mn36 ra_mn36 rc_mn36)) :: ((b32, ce9 74 [sV (x.s).lo.b, sV (x.s).hi.b, .bool (x.s).opn]) :: (((bk, ce9 110 [iV c.fan, iV c.leaf, iV c.bud, iV c.slots, iV c.rest, .map (some balk33), .map (some bmlk33), lV sa_lk33 (rows).length sc_lk33]) :: (Mmlk33 ++ Molk33)) ++ [])))) ((pmC (pmC pr9)).symm.trans (((pmC (pmC ((pmF pr9).trans pr9))).cons _).trans ((List.Perm.swap _ _ _).trans (pr9.cons _)))) (g9 2 ?_)
  refine ⟨.inr rfl, [_], ⟨rfl, trivial⟩, ((bk, ce9 110 [iV c.fan, iV c.leaf, iV c.bud, iV c.slots, iV c.rest, .map (some balk33), .map (some bmlk33), lV sa_lk33 (rows).length sc_lk33]) :: (Mmlk33 ++ Molk33)), ((List.sublist_append_left _ _).cons _).cons _, ?_⟩
  exact ⟨false, _, _, rfl, dfs_no fun h => p41 (down_lvl hx h).2.2, hR44⟩
 try dsimp only at p41
 have hxl : x.n.level = lv := p41
 refine g9 9 ?_
 refine W.mapUp (V := vBool) (k := slot) mk108 rfl rfl rfl hmtlk33 (pmC (pmC (pmC pr9))) rfl (fun Ms45 hm46 => (W.perm (pmC (pmC (pmC pr9))).symm (g9 9 ?_)))
 refine WC.cd (fun h49 p49 => ?_) (fun h49 p49 => ?_)
 ·try dsimp only at p49
  refine WC.seq ?_
  have hR47 : LkR 110 84 bk c (bySl l) G ((putM mt (slot) true), rows) ((bk, ce9 110 [iV c.fan, iV c.leaf, iV c.bud, iV c.slots, iV c.rest, .map (some balk33), .map (some bmlk33), lV sa_lk33 (rows).length sc_lk33]) :: (Ms45 ++ Molk33)) := ⟨_, _, _, _, _, rfl, hatlk33, hm46, holk33⟩
  refine WC.perm (M' := ((b39, ce9 58 (ndl x.n pa_mn36 pc_mn36 ka_mn36 kc_mn36 ma_mn36 mc_mn36 ra_mn36 rc_mn36)) :: ((b32, ce9 74 [sV (x.s).lo.b, sV (x.s).hi.b, .bool (x.s).opn]) :: (((bk, ce9 110 [iV c.fan, iV c.leaf, iV c.bud, iV c.slots, iV c.rest, .map (some balk33), .map (some bmlk33), lV sa_lk33 (rows).length sc_lk33]) :: (Ms45 ++ Molk33)) ++ [])))) ((pmC (pmC pr9)).symm.trans (((pmC (pmC ((pmF pr9).trans pr9))).cons _).trans ((List.Perm.swap _ _ _).trans (pr9.cons _)))) (g9 5 ?_)
  have hml := hmet.len
  have hll := hS.1
  refine W.call (Mp := ((bk, ce9 110 [iV c.fan, iV c.leaf, iV c.bud, iV c.slots, iV c.rest, .map (some balk33), .map (some bmlk33), lV sa_lk33 (rows).length sc_lk33]) :: (Ms45 ++ Molk33))) (lkleaf_fc hR47 (x := x) (nk9 hp_mn36 hk_mn36 hm_mn36 hr_mn36 hok_mn36) top hcl om9 hxr) rfl (pmC (pmC pr9)) ?_
  intro v51 G48 Ms50 hG48 q49
  refine match q49 with | ⟨bl9, rl9, e_53, hlt9, hlf9, hR52⟩ => ?_
  subst e_53
  refine W.perm (pmC (pmC pr9)).symm (g9 5 ?_)
  refine ⟨.inr rfl, [_], ⟨rfl, trivial⟩, Ms50, ((List.sublist_append_left _ _).cons _).cons _, ?_⟩
  refine ⟨bl9, _, _, rfl, ⟨fun h => ?_, fun h h2 => ?_⟩, hR52⟩
  · obtain ⟨g1, g2⟩ := hlt9 h
    have hld := leaf_done (c := c) (l := l) (top := top) (x := x) (mt := mt) (by rw [hxsl]; exact hno) (p41.trans p49) ((seat17_l (p41.trans p49)).2 g1)
    rw [hxsl] at hld
    subst p49
    refine ⟨⟨Int.le_refl _, hfnd, hld.1⟩, hld.2, by rw [g2]; exact congrArg _ (rowsF_0 x).symm, hmet.put hno hxin, ?_⟩
    rw [g2, List.length_append, put_len _ _ _ hno]; omega
  refine hlf9 h ((seat17_l (p41.trans p49)).1 ?_)
  have h3 := h2.2.2
  subst p49
  exact (wf_top h3.1).1
 try dsimp only at p49
 have hl0 : ¬ x.n.level = 0 := by omega
 refine g9 9 ?_
 refine W.ok (ok_quo rfl rfl (by decide) (tdiv2 hcf)) (g9 3 ?_)
 refine WC.join (X := Unit) (fun u10 => [(13, iV (if top = true then 2 else c.fan.tdiv 2)), (0, pt9 bk), (8, pt9 b32), (11, pt9 b39), (2, iV lv)]) (fun u10 _ Ml => Ml = ((b39, ce9 58 (ndl x.n pa_mn36 pc_mn36 ka_mn36 kc_mn36 ma_mn36 mc_mn36 ra_mn36 rc_mn36)) :: ((bk, ce9 110 [iV c.fan, iV c.leaf, iV c.bud, iV c.slots, iV c.rest, .map (some balk33), .map (some bmlk33), lV sa_lk33 (rows).length sc_lk33]) :: ((b32, ce9 74 [sV (x.s).lo.b, sV (x.s).hi.b, .bool (x.s).opn]) :: (Ms45 ++ (Molk33 ++ []))))) ∧ True) ?_ ?_
 ·refine g9 5 ?_
  refine WC.cond rfl (fun ha_top => ?_) (fun ha_top => ?_)
  ·refine g9 4 ?_
   exact ⟨Le.rfl, (), ⟨(by rw [ha_top]; rfl), eqv, eqv, eqv, eqv, trivial⟩, ⟨rfl, trivial⟩⟩
  refine g9 2 ?_
  exact ⟨Le.rfl, (), ⟨(by rw [ha_top]; rfl), eqv, eqv, eqv, eqv, trivial⟩, ⟨rfl, trivial⟩⟩
 rintro u10 gG54 G54 _ hG54 ⟨rfl, _⟩
 refine g9 6 ?_
 refine W.sd 64 (fun h63 p63 => ?_) (fun h63 p63 => ?_)
 ·try dsimp only at p63
  refine g9 39 ?_
  have hR55 : LkR 110 84 bk c (bySl l) G54 ((putM mt (slot) true), rows) ((bk, ce9 110 [iV c.fan, iV c.leaf, iV c.bud, iV c.slots, iV c.rest, .map (some balk33), .map (some bmlk33), lV sa_lk33 (rows).length sc_lk33]) :: (Ms45 ++ Molk33)) := ⟨_, _, _, _, _, rfl, (hatlk33.mono hG54), (MpR.mono hG54 hm46), (holk33.mono hG54)⟩
  refine WC.perm (M' := ((b39, ce9 58 (ndl x.n pa_mn36 pc_mn36 ka_mn36 kc_mn36 ma_mn36 mc_mn36 ra_mn36 rc_mn36)) :: ((b32, ce9 74 [sV (x.s).lo.b, sV (x.s).hi.b, .bool (x.s).opn]) :: (((bk, ce9 110 [iV c.fan, iV c.leaf, iV c.bud, iV c.slots, iV c.rest, .map (some balk33), .map (some bmlk33), lV sa_lk33 (rows).length sc_lk33]) :: (Ms45 ++ Molk33)) ++ [])))) ((pmC (pmC pr9)).symm.trans (((pmC (pmC ((pmF pr9).trans pr9))).cons _).trans ((List.Perm.swap _ _ _).trans (pr9.cons _)))) (g9 2 ?_)
  refine ⟨.inr rfl, [_], ⟨rfl, trivial⟩, ((bk, ce9 110 [iV c.fan, iV c.leaf, iV c.bud, iV c.slots, iV c.rest, .map (some balk33), .map (some bmlk33), lV sa_lk33 (rows).length sc_lk33]) :: (Ms45 ++ Molk33)), ((List.sublist_append_left _ _).cons _).cons _, ?_⟩
  exact ⟨false, _, _, rfl, dfs_no fun h => by have := h.1; omega, hR55⟩
 try dsimp only at p63
 obtain ⟨q, rfl⟩ : ∃ q, n = q + 1 := ⟨n - 1, om9⟩
 have hlq : lv.toNat = q + 1 := hlv
 have hok9 : 0 ≤ lv ∧ (findN l slot).2 = true ∧ Down c l lv.toNat top x mt → (kidsO l x).isSome = true := fun h => by have h8 := h.2.2.1; rw [hlq] at h8; exact h8.2.1
 refine g9 10 ?_
 refine W.sd 70 (fun h68 p68 => ?_) (fun h68 p68 => ?_)
 ·try dsimp only at p68
  refine g9 33 ?_
  have hR56 : LkR 110 84 bk c (bySl l) G54 ((putM mt (slot) true), rows) ((bk, ce9 110 [iV c.fan, iV c.leaf, iV c.bud, iV c.slots, iV c.rest, .map (some balk33), .map (some bmlk33), lV sa_lk33 (rows).length sc_lk33]) :: (Ms45 ++ Molk33)) := ⟨_, _, _, _, _, rfl, (hatlk33.mono hG54), (MpR.mono hG54 hm46), (holk33.mono hG54)⟩
  refine WC.perm (M' := ((b39, ce9 58 (ndl x.n pa_mn36 pc_mn36 ka_mn36 kc_mn36 ma_mn36 mc_mn36 ra_mn36 rc_mn36)) :: ((b32, ce9 74 [sV (x.s).lo.b, sV (x.s).hi.b, .bool (x.s).opn]) :: (((bk, ce9 110 [iV c.fan, iV c.leaf, iV c.bud, iV c.slots, iV c.rest, .map (some balk33), .map (some bmlk33), lV sa_lk33 (rows).length sc_lk33]) :: (Ms45 ++ Molk33)) ++ [])))) ((pmC (pmC pr9)).symm.trans (((pmC (pmC ((pmF pr9).trans pr9))).cons _).trans ((List.Perm.swap _ _ _).trans (pr9.cons _)))) (g9 2 ?_)
  refine ⟨.inr rfl, [_], ⟨rfl, trivial⟩, ((bk, ce9 110 [iV c.fan, iV c.leaf, iV c.bud, iV c.slots, iV c.rest, .map (some balk33), .map (some bmlk33), lV sa_lk33 (rows).length sc_lk33]) :: (Ms45 ++ Molk33)), ((List.sublist_append_left _ _).cons _).cons _, ?_⟩
  exact ⟨false, _, _, rfl, dfs_no fun h => by have h1 := ((seat17_i (top := top) hl0).1 (wf_top h.2.2.1).1).1.1; omega, hR56⟩
 try dsimp only at p68
 refine g9 9 ?_
 refine W.qcall (bright_fc (hp_mn36.mono hG54) (hk_mn36.mono hG54)) rfl (g9 4 ?_)
 refine W.sp 78 rfl (fun h76 => ?_) (fun h76 => ?_)
 ·refine g9 25 ?_
  have hR57 : LkR 110 84 bk c (bySl l) G54 ((putM mt (slot) true), rows) ((bk, ce9 110 [iV c.fan, iV c.leaf, iV c.bud, iV c.slots, iV c.rest, .map (some balk33), .map (some bmlk33), lV sa_lk33 (rows).length sc_lk33]) :: (Ms45 ++ Molk33)) := ⟨_, _, _, _, _, rfl, (hatlk33.mono hG54), (MpR.mono hG54 hm46), (holk33.mono hG54)⟩
  refine WC.perm (M' := ((b39, ce9 58 (ndl x.n pa_mn36 pc_mn36 ka_mn36 kc_mn36 ma_mn36 mc_mn36 ra_mn36 rc_mn36)) :: ((b32, ce9 74 [sV (x.s).lo.b, sV (x.s).hi.b, .bool (x.s).opn]) :: (((bk, ce9 110 [iV c.fan, iV c.leaf, iV c.bud, iV c.slots, iV c.rest, .map (some balk33), .map (some bmlk33), lV sa_lk33 (rows).length sc_lk33]) :: (Ms45 ++ Molk33)) ++ [])))) ((pmC (pmC pr9)).symm.trans (((pmC (pmC ((pmF pr9).trans pr9))).cons _).trans ((List.Perm.swap _ _ _).trans (pr9.cons _)))) (g9 2 ?_)
  refine ⟨.inr rfl, [_], ⟨rfl, trivial⟩, ((bk, ce9 110 [iV c.fan, iV c.leaf, iV c.bud, iV c.slots, iV c.rest, .map (some balk33), .map (some bmlk33), lV sa_lk33 (rows).length sc_lk33]) :: (Ms45 ++ Molk33)), ((List.sublist_append_left _ _).cons _).cons _, ?_⟩
  exact ⟨false, _, _, rfl, dfs_no fun h => by have h1 := hok9 h; have h2 := (kids_all h1 hl0).2.2.1; simp [h2] at h76, hR57⟩
 refine g9 20 ?_
 refine W.sd 89 (fun h87 p87 => ?_) (fun h87 p87 => ?_)
 ·try dsimp only at p87
  refine g9 14 ?_
  have hR58 : LkR 110 84 bk c (bySl l) G54 ((putM mt (slot) true), rows) ((bk, ce9 110 [iV c.fan, iV c.leaf, iV c.bud, iV c.slots, iV c.rest, .map (some balk33), .map (some bmlk33), lV sa_lk33 (rows).length sc_lk33]) :: (Ms45 ++ Molk33)) := ⟨_, _, _, _, _, rfl, (hatlk33.mono hG54), (MpR.mono hG54 hm46), (holk33.mono hG54)⟩
  refine WC.perm (M' := ((b39, ce9 58 (ndl x.n pa_mn36 pc_mn36 ka_mn36 kc_mn36 ma_mn36 mc_mn36 ra_mn36 rc_mn36)) :: ((b32, ce9 74 [sV (x.s).lo.b, sV (x.s).hi.b, .bool (x.s).opn]) :: (((bk, ce9 110 [iV c.fan, iV c.leaf, iV c.bud, iV c.slots, iV c.rest, .map (some balk33), .map (some bmlk33), lV sa_lk33 (rows).length sc_lk33]) :: (Ms45 ++ Molk33)) ++ [])))) ((pmC (pmC pr9)).symm.trans (((pmC (pmC ((pmF pr9).trans pr9))).cons _).trans ((List.Perm.swap _ _ _).trans (pr9.cons _)))) (g9 2 ?_)
  refine ⟨.inr rfl, [_], ⟨rfl, trivial⟩, ((bk, ce9 110 [iV c.fan, iV c.leaf, iV c.bud, iV c.slots, iV c.rest, .map (some balk33), .map (some bmlk33), lV sa_lk33 (rows).length sc_lk33]) :: (Ms45 ++ Molk33)), ((List.sublist_append_left _ _).cons _).cons _, ?_⟩
  exact ⟨false, _, _, rfl, dfs_no fun h => by have h1 := ((seat17_i (top := top) hl0).1 (wf_top h.2.2.1).1).1.2.1; omega, hR58⟩
 try dsimp only at p87
 refine g9 13 ?_
 refine WC.cd (fun h94 p94 => ?_) (fun h94 p94 => ?_)
 ·try dsimp only at p94
  refine g9 5 ?_
  have hR59 : LkR 110 84 bk c (bySl l) G54 ((putM mt (slot) true), rows) ((bk, ce9 110 [iV c.fan, iV c.leaf, iV c.bud, iV c.slots, iV c.rest, .map (some balk33), .map (some bmlk33), lV sa_lk33 (rows).length sc_lk33]) :: (Ms45 ++ Molk33)) := ⟨_, _, _, _, _, rfl, (hatlk33.mono hG54), (MpR.mono hG54 hm46), (holk33.mono hG54)⟩
  refine WC.perm (M' := ((b39, ce9 58 (ndl x.n pa_mn36 pc_mn36 ka_mn36 kc_mn36 ma_mn36 mc_mn36 ra_mn36 rc_mn36)) :: ((b32, ce9 74 [sV (x.s).lo.b, sV (x.s).hi.b, .bool (x.s).opn]) :: (((bk, ce9 110 [iV c.fan, iV c.leaf, iV c.bud, iV c.slots, iV c.rest, .map (some balk33), .map (some bmlk33), lV sa_lk33 (rows).length sc_lk33]) :: (Ms45 ++ Molk33)) ++ [])))) ((pmC (pmC pr9)).symm.trans (((pmC (pmC ((pmF pr9).trans pr9))).cons _).trans ((List.Perm.swap _ _ _).trans (pr9.cons _)))) (g9 2 ?_)
  refine ⟨.inr rfl, [_], ⟨rfl, trivial⟩, ((bk, ce9 110 [iV c.fan, iV c.leaf, iV c.bud, iV c.slots, iV c.rest, .map (some balk33), .map (some bmlk33), lV sa_lk33 (rows).length sc_lk33]) :: (Ms45 ++ Molk33)), ((List.sublist_append_left _ _).cons _).cons _, ?_⟩
  exact ⟨false, _, _, rfl, dfs_no fun h => by have h1 := ((seat17_i (top := top) hl0).1 (wf_top h.2.2.1).1).1.2.2; omega, hR59⟩
 try dsimp only at p94
 have hmet1 := hmet.put hno hxin
 have hpl9 := put_len mt slot true hno
 refine g9 4 ?_
 have hR60 : LkR 110 84 bk c (bySl l) G54 ((putM mt (slot) true), rows) ((bk, ce9 110 [iV c.fan, iV c.leaf, iV c.bud, iV c.slots, iV c.rest, .map (some balk33), .map (some bmlk33), lV sa_lk33 (rows).length sc_lk33]) :: (Ms45 ++ Molk33)) := ⟨_, _, _, _, _, rfl, (hatlk33.mono hG54), (MpR.mono hG54 hm46), (holk33.mono hG54)⟩
 refine WC.perm (M' := ((b39, ce9 58 (ndl x.n pa_mn36 pc_mn36 ka_mn36 kc_mn36 ma_mn36 mc_mn36 ra_mn36 rc_mn36)) :: ((b32, ce9 74 [sV (x.s).lo.b, sV (x.s).hi.b, .bool (x.s).opn]) :: (((bk, ce9 110 [iV c.fan, iV c.leaf, iV c.bud, iV c.slots, iV c.rest, .map (some balk33), .map (some bmlk33), lV sa_lk33 (rows).length sc_lk33]) :: (Ms45 ++ Molk33)) ++ [])))) ((pmC (pmC pr9)).symm.trans (((pmC (pmC ((pmF pr9).trans pr9))).cons _).trans ((List.Perm.swap _ _ _).trans (pr9.cons _)))) (g9 8 ?_)
 refine WC.loop (X := Nat) (fun i => [(99, nt9 i), (0, pt9 bk), (8, pt9 b32), (11, pt9 b39), (2, iV lv), (97, lV pa_mn36 (x.n.pivots).length pc_mn36), (98, nt9 ((x.n.pivots).length))]) (fun i _ Ml => Ml = ((b39, ce9 58 (ndl x.n pa_mn36 pc_mn36 ka_mn36 kc_mn36 ma_mn36 mc_mn36 ra_mn36 rc_mn36)) :: ((b32, ce9 74 [sV (x.s).lo.b, sV (x.s).hi.b, .bool (x.s).opn]) :: (((bk, ce9 110 [iV c.fan, iV c.leaf, iV c.bud, iV c.slots, iV c.rest, .map (some balk33), .map (some bmlk33), lV sa_lk33 (rows).length sc_lk33]) :: (Ms45 ++ Molk33)) ++ []))) ∧ ∀ q2 (h : q2 < x.n.pivots.length), q2 < i → x.s.has x.n.pivots[q2] = true ∧ x.n.pivots[q2] ≠ x.s.lo) (fun i => x.n.pivots.length - i) 0 hs9 ?_ ?_
 ·exact ⟨rfl, fun q2 _ h => by omega⟩
 rintro i gG61 G61 _ hG61 ⟨rfl, hpv⟩
 refine g9 6 ?_
 refine WC.cond rfl (fun h100 => ?_) (fun h100 => ?_)
 ·have p100 := odt h100
  try dsimp only at p100
  refine g9 6 ?_
  refine (hp_mn36.mono (hG54.trans hG61)).a1 (i := i) om9 (fun he62 => (g9 9 ?_))
  refine W.qcall (spanhas_fc _ _ _ _) rfl (g9 2 ?_)
  refine W.sp 107 rfl (fun h106 => ?_) (fun h106 => ?_)
  ·refine g9 19 ?_
   refine ⟨.inr rfl, [_], ⟨rfl, trivial⟩, ((bk, ce9 110 [iV c.fan, iV c.leaf, iV c.bud, iV c.slots, iV c.rest, .map (some balk33), .map (some bmlk33), lV sa_lk33 (rows).length sc_lk33]) :: (Ms45 ++ Molk33)), ((List.sublist_append_left _ _).cons _).cons _, ?_⟩
   exact ⟨false, _, _, rfl, dfs_no fun h => by have h1 := (((seat17_i (top := top) hl0).1 (wf_top h.2.2.1).1).2 i om9).1; rw [h1] at h106; simp at h106, (LkR.mono hG61 hR60)⟩
  refine g9 11 ?_
  refine WC.cd (fun h111 p111 => ?_) (fun h111 p111 => ?_)
  ·try dsimp only at p111
   refine g9 11 ?_
   refine ⟨.inr rfl, [_], ⟨rfl, trivial⟩, ((bk, ce9 110 [iV c.fan, iV c.leaf, iV c.bud, iV c.slots, iV c.rest, .map (some balk33), .map (some bmlk33), lV sa_lk33 (rows).length sc_lk33]) :: (Ms45 ++ Molk33)), ((List.sublist_append_left _ _).cons _).cons _, ?_⟩
   exact ⟨false, _, _, rfl, dfs_no fun h => by have h1 := (((seat17_i (top := top) hl0).1 (wf_top h.2.2.1).1).2 i om9).2; exact h1 (Str.ext' p111), (LkR.mono hG61 hR60)⟩
  try dsimp only at p111
  refine g9 8 ?_
  exact ⟨Le.rfl, i + 1, hs9, ⟨rfl, fun q2 h hq2 => by
      by_cases e : q2 = i
      · subst e; exact ⟨by simpa using h106, fun e => p111 (congrArg Str.b e)⟩
      · exact hpv q2 h om9⟩, om9⟩
 have p100 := odf h100
 try dsimp only at p100
 refine g9 15 ?_
 refine WC.loop (X := (Nat × (List (Int × Bool) × List Pair)) × MH) (fun y => [(117, nt9 y.1.1), (8, pt9 b32), (11, pt9 b39), (2, iV lv), (115, lV ka_mn36 (x.n.kids).length kc_mn36), (116, nt9 ((x.n.kids).length)), (0, pt9 bk)]) (fun y G Ml => Ml = ((b39, ce9 58 (ndl x.n pa_mn36 pc_mn36 ka_mn36 kc_mn36 ma_mn36 mc_mn36 ra_mn36 rc_mn36)) :: ((b32, ce9 74 [sV (x.s).lo.b, sV (x.s).hi.b, .bool (x.s).opn]) :: (y.2 ++ []))) ∧ LkR 110 84 bk c (bySl l) G (y.1.2) y.2 ∧ y.1.1 ≤ x.n.kids.length ∧ InK c l q x mt y.1.1 y.1.2.1 ∧ y.1.2.2 = rows ++ rowsK l q x y.1.1 ∧ Met l y.1.2.1 ∧ y.1.2.2.length ≤ 4000 * y.1.2.1.length) (fun y => x.n.kids.length - y.1.1) (((0, ((putM mt (slot) true), rows)) : Nat × (List (Int × Bool) × List Pair)), ((bk, ce9 110 [iV c.fan, iV c.leaf, iV c.bud, iV c.slots, iV c.rest, .map (some balk33), .map (some bmlk33), lV sa_lk33 (rows).length sc_lk33]) :: (Ms45 ++ Molk33))) hs9 ?_ ?_
 ·exact ⟨rfl, (by exact (LkR.mono hG61 hR60)), Nat.zero_le _, by have h8 := InK.zero (c := c) (l := l) (n := q) (x := x) (mt := mt) (by rw [hxsl]; exact hno); rw [hxsl] at h8; exact h8, by rw [rowsK_0, List.append_nil], hmet1, by dsimp only; rw [put_len _ _ _ hno]; omega⟩
 rintro ⟨⟨j, ⟨mt2, rows2⟩⟩, M_0⟩ gG65 G65 _ hG65 ⟨rfl, ho_0, hj, hik, hrk, hmj, hrj⟩
 try dsimp only at ho_0 hj hik hrk hmj hrj
 refine WC.fr (f := setL gG65 [(117, nt9 j), (8, pt9 b32), (11, pt9 b39), (2, iV lv), (115, lV ka_mn36 (x.n.kids).length kc_mn36), (116, nt9 ((x.n.kids).length)), (0, pt9 bk)]) rfl (g9 6 ?_)
 refine WC.cd (fun h118 p118 => ?_) (fun h118 p118 => ?_)
 ·try dsimp only at p118
  refine g9 7 ?_
  refine (hk_mn36.mono ((hG54.trans hG61).trans hG65)).a2 (i := j) om9 (fun he66 hi67 => (g9 7 ?_))
  refine WC.dw (sn9.k9.k9) (d9 [0, 1, 2, 3, 4, 5, 6, 7] ?_)
  refine WD.a1 8 rfl (W.qcall (brange_fc (hp_mn36.mono lec) _ ⟨om9, om9⟩) rfl (W.nn (WD.a1 9 rfl (W.qcall (smeet_fc _ _ _ _ _ _) rfl (W.nn (WD.a1 10 rfl ?_))))))
  have hkx : (kidSt l x j).n = (findN l (x.n.kids[j]'om9)).1 := kid_n om9
  refine W.call (Mp := M_0) ((ih q rfl) ho_0 (x.n.kids[j]'om9) (lv - 1) false (kidSt l x j) hkx ⟨om9, om9⟩ hmj hrj om9) rfl (pmC (pmC pr9)) ?_
  intro v77 G74 Ms76 hG74 q75
  refine match q75 with | ⟨b70, mt71, rw72, e_79, hD73, hR78⟩ => ?_
  subst e_79
  refine W.perm (pmC (pmC pr9)).symm (W.nn (d9 [11] ?_))
  refine g9 2 ?_
  refine WC.cond rfl (fun h133 => ?_) (fun h133 => ?_)
  ·refine g9 11 ?_
   refine ⟨.inr rfl, [_], ⟨rfl, trivial⟩, Ms76, ((List.sublist_append_left _ _).cons _).cons _, ?_⟩
   exact ⟨false, _, _, rfl, dfs_no fun h => by obtain ⟨g1, g2⟩ := hik.next (j := j) om9 (by have h8 := h.2.2; rw [hlq] at h8; exact h8); refine hD73.2 (by simpa using h133) ⟨om9, kid_fnd g2 om9, ?_⟩; rw [show (lv - 1).toNat = q by omega]; exact g1, hR78⟩
  have hdt9 := hD73.1 (by simpa using h133)
  rw [show (lv - 1).toNat = q by omega] at hdt9
  have hkl9 := (wf_top hdt9.1.2.2.1).2
  have hdn9 : Down c l q false (kidSt l x j) mt2 ∧ After l q (kidSt l x j) mt2 mt71 ∧ kidOk l x j = true ∧ rw72 = rows ++ rowsK l q x (j + 1) := ⟨hdt9.1.2.2, hdt9.2.1, kid_ok9 om9 hdt9.1.2.1 om9, by rw [rowsK_succ, ← List.append_assoc, ← hrk]; exact hdt9.2.2.1⟩
  refine g9 8 ?_
  exact ⟨hG74, (((j + 1, (mt71, rw72)) : Nat × (List (Int × Bool) × List Pair)), Ms76), hs9, ⟨rfl, (by exact hR78), by dsimp only; omega, hik.succ hdn9.1 hdn9.2.1 hdn9.2.2.1, hdn9.2.2.2, hdt9.2.2.2.1, hdt9.2.2.2.2⟩, by dsimp only; omega⟩
 try dsimp only at p118
 refine g9 11 ?_
 refine ⟨.inr rfl, [_], ⟨rfl, trivial⟩, M_0, ((List.sublist_append_left _ _).cons _).cons _, ?_⟩
 have hjn : j = x.n.kids.length := by omega
 obtain ⟨g1, g2⟩ := hik.done (top := top) hjn om9 (by simpa using h76) ((seat17_i hl0).2 ⟨⟨om9, om9, om9⟩, fun i hi => hpv i hi om9⟩)
 have hre : rowsK l q x j = rowsF l (q + 1) x := by rw [hjn]; exact rowsK_all g1.1.2.1 hl0
 exact ⟨true, _, _, rfl, ⟨fun _ => ⟨⟨om9, hfnd, by rw [hlq]; exact g1⟩, by rw [hlq]; exact g2, by rw [hlq, ← hre]; exact hrk, hmj, hrj⟩, fun e => (by cases e)⟩, ho_0⟩

end Go.Proofs.YtemoalimclnfkaaGreat
