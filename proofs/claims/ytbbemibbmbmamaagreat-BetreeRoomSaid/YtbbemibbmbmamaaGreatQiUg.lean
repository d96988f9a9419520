/- Walks of what a key has in a sound tree. -/
import Derived.Test.YtbbemibbmbmamaaGreatQiOv
set_option maxRecDepth 100000
set_option maxHeartbeats 1600000
set_option linter.unusedVariables false
set_option linter.unusedSimpArgs false
set_option linter.unnecessarySimpa false
namespace Go.Proofs.YtbbemibbmbmamaaGreat
open Go Go.Fw Go.RowKit
attribute [local irreducible] Ok W WC
theorem ZsA {G : GH} {b_s : Nat} {c c2 : Cfg} {l : List Nd} {ss : List Seat} {Ms_s : MH} (h_s : StR 60 4 3 189 139 b_s c G l Ms_s) (t : Tree c2 l ss) (k : Str) :
    Fc Tryz.prog 45 [pt9 b_s, sV k.b] G Ms_s (fun v G' M' => M' = Ms_s ∧ v = .tuple #[sV (Str.b (((Zg (Zh l) k)).getD Str.nil)), .bool (((Zg (Zh l) k)).isSome)]) := by
 have hlo := t.leafOk k
 have hft := t.fits _ hlo.mem
 have hfm : ∀ m ∈ (Zn l k).ms, m.key.b.size < 140737488355328 ∧ m.val.b.size ≤ 16 := fun m hm => ⟨by have := (YZ (hft.2 m hm)).1; omega, (YZ (hft.2 m hm)).2⟩
 refine Fc.go [.tmp 4, .tmp 5] Tryz.func45 Tryz.ntmps45 rfl (fun w0 => (WC.perm (M' := (Ms_s ++ [])) (by simp) (g9 10 ?_)))
 refine W.call (Mp := Ms_s) (Zf3 h_s t _) rfl pr9 ?_
 intro v13 G10 Ms12 hG10 q11
 refine match q11 with | ⟨eeq11, _, e_15, hv9⟩ => ?_
 subst e_15
 have eeq11 := eeq11.symm
 subst eeq11
 refine match hv9 with | ⟨_, _, _, _, _, _, _, _, e_16, hp_hv9, hk_hv9, hm_hv9, hr_hv9, hok_hv9⟩ => ?_
 subst e_16
 refine g9 4 ?_
 refine W.alloc Zp (fun b17 => (W.alloc ZL (fun b18 => (g9 16 ?_))))
 refine WC.dw (sn9.k9.k9) (d9 [0, 1, 2, 3, 4] ?_)
 refine WD.a1 5 rfl (W.call (Mp := Ms_s) (Zkp (StR.mono hG10 h_s) t _) rfl (pmC (pmC pr9)) ?_)
 intro v23 G20 Ms22 hG20 q21
 refine match q21 with | ⟨eeq21, _, e_25, hv19⟩ => ?_
 subst e_25
 have eeq21 := eeq21.symm
 subst eeq21
 refine W.perm (pmC (pmC pr9)).symm ?_
 have q27 := hv19.form
 refine match q27 with | ⟨sa_hv19, sc_hv19, e_26⟩ => ?_
 subst e_26
 refine W.nn (WD.a1 6 rfl (W.qcall (ZrI (hr_hv9.mono hG20) k hv19 (t.rows hlo.mem) hfm) rfl (W.nn (d9 [7, 8, 9, 10] ?_))))
 refine g9 3 ?_
 refine ⟨.inr rfl, [_, _], ⟨rfl, rfl, trivial⟩, Ms_s, ((List.sublist_append_left _ _).cons _).cons _, ?_⟩
 exact ⟨rfl, congrArg (fun o : Option Str => Value.tuple #[sV (o.getD Str.nil).b, .bool o.isSome]) (t.lookup k)⟩

theorem ZsB {G : GH} {v_l : Value} {l : List Pair} (h_l : SlR Zl G v_l l) (slo : Str) (shi : Str) (so : Bool) {v_ms : Value} {ms : List Msg} (h_ms : SlR Zs G v_ms ms) (c : Str) (n : Int) (hP : PairsR l) (hn : l.length + ms.length ≤ 1000000) (hm : ∀ m ∈ ms, m.key.b.size ≤ 16 ∧ m.val.b.size ≤ 16) (hs : slo.b.size ≤ 300) :
    Fc Tryz.prog 100 [v_l, .agg #[sV slo.b, sV shi.b, .bool so], v_ms, sV c.b, iV n] G [] (fun v G' M' => M' = [] ∧ ∃ r : List Pair × Str × Bool, r = Zbc l ⟨slo, shi, so⟩ ms c n ∧ ∃ u0, v = .tuple #[u0, sV (Str.b (r.2.1)), .bool (r.2.2)] ∧ SlR Zl G' u0 (r.1)) := by
 obtain ⟨sa_l, sc_l, rfl⟩ := h_l.form
 obtain ⟨sa_ms, sc_ms, rfl⟩ := h_ms.form
 have hcl := Zsy (Zr (l.filter fun p => Span.has ⟨slo, shi, so⟩ p.key) (Zc ⟨slo, shi, so⟩ ms)) n
 refine Fc.go [.tmp 10, .tmp 11, .tmp 12] Tryz.func100 Tryz.ntmps100 rfl (fun w0 => (g9 2 ?_))
 refine W.box (L := [sV _, sV _, .bool _]) rfl rfl (fun b1 => (g9 9 ?_))
 refine W.qcall (Zcs _ _ _) rfl (g9 2 ?_)
 refine WC.cond rfl (fun h16 => ?_) (fun h16 => ?_)
 ·refine g9 11 ?_
  refine ⟨rfl, _, (Zsz h16).symm, _, rfl, ?_⟩
  · exact SlR.nil
 refine g9 7 ?_
 refine W.cS (ZrU h_l slo shi so h_ms hP hn hm hs) rfl (fun sa_hv3 sc_hv3 G2 hG2 hv3 => (g9 8 ?_))
 refine W.sp 24 rfl (fun ha_so => ?_) (fun ha_so => ?_)
 ·refine g9 22 ?_
  refine WC.dw sr9.k9 (d9 [0, 1, 2, 3] ?_)
  refine WD.tk 4 rfl (ZgA rfl rfl) (WD.tk 5 rfl (Ok.int (n := ((Xr (Zr (l.filter fun p => Span.has ⟨slo, shi, so⟩ p.key) (Zc ⟨slo, shi, so⟩ ms)) n : Nat) : Int)) (Zd7 rfl rfl) om9) ?_)
  have hs9 := SlR.slice hv3 (lo := 0) (hi := (Xr (Zr (l.filter fun p => Span.has ⟨slo, shi, so⟩ p.key) (Zc ⟨slo, shi, so⟩ ms)) n)) om9 om9
  refine WD.tk 6 rfl (Jw (0) ((Xr (Zr (l.filter fun p => Span.has ⟨slo, shi, so⟩ p.key) (Zc ⟨slo, shi, so⟩ ms)) n)) Zy Zz hv3 rfl rfl ⟨_, _, rfl, om9⟩ ⟨om9, om9⟩) (d9 [8, 9, 10] ?_)
  refine WD.a1 7 rfl (W.cS (XX hs9) rfl (fun sa_hv11 sc_hv11 G10 hG10 hv11 => (W.nn (d9 [11, 12, 13] ?_))))
  refine g9 4 ?_
  refine ⟨rfl, _, (Zgh h16 (x := Str.nil) (b := true) (by simp [ha_so]) (by simp [ha_so])).symm, _, rfl, ?_⟩
  · exact hv11
 refine g9 23 ?_
 refine WC.dw sr9.k9 (d9 [0, 1, 2, 3] ?_)
 refine WD.tk 4 rfl (ZgA rfl rfl) (WD.tk 5 rfl (Ok.int (n := ((Xr (Zr (l.filter fun p => Span.has ⟨slo, shi, so⟩ p.key) (Zc ⟨slo, shi, so⟩ ms)) n : Nat) : Int)) (Zd7 rfl rfl) om9) ?_)
 have hs17 := SlR.slice hv3 (lo := 0) (hi := (Xr (Zr (l.filter fun p => Span.has ⟨slo, shi, so⟩ p.key) (Zc ⟨slo, shi, so⟩ ms)) n)) om9 om9
 refine WD.tk 6 rfl (Jw (0) ((Xr (Zr (l.filter fun p => Span.has ⟨slo, shi, so⟩ p.key) (Zc ⟨slo, shi, so⟩ ms)) n)) Zy Zz hv3 rfl rfl ⟨_, _, rfl, om9⟩ ⟨om9, om9⟩) (d9 [8, 9, 10] ?_)
 refine WD.a1 7 rfl (W.cS (XX hs17) rfl (fun sa_hv19 sc_hv19 G18 hG18 hv19 => (W.nn (d9 [11, 12, 13] ?_))))
 refine g9 4 ?_
 refine ⟨rfl, _, (Zgh h16 (x := shi) (b := decide (n ≤ ((Zr (l.filter fun p => Span.has ⟨slo, shi, so⟩ p.key) (Zc ⟨slo, shi, so⟩ ms)).length : Int))) (by simp [ha_so]) (by simp [ha_so])).symm, _, rfl, ?_⟩
 · exact hv19

theorem ZsC {G : GH} (slo : Str) (shi : Str) (so : Bool) (k : Str) :
    Fc Tryz.prog 102 [.agg #[sV slo.b, sV shi.b, .bool so], sV k.b] G [] (fun v _ _ => v = .agg (List.toArray ((Span.meet ⟨slo, shi, so⟩ ⟨k, Str.nil, true⟩).cells))) := by
 refine Fc.go [.cell 4 62] Tryz.func102 Tryz.ntmps102 rfl (fun w0 => (g9 2 ?_))
 refine W.box (L := [sV _, sV _, .bool _]) rfl rfl (fun b1 => (W.alloc ZL (fun b2 => (g9 6 ?_))))
 refine W.ok (ZE (L := [sV _, sV _, .bool _]) Xw ZL rfl rfl rfl) (W.qcall (J6 _ _ _ _ Str.nil _) rfl (g9 5 ?_))
 rfl

theorem ZkT {G : GH} {b_s : Nat} {c c2 : Cfg} {l : List Nd} {ss : List Seat} {Ms_s : MH} (h_s : StR 60 4 3 189 139 b_s c G l Ms_s) (t : Tree c2 l ss) (xlo : Str) (xhi : Str) (xo : Bool) (n : Int) (hxs : xlo.b.size ≤ 300 ∧ xhi.b.size ≤ 300) (hin : i64 n) :
    Fc Tryz.prog 46 [pt9 b_s, .agg #[sV xlo.b, sV xhi.b, .bool xo], iV n] G Ms_s (fun v G' M' => M' = Ms_s ∧ ∃ u0, v = u0 ∧ SlR Zl G' u0 (Ys (Zh l) ⟨xlo, xhi, xo⟩ n)) := by
 obtain ⟨hin1, hin2⟩ := hin
 refine Fc.go [.tmp 6] Tryz.func46 Tryz.ntmps46 rfl (fun w0 => (WC.perm (M' := (Ms_s ++ [])) (by simp) (g9 2 ?_)))
 refine W.box (L := [sV _, sV _, .bool _]) rfl rfl (fun b21 => (g9 11 ?_))
 refine W.qcall (ZaE _ _ _) rfl (W.alloc ZL (fun b22 => (g9 4 ?_)))
 refine WC.loop (X := (Span × List Pair) × Value × MH × Nat) (fun y => [(0, pt9 b_s), (2, iV n), (7, y.2.1), (8, .pointer (some ⟨y.2.2.2, 0, none⟩))]) (fun y G Ml => Ml = ((y.2.2.2, ce9 62 [sV (y.1.1).lo.b, sV (y.1.1).hi.b, .bool (y.1.1).opn]) :: ((b21, ce9 62 [sV xlo.b, sV xhi.b, .bool xo]) :: (y.2.2.1 ++ (Ms_s ++ [])))) ∧ OwnR Zl 74 G y.2.1 (y.1.2) y.2.2.1 ∧ SwOk l ⟨xlo, xhi, xo⟩ n y.1.1 y.1.2 ∧ (y.1.1.lo.b.size ≤ 300 ∧ y.1.1.hi.b.size ≤ 300)) (fun y => Zdi ss y.1.1) (((Span.norm ⟨xlo, xhi, xo⟩, []) : Span × List Pair), lV none 0 0, ([] : MH), b22) hs9 ?_ ?_
 ·exact ⟨rfl, (by exact OwnR.nil), SwOk.init l _ n, ZcY hxs.1 hxs.2⟩
 rintro ⟨⟨r, out⟩, v_7, M_7, B_8⟩ gG23 G23 _ hG23 ⟨rfl, ho_7, hw, hrs⟩
 try dsimp only at ho_7 hw hrs
 have hol := hw.olen t
 have hml := t.map_len
 refine WC.fr (f := ZZ gG23 [(0, pt9 b_s), (2, iV n), (7, v_7), (8, pt9 B_8)]) rfl (WC.perm (M' := ((B_8, ce9 62 [sV (r).lo.b, sV (r).hi.b, .bool (r).opn]) :: ((b21, ce9 62 [sV xlo.b, sV xhi.b, .bool xo]) :: (M_7 ++ (Ms_s ++ []))))) pr9 (g9 7 ?_))
 refine W.call (Mp := Ms_s) (Zf3 (StR.mono hG23 h_s) t _) rfl (pmC (pmC (pmA pr9))) ?_
 intro v28 G25 Ms27 hG25 q26
 refine match q26 with | ⟨eeq26, _, e_30, hv24⟩ => ?_
 subst e_30
 have eeq26 := eeq26.symm
 subst eeq26
 refine W.perm (pmC (pmC pr9)).symm ?_
 refine match hv24 with | ⟨_, _, _, _, _, _, _, _, e_31, hp_hv24, hk_hv24, hm_hv24, hr_hv24, hok_hv24⟩ => ?_
 subst e_31
 refine g9 4 ?_
 refine W.alloc Zp (fun b32 => (W.alloc ZL (fun b33 => (g9 14 ?_))))
 refine W.qcall (Zcs _ _ _) rfl (g9 2 ?_)
 refine W.sp 31 rfl (fun h29 => ?_) (fun h29 => ?_)
 ·refine g9 14 ?_
  refine WC.giveO (ho_7.mono hG25) (pmC (pmC (pmC (pmC (pmA pr9))))) (fun G34 hG34 hv34 => (g9 6 ?_))
  refine ⟨.inr rfl, [_], ⟨rfl, trivial⟩, Ms_s, ((((List.sublist_append_left _ _).cons _).cons _).cons _).cons _, ?_⟩
  exact ⟨rfl, _, rfl, SlR.cast hv34 (hw.empty h29)⟩
 have g := t.leg (rest := r) h29
 have hlo := ZpF t r.lo
 have hft := t.fits _ hlo.1
 have hz9 := ZdO (n := 300) hrs (b := (Zn l r.lo).s) ⟨by have := hft.1.1; omega, by have := hft.1.2; omega⟩
 have hz300 := hz9.1
 have hz301 := hz9.2
 have hrl := t.rows_len hlo.1
 have hml2 := (t.ms_len _ hlo.1).1
 refine g9 11 ?_
 refine WC.cd (fun h35 p35 => ?_) (fun h35 p35 => ?_)
 ·refine g9 6 ?_
  refine WC.giveO (ho_7.mono hG25) (pmC (pmC (pmC (pmC (pmA pr9))))) (fun G35 hG35 hv35 => (g9 6 ?_))
  refine ⟨.inr rfl, [_], ⟨rfl, trivial⟩, Ms_s, ((((List.sublist_append_left _ _).cons _).cons _).cons _).cons _, ?_⟩
  exact ⟨rfl, _, rfl, SlR.cast hv35 (hw.full om9)⟩
 have hpart := Leg.part t hlo.1 hlo.2 g r.lo (n - (out.length : Int))
 have hvl := List.length_filter_le (fun p : Pair => Span.has (r.meet (Zn l r.lo).s) p.key) (Zh l)
 have hcl : (((Zh l).filter fun p => Span.has (r.meet (Zn l r.lo).s) p.key).take (Xr ((Zh l).filter fun p => Span.has (r.meet (Zn l r.lo).s) p.key) (n - (out.length : Int)))).length ≤ ((Zh l).filter fun p => Span.has (r.meet (Zn l r.lo).s) p.key).length := by rw [List.length_take]; omega
 refine g9 3 ?_
 refine WC.dw (((sn9.k9.k9).k9).k9) (d9 [0, 1, 2, 3, 5, 6, 7, 9, 10, 11, 12, 13, 14] ?_)
 refine WD.a1 4 rfl (W.qcall (J6 _ _ _ _ _ _) rfl (W.nn (WD.a1 8 rfl (W.call (Mp := Ms_s) (Zkp (StR.mono lec h_s) t _) rfl (pmC (pmC (pmC (pmC pr9)))) ?_))))
 intro v40 G37 Ms39 hG37 q38
 refine match q38 with | ⟨eeq38, _, e_42, hv36⟩ => ?_
 subst e_42
 have eeq38 := eeq38.symm
 subst eeq38
 refine W.perm (pmC (pmC (pmC (pmC pr9)))).symm ?_
 have q44 := hv36.form
 refine match q44 with | ⟨sa_hv36, sc_hv36, e_43⟩ => ?_
 subst e_43
 refine W.nn (WD.a1 15 rfl (W.call (Mp := []) (ZsB (hr_hv24.mono hG37) (r.meet (Zn l r.lo).s).lo (r.meet (Zn l r.lo).s).hi (r.meet (Zn l r.lo).s).opn hv36 r.lo (n - (out.length : Int)) (t.rows hlo.1) om9 (fun m hm => YZ (hft.2 m hm)) hz300) rfl pr9 ?_))
 intro _ G45 _ hG45 q47
 refine match q47 with | ⟨e_48, _, e_49, _, e_50, hv46⟩ => ?_
 subst e_48
 subst e_49
 subst e_50
 have hc51 := SlR.cast hv46 (l' := (((Zh l).filter fun p => Span.has (r.meet (Zn l r.lo).s) p.key).take (Xr ((Zh l).filter fun p => Span.has (r.meet (Zn l r.lo).s) p.key) (n - (out.length : Int))))) (by rw [hpart])
 have q53 := hc51.form
 refine match q53 with | ⟨sa_hc51, sc_hc51, e_52⟩ => ?_
 subst e_52
 refine W.nn (d9 [16, 17, 18, 19, 20, 21, 22] ?_)
 refine g9 6 ?_
 refine W.app (e := Zl) Zy Zz Yy rfl JA rfl rfl ((ho_7.mono lec)) (hc51) (pmC (pmC (pmC (pmC (pmA pr9))))) (by show (List.length _ + List.length _) * 32 ≤ _; omega) (fun v54 Ms55 ho56 => (W.perm (pmC (pmC (pmC (pmC pr9)))).symm (g9 8 ?_)))
 refine W.sp 62 rfl (fun h54_2 => ?_) (fun h54_2 => ?_)
 ·refine g9 14 ?_
  refine WC.giveO ho56 (pmC (pmC (pmC (pmC pr9)))) (fun G57 hG57 hv57 => (g9 6 ?_))
  refine ⟨.inr rfl, [_], ⟨rfl, trivial⟩, Ms_s, ((((List.sublist_append_left _ _).cons _).cons _).cons _).cons _, ?_⟩
  exact ⟨rfl, _, rfl, SlR.cast hv57 (hw.over t om9 g (by rw [hpart] at h54_2; exact h54_2))⟩
 have hgo := hw.go t om9 g (by rw [hpart] at h54_2; exact h54_2)
 have hcur : (Zbc (Zn l r.lo).n.rows (r.meet (Zn l r.lo).s) (Zn l r.lo).ms r.lo (n - (out.length : Int))).2.1 = (r.meet (Zn l r.lo).s).hi := by rw [hpart]; show (if _ then _ else _) = _; rw [if_neg (by rw [hgo.1]; simp)]
 refine g9 7 ?_
 refine W.ok (Zuq rfl rfl) (g9 3 ?_)
 refine WC.cond rfl (fun h66 => ?_) (fun h66 => ?_)
 ·exfalso
  rw [hcur] at h66
  have h0 := g.fin hgo.1
  unfold Str.lt at h0
  rw [h0] at h66
  simp at h66
 refine g9 5 ?_
 refine W.qcall (ZsC _ _ _ _) rfl (g9 9 ?_)
 refine WC.sub (((sr9.cons _).k9).k9) (WC.sub ((sr9.cons _).k9) (WC.sub (sr9.cons _) (g9 1 ?_)))
 refine W.alloc ZL (fun b58 => (g9 3 ?_))
 exact ⟨lec, (((r.meet ⟨(Zbc (Zn l r.lo).n.rows (r.meet (Zn l r.lo).s) (Zn l r.lo).ms r.lo (n - (out.length : Int))).2.1, Str.nil, true⟩, out ++ ((Zh l).filter fun p => Span.has (r.meet (Zn l r.lo).s) p.key)) : Span × List Pair), v54, Ms55, b58), hs9, ⟨rfl, (by have h := ho56; rw [hgo.2.2] at h; exact h), by rw [hcur]; exact hgo.2.1, ZdO hrs ⟨by rw [hcur]; exact hz301, by show Str.nil.b.size ≤ 300; decide⟩⟩, by rw [hcur]; exact Leg.ahead hlo.1 hlo.2 h29 g hgo.1⟩

theorem ZsD {G : GH} {b_s : Nat} {c c2 : Cfg} {l : List Nd} {ss : List Seat} {Ms_s : MH} (h_s : StR 60 4 3 189 139 b_s c G l Ms_s) (t : Tree c2 l ss) :
    Fc Tryz.prog 51 [pt9 b_s] G Ms_s (fun v G' M' => M' = Ms_s ∧ ∃ u0, v = u0 ∧ SlR Zl G' u0 (Zh l)) := by
 have hml := t.map_len
 refine Fc.go [.tmp 2] Tryz.func51 Tryz.ntmps51 rfl (fun w0 => (WC.perm (M' := (Ms_s ++ [])) (by simp) (g9 8 ?_)))
 refine W.qcall (ZeZ ) rfl (W.call (Mp := Ms_s) (ZkT h_s t Span.all.lo Span.all.hi Span.all.opn _ ⟨by decide, by decide⟩ ⟨by decide, by decide⟩) rfl pr9 ?_)
 intro v63 G60 Ms62 hG60 q61
 refine match q61 with | ⟨eeq61, _, e_65, hv59⟩ => ?_
 subst e_65
 have eeq61 := eeq61.symm
 subst eeq61
 have q67 := hv59.form
 refine match q67 with | ⟨sa_hv59, sc_hv59, e_66⟩ => ?_
 subst e_66
 refine g9 4 ?_
 refine ⟨.inr rfl, [_], ⟨rfl, trivial⟩, Ms_s, List.sublist_append_left _ _, ?_⟩
 refine ⟨rfl, _, rfl, ?_⟩
 · exact SlR.cast hv59 (ZpG om9)

theorem ZsE {G : GH} {b_t : Nat} {b_s : Nat} {c : Cfg} {l : List Nd} {ss : List Seat} {Ms_s : MH} (h_s : StR 60 4 3 189 139 b_s c G l Ms_s) (t : Tree c l ss) {cur : Str} :
    Fc Tryz.prog 18 [pt9 b_t] G ((b_t, ce9 79 [pt9 b_s, sV cur.b]) :: (Ms_s)) (fun v G' M' => SlR Zl G' v (Zh l) ∧ M' = (b_t, ce9 79 [pt9 b_s, sV cur.b]) :: Ms_s) := by
 refine Fc.go [.tmp 2] Tryz.func18 Tryz.ntmps18 rfl (fun w0 => (WC.perm (M' := ((b_t, ce9 79 [pt9 b_s, sV cur.b]) :: (Ms_s ++ []))) (by simp) (g9 9 ?_)))
 refine W.ok (XB Zbx rfl rfl) (g9 11 ?_)
 refine W.call (Mp := Ms_s) (ZsD h_s t) rfl (pmC pr9) ?_
 intro v5 G2 Ms4 hG2 q3
 refine match q3 with | ⟨eeq3, _, e_7, hv1⟩ => ?_
 subst e_7
 have eeq3 := eeq3.symm
 subst eeq3
 refine W.perm (pmC pr9).symm ?_
 have q9 := hv1.form
 refine match q9 with | ⟨sa_hv1, sc_hv1, e_8⟩ => ?_
 subst e_8
 refine g9 4 ?_
 refine ⟨.inr rfl, [_], ⟨rfl, trivial⟩, ((b_t, ce9 79 [pt9 b_s, sV cur.b]) :: (Ms_s ++ [])), sr9.k9, ?_⟩
 exact ⟨hv1, congrArg _ (List.append_nil _)⟩

theorem ZsF {G : GH} {cs_n : List Value} {n : Nd} (h_n : NodeC G cs_n n) :
    Fc Tryz.prog 58 [.agg (List.toArray cs_n)] G [] (fun v _ _ => v = .bool (isM n)) := by
 obtain ⟨_, _, _, _, _, _, _, _, rfl, hp_n, hk_n, hm_n, hr_n, hok_n⟩ := h_n
 refine Fc.go [.tmp 2] Tryz.func58 Tryz.ntmps58 rfl (fun w0 => (g9 2 ?_))
 refine W.box (L := [iV _, iV _, lV _ _ _, lV _ _ _, sV _, .bool _, iV _, iV _, lV _ _ _, lV _ _ _]) rfl rfl (fun b18 => (g9 14 ?_))
 rfl

theorem ZsG {G : GH} {v_l : Value} {l : List Nd} (h_l : SlR ZF G v_l l) :
    Fc Tryz.prog 111 [v_l, .func (.func 58) #[] #[]] G [] (fun v _ _ => v = iV (Yw isM l)) := by
 obtain ⟨sa_l, sc_l, rfl⟩ := h_l.form
 have hl := h_l.len47
 refine Fc.go [.tmp 4] Tryz.func111 Tryz.ntmps111 rfl (fun w0 => (g9 14 ?_))
 refine WC.loop (X := Nat) (fun k => [(8, nt9 k), (0, lV sa_l l.length sc_l), (1, .func (.func 58) #[] #[]), (7, nt9 ((l).length))]) (fun k _ Ml => Ml = [] ∧ k ≤ l.length ∧ ∀ j (h : j < l.length), j < k → isM l[j] = false) (fun k => l.length - k) 0 hs9 ?_ ?_
 ·exact ⟨rfl, om9, fun j _ h => by omega⟩
 rintro k gG19 G19 _ hG19 ⟨rfl, hk, hj⟩
 refine g9 6 ?_
 refine WC.cd (fun h9 p9 => ?_) (fun h9 p9 => ?_)
 ·refine g9 15 ?_
  refine (h_l.mono hG19).aN (i := k) om9 (fun _ _ _ _ _ _ _ _ he20 hp_n21 hk_n21 hm_n21 hr_n21 hok_n21 => (g9 2 ?_))
  refine W.qcallV (fst := []) (caps := []) rfl (ZsF (nk9 hp_n21 hk_n21 hm_n21 hr_n21 hok_n21)) rfl (g9 2 ?_)
  refine WC.cond rfl (fun h16 => ?_) (fun h16 => ?_)
  ·refine g9 13 ?_
   refine congrArg (Value.int .i64) ?_
   exact (Ze4 (q := isM) om9 h16 hj).symm
  refine g9 8 ?_
  exact ⟨Le.rfl, k + 1, hs9, ⟨rfl, om9, fun j h hji => by
      by_cases e2 : j = k
      · subst e2; exact h16
      · exact hj j h om9⟩, om9⟩
 refine g9 12 ?_
 refine congrArg (Value.int .i64) ?_
 exact (Ze5 (q := isM) (fun j h => hj j om9 om9)).symm

theorem ZsH {G : GH} {v_l : Value} {l : List Nd} (h_l : SlR ZF G v_l l) :
    Fc Tryz.prog 57 [v_l, .func (.func 58) #[] #[]] G [] (fun v _ _ => v = .bool (decide ((0 : Int) ≤ Yw isM l))) := by
 obtain ⟨sa_l, sc_l, rfl⟩ := h_l.form
 refine Fc.go [.tmp 4] Tryz.func57 Tryz.ntmps57 rfl (fun w0 => (g9 9 ?_))
 refine W.qcall (ZsG h_l) rfl (g9 6 ?_)
 rfl

theorem ZbW {G : GH} {b_t b_s : Nat} {c : Cfg} {l : List Nd} {ss : List Seat} {cur : Str} {Ms_t : MH} (h_t : BtR 60 4 3 189 139 79 b_t b_s c G (l, cur) Ms_t) (t : Tree c l ss) (pk : Int) (pkey : Str) (phi : Str) (po : Bool) (pv : Str) (pl : Int) (k : Int) (hgr : Grown c k l) (hk9 : k ≤ 1000000000) :
    Fc Tryz.prog 14 [pt9 b_t, .agg #[iV pk, sV pkey.b, sV phi.b, .bool po, sV pv.b, iV pl]] G Ms_t (fun v G' M' => ∃ a l', DoP c k (⟨pk, pkey, phi, po, pv, pl⟩ : Opr) l a l' ∧ (∃ cs, v = .agg (List.toArray cs) ∧ AnsC G' cs a) ∧ BtR 60 4 3 189 139 79 b_t b_s c G' (l', cur) M') := by
 have h1 := pkey.le
 have h2 := phi.le
 have h3 := pv.le
 refine Fc.go [.cell 4 38] Tryz.func14 Tryz.ntmps14 rfl (fun w0 => (WC.perm (M' := (Ms_t ++ [])) (by simp) (g9 2 ?_)))
 refine W.box (L := [iV _, sV _, sV _, .bool _, sV _, iV _]) rfl rfl (fun b1 => (W.alloc Za2 (fun b2 => (g9 6 ?_))))
 refine W.ok (XB Zbx rfl rfl) (g9 9 ?_)
 refine W.qcall (Zkm _ _ _ _ _ _) rfl (g9 9 ?_)
 refine WC.cn (fun h12 p12 => ?_) (fun h12 p12 => ?_)
 ·try dsimp only at p12
  have hR : ¬ Opr.R (⟨pk, pkey, phi, po, pv, pl⟩ : Opr) := fun hq => by rw [if_pos hq] at p12; exact p12 rfl
  have h39 : (if Opr.R (⟨pk, pkey, phi, po, pv, pl⟩ : Opr) then (0 : Int) else 3) = 3 := if_neg hR
  refine g9 3 ?_
  refine W.ok (ZE (L := [iV _, .bool _, sV _, lV _ _ _]) Zh6 Za2 rfl rfl rfl) (g9 5 ?_)
  refine ⟨.inr rfl, [_], ⟨⟨_, _, _, _, _, rfl, YF (i := 0) rfl, Zcm, (by simp), rfl, rfl⟩, trivial⟩, Ms_t, ((List.sublist_append_left _ _).cons _).cons _, ?_⟩
  exact ⟨⟨(if Opr.R (⟨pk, pkey, phi, po, pv, pl⟩ : Opr) then (0 : Int) else 3), false, Str.nil, []⟩, l, by rw [h39]; exact DoP.bad t hgr hR, ⟨_, rfl, _, _, rfl, SlR.nil, by rw [h39]; exact ⟨by decide, by decide⟩⟩, h_t⟩
 try dsimp only at p12
 have hR : Opr.R (⟨pk, pkey, phi, po, pv, pl⟩ : Opr) := by
   by_cases hq : Opr.R (⟨pk, pkey, phi, po, pv, pl⟩ : Opr)
   · exact hq
   rw [if_neg hq] at p12; omega
 have hks := hR.1.2.2.1
 have hk6 := hR.1.2.1
 have hk7 := hR.1.1
 dsimp only at hks hk6 hk7
 refine g9 16 ?_
 refine WC.cd (fun h22 p22 => ?_) (fun h22 p22 => ?_)
 ·try dsimp only at p22
  obtain ⟨Msbt3, eMbt3, hBbt3⟩ := h_t
  subst eMbt3
  have hSbt3 : StR 60 4 3 189 139 b_s c G l Msbt3 := hBbt3
  refine WC.perm (M' := ((b_t, ce9 79 [pt9 b_s, sV cur.b]) :: ((b2, ce9 38 [iV 0, .bool false, sV ⟨#[]⟩, lV none 0 0]) :: ((b1, ce9 34 [iV pk, sV pkey.b, sV phi.b, .bool po, sV pv.b, iV pl]) :: (Msbt3 ++ []))))) (pmD (pmD pr9)).symm (WC.dw ((sn9.k9.cons _).k9) (d9 [0, 1, 2, 3, 4, 5] ?_))
  refine WD.a1 6 rfl (W.call (Mp := Msbt3) (ZsA hSbt3 t pkey) rfl (pmC (pmC (pmC pr9))) ?_)
  intro v7 G4 Ms6 hG4 q5
  refine match q5 with | ⟨eeq5, e_9⟩ => ?_
  subst e_9
  have eeq5 := eeq5.symm
  subst eeq5
  refine W.perm (pmC (pmC (pmC pr9))).symm (W.nn (d9 [7, 8, 9, 10, 11, 12, 13] ?_))
  refine WD.done (by kernel_rfl) (JX (Xf (g9 6 ?_)))
  have hB10 : BtR 60 4 3 189 139 79 b_t b_s c G4 (l, cur) ((b_t, ce9 79 [pt9 b_s, sV cur.b]) :: Msbt3) := ⟨_, rfl, (StR.mono hG4 hSbt3)⟩
  refine WC.perm (M' := ((b2, ce9 38 [iV 0, .bool ((Zg (Zh l) pkey).isSome), sV ((Zg (Zh l) pkey).getD Str.nil).b, lV none 0 0]) :: ((b1, ce9 34 [iV pk, sV pkey.b, sV phi.b, .bool po, sV pv.b, iV pl]) :: (((b_t, ce9 79 [pt9 b_s, sV cur.b]) :: Msbt3) ++ [])))) ((pmC (pmC pr9)).symm.trans (((pmC (pmC pr9)).cons _).trans pr9)) (WC.ret ?_)
  refine ⟨.inr rfl, [_], ⟨⟨_, _, _, _, _, rfl, YF (i := 0) rfl, Zcm, (by simp), rfl, rfl⟩, trivial⟩, ((b_t, ce9 79 [pt9 b_s, sV cur.b]) :: Msbt3), ((List.sublist_append_left _ _).cons _).cons _, ?_⟩
  exact ⟨_, l, DoP.get t hgr hR p22, ⟨_, rfl, _, _, rfl, SlR.nil, (show i64 0 from ⟨by decide, by decide⟩)⟩, hB10⟩
 try dsimp only at p22
 refine g9 6 ?_
 refine WC.cd (fun h36 p36 => ?_) (fun h36 p36 => ?_)
 ·try dsimp only at p36
  have hxs9 : (Opr.span (⟨pk, pkey, phi, po, pv, pl⟩ : Opr)).lo.b.size ≤ 300 ∧ (Opr.span (⟨pk, pkey, phi, po, pv, pl⟩ : Opr)).hi.b.size ≤ 300 := by
    rw [Opr.span, if_pos (.inr p36)]
    have h8 := hR.1
    dsimp only at h8 ⊢
    omega
  have hin9 : i64 pl := by
    have h8 := hR.2.2.2.1 p36
    dsimp only at h8
    exact ⟨om9, om9⟩
  obtain ⟨Msbt11, eMbt11, hBbt11⟩ := h_t
  subst eMbt11
  have hSbt11 : StR 60 4 3 189 139 b_s c G l Msbt11 := hBbt11
  refine WC.perm (M' := ((b_t, ce9 79 [pt9 b_s, sV cur.b]) :: ((b2, ce9 38 [iV 0, .bool false, sV ⟨#[]⟩, lV none 0 0]) :: ((b1, ce9 34 [iV pk, sV pkey.b, sV phi.b, .bool po, sV pv.b, iV pl]) :: (Msbt11 ++ []))))) (pmD (pmD pr9)).symm (WC.dw ((sn9.k9.cons _).k9) (d9 [0, 1, 2, 3, 4, 6, 7] ?_))
  refine WD.a1 5 rfl (W.qcall (Zkl _ _ _ _ _ _ (by first | assumption | omega | (dsimp only; omega))) rfl (W.nn (WD.a1 8 rfl (W.call (Mp := Msbt11) (ZkT hSbt11 t (Opr.span (⟨pk, pkey, phi, po, pv, pl⟩ : Opr)).lo (Opr.span (⟨pk, pkey, phi, po, pv, pl⟩ : Opr)).hi (Opr.span (⟨pk, pkey, phi, po, pv, pl⟩ : Opr)).opn pl hxs9 hin9) rfl (pmC (pmC (pmC pr9))) ?_))))
  intro v16 G13 Ms15 hG13 q14
  refine match q14 with | ⟨eeq14, _, e_18, hv12⟩ => ?_
  subst e_18
  have eeq14 := eeq14.symm
  subst eeq14
  refine W.perm (pmC (pmC (pmC pr9))).symm ?_
  have q20 := hv12.form
  refine match q20 with | ⟨sa_hv12, sc_hv12, e_19⟩ => ?_
  subst e_19
  refine W.nn (d9 [9, 10] ?_)
  refine WD.done (by kernel_rfl) (JX (Xf (g9 6 ?_)))
  have hB21 : BtR 60 4 3 189 139 79 b_t b_s c G13 (l, cur) ((b_t, ce9 79 [pt9 b_s, sV cur.b]) :: Msbt11) := ⟨_, rfl, (StR.mono hG13 hSbt11)⟩
  refine WC.perm (M' := ((b2, ce9 38 [iV 0, .bool false, sV ⟨#[]⟩, lV sa_hv12 (Ys (Zh l) (Opr.span (⟨pk, pkey, phi, po, pv, pl⟩ : Opr)) pl).length sc_hv12]) :: ((b1, ce9 34 [iV pk, sV pkey.b, sV phi.b, .bool po, sV pv.b, iV pl]) :: (((b_t, ce9 79 [pt9 b_s, sV cur.b]) :: Msbt11) ++ [])))) ((pmC (pmC pr9)).symm.trans (((pmC (pmC pr9)).cons _).trans pr9)) (WC.ret ?_)
  refine ⟨.inr rfl, [_], ⟨⟨_, _, _, _, _, rfl, YF (i := 0) rfl, Zcm, (by simp), rfl, rfl⟩, trivial⟩, ((b_t, ce9 79 [pt9 b_s, sV cur.b]) :: Msbt11), ((List.sublist_append_left _ _).cons _).cons _, ?_⟩
  exact ⟨_, l, DoP.scan t hgr hR p36, ⟨_, rfl, _, _, rfl, hv12, (show i64 0 from ⟨by decide, by decide⟩)⟩, hB21⟩
 try dsimp only at p36
 refine g9 3 ?_
 refine W.call (Mp := Ms_t) (ZrX h_t t pk pkey phi po pv pl k hR om9 hgr hk9) rfl (pmC (pmC pr9)) ?_
 intro v28 G25 Ms27 hG25 q26
 refine match q26 with | ⟨e22, l23, hW24, e_30, hR29⟩ => ?_
 subst e_30
 refine W.perm (pmC (pmC pr9)).symm (g9 12 ?_)
 refine ⟨.inr rfl, [_], ⟨⟨_, _, _, _, _, rfl, YF (i := 0) rfl, Zcm, (by simp), rfl, rfl⟩, trivial⟩, Ms27, ((List.sublist_append_left _ _).cons _).cons _, ?_⟩
 exact ⟨⟨e22, false, Str.nil, []⟩, l23, DoP.wr hR p22 p36 hW24, ⟨_, rfl, _, _, rfl, SlR.nil, by rcases hW24.r with ⟨h, _⟩ | ⟨h, _⟩ <;> rw [h] <;> exact ⟨by decide, by decide⟩⟩, hR29⟩

theorem Zgi {G : GH} {b_t b_s : Nat} {c : Cfg} {l : List Nd} {ss : List Seat} {cur : Str} {Ms_t : MH} (h_t : BtR 60 4 3 189 139 79 b_t b_s c G (l, cur) Ms_t) (t : Tree c l ss) :
    Fc Tryz.prog 15 [pt9 b_t] G Ms_t (fun v G' M' => ∃ N r, Yn c cur N l 0 0 = some r ∧ v = .tuple #[iV r.1, iV r.2.1] ∧ BtR 60 4 3 189 139 79 b_t b_s c G' (r.2.2, (if (Zn r.2.2 cur).s.opn = true then Str.nil else (Zn r.2.2 cur).s.hi)) M') := by
 have hp9 := t.pos
 obtain ⟨N9, r9, hN9, hr9⟩ := ZfU t cur
 obtain ⟨sT, tT, hmT⟩ := ZbN N9 t ⟨Int.le_refl _, om9⟩ hr9
 refine Fc.go [.tmp 2, .tmp 3] Tryz.func15 Tryz.ntmps15 rfl (fun w0 => (WC.perm (M' := (Ms_t ++ [])) (by simp) (g9 10 ?_)))
 refine W.ok (XB Zbx rfl rfl) (g9 6 ?_)
 obtain ⟨Msbt31, eMbt31, hBbt31⟩ := h_t
 subst eMbt31
 have hSbt31 : StR 60 4 3 189 139 b_s c G l Msbt31 := hBbt31
 refine WC.perm (M' := ((b_t, ce9 79 [pt9 b_s, sV cur.b]) :: (Msbt31 ++ []))) pr9.symm (WC.dw sn9.k9 (d9 [0, 1, 2, 3, 4, 5, 6, 7] ?_))
 refine WD.a1 8 rfl (W.call (Mp := Msbt31) (ZjC hSbt31 t cur rfl N9 r9 hr9 om9) rfl (pmC pr9) ?_)
 intro v35 G32 Ms34 hG32 q33
 refine match q33 with | ⟨e_37, hR36⟩ => ?_
 subst e_37
 refine W.perm (pmC pr9).symm (W.nn (d9 [9, 10, 11, 12, 13] ?_))
 refine g9 3 ?_
 refine WC.dw (sn9.cons _) (d9 [0, 1, 2, 3, 5, 6, 7] ?_)
 refine WD.any [4, 8] (by kernel_rfl) rfl ⟨WD.ap ?_, WD.ap ?_, trivial⟩
 ·refine g9 1 ?_
  refine W.nn (WD.a1 8 rfl (g9 1 ?_))
  refine W.nn (WD.a1 9 rfl (W.call (Mp := Ms34) (Zkq hR36 tT cur) rfl (pmC pr9) ?_))
  intro v41 G38 Ms40 hG38 q39
  refine match q39 with | ⟨eeq39, e_43⟩ => ?_
  subst e_43
  have eeq39 := eeq39.symm
  subst eeq39
  refine W.perm (pmC pr9).symm (W.nn (d9 [10, 11, 12] ?_))
  refine g9 10 ?_
  have hB44 : BtR 60 4 3 189 139 79 b_t b_s c G38 (r9.2.2, (if (Zn r9.2.2 cur).s.opn = true then Str.nil else (Zn r9.2.2 cur).s.hi)) ((b_t, ce9 79 [pt9 b_s, sV (if (Zn r9.2.2 cur).s.opn = true then Str.nil else (Zn r9.2.2 cur).s.hi).b]) :: Ms34) := ⟨_, rfl, (StR.mono hG38 hR36)⟩
  refine WC.perm (M' := (((b_t, ce9 79 [pt9 b_s, sV (if (Zn r9.2.2 cur).s.opn = true then Str.nil else (Zn r9.2.2 cur).s.hi).b]) :: Ms34) ++ [])) (pr9.symm.trans ((pr9.cons _).trans pr9)) (WC.ret ?_)
  refine ⟨.inr rfl, [_, _], ⟨rfl, rfl, trivial⟩, ((b_t, ce9 79 [pt9 b_s, sV (if (Zn r9.2.2 cur).s.opn = true then Str.nil else (Zn r9.2.2 cur).s.hi).b]) :: Ms34), List.sublist_append_left _ _, ?_⟩
  exact ⟨N9, r9, hr9, rfl, hB44⟩
 refine g9 1 ?_
 refine W.nn (WD.a1 4 rfl (g9 1 ?_))
 refine W.nn (WD.a1 9 rfl (W.call (Mp := Ms34) (Zkq hR36 tT cur) rfl (pmC pr9) ?_))
 intro v48 G45 Ms47 hG45 q46
 refine match q46 with | ⟨eeq46, e_50⟩ => ?_
 subst e_50
 have eeq46 := eeq46.symm
 subst eeq46
 refine W.perm (pmC pr9).symm (W.nn (d9 [10, 11, 12] ?_))
 refine g9 10 ?_
 have hB51 : BtR 60 4 3 189 139 79 b_t b_s c G45 (r9.2.2, (if (Zn r9.2.2 cur).s.opn = true then Str.nil else (Zn r9.2.2 cur).s.hi)) ((b_t, ce9 79 [pt9 b_s, sV (if (Zn r9.2.2 cur).s.opn = true then Str.nil else (Zn r9.2.2 cur).s.hi).b]) :: Ms34) := ⟨_, rfl, (StR.mono hG45 hR36)⟩
 refine WC.perm (M' := (((b_t, ce9 79 [pt9 b_s, sV (if (Zn r9.2.2 cur).s.opn = true then Str.nil else (Zn r9.2.2 cur).s.hi).b]) :: Ms34) ++ [])) (pr9.symm.trans ((pr9.cons _).trans pr9)) (WC.ret ?_)
 refine ⟨.inr rfl, [_, _], ⟨rfl, rfl, trivial⟩, ((b_t, ce9 79 [pt9 b_s, sV (if (Zn r9.2.2 cur).s.opn = true then Str.nil else (Zn r9.2.2 cur).s.hi).b]) :: Ms34), List.sublist_append_left _ _, ?_⟩
 exact ⟨N9, r9, hr9, rfl, hB51⟩

end Go.Proofs.YtbbemibbmbmamaaGreat
namespace Go.Fw
open Go Go.RowKit
structure Act32 where
  o : Opr
  fl : Int
instance : Inhabited Act32 := ⟨⟨default, 0⟩⟩
def ActC32 (cs : List Value) (x : Act32) : Prop := cs = [.int .i64 x.o.kind, .string x.o.key.b, .string x.o.hi.b, .bool x.o.opn, .string x.o.val.b, .int .i64 x.o.lim, .int .i64 x.fl] ∧ x.o.Ok ∧ i64 x.fl
def Zgj : Enc Act32 where
  k := 7
  w := 80
  R := fun _ cs x => ActC32 cs x
  mono := fun _ h => h
  len := fun h => by rw [h.1]; rfl
  one := fun h u hu => by rw [h.1] at hu; simp at hu; rcases hu with rfl | rfl | rfl | rfl | rfl | rfl | rfl <;> rfl
theorem ZsI {P : Program} {t i tn : TypeId} (ht : Zbi P t = some [(tn, 0, 6), (i, 6, 1)]) (hi : P.underlying i = some (.int .i64)) (hn : Dec P tn eOp) (hc : P.cellsOf t = 7) : Dec P t Zgj := by
  intro H enc w fuel cs x h hw
  obtain ⟨hl, hf⟩ := ZgP ht h hw
  obtain ⟨y0, n0, t0, w0⟩ := hf 0 _ _ _ rfl
  obtain ⟨y1, n1, t1, w1⟩ := hf 1 _ _ _ rfl
  obtain ⟨a0, e0, q0⟩ := hn enc w n0 _ y0 t0 w0
  obtain ⟨a1, e1, q1⟩ := ZaS hi t1 w1
  rw [hc] at hl
  match cs, hl with
  | [_, _, _, _, _, _, _], _ =>
    simp at e0 e1
    obtain ⟨e2, e3, e4, e5, e6, e7⟩ := e0
    subst e1 e2 e3 e4 e5 e6 e7
    exact ⟨⟨a0, a1⟩, rfl, q0, q1⟩
def Zaw (l : List Act32) : Int := (l.map fun a => max 0 a.fl).sum
theorem ZsJ {l : List Act32} {k : Nat} (hk : k < l.length) : Zaw (l.take (k + 1)) = Zaw (l.take k) + max 0 l[k].fl := by
  unfold Zaw
  rw [List.take_succ_eq_append_getElem hk, List.map_append, List.sum_append]
  simp
theorem ZsK (l : List Act32) : 0 ≤ Zaw l := by
  unfold Zaw
  induction l with
  | nil => simp
  | cons a l ih => rw [List.map_cons, List.sum_cons]; omega
def FewR (l : List Act32) : Prop := l.length ≤ 100 ∧ (∀ a ∈ l, (a.o.key.b.size : Int) ≤ 300 ∧ (a.o.hi.b.size : Int) ≤ 300 ∧ (a.o.val.b.size : Int) ≤ 300 ∧ a.fl ≤ 20) ∧ Zaw l ≤ 200
end Go.Fw
namespace Go.Proofs.YtbbemibbmbmamaaGreat
open Go Go.Fw Go.RowKit
attribute [local irreducible] Ok W WC
theorem ZkU {G : GH} (cfan : Int) (cleaf : Int) (cbud : Int) (cslots : Int) (crest : Int) :
    Fc Tryz.prog 10 [.agg #[iV cfan, iV cleaf, iV cbud, iV cslots, iV crest]] G [] (fun v G' M' => (¬ CfgR (⟨cfan, cleaf, cbud, cslots, crest⟩ : Cfg) ∧ v = .tuple #[.pointer none, iV 2] ∧ M' = []) ∨ (CfgR (⟨cfan, cleaf, cbud, cslots, crest⟩ : Cfg) ∧ ∃ bt bs, v = .tuple #[pt9 bt, iV 0] ∧ BtR 60 4 3 189 139 79 bt bs (⟨cfan, cleaf, cbud, cslots, crest⟩ : Cfg) G' ([Xc 0], Str.nil) M')) := by
 refine Fc.go [.tmp 2, .tmp 3] Tryz.func10 Tryz.ntmps10 rfl (fun w0 => (g9 2 ?_))
 refine W.box (L := [iV _, iV _, iV _, iV _, iV _]) rfl rfl (fun b1 => (g9 7 ?_))
 refine W.call (Mp := []) (Zty (cfan) (cleaf) (cbud) (cslots) (crest)) rfl pr9 ?_
 intro v5 G2 Ms4 hG2 q3
 refine Or.elim q3 (fun q6 => ?_) (fun q7 => ?_)
 ·refine match q6 with | ⟨hnc, e_8, e_9⟩ => ?_
  subst e_8
  subst e_9
  refine g9 25 ?_
  exact .inl ⟨hnc, rfl, rfl⟩
 refine match q7 with | ⟨hC, bSt, e_10, hS9⟩ => ?_
 subst e_10
 refine W.perm (pmC pr9).symm (g9 20 ?_)
 refine W.ok (ZE (L := [.pointer _, sV _]) Zop Zoo rfl rfl rfl) (W.box (L := [.pointer _, sV _]) rfl rfl (fun b11 => (g9 5 ?_)))
 refine ⟨.inr rfl, [_, _], ⟨rfl, rfl, trivial⟩, ((b11, ce9 79 [pt9 bSt, sV ⟨#[]⟩]) :: Ms4), ((List.sublist_append_left _ _).cons _).k9, ?_⟩
 exact .inr ⟨hC, _, _, rfl, _, rfl, hS9⟩

theorem ZsL {G : GH} {v_l : Value} {l : List Act32} (h_l : SlR Zgj G v_l l) :
    Fc Tryz.prog 8 [v_l] G [] (fun v G' M' => (∃ r, v = .bool r ∧ (r = true → FewR l)) ∧ M' = []) := by
 obtain ⟨sa_l, sc_l, rfl⟩ := h_l.form
 have hl := h_l.len47
 refine Fc.go [.tmp 2] Tryz.func8 Tryz.ntmps8 rfl (fun w0 => (g9 17 ?_))
 refine WC.loop (X := Nat) (fun k => [(3, iV (Zaw (l.take k))), (4, nt9 k), (0, lV sa_l l.length sc_l)]) (fun k _ Ml => Ml = [] ∧ k ≤ l.length ∧ k ≤ 101 ∧ (∀ j (h : j < l.length), j < k → ((l[j]).o.key.b.size : Int) ≤ 300 ∧ ((l[j]).o.hi.b.size : Int) ≤ 300 ∧ ((l[j]).o.val.b.size : Int) ≤ 300 ∧ (l[j]).fl ≤ 20) ∧ Zaw (l.take k) ≤ 20 * k) (fun k => l.length - k) 0 hs9 ?_ ?_
 ·exact ⟨rfl, om9, om9, fun j _ h => by omega, by simp [Zaw]⟩
 rintro k gG17 G17 _ hG17 ⟨rfl, hk, hk1, hj, hfs⟩
 have hfp := ZsK (l.take k)
 refine g9 8 ?_
 refine W.sd 9 (fun h8 p8 => ?_) (fun h8 p8 => ?_)
 ·refine g9 7 ?_
  refine WC.cd (fun h11 p11 => ?_) (fun h11 p11 => ?_)
  ·refine g9 9 ?_
   have q22 := (h_l.mono hG17).at (i := k) om9
   refine match q22 with | ⟨_, he18, ⟨e_21, ho_hm19, hf_hm19⟩⟩ => ?_
   subst e_21
   refine g9 3 ?_
   refine W.qcall (ZrM _ _ _ _ _ _ _) rfl (g9 2 ?_)
   refine W.sp 22 rfl (fun h21 => ?_) (fun h21 => ?_)
   ·refine g9 23 ?_
    exact ⟨⟨false, rfl, fun h => by cases h⟩, rfl⟩
   refine g9 5 ?_
   have q27 := (h_l.mono hG17).at (i := k) om9
   refine match q27 with | ⟨_, he23, ⟨e_26, ho_hm24, hf_hm24⟩⟩ => ?_
   subst e_26
   refine g9 10 ?_
   refine WC.cd (fun h28 p28 => ?_) (fun h28 p28 => ?_)
   ·refine g9 13 ?_
    exact ⟨⟨false, rfl, fun h => by cases h⟩, rfl⟩
   have hz := ZsJ (l := l) (k := k) om9
   refine g9 6 ?_
   have q32 := (h_l.mono hG17).at (i := k) om9
   refine match q32 with | ⟨_, he28, ⟨e_31, ho_hm29, hf_hm29⟩⟩ => ?_
   subst e_31
   refine g9 3 ?_
   refine W.ok (Zd7 rfl rfl) (g9 11 ?_)
   exact ⟨Le.rfl, k + 1, hs9, ⟨rfl, om9, om9, fun j h hji => by
      by_cases e2 : j = k
      · subst e2; have h9 := h21; simp at h9; exact ⟨h9.1, h9.2.1, h9.2.2, om9⟩
      · exact hj j h om9, om9⟩, om9⟩
  refine g9 11 ?_
  refine W.sd 41 (fun h40 p40 => ?_) (fun h40 p40 => ?_)
  ·refine g9 10 ?_
   exfalso; have p11 := odf h11; omega
  refine g9 8 ?_
  exact ⟨⟨false, rfl, fun h => by cases h⟩, rfl⟩
 refine g9 17 ?_
 refine W.sd 41 (fun h40 p40 => ?_) (fun h40 p40 => ?_)
 ·refine g9 10 ?_
  have hkl : k = l.length := by omega
  subst hkl
  refine ⟨⟨_, rfl, fun h => ⟨om9, fun a ha => ?_, ?_⟩⟩, rfl⟩
  · obtain ⟨j, hj9, rfl⟩ := List.getElem_of_mem ha
    exact hj j hj9 hj9
  have h9 := odt h; rwa [List.take_length] at h9
 refine g9 8 ?_
 exact ⟨⟨false, rfl, fun h => by cases h⟩, rfl⟩

theorem ZsM {G : GH} {b_t b_s : Nat} {c : Cfg} {l : List Nd} {ss : List Seat} {cur : Str} {M : MH} (h : BtR 60 4 3 189 139 79 b_t b_s c G (l, cur) M) (t : Tree c l ss) : Fc Tryz.prog 19 [pt9 b_t] G M (fun v G' M' => SlR ZF G' v l ∧ M' = M) := by
  obtain ⟨Ms, rfl, hS⟩ := h
  exact ZrV hS t
theorem ZkV {G : GH} {b_t b_s : Nat} {c : Cfg} {l : List Nd} {ss : List Seat} {cur : Str} {M : MH} (h : BtR 60 4 3 189 139 79 b_t b_s c G (l, cur) M) (t : Tree c l ss) : Fc Tryz.prog 18 [pt9 b_t] G M (fun v G' M' => SlR Zl G' v (Zh l) ∧ M' = M) := by
  obtain ⟨Ms, rfl, hS⟩ := h
  exact ZsE hS t
theorem ZkW {G : GH} {b_t b_s : Nat} {c : Cfg} {l : List Nd} {ss : List Seat} {cur : Str} {Ms_t : MH} (h_t : BtR 60 4 3 189 139 79 b_t b_s c G (l, cur) Ms_t) (t : Tree c l ss) :
    Fc Tryz.prog 21 [pt9 b_t] G Ms_t (fun v G' M' => v = .bool (X2 l) ∧ M' = Ms_t) := by
 refine Fc.go [.tmp 2] Tryz.func21 Tryz.ntmps21 rfl (fun w0 => (WC.perm (M' := (Ms_t ++ [])) (by simp) (g9 8 ?_)))
 refine W.call (Mp := Ms_t) (ZsM h_t t) rfl pr9 ?_
 intro v4 G1 Ms3 hG1 q2
 refine match q2 with | ⟨hR5, eeq2⟩ => ?_
 have eeq2 := eeq2.symm
 subst eeq2
 have q7 := hR5.form
 refine match q7 with | ⟨sa_hR5, sc_hR5, e_6⟩ => ?_
 subst e_6
 refine W.qcall (ZsH hR5) rfl (g9 5 ?_)
 refine ⟨.inr rfl, [_], ⟨rfl, trivial⟩, Ms_t, List.sublist_append_left _ _, ?_⟩
 exact ⟨congrArg Value.bool (ZrR l), rfl⟩

end Go.Proofs.YtbbemibbmbmamaaGreat
namespace Go.Fw
open Go Go.RowKit
section
variable {c : Cfg} {l l' : List Nd} {ss : List Seat} {o : Opr} {k : Int} {q : Str} {a : Ans}
theorem ZsN (m : List Pair) (o : Opr) : (doN m o).2.err = 0 ∨ (doN m o).2.err = 3 := by
  unfold doN
  split
  · exact .inr rfl
  · split
    · exact .inl rfl
    · split <;> exact .inl rfl
theorem DoP.full (h : DoP c k o l a l') (e : a.err = 4) : a = ⟨4, false, Str.nil, []⟩ ∧ Zh l' = Zh l ∧ o.kind ≤ 4 ∧ (doN (Zh l) o).2.err = 0 ∧ c.slots - (l'.length : Int) < 2 := by
  rcases h.r with ⟨h1, _⟩ | h1
  · rw [h1] at e
    have := ZsN (Zh l) o
    omega
  · exact h1
theorem DoP.fine (h : DoP c k o l a l') (e : ¬ a.err = 4) : a = (doN (Zh l) o).2 ∧ Zh l' = (doN (Zh l) o).1 := by
  rcases h.r with h1 | ⟨h1, _⟩
  · exact h1
  · exact absurd (by rw [h1]) e
theorem ZkX (hc : CfgR c) : Tree c [Xc 0] [JT (Xc 0)] := by
  have hR : (Xc 0).R c.fan c.leaf c.bud := by
    obtain ⟨_, ⟨h1, _⟩, _⟩ := hc
    refine ⟨⟨by decide, by decide, by decide⟩, fun _ => ⟨rfl, rfl⟩, fun h => (by cases h), ?_⟩
    rw [if_pos (show (Xc 0).level = 0 from rfl)]
    refine ⟨rfl, by show (0 : Int) ≤ _; omega, (fun i h => absurd h (Nat.not_lt_zero i)), fun i hi => absurd hi (Nat.not_lt_zero i)⟩
  exact ZiG hc rfl rfl (by decide) hR rfl (Zbe hc hR)
theorem ZkY : Zh [Xc 0] = [] := Zfb (n := Xc 0) rfl rfl (by decide)
theorem ZkZ : Grown c 0 [Xc 0] := ⟨fun n hn => by simp at hn; subst hn; exact Int.le_refl _, Int.le_refl _, Int.le_refl _, by
  have : Xe c [Xc 0] = 1 := by
    show Yr c (Xc 0) + 0 = 1
    rw [Zaa (show (Xc 0).level = 0 from rfl)]
    show 1 + (0 - _) + 0 = 1
    omega
  omega⟩
theorem ZsO {N : Nat} {r : Int × Int × List Nd} (t : Tree c l ss) (hg : Grown c k l) (hr : Yn c q N l 0 0 = some r) : (∃ T, Tree c r.2.2 T) ∧ Zh r.2.2 = Zh l ∧ Grown c k r.2.2 ∧ (r.2.1 = 0 ∨ (r.2.1 = 4 ∧ c.slots - (r.2.2.length : Int) < 2)) := by
  have ha : (0 : Int) ≤ 0 ∧ (0 : Int) < l.length := ⟨Int.le_refl _, by have := t.pos; omega⟩
  obtain ⟨T, hT, hm⟩ := ZbN N t ha hr
  exact ⟨⟨T, hT⟩, hm, hg.cyc t hr, ZcD N t ha hr⟩
end
section
variable {c : Cfg} {l : List Nd} {ss : List Seat} {k : Str}
theorem Zk0 (t : Tree c l ss) (k : Str) : ∀ (n : Nat) (x : Seat), x ∈ ss → x.n.level.toNat = n → x.s.has k = true → ∀ q, (Zn l k).s.has q = true → x.s.has q = true
  | 0, x, hx, hn, hk, q, hq => by
    have := t.lvl hx
    rw [t.leaf_eq hx hk (by omega)]; exact hq
  | n + 1, x, hx, hn, hk, q, hq => by
    have h0 : ¬ x.n.level ≤ 0 := by omega
    have hj := t.route hx h0 k
    have ha := t.at hx (by omega) hj
    have hr := t.right hx h0
    have hkid : (Zb l x (Ze x.n.pivots k)).s.has k = true := by
      have e : (Zb l x (Ze x.n.pivots k)).s.has k = (x.s.has k && (Zf x.n.pivots ((Ze x.n.pivots k : Nat) : Int)).has k) := ZI _ _ _
      rw [e, hk, Xu (j := Ze x.n.pivots k) (YR hr).1 k (List.length_filter_le _ _)]
      simp
    have := Zk0 t k n (Zb l x (Ze x.n.pivots k)) ha.1 (by omega) hkid q hq
    exact Zbb q this
theorem ZsP {p n : Nd} {i : Int} (hp : ZK c p = false) (hl : 0 < n.level) : ¬ ZV c p n i = 0 := by
  unfold ZV
  split
  · rw [hp]; simp
  · split
    · simp
    · simp [hl]
theorem ZsQ {N : Nat} {r : Int × Int × List Nd} (t : Tree c l ss) (hr : Yn c k N l 0 0 = some r) (h1 : r.1 = 0) (h2 : r.2.1 = 0) : ∀ x ∈ ss, x.s.has k = true → x.n.msgs = [] := by
  have key : ∀ x ∈ ss, x.s.has k = true → x.n.msgs = [] ∧ (x.n.level = 0 ∨ (ZK c x.n = false ∧ ∃ m n, Yn c k m l x.n.slot n = some r ∧ r.1 = n)) := by
    have ha0 : (0 : Int) ≤ 0 ∧ (0 : Int) < l.length := ⟨Int.le_refl _, by have := t.pos; omega⟩
    refine t.ind (fun _ => ?_) fun x hx h0 hP j hj hk => ?_
    · have hm : (Za l 0).msgs = [] := by
        apply Classical.byContradiction
        intro hn
        rcases ZjY t (List.length_pos_iff.2 hn) hr with h | h <;> omega
      rw [t.root0, t.rootn]
      refine ⟨hm, ?_⟩
      by_cases h0 : (Za l 0).level = 0
      · exact .inl h0
      · refine .inr ⟨?_, N, 0, hr, h1⟩
        cases hf : ZK c (Za l 0)
        · rfl
        · exfalso
          have hc1 : (Zv c (Za l 0) k).1 = 1 := by rw [ZfD h0 (YI t.slot ha0).1 hf]
          obtain ⟨m, rfl⟩ : ∃ m, N = m + 1 := by
            cases N with
            | zero => cases hr
            | succ m => exact ⟨m, rfl⟩
          by_cases h3 : (ZN c l).1 = 0
          · have e := Jc (k := k) hc1 h3
            rw [Y9 (by rw [e]; simp) (by rw [e]; simp)] at hr
            have := J9 m hr
            omega
          · have e := Jd (k := k) hc1 h3
            rw [Y4 (by rw [e])] at hr
            cases hr
            rw [e] at h2
            exact h3 h2
    · have hx2 := Zbb k hk
      obtain ⟨hm, hc⟩ := hP hx2
      rcases hc with hc | ⟨hf, m, n, hcy, hrn⟩
      · exact absurd hc h0
      · have hat := t.at hx h0 hj
        have hnd := t.nd hx
        have hlx := t.lvl hx
        have ha : 0 ≤ x.n.slot ∧ x.n.slot < l.length := hnd.1
        have eg : Za l x.n.slot = x.n := hnd.2.1.symm
        have hje : j = Ze x.n.pivots k := by
          have e : (Zb l x j).s.has k = (x.s.has k && (Zf x.n.pivots (j : Int)).has k) := ZI _ _ _
          have hrr := (Z8 (t.kids hx) h0)
          have hR := t.right hx (by omega)
          have hl9 := (YR hR).2
          rw [e, hx2, Xu (YR hR).1 k (by omega)] at hk
          simpa using hk
        have hch : Zv c (Za l x.n.slot) k = (2, ((Ze x.n.pivots k : Nat) : Int)) := by
          rw [eg]
          exact ZfF h0 (fun e => by rw [hf] at e; cases e.2) (by rw [hm, Zjs (by simp)])
        have hc1 : (Zv c (Za l x.n.slot) k).1 = 2 := by rw [hch]
        obtain ⟨h00, hi⟩ := JH t ha hc1
        obtain ⟨Q, s⟩ := Js t ha h00 hi
        have hst := XY hc1
        rw [hch] at hst hi s
        dsimp only at hst hi s
        rw [← hje] at hst hi s
        have hQ : Q = x := t.uniq s.mem hx s.slot
        subst hQ
        have hkn : (Zb l Q j).n = Zi l Q.n.slot (j : Int) := s.kid
        obtain ⟨k1, k2, k3, k4⟩ := ZaK t s
        obtain ⟨m2, rfl⟩ : ∃ m2, m = m2 + 1 := by
          cases m with
          | zero => cases hcy
          | succ m2 => exact ⟨m2, rfl⟩
        rcases XO c (Za l Q.n.slot) (Zi l Q.n.slot (j : Int)) (j : Int) with hd | hd | ⟨hd, _⟩ | hd
        · have hl0 : (Zb l Q j).n.level = 0 := by
            have h3 := t.lvl hat.1
            apply Classical.byContradiction
            intro hn
            rw [hkn] at h3 hn
            exact ZsP (by rw [eg]; exact hf) (by omega) hd
          exact ⟨t.nomsgs hat.1 hl0, .inl hl0⟩
        · exfalso
          by_cases h3 : (ZG c l Q.n.slot (j : Int)).1 = 0
          · have e := hst.trans (XZ hd h3)
            rw [Y9 (by rw [e]; simp) (by rw [e]; simp)] at hcy
            have := J9 m2 hcy
            omega
          · have e := hst.trans (X0 hd h3)
            rw [Y4 (by rw [e])] at hcy
            cases hcy
            rw [e] at h2
            exact h3 h2
        · exfalso
          have e := hst.trans (YP hd)
          rw [Y9 (by rw [e]; simp) (by rw [e]; simp)] at hcy
          have := J9 m2 hcy
          omega
        · have e := hst.trans (X1 hd)
          obtain ⟨d1, d2, d3⟩ := ZdE hd
          rw [Jf (by rw [e])] at hcy
          rw [e] at hcy
          dsimp only at hcy
          rw [hkn]
          refine ⟨?_, .inr ⟨d2, m2, n, hcy, hrn⟩⟩
          apply Classical.byContradiction
          intro hn
          rcases prog m2 t k4 (by rw [k3]; omega) (by rw [k3]; exact List.length_pos_iff.2 hn) (by rw [k3]; exact d2) hcy with h | h <;> omega
  exact fun x hx hk => (key x hx hk).1
theorem Tree.span_ne (t : Tree c l ss) {x : Seat} (hx : x ∈ ss) : x.s.empty = false := by
  rcases t.from hx with rfl | ⟨y, hy, h0, j, hj, rfl⟩
  · rfl
  · cases h : (Zb l y j).s.empty
    · rfl
    · exfalso
      have hz : (Zb l y j).s = Span.zero := by
        have := XR y.s (Zf y.n.pivots (j : Int))
        have e : (Zb l y j).s = (Zb l y j).s.norm := this.symm
        rw [e]; unfold Span.norm; rw [if_pos h]
      have sK := t.seat hx
      obtain ⟨⟨p1, p2⟩, _⟩ := sK.2.1
      rw [hz] at p1 p2
      exact absurd p2 (sK.1.2.2.1 p1).1
def CleanTo (ss : List Seat) (cur : Str) : Prop := ∀ x ∈ ss, x.s.lo.lt cur = true → x.n.msgs = []
theorem ZsR (ss : List Seat) : CleanTo ss Str.nil := fun x _ h => by
  have : x.s.lo.lt Str.nil = false := Str.nil_le _
  rw [this] at h; cases h
theorem ZsS {cur : Str} {N : Nat} {r : Int × Int × List Nd} (t : Tree c l ss) (hC : CleanTo ss cur) (hr : Yn c cur N l 0 0 = some r) (h1 : r.1 = 0) (h2 : r.2.1 = 0) :
    ∀ x ∈ ss, ((Zn l cur).s.opn = true ∨ x.s.lo.lt (Zn l cur).s.hi = true) → x.n.msgs = [] := fun x hx hh => by
  cases h3 : x.s.lo.lt cur
  · have hy := t.leafOk cur
    have hyl : (Zn l cur).s.has x.s.lo = true := by
      have h4 := (Yi.1 hy.has).1
      exact Yi.2 ⟨Str.le_trans h4 h3, hh⟩
    have e := t.leaf_eq hy.mem hyl hy.lvl
    have hxl := ZiO (t.span_ne hx)
    have h5 := Zk0 t x.s.lo _ x hx rfl hxl cur (by rw [← e]; exact hy.has)
    exact ZsQ t hr h1 h2 x hx h5
  · exact hC x hx h3
theorem ZsT (t : Tree c l ss) (h : ∀ x ∈ ss, x.n.msgs = []) : X2 l = true := ZrS fun j hj => by
  have hm : l[j] ∈ l := List.getElem_mem hj
  have := (t.perm.mem_iff).2 hm
  obtain ⟨x, hx, e⟩ := List.mem_map.1 this
  rw [← e, h x hx]; rfl
end
section
variable {c : Cfg} {l l' : List Nd} {ss : List Seat} {k cur : Str}
noncomputable def spL (l : List Nd) : List Span := (ZC ((JJ l 0).getD [])).map fun x => x.s
theorem Tree.sp (t : Tree c l ss) : spL l = (ZC ss).map fun x => x.s := by unfold spL; rw [t.sts]; rfl
theorem Tree.sp_len (t : Tree c l ss) : (spL l).length ≤ 4096 := by
  rw [t.sp, List.length_map]
  have h1 : (ZC ss).length ≤ ss.length := List.length_filter_le _ _
  have h2 := t.len
  have h3 := t.sml.1
  omega
theorem Zk1 {g : Seat → Seat} : ∀ {L : List Seat}, (∀ x ∈ L, (g x).n.level = x.n.level ∧ (g x).s = x.s) → (ZC (L.map g)).map (fun x => x.s) = (ZC L).map fun x => x.s
  | [], _ => rfl
  | x :: L, h => by
    have h1 := h x (by simp)
    have ih := Zk1 (L := L) fun y hy => h y (List.mem_cons_of_mem _ hy)
    unfold ZC at ih ⊢
    rw [List.map_cons, List.filter_cons, List.filter_cons, h1.1]
    split
    · rw [List.map_cons, List.map_cons, h1.2, ih]
    · exact ih
theorem ZsU (t : Tree c l ss) {a : Int} (ha : 0 ≤ a ∧ a < l.length) (k : Str) : l.length < (Zt c l a k).2.length ∨ ((Zt c l a k).2.length = l.length ∧ spL (Zt c l a k).2 = spL l) := by
  rcases Je c (Za l a) k with h | h | ⟨h, _⟩
  · rw [Jb h]; exact .inr ⟨rfl, rfl⟩
  · by_cases h3 : (ZN c l).1 = 0
    · rw [Jc h h3]; exact .inl (Zkn h3)
    · rw [Jd h h3, ZfZ h3]; exact .inr ⟨rfl, rfl⟩
  · obtain ⟨h0, hi⟩ := JH t ha h
    obtain ⟨P, s⟩ := Js t ha h0 hi
    rw [XY h]
    generalize (Zv c (Za l a) k).2 = i at *
    rcases XO c (Za l a) (Zi l a i) i with hd | hd | ⟨hd, hd2⟩ | hd
    · rw [Jr hd]; exact .inr ⟨rfl, rfl⟩
    · by_cases h3 : (ZG c l a i).1 = 0
      · rw [XZ hd h3]
        refine .inl ?_
        dsimp only
        unfold ZG at h3 ⊢
        split at h3
        · cases h3
        · rename_i h4
          rw [if_neg h4]
          unfold Xm at h3 ⊢
          split at h3
          · cases h3
          · rename_i h5
            rw [if_neg h5]
            split at h3
            · cases h3
            · rename_i h6
              rw [if_neg h6]
              split at h3
              · cases h3
              · rename_i h7
                rw [if_neg h7]
                split at h3
                · cases h3
                · rename_i h8
                  rw [if_neg h8]
                  unfold JG
                  simp
      · rw [X0 hd h3, ZfY h3]; exact .inr ⟨rfl, rfl⟩
    · rw [YP hd]
      obtain ⟨T, p⟩ := s.pour t hd2
      refine .inr ⟨p.len, ?_⟩
      dsimp only
      rw [p.tree.sp, t.sp]
      exact Zk1 fun x hx => ⟨(p.g_same x hx).2.1, (p.g_same x hx).2.2.2.2.2⟩
    · rw [X1 hd]; exact .inr ⟨rfl, rfl⟩
theorem Zk2 : ∀ (m : Nat) {l : List Nd} {ss : List Seat} {a n : Int} {r : Int × Int × List Nd}, Tree c l ss → 0 ≤ a ∧ a < l.length → Yn c k m l a n = some r → l.length < r.2.2.length ∨ (r.2.2.length = l.length ∧ spL r.2.2 = spL l)
  | 0, _, _, _, _, _, _, _, h => by cases h
  | m + 1, l, ss, a, n, r, t, ha, h => by
    obtain ⟨T, hT, _⟩ := J8 t ha k
    have hnx := Zas t ha k
    have hs := ZsU t ha k
    have go : ∀ {n'}, Yn c k m (Zt c l a k).2 (Zt c l a k).1.2.1 n' = some r → l.length < r.2.2.length ∨ (r.2.2.length = l.length ∧ spL r.2.2 = spL l) := fun h9 => by
      rcases Zk2 m hT hnx h9 with h1 | ⟨h1, h2⟩ <;> rcases hs with h3 | ⟨h3, h4⟩
      · exact .inl (by omega)
      · exact .inl (by omega)
      · exact .inl (by omega)
      · exact .inr ⟨by omega, h2.trans h4⟩
    by_cases h1 : (Zt c l a k).1.1 = 0
    · rw [Y4 h1] at h
      cases h
      exact hs
    · by_cases h2 : (Zt c l a k).1.1 = 5
      · rw [Jf h2] at h; exact go h
      · rw [Y9 h1 h2] at h; exact go h
noncomputable def ZaP (l : List Nd) (cur : Str) : Nat := ((spL l).filter fun s => !s.opn && !cur.lt s.hi).length
noncomputable def ZbX (l : List Nd) (cur : Str) : Nat := ((spL l).filter fun s => !s.opn && cur.lt s.hi).length
theorem Zgk {α : Type} {p q : α → Bool} : ∀ {L : List α}, (∀ x ∈ L, p x = true → q x = true) → (∃ x ∈ L, q x = true ∧ p x = false) → (L.filter p).length < (L.filter q).length
  | [], _, h => by obtain ⟨x, hx, _⟩ := h; cases hx
  | a :: L, h, hx => by
    have hle : ∀ {M : List α}, (∀ x ∈ M, p x = true → q x = true) → (M.filter p).length ≤ (M.filter q).length := by
      intro M hM
      induction M with
      | nil => exact Nat.le_refl _
      | cons b M ih =>
        have h1 := ih fun x hx => hM x (List.mem_cons_of_mem _ hx)
        have h2 := hM b (by simp)
        rw [List.filter_cons, List.filter_cons]
        cases hp : p b
        · cases q b <;> simp <;> omega
        · rw [h2 hp]; simp; omega
    have hL : ∀ x ∈ L, p x = true → q x = true := fun x hx => h x (List.mem_cons_of_mem _ hx)
    rw [List.filter_cons, List.filter_cons]
    obtain ⟨x, hx, h1, h2⟩ := hx
    rcases List.mem_cons.1 hx with rfl | hx
    · rw [h1, h2]; have := hle hL; simp; omega
    · have ih := Zgk hL ⟨x, hx, h1, h2⟩
      cases hp : p a
      · cases q a <;> simp <;> omega
      · rw [h a (by simp) hp]; simp; omega
theorem Zk3 (t : Tree c l ss) (k : Str) : (Zn l k).s ∈ spL l := by
  rw [t.sp]
  have h := t.leafOk k
  exact List.mem_map.2 ⟨_, List.mem_filter.2 ⟨h.mem, decide_eq_true h.lvl⟩, rfl⟩
theorem Zgl (t : Tree c l ss) (k : Str) (ho : (Zn l k).s.opn = false) : k.lt (Zn l k).s.hi = true := by
  rcases (Yi.1 (t.leafOk k).has).2 with h | h
  · rw [ho] at h; cases h
  · exact h
theorem ZsV (t : Tree c l ss) (k : Str) (ho : (Zn l k).s.opn = false) : ZaP l k < ZaP l (Zn l k).s.hi := by
  have h1 := Zgl t k ho
  refine Zgk (fun s _ h => ?_) ⟨_, Zk3 t k, ?_, ?_⟩
  · rw [Bool.and_eq_true] at h ⊢
    refine ⟨h.1, ?_⟩
    have h2 : k.lt s.hi = false := by simpa using h.2
    have h3 : (Zn l k).s.hi.lt s.hi = false := by
      cases h4 : (Zn l k).s.hi.lt s.hi
      · rfl
      · rw [Str.lt_trans h1 h4] at h2; cases h2
    rw [h3]; rfl
  · rw [ho, Str.lt_irrefl]; rfl
  · rw [ho, h1]; rfl
theorem ZsW (t : Tree c l ss) (k : Str) (ho : (Zn l k).s.opn = false) : ZbX l (Zn l k).s.hi < ZbX l k := by
  have h1 := Zgl t k ho
  refine Zgk (fun s _ h => ?_) ⟨_, Zk3 t k, ?_, ?_⟩
  · rw [Bool.and_eq_true] at h ⊢
    exact ⟨h.1, Str.lt_trans h1 h.2⟩
  · rw [ho, h1]; rfl
  · rw [ho, Str.lt_irrefl]; rfl
theorem Zk4 (t : Tree c l ss) (k : Str) : ZaP l k ≤ 4096 := Nat.le_trans (List.length_filter_le _ _) t.sp_len
theorem Zk5 (t : Tree c l ss) (k : Str) : ZbX l k ≤ 4096 := Nat.le_trans (List.length_filter_le _ _) t.sp_len
end
section
variable {c : Cfg} {l0 l : List Nd} {ss : List Seat} {k cur : Str} {did : Int}
theorem Zgm : ∀ (m : Nat) {l : List Nd} {a n : Int} {r : Int × Int × List Nd}, Yn c k m l a n = some r → Yn c k (m + 1) l a n = some r
  | 0, _, _, _, _, h => by cases h
  | m + 1, l, a, n, r, h => by
    by_cases h1 : (Zt c l a k).1.1 = 0
    · rw [Y4 h1] at h ⊢; exact h
    · by_cases h2 : (Zt c l a k).1.1 = 5
      · rw [Jf h2] at h ⊢; exact Zgm m h
      · rw [Y9 h1 h2] at h ⊢; exact Zgm m h
theorem Zk6 {m n : Nat} (hmn : m ≤ n) {l : List Nd} {a b : Int} {r : Int × Int × List Nd} (h : Yn c k m l a b = some r) : Yn c k n l a b = some r := by
  obtain ⟨d, rfl⟩ : ∃ d, n = m + d := ⟨n - m, by omega⟩
  induction d with
  | zero => exact h
  | succ d ih => exact Zgm _ (ih (by omega))
theorem Zgn : ∀ (m : Nat) {l : List Nd} {a n : Int} {r : Int × Int × List Nd}, Yn c k m l a n = some r → r.1 ≤ n + m
  | 0, _, _, _, _, h => by cases h
  | m + 1, l, a, n, r, h => by
    by_cases h1 : (Zt c l a k).1.1 = 0
    · rw [Y4 h1] at h; cases h; dsimp only; omega
    · by_cases h2 : (Zt c l a k).1.1 = 5
      · rw [Jf h2] at h; have := Zgn m h; omega
      · rw [Y9 h1 h2] at h; have := Zgn m h; omega
theorem ZsX {N : Nat} {r : Int × Int × List Nd} (t : Tree c l ss) (h : Yn c k N l 0 0 = some r) : 0 ≤ r.1 ∧ r.1 ≤ 200000 := by
  obtain ⟨M, r', hM, hr'⟩ := ZfU t k
  have e : r = r' := by
    have h1 := Zk6 (Nat.le_max_left N M) h
    have h2 := Zk6 (Nat.le_max_right N M) hr'
    exact Option.some.inj (h1.symm.trans h2)
  subst e
  have := Zgn M hr'
  have := J9 M hr'
  omega
noncomputable def X5 (l : List Nd) (cur : Str) : Str := if (Zn l cur).s.opn = true then Str.nil else (Zn l cur).s.hi
theorem Zgo (h : (Zn l cur).s.opn = true) : X5 l cur = Str.nil := if_pos h
theorem ZdS (h : (Zn l cur).s.opn = false) : X5 l cur = (Zn l cur).s.hi := if_neg (by rw [h]; simp)
theorem Zgp (t : Tree c l ss) (h : (Zn l cur).s.opn = false) : ¬ X5 l cur = Str.nil := fun e => by
  have h1 := Zgl t cur h
  rw [← ZdS h, e, Str.nil_le] at h1
  cases h1
noncomputable def Zbd (l : List Nd) (cur : Str) : Int := if cur = Str.nil then 4097 else (ZaP l cur : Nat)
theorem ZsY (l : List Nd) : Zbd l Str.nil = 4097 := if_pos rfl
theorem Zk7 (h : ¬ cur = Str.nil) : Zbd l cur = (ZaP l cur : Nat) := if_neg h
theorem Zk8 (l : List Nd) (cur : Str) : 0 ≤ Zbd l cur := by unfold Zbd; split <;> omega
theorem Zk9 (t : Tree c l ss) (cur : Str) : Zbd l cur ≤ 4097 := by
  have := Zk4 t cur
  unfold Zbd; split <;> omega
structure DrI (c : Cfg) (l0 l : List Nd) (cur : Str) (did : Int) : Prop where
  t : ∃ T, Tree c l T
  m : Zh l = Zh l0
  g : ∀ k, Grown c k l0 → Grown c k l
  d0 : 0 ≤ did
  db : did ≤ 200001 * ((l.length : Int) * 5000 + Zbd l cur + 1)
  cl : did = 0 → c.slots - (l.length : Int) < 2 ∨ ∀ ss, Tree c l ss → if cur = Str.nil then ∀ x ∈ ss, x.n.msgs = [] else CleanTo ss cur
noncomputable def muD (c : Cfg) (l : List Nd) (cur : Str) (did : Int) : Nat := muL c l * 20000 + (if did = 0 then 0 else 10000) + (if cur = Str.nil then 0 else 1 + ZbX l cur)
theorem ZsZ (t : Tree c l ss) (cur : Str) : DrI c l l cur 1 := ⟨⟨_, t⟩, rfl, fun _ h => h, by omega, by have := Zk8 l cur; omega, fun h => absurd h (by decide)⟩
theorem Zla (h : DrI c l0 l cur did) : did ≤ 4100000000000 := by
  obtain ⟨T, t⟩ := h.t
  have h1 := t.sml.1
  have h2 := Zk9 t cur
  have h3 := h.db
  omega
theorem Zs0 (h : DrI c l0 l Str.nil 0) (hq : X2 l = false) : c.slots - (l.length : Int) < 2 := by
  obtain ⟨T, t⟩ := h.t
  rcases h.cl rfl with h1 | h1
  · exact h1
  · have h2 := h1 T t
    rw [if_pos rfl] at h2
    rw [ZsT t h2] at hq
    cases hq
theorem Zlb {N : Nat} {r : Int × Int × List Nd} (h : DrI c l0 l cur did) (hc : cur = Str.nil → ¬ did = 0) (hr : Yn c cur N l 0 0 = some r) :
    DrI c l0 r.2.2 (X5 r.2.2 cur) ((if cur = Str.nil then 0 else did) + r.1) ∧ muD c r.2.2 (X5 r.2.2 cur) ((if cur = Str.nil then 0 else did) + r.1) < muD c l cur did := by
  obtain ⟨T, t⟩ := h.t
  have ha : (0 : Int) ≤ 0 ∧ (0 : Int) < l.length := ⟨Int.le_refl _, by have := t.pos; omega⟩
  obtain ⟨T2, t2, hm2⟩ := ZbN N t ha hr
  obtain ⟨n0, n1⟩ := ZsX t hr
  have hmu := ZdI N t ha hr
  have her := ZcD N t ha hr
  have hsp := Zk2 N t ha hr
  have hd0 := h.d0
  have hdb := h.db
  have hpq := Zk8 r.2.2 (X5 r.2.2 cur)
  have hp1 := Zk9 t cur
  have hrg := Zk5 t2 (X5 r.2.2 cur)
  generalize hd : (if cur = Str.nil then (0 : Int) else did) = d0 at *
  have hd1 : 0 ≤ d0 := by rw [← hd]; split <;> omega
  refine ⟨⟨⟨T2, t2⟩, hm2.trans h.m, fun q hq => (h.g q hq).cyc t hr, by omega, ?_, fun hz => ?_⟩, ?_⟩
  · -- the bound
    by_cases hn : cur = Str.nil
    · rw [if_pos hn] at hd; omega
    · rw [if_neg hn] at hd
      rw [Zk7 hn] at hdb hp1
      rcases hsp with h1 | ⟨h1, h2⟩
      · omega
      · cases ho : (Zn r.2.2 cur).s.opn
        · have h3 := ZsV t2 cur ho
          have e : ZaP r.2.2 cur = ZaP l cur := by unfold ZaP; rw [h2]
          rw [Zk7 (Zgp t2 ho), ZdS ho]
          rw [e] at h3
          omega
        · have h4 := Zk4 t cur
          rw [Zgo ho, ZsY]; omega
  · -- nothing was done
    have hz1 : r.1 = 0 := by omega
    have hz0 : d0 = 0 := by omega
    have el : r.2.2 = l := hmu.2 (by omega)
    rcases her with h1 | ⟨_, h1⟩
    · have hC : ∀ ss, Tree c l ss → c.slots - (l.length : Int) < 2 ∨ CleanTo ss cur := fun S tS => by
        by_cases hn : cur = Str.nil
        · rw [hn]; exact .inr (ZsR S)
        · rw [if_neg hn] at hd
          rcases h.cl (by omega) with h2 | h2
          · exact .inl h2
          · have := h2 S tS
            rw [if_neg hn] at this
            exact .inr this
      rw [el] at *
      rcases hC T t with h2 | h2
      · exact .inl h2
      · refine .inr fun S tS => ?_
        have eS : S = T := Option.some.inj (tS.sts.symm.trans t.sts)
        subst eS
        have hs := ZsS t h2 hr hz1 h1
        cases ho : (Zn l cur).s.opn
        · rw [if_neg (Zgp t ho), ZdS ho]
          exact fun x hx hl => hs x hx (.inr hl)
        · rw [if_pos (Zgo ho)]
          exact fun x hx => hs x hx (.inl ho)
    · exact .inl h1
  · -- the measure
    unfold muD
    by_cases hp : 0 < r.1
    · have h1 := hmu.1 hp
      have h2 : (if d0 + r.1 = 0 then 0 else 10000 : Nat) ≤ 10000 := by split <;> omega
      have h3 : (if X5 r.2.2 cur = Str.nil then 0 else 1 + ZbX r.2.2 (X5 r.2.2 cur) : Nat) ≤ 4097 := by split <;> omega
      omega
    · have hz1 : r.1 = 0 := by omega
      have el : r.2.2 = l := hmu.2 (by omega)
      rw [el] at *
      rw [hz1, Int.add_zero]
      by_cases hn : cur = Str.nil
      · rw [if_pos hn] at hd
        have h5 := hc hn
        rw [← hd, if_pos rfl, if_neg h5]
        have h6 := Zk5 t (X5 l cur)
        have h3 : (if X5 l cur = Str.nil then 0 else 1 + ZbX l (X5 l cur) : Nat) ≤ 4097 := by split <;> omega
        omega
      · rw [if_neg hn] at hd
        rw [← hd, if_neg hn]
        cases ho : (Zn l cur).s.opn
        · rw [if_neg (Zgp t ho), ZdS ho]
          have := ZsW t cur ho
          omega
        · rw [if_pos (Zgo ho)]; omega
structure DrP (c : Cfg) (l : List Nd) (e : Int) (l' : List Nd) : Prop where
  t : ∃ T, Tree c l' T
  m : Zh l' = Zh l
  g : ∀ k, Grown c k l → Grown c k l'
  r : (e = 0 ∧ X2 l' = true) ∨ (e = 4 ∧ X2 l' = false ∧ c.slots - (l'.length : Int) < 2)
theorem Zs1 (h : DrI c l0 l cur did) (hq : X2 l = true) : DrP c l0 0 l := ⟨h.t, h.m, h.g, .inl ⟨rfl, hq⟩⟩
theorem Zs2 (h : DrI c l0 l cur did) (hc : cur = Str.nil) (hd : did = 0) (hq : X2 l = false) : DrP c l0 4 l := ⟨h.t, h.m, h.g, .inr ⟨rfl, hq, by subst hc hd; exact Zs0 h hq⟩⟩
end
end Go.Fw
namespace Go.Proofs.YtbbemibbmbmamaaGreat
open Go Go.Fw Go.RowKit
attribute [local irreducible] Ok W WC
theorem Zs3 {G : GH} {b_t b_s : Nat} {c : Cfg} {l : List Nd} {ss : List Seat} {cur : Str} {Ms_t : MH} (h_t : BtR 60 4 3 189 139 79 b_t b_s c G (l, cur) Ms_t) (t : Tree c l ss) :
    Fc Tryz.prog 16 [pt9 b_t] G Ms_t (fun v G' M' => ∃ e l' cur', v = iV e ∧ DrP c l e l' ∧ BtR 60 4 3 189 139 79 b_t b_s c G' (l', cur') M') := by
 refine Fc.go [.tmp 2] Tryz.func16 Tryz.ntmps16 rfl (fun w0 => (WC.perm (M' := (Ms_t ++ [])) (by simp) (g9 9 ?_)))
 refine W.ok (XB Zbx rfl rfl) (g9 12 ?_)
 refine WC.loop (X := ((List Nd × Str) × Int) × MH) (fun x => [(3, iV x.1.2), (0, pt9 b_t)]) (fun x G Ml => Ml = (x.2 ++ []) ∧ BtR 60 4 3 189 139 79 b_t b_s c G (x.1.1) x.2 ∧ DrI c l x.1.1.1 x.1.1.2 x.1.2) (fun x => muD c x.1.1.1 x.1.1.2 x.1.2) ((((l, cur), 1) : (List Nd × Str) × Int), Ms_t) hs9 ?_ ?_
 ·exact ⟨rfl, (by exact h_t), ZsZ t cur⟩
 rintro ⟨⟨⟨L, cu⟩, d⟩, M_0⟩ gG1 G1 _ hG1 ⟨rfl, ho_0, hI⟩
 try dsimp only at ho_0 hI
 obtain ⟨T8, t9⟩ := hI.t
 refine WC.fr (f := ZZ gG1 [(3, iV d), (0, pt9 b_t)]) rfl (g9 4 ?_)
 refine W.call (Mp := M_0) (ZkW ho_0 t9) rfl pr9 ?_
 intro v5 G2 Ms4 hG2 q3
 refine match q3 with | ⟨e_7, eeq3⟩ => ?_
 subst e_7
 have eeq3 := eeq3.symm
 subst eeq3
 refine g9 3 ?_
 refine WC.cond rfl (fun h10 => ?_) (fun h10 => ?_)
 ·have hq9 : X2 L = false := by simpa using h10
  refine g9 5 ?_
  obtain ⟨Msbt8, eMbt8, hBbt8⟩ := (BtR.mono hG2 ho_0)
  subst eMbt8
  have hSbt8 : StR 60 4 3 189 139 b_s c G2 L Msbt8 := hBbt8
  refine WC.perm (M' := ((b_t, ce9 79 [pt9 b_s, sV cu.b]) :: (Msbt8 ++ []))) pr9.symm (g9 8 ?_)
  refine WC.cd (fun h15 p15 => ?_) (fun h15 p15 => ?_)
  ·try dsimp only at p15
   refine g9 7 ?_
   refine WC.cd (fun h17 p17 => ?_) (fun h17 p17 => ?_)
   ·try dsimp only at p17
    refine g9 5 ?_
    have hB9 : BtR 60 4 3 189 139 79 b_t b_s c G2 (L, cu) ((b_t, ce9 79 [pt9 b_s, sV cu.b]) :: Msbt8) := ⟨_, rfl, hSbt8⟩
    refine WC.perm (M' := (((b_t, ce9 79 [pt9 b_s, sV cu.b]) :: Msbt8) ++ [])) (pr9.symm.trans ((pr9.cons _).trans pr9)) (g9 7 ?_)
    refine ⟨.inr rfl, [_], ⟨rfl, trivial⟩, ((b_t, ce9 79 [pt9 b_s, sV cu.b]) :: Msbt8), List.sublist_append_left _ _, ?_⟩
    exact ⟨4, L, _, rfl, Zs2 hI (Str.ext' p15) p17 hq9, hB9⟩
   try dsimp only at p17
   refine g9 7 ?_
   have hB10 : BtR 60 4 3 189 139 79 b_t b_s c G2 (L, cu) ((b_t, ce9 79 [pt9 b_s, sV cu.b]) :: Msbt8) := ⟨_, rfl, hSbt8⟩
   refine WC.perm (M' := (((b_t, ce9 79 [pt9 b_s, sV cu.b]) :: Msbt8) ++ [])) (pr9.symm.trans ((pr9.cons _).trans pr9)) (g9 2 ?_)
   refine W.call (Mp := ((b_t, ce9 79 [pt9 b_s, sV cu.b]) :: Msbt8)) (Zgi hB10 t9) rfl pr9 ?_
   intro v14 G11 Ms13 hG11 q12
   refine match q12 with | ⟨N9, r9, hr9, e_16, hR15⟩ => ?_
   subst e_16
   have hst9 := Zlb hI (fun _ => p17) hr9
   rw [if_pos (Str.ext' p15)] at hst9
   have hbd9 := Zla hst9.1
   have hbe9 := hst9.1.d0
   refine g9 15 ?_
   exact ⟨lec, ((((r9.2.2, X5 r9.2.2 cu), 0 + r9.1) : (List Nd × Str) × Int), Ms13), hs9, ⟨rfl, (by exact hR15), hst9.1⟩, hst9.2⟩
  try dsimp only at p15
  refine g9 3 ?_
  have hB17 : BtR 60 4 3 189 139 79 b_t b_s c G2 (L, cu) ((b_t, ce9 79 [pt9 b_s, sV cu.b]) :: Msbt8) := ⟨_, rfl, hSbt8⟩
  refine WC.perm (M' := (((b_t, ce9 79 [pt9 b_s, sV cu.b]) :: Msbt8) ++ [])) (pr9.symm.trans ((pr9.cons _).trans pr9)) (g9 2 ?_)
  refine W.call (Mp := ((b_t, ce9 79 [pt9 b_s, sV cu.b]) :: Msbt8)) (Zgi hB17 t9) rfl pr9 ?_
  intro v21 G18 Ms20 hG18 q19
  refine match q19 with | ⟨N9, r9, hr9, e_23, hR22⟩ => ?_
  subst e_23
  have hcu : ¬ cu = Str.nil := fun e => p15 (by rw [e]; rfl)
  have hst9 := Zlb hI (fun e => absurd e hcu) hr9
  rw [if_neg hcu] at hst9
  have hbd9 := Zla hst9.1
  have hbe9 := hst9.1.d0
  refine g9 15 ?_
  exact ⟨lec, ((((r9.2.2, X5 r9.2.2 cu), d + r9.1) : (List Nd × Str) × Int), Ms20), hs9, ⟨rfl, (by exact hR22), hst9.1⟩, hst9.2⟩
 have hq9 : X2 L = true := by simpa using h10
 refine g9 11 ?_
 refine ⟨.inr rfl, [_], ⟨rfl, trivial⟩, M_0, List.sublist_append_left _ _, ?_⟩
 exact ⟨0, L, _, rfl, Zs1 hI hq9, (BtR.mono hG2 ho_0)⟩

end Go.Proofs.YtbbemibbmbmamaaGreat
namespace Go.Fw
open Go Go.RowKit
def Jv : Str := ⟨⟨#[97]⟩, by decide⟩
def ZcJ : Str := ⟨⟨#[98]⟩, by decide⟩
def ZcK : Str := ⟨⟨#[49]⟩, by decide⟩
def Zlc : Str := ⟨⟨#[50]⟩, by decide⟩
def ZcL : Str := ⟨⟨#[51]⟩, by decide⟩
def ZbY : Str := ⟨⟨#[49, 50]⟩, by decide⟩
def C32 : Cfg := ⟨4, 2, 36, 9, 0⟩
theorem Zld : CfgR C32 := by decide
def ZdT : Opr := ⟨1, Jv, Str.nil, false, ZcK, 0⟩
def ZdU : Opr := ⟨2, Jv, Str.nil, false, Zlc, 0⟩
def Zs4 : Opr := ⟨5, Jv, Str.nil, false, Str.nil, 0⟩
def ZdV : Opr := ⟨4, Str.nil, Str.nil, true, Str.nil, 0⟩
def ZdW : Opr := ⟨1, ZcJ, Str.nil, false, ZcL, 0⟩
theorem Zs5 : ZdT.R := by decide +kernel
theorem Zs6 : ZdU.R := by decide +kernel
theorem Zs7 : ZdV.R := by decide +kernel
theorem Zs8 : ZdW.R := by decide +kernel
def ZdX : List Nd := (Zu C32 [Xc 0] ZdT).2.2
def ZcM : List Nd := (Zu C32 ZdX ZdU).2.2
def ZdY : List Nd := (Zu C32 ZcM ZdV).2.2
def Zgq : List Nd := (Zu C32 ZdY ZdW).2.2
theorem Zs9 : (Zu C32 [Xc 0] ZdT).2.1 = 0 := by decide +kernel
theorem Zta : (Zu C32 ZdX ZdU).2.1 = 0 := by decide +kernel
theorem Ztb : (Zu C32 ZcM ZdV).2.1 = 0 := by decide +kernel
theorem Ztc : (Zu C32 ZdY ZdW).2.1 = 0 := by decide +kernel
theorem q32 : X2 Zgq = true := by decide +kernel
theorem Ztd : (doN [] ZdT).1 = [⟨Jv, ZcK⟩] := by decide +kernel
theorem Zte : (doN [⟨Jv, ZcK⟩] ZdU).1 = [⟨Jv, ZbY⟩] := by decide +kernel
theorem Ztf : (doN [⟨Jv, ZbY⟩] Zs4).2 = ⟨0, true, ZbY, []⟩ := by decide +kernel
theorem Ztg : (doN [⟨Jv, ZbY⟩] ZdV).1 = [] := by decide +kernel
theorem Zth : (doN [] ZdW).1 = [⟨ZcJ, ZcL⟩] := by decide +kernel
end Go.Fw
namespace Go.Proofs.YtbbemibbmbmamaaGreat
open Go Go.Fw Go.RowKit
attribute [local irreducible] Ok W WC
theorem Zti {G : GH} {cs_a : List Value} {a : Ans} (h_a : AnsC G cs_a a) {cs_b : List Value} {b : Ans} (h_b : AnsC G cs_b b) :
    Fc Tryz.prog 13 [.agg (List.toArray cs_a), .agg (List.toArray cs_b)] G [] (fun v _ _ => v = .bool (decide (a = b))) := by
 obtain ⟨_, _, rfl, hw_a, hok_a⟩ := h_a
 obtain ⟨_, _, rfl, hw_b, hok_b⟩ := h_b
 refine Fc.go [.tmp 4] Tryz.func13 Tryz.ntmps13 rfl (fun w0 => (g9 2 ?_))
 refine W.box (L := [iV _, .bool _, sV _, lV _ _ _]) rfl rfl (fun b1 => (W.box (L := [iV _, .bool _, sV _, lV _ _ _]) rfl rfl (fun b2 => (g9 11 ?_))))
 refine W.sd 10 (fun h9 p9 => ?_) (fun h9 p9 => ?_)
 ·refine g9 9 ?_
  refine W.ok (ZtO bo4 rfl rfl) (g9 2 ?_)
  refine W.sp 17 rfl (fun h15 => ?_) (fun h15 => ?_)
  ·refine g9 12 ?_
   refine W.sd 24 (fun h22 p22 => ?_) (fun h22 p22 => ?_)
   ·refine g9 9 ?_
    refine W.qcall (Ze3 hw_a hw_b) rfl (g9 6 ?_)
    refine congrArg Value.bool ?_
    rw [Bool.eq_iff_iff, decide_eq_true_iff]
    clear hw_a hok_a hw_b hok_b
    cases a; cases b
    simp_all [Str.b_inj]
   refine g9 11 ?_
   refine congrArg Value.bool ?_
   rw [Bool.eq_iff_iff, decide_eq_true_iff]
   clear hw_a hok_a hw_b hok_b
   cases a; cases b
   simp_all [Str.b_inj]
  refine g9 18 ?_
  refine congrArg Value.bool ?_
  rw [Bool.eq_iff_iff, decide_eq_true_iff]
  clear hw_a hok_a hw_b hok_b
  cases a; cases b
  simp_all [Str.b_inj]
 refine g9 25 ?_
 refine congrArg Value.bool ?_
 rw [Bool.eq_iff_iff, decide_eq_true_iff]
 clear hw_a hok_a hw_b hok_b
 cases a; cases b
 simp_all [Str.b_inj]

theorem Ztj {G : GH} {b_t b_s : Nat} {c : Cfg} {l : List Nd} {ss : List Seat} {cur : Str} {Ms_t : MH} (h_t : BtR 60 4 3 189 139 79 b_t b_s c G (l, cur) Ms_t) (t : Tree c l ss) (hq : X2 l = true) :
    Fc Tryz.prog 16 [pt9 b_t] G Ms_t (fun v G' M' => v = iV 0 ∧ BtR 60 4 3 189 139 79 b_t b_s c G' (l, cur) M') := by
 refine Fc.go [.tmp 2] Tryz.func16 Tryz.ntmps16 rfl (fun w0 => (WC.perm (M' := (Ms_t ++ [])) (by simp) (g9 9 ?_)))
 refine W.ok (XB Zbx rfl rfl) (g9 12 ?_)
 refine WC.loop (X := (Nat) × MH) (fun k => [(3, iV 1), (0, pt9 b_t)]) (fun k G Ml => Ml = (k.2 ++ []) ∧ BtR 60 4 3 189 139 79 b_t b_s c G ((l, cur)) k.2 ∧ True) (fun k => 0) (0, Ms_t) hs9 ?_ ?_
 ·exact ⟨rfl, (by exact h_t), trivial⟩
 rintro ⟨k, M_0⟩ gG1 G1 _ hG1 ⟨rfl, ho_0, _⟩
 try dsimp only at ho_0 _
 refine WC.fr (f := ZZ gG1 [(3, iV 1), (0, pt9 b_t)]) rfl (g9 4 ?_)
 refine W.call (Mp := M_0) (ZkW ho_0 t) rfl pr9 ?_
 intro v5 G2 Ms4 hG2 q3
 refine match q3 with | ⟨e_7, eeq3⟩ => ?_
 subst e_7
 have eeq3 := eeq3.symm
 subst eeq3
 refine g9 3 ?_
 refine WC.cond rfl (fun h10 => ?_) (fun h10 => ?_)
 ·rw [hq] at h10; cases h10
 refine g9 11 ?_
 refine ⟨.inr rfl, [_], ⟨rfl, trivial⟩, M_0, List.sublist_append_left _ _, ?_⟩
 exact ⟨rfl, (BtR.mono hG2 ho_0)⟩

theorem Zgr {G : GH}  :
    Fc Tryz.prog 9 [] G [] (fun v _ _ => v = .bool (true)) := by
 refine Fc.go [.tmp 0] Tryz.func9 Tryz.ntmps9 rfl (fun w0 => (g9 7 ?_))
 refine W.ok (ZE (L := [iV _, iV _, iV _, iV _, iV _]) Zol Zh4 rfl rfl rfl) (W.call (Mp := []) (ZkU 4 2 36 9 0) rfl pr9 ?_)
 intro v11 G8 Ms10 hG8 q9
 have hN9 := Or.resolve_left q9 (fun h => h.1 Zld)
 refine match hN9 with | ⟨hC, b_t, b_s, e_12, hB9⟩ => ?_
 subst e_12
 have t0 := ZkX Zld
 have hg0 := ZkZ (c := C32)
 refine g9 10 ?_
 refine W.ok (ZE (L := [iV _, sV _, sV _, .bool _, sV _, iV _]) Zco Zcn rfl rfl rfl) (W.call (Mp := Ms10) (ZbW hB9 t0 1 Jv Str.nil false ZcK 0 (0 : Int) hg0 (by decide)) rfl pr9 ?_)
 intro v16 G13 Ms15 hG13 q14
 refine match q14 with | ⟨a1, l1, hD1, ⟨cs_a1, e_18, _, _, e_19, hw_a1, hok_a1⟩, hR17⟩ => ?_
 subst e_18
 subst e_19
 have eLA1 := hD1.x Zs5 (by decide) Zs9
 have eL1 : l1 = ZdX := eLA1.1
 have eA1 := eLA1.2
 subst eA1
 subst eL1
 have hg1 := hD1.g
 have q20 := hD1.t
 refine match q20 with | ⟨T1, t1⟩ => ?_
 have hm1 : Zh ZdX = [⟨Jv, ZcK⟩] := (hD1.fine (by decide)).2.trans (by rw [ZkY]; exact Ztd)
 refine g9 5 ?_
 refine W.ok (ZE (L := [iV _, sV _, sV _, .bool _, sV _, iV _]) Zco Zcn rfl rfl rfl) (W.call (Mp := Ms15) (ZbW hR17 t1 2 Jv Str.nil false Zlc 0 (1 : Int) hg1 (by decide)) rfl pr9 ?_)
 intro v24 G21 Ms23 hG21 q22
 refine match q22 with | ⟨a2, l2, hD2, ⟨cs_a2, e_26, _, _, e_27, hw_a2, hok_a2⟩, hR25⟩ => ?_
 subst e_26
 subst e_27
 have eLA2 := hD2.x Zs6 (by decide) Zta
 have eL2 : l2 = ZcM := eLA2.1
 have eA2 := eLA2.2
 subst eA2
 subst eL2
 have hg2 := hD2.g
 have q28 := hD2.t
 refine match q28 with | ⟨T2, t2⟩ => ?_
 have hm2 : Zh ZcM = [⟨Jv, ZbY⟩] := (hD2.fine (by decide)).2.trans (by rw [hm1]; exact Zte)
 refine g9 5 ?_
 refine W.ok (ZE (L := [iV _, sV _, sV _, .bool _, sV _, iV _]) Zco Zcn rfl rfl rfl) (W.call (Mp := Ms23) (ZbW hR25 t2 5 Jv Str.nil false Str.nil 0 (2 : Int) hg2 (by decide)) rfl pr9 ?_)
 intro v32 G29 Ms31 hG29 q30
 refine match q30 with | ⟨a3, l3, hD3, ⟨cs_a3, e_34, _, _, e_35, hw_a3, hok_a3⟩, hR33⟩ => ?_
 subst e_34
 subst e_35
 have hf3 : ¬ a3.err = 4 := fun e => absurd (hD3.full e).2.2.1 (by decide)
 have eL3 : l3 = ZcM := hD3.z (by decide)
 have eA3 : a3 = ⟨0, true, ZbY, []⟩ := (hD3.fine hf3).1.trans (by rw [hm2]; exact Ztf)
 subst eA3
 subst eL3
 have hg3 := hD3.g
 have q36 := hD3.t
 refine match q36 with | ⟨T3, t3⟩ => ?_
 have hm3 := hm2
 refine W.alloc Za2 (fun b37 => (g9 6 ?_))
 refine W.ok (ZE (L := [iV _, sV _, sV _, .bool _, sV _, iV _]) Zco Zcn rfl rfl rfl) (W.call (Mp := Ms31) (ZbW hR33 t3 4 Str.nil Str.nil true Str.nil 0 (3 : Int) hg3 (by decide)) rfl (pmC pr9) ?_)
 intro v41 G38 Ms40 hG38 q39
 refine match q39 with | ⟨a4, l4, hD4, ⟨cs_a4, e_43, _, _, e_44, hw_a4, hok_a4⟩, hR42⟩ => ?_
 subst e_43
 subst e_44
 refine W.perm (pmC pr9).symm ?_
 have eLA4 := hD4.x Zs7 (by decide) Ztb
 have eL4 : l4 = ZdY := eLA4.1
 have eA4 := eLA4.2
 subst eA4
 subst eL4
 have hg4 := hD4.g
 have q45 := hD4.t
 refine match q45 with | ⟨T4, t4⟩ => ?_
 have hm4 : Zh ZdY = [] := (hD4.fine (by decide)).2.trans (by rw [hm3]; exact Ztg)
 refine g9 5 ?_
 refine W.ok (ZE (L := [iV _, sV _, sV _, .bool _, sV _, iV _]) Zco Zcn rfl rfl rfl) (W.call (Mp := Ms40) (ZbW hR42 t4 1 ZcJ Str.nil false ZcL 0 (4 : Int) hg4 (by decide)) rfl (pmC pr9) ?_)
 intro v49 G46 Ms48 hG46 q47
 refine match q47 with | ⟨a5, l5, hD5, ⟨cs_a5, e_51, _, _, e_52, hw_a5, hok_a5⟩, hR50⟩ => ?_
 subst e_51
 subst e_52
 refine W.perm (pmC pr9).symm ?_
 have eLA5 := hD5.x Zs8 (by decide) Ztc
 have eL5 : l5 = Zgq := eLA5.1
 have eA5 := eLA5.2
 subst eA5
 subst eL5
 have hg5 := hD5.g
 have q53 := hD5.t
 refine match q53 with | ⟨T5, t5⟩ => ?_
 have hm5 : Zh Zgq = [⟨ZcJ, ZcL⟩] := (hD5.fine (by decide)).2.trans (by rw [hm4]; exact Zth)
 refine g9 21 ?_
 refine W.sd 35 (fun h33 p33 => ?_) (fun h33 p33 => ?_)
 ·try dsimp only at p33
  refine g9 3 ?_
  refine W.call (Mp := Ms48) (ZkV hR50 t5) rfl (pmC pr9) ?_
  intro v57 G54 Ms56 hG54 q55
  refine match q55 with | ⟨hR58, eeq55⟩ => ?_
  have eeq55 := eeq55.symm
  subst eeq55
  refine W.perm (pmC pr9).symm ?_
  have q60 := hR58.form
  refine match q60 with | ⟨sa_hR58, sc_hR58, e_59⟩ => ?_
  subst e_59
  refine g9 1 ?_
  refine W.ok (ZE (L := [sV _, sV _]) ZeU Yy rfl rfl rfl) (g9 1 ?_)
  refine W.lit (e := Zl) (l := [⟨ZcJ, ZcL⟩]) (css := [[sV _, sV _]]) Zy Zz Yy rfl rfl rfl rfl rfl rfl ⟨rfl, trivial⟩ (fun bl61 G61 hG61 hv61 => (g9 1 ?_))
  refine W.qcall ((Ze3 (hR58.mono hG61) hv61).mono (fun v _ _ _ hv => hv.trans (congrArg Value.bool (decide_eq_true hm5)))) rfl (g9 5 ?_)
  refine W.call (Mp := Ms48) (Ztj (BtR.mono lec hR50) t5 q32) rfl (pmC pr9) ?_
  intro v65 G62 Ms64 hG62 q63
  refine match q63 with | ⟨e_67, hR66⟩ => ?_
  subst e_67
  refine W.perm (pmC pr9).symm (g9 8 ?_)
  rfl
 try dsimp only at p33
 exact absurd rfl p33

theorem Ztk {G : GH} (cfan : Int) (cleaf : Int) (cbud : Int) (cslots : Int) (crest : Int) {v_l : Value} {l : List Act32} (h_l : SlR Zgj G v_l l) :
    Fc Tryz.prog 3 [.agg #[iV cfan, iV cleaf, iV cbud, iV cslots, iV crest], v_l] G [] (fun v _ _ => v = .bool (true)) := by
 obtain ⟨sa_l, sc_l, rfl⟩ := h_l.form
 have hl := h_l.len47
 refine Fc.go [.tmp 4] Tryz.func3 Tryz.ntmps3 rfl (fun w0 => (g9 2 ?_))
 refine W.box (L := [iV _, iV _, iV _, iV _, iV _]) rfl rfl (fun b1 => (g9 7 ?_))
 refine W.call (Mp := []) (ZsL h_l) rfl pr9 ?_
 intro v5 G2 Ms4 hG2 q3
 refine match q3 with | ⟨⟨rf9, e_6, hfew⟩, e_7⟩ => ?_
 subst e_6
 subst e_7
 refine g9 3 ?_
 refine WC.cond rfl (fun h15 => ?_) (fun h15 => ?_)
 ·refine g9 2 ?_
  refine W.qcall (Zgr) rfl (g9 6 ?_)
  rfl
 have hfw : FewR l := hfew (by simpa using h15)
 obtain ⟨hfl, hfo, hff⟩ := hfw
 refine g9 6 ?_
 refine W.ok (Zlq rfl rfl om9) (g9 8 ?_)
 refine W.call (Mp := []) (ZkU cfan cleaf cbud (4 * (l.length : Int) + 8) crest) rfl pr9 ?_
 intro v11 G8 Ms10 hG8 q9
 refine Or.elim q9 (fun q12 => ?_) (fun q13 => ?_)
 ·refine match q12 with | ⟨hnc, e_14, e_15⟩ => ?_
  subst e_14
  subst e_15
  refine g9 18 ?_
  refine W.qcall ((Ztw _ _ _ _ _).mono (fun v _ _ _ hv => hv.trans (congrArg Value.bool (decide_eq_false hnc)))) rfl (g9 3 ?_)
  refine W.qcall (Zgr) rfl (g9 7 ?_)
  rfl
 refine match q13 with | ⟨hC, b_t, b_s, e_16, hB9⟩ => ?_
 subst e_16
 refine W.perm (pmC pr9).symm (g9 31 ?_)
 refine WC.loop (X := (Nat × (List Nd × Str) × List Pair) × MH × Value) (fun x => [(37, nt9 x.1.1), (35, lV sa_l l.length sc_l), (36, nt9 ((l).length)), (5, pt9 b_t), (7, x.2.2)]) (fun x G Ml => Ml = ((b1, ce9 23 [iV cfan, iV cleaf, iV cbud, iV ((((4) * ((((l).length : Nat) : Int)))) + (8)), iV crest]) :: (x.2.1 ++ [])) ∧ BtR 60 4 3 189 139 79 b_t b_s (⟨cfan, cleaf, cbud, (4 * (l.length : Int) + 8), crest⟩ : Cfg) G (x.1.2.1) x.2.1 ∧ SlR Zl G x.2.2 (x.1.2.2) ∧ x.1.1 ≤ l.length ∧ x.1.2.2.length ≤ x.1.1 ∧ (∃ T, Tree (⟨cfan, cleaf, cbud, (4 * (l.length : Int) + 8), crest⟩ : Cfg) x.1.2.1.1 T) ∧ Grown (⟨cfan, cleaf, cbud, (4 * (l.length : Int) + 8), crest⟩ : Cfg) (x.1.1 : Int) x.1.2.1.1 ∧ x.1.2.2 = Zh x.1.2.1.1) (fun x => l.length - x.1.1) (((0, ([Xc 0], Str.nil), []) : Nat × (List Nd × Str) × List Pair), Ms10, lV none 0 0) hs9 ?_ ?_
 ·exact ⟨rfl, (by exact hB9), (by simpa using SlR.nil), Nat.zero_le _, Nat.zero_le _, ⟨_, ZkX hC⟩, ZkZ, ZkY.symm⟩
 rintro ⟨⟨k, ⟨L, cu⟩, m⟩, M_5, v_7⟩ gG17 G17 _ hG17 ⟨rfl, ho_5, ho_7, hk, hlm9, hTr, hg, hmm⟩
 try dsimp only at ho_5 ho_7 hk hlm9 hTr hg hmm
 obtain ⟨T8, t9⟩ := hTr
 have hPm : PairsR m := by rw [hmm]; exact t9.mapFits
 have hdR9 := fun o : Opr => (ZqX (o := o) hPm).2
 refine WC.fr (f := ZZ gG17 [(37, nt9 k), (35, lV sa_l l.length sc_l), (36, nt9 ((l).length)), (5, pt9 b_t), (7, v_7)]) rfl (g9 6 ?_)
 refine WC.cd (fun h38 p38 => ?_) (fun h38 p38 => ?_)
 ·try dsimp only at p38
  have hfk := (hfo _ (List.getElem_mem (by omega : k < l.length))).2.2.2
  refine g9 6 ?_
  have q22 := (h_l.mono ((hG2.trans hG8).trans hG17)).at (i := (k)) om9
  refine match q22 with | ⟨_, he18, ⟨e_21, ho_hm19, hf_hm19⟩⟩ => ?_
  subst e_21
  refine W.ok (Yt (i := (k)) Zc9 Zh5 (h_l.mono lec) rfl rfl ⟨om9, om9⟩) (g9 1 ?_)
  refine W.alloc Zn7 (fun b23 => (g9 5 ?_))
  refine W.alloc Za2 (fun b24 => (g9 7 ?_))
  refine W.call (Mp := []) (ZrO ho_7 l[k].o.kind l[k].o.key l[k].o.hi l[k].o.opn l[k].o.val l[k].o.lim hPm om9) rfl pr9 ?_
  intro _ G25 _ hG25 q28
  refine match q28 with | ⟨e_29, _, e_30, _, _, e_31, hv26, hv27⟩ => ?_
  subst e_29
  subst e_30
  subst e_31
  have q33 := hv26.form
  refine match q33 with | ⟨sa_hv26, sc_hv26, e_32⟩ => ?_
  subst e_32
  refine match hv27 with | ⟨pa_hv27, pc_hv27, e_34, hw_hv27, hok_hv27⟩ => ?_
  subst e_34
  refine g9 9 ?_
  refine WC.dw ((sn9.k9.k9).k9) (d9 [0, 1, 2, 4] ?_)
  refine WD.a1 3 rfl (W.call (Mp := M_5) (ZbW (BtR.mono hG25 ho_5) t9 l[k].o.kind l[k].o.key l[k].o.hi l[k].o.opn l[k].o.val l[k].o.lim (k : Int) hg om9) rfl (pmC (pmC (pmC pr9))) ?_)
  intro v38 G35 Ms37 hG35 q36
  refine match q36 with | ⟨a9, l9, hD9, ⟨cs_a9, e_40, _, _, e_41, hw_a9, hok_a9⟩, hR39⟩ => ?_
  subst e_40
  subst e_41
  refine W.perm (pmC (pmC (pmC pr9))).symm ?_
  obtain ⟨T9, t10⟩ := hD9.t
  have hsl10 := t10.sml.1
  have hv9 := ZfM t10
  have hg9 := hD9.g.val
  have hN9 := hD9.fine (fun e => by have h8 := (hD9.full e).2.2.2.2; dsimp only at h8; omega)
  refine W.nn (WD.a1 5 rfl (W.qcall ((Zti (show AnsC _ _ a9 from ⟨_, _, rfl, hw_a9, hok_a9⟩) (show AnsC _ _ (doN m l[k].o).2 from ⟨_, _, rfl, (hw_hv27.mono hG35), hok_hv27⟩)).mono (fun v _ _ _ hv => hv.trans (congrArg Value.bool (decide_eq_true (hN9.1.trans (by rw [hmm])))))) rfl (W.nn (d9 [6] ?_))))
  refine g9 13 ?_
  refine WC.loop (X := (Nat × (List Nd × Str)) × MH) (fun y => [(57, nt9 y.1.1), (7, lV sa_hv26 ((doN m l[k].o).1).length sc_hv26), (35, lV sa_l l.length sc_l), (36, nt9 ((l).length)), (37, nt9 k), (56, iV ((l)[((k))]).fl), (5, pt9 b_t)]) (fun y G Ml => Ml = ((b24, ce9 38 [iV ((doN m l[k].o).2).err, .bool ((doN m l[k].o).2).has, sV ((doN m l[k].o).2).val.b, lV pa_hv27 ((doN m l[k].o).2).rows.length pc_hv27]) :: ((b23, ce9 36 [iV ((l)[((k))]).o.kind, sV ((l)[((k))]).o.key.b, sV ((l)[((k))]).o.hi.b, .bool ((l)[((k))]).o.opn, sV ((l)[((k))]).o.val.b, iV ((l)[((k))]).o.lim, iV ((l)[((k))]).fl]) :: ((b1, ce9 23 [iV cfan, iV cleaf, iV cbud, iV ((((4) * ((((l).length : Nat) : Int)))) + (8)), iV crest]) :: (y.2 ++ [])))) ∧ BtR 60 4 3 189 139 79 b_t b_s (⟨cfan, cleaf, cbud, (4 * (l.length : Int) + 8), crest⟩ : Cfg) G (y.1.2) y.2 ∧ (∃ T, Tree (⟨cfan, cleaf, cbud, (4 * (l.length : Int) + 8), crest⟩ : Cfg) y.1.2.1 T) ∧ Grown (⟨cfan, cleaf, cbud, (4 * (l.length : Int) + 8), crest⟩ : Cfg) ((k : Int) + 1) y.1.2.1 ∧ Zh y.1.2.1 = Zh l9) (fun y => l[k].fl.toNat - y.1.1) (((0, (l9, cu)) : Nat × (List Nd × Str)), Ms37) hs9 ?_ ?_
  ·exact ⟨rfl, (by exact hR39), hD9.t, hD9.g, rfl⟩
  rintro ⟨⟨j, ⟨L2, cu2⟩⟩, M_5⟩ gG42 G42 _ hG42 ⟨rfl, ho_5, hTr2, hg2, hmp2⟩
  try dsimp only at ho_5 hTr2 hg2 hmp2
  obtain ⟨T10, t11⟩ := hTr2
  have hsl11 := t11.sml.1
  refine WC.fr (f := ZZ gG42 [(57, nt9 j), (7, lV sa_hv26 ((doN m l[k].o).1).length sc_hv26), (35, lV sa_l l.length sc_l), (36, nt9 ((l).length)), (37, nt9 k), (56, iV ((l)[((k))]).fl), (5, pt9 b_t)]) rfl (g9 6 ?_)
  refine WC.cd (fun h58 p58 => ?_) (fun h58 p58 => ?_)
  ·try dsimp only at p58
   refine g9 7 ?_
   refine W.call (Mp := M_5) (Zgi ho_5 t11) rfl (pmC (pmC (pmC pr9))) ?_
   intro v46 G43 Ms45 hG43 q44
   refine match q44 with | ⟨N9, r9, hr9, e_48, hR47⟩ => ?_
   subst e_48
   refine W.perm (pmC (pmC (pmC pr9))).symm ?_
   have hf9 := ZsO t11 hg2 hr9
   obtain ⟨T12, t12⟩ := hf9.1
   have hsl12 := t12.sml.1
   have hw9 := ZfM t12
   have hx9 := hf9.2.2.1.val
   refine g9 13 ?_
   refine WC.cn (fun h65 p65 => ?_) (fun h65 p65 => ?_)
   ·try dsimp only at p65
    exfalso; rcases hf9.2.2.2 with h9 | ⟨_, h9⟩; exact p65 h9; dsimp only at h9; omega
   try dsimp only at p65
   refine g9 8 ?_
   exact ⟨hG43, (((j + 1, (r9.2.2, X5 r9.2.2 cu2)) : Nat × (List Nd × Str)), Ms45), hs9, ⟨rfl, (by exact hR47), hf9.1, hf9.2.2.1, hf9.2.1.trans hmp2⟩, by dsimp only; omega⟩
  try dsimp only at p58
  refine g9 9 ?_
  refine W.sub ((sr9.cons _).cons _) (g9 2 ?_)
  exact ⟨lec, (((k + 1, (L2, cu2), (doN m l[k].o).1) : Nat × (List Nd × Str) × List Pair), M_5, lV sa_hv26 ((doN m l[k].o).1).length sc_hv26), hs9, ⟨rfl, (by exact ho_5), (by simpa using (hv26.mono lec)), by dsimp only; omega, Nat.le_trans (hdR9 l[k].o) (by dsimp only; omega), ⟨T10, t11⟩, by have h9 := hg2; exact h9, by rw [hmp2, hN9.2, hmm]⟩, by dsimp only; omega⟩
 try dsimp only at p38
 refine g9 8 ?_
 refine W.call (Mp := M_5) (Zs3 ho_5 t9) rfl (pmC pr9) ?_
 intro v52 G49 Ms51 hG49 q50
 refine match q50 with | ⟨e9, ld9, cu9, e_54, hDr, hR53⟩ => ?_
 subst e_54
 refine W.perm (pmC pr9).symm ?_
 obtain ⟨ss, t⟩ := hDr.t
 have hST := t.sml
 have hsld := hST.1
 have hy9 := ZfM t
 have hz9 := (hDr.g _ hg).val
 refine g9 2 ?_
 refine W.sd 71 (fun h70 p70 => ?_) (fun h70 p70 => ?_)
 ·try dsimp only at p70
  refine g9 3 ?_
  refine W.call (Mp := Ms51) (ZkV hR53 t) rfl (pmC pr9) ?_
  intro v58 G55 Ms57 hG55 q56
  refine match q56 with | ⟨hR59, eeq56⟩ => ?_
  have eeq56 := eeq56.symm
  subst eeq56
  refine W.perm (pmC pr9).symm ?_
  have q61 := hR59.form
  refine match q61 with | ⟨sa_hR59, sc_hR59, e_60⟩ => ?_
  subst e_60
  refine g9 3 ?_
  refine W.qcall ((Ze3 hR59 (ho_7.mono lec)).mono (fun v _ _ _ hv => hv.trans (congrArg Value.bool (decide_eq_true (hDr.m.trans hmm.symm))))) rfl (g9 3 ?_)
  refine W.qcall (Zgr) rfl (g9 6 ?_)
  rfl
 try dsimp only at p70
 exfalso; rcases hDr.r with ⟨h9, _⟩ | ⟨_, _, h9⟩; exact p70 h9; dsimp only at h9; omega

end Go.Proofs.YtbbemibbmbmamaaGreat
