/- Walks of a reader's looks. -/
import Derived.Test.YtgmnljhiojdigaaGreatQiV6
set_option maxRecDepth 100000
set_option maxHeartbeats 1600000
set_option linter.unusedVariables false
set_option linter.unusedSimpArgs false
set_option linter.unnecessarySimpa false
namespace Go.Proofs.YtgmnljhiojdigaaGreat
open Go Go.Fw Go.RowKit
theorem cstoreg_fc {G : GH} {b_c : Nat} {vS : Option Addr} {v1 v2 v3 v4 : Value} (h_c : CellsG G b_c 0 [.pointer vS, v1, v2, v3, v4]) :
    Fc Tryz.prog 24 [.pointer (some ⟨b_c, 0, none⟩)] G [] (fun v _ _ => v = .pointer vS) := by
 refine Fc.intro (rs := [.tmp 2]) cl24 Tryz.func24 rfl Tryz.ntmps24 rfl rfl (fun w0 => ?_)
 refine WC.seq ?_
 refine WC.region ?_
 refine W.as ?_
 refine W.nil (thn_n ?_)
 refine WC.seq ?_
 refine WC.seq ?_
 refine WC.region ?_
 refine W.mv ?_
 refine W.ok (ok_eqlPN pp27 rfl rfl) ?_
 refine W.nil (thn_n ?_)
 refine WC.cond_f rfl rfl ?_
 refine WC.skip (thn_n ?_)
 refine WC.seq ?_
 refine WC.region ?_
 refine W.mv ?_
 refine W.ok (ok_nilP rfl) ?_
 refine W.ok (ok_fieldB fd76_0 rfl) ?_
 refine W.ok (ok_loadG (vs := [.pointer _]) ty63 h_c rfl rfl rfl (by simp)) ?_
 refine W.as ?_
 refine W.nil (thn_n ?_)
 refine WC.ret ?_
 refine ⟨.inr rfl, [_], ⟨rfl, trivial⟩, [], List.nil_sublist _, ?_⟩
 rfl

theorem pnode_at {G : GH} {b : Nat} {c c2 : Cfg} {l : List Nd} {ss : List Seat} {M : MH} (h : StR 43 4 3 150 107 b c G l M) (t : Tree c2 l ss) {x : Seat} (hx : x ∈ ss) : Fc Tryz.prog 51 [.pointer (some ⟨b, 0, none⟩), .int .i64 x.n.slot] G M (fun v G' M' => (∃ cs, v = .tuple #[.agg (List.toArray cs), .bool true] ∧ NodeC G' cs x.n) ∧ M' = M) :=
  (pnode_fc h _).mono fun v G' M' _ ⟨⟨cs, e1, e2⟩, e3⟩ => ⟨⟨cs, by rw [e1, decide_eq_true (t.nd hx).1], e2.of (t.nd hx).2.1.symm⟩, e3⟩
theorem rdlook1_fc {G : GH} {b_r : Nat} {fr : Int} {x : Seat} {key : Str} {vn : Value} {v_LM : Value} {LM : List (List Msg)} {Ms_LM : MH} (h_LM : OwnR (eSl eMsg) 40 G v_LM LM Ms_LM) {b_h : Nat} {th : Int} {vw : Option Addr} {most : Int} {b_c : Nat} {b_s : Nat} {vM : Value} {Th : List Int} {Lw : Lat} {b_t : Nat} {Ms_t : MH} (h_t : TabR 128 132 3 Th b_t G Lw Ms_t) {wt : Int} {ch : Int} {c c2 : Cfg} {l : List Nd} {ss : List Seat} {Ms_s : MH} (h_s : StR 43 4 3 150 107 b_s c G l Ms_s) (t : Tree c2 l ss) (hg : Rp l ss key x LM) (h0 : ¬ x.n.level ≤ 0) :
    Fc Tryz.prog 71 [.pointer (some ⟨b_r, 0, none⟩)] G ((b_r, .cells (List.toArray [.int .i64 fr, .int .i64 x.n.slot, .pointer (some ⟨b_c, 0, none⟩), .pointer (some ⟨b_h, 0, none⟩), .string key.b, vn, v_LM, .bool false, .bool false, .int .i64 0, .bool false, .string Str.nil.b, .slice none 0 0]) 98 (0, 0)) :: ((b_h, .cells (List.toArray [.pointer (some ⟨b_c, 0, none⟩), .int .i64 th, .pointer vw, .int .i64 most]) 79 (0, 0)) :: ((b_c, .cells (List.toArray [.pointer (some ⟨b_s, 0, none⟩), .pointer (some ⟨b_t, 0, none⟩), vM, .int .i64 wt, .int .i64 ch]) 76 (0, 0)) :: (Ms_LM ++ (Ms_t ++ (Ms_s)))))) (fun v G' M' => v = .bool true ∧ ∃ vl Ml Mh Ms, M' = (b_r, .cells (List.toArray [.int .i64 x.n.slot, .int .i64 (kidSt l x (routeN x.n.pivots key)).n.slot, .pointer (some ⟨b_c, 0, none⟩), .pointer (some ⟨b_h, 0, none⟩), .string key.b, .func (.func 44) #[] #[], vl, .bool false, .bool false, .int .i64 0, .bool false, .string Str.nil.b, .slice none 0 0]) 98 (0, 0)) :: (Mh ++ (Ml ++ Ms)) ∧ OwnR (eSl eMsg) 40 G' vl (LM ++ [x.n.msgs]) Ml ∧ HcR 128 132 3 79 76 Th b_h b_c b_t (some ⟨b_s, 0, none⟩) vM wt ch G' th most Lw Mh ∧ StR 43 4 3 150 107 b_s c G' l Ms) := by
 obtain ⟨sa_LM, sc_LM, rfl⟩ := h_LM.form
 have hkle := key.le
 have hfw9 := hg.few t
 have hlv9 := t.lvl hg.mem
 have hnd9 := t.sml.2 _ (t.nd hg.mem).2.2
 refine Fc.intro (rs := [.tmp 2]) cl71 Tryz.func71 rfl Tryz.ntmps71 rfl rfl (fun w0 => ?_)
 refine WC.perm (M' := ((b_r, .cells (List.toArray [.int .i64 fr, .int .i64 x.n.slot, .pointer (some ⟨b_c, 0, none⟩), .pointer (some ⟨b_h, 0, none⟩), .string key.b, vn, .slice sa_LM LM.length sc_LM, .bool false, .bool false, .int .i64 0, .bool false, .string Str.nil.b, .slice none 0 0]) 98 (0, 0)) :: ((b_h, .cells (List.toArray [.pointer (some ⟨b_c, 0, none⟩), .int .i64 th, .pointer vw, .int .i64 most]) 79 (0, 0)) :: ((b_c, .cells (List.toArray [.pointer (some ⟨b_s, 0, none⟩), .pointer (some ⟨b_t, 0, none⟩), vM, .int .i64 wt, .int .i64 ch]) 76 (0, 0)) :: (Ms_LM ++ (Ms_t ++ (Ms_s ++ []))))))) (by simp) ?_
 refine WC.seq ?_
 refine WC.region ?_
 refine W.as ?_
 refine W.nil (thn_n ?_)
 refine WC.join (X := (Unit) × Nat × List Value) (fun u2 => [(0, .pointer (some ⟨b_r, 0, none⟩)), (3, .pointer (some ⟨u2.2.1, 0, none⟩))]) (fun u2 G Ml => Ml = ((u2.2.1, .cells (List.toArray u2.2.2) 43 (0, 0)) :: ((b_r, .cells (List.toArray [.int .i64 fr, .int .i64 x.n.slot, .pointer (some ⟨b_c, 0, none⟩), .pointer (some ⟨b_h, 0, none⟩), .string key.b, vn, .slice sa_LM LM.length sc_LM, .bool false, .bool false, .int .i64 0, .bool false, .string Str.nil.b, .slice none 0 0]) 98 (0, 0)) :: ((b_h, .cells (List.toArray [.pointer (some ⟨b_c, 0, none⟩), .int .i64 th, .pointer vw, .int .i64 most]) 79 (0, 0)) :: ((b_c, .cells (List.toArray [.pointer (some ⟨b_s, 0, none⟩), .pointer (some ⟨b_t, 0, none⟩), vM, .int .i64 wt, .int .i64 ch]) 76 (0, 0)) :: (Ms_LM ++ (Ms_t ++ (Ms_s ++ []))))))) ∧ NodeC G u2.2.2 (x.n)) ?_ ?_
 ·refine WC.drawW _ ((((List.nil_sublist _).cons_cons _).cons_cons _).cons_cons _) mix (by rintro _ _ _ _ ⟨h | h, _⟩ <;> cases h) ?_
  refine WD.take 0 rfl rfl rfl (by kernel_rfl) (by kernel_rfl) (by kernel_rfl) (ok_mv) ?_
  refine WD.take 1 rfl rfl rfl (by kernel_rfl) (by kernel_rfl) (by kernel_rfl) (ok_nilP rfl) ?_
  refine WD.take 2 rfl rfl rfl (by kernel_rfl) (by kernel_rfl) (by kernel_rfl) (ok_fieldB fd98_1 rfl) ?_
  refine WD.take 3 rfl rfl rfl (by kernel_rfl) (by kernel_rfl) (by kernel_rfl) (ok_loadB (i := 0) (vs := [.pointer _]) ty27 rfl rfl rfl rfl (by simp)) ?_
  refine WD.take 5 rfl rfl rfl (by kernel_rfl) (by kernel_rfl) (by kernel_rfl) (ok_mv) ?_
  refine WD.take 6 rfl rfl rfl (by kernel_rfl) (by kernel_rfl) (by kernel_rfl) (ok_nilP rfl) ?_
  refine WD.take 7 rfl rfl rfl (by kernel_rfl) (by kernel_rfl) (by kernel_rfl) (ok_fieldB fd98_0 rfl) ?_
  refine WD.take 8 rfl rfl rfl (by kernel_rfl) (by kernel_rfl) (by kernel_rfl) (ok_fieldB fd95_1 rfl) ?_
  refine WD.take 9 rfl rfl rfl (by kernel_rfl) (by kernel_rfl) (by kernel_rfl) (ok_loadB (i := 0) (vs := [.int .i64 _]) ty3 rfl rfl rfl rfl (by simp)) ?_
  refine WD.any [4, 14] (by kernel_rfl) rfl ⟨⟨_, rfl, rfl, ?_⟩, ⟨_, rfl, rfl, ?_⟩, trivial⟩
  ·refine W.lendQ (fun G1 hl1 hn1 => cstoreg_fc (cellsG_at (in_of (i := 2) hn1 rfl))) cl24 rfl ?_
   refine W.nil ⟨Le.rfl, (((List.nil_sublist _).cons_cons _).cons_cons _).cons_cons _, _, (((List.nil_sublist _).cons_cons _).cons_cons _).cons_cons _, List.Sublist.refl _, ?_⟩
   refine WD.any [10, 14] (by kernel_rfl) rfl ⟨⟨_, rfl, rfl, ?_⟩, ⟨_, rfl, rfl, ?_⟩, trivial⟩
   ·refine W.call (Mp := Ms_s) (pnode_at h_s t hg.mem) rfl (pmC (pmC (pmC (pmA (pmA (List.Perm.refl _)))))) ?_
    intro v4 G1 Ms3 hG1 q2
    refine match q2 with | ⟨⟨_, e_6, ⟨pa_hR5, pc_hR5, ka_hR5, kc_hR5, ma_hR5, mc_hR5, ra_hR5, rc_hR5, e_7, hp_hR5, hk_hR5, hm_hR5, hr_hR5, hok_hR5⟩⟩, eeq2⟩ => ?_
    subst e_6
    subst e_7
    have eeq2 := eeq2.symm
    subst eeq2
    refine W.perm (pmC (pmC (pmC (List.Perm.refl _)))).symm ?_
    refine W.perm (M' := ((b_r, .cells (List.toArray [.int .i64 fr, .int .i64 x.n.slot, .pointer (some ⟨b_c, 0, none⟩), .pointer (some ⟨b_h, 0, none⟩), .string key.b, vn, .slice sa_LM LM.length sc_LM, .bool false, .bool false, .int .i64 0, .bool false, .string Str.nil.b, .slice none 0 0]) 98 (0, 0)) :: ((b_h, .cells (List.toArray [.pointer (some ⟨b_c, 0, none⟩), .int .i64 th, .pointer vw, .int .i64 most]) 79 (0, 0)) :: ((b_c, .cells (List.toArray [.pointer (some ⟨b_s, 0, none⟩), .pointer (some ⟨b_t, 0, none⟩), vM, .int .i64 wt, .int .i64 ch]) 76 (0, 0)) :: (Ms_LM ++ (Ms_t ++ (Ms_s ++ []))))))) (((((List.Perm.append_left _ ((List.Perm.append_left _ ((List.Perm.append_left _ (List.Perm.refl _)).trans (List.Perm.refl _))).trans (pmA (List.Perm.refl _)))).trans (pmA (List.Perm.refl _))).cons _).cons _).cons _) ?_
    refine W.nil ⟨hG1, (((List.nil_sublist _).cons_cons _).cons_cons _).cons_cons _, _, (((List.nil_sublist _).cons_cons _).cons_cons _).cons_cons _, List.Sublist.refl _, ?_⟩
    refine WD.take 11 rfl rfl rfl (by kernel_rfl) (by kernel_rfl) (by kernel_rfl) (ok_mv) ?_
    refine WD.take 12 rfl rfl rfl (by kernel_rfl) (by kernel_rfl) (by kernel_rfl) (ok_extract rfl rfl) ?_
    refine WD.take 13 rfl rfl rfl (by kernel_rfl) (by kernel_rfl) (by kernel_rfl) (ok_extract rfl rfl) ?_
    refine WD.any [14] (by kernel_rfl) rfl ⟨⟨_, rfl, rfl, ?_⟩, trivial⟩
    refine W.alloc zr43 (fun b8 => ?_)
    refine W.nil ⟨Le.rfl, ((((List.nil_sublist _).cons_cons _).cons_cons _).cons_cons _).cons _, _, ((((List.nil_sublist _).cons_cons _).cons_cons _).cons_cons _).cons _, List.Sublist.refl _, ?_⟩
    refine WD.any [15] (by kernel_rfl) rfl ⟨⟨_, rfl, rfl, ?_⟩, trivial⟩
    refine W.store (i := 0) (vs := [.int .i64 _, .int .i64 _, .slice _ _ _, .slice _ _ _, .string _, .bool _, .int .i64 _, .int .i64 _, .slice _ _ _, .slice _ _ _]) (L' := [.int .i64 _, .int .i64 _, .slice _ _ _, .slice _ _ _, .string _, .bool _, .int .i64 _, .int .i64 _, .slice _ _ _, .slice _ _ _]) ty43 rfl rfl rfl rfl rfl rfl rfl rfl ?_
    refine W.nil ⟨Le.rfl, ((((List.nil_sublist _).cons_cons _).cons_cons _).cons_cons _).cons _, _, ((((List.nil_sublist _).cons_cons _).cons_cons _).cons_cons _).cons _, List.Sublist.refl _, ?_⟩
    refine WD.take 16 rfl rfl rfl (by kernel_rfl) (by kernel_rfl) (by kernel_rfl) (ok_as) ?_
    refine WD.done (by kernel_rfl) (thn_n ?_)
    exact ⟨hG1, ((), b8, [.int .i64 x.n.slot, .int .i64 x.n.level, .slice pa_hR5 (x.n.pivots).length pc_hR5, .slice ka_hR5 (x.n.kids).length kc_hR5, .string x.n.high.b, .bool x.n.top, .int .i64 x.n.right, .int .i64 x.n.seen, .slice ma_hR5 (x.n.msgs).length mc_hR5, .slice ra_hR5 (x.n.rows).length rc_hR5]), ⟨eqv, eqv, trivial⟩, ⟨rfl, (by exact ⟨_, _, _, _, _, _, _, _, rfl, hp_hR5, hk_hR5, hm_hR5, hr_hR5, hok_hR5⟩)⟩⟩
   ·refine W.alloc zr43 (fun b9 => ?_)
    refine W.nil ⟨Le.rfl, ((((List.nil_sublist _).cons_cons _).cons_cons _).cons_cons _).cons _, _, ((((List.nil_sublist _).cons_cons _).cons_cons _).cons_cons _).cons _, List.Sublist.refl _, ?_⟩
    refine WD.any [10] (by kernel_rfl) rfl ⟨⟨_, rfl, rfl, ?_⟩, trivial⟩
    refine W.call (Mp := Ms_s) (pnode_at h_s t hg.mem) rfl (pmC (pmC (pmC (pmC (pmA (pmA (List.Perm.refl _))))))) ?_
    intro v13 G10 Ms12 hG10 q11
    refine match q11 with | ⟨⟨_, e_15, ⟨pa_hR14, pc_hR14, ka_hR14, kc_hR14, ma_hR14, mc_hR14, ra_hR14, rc_hR14, e_16, hp_hR14, hk_hR14, hm_hR14, hr_hR14, hok_hR14⟩⟩, eeq11⟩ => ?_
    subst e_15
    subst e_16
    have eeq11 := eeq11.symm
    subst eeq11
    refine W.perm (pmC (pmC (pmC (pmC (List.Perm.refl _))))).symm ?_
    refine W.perm (M' := ((b9, .cells (List.toArray [.int .i64 0, .int .i64 0, .slice none 0 0, .slice none 0 0, .string ⟨#[]⟩, .bool false, .int .i64 0, .int .i64 0, .slice none 0 0, .slice none 0 0]) 43 (0, 0)) :: ((b_r, .cells (List.toArray [.int .i64 fr, .int .i64 x.n.slot, .pointer (some ⟨b_c, 0, none⟩), .pointer (some ⟨b_h, 0, none⟩), .string key.b, vn, .slice sa_LM LM.length sc_LM, .bool false, .bool false, .int .i64 0, .bool false, .string Str.nil.b, .slice none 0 0]) 98 (0, 0)) :: ((b_h, .cells (List.toArray [.pointer (some ⟨b_c, 0, none⟩), .int .i64 th, .pointer vw, .int .i64 most]) 79 (0, 0)) :: ((b_c, .cells (List.toArray [.pointer (some ⟨b_s, 0, none⟩), .pointer (some ⟨b_t, 0, none⟩), vM, .int .i64 wt, .int .i64 ch]) 76 (0, 0)) :: (Ms_LM ++ (Ms_t ++ (Ms_s ++ [])))))))) ((((((List.Perm.append_left _ ((List.Perm.append_left _ ((List.Perm.append_left _ (List.Perm.refl _)).trans (List.Perm.refl _))).trans (pmA (List.Perm.refl _)))).trans (pmA (List.Perm.refl _))).cons _).cons _).cons _).cons _) ?_
    refine W.nil ⟨hG10, ((((List.nil_sublist _).cons_cons _).cons_cons _).cons_cons _).cons _, _, ((((List.nil_sublist _).cons_cons _).cons_cons _).cons_cons _).cons _, List.Sublist.refl _, ?_⟩
    refine WD.take 11 rfl rfl rfl (by kernel_rfl) (by kernel_rfl) (by kernel_rfl) (ok_mv) ?_
    refine WD.take 12 rfl rfl rfl (by kernel_rfl) (by kernel_rfl) (by kernel_rfl) (ok_extract rfl rfl) ?_
    refine WD.take 13 rfl rfl rfl (by kernel_rfl) (by kernel_rfl) (by kernel_rfl) (ok_extract rfl rfl) ?_
    refine WD.any [15] (by kernel_rfl) rfl ⟨⟨_, rfl, rfl, ?_⟩, trivial⟩
    refine W.store (i := 0) (vs := [.int .i64 _, .int .i64 _, .slice _ _ _, .slice _ _ _, .string _, .bool _, .int .i64 _, .int .i64 _, .slice _ _ _, .slice _ _ _]) (L' := [.int .i64 _, .int .i64 _, .slice _ _ _, .slice _ _ _, .string _, .bool _, .int .i64 _, .int .i64 _, .slice _ _ _, .slice _ _ _]) ty43 rfl rfl rfl rfl rfl rfl rfl rfl ?_
    refine W.nil ⟨Le.rfl, ((((List.nil_sublist _).cons_cons _).cons_cons _).cons_cons _).cons _, _, ((((List.nil_sublist _).cons_cons _).cons_cons _).cons_cons _).cons _, List.Sublist.refl _, ?_⟩
    refine WD.take 16 rfl rfl rfl (by kernel_rfl) (by kernel_rfl) (by kernel_rfl) (ok_as) ?_
    refine WD.done (by kernel_rfl) (thn_n ?_)
    exact ⟨hG10, ((), b9, [.int .i64 x.n.slot, .int .i64 x.n.level, .slice pa_hR14 (x.n.pivots).length pc_hR14, .slice ka_hR14 (x.n.kids).length kc_hR14, .string x.n.high.b, .bool x.n.top, .int .i64 x.n.right, .int .i64 x.n.seen, .slice ma_hR14 (x.n.msgs).length mc_hR14, .slice ra_hR14 (x.n.rows).length rc_hR14]), ⟨eqv, eqv, trivial⟩, ⟨rfl, (by exact ⟨_, _, _, _, _, _, _, _, rfl, hp_hR14, hk_hR14, hm_hR14, hr_hR14, hok_hR14⟩)⟩⟩
  ·refine W.alloc zr43 (fun b17 => ?_)
   refine W.nil ⟨Le.rfl, ((((List.nil_sublist _).cons_cons _).cons_cons _).cons_cons _).cons _, _, ((((List.nil_sublist _).cons_cons _).cons_cons _).cons_cons _).cons _, List.Sublist.refl _, ?_⟩
   refine WD.any [4] (by kernel_rfl) rfl ⟨⟨_, rfl, rfl, ?_⟩, trivial⟩
   refine W.lendQ (fun G1 hl1 hn1 => cstoreg_fc (cellsG_at (in_of (i := 3) hn1 rfl))) cl24 rfl ?_
   refine W.nil ⟨Le.rfl, ((((List.nil_sublist _).cons_cons _).cons_cons _).cons_cons _).cons _, _, ((((List.nil_sublist _).cons_cons _).cons_cons _).cons_cons _).cons _, List.Sublist.refl _, ?_⟩
   refine WD.any [10] (by kernel_rfl) rfl ⟨⟨_, rfl, rfl, ?_⟩, trivial⟩
   refine W.call (Mp := Ms_s) (pnode_at h_s t hg.mem) rfl (pmC (pmC (pmC (pmC (pmA (pmA (List.Perm.refl _))))))) ?_
   intro v21 G18 Ms20 hG18 q19
   refine match q19 with | ⟨⟨_, e_23, ⟨pa_hR22, pc_hR22, ka_hR22, kc_hR22, ma_hR22, mc_hR22, ra_hR22, rc_hR22, e_24, hp_hR22, hk_hR22, hm_hR22, hr_hR22, hok_hR22⟩⟩, eeq19⟩ => ?_
   subst e_23
   subst e_24
   have eeq19 := eeq19.symm
   subst eeq19
   refine W.perm (pmC (pmC (pmC (pmC (List.Perm.refl _))))).symm ?_
   refine W.perm (M' := ((b17, .cells (List.toArray [.int .i64 0, .int .i64 0, .slice none 0 0, .slice none 0 0, .string ⟨#[]⟩, .bool false, .int .i64 0, .int .i64 0, .slice none 0 0, .slice none 0 0]) 43 (0, 0)) :: ((b_r, .cells (List.toArray [.int .i64 fr, .int .i64 x.n.slot, .pointer (some ⟨b_c, 0, none⟩), .pointer (some ⟨b_h, 0, none⟩), .string key.b, vn, .slice sa_LM LM.length sc_LM, .bool false, .bool false, .int .i64 0, .bool false, .string Str.nil.b, .slice none 0 0]) 98 (0, 0)) :: ((b_h, .cells (List.toArray [.pointer (some ⟨b_c, 0, none⟩), .int .i64 th, .pointer vw, .int .i64 most]) 79 (0, 0)) :: ((b_c, .cells (List.toArray [.pointer (some ⟨b_s, 0, none⟩), .pointer (some ⟨b_t, 0, none⟩), vM, .int .i64 wt, .int .i64 ch]) 76 (0, 0)) :: (Ms_LM ++ (Ms_t ++ (Ms_s ++ [])))))))) ((((((List.Perm.append_left _ ((List.Perm.append_left _ ((List.Perm.append_left _ (List.Perm.refl _)).trans (List.Perm.refl _))).trans (pmA (List.Perm.refl _)))).trans (pmA (List.Perm.refl _))).cons _).cons _).cons _).cons _) ?_
   refine W.nil ⟨hG18, ((((List.nil_sublist _).cons_cons _).cons_cons _).cons_cons _).cons _, _, ((((List.nil_sublist _).cons_cons _).cons_cons _).cons_cons _).cons _, List.Sublist.refl _, ?_⟩
   refine WD.take 11 rfl rfl rfl (by kernel_rfl) (by kernel_rfl) (by kernel_rfl) (ok_mv) ?_
   refine WD.take 12 rfl rfl rfl (by kernel_rfl) (by kernel_rfl) (by kernel_rfl) (ok_extract rfl rfl) ?_
   refine WD.take 13 rfl rfl rfl (by kernel_rfl) (by kernel_rfl) (by kernel_rfl) (ok_extract rfl rfl) ?_
   refine WD.any [15] (by kernel_rfl) rfl ⟨⟨_, rfl, rfl, ?_⟩, trivial⟩
   refine W.store (i := 0) (vs := [.int .i64 _, .int .i64 _, .slice _ _ _, .slice _ _ _, .string _, .bool _, .int .i64 _, .int .i64 _, .slice _ _ _, .slice _ _ _]) (L' := [.int .i64 _, .int .i64 _, .slice _ _ _, .slice _ _ _, .string _, .bool _, .int .i64 _, .int .i64 _, .slice _ _ _, .slice _ _ _]) ty43 rfl rfl rfl rfl rfl rfl rfl rfl ?_
   refine W.nil ⟨Le.rfl, ((((List.nil_sublist _).cons_cons _).cons_cons _).cons_cons _).cons _, _, ((((List.nil_sublist _).cons_cons _).cons_cons _).cons_cons _).cons _, List.Sublist.refl _, ?_⟩
   refine WD.take 16 rfl rfl rfl (by kernel_rfl) (by kernel_rfl) (by kernel_rfl) (ok_as) ?_
   refine WD.done (by kernel_rfl) (thn_n ?_)
   exact ⟨hG18, ((), b17, [.int .i64 x.n.slot, .int .i64 x.n.level, .slice pa_hR22 (x.n.pivots).length pc_hR22, .slice ka_hR22 (x.n.kids).length kc_hR22, .string x.n.high.b, .bool x.n.top, .int .i64 x.n.right, .int .i64 x.n.seen, .slice ma_hR22 (x.n.msgs).length mc_hR22, .slice ra_hR22 (x.n.rows).length rc_hR22]), ⟨eqv, eqv, trivial⟩, ⟨rfl, (by exact ⟨_, _, _, _, _, _, _, _, rfl, hp_hR22, hk_hR22, hm_hR22, hr_hR22, hok_hR22⟩)⟩⟩
 ·rintro ⟨u2, B_3, C_3⟩ gG25 G25 _ hG25 ⟨rfl, ho_3⟩
  try dsimp only at ho_3
  refine match ho_3 with | ⟨pa_nb26, pc_nb26, ka_nb26, kc_nb26, ma_nb26, mc_nb26, ra_nb26, rc_nb26, e_27, hp_nb26, hk_nb26, hm_nb26, hr_nb26, hok_nb26⟩ => ?_
  subst e_27
  refine WC.fr (f := setL gG25 [(0, .pointer (some ⟨b_r, 0, none⟩)), (3, .pointer (some ⟨B_3, 0, none⟩))]) rfl ?_
  refine WC.seq ?_
  refine WC.region ?_
  refine W.mv ?_
  refine W.mv ?_
  refine W.mv ?_
  refine W.ok (ok_nilP rfl) ?_
  refine W.ok (ok_fieldB fd98_0 rfl) ?_
  refine W.ok (ok_fieldB fd95_1 rfl) ?_
  refine W.ok (ok_loadB (i := 1) (vs := [.int .i64 _]) ty3 rfl rfl rfl rfl (by simp)) ?_
  refine W.ok (ok_nilP rfl) ?_
  refine W.ok (ok_fieldB fd98_0 rfl) ?_
  refine W.ok (ok_fieldB fd95_0 rfl) ?_
  refine W.store (i := 1) (vs := [.int .i64 _]) (L' := [.int .i64 _, _, _, _, _, _, _, _, _, _, _, _, _]) ty3 rfl rfl rfl rfl rfl rfl rfl rfl ?_
  refine W.ok (ok_nilP rfl) ?_
  refine W.ok (ok_fieldB fd98_4 rfl) ?_
  refine W.store (i := 1) (vs := [.func _ _ _]) (L' := [_, _, _, _, _, .func _ _ _, _, _, _, _, _, _, _]) ty96 rfl rfl rfl rfl rfl rfl rfl rfl ?_
  refine W.nil (thn_n ?_)
  refine WC.seq ?_
  refine WC.block ?_
  refine WC.seq ?_
  refine WC.draw mix (by kernel_rfl) ?_
  refine W.ok (ok_loadB (i := 0) (vs := [.int .i64 _, .int .i64 _, .slice _ _ _, .slice _ _ _, .string _, .bool _, .int .i64 _, .int .i64 _, .slice _ _ _, .slice _ _ _]) ty43 rfl rfl rfl rfl (by simp)) ?_
  refine W.mv ?_
  refine W.ok (ok_nilP rfl) ?_
  refine W.ok (ok_fieldB fd98_3 rfl) ?_
  refine W.ok (ok_loadB (i := 1) (vs := [.string _]) ty9 rfl rfl rfl rfl (by simp)) ?_
  refine W.qcall ((nodehas_fc ⟨_, _, _, _, _, _, _, _, rfl, hp_nb26, hk_nb26, hm_nb26, hr_nb26, hok_nb26⟩ key).mono (fun v _ _ _ hv => hv.trans (congrArg Value.bool (nsp_has t hg.mem hg.has)))) rfl ?_
  refine W.ok (ok_not rfl) ?_
  refine W.as ?_
  refine W.nil (thn_n ?_)
  refine WC.cond_f rfl rfl ?_
  refine WC.seq ?_
  refine WC.region ?_
  refine W.ok (ok_fieldB fd43_1 rfl) ?_
  refine W.ok (ok_loadB (i := 0) (vs := [.int .i64 _]) ty3 rfl rfl rfl rfl (by simp)) ?_
  refine W.ok (ok_gtr rfl rfl) ?_
  refine W.as ?_
  refine W.nil (thn_n ?_)
  refine WC.cond (b := _) rfl (fun h48 => ?_) (fun h48 => ?_)
  ·have p48 := of_decide_eq_true h48
   try dsimp only at p48
   refine WC.seq ?_
   refine WC.drawW _ (((((List.nil_sublist _).cons_cons _).cons_cons _).cons _).cons_cons _) mix (by rintro _ _ _ _ ⟨h | h, _⟩ <;> cases h) ?_
   refine WD.take 0 rfl rfl rfl (by kernel_rfl) (by kernel_rfl) (by kernel_rfl) (ok_mv) ?_
   refine WD.take 1 rfl rfl rfl (by kernel_rfl) (by kernel_rfl) (by kernel_rfl) (ok_mv) ?_
   refine WD.take 2 rfl rfl rfl (by kernel_rfl) (by kernel_rfl) (by kernel_rfl) (ok_nilP rfl) ?_
   refine WD.take 3 rfl rfl rfl (by kernel_rfl) (by kernel_rfl) (by kernel_rfl) (ok_fieldB fd98_5 rfl) ?_
   refine WD.take 5 rfl rfl rfl (by kernel_rfl) (by kernel_rfl) (by kernel_rfl) (ok_fieldB fd43_8 rfl) ?_
   refine WD.take 6 rfl rfl rfl (by kernel_rfl) (by kernel_rfl) (by kernel_rfl) (ok_loadB (i := 0) (vs := [.slice _ _ _]) ty40 rfl rfl rfl rfl (by simp)) ?_
   refine WD.any [4, 7] (by kernel_rfl) rfl ⟨⟨_, rfl, rfl, ?_⟩, ⟨_, rfl, rfl, ?_⟩, trivial⟩
   ·refine W.ok (ok_loadB (i := 1) (vs := [.slice _ _ _]) ty92 rfl rfl rfl rfl (by simp)) ?_
    refine W.nil ⟨Le.rfl, ((((List.nil_sublist _).cons_cons _).cons_cons _).cons _).cons_cons _, _, ((((List.nil_sublist _).cons_cons _).cons_cons _).cons _).cons_cons _, List.Sublist.refl _, ?_⟩
    refine WD.any [7] (by kernel_rfl) rfl ⟨⟨_, rfl, rfl, ?_⟩, trivial⟩
    refine W.lit (e := (eSl eMsg)) (l := [(x.n).msgs]) (css := [[.slice _ _ _]]) sl92 ty40 zr40 rfl rfl rfl rfl rfl rfl ⟨⟨_, rfl, hm_nb26⟩, trivial⟩ (fun bl28 G28 hG28 hv28 => ?_)
    refine W.nil ⟨hG28, ((((List.nil_sublist _).cons_cons _).cons_cons _).cons _).cons_cons _, _, ((((List.nil_sublist _).cons_cons _).cons_cons _).cons _).cons_cons _, List.Sublist.refl _, ?_⟩
    refine WD.any [8] (by kernel_rfl) rfl ⟨⟨_, rfl, rfl, ?_⟩, trivial⟩
    refine W.app (e := (eSl eMsg)) sl92 ty40 zr40 rfl by40 rfl rfl ((h_LM.mono (hG25.trans hG28))) (hv28) (pmC (pmC (pmC (pmC (List.Perm.refl _))))) (by show (_ + 1) * 24 ≤ _; omega) (fun v29 Ms30 ho31 => ?_)
    refine W.perm (pmC (pmC (pmC (pmC (List.Perm.refl _))))).symm ?_
    have q35 := ho31.form
    refine match q35 with | ⟨sa32, sc33, e_34⟩ => ?_
    subst e_34
    refine W.nil ⟨Le.rfl, ((((List.nil_sublist _).cons_cons _).cons_cons _).cons _).cons_cons _, _, ((((List.nil_sublist _).cons_cons _).cons_cons _).cons _).cons_cons _, List.Sublist.refl _, ?_⟩
    refine WD.take 9 rfl rfl rfl (by kernel_rfl) (by kernel_rfl) (by kernel_rfl) (ok_nilP rfl) ?_
    refine WD.take 10 rfl rfl rfl (by kernel_rfl) (by kernel_rfl) (by kernel_rfl) (ok_fieldB fd98_5 rfl) ?_
    refine WD.any [11] (by kernel_rfl) rfl ⟨⟨_, rfl, rfl, ?_⟩, trivial⟩
    refine W.store (i := 1) (vs := [.slice _ _ _]) (L' := [_, _, _, _, _, _, .slice _ _ _, _, _, _, _, _, _]) ty92 rfl rfl rfl rfl rfl rfl rfl rfl ?_
    refine W.nil ⟨Le.rfl, ((((List.nil_sublist _).cons_cons _).cons_cons _).cons _).cons_cons _, _, ((((List.nil_sublist _).cons_cons _).cons_cons _).cons _).cons_cons _, List.Sublist.refl _, ?_⟩
    refine WD.done (by kernel_rfl) (thn_n ?_)
    refine WC.seq ?_
    refine WC.drawW _ (((((List.Sublist.refl _).cons_cons _).cons_cons _).cons _).cons_cons _) mix (by rintro _ _ _ _ ⟨h | h, _⟩ <;> cases h) ?_
    refine WD.take 0 rfl rfl rfl (by kernel_rfl) (by kernel_rfl) (by kernel_rfl) (ok_mv) ?_
    refine WD.take 1 rfl rfl rfl (by kernel_rfl) (by kernel_rfl) (by kernel_rfl) (ok_fieldB fd43_3 rfl) ?_
    refine WD.take 2 rfl rfl rfl (by kernel_rfl) (by kernel_rfl) (by kernel_rfl) (ok_loadB (i := 0) (vs := [.slice _ _ _]) ty39 rfl rfl rfl rfl (by simp)) ?_
    refine WD.take 3 rfl rfl rfl (by kernel_rfl) (by kernel_rfl) (by kernel_rfl) (ok_fieldB fd43_2 rfl) ?_
    refine WD.take 4 rfl rfl rfl (by kernel_rfl) (by kernel_rfl) (by kernel_rfl) (ok_loadB (i := 0) (vs := [.slice _ _ _]) ty38 rfl rfl rfl rfl (by simp)) ?_
    refine WD.take 5 rfl rfl rfl (by kernel_rfl) (by kernel_rfl) (by kernel_rfl) (ok_mv) ?_
    refine WD.take 6 rfl rfl rfl (by kernel_rfl) (by kernel_rfl) (by kernel_rfl) (ok_nilP rfl) ?_
    refine WD.take 7 rfl rfl rfl (by kernel_rfl) (by kernel_rfl) (by kernel_rfl) (ok_fieldB fd98_3 rfl) ?_
    refine WD.any [8] (by kernel_rfl) rfl ⟨⟨_, rfl, rfl, ?_⟩, trivial⟩
    refine W.ok (ok_loadB (i := 1) (vs := [.string _]) ty9 rfl rfl rfl rfl (by simp)) ?_
    refine W.nil ⟨Le.rfl, ((((List.Sublist.refl _).cons_cons _).cons_cons _).cons _).cons_cons _, _, ((((List.Sublist.refl _).cons_cons _).cons_cons _).cons _).cons_cons _, List.Sublist.refl _, ?_⟩
    refine WD.any [9] (by kernel_rfl) rfl ⟨⟨_, rfl, rfl, ?_⟩, trivial⟩
    refine W.qcall (broute_fc (hp_nb26.mono hG28) _ (rightN_spec (t.right hg.mem h0)).1) rfl ?_
    refine W.nil ⟨Le.rfl, ((((List.Sublist.refl _).cons_cons _).cons_cons _).cons _).cons_cons _, _, ((((List.Sublist.refl _).cons_cons _).cons_cons _).cons _).cons_cons _, List.Sublist.refl _, ?_⟩
    have q39 := (hk_nb26.mono hG28).at (i := routeN x.n.pivots key) (by first | exact t.route hg.mem h0 key | omega)
    refine match q39 with | ⟨_, he36, ⟨e_38, hi37⟩⟩ => ?_
    subst e_38
    refine WD.take 10 rfl rfl rfl (by kernel_rfl) (by kernel_rfl) (by kernel_rfl) (ok_indexAddr (i := routeN x.n.pivots key) sl39 ty3 (hk_nb26.mono hG28) rfl rfl ⟨by omega, by first | exact t.route hg.mem h0 key | omega⟩) ?_
    refine WD.take 11 rfl rfl rfl (by kernel_rfl) (by kernel_rfl) (by kernel_rfl) (Ok.to9 (v' := .int .i64 (kidSt l x (routeN x.n.pivots key)).n.slot) (ok_loadE (vs := [.int .i64 _]) ty3 he36 rfl rfl rfl (by simp)) (congrArg (Value.int .i64) (At.slot t hg.mem h0 key).symm)) ?_
    refine WD.take 12 rfl rfl rfl (by kernel_rfl) (by kernel_rfl) (by kernel_rfl) (ok_nilP rfl) ?_
    refine WD.take 13 rfl rfl rfl (by kernel_rfl) (by kernel_rfl) (by kernel_rfl) (ok_fieldB fd98_0 rfl) ?_
    refine WD.take 14 rfl rfl rfl (by kernel_rfl) (by kernel_rfl) (by kernel_rfl) (ok_fieldB fd95_1 rfl) ?_
    refine WD.any [15] (by kernel_rfl) rfl ⟨⟨_, rfl, rfl, ?_⟩, trivial⟩
    refine W.store (i := 1) (vs := [.int .i64 _]) (L' := [_, .int .i64 _, _, _, _, _, _, _, _, _, _, _, _]) ty3 rfl rfl rfl rfl rfl rfl rfl rfl ?_
    refine W.nil ⟨Le.rfl, ((((List.Sublist.refl _).cons_cons _).cons_cons _).cons _).cons_cons _, _, ((((List.Sublist.refl _).cons_cons _).cons_cons _).cons _).cons_cons _, List.Sublist.refl _, ?_⟩
    refine WD.done (by kernel_rfl) (thn_n ?_)
    refine WC.seq ?_
    refine WC.region ?_
    refine W.as ?_
    refine W.nil (thn_n ?_)
    refine WC.sub (M' := ((b_r, .cells (List.toArray [.int .i64 x.n.slot, .int .i64 (kidSt l x (routeN x.n.pivots key)).n.slot, .pointer (some ⟨b_c, 0, none⟩), .pointer (some ⟨b_h, 0, none⟩), .string key.b, .func (.func 44) #[] #[], .slice sa32 ((LM ++ [(x.n).msgs])).length sc33, .bool false, .bool false, .int .i64 0, .bool false, .string Str.nil.b, .slice none 0 0]) 98 (0, 0)) :: ((b_h, .cells (List.toArray [.pointer (some ⟨b_c, 0, none⟩), .int .i64 th, .pointer vw, .int .i64 most]) 79 (0, 0)) :: ((b_c, .cells (List.toArray [.pointer (some ⟨b_s, 0, none⟩), .pointer (some ⟨b_t, 0, none⟩), vM, .int .i64 wt, .int .i64 ch]) 76 (0, 0)) :: (Ms30 ++ (Ms_t ++ (Ms_s ++ []))))))) (((((List.Sublist.append_left (List.Sublist.append_left (List.Sublist.append_left (List.Sublist.refl _) _) _) _).cons_cons _).cons_cons _).cons_cons _).cons _) ?_
    refine WC.perm (M' := ((b_r, .cells (List.toArray [.int .i64 x.n.slot, .int .i64 (kidSt l x (routeN x.n.pivots key)).n.slot, .pointer (some ⟨b_c, 0, none⟩), .pointer (some ⟨b_h, 0, none⟩), .string key.b, .func (.func 44) #[] #[], .slice sa32 ((LM ++ [(x.n).msgs])).length sc33, .bool false, .bool false, .int .i64 0, .bool false, .string Str.nil.b, .slice none 0 0]) 98 (0, 0)) :: ((b_h, .cells (List.toArray [.pointer (some ⟨b_c, 0, none⟩), .int .i64 th, .pointer vw, .int .i64 most]) 79 (0, 0)) :: ((b_c, .cells (List.toArray [.pointer (some ⟨b_s, 0, none⟩), .pointer (some ⟨b_t, 0, none⟩), vM, .int .i64 wt, .int .i64 ch]) 76 (0, 0)) :: (Ms_t ++ (Ms30 ++ (Ms_s ++ []))))))) (((((List.Perm.append_left _ ((List.Perm.append_left _ ((List.Perm.append_left _ (List.Perm.refl _)).trans (List.Perm.refl _))).trans (List.Perm.refl _))).trans (pmA (List.Perm.refl _))).cons _).cons _).cons _) ?_
    refine WC.ret (blk_r (thn_r ?_))
    refine ⟨.inr rfl, [_], ⟨rfl, trivial⟩, ((b_r, .cells (List.toArray [.int .i64 x.n.slot, .int .i64 (kidSt l x (routeN x.n.pivots key)).n.slot, .pointer (some ⟨b_c, 0, none⟩), .pointer (some ⟨b_h, 0, none⟩), .string key.b, .func (.func 44) #[] #[], .slice sa32 ((LM ++ [(x.n).msgs])).length sc33, .bool false, .bool false, .int .i64 0, .bool false, .string Str.nil.b, .slice none 0 0]) 98 (0, 0)) :: ((b_h, .cells (List.toArray [.pointer (some ⟨b_c, 0, none⟩), .int .i64 th, .pointer vw, .int .i64 most]) 79 (0, 0)) :: ((b_c, .cells (List.toArray [.pointer (some ⟨b_s, 0, none⟩), .pointer (some ⟨b_t, 0, none⟩), vM, .int .i64 wt, .int .i64 ch]) 76 (0, 0)) :: (Ms_t ++ (Ms30 ++ Ms_s))))), (((List.Sublist.append_left (List.Sublist.append_left (List.sublist_append_left _ _) _) _).cons_cons _).cons_cons _).cons_cons _, ?_⟩
    exact ⟨rfl, _, _, _, _, congrArg _ (by simp), ho31, ⟨vw, _, rfl, (TabR.mono (hG25.trans hG28) h_t)⟩, (StR.mono (hG25.trans hG28) h_s)⟩
   ·refine W.lit (e := (eSl eMsg)) (l := [(x.n).msgs]) (css := [[.slice _ _ _]]) sl92 ty40 zr40 rfl rfl rfl rfl rfl rfl ⟨⟨_, rfl, hm_nb26⟩, trivial⟩ (fun bl40 G40 hG40 hv40 => ?_)
    refine W.nil ⟨hG40, ((((List.nil_sublist _).cons_cons _).cons_cons _).cons _).cons_cons _, _, ((((List.nil_sublist _).cons_cons _).cons_cons _).cons _).cons_cons _, List.Sublist.refl _, ?_⟩
    refine WD.any [4] (by kernel_rfl) rfl ⟨⟨_, rfl, rfl, ?_⟩, trivial⟩
    refine W.ok (ok_loadB (i := 1) (vs := [.slice _ _ _]) ty92 rfl rfl rfl rfl (by simp)) ?_
    refine W.nil ⟨Le.rfl, ((((List.nil_sublist _).cons_cons _).cons_cons _).cons _).cons_cons _, _, ((((List.nil_sublist _).cons_cons _).cons_cons _).cons _).cons_cons _, List.Sublist.refl _, ?_⟩
    refine WD.any [8] (by kernel_rfl) rfl ⟨⟨_, rfl, rfl, ?_⟩, trivial⟩
    refine W.app (e := (eSl eMsg)) sl92 ty40 zr40 rfl by40 rfl rfl ((h_LM.mono (hG25.trans hG40))) (hv40) (pmC (pmC (pmC (pmC (List.Perm.refl _))))) (by show (_ + 1) * 24 ≤ _; omega) (fun v41 Ms42 ho43 => ?_)
    refine W.perm (pmC (pmC (pmC (pmC (List.Perm.refl _))))).symm ?_
    have q47 := ho43.form
    refine match q47 with | ⟨sa44, sc45, e_46⟩ => ?_
    subst e_46
    refine W.nil ⟨Le.rfl, ((((List.nil_sublist _).cons_cons _).cons_cons _).cons _).cons_cons _, _, ((((List.nil_sublist _).cons_cons _).cons_cons _).cons _).cons_cons _, List.Sublist.refl _, ?_⟩
    refine WD.take 9 rfl rfl rfl (by kernel_rfl) (by kernel_rfl) (by kernel_rfl) (ok_nilP rfl) ?_
    refine WD.take 10 rfl rfl rfl (by kernel_rfl) (by kernel_rfl) (by kernel_rfl) (ok_fieldB fd98_5 rfl) ?_
    refine WD.any [11] (by kernel_rfl) rfl ⟨⟨_, rfl, rfl, ?_⟩, trivial⟩
    refine W.store (i := 1) (vs := [.slice _ _ _]) (L' := [_, _, _, _, _, _, .slice _ _ _, _, _, _, _, _, _]) ty92 rfl rfl rfl rfl rfl rfl rfl rfl ?_
    refine W.nil ⟨Le.rfl, ((((List.nil_sublist _).cons_cons _).cons_cons _).cons _).cons_cons _, _, ((((List.nil_sublist _).cons_cons _).cons_cons _).cons _).cons_cons _, List.Sublist.refl _, ?_⟩
    refine WD.done (by kernel_rfl) (thn_n ?_)
    refine WC.seq ?_
    refine WC.drawW _ (((((List.Sublist.refl _).cons_cons _).cons_cons _).cons _).cons_cons _) mix (by rintro _ _ _ _ ⟨h | h, _⟩ <;> cases h) ?_
    refine WD.take 0 rfl rfl rfl (by kernel_rfl) (by kernel_rfl) (by kernel_rfl) (ok_mv) ?_
    refine WD.take 1 rfl rfl rfl (by kernel_rfl) (by kernel_rfl) (by kernel_rfl) (ok_fieldB fd43_3 rfl) ?_
    refine WD.take 2 rfl rfl rfl (by kernel_rfl) (by kernel_rfl) (by kernel_rfl) (ok_loadB (i := 0) (vs := [.slice _ _ _]) ty39 rfl rfl rfl rfl (by simp)) ?_
    refine WD.take 3 rfl rfl rfl (by kernel_rfl) (by kernel_rfl) (by kernel_rfl) (ok_fieldB fd43_2 rfl) ?_
    refine WD.take 4 rfl rfl rfl (by kernel_rfl) (by kernel_rfl) (by kernel_rfl) (ok_loadB (i := 0) (vs := [.slice _ _ _]) ty38 rfl rfl rfl rfl (by simp)) ?_
    refine WD.take 5 rfl rfl rfl (by kernel_rfl) (by kernel_rfl) (by kernel_rfl) (ok_mv) ?_
    refine WD.take 6 rfl rfl rfl (by kernel_rfl) (by kernel_rfl) (by kernel_rfl) (ok_nilP rfl) ?_
    refine WD.take 7 rfl rfl rfl (by kernel_rfl) (by kernel_rfl) (by kernel_rfl) (ok_fieldB fd98_3 rfl) ?_
    refine WD.any [8] (by kernel_rfl) rfl ⟨⟨_, rfl, rfl, ?_⟩, trivial⟩
    refine W.ok (ok_loadB (i := 1) (vs := [.string _]) ty9 rfl rfl rfl rfl (by simp)) ?_
    refine W.nil ⟨Le.rfl, ((((List.Sublist.refl _).cons_cons _).cons_cons _).cons _).cons_cons _, _, ((((List.Sublist.refl _).cons_cons _).cons_cons _).cons _).cons_cons _, List.Sublist.refl _, ?_⟩
    refine WD.any [9] (by kernel_rfl) rfl ⟨⟨_, rfl, rfl, ?_⟩, trivial⟩
    refine W.qcall (broute_fc (hp_nb26.mono hG40) _ (rightN_spec (t.right hg.mem h0)).1) rfl ?_
    refine W.nil ⟨Le.rfl, ((((List.Sublist.refl _).cons_cons _).cons_cons _).cons _).cons_cons _, _, ((((List.Sublist.refl _).cons_cons _).cons_cons _).cons _).cons_cons _, List.Sublist.refl _, ?_⟩
    have q51 := (hk_nb26.mono hG40).at (i := routeN x.n.pivots key) (by first | exact t.route hg.mem h0 key | omega)
    refine match q51 with | ⟨_, he48, ⟨e_50, hi49⟩⟩ => ?_
    subst e_50
    refine WD.take 10 rfl rfl rfl (by kernel_rfl) (by kernel_rfl) (by kernel_rfl) (ok_indexAddr (i := routeN x.n.pivots key) sl39 ty3 (hk_nb26.mono hG40) rfl rfl ⟨by omega, by first | exact t.route hg.mem h0 key | omega⟩) ?_
    refine WD.take 11 rfl rfl rfl (by kernel_rfl) (by kernel_rfl) (by kernel_rfl) (Ok.to9 (v' := .int .i64 (kidSt l x (routeN x.n.pivots key)).n.slot) (ok_loadE (vs := [.int .i64 _]) ty3 he48 rfl rfl rfl (by simp)) (congrArg (Value.int .i64) (At.slot t hg.mem h0 key).symm)) ?_
    refine WD.take 12 rfl rfl rfl (by kernel_rfl) (by kernel_rfl) (by kernel_rfl) (ok_nilP rfl) ?_
    refine WD.take 13 rfl rfl rfl (by kernel_rfl) (by kernel_rfl) (by kernel_rfl) (ok_fieldB fd98_0 rfl) ?_
    refine WD.take 14 rfl rfl rfl (by kernel_rfl) (by kernel_rfl) (by kernel_rfl) (ok_fieldB fd95_1 rfl) ?_
    refine WD.any [15] (by kernel_rfl) rfl ⟨⟨_, rfl, rfl, ?_⟩, trivial⟩
    refine W.store (i := 1) (vs := [.int .i64 _]) (L' := [_, .int .i64 _, _, _, _, _, _, _, _, _, _, _, _]) ty3 rfl rfl rfl rfl rfl rfl rfl rfl ?_
    refine W.nil ⟨Le.rfl, ((((List.Sublist.refl _).cons_cons _).cons_cons _).cons _).cons_cons _, _, ((((List.Sublist.refl _).cons_cons _).cons_cons _).cons _).cons_cons _, List.Sublist.refl _, ?_⟩
    refine WD.done (by kernel_rfl) (thn_n ?_)
    refine WC.seq ?_
    refine WC.region ?_
    refine W.as ?_
    refine W.nil (thn_n ?_)
    refine WC.sub (M' := ((b_r, .cells (List.toArray [.int .i64 x.n.slot, .int .i64 (kidSt l x (routeN x.n.pivots key)).n.slot, .pointer (some ⟨b_c, 0, none⟩), .pointer (some ⟨b_h, 0, none⟩), .string key.b, .func (.func 44) #[] #[], .slice sa44 ((LM ++ [(x.n).msgs])).length sc45, .bool false, .bool false, .int .i64 0, .bool false, .string Str.nil.b, .slice none 0 0]) 98 (0, 0)) :: ((b_h, .cells (List.toArray [.pointer (some ⟨b_c, 0, none⟩), .int .i64 th, .pointer vw, .int .i64 most]) 79 (0, 0)) :: ((b_c, .cells (List.toArray [.pointer (some ⟨b_s, 0, none⟩), .pointer (some ⟨b_t, 0, none⟩), vM, .int .i64 wt, .int .i64 ch]) 76 (0, 0)) :: (Ms42 ++ (Ms_t ++ (Ms_s ++ []))))))) (((((List.Sublist.append_left (List.Sublist.append_left (List.Sublist.append_left (List.Sublist.refl _) _) _) _).cons_cons _).cons_cons _).cons_cons _).cons _) ?_
    refine WC.perm (M' := ((b_r, .cells (List.toArray [.int .i64 x.n.slot, .int .i64 (kidSt l x (routeN x.n.pivots key)).n.slot, .pointer (some ⟨b_c, 0, none⟩), .pointer (some ⟨b_h, 0, none⟩), .string key.b, .func (.func 44) #[] #[], .slice sa44 ((LM ++ [(x.n).msgs])).length sc45, .bool false, .bool false, .int .i64 0, .bool false, .string Str.nil.b, .slice none 0 0]) 98 (0, 0)) :: ((b_h, .cells (List.toArray [.pointer (some ⟨b_c, 0, none⟩), .int .i64 th, .pointer vw, .int .i64 most]) 79 (0, 0)) :: ((b_c, .cells (List.toArray [.pointer (some ⟨b_s, 0, none⟩), .pointer (some ⟨b_t, 0, none⟩), vM, .int .i64 wt, .int .i64 ch]) 76 (0, 0)) :: (Ms_t ++ (Ms42 ++ (Ms_s ++ []))))))) (((((List.Perm.append_left _ ((List.Perm.append_left _ ((List.Perm.append_left _ (List.Perm.refl _)).trans (List.Perm.refl _))).trans (List.Perm.refl _))).trans (pmA (List.Perm.refl _))).cons _).cons _).cons _) ?_
    refine WC.ret (blk_r (thn_r ?_))
    refine ⟨.inr rfl, [_], ⟨rfl, trivial⟩, ((b_r, .cells (List.toArray [.int .i64 x.n.slot, .int .i64 (kidSt l x (routeN x.n.pivots key)).n.slot, .pointer (some ⟨b_c, 0, none⟩), .pointer (some ⟨b_h, 0, none⟩), .string key.b, .func (.func 44) #[] #[], .slice sa44 ((LM ++ [(x.n).msgs])).length sc45, .bool false, .bool false, .int .i64 0, .bool false, .string Str.nil.b, .slice none 0 0]) 98 (0, 0)) :: ((b_h, .cells (List.toArray [.pointer (some ⟨b_c, 0, none⟩), .int .i64 th, .pointer vw, .int .i64 most]) 79 (0, 0)) :: ((b_c, .cells (List.toArray [.pointer (some ⟨b_s, 0, none⟩), .pointer (some ⟨b_t, 0, none⟩), vM, .int .i64 wt, .int .i64 ch]) 76 (0, 0)) :: (Ms_t ++ (Ms42 ++ Ms_s))))), (((List.Sublist.append_left (List.Sublist.append_left (List.sublist_append_left _ _) _) _).cons_cons _).cons_cons _).cons_cons _, ?_⟩
    exact ⟨rfl, _, _, _, _, congrArg _ (by simp), ho43, ⟨vw, _, rfl, (TabR.mono (hG25.trans hG40) h_t)⟩, (StR.mono (hG25.trans hG40) h_s)⟩
  ·have p48 := of_decide_eq_false h48
   try dsimp only at p48
   exfalso; omega

theorem rdlook0_fc {G : GH} {b_r : Nat} {fr : Int} {x : Seat} {key : Str} {vn : Value} {v_LM : Value} {LM : List (List Msg)} {Ms_LM : MH} (h_LM : OwnR (eSl eMsg) 40 G v_LM LM Ms_LM) {b_h : Nat} {th : Int} {vw : Option Addr} {most : Int} {b_c : Nat} {b_s : Nat} {vM : Value} {Th : List Int} {Lw : Lat} {b_t : Nat} {Ms_t : MH} (h_t : TabR 128 132 3 Th b_t G Lw Ms_t) {wt : Int} {ch : Int} {c c2 : Cfg} {l : List Nd} {ss : List Seat} {Ms_s : MH} (h_s : StR 43 4 3 150 107 b_s c G l Ms_s) (t : Tree c2 l ss) (hg : Rp l ss key x LM) (h0 : x.n.level = 0) (hk300 : key.b.size ≤ 300) :
    Fc Tryz.prog 71 [.pointer (some ⟨b_r, 0, none⟩)] G ((b_r, .cells (List.toArray [.int .i64 fr, .int .i64 x.n.slot, .pointer (some ⟨b_c, 0, none⟩), .pointer (some ⟨b_h, 0, none⟩), .string key.b, vn, v_LM, .bool false, .bool false, .int .i64 0, .bool false, .string Str.nil.b, .slice none 0 0]) 98 (0, 0)) :: ((b_h, .cells (List.toArray [.pointer (some ⟨b_c, 0, none⟩), .int .i64 th, .pointer vw, .int .i64 most]) 79 (0, 0)) :: ((b_c, .cells (List.toArray [.pointer (some ⟨b_s, 0, none⟩), .pointer (some ⟨b_t, 0, none⟩), vM, .int .i64 wt, .int .i64 ch]) 76 (0, 0)) :: (Ms_LM ++ (Ms_t ++ (Ms_s)))))) (fun v G' M' => v = .bool true ∧ ∃ vl Mh Ms, M' = (b_r, .cells (List.toArray [.int .i64 x.n.slot, .int .i64 x.n.slot, .pointer (some ⟨b_c, 0, none⟩), .pointer (some ⟨b_h, 0, none⟩), .string key.b, .func (.func 44) #[] #[], vl, .bool false, .bool true, .int .i64 0, .bool ((getN (mapN l) key).isSome), .string ((getN (mapN l) key).getD Str.nil).b, .slice none 0 0]) 98 (0, 0)) :: (Mh ++ Ms) ∧ HcR 128 132 3 79 76 Th b_h b_c b_t (some ⟨b_s, 0, none⟩) vM wt ch G' th most (ldropN Lw th) Mh ∧ StR 43 4 3 150 107 b_s c G' l Ms) := by
 obtain ⟨sa_LM, sc_LM, rfl⟩ := h_LM.form
 have hkle := key.le
 have hfw9 := hg.few t
 have hlv9 := t.lvl hg.mem
 have hnd9 := t.sml.2 _ (t.nd hg.mem).2.2
 refine Fc.intro (rs := [.tmp 2]) cl71 Tryz.func71 rfl Tryz.ntmps71 rfl rfl (fun w0 => ?_)
 refine WC.perm (M' := ((b_r, .cells (List.toArray [.int .i64 fr, .int .i64 x.n.slot, .pointer (some ⟨b_c, 0, none⟩), .pointer (some ⟨b_h, 0, none⟩), .string key.b, vn, .slice sa_LM LM.length sc_LM, .bool false, .bool false, .int .i64 0, .bool false, .string Str.nil.b, .slice none 0 0]) 98 (0, 0)) :: ((b_h, .cells (List.toArray [.pointer (some ⟨b_c, 0, none⟩), .int .i64 th, .pointer vw, .int .i64 most]) 79 (0, 0)) :: ((b_c, .cells (List.toArray [.pointer (some ⟨b_s, 0, none⟩), .pointer (some ⟨b_t, 0, none⟩), vM, .int .i64 wt, .int .i64 ch]) 76 (0, 0)) :: (Ms_LM ++ (Ms_t ++ (Ms_s ++ []))))))) (by simp) ?_
 refine WC.seq ?_
 refine WC.region ?_
 refine W.as ?_
 refine W.nil (thn_n ?_)
 refine WC.join (X := (Unit) × Nat × List Value) (fun u2 => [(0, .pointer (some ⟨b_r, 0, none⟩)), (3, .pointer (some ⟨u2.2.1, 0, none⟩))]) (fun u2 G Ml => Ml = ((u2.2.1, .cells (List.toArray u2.2.2) 43 (0, 0)) :: ((b_r, .cells (List.toArray [.int .i64 fr, .int .i64 x.n.slot, .pointer (some ⟨b_c, 0, none⟩), .pointer (some ⟨b_h, 0, none⟩), .string key.b, vn, .slice sa_LM LM.length sc_LM, .bool false, .bool false, .int .i64 0, .bool false, .string Str.nil.b, .slice none 0 0]) 98 (0, 0)) :: ((b_h, .cells (List.toArray [.pointer (some ⟨b_c, 0, none⟩), .int .i64 th, .pointer vw, .int .i64 most]) 79 (0, 0)) :: ((b_c, .cells (List.toArray [.pointer (some ⟨b_s, 0, none⟩), .pointer (some ⟨b_t, 0, none⟩), vM, .int .i64 wt, .int .i64 ch]) 76 (0, 0)) :: (Ms_LM ++ (Ms_t ++ (Ms_s ++ []))))))) ∧ NodeC G u2.2.2 (x.n)) ?_ ?_
 ·refine WC.drawW _ ((((List.nil_sublist _).cons_cons _).cons_cons _).cons_cons _) mix (by rintro _ _ _ _ ⟨h | h, _⟩ <;> cases h) ?_
  refine WD.take 0 rfl rfl rfl (by kernel_rfl) (by kernel_rfl) (by kernel_rfl) (ok_mv) ?_
  refine WD.take 1 rfl rfl rfl (by kernel_rfl) (by kernel_rfl) (by kernel_rfl) (ok_nilP rfl) ?_
  refine WD.take 2 rfl rfl rfl (by kernel_rfl) (by kernel_rfl) (by kernel_rfl) (ok_fieldB fd98_1 rfl) ?_
  refine WD.take 3 rfl rfl rfl (by kernel_rfl) (by kernel_rfl) (by kernel_rfl) (ok_loadB (i := 0) (vs := [.pointer _]) ty27 rfl rfl rfl rfl (by simp)) ?_
  refine WD.take 5 rfl rfl rfl (by kernel_rfl) (by kernel_rfl) (by kernel_rfl) (ok_mv) ?_
  refine WD.take 6 rfl rfl rfl (by kernel_rfl) (by kernel_rfl) (by kernel_rfl) (ok_nilP rfl) ?_
  refine WD.take 7 rfl rfl rfl (by kernel_rfl) (by kernel_rfl) (by kernel_rfl) (ok_fieldB fd98_0 rfl) ?_
  refine WD.take 8 rfl rfl rfl (by kernel_rfl) (by kernel_rfl) (by kernel_rfl) (ok_fieldB fd95_1 rfl) ?_
  refine WD.take 9 rfl rfl rfl (by kernel_rfl) (by kernel_rfl) (by kernel_rfl) (ok_loadB (i := 0) (vs := [.int .i64 _]) ty3 rfl rfl rfl rfl (by simp)) ?_
  refine WD.any [4, 14] (by kernel_rfl) rfl ⟨⟨_, rfl, rfl, ?_⟩, ⟨_, rfl, rfl, ?_⟩, trivial⟩
  ·refine W.lendQ (fun G1 hl1 hn1 => cstoreg_fc (cellsG_at (in_of (i := 2) hn1 rfl))) cl24 rfl ?_
   refine W.nil ⟨Le.rfl, (((List.nil_sublist _).cons_cons _).cons_cons _).cons_cons _, _, (((List.nil_sublist _).cons_cons _).cons_cons _).cons_cons _, List.Sublist.refl _, ?_⟩
   refine WD.any [10, 14] (by kernel_rfl) rfl ⟨⟨_, rfl, rfl, ?_⟩, ⟨_, rfl, rfl, ?_⟩, trivial⟩
   ·refine W.call (Mp := Ms_s) (pnode_at h_s t hg.mem) rfl (pmC (pmC (pmC (pmA (pmA (List.Perm.refl _)))))) ?_
    intro v55 G52 Ms54 hG52 q53
    refine match q53 with | ⟨⟨_, e_57, ⟨pa_hR56, pc_hR56, ka_hR56, kc_hR56, ma_hR56, mc_hR56, ra_hR56, rc_hR56, e_58, hp_hR56, hk_hR56, hm_hR56, hr_hR56, hok_hR56⟩⟩, eeq53⟩ => ?_
    subst e_57
    subst e_58
    have eeq53 := eeq53.symm
    subst eeq53
    refine W.perm (pmC (pmC (pmC (List.Perm.refl _)))).symm ?_
    refine W.perm (M' := ((b_r, .cells (List.toArray [.int .i64 fr, .int .i64 x.n.slot, .pointer (some ⟨b_c, 0, none⟩), .pointer (some ⟨b_h, 0, none⟩), .string key.b, vn, .slice sa_LM LM.length sc_LM, .bool false, .bool false, .int .i64 0, .bool false, .string Str.nil.b, .slice none 0 0]) 98 (0, 0)) :: ((b_h, .cells (List.toArray [.pointer (some ⟨b_c, 0, none⟩), .int .i64 th, .pointer vw, .int .i64 most]) 79 (0, 0)) :: ((b_c, .cells (List.toArray [.pointer (some ⟨b_s, 0, none⟩), .pointer (some ⟨b_t, 0, none⟩), vM, .int .i64 wt, .int .i64 ch]) 76 (0, 0)) :: (Ms_LM ++ (Ms_t ++ (Ms_s ++ []))))))) (((((List.Perm.append_left _ ((List.Perm.append_left _ ((List.Perm.append_left _ (List.Perm.refl _)).trans (List.Perm.refl _))).trans (pmA (List.Perm.refl _)))).trans (pmA (List.Perm.refl _))).cons _).cons _).cons _) ?_
    refine W.nil ⟨hG52, (((List.nil_sublist _).cons_cons _).cons_cons _).cons_cons _, _, (((List.nil_sublist _).cons_cons _).cons_cons _).cons_cons _, List.Sublist.refl _, ?_⟩
    refine WD.take 11 rfl rfl rfl (by kernel_rfl) (by kernel_rfl) (by kernel_rfl) (ok_mv) ?_
    refine WD.take 12 rfl rfl rfl (by kernel_rfl) (by kernel_rfl) (by kernel_rfl) (ok_extract rfl rfl) ?_
    refine WD.take 13 rfl rfl rfl (by kernel_rfl) (by kernel_rfl) (by kernel_rfl) (ok_extract rfl rfl) ?_
    refine WD.any [14] (by kernel_rfl) rfl ⟨⟨_, rfl, rfl, ?_⟩, trivial⟩
    refine W.alloc zr43 (fun b59 => ?_)
    refine W.nil ⟨Le.rfl, ((((List.nil_sublist _).cons_cons _).cons_cons _).cons_cons _).cons _, _, ((((List.nil_sublist _).cons_cons _).cons_cons _).cons_cons _).cons _, List.Sublist.refl _, ?_⟩
    refine WD.any [15] (by kernel_rfl) rfl ⟨⟨_, rfl, rfl, ?_⟩, trivial⟩
    refine W.store (i := 0) (vs := [.int .i64 _, .int .i64 _, .slice _ _ _, .slice _ _ _, .string _, .bool _, .int .i64 _, .int .i64 _, .slice _ _ _, .slice _ _ _]) (L' := [.int .i64 _, .int .i64 _, .slice _ _ _, .slice _ _ _, .string _, .bool _, .int .i64 _, .int .i64 _, .slice _ _ _, .slice _ _ _]) ty43 rfl rfl rfl rfl rfl rfl rfl rfl ?_
    refine W.nil ⟨Le.rfl, ((((List.nil_sublist _).cons_cons _).cons_cons _).cons_cons _).cons _, _, ((((List.nil_sublist _).cons_cons _).cons_cons _).cons_cons _).cons _, List.Sublist.refl _, ?_⟩
    refine WD.take 16 rfl rfl rfl (by kernel_rfl) (by kernel_rfl) (by kernel_rfl) (ok_as) ?_
    refine WD.done (by kernel_rfl) (thn_n ?_)
    exact ⟨hG52, ((), b59, [.int .i64 x.n.slot, .int .i64 x.n.level, .slice pa_hR56 (x.n.pivots).length pc_hR56, .slice ka_hR56 (x.n.kids).length kc_hR56, .string x.n.high.b, .bool x.n.top, .int .i64 x.n.right, .int .i64 x.n.seen, .slice ma_hR56 (x.n.msgs).length mc_hR56, .slice ra_hR56 (x.n.rows).length rc_hR56]), ⟨eqv, eqv, trivial⟩, ⟨rfl, (by exact ⟨_, _, _, _, _, _, _, _, rfl, hp_hR56, hk_hR56, hm_hR56, hr_hR56, hok_hR56⟩)⟩⟩
   ·refine W.alloc zr43 (fun b60 => ?_)
    refine W.nil ⟨Le.rfl, ((((List.nil_sublist _).cons_cons _).cons_cons _).cons_cons _).cons _, _, ((((List.nil_sublist _).cons_cons _).cons_cons _).cons_cons _).cons _, List.Sublist.refl _, ?_⟩
    refine WD.any [10] (by kernel_rfl) rfl ⟨⟨_, rfl, rfl, ?_⟩, trivial⟩
    refine W.call (Mp := Ms_s) (pnode_at h_s t hg.mem) rfl (pmC (pmC (pmC (pmC (pmA (pmA (List.Perm.refl _))))))) ?_
    intro v64 G61 Ms63 hG61 q62
    refine match q62 with | ⟨⟨_, e_66, ⟨pa_hR65, pc_hR65, ka_hR65, kc_hR65, ma_hR65, mc_hR65, ra_hR65, rc_hR65, e_67, hp_hR65, hk_hR65, hm_hR65, hr_hR65, hok_hR65⟩⟩, eeq62⟩ => ?_
    subst e_66
    subst e_67
    have eeq62 := eeq62.symm
    subst eeq62
    refine W.perm (pmC (pmC (pmC (pmC (List.Perm.refl _))))).symm ?_
    refine W.perm (M' := ((b60, .cells (List.toArray [.int .i64 0, .int .i64 0, .slice none 0 0, .slice none 0 0, .string ⟨#[]⟩, .bool false, .int .i64 0, .int .i64 0, .slice none 0 0, .slice none 0 0]) 43 (0, 0)) :: ((b_r, .cells (List.toArray [.int .i64 fr, .int .i64 x.n.slot, .pointer (some ⟨b_c, 0, none⟩), .pointer (some ⟨b_h, 0, none⟩), .string key.b, vn, .slice sa_LM LM.length sc_LM, .bool false, .bool false, .int .i64 0, .bool false, .string Str.nil.b, .slice none 0 0]) 98 (0, 0)) :: ((b_h, .cells (List.toArray [.pointer (some ⟨b_c, 0, none⟩), .int .i64 th, .pointer vw, .int .i64 most]) 79 (0, 0)) :: ((b_c, .cells (List.toArray [.pointer (some ⟨b_s, 0, none⟩), .pointer (some ⟨b_t, 0, none⟩), vM, .int .i64 wt, .int .i64 ch]) 76 (0, 0)) :: (Ms_LM ++ (Ms_t ++ (Ms_s ++ [])))))))) ((((((List.Perm.append_left _ ((List.Perm.append_left _ ((List.Perm.append_left _ (List.Perm.refl _)).trans (List.Perm.refl _))).trans (pmA (List.Perm.refl _)))).trans (pmA (List.Perm.refl _))).cons _).cons _).cons _).cons _) ?_
    refine W.nil ⟨hG61, ((((List.nil_sublist _).cons_cons _).cons_cons _).cons_cons _).cons _, _, ((((List.nil_sublist _).cons_cons _).cons_cons _).cons_cons _).cons _, List.Sublist.refl _, ?_⟩
    refine WD.take 11 rfl rfl rfl (by kernel_rfl) (by kernel_rfl) (by kernel_rfl) (ok_mv) ?_
    refine WD.take 12 rfl rfl rfl (by kernel_rfl) (by kernel_rfl) (by kernel_rfl) (ok_extract rfl rfl) ?_
    refine WD.take 13 rfl rfl rfl (by kernel_rfl) (by kernel_rfl) (by kernel_rfl) (ok_extract rfl rfl) ?_
    refine WD.any [15] (by kernel_rfl) rfl ⟨⟨_, rfl, rfl, ?_⟩, trivial⟩
    refine W.store (i := 0) (vs := [.int .i64 _, .int .i64 _, .slice _ _ _, .slice _ _ _, .string _, .bool _, .int .i64 _, .int .i64 _, .slice _ _ _, .slice _ _ _]) (L' := [.int .i64 _, .int .i64 _, .slice _ _ _, .slice _ _ _, .string _, .bool _, .int .i64 _, .int .i64 _, .slice _ _ _, .slice _ _ _]) ty43 rfl rfl rfl rfl rfl rfl rfl rfl ?_
    refine W.nil ⟨Le.rfl, ((((List.nil_sublist _).cons_cons _).cons_cons _).cons_cons _).cons _, _, ((((List.nil_sublist _).cons_cons _).cons_cons _).cons_cons _).cons _, List.Sublist.refl _, ?_⟩
    refine WD.take 16 rfl rfl rfl (by kernel_rfl) (by kernel_rfl) (by kernel_rfl) (ok_as) ?_
    refine WD.done (by kernel_rfl) (thn_n ?_)
    exact ⟨hG61, ((), b60, [.int .i64 x.n.slot, .int .i64 x.n.level, .slice pa_hR65 (x.n.pivots).length pc_hR65, .slice ka_hR65 (x.n.kids).length kc_hR65, .string x.n.high.b, .bool x.n.top, .int .i64 x.n.right, .int .i64 x.n.seen, .slice ma_hR65 (x.n.msgs).length mc_hR65, .slice ra_hR65 (x.n.rows).length rc_hR65]), ⟨eqv, eqv, trivial⟩, ⟨rfl, (by exact ⟨_, _, _, _, _, _, _, _, rfl, hp_hR65, hk_hR65, hm_hR65, hr_hR65, hok_hR65⟩)⟩⟩
  ·refine W.alloc zr43 (fun b68 => ?_)
   refine W.nil ⟨Le.rfl, ((((List.nil_sublist _).cons_cons _).cons_cons _).cons_cons _).cons _, _, ((((List.nil_sublist _).cons_cons _).cons_cons _).cons_cons _).cons _, List.Sublist.refl _, ?_⟩
   refine WD.any [4] (by kernel_rfl) rfl ⟨⟨_, rfl, rfl, ?_⟩, trivial⟩
   refine W.lendQ (fun G1 hl1 hn1 => cstoreg_fc (cellsG_at (in_of (i := 3) hn1 rfl))) cl24 rfl ?_
   refine W.nil ⟨Le.rfl, ((((List.nil_sublist _).cons_cons _).cons_cons _).cons_cons _).cons _, _, ((((List.nil_sublist _).cons_cons _).cons_cons _).cons_cons _).cons _, List.Sublist.refl _, ?_⟩
   refine WD.any [10] (by kernel_rfl) rfl ⟨⟨_, rfl, rfl, ?_⟩, trivial⟩
   refine W.call (Mp := Ms_s) (pnode_at h_s t hg.mem) rfl (pmC (pmC (pmC (pmC (pmA (pmA (List.Perm.refl _))))))) ?_
   intro v72 G69 Ms71 hG69 q70
   refine match q70 with | ⟨⟨_, e_74, ⟨pa_hR73, pc_hR73, ka_hR73, kc_hR73, ma_hR73, mc_hR73, ra_hR73, rc_hR73, e_75, hp_hR73, hk_hR73, hm_hR73, hr_hR73, hok_hR73⟩⟩, eeq70⟩ => ?_
   subst e_74
   subst e_75
   have eeq70 := eeq70.symm
   subst eeq70
   refine W.perm (pmC (pmC (pmC (pmC (List.Perm.refl _))))).symm ?_
   refine W.perm (M' := ((b68, .cells (List.toArray [.int .i64 0, .int .i64 0, .slice none 0 0, .slice none 0 0, .string ⟨#[]⟩, .bool false, .int .i64 0, .int .i64 0, .slice none 0 0, .slice none 0 0]) 43 (0, 0)) :: ((b_r, .cells (List.toArray [.int .i64 fr, .int .i64 x.n.slot, .pointer (some ⟨b_c, 0, none⟩), .pointer (some ⟨b_h, 0, none⟩), .string key.b, vn, .slice sa_LM LM.length sc_LM, .bool false, .bool false, .int .i64 0, .bool false, .string Str.nil.b, .slice none 0 0]) 98 (0, 0)) :: ((b_h, .cells (List.toArray [.pointer (some ⟨b_c, 0, none⟩), .int .i64 th, .pointer vw, .int .i64 most]) 79 (0, 0)) :: ((b_c, .cells (List.toArray [.pointer (some ⟨b_s, 0, none⟩), .pointer (some ⟨b_t, 0, none⟩), vM, .int .i64 wt, .int .i64 ch]) 76 (0, 0)) :: (Ms_LM ++ (Ms_t ++ (Ms_s ++ [])))))))) ((((((List.Perm.append_left _ ((List.Perm.append_left _ ((List.Perm.append_left _ (List.Perm.refl _)).trans (List.Perm.refl _))).trans (pmA (List.Perm.refl _)))).trans (pmA (List.Perm.refl _))).cons _).cons _).cons _).cons _) ?_
   refine W.nil ⟨hG69, ((((List.nil_sublist _).cons_cons _).cons_cons _).cons_cons _).cons _, _, ((((List.nil_sublist _).cons_cons _).cons_cons _).cons_cons _).cons _, List.Sublist.refl _, ?_⟩
   refine WD.take 11 rfl rfl rfl (by kernel_rfl) (by kernel_rfl) (by kernel_rfl) (ok_mv) ?_
   refine WD.take 12 rfl rfl rfl (by kernel_rfl) (by kernel_rfl) (by kernel_rfl) (ok_extract rfl rfl) ?_
   refine WD.take 13 rfl rfl rfl (by kernel_rfl) (by kernel_rfl) (by kernel_rfl) (ok_extract rfl rfl) ?_
   refine WD.any [15] (by kernel_rfl) rfl ⟨⟨_, rfl, rfl, ?_⟩, trivial⟩
   refine W.store (i := 0) (vs := [.int .i64 _, .int .i64 _, .slice _ _ _, .slice _ _ _, .string _, .bool _, .int .i64 _, .int .i64 _, .slice _ _ _, .slice _ _ _]) (L' := [.int .i64 _, .int .i64 _, .slice _ _ _, .slice _ _ _, .string _, .bool _, .int .i64 _, .int .i64 _, .slice _ _ _, .slice _ _ _]) ty43 rfl rfl rfl rfl rfl rfl rfl rfl ?_
   refine W.nil ⟨Le.rfl, ((((List.nil_sublist _).cons_cons _).cons_cons _).cons_cons _).cons _, _, ((((List.nil_sublist _).cons_cons _).cons_cons _).cons_cons _).cons _, List.Sublist.refl _, ?_⟩
   refine WD.take 16 rfl rfl rfl (by kernel_rfl) (by kernel_rfl) (by kernel_rfl) (ok_as) ?_
   refine WD.done (by kernel_rfl) (thn_n ?_)
   exact ⟨hG69, ((), b68, [.int .i64 x.n.slot, .int .i64 x.n.level, .slice pa_hR73 (x.n.pivots).length pc_hR73, .slice ka_hR73 (x.n.kids).length kc_hR73, .string x.n.high.b, .bool x.n.top, .int .i64 x.n.right, .int .i64 x.n.seen, .slice ma_hR73 (x.n.msgs).length mc_hR73, .slice ra_hR73 (x.n.rows).length rc_hR73]), ⟨eqv, eqv, trivial⟩, ⟨rfl, (by exact ⟨_, _, _, _, _, _, _, _, rfl, hp_hR73, hk_hR73, hm_hR73, hr_hR73, hok_hR73⟩)⟩⟩
 ·rintro ⟨u2, B_3, C_3⟩ gG76 G76 _ hG76 ⟨rfl, ho_3⟩
  try dsimp only at ho_3
  refine match ho_3 with | ⟨pa_nb77, pc_nb77, ka_nb77, kc_nb77, ma_nb77, mc_nb77, ra_nb77, rc_nb77, e_78, hp_nb77, hk_nb77, hm_nb77, hr_nb77, hok_nb77⟩ => ?_
  subst e_78
  refine WC.fr (f := setL gG76 [(0, .pointer (some ⟨b_r, 0, none⟩)), (3, .pointer (some ⟨B_3, 0, none⟩))]) rfl ?_
  refine WC.seq ?_
  refine WC.region ?_
  refine W.mv ?_
  refine W.mv ?_
  refine W.mv ?_
  refine W.ok (ok_nilP rfl) ?_
  refine W.ok (ok_fieldB fd98_0 rfl) ?_
  refine W.ok (ok_fieldB fd95_1 rfl) ?_
  refine W.ok (ok_loadB (i := 1) (vs := [.int .i64 _]) ty3 rfl rfl rfl rfl (by simp)) ?_
  refine W.ok (ok_nilP rfl) ?_
  refine W.ok (ok_fieldB fd98_0 rfl) ?_
  refine W.ok (ok_fieldB fd95_0 rfl) ?_
  refine W.store (i := 1) (vs := [.int .i64 _]) (L' := [.int .i64 _, _, _, _, _, _, _, _, _, _, _, _, _]) ty3 rfl rfl rfl rfl rfl rfl rfl rfl ?_
  refine W.ok (ok_nilP rfl) ?_
  refine W.ok (ok_fieldB fd98_4 rfl) ?_
  refine W.store (i := 1) (vs := [.func _ _ _]) (L' := [_, _, _, _, _, .func _ _ _, _, _, _, _, _, _, _]) ty96 rfl rfl rfl rfl rfl rfl rfl rfl ?_
  refine W.nil (thn_n ?_)
  refine WC.seq ?_
  refine WC.block ?_
  refine WC.seq ?_
  refine WC.draw mix (by kernel_rfl) ?_
  refine W.ok (ok_loadB (i := 0) (vs := [.int .i64 _, .int .i64 _, .slice _ _ _, .slice _ _ _, .string _, .bool _, .int .i64 _, .int .i64 _, .slice _ _ _, .slice _ _ _]) ty43 rfl rfl rfl rfl (by simp)) ?_
  refine W.mv ?_
  refine W.ok (ok_nilP rfl) ?_
  refine W.ok (ok_fieldB fd98_3 rfl) ?_
  refine W.ok (ok_loadB (i := 1) (vs := [.string _]) ty9 rfl rfl rfl rfl (by simp)) ?_
  refine W.qcall ((nodehas_fc ⟨_, _, _, _, _, _, _, _, rfl, hp_nb77, hk_nb77, hm_nb77, hr_nb77, hok_nb77⟩ key).mono (fun v _ _ _ hv => hv.trans (congrArg Value.bool (nsp_has t hg.mem hg.has)))) rfl ?_
  refine W.ok (ok_not rfl) ?_
  refine W.as ?_
  refine W.nil (thn_n ?_)
  refine WC.cond_f rfl rfl ?_
  refine WC.seq ?_
  refine WC.region ?_
  refine W.ok (ok_fieldB fd43_1 rfl) ?_
  refine W.ok (ok_loadB (i := 0) (vs := [.int .i64 _]) ty3 rfl rfl rfl rfl (by simp)) ?_
  refine W.ok (ok_gtr rfl rfl) ?_
  refine W.as ?_
  refine W.nil (thn_n ?_)
  refine WC.cond (b := _) rfl (fun h48 => ?_) (fun h48 => ?_)
  ·have p48 := of_decide_eq_true h48
   try dsimp only at p48
   exfalso; omega
  ·have p48 := of_decide_eq_false h48
   try dsimp only at p48
   refine WC.skip (blk_n (thn_n ?_))
   refine WC.join (X := Unit) (fun u11 => [(0, .pointer (some ⟨b_r, 0, none⟩))]) (fun u11 _ Ml => Ml = ((B_3, .cells (List.toArray [.int .i64 (x.n).slot, .int .i64 (x.n).level, .slice pa_nb77 ((x.n).pivots).length pc_nb77, .slice ka_nb77 ((x.n).kids).length kc_nb77, .string (x.n).high.b, .bool (x.n).top, .int .i64 (x.n).right, .int .i64 (x.n).seen, .slice ma_nb77 ((x.n).msgs).length mc_nb77, .slice ra_nb77 ((x.n).rows).length rc_nb77]) 43 (0, 0)) :: ((b_r, .cells (List.toArray [.int .i64 x.n.slot, .int .i64 x.n.slot, .pointer (some ⟨b_c, 0, none⟩), .pointer (some ⟨b_h, 0, none⟩), .string key.b, .func (.func 44) #[] #[], .slice sa_LM LM.length sc_LM, .bool false, .bool false, .int .i64 0, .bool (getN (mapN l) key).isSome, .string ((getN (mapN l) key).getD Str.nil).b, .slice none 0 0]) 98 (0, 0)) :: ((b_h, .cells (List.toArray [.pointer (some ⟨b_c, 0, none⟩), .int .i64 th, .pointer vw, .int .i64 most]) 79 (0, 0)) :: ((b_c, .cells (List.toArray [.pointer (some ⟨b_s, 0, none⟩), .pointer (some ⟨b_t, 0, none⟩), vM, .int .i64 wt, .int .i64 ch]) 76 (0, 0)) :: (Ms_t ++ (Ms_s ++ []))))))) ?_ ?_
   ·refine WC.drawW _ (((((List.nil_sublist _).cons_cons _).cons_cons _).cons _).cons_cons _) mix (by rintro _ _ _ _ ⟨h | h, _⟩ <;> cases h) ?_
    refine WD.take 0 rfl rfl rfl (by kernel_rfl) (by kernel_rfl) (by kernel_rfl) (ok_mv) ?_
    refine WD.take 1 rfl rfl rfl (by kernel_rfl) (by kernel_rfl) (by kernel_rfl) (ok_mv) ?_
    refine WD.take 2 rfl rfl rfl (by kernel_rfl) (by kernel_rfl) (by kernel_rfl) (ok_fieldB fd43_9 rfl) ?_
    refine WD.take 3 rfl rfl rfl (by kernel_rfl) (by kernel_rfl) (by kernel_rfl) (ok_loadB (i := 0) (vs := [.slice _ _ _]) ty41 rfl rfl rfl rfl (by simp)) ?_
    refine WD.take 4 rfl rfl rfl (by kernel_rfl) (by kernel_rfl) (by kernel_rfl) (ok_mv) ?_
    refine WD.take 5 rfl rfl rfl (by kernel_rfl) (by kernel_rfl) (by kernel_rfl) (ok_nilP rfl) ?_
    refine WD.take 6 rfl rfl rfl (by kernel_rfl) (by kernel_rfl) (by kernel_rfl) (ok_fieldB fd98_3 rfl) ?_
    refine WD.take 8 rfl rfl rfl (by kernel_rfl) (by kernel_rfl) (by kernel_rfl) (ok_mv) ?_
    refine WD.take 9 rfl rfl rfl (by kernel_rfl) (by kernel_rfl) (by kernel_rfl) (ok_nilP rfl) ?_
    refine WD.take 10 rfl rfl rfl (by kernel_rfl) (by kernel_rfl) (by kernel_rfl) (ok_fieldB fd98_3 rfl) ?_
    refine WD.take 13 rfl rfl rfl (by kernel_rfl) (by kernel_rfl) (by kernel_rfl) (ok_mv) ?_
    refine WD.take 14 rfl rfl rfl (by kernel_rfl) (by kernel_rfl) (by kernel_rfl) (ok_nilP rfl) ?_
    refine WD.take 15 rfl rfl rfl (by kernel_rfl) (by kernel_rfl) (by kernel_rfl) (ok_fieldB fd98_5 rfl) ?_
    refine WD.any [7, 11, 16] (by kernel_rfl) rfl ⟨⟨_, rfl, rfl, ?_⟩, ⟨_, rfl, rfl, ?_⟩, ⟨_, rfl, rfl, ?_⟩, trivial⟩
    ·refine W.ok (ok_loadB (i := 1) (vs := [.string _]) ty9 rfl rfl rfl rfl (by simp)) ?_
     refine W.nil ⟨Le.rfl, ((((List.nil_sublist _).cons_cons _).cons_cons _).cons _).cons_cons _, _, ((((List.nil_sublist _).cons_cons _).cons_cons _).cons _).cons_cons _, List.Sublist.refl _, ?_⟩
     refine WD.any [11, 16] (by kernel_rfl) rfl ⟨⟨_, rfl, rfl, ?_⟩, ⟨_, rfl, rfl, ?_⟩, trivial⟩
     ·refine W.ok (ok_loadB (i := 1) (vs := [.string _]) ty9 rfl rfl rfl rfl (by simp)) ?_
      refine W.nil ⟨Le.rfl, ((((List.nil_sublist _).cons_cons _).cons_cons _).cons _).cons_cons _, _, ((((List.nil_sublist _).cons_cons _).cons_cons _).cons _).cons_cons _, List.Sublist.refl _, ?_⟩
      refine WD.any [12, 16] (by kernel_rfl) rfl ⟨⟨_, rfl, rfl, ?_⟩, ⟨_, rfl, rfl, ?_⟩, trivial⟩
      ·refine W.qcall (point_fc _ (by first | assumption | omega | (dsimp only; omega))) rfl ?_
       refine W.nil ⟨Le.rfl, ((((List.nil_sublist _).cons_cons _).cons_cons _).cons _).cons_cons _, _, ((((List.nil_sublist _).cons_cons _).cons_cons _).cons _).cons_cons _, List.Sublist.refl _, ?_⟩
       refine WD.any [16] (by kernel_rfl) rfl ⟨⟨_, rfl, rfl, ?_⟩, trivial⟩
       refine W.ok (ok_loadB (i := 1) (vs := [.slice _ _ _]) ty92 rfl rfl rfl rfl (by simp)) ?_
       refine W.nil ⟨Le.rfl, ((((List.nil_sublist _).cons_cons _).cons_cons _).cons _).cons_cons _, _, ((((List.nil_sublist _).cons_cons _).cons_cons _).cons _).cons_cons _, List.Sublist.refl _, ?_⟩
       refine WD.any [17] (by kernel_rfl) rfl ⟨⟨_, rfl, rfl, ?_⟩, trivial⟩
       refine W.giveO (h_LM.mono hG76) (pmC (pmC (pmC (pmC (List.Perm.refl _))))) (fun G79 hG79 hv79 => ?_)
       refine W.call (Mp := []) (mpath_fc _ _ _ hv79 (by omega) (by omega) hg.key) rfl (List.Perm.refl _) ?_
       intro _ G80 _ hG80 q82
       refine match q82 with | ⟨e_83, _, e_84, hv81⟩ => ?_
       subst e_83
       subst e_84
       have q86 := hv81.form
       refine match q86 with | ⟨sa_hv81, sc_hv81, e_85⟩ => ?_
       subst e_85
       refine W.nil ⟨(hG79.trans hG80), ((((List.nil_sublist _).cons_cons _).cons_cons _).cons _).cons_cons _, _, ((((List.nil_sublist _).cons_cons _).cons_cons _).cons _).cons_cons _, List.Sublist.refl _, ?_⟩
       refine WD.any [18] (by kernel_rfl) rfl ⟨⟨_, rfl, rfl, ?_⟩, trivial⟩
       refine W.qcall ((lookof_fc (hr_nb77.mono (hG79.trans hG80)) key hv81 (t.rows hg.mem) (fun m hm => ⟨by have h9 := (hg.fit t hk300 m hm).1; omega, (hg.fit t hk300 m hm).2.2⟩)).mono (fun v _ _ _ hv => hv.trans (congrArg (fun o : Option Str => Value.tuple #[.string (o.getD Str.nil).b, .bool o.isSome]) (hg.get t (by omega) h0)))) rfl ?_
       refine W.nil ⟨Le.rfl, ((((List.nil_sublist _).cons_cons _).cons_cons _).cons _).cons_cons _, _, ((((List.nil_sublist _).cons_cons _).cons_cons _).cons _).cons_cons _, List.Sublist.refl _, ?_⟩
       refine WD.take 19 rfl rfl rfl (by kernel_rfl) (by kernel_rfl) (by kernel_rfl) (ok_mv) ?_
       refine WD.take 20 rfl rfl rfl (by kernel_rfl) (by kernel_rfl) (by kernel_rfl) (ok_extract rfl rfl) ?_
       refine WD.take 21 rfl rfl rfl (by kernel_rfl) (by kernel_rfl) (by kernel_rfl) (ok_extract rfl rfl) ?_
       refine WD.take 22 rfl rfl rfl (by kernel_rfl) (by kernel_rfl) (by kernel_rfl) (ok_nilP rfl) ?_
       refine WD.take 23 rfl rfl rfl (by kernel_rfl) (by kernel_rfl) (by kernel_rfl) (ok_fieldB fd98_8 rfl) ?_
       refine WD.take 24 rfl rfl rfl (by kernel_rfl) (by kernel_rfl) (by kernel_rfl) (ok_fieldB fd56_2 rfl) ?_
       refine WD.any [25] (by kernel_rfl) rfl ⟨⟨_, rfl, rfl, ?_⟩, trivial⟩
       refine W.store (i := 1) (vs := [.string _]) (L' := [_, _, _, _, _, _, _, _, _, _, _, .string _, _]) ty9 rfl rfl rfl rfl rfl rfl rfl rfl ?_
       refine W.nil ⟨Le.rfl, ((((List.nil_sublist _).cons_cons _).cons_cons _).cons _).cons_cons _, _, ((((List.nil_sublist _).cons_cons _).cons_cons _).cons _).cons_cons _, List.Sublist.refl _, ?_⟩
       refine WD.take 26 rfl rfl rfl (by kernel_rfl) (by kernel_rfl) (by kernel_rfl) (ok_nilP rfl) ?_
       refine WD.take 27 rfl rfl rfl (by kernel_rfl) (by kernel_rfl) (by kernel_rfl) (ok_fieldB fd98_8 rfl) ?_
       refine WD.take 28 rfl rfl rfl (by kernel_rfl) (by kernel_rfl) (by kernel_rfl) (ok_fieldB fd56_1 rfl) ?_
       refine WD.any [29] (by kernel_rfl) rfl ⟨⟨_, rfl, rfl, ?_⟩, trivial⟩
       refine W.store (i := 1) (vs := [.bool _]) (L' := [_, _, _, _, _, _, _, _, _, _, .bool _, _, _]) ty4 rfl rfl rfl rfl rfl rfl rfl rfl ?_
       refine W.nil ⟨Le.rfl, ((((List.nil_sublist _).cons_cons _).cons_cons _).cons _).cons_cons _, _, ((((List.nil_sublist _).cons_cons _).cons_cons _).cons _).cons_cons _, List.Sublist.refl _, ?_⟩
       refine WD.done (by kernel_rfl) (thn_n ?_)
       exact ⟨(hG79.trans hG80), (), ⟨eqv, trivial⟩, rfl⟩
      ·refine W.ok (ok_loadB (i := 1) (vs := [.slice _ _ _]) ty92 rfl rfl rfl rfl (by simp)) ?_
       refine W.nil ⟨Le.rfl, ((((List.nil_sublist _).cons_cons _).cons_cons _).cons _).cons_cons _, _, ((((List.nil_sublist _).cons_cons _).cons_cons _).cons _).cons_cons _, List.Sublist.refl _, ?_⟩
       refine WD.any [12] (by kernel_rfl) rfl ⟨⟨_, rfl, rfl, ?_⟩, trivial⟩
       refine W.qcall (point_fc _ (by first | assumption | omega | (dsimp only; omega))) rfl ?_
       refine W.nil ⟨Le.rfl, ((((List.nil_sublist _).cons_cons _).cons_cons _).cons _).cons_cons _, _, ((((List.nil_sublist _).cons_cons _).cons_cons _).cons _).cons_cons _, List.Sublist.refl _, ?_⟩
       refine WD.any [17] (by kernel_rfl) rfl ⟨⟨_, rfl, rfl, ?_⟩, trivial⟩
       refine W.giveO (h_LM.mono hG76) (pmC (pmC (pmC (pmC (List.Perm.refl _))))) (fun G87 hG87 hv87 => ?_)
       refine W.call (Mp := []) (mpath_fc _ _ _ hv87 (by omega) (by omega) hg.key) rfl (List.Perm.refl _) ?_
       intro _ G88 _ hG88 q90
       refine match q90 with | ⟨e_91, _, e_92, hv89⟩ => ?_
       subst e_91
       subst e_92
       have q94 := hv89.form
       refine match q94 with | ⟨sa_hv89, sc_hv89, e_93⟩ => ?_
       subst e_93
       refine W.nil ⟨(hG87.trans hG88), ((((List.nil_sublist _).cons_cons _).cons_cons _).cons _).cons_cons _, _, ((((List.nil_sublist _).cons_cons _).cons_cons _).cons _).cons_cons _, List.Sublist.refl _, ?_⟩
       refine WD.any [18] (by kernel_rfl) rfl ⟨⟨_, rfl, rfl, ?_⟩, trivial⟩
       refine W.qcall ((lookof_fc (hr_nb77.mono (hG87.trans hG88)) key hv89 (t.rows hg.mem) (fun m hm => ⟨by have h9 := (hg.fit t hk300 m hm).1; omega, (hg.fit t hk300 m hm).2.2⟩)).mono (fun v _ _ _ hv => hv.trans (congrArg (fun o : Option Str => Value.tuple #[.string (o.getD Str.nil).b, .bool o.isSome]) (hg.get t (by omega) h0)))) rfl ?_
       refine W.nil ⟨Le.rfl, ((((List.nil_sublist _).cons_cons _).cons_cons _).cons _).cons_cons _, _, ((((List.nil_sublist _).cons_cons _).cons_cons _).cons _).cons_cons _, List.Sublist.refl _, ?_⟩
       refine WD.take 19 rfl rfl rfl (by kernel_rfl) (by kernel_rfl) (by kernel_rfl) (ok_mv) ?_
       refine WD.take 20 rfl rfl rfl (by kernel_rfl) (by kernel_rfl) (by kernel_rfl) (ok_extract rfl rfl) ?_
       refine WD.take 21 rfl rfl rfl (by kernel_rfl) (by kernel_rfl) (by kernel_rfl) (ok_extract rfl rfl) ?_
       refine WD.take 22 rfl rfl rfl (by kernel_rfl) (by kernel_rfl) (by kernel_rfl) (ok_nilP rfl) ?_
       refine WD.take 23 rfl rfl rfl (by kernel_rfl) (by kernel_rfl) (by kernel_rfl) (ok_fieldB fd98_8 rfl) ?_
       refine WD.take 24 rfl rfl rfl (by kernel_rfl) (by kernel_rfl) (by kernel_rfl) (ok_fieldB fd56_2 rfl) ?_
       refine WD.any [25] (by kernel_rfl) rfl ⟨⟨_, rfl, rfl, ?_⟩, trivial⟩
       refine W.store (i := 1) (vs := [.string _]) (L' := [_, _, _, _, _, _, _, _, _, _, _, .string _, _]) ty9 rfl rfl rfl rfl rfl rfl rfl rfl ?_
       refine W.nil ⟨Le.rfl, ((((List.nil_sublist _).cons_cons _).cons_cons _).cons _).cons_cons _, _, ((((List.nil_sublist _).cons_cons _).cons_cons _).cons _).cons_cons _, List.Sublist.refl _, ?_⟩
       refine WD.take 26 rfl rfl rfl (by kernel_rfl) (by kernel_rfl) (by kernel_rfl) (ok_nilP rfl) ?_
       refine WD.take 27 rfl rfl rfl (by kernel_rfl) (by kernel_rfl) (by kernel_rfl) (ok_fieldB fd98_8 rfl) ?_
       refine WD.take 28 rfl rfl rfl (by kernel_rfl) (by kernel_rfl) (by kernel_rfl) (ok_fieldB fd56_1 rfl) ?_
       refine WD.any [29] (by kernel_rfl) rfl ⟨⟨_, rfl, rfl, ?_⟩, trivial⟩
       refine W.store (i := 1) (vs := [.bool _]) (L' := [_, _, _, _, _, _, _, _, _, _, .bool _, _, _]) ty4 rfl rfl rfl rfl rfl rfl rfl rfl ?_
       refine W.nil ⟨Le.rfl, ((((List.nil_sublist _).cons_cons _).cons_cons _).cons _).cons_cons _, _, ((((List.nil_sublist _).cons_cons _).cons_cons _).cons _).cons_cons _, List.Sublist.refl _, ?_⟩
       refine WD.done (by kernel_rfl) (thn_n ?_)
       exact ⟨(hG87.trans hG88), (), ⟨eqv, trivial⟩, rfl⟩
     ·refine W.ok (ok_loadB (i := 1) (vs := [.slice _ _ _]) ty92 rfl rfl rfl rfl (by simp)) ?_
      refine W.nil ⟨Le.rfl, ((((List.nil_sublist _).cons_cons _).cons_cons _).cons _).cons_cons _, _, ((((List.nil_sublist _).cons_cons _).cons_cons _).cons _).cons_cons _, List.Sublist.refl _, ?_⟩
      refine WD.any [11] (by kernel_rfl) rfl ⟨⟨_, rfl, rfl, ?_⟩, trivial⟩
      refine W.ok (ok_loadB (i := 1) (vs := [.string _]) ty9 rfl rfl rfl rfl (by simp)) ?_
      refine W.nil ⟨Le.rfl, ((((List.nil_sublist _).cons_cons _).cons_cons _).cons _).cons_cons _, _, ((((List.nil_sublist _).cons_cons _).cons_cons _).cons _).cons_cons _, List.Sublist.refl _, ?_⟩
      refine WD.any [12] (by kernel_rfl) rfl ⟨⟨_, rfl, rfl, ?_⟩, trivial⟩
      refine W.qcall (point_fc _ (by first | assumption | omega | (dsimp only; omega))) rfl ?_
      refine W.nil ⟨Le.rfl, ((((List.nil_sublist _).cons_cons _).cons_cons _).cons _).cons_cons _, _, ((((List.nil_sublist _).cons_cons _).cons_cons _).cons _).cons_cons _, List.Sublist.refl _, ?_⟩
      refine WD.any [17] (by kernel_rfl) rfl ⟨⟨_, rfl, rfl, ?_⟩, trivial⟩
      refine W.giveO (h_LM.mono hG76) (pmC (pmC (pmC (pmC (List.Perm.refl _))))) (fun G95 hG95 hv95 => ?_)
      refine W.call (Mp := []) (mpath_fc _ _ _ hv95 (by omega) (by omega) hg.key) rfl (List.Perm.refl _) ?_
      intro _ G96 _ hG96 q98
      refine match q98 with | ⟨e_99, _, e_100, hv97⟩ => ?_
      subst e_99
      subst e_100
      have q102 := hv97.form
      refine match q102 with | ⟨sa_hv97, sc_hv97, e_101⟩ => ?_
      subst e_101
      refine W.nil ⟨(hG95.trans hG96), ((((List.nil_sublist _).cons_cons _).cons_cons _).cons _).cons_cons _, _, ((((List.nil_sublist _).cons_cons _).cons_cons _).cons _).cons_cons _, List.Sublist.refl _, ?_⟩
      refine WD.any [18] (by kernel_rfl) rfl ⟨⟨_, rfl, rfl, ?_⟩, trivial⟩
      refine W.qcall ((lookof_fc (hr_nb77.mono (hG95.trans hG96)) key hv97 (t.rows hg.mem) (fun m hm => ⟨by have h9 := (hg.fit t hk300 m hm).1; omega, (hg.fit t hk300 m hm).2.2⟩)).mono (fun v _ _ _ hv => hv.trans (congrArg (fun o : Option Str => Value.tuple #[.string (o.getD Str.nil).b, .bool o.isSome]) (hg.get t (by omega) h0)))) rfl ?_
      refine W.nil ⟨Le.rfl, ((((List.nil_sublist _).cons_cons _).cons_cons _).cons _).cons_cons _, _, ((((List.nil_sublist _).cons_cons _).cons_cons _).cons _).cons_cons _, List.Sublist.refl _, ?_⟩
      refine WD.take 19 rfl rfl rfl (by kernel_rfl) (by kernel_rfl) (by kernel_rfl) (ok_mv) ?_
      refine WD.take 20 rfl rfl rfl (by kernel_rfl) (by kernel_rfl) (by kernel_rfl) (ok_extract rfl rfl) ?_
      refine WD.take 21 rfl rfl rfl (by kernel_rfl) (by kernel_rfl) (by kernel_rfl) (ok_extract rfl rfl) ?_
      refine WD.take 22 rfl rfl rfl (by kernel_rfl) (by kernel_rfl) (by kernel_rfl) (ok_nilP rfl) ?_
      refine WD.take 23 rfl rfl rfl (by kernel_rfl) (by kernel_rfl) (by kernel_rfl) (ok_fieldB fd98_8 rfl) ?_
      refine WD.take 24 rfl rfl rfl (by kernel_rfl) (by kernel_rfl) (by kernel_rfl) (ok_fieldB fd56_2 rfl) ?_
      refine WD.any [25] (by kernel_rfl) rfl ⟨⟨_, rfl, rfl, ?_⟩, trivial⟩
      refine W.store (i := 1) (vs := [.string _]) (L' := [_, _, _, _, _, _, _, _, _, _, _, .string _, _]) ty9 rfl rfl rfl rfl rfl rfl rfl rfl ?_
      refine W.nil ⟨Le.rfl, ((((List.nil_sublist _).cons_cons _).cons_cons _).cons _).cons_cons _, _, ((((List.nil_sublist _).cons_cons _).cons_cons _).cons _).cons_cons _, List.Sublist.refl _, ?_⟩
      refine WD.take 26 rfl rfl rfl (by kernel_rfl) (by kernel_rfl) (by kernel_rfl) (ok_nilP rfl) ?_
      refine WD.take 27 rfl rfl rfl (by kernel_rfl) (by kernel_rfl) (by kernel_rfl) (ok_fieldB fd98_8 rfl) ?_
      refine WD.take 28 rfl rfl rfl (by kernel_rfl) (by kernel_rfl) (by kernel_rfl) (ok_fieldB fd56_1 rfl) ?_
      refine WD.any [29] (by kernel_rfl) rfl ⟨⟨_, rfl, rfl, ?_⟩, trivial⟩
      refine W.store (i := 1) (vs := [.bool _]) (L' := [_, _, _, _, _, _, _, _, _, _, .bool _, _, _]) ty4 rfl rfl rfl rfl rfl rfl rfl rfl ?_
      refine W.nil ⟨Le.rfl, ((((List.nil_sublist _).cons_cons _).cons_cons _).cons _).cons_cons _, _, ((((List.nil_sublist _).cons_cons _).cons_cons _).cons _).cons_cons _, List.Sublist.refl _, ?_⟩
      refine WD.done (by kernel_rfl) (thn_n ?_)
      exact ⟨(hG95.trans hG96), (), ⟨eqv, trivial⟩, rfl⟩
    ·refine W.ok (ok_loadB (i := 1) (vs := [.string _]) ty9 rfl rfl rfl rfl (by simp)) ?_
     refine W.nil ⟨Le.rfl, ((((List.nil_sublist _).cons_cons _).cons_cons _).cons _).cons_cons _, _, ((((List.nil_sublist _).cons_cons _).cons_cons _).cons _).cons_cons _, List.Sublist.refl _, ?_⟩
     refine WD.any [7, 12, 16] (by kernel_rfl) rfl ⟨⟨_, rfl, rfl, ?_⟩, ⟨_, rfl, rfl, ?_⟩, ⟨_, rfl, rfl, ?_⟩, trivial⟩
     ·refine W.ok (ok_loadB (i := 1) (vs := [.string _]) ty9 rfl rfl rfl rfl (by simp)) ?_
      refine W.nil ⟨Le.rfl, ((((List.nil_sublist _).cons_cons _).cons_cons _).cons _).cons_cons _, _, ((((List.nil_sublist _).cons_cons _).cons_cons _).cons _).cons_cons _, List.Sublist.refl _, ?_⟩
      refine WD.any [12, 16] (by kernel_rfl) rfl ⟨⟨_, rfl, rfl, ?_⟩, ⟨_, rfl, rfl, ?_⟩, trivial⟩
      ·refine W.qcall (point_fc _ (by first | assumption | omega | (dsimp only; omega))) rfl ?_
       refine W.nil ⟨Le.rfl, ((((List.nil_sublist _).cons_cons _).cons_cons _).cons _).cons_cons _, _, ((((List.nil_sublist _).cons_cons _).cons_cons _).cons _).cons_cons _, List.Sublist.refl _, ?_⟩
       refine WD.any [16] (by kernel_rfl) rfl ⟨⟨_, rfl, rfl, ?_⟩, trivial⟩
       refine W.ok (ok_loadB (i := 1) (vs := [.slice _ _ _]) ty92 rfl rfl rfl rfl (by simp)) ?_
       refine W.nil ⟨Le.rfl, ((((List.nil_sublist _).cons_cons _).cons_cons _).cons _).cons_cons _, _, ((((List.nil_sublist _).cons_cons _).cons_cons _).cons _).cons_cons _, List.Sublist.refl _, ?_⟩
       refine WD.any [17] (by kernel_rfl) rfl ⟨⟨_, rfl, rfl, ?_⟩, trivial⟩
       refine W.giveO (h_LM.mono hG76) (pmC (pmC (pmC (pmC (List.Perm.refl _))))) (fun G103 hG103 hv103 => ?_)
       refine W.call (Mp := []) (mpath_fc _ _ _ hv103 (by omega) (by omega) hg.key) rfl (List.Perm.refl _) ?_
       intro _ G104 _ hG104 q106
       refine match q106 with | ⟨e_107, _, e_108, hv105⟩ => ?_
       subst e_107
       subst e_108
       have q110 := hv105.form
       refine match q110 with | ⟨sa_hv105, sc_hv105, e_109⟩ => ?_
       subst e_109
       refine W.nil ⟨(hG103.trans hG104), ((((List.nil_sublist _).cons_cons _).cons_cons _).cons _).cons_cons _, _, ((((List.nil_sublist _).cons_cons _).cons_cons _).cons _).cons_cons _, List.Sublist.refl _, ?_⟩
       refine WD.any [18] (by kernel_rfl) rfl ⟨⟨_, rfl, rfl, ?_⟩, trivial⟩
       refine W.qcall ((lookof_fc (hr_nb77.mono (hG103.trans hG104)) key hv105 (t.rows hg.mem) (fun m hm => ⟨by have h9 := (hg.fit t hk300 m hm).1; omega, (hg.fit t hk300 m hm).2.2⟩)).mono (fun v _ _ _ hv => hv.trans (congrArg (fun o : Option Str => Value.tuple #[.string (o.getD Str.nil).b, .bool o.isSome]) (hg.get t (by omega) h0)))) rfl ?_
       refine W.nil ⟨Le.rfl, ((((List.nil_sublist _).cons_cons _).cons_cons _).cons _).cons_cons _, _, ((((List.nil_sublist _).cons_cons _).cons_cons _).cons _).cons_cons _, List.Sublist.refl _, ?_⟩
       refine WD.take 19 rfl rfl rfl (by kernel_rfl) (by kernel_rfl) (by kernel_rfl) (ok_mv) ?_
       refine WD.take 20 rfl rfl rfl (by kernel_rfl) (by kernel_rfl) (by kernel_rfl) (ok_extract rfl rfl) ?_
       refine WD.take 21 rfl rfl rfl (by kernel_rfl) (by kernel_rfl) (by kernel_rfl) (ok_extract rfl rfl) ?_
       refine WD.take 22 rfl rfl rfl (by kernel_rfl) (by kernel_rfl) (by kernel_rfl) (ok_nilP rfl) ?_
       refine WD.take 23 rfl rfl rfl (by kernel_rfl) (by kernel_rfl) (by kernel_rfl) (ok_fieldB fd98_8 rfl) ?_
       refine WD.take 24 rfl rfl rfl (by kernel_rfl) (by kernel_rfl) (by kernel_rfl) (ok_fieldB fd56_2 rfl) ?_
       refine WD.any [25] (by kernel_rfl) rfl ⟨⟨_, rfl, rfl, ?_⟩, trivial⟩
       refine W.store (i := 1) (vs := [.string _]) (L' := [_, _, _, _, _, _, _, _, _, _, _, .string _, _]) ty9 rfl rfl rfl rfl rfl rfl rfl rfl ?_
       refine W.nil ⟨Le.rfl, ((((List.nil_sublist _).cons_cons _).cons_cons _).cons _).cons_cons _, _, ((((List.nil_sublist _).cons_cons _).cons_cons _).cons _).cons_cons _, List.Sublist.refl _, ?_⟩
       refine WD.take 26 rfl rfl rfl (by kernel_rfl) (by kernel_rfl) (by kernel_rfl) (ok_nilP rfl) ?_
       refine WD.take 27 rfl rfl rfl (by kernel_rfl) (by kernel_rfl) (by kernel_rfl) (ok_fieldB fd98_8 rfl) ?_
       refine WD.take 28 rfl rfl rfl (by kernel_rfl) (by kernel_rfl) (by kernel_rfl) (ok_fieldB fd56_1 rfl) ?_
       refine WD.any [29] (by kernel_rfl) rfl ⟨⟨_, rfl, rfl, ?_⟩, trivial⟩
       refine W.store (i := 1) (vs := [.bool _]) (L' := [_, _, _, _, _, _, _, _, _, _, .bool _, _, _]) ty4 rfl rfl rfl rfl rfl rfl rfl rfl ?_
       refine W.nil ⟨Le.rfl, ((((List.nil_sublist _).cons_cons _).cons_cons _).cons _).cons_cons _, _, ((((List.nil_sublist _).cons_cons _).cons_cons _).cons _).cons_cons _, List.Sublist.refl _, ?_⟩
       refine WD.done (by kernel_rfl) (thn_n ?_)
       exact ⟨(hG103.trans hG104), (), ⟨eqv, trivial⟩, rfl⟩
      ·refine W.ok (ok_loadB (i := 1) (vs := [.slice _ _ _]) ty92 rfl rfl rfl rfl (by simp)) ?_
       refine W.nil ⟨Le.rfl, ((((List.nil_sublist _).cons_cons _).cons_cons _).cons _).cons_cons _, _, ((((List.nil_sublist _).cons_cons _).cons_cons _).cons _).cons_cons _, List.Sublist.refl _, ?_⟩
       refine WD.any [12] (by kernel_rfl) rfl ⟨⟨_, rfl, rfl, ?_⟩, trivial⟩
       refine W.qcall (point_fc _ (by first | assumption | omega | (dsimp only; omega))) rfl ?_
       refine W.nil ⟨Le.rfl, ((((List.nil_sublist _).cons_cons _).cons_cons _).cons _).cons_cons _, _, ((((List.nil_sublist _).cons_cons _).cons_cons _).cons _).cons_cons _, List.Sublist.refl _, ?_⟩
       refine WD.any [17] (by kernel_rfl) rfl ⟨⟨_, rfl, rfl, ?_⟩, trivial⟩
       refine W.giveO (h_LM.mono hG76) (pmC (pmC (pmC (pmC (List.Perm.refl _))))) (fun G111 hG111 hv111 => ?_)
       refine W.call (Mp := []) (mpath_fc _ _ _ hv111 (by omega) (by omega) hg.key) rfl (List.Perm.refl _) ?_
       intro _ G112 _ hG112 q114
       refine match q114 with | ⟨e_115, _, e_116, hv113⟩ => ?_
       subst e_115
       subst e_116
       have q118 := hv113.form
       refine match q118 with | ⟨sa_hv113, sc_hv113, e_117⟩ => ?_
       subst e_117
       refine W.nil ⟨(hG111.trans hG112), ((((List.nil_sublist _).cons_cons _).cons_cons _).cons _).cons_cons _, _, ((((List.nil_sublist _).cons_cons _).cons_cons _).cons _).cons_cons _, List.Sublist.refl _, ?_⟩
       refine WD.any [18] (by kernel_rfl) rfl ⟨⟨_, rfl, rfl, ?_⟩, trivial⟩
       refine W.qcall ((lookof_fc (hr_nb77.mono (hG111.trans hG112)) key hv113 (t.rows hg.mem) (fun m hm => ⟨by have h9 := (hg.fit t hk300 m hm).1; omega, (hg.fit t hk300 m hm).2.2⟩)).mono (fun v _ _ _ hv => hv.trans (congrArg (fun o : Option Str => Value.tuple #[.string (o.getD Str.nil).b, .bool o.isSome]) (hg.get t (by omega) h0)))) rfl ?_
       refine W.nil ⟨Le.rfl, ((((List.nil_sublist _).cons_cons _).cons_cons _).cons _).cons_cons _, _, ((((List.nil_sublist _).cons_cons _).cons_cons _).cons _).cons_cons _, List.Sublist.refl _, ?_⟩
       refine WD.take 19 rfl rfl rfl (by kernel_rfl) (by kernel_rfl) (by kernel_rfl) (ok_mv) ?_
       refine WD.take 20 rfl rfl rfl (by kernel_rfl) (by kernel_rfl) (by kernel_rfl) (ok_extract rfl rfl) ?_
       refine WD.take 21 rfl rfl rfl (by kernel_rfl) (by kernel_rfl) (by kernel_rfl) (ok_extract rfl rfl) ?_
       refine WD.take 22 rfl rfl rfl (by kernel_rfl) (by kernel_rfl) (by kernel_rfl) (ok_nilP rfl) ?_
       refine WD.take 23 rfl rfl rfl (by kernel_rfl) (by kernel_rfl) (by kernel_rfl) (ok_fieldB fd98_8 rfl) ?_
       refine WD.take 24 rfl rfl rfl (by kernel_rfl) (by kernel_rfl) (by kernel_rfl) (ok_fieldB fd56_2 rfl) ?_
       refine WD.any [25] (by kernel_rfl) rfl ⟨⟨_, rfl, rfl, ?_⟩, trivial⟩
       refine W.store (i := 1) (vs := [.string _]) (L' := [_, _, _, _, _, _, _, _, _, _, _, .string _, _]) ty9 rfl rfl rfl rfl rfl rfl rfl rfl ?_
       refine W.nil ⟨Le.rfl, ((((List.nil_sublist _).cons_cons _).cons_cons _).cons _).cons_cons _, _, ((((List.nil_sublist _).cons_cons _).cons_cons _).cons _).cons_cons _, List.Sublist.refl _, ?_⟩
       refine WD.take 26 rfl rfl rfl (by kernel_rfl) (by kernel_rfl) (by kernel_rfl) (ok_nilP rfl) ?_
       refine WD.take 27 rfl rfl rfl (by kernel_rfl) (by kernel_rfl) (by kernel_rfl) (ok_fieldB fd98_8 rfl) ?_
       refine WD.take 28 rfl rfl rfl (by kernel_rfl) (by kernel_rfl) (by kernel_rfl) (ok_fieldB fd56_1 rfl) ?_
       refine WD.any [29] (by kernel_rfl) rfl ⟨⟨_, rfl, rfl, ?_⟩, trivial⟩
       refine W.store (i := 1) (vs := [.bool _]) (L' := [_, _, _, _, _, _, _, _, _, _, .bool _, _, _]) ty4 rfl rfl rfl rfl rfl rfl rfl rfl ?_
       refine W.nil ⟨Le.rfl, ((((List.nil_sublist _).cons_cons _).cons_cons _).cons _).cons_cons _, _, ((((List.nil_sublist _).cons_cons _).cons_cons _).cons _).cons_cons _, List.Sublist.refl _, ?_⟩
       refine WD.done (by kernel_rfl) (thn_n ?_)
       exact ⟨(hG111.trans hG112), (), ⟨eqv, trivial⟩, rfl⟩
     ·refine W.qcall (point_fc _ (by first | assumption | omega | (dsimp only; omega))) rfl ?_
      refine W.nil ⟨Le.rfl, ((((List.nil_sublist _).cons_cons _).cons_cons _).cons _).cons_cons _, _, ((((List.nil_sublist _).cons_cons _).cons_cons _).cons _).cons_cons _, List.Sublist.refl _, ?_⟩
      refine WD.any [7, 16] (by kernel_rfl) rfl ⟨⟨_, rfl, rfl, ?_⟩, ⟨_, rfl, rfl, ?_⟩, trivial⟩
      ·refine W.ok (ok_loadB (i := 1) (vs := [.string _]) ty9 rfl rfl rfl rfl (by simp)) ?_
       refine W.nil ⟨Le.rfl, ((((List.nil_sublist _).cons_cons _).cons_cons _).cons _).cons_cons _, _, ((((List.nil_sublist _).cons_cons _).cons_cons _).cons _).cons_cons _, List.Sublist.refl _, ?_⟩
       refine WD.any [16] (by kernel_rfl) rfl ⟨⟨_, rfl, rfl, ?_⟩, trivial⟩
       refine W.ok (ok_loadB (i := 1) (vs := [.slice _ _ _]) ty92 rfl rfl rfl rfl (by simp)) ?_
       refine W.nil ⟨Le.rfl, ((((List.nil_sublist _).cons_cons _).cons_cons _).cons _).cons_cons _, _, ((((List.nil_sublist _).cons_cons _).cons_cons _).cons _).cons_cons _, List.Sublist.refl _, ?_⟩
       refine WD.any [17] (by kernel_rfl) rfl ⟨⟨_, rfl, rfl, ?_⟩, trivial⟩
       refine W.giveO (h_LM.mono hG76) (pmC (pmC (pmC (pmC (List.Perm.refl _))))) (fun G119 hG119 hv119 => ?_)
       refine W.call (Mp := []) (mpath_fc _ _ _ hv119 (by omega) (by omega) hg.key) rfl (List.Perm.refl _) ?_
       intro _ G120 _ hG120 q122
       refine match q122 with | ⟨e_123, _, e_124, hv121⟩ => ?_
       subst e_123
       subst e_124
       have q126 := hv121.form
       refine match q126 with | ⟨sa_hv121, sc_hv121, e_125⟩ => ?_
       subst e_125
       refine W.nil ⟨(hG119.trans hG120), ((((List.nil_sublist _).cons_cons _).cons_cons _).cons _).cons_cons _, _, ((((List.nil_sublist _).cons_cons _).cons_cons _).cons _).cons_cons _, List.Sublist.refl _, ?_⟩
       refine WD.any [18] (by kernel_rfl) rfl ⟨⟨_, rfl, rfl, ?_⟩, trivial⟩
       refine W.qcall ((lookof_fc (hr_nb77.mono (hG119.trans hG120)) key hv121 (t.rows hg.mem) (fun m hm => ⟨by have h9 := (hg.fit t hk300 m hm).1; omega, (hg.fit t hk300 m hm).2.2⟩)).mono (fun v _ _ _ hv => hv.trans (congrArg (fun o : Option Str => Value.tuple #[.string (o.getD Str.nil).b, .bool o.isSome]) (hg.get t (by omega) h0)))) rfl ?_
       refine W.nil ⟨Le.rfl, ((((List.nil_sublist _).cons_cons _).cons_cons _).cons _).cons_cons _, _, ((((List.nil_sublist _).cons_cons _).cons_cons _).cons _).cons_cons _, List.Sublist.refl _, ?_⟩
       refine WD.take 19 rfl rfl rfl (by kernel_rfl) (by kernel_rfl) (by kernel_rfl) (ok_mv) ?_
       refine WD.take 20 rfl rfl rfl (by kernel_rfl) (by kernel_rfl) (by kernel_rfl) (ok_extract rfl rfl) ?_
       refine WD.take 21 rfl rfl rfl (by kernel_rfl) (by kernel_rfl) (by kernel_rfl) (ok_extract rfl rfl) ?_
       refine WD.take 22 rfl rfl rfl (by kernel_rfl) (by kernel_rfl) (by kernel_rfl) (ok_nilP rfl) ?_
       refine WD.take 23 rfl rfl rfl (by kernel_rfl) (by kernel_rfl) (by kernel_rfl) (ok_fieldB fd98_8 rfl) ?_
       refine WD.take 24 rfl rfl rfl (by kernel_rfl) (by kernel_rfl) (by kernel_rfl) (ok_fieldB fd56_2 rfl) ?_
       refine WD.any [25] (by kernel_rfl) rfl ⟨⟨_, rfl, rfl, ?_⟩, trivial⟩
       refine W.store (i := 1) (vs := [.string _]) (L' := [_, _, _, _, _, _, _, _, _, _, _, .string _, _]) ty9 rfl rfl rfl rfl rfl rfl rfl rfl ?_
       refine W.nil ⟨Le.rfl, ((((List.nil_sublist _).cons_cons _).cons_cons _).cons _).cons_cons _, _, ((((List.nil_sublist _).cons_cons _).cons_cons _).cons _).cons_cons _, List.Sublist.refl _, ?_⟩
       refine WD.take 26 rfl rfl rfl (by kernel_rfl) (by kernel_rfl) (by kernel_rfl) (ok_nilP rfl) ?_
       refine WD.take 27 rfl rfl rfl (by kernel_rfl) (by kernel_rfl) (by kernel_rfl) (ok_fieldB fd98_8 rfl) ?_
       refine WD.take 28 rfl rfl rfl (by kernel_rfl) (by kernel_rfl) (by kernel_rfl) (ok_fieldB fd56_1 rfl) ?_
       refine WD.any [29] (by kernel_rfl) rfl ⟨⟨_, rfl, rfl, ?_⟩, trivial⟩
       refine W.store (i := 1) (vs := [.bool _]) (L' := [_, _, _, _, _, _, _, _, _, _, .bool _, _, _]) ty4 rfl rfl rfl rfl rfl rfl rfl rfl ?_
       refine W.nil ⟨Le.rfl, ((((List.nil_sublist _).cons_cons _).cons_cons _).cons _).cons_cons _, _, ((((List.nil_sublist _).cons_cons _).cons_cons _).cons _).cons_cons _, List.Sublist.refl _, ?_⟩
       refine WD.done (by kernel_rfl) (thn_n ?_)
       exact ⟨(hG119.trans hG120), (), ⟨eqv, trivial⟩, rfl⟩
      ·refine W.ok (ok_loadB (i := 1) (vs := [.slice _ _ _]) ty92 rfl rfl rfl rfl (by simp)) ?_
       refine W.nil ⟨Le.rfl, ((((List.nil_sublist _).cons_cons _).cons_cons _).cons _).cons_cons _, _, ((((List.nil_sublist _).cons_cons _).cons_cons _).cons _).cons_cons _, List.Sublist.refl _, ?_⟩
       refine WD.any [7, 17] (by kernel_rfl) rfl ⟨⟨_, rfl, rfl, ?_⟩, ⟨_, rfl, rfl, ?_⟩, trivial⟩
       ·refine W.ok (ok_loadB (i := 1) (vs := [.string _]) ty9 rfl rfl rfl rfl (by simp)) ?_
        refine W.nil ⟨Le.rfl, ((((List.nil_sublist _).cons_cons _).cons_cons _).cons _).cons_cons _, _, ((((List.nil_sublist _).cons_cons _).cons_cons _).cons _).cons_cons _, List.Sublist.refl _, ?_⟩
        refine WD.any [17] (by kernel_rfl) rfl ⟨⟨_, rfl, rfl, ?_⟩, trivial⟩
        refine W.giveO (h_LM.mono hG76) (pmC (pmC (pmC (pmC (List.Perm.refl _))))) (fun G127 hG127 hv127 => ?_)
        refine W.call (Mp := []) (mpath_fc _ _ _ hv127 (by omega) (by omega) hg.key) rfl (List.Perm.refl _) ?_
        intro _ G128 _ hG128 q130
        refine match q130 with | ⟨e_131, _, e_132, hv129⟩ => ?_
        subst e_131
        subst e_132
        have q134 := hv129.form
        refine match q134 with | ⟨sa_hv129, sc_hv129, e_133⟩ => ?_
        subst e_133
        refine W.nil ⟨(hG127.trans hG128), ((((List.nil_sublist _).cons_cons _).cons_cons _).cons _).cons_cons _, _, ((((List.nil_sublist _).cons_cons _).cons_cons _).cons _).cons_cons _, List.Sublist.refl _, ?_⟩
        refine WD.any [18] (by kernel_rfl) rfl ⟨⟨_, rfl, rfl, ?_⟩, trivial⟩
        refine W.qcall ((lookof_fc (hr_nb77.mono (hG127.trans hG128)) key hv129 (t.rows hg.mem) (fun m hm => ⟨by have h9 := (hg.fit t hk300 m hm).1; omega, (hg.fit t hk300 m hm).2.2⟩)).mono (fun v _ _ _ hv => hv.trans (congrArg (fun o : Option Str => Value.tuple #[.string (o.getD Str.nil).b, .bool o.isSome]) (hg.get t (by omega) h0)))) rfl ?_
        refine W.nil ⟨Le.rfl, ((((List.nil_sublist _).cons_cons _).cons_cons _).cons _).cons_cons _, _, ((((List.nil_sublist _).cons_cons _).cons_cons _).cons _).cons_cons _, List.Sublist.refl _, ?_⟩
        refine WD.take 19 rfl rfl rfl (by kernel_rfl) (by kernel_rfl) (by kernel_rfl) (ok_mv) ?_
        refine WD.take 20 rfl rfl rfl (by kernel_rfl) (by kernel_rfl) (by kernel_rfl) (ok_extract rfl rfl) ?_
        refine WD.take 21 rfl rfl rfl (by kernel_rfl) (by kernel_rfl) (by kernel_rfl) (ok_extract rfl rfl) ?_
        refine WD.take 22 rfl rfl rfl (by kernel_rfl) (by kernel_rfl) (by kernel_rfl) (ok_nilP rfl) ?_
        refine WD.take 23 rfl rfl rfl (by kernel_rfl) (by kernel_rfl) (by kernel_rfl) (ok_fieldB fd98_8 rfl) ?_
        refine WD.take 24 rfl rfl rfl (by kernel_rfl) (by kernel_rfl) (by kernel_rfl) (ok_fieldB fd56_2 rfl) ?_
        refine WD.any [25] (by kernel_rfl) rfl ⟨⟨_, rfl, rfl, ?_⟩, trivial⟩
        refine W.store (i := 1) (vs := [.string _]) (L' := [_, _, _, _, _, _, _, _, _, _, _, .string _, _]) ty9 rfl rfl rfl rfl rfl rfl rfl rfl ?_
        refine W.nil ⟨Le.rfl, ((((List.nil_sublist _).cons_cons _).cons_cons _).cons _).cons_cons _, _, ((((List.nil_sublist _).cons_cons _).cons_cons _).cons _).cons_cons _, List.Sublist.refl _, ?_⟩
        refine WD.take 26 rfl rfl rfl (by kernel_rfl) (by kernel_rfl) (by kernel_rfl) (ok_nilP rfl) ?_
        refine WD.take 27 rfl rfl rfl (by kernel_rfl) (by kernel_rfl) (by kernel_rfl) (ok_fieldB fd98_8 rfl) ?_
        refine WD.take 28 rfl rfl rfl (by kernel_rfl) (by kernel_rfl) (by kernel_rfl) (ok_fieldB fd56_1 rfl) ?_
        refine WD.any [29] (by kernel_rfl) rfl ⟨⟨_, rfl, rfl, ?_⟩, trivial⟩
        refine W.store (i := 1) (vs := [.bool _]) (L' := [_, _, _, _, _, _, _, _, _, _, .bool _, _, _]) ty4 rfl rfl rfl rfl rfl rfl rfl rfl ?_
        refine W.nil ⟨Le.rfl, ((((List.nil_sublist _).cons_cons _).cons_cons _).cons _).cons_cons _, _, ((((List.nil_sublist _).cons_cons _).cons_cons _).cons _).cons_cons _, List.Sublist.refl _, ?_⟩
        refine WD.done (by kernel_rfl) (thn_n ?_)
        exact ⟨(hG127.trans hG128), (), ⟨eqv, trivial⟩, rfl⟩
       ·refine W.giveO (h_LM.mono hG76) (pmC (pmC (pmC (pmC (List.Perm.refl _))))) (fun G135 hG135 hv135 => ?_)
        refine W.call (Mp := []) (mpath_fc _ _ _ hv135 (by omega) (by omega) hg.key) rfl (List.Perm.refl _) ?_
        intro _ G136 _ hG136 q138
        refine match q138 with | ⟨e_139, _, e_140, hv137⟩ => ?_
        subst e_139
        subst e_140
        have q142 := hv137.form
        refine match q142 with | ⟨sa_hv137, sc_hv137, e_141⟩ => ?_
        subst e_141
        refine W.nil ⟨(hG135.trans hG136), ((((List.nil_sublist _).cons_cons _).cons_cons _).cons _).cons_cons _, _, ((((List.nil_sublist _).cons_cons _).cons_cons _).cons _).cons_cons _, List.Sublist.refl _, ?_⟩
        refine WD.any [7] (by kernel_rfl) rfl ⟨⟨_, rfl, rfl, ?_⟩, trivial⟩
        refine W.ok (ok_loadB (i := 1) (vs := [.string _]) ty9 rfl rfl rfl rfl (by simp)) ?_
        refine W.nil ⟨Le.rfl, ((((List.nil_sublist _).cons_cons _).cons_cons _).cons _).cons_cons _, _, ((((List.nil_sublist _).cons_cons _).cons_cons _).cons _).cons_cons _, List.Sublist.refl _, ?_⟩
        refine WD.any [18] (by kernel_rfl) rfl ⟨⟨_, rfl, rfl, ?_⟩, trivial⟩
        refine W.qcall ((lookof_fc (hr_nb77.mono (hG135.trans hG136)) key hv137 (t.rows hg.mem) (fun m hm => ⟨by have h9 := (hg.fit t hk300 m hm).1; omega, (hg.fit t hk300 m hm).2.2⟩)).mono (fun v _ _ _ hv => hv.trans (congrArg (fun o : Option Str => Value.tuple #[.string (o.getD Str.nil).b, .bool o.isSome]) (hg.get t (by omega) h0)))) rfl ?_
        refine W.nil ⟨Le.rfl, ((((List.nil_sublist _).cons_cons _).cons_cons _).cons _).cons_cons _, _, ((((List.nil_sublist _).cons_cons _).cons_cons _).cons _).cons_cons _, List.Sublist.refl _, ?_⟩
        refine WD.take 19 rfl rfl rfl (by kernel_rfl) (by kernel_rfl) (by kernel_rfl) (ok_mv) ?_
        refine WD.take 20 rfl rfl rfl (by kernel_rfl) (by kernel_rfl) (by kernel_rfl) (ok_extract rfl rfl) ?_
        refine WD.take 21 rfl rfl rfl (by kernel_rfl) (by kernel_rfl) (by kernel_rfl) (ok_extract rfl rfl) ?_
        refine WD.take 22 rfl rfl rfl (by kernel_rfl) (by kernel_rfl) (by kernel_rfl) (ok_nilP rfl) ?_
        refine WD.take 23 rfl rfl rfl (by kernel_rfl) (by kernel_rfl) (by kernel_rfl) (ok_fieldB fd98_8 rfl) ?_
        refine WD.take 24 rfl rfl rfl (by kernel_rfl) (by kernel_rfl) (by kernel_rfl) (ok_fieldB fd56_2 rfl) ?_
        refine WD.any [25] (by kernel_rfl) rfl ⟨⟨_, rfl, rfl, ?_⟩, trivial⟩
        refine W.store (i := 1) (vs := [.string _]) (L' := [_, _, _, _, _, _, _, _, _, _, _, .string _, _]) ty9 rfl rfl rfl rfl rfl rfl rfl rfl ?_
        refine W.nil ⟨Le.rfl, ((((List.nil_sublist _).cons_cons _).cons_cons _).cons _).cons_cons _, _, ((((List.nil_sublist _).cons_cons _).cons_cons _).cons _).cons_cons _, List.Sublist.refl _, ?_⟩
        refine WD.take 26 rfl rfl rfl (by kernel_rfl) (by kernel_rfl) (by kernel_rfl) (ok_nilP rfl) ?_
        refine WD.take 27 rfl rfl rfl (by kernel_rfl) (by kernel_rfl) (by kernel_rfl) (ok_fieldB fd98_8 rfl) ?_
        refine WD.take 28 rfl rfl rfl (by kernel_rfl) (by kernel_rfl) (by kernel_rfl) (ok_fieldB fd56_1 rfl) ?_
        refine WD.any [29] (by kernel_rfl) rfl ⟨⟨_, rfl, rfl, ?_⟩, trivial⟩
        refine W.store (i := 1) (vs := [.bool _]) (L' := [_, _, _, _, _, _, _, _, _, _, .bool _, _, _]) ty4 rfl rfl rfl rfl rfl rfl rfl rfl ?_
        refine W.nil ⟨Le.rfl, ((((List.nil_sublist _).cons_cons _).cons_cons _).cons _).cons_cons _, _, ((((List.nil_sublist _).cons_cons _).cons_cons _).cons _).cons_cons _, List.Sublist.refl _, ?_⟩
        refine WD.done (by kernel_rfl) (thn_n ?_)
        exact ⟨(hG135.trans hG136), (), ⟨eqv, trivial⟩, rfl⟩
     ·refine W.ok (ok_loadB (i := 1) (vs := [.slice _ _ _]) ty92 rfl rfl rfl rfl (by simp)) ?_
      refine W.nil ⟨Le.rfl, ((((List.nil_sublist _).cons_cons _).cons_cons _).cons _).cons_cons _, _, ((((List.nil_sublist _).cons_cons _).cons_cons _).cons _).cons_cons _, List.Sublist.refl _, ?_⟩
      refine WD.any [7, 12] (by kernel_rfl) rfl ⟨⟨_, rfl, rfl, ?_⟩, ⟨_, rfl, rfl, ?_⟩, trivial⟩
      ·refine W.ok (ok_loadB (i := 1) (vs := [.string _]) ty9 rfl rfl rfl rfl (by simp)) ?_
       refine W.nil ⟨Le.rfl, ((((List.nil_sublist _).cons_cons _).cons_cons _).cons _).cons_cons _, _, ((((List.nil_sublist _).cons_cons _).cons_cons _).cons _).cons_cons _, List.Sublist.refl _, ?_⟩
       refine WD.any [12] (by kernel_rfl) rfl ⟨⟨_, rfl, rfl, ?_⟩, trivial⟩
       refine W.qcall (point_fc _ (by first | assumption | omega | (dsimp only; omega))) rfl ?_
       refine W.nil ⟨Le.rfl, ((((List.nil_sublist _).cons_cons _).cons_cons _).cons _).cons_cons _, _, ((((List.nil_sublist _).cons_cons _).cons_cons _).cons _).cons_cons _, List.Sublist.refl _, ?_⟩
       refine WD.any [17] (by kernel_rfl) rfl ⟨⟨_, rfl, rfl, ?_⟩, trivial⟩
       refine W.giveO (h_LM.mono hG76) (pmC (pmC (pmC (pmC (List.Perm.refl _))))) (fun G143 hG143 hv143 => ?_)
       refine W.call (Mp := []) (mpath_fc _ _ _ hv143 (by omega) (by omega) hg.key) rfl (List.Perm.refl _) ?_
       intro _ G144 _ hG144 q146
       refine match q146 with | ⟨e_147, _, e_148, hv145⟩ => ?_
       subst e_147
       subst e_148
       have q150 := hv145.form
       refine match q150 with | ⟨sa_hv145, sc_hv145, e_149⟩ => ?_
       subst e_149
       refine W.nil ⟨(hG143.trans hG144), ((((List.nil_sublist _).cons_cons _).cons_cons _).cons _).cons_cons _, _, ((((List.nil_sublist _).cons_cons _).cons_cons _).cons _).cons_cons _, List.Sublist.refl _, ?_⟩
       refine WD.any [18] (by kernel_rfl) rfl ⟨⟨_, rfl, rfl, ?_⟩, trivial⟩
       refine W.qcall ((lookof_fc (hr_nb77.mono (hG143.trans hG144)) key hv145 (t.rows hg.mem) (fun m hm => ⟨by have h9 := (hg.fit t hk300 m hm).1; omega, (hg.fit t hk300 m hm).2.2⟩)).mono (fun v _ _ _ hv => hv.trans (congrArg (fun o : Option Str => Value.tuple #[.string (o.getD Str.nil).b, .bool o.isSome]) (hg.get t (by omega) h0)))) rfl ?_
       refine W.nil ⟨Le.rfl, ((((List.nil_sublist _).cons_cons _).cons_cons _).cons _).cons_cons _, _, ((((List.nil_sublist _).cons_cons _).cons_cons _).cons _).cons_cons _, List.Sublist.refl _, ?_⟩
       refine WD.take 19 rfl rfl rfl (by kernel_rfl) (by kernel_rfl) (by kernel_rfl) (ok_mv) ?_
       refine WD.take 20 rfl rfl rfl (by kernel_rfl) (by kernel_rfl) (by kernel_rfl) (ok_extract rfl rfl) ?_
       refine WD.take 21 rfl rfl rfl (by kernel_rfl) (by kernel_rfl) (by kernel_rfl) (ok_extract rfl rfl) ?_
       refine WD.take 22 rfl rfl rfl (by kernel_rfl) (by kernel_rfl) (by kernel_rfl) (ok_nilP rfl) ?_
       refine WD.take 23 rfl rfl rfl (by kernel_rfl) (by kernel_rfl) (by kernel_rfl) (ok_fieldB fd98_8 rfl) ?_
       refine WD.take 24 rfl rfl rfl (by kernel_rfl) (by kernel_rfl) (by kernel_rfl) (ok_fieldB fd56_2 rfl) ?_
       refine WD.any [25] (by kernel_rfl) rfl ⟨⟨_, rfl, rfl, ?_⟩, trivial⟩
       refine W.store (i := 1) (vs := [.string _]) (L' := [_, _, _, _, _, _, _, _, _, _, _, .string _, _]) ty9 rfl rfl rfl rfl rfl rfl rfl rfl ?_
       refine W.nil ⟨Le.rfl, ((((List.nil_sublist _).cons_cons _).cons_cons _).cons _).cons_cons _, _, ((((List.nil_sublist _).cons_cons _).cons_cons _).cons _).cons_cons _, List.Sublist.refl _, ?_⟩
       refine WD.take 26 rfl rfl rfl (by kernel_rfl) (by kernel_rfl) (by kernel_rfl) (ok_nilP rfl) ?_
       refine WD.take 27 rfl rfl rfl (by kernel_rfl) (by kernel_rfl) (by kernel_rfl) (ok_fieldB fd98_8 rfl) ?_
       refine WD.take 28 rfl rfl rfl (by kernel_rfl) (by kernel_rfl) (by kernel_rfl) (ok_fieldB fd56_1 rfl) ?_
       refine WD.any [29] (by kernel_rfl) rfl ⟨⟨_, rfl, rfl, ?_⟩, trivial⟩
       refine W.store (i := 1) (vs := [.bool _]) (L' := [_, _, _, _, _, _, _, _, _, _, .bool _, _, _]) ty4 rfl rfl rfl rfl rfl rfl rfl rfl ?_
       refine W.nil ⟨Le.rfl, ((((List.nil_sublist _).cons_cons _).cons_cons _).cons _).cons_cons _, _, ((((List.nil_sublist _).cons_cons _).cons_cons _).cons _).cons_cons _, List.Sublist.refl _, ?_⟩
       refine WD.done (by kernel_rfl) (thn_n ?_)
       exact ⟨(hG143.trans hG144), (), ⟨eqv, trivial⟩, rfl⟩
      ·refine W.qcall (point_fc _ (by first | assumption | omega | (dsimp only; omega))) rfl ?_
       refine W.nil ⟨Le.rfl, ((((List.nil_sublist _).cons_cons _).cons_cons _).cons _).cons_cons _, _, ((((List.nil_sublist _).cons_cons _).cons_cons _).cons _).cons_cons _, List.Sublist.refl _, ?_⟩
       refine WD.any [7, 17] (by kernel_rfl) rfl ⟨⟨_, rfl, rfl, ?_⟩, ⟨_, rfl, rfl, ?_⟩, trivial⟩
       ·refine W.ok (ok_loadB (i := 1) (vs := [.string _]) ty9 rfl rfl rfl rfl (by simp)) ?_
        refine W.nil ⟨Le.rfl, ((((List.nil_sublist _).cons_cons _).cons_cons _).cons _).cons_cons _, _, ((((List.nil_sublist _).cons_cons _).cons_cons _).cons _).cons_cons _, List.Sublist.refl _, ?_⟩
        refine WD.any [17] (by kernel_rfl) rfl ⟨⟨_, rfl, rfl, ?_⟩, trivial⟩
        refine W.giveO (h_LM.mono hG76) (pmC (pmC (pmC (pmC (List.Perm.refl _))))) (fun G151 hG151 hv151 => ?_)
        refine W.call (Mp := []) (mpath_fc _ _ _ hv151 (by omega) (by omega) hg.key) rfl (List.Perm.refl _) ?_
        intro _ G152 _ hG152 q154
        refine match q154 with | ⟨e_155, _, e_156, hv153⟩ => ?_
        subst e_155
        subst e_156
        have q158 := hv153.form
        refine match q158 with | ⟨sa_hv153, sc_hv153, e_157⟩ => ?_
        subst e_157
        refine W.nil ⟨(hG151.trans hG152), ((((List.nil_sublist _).cons_cons _).cons_cons _).cons _).cons_cons _, _, ((((List.nil_sublist _).cons_cons _).cons_cons _).cons _).cons_cons _, List.Sublist.refl _, ?_⟩
        refine WD.any [18] (by kernel_rfl) rfl ⟨⟨_, rfl, rfl, ?_⟩, trivial⟩
        refine W.qcall ((lookof_fc (hr_nb77.mono (hG151.trans hG152)) key hv153 (t.rows hg.mem) (fun m hm => ⟨by have h9 := (hg.fit t hk300 m hm).1; omega, (hg.fit t hk300 m hm).2.2⟩)).mono (fun v _ _ _ hv => hv.trans (congrArg (fun o : Option Str => Value.tuple #[.string (o.getD Str.nil).b, .bool o.isSome]) (hg.get t (by omega) h0)))) rfl ?_
        refine W.nil ⟨Le.rfl, ((((List.nil_sublist _).cons_cons _).cons_cons _).cons _).cons_cons _, _, ((((List.nil_sublist _).cons_cons _).cons_cons _).cons _).cons_cons _, List.Sublist.refl _, ?_⟩
        refine WD.take 19 rfl rfl rfl (by kernel_rfl) (by kernel_rfl) (by kernel_rfl) (ok_mv) ?_
        refine WD.take 20 rfl rfl rfl (by kernel_rfl) (by kernel_rfl) (by kernel_rfl) (ok_extract rfl rfl) ?_
        refine WD.take 21 rfl rfl rfl (by kernel_rfl) (by kernel_rfl) (by kernel_rfl) (ok_extract rfl rfl) ?_
        refine WD.take 22 rfl rfl rfl (by kernel_rfl) (by kernel_rfl) (by kernel_rfl) (ok_nilP rfl) ?_
        refine WD.take 23 rfl rfl rfl (by kernel_rfl) (by kernel_rfl) (by kernel_rfl) (ok_fieldB fd98_8 rfl) ?_
        refine WD.take 24 rfl rfl rfl (by kernel_rfl) (by kernel_rfl) (by kernel_rfl) (ok_fieldB fd56_2 rfl) ?_
        refine WD.any [25] (by kernel_rfl) rfl ⟨⟨_, rfl, rfl, ?_⟩, trivial⟩
        refine W.store (i := 1) (vs := [.string _]) (L' := [_, _, _, _, _, _, _, _, _, _, _, .string _, _]) ty9 rfl rfl rfl rfl rfl rfl rfl rfl ?_
        refine W.nil ⟨Le.rfl, ((((List.nil_sublist _).cons_cons _).cons_cons _).cons _).cons_cons _, _, ((((List.nil_sublist _).cons_cons _).cons_cons _).cons _).cons_cons _, List.Sublist.refl _, ?_⟩
        refine WD.take 26 rfl rfl rfl (by kernel_rfl) (by kernel_rfl) (by kernel_rfl) (ok_nilP rfl) ?_
        refine WD.take 27 rfl rfl rfl (by kernel_rfl) (by kernel_rfl) (by kernel_rfl) (ok_fieldB fd98_8 rfl) ?_
        refine WD.take 28 rfl rfl rfl (by kernel_rfl) (by kernel_rfl) (by kernel_rfl) (ok_fieldB fd56_1 rfl) ?_
        refine WD.any [29] (by kernel_rfl) rfl ⟨⟨_, rfl, rfl, ?_⟩, trivial⟩
        refine W.store (i := 1) (vs := [.bool _]) (L' := [_, _, _, _, _, _, _, _, _, _, .bool _, _, _]) ty4 rfl rfl rfl rfl rfl rfl rfl rfl ?_
        refine W.nil ⟨Le.rfl, ((((List.nil_sublist _).cons_cons _).cons_cons _).cons _).cons_cons _, _, ((((List.nil_sublist _).cons_cons _).cons_cons _).cons _).cons_cons _, List.Sublist.refl _, ?_⟩
        refine WD.done (by kernel_rfl) (thn_n ?_)
        exact ⟨(hG151.trans hG152), (), ⟨eqv, trivial⟩, rfl⟩
       ·refine W.giveO (h_LM.mono hG76) (pmC (pmC (pmC (pmC (List.Perm.refl _))))) (fun G159 hG159 hv159 => ?_)
        refine W.call (Mp := []) (mpath_fc _ _ _ hv159 (by omega) (by omega) hg.key) rfl (List.Perm.refl _) ?_
        intro _ G160 _ hG160 q162
        refine match q162 with | ⟨e_163, _, e_164, hv161⟩ => ?_
        subst e_163
        subst e_164
        have q166 := hv161.form
        refine match q166 with | ⟨sa_hv161, sc_hv161, e_165⟩ => ?_
        subst e_165
        refine W.nil ⟨(hG159.trans hG160), ((((List.nil_sublist _).cons_cons _).cons_cons _).cons _).cons_cons _, _, ((((List.nil_sublist _).cons_cons _).cons_cons _).cons _).cons_cons _, List.Sublist.refl _, ?_⟩
        refine WD.any [7] (by kernel_rfl) rfl ⟨⟨_, rfl, rfl, ?_⟩, trivial⟩
        refine W.ok (ok_loadB (i := 1) (vs := [.string _]) ty9 rfl rfl rfl rfl (by simp)) ?_
        refine W.nil ⟨Le.rfl, ((((List.nil_sublist _).cons_cons _).cons_cons _).cons _).cons_cons _, _, ((((List.nil_sublist _).cons_cons _).cons_cons _).cons _).cons_cons _, List.Sublist.refl _, ?_⟩
        refine WD.any [18] (by kernel_rfl) rfl ⟨⟨_, rfl, rfl, ?_⟩, trivial⟩
        refine W.qcall ((lookof_fc (hr_nb77.mono (hG159.trans hG160)) key hv161 (t.rows hg.mem) (fun m hm => ⟨by have h9 := (hg.fit t hk300 m hm).1; omega, (hg.fit t hk300 m hm).2.2⟩)).mono (fun v _ _ _ hv => hv.trans (congrArg (fun o : Option Str => Value.tuple #[.string (o.getD Str.nil).b, .bool o.isSome]) (hg.get t (by omega) h0)))) rfl ?_
        refine W.nil ⟨Le.rfl, ((((List.nil_sublist _).cons_cons _).cons_cons _).cons _).cons_cons _, _, ((((List.nil_sublist _).cons_cons _).cons_cons _).cons _).cons_cons _, List.Sublist.refl _, ?_⟩
        refine WD.take 19 rfl rfl rfl (by kernel_rfl) (by kernel_rfl) (by kernel_rfl) (ok_mv) ?_
        refine WD.take 20 rfl rfl rfl (by kernel_rfl) (by kernel_rfl) (by kernel_rfl) (ok_extract rfl rfl) ?_
        refine WD.take 21 rfl rfl rfl (by kernel_rfl) (by kernel_rfl) (by kernel_rfl) (ok_extract rfl rfl) ?_
        refine WD.take 22 rfl rfl rfl (by kernel_rfl) (by kernel_rfl) (by kernel_rfl) (ok_nilP rfl) ?_
        refine WD.take 23 rfl rfl rfl (by kernel_rfl) (by kernel_rfl) (by kernel_rfl) (ok_fieldB fd98_8 rfl) ?_
        refine WD.take 24 rfl rfl rfl (by kernel_rfl) (by kernel_rfl) (by kernel_rfl) (ok_fieldB fd56_2 rfl) ?_
        refine WD.any [25] (by kernel_rfl) rfl ⟨⟨_, rfl, rfl, ?_⟩, trivial⟩
        refine W.store (i := 1) (vs := [.string _]) (L' := [_, _, _, _, _, _, _, _, _, _, _, .string _, _]) ty9 rfl rfl rfl rfl rfl rfl rfl rfl ?_
        refine W.nil ⟨Le.rfl, ((((List.nil_sublist _).cons_cons _).cons_cons _).cons _).cons_cons _, _, ((((List.nil_sublist _).cons_cons _).cons_cons _).cons _).cons_cons _, List.Sublist.refl _, ?_⟩
        refine WD.take 26 rfl rfl rfl (by kernel_rfl) (by kernel_rfl) (by kernel_rfl) (ok_nilP rfl) ?_
        refine WD.take 27 rfl rfl rfl (by kernel_rfl) (by kernel_rfl) (by kernel_rfl) (ok_fieldB fd98_8 rfl) ?_
        refine WD.take 28 rfl rfl rfl (by kernel_rfl) (by kernel_rfl) (by kernel_rfl) (ok_fieldB fd56_1 rfl) ?_
        refine WD.any [29] (by kernel_rfl) rfl ⟨⟨_, rfl, rfl, ?_⟩, trivial⟩
        refine W.store (i := 1) (vs := [.bool _]) (L' := [_, _, _, _, _, _, _, _, _, _, .bool _, _, _]) ty4 rfl rfl rfl rfl rfl rfl rfl rfl ?_
        refine W.nil ⟨Le.rfl, ((((List.nil_sublist _).cons_cons _).cons_cons _).cons _).cons_cons _, _, ((((List.nil_sublist _).cons_cons _).cons_cons _).cons _).cons_cons _, List.Sublist.refl _, ?_⟩
        refine WD.done (by kernel_rfl) (thn_n ?_)
        exact ⟨(hG159.trans hG160), (), ⟨eqv, trivial⟩, rfl⟩
    ·refine W.ok (ok_loadB (i := 1) (vs := [.slice _ _ _]) ty92 rfl rfl rfl rfl (by simp)) ?_
     refine W.nil ⟨Le.rfl, ((((List.nil_sublist _).cons_cons _).cons_cons _).cons _).cons_cons _, _, ((((List.nil_sublist _).cons_cons _).cons_cons _).cons _).cons_cons _, List.Sublist.refl _, ?_⟩
     refine WD.any [7, 11] (by kernel_rfl) rfl ⟨⟨_, rfl, rfl, ?_⟩, ⟨_, rfl, rfl, ?_⟩, trivial⟩
     ·refine W.ok (ok_loadB (i := 1) (vs := [.string _]) ty9 rfl rfl rfl rfl (by simp)) ?_
      refine W.nil ⟨Le.rfl, ((((List.nil_sublist _).cons_cons _).cons_cons _).cons _).cons_cons _, _, ((((List.nil_sublist _).cons_cons _).cons_cons _).cons _).cons_cons _, List.Sublist.refl _, ?_⟩
      refine WD.any [11] (by kernel_rfl) rfl ⟨⟨_, rfl, rfl, ?_⟩, trivial⟩
      refine W.ok (ok_loadB (i := 1) (vs := [.string _]) ty9 rfl rfl rfl rfl (by simp)) ?_
      refine W.nil ⟨Le.rfl, ((((List.nil_sublist _).cons_cons _).cons_cons _).cons _).cons_cons _, _, ((((List.nil_sublist _).cons_cons _).cons_cons _).cons _).cons_cons _, List.Sublist.refl _, ?_⟩
      refine WD.any [12] (by kernel_rfl) rfl ⟨⟨_, rfl, rfl, ?_⟩, trivial⟩
      refine W.qcall (point_fc _ (by first | assumption | omega | (dsimp only; omega))) rfl ?_
      refine W.nil ⟨Le.rfl, ((((List.nil_sublist _).cons_cons _).cons_cons _).cons _).cons_cons _, _, ((((List.nil_sublist _).cons_cons _).cons_cons _).cons _).cons_cons _, List.Sublist.refl _, ?_⟩
      refine WD.any [17] (by kernel_rfl) rfl ⟨⟨_, rfl, rfl, ?_⟩, trivial⟩
      refine W.giveO (h_LM.mono hG76) (pmC (pmC (pmC (pmC (List.Perm.refl _))))) (fun G167 hG167 hv167 => ?_)
      refine W.call (Mp := []) (mpath_fc _ _ _ hv167 (by omega) (by omega) hg.key) rfl (List.Perm.refl _) ?_
      intro _ G168 _ hG168 q170
      refine match q170 with | ⟨e_171, _, e_172, hv169⟩ => ?_
      subst e_171
      subst e_172
      have q174 := hv169.form
      refine match q174 with | ⟨sa_hv169, sc_hv169, e_173⟩ => ?_
      subst e_173
      refine W.nil ⟨(hG167.trans hG168), ((((List.nil_sublist _).cons_cons _).cons_cons _).cons _).cons_cons _, _, ((((List.nil_sublist _).cons_cons _).cons_cons _).cons _).cons_cons _, List.Sublist.refl _, ?_⟩
      refine WD.any [18] (by kernel_rfl) rfl ⟨⟨_, rfl, rfl, ?_⟩, trivial⟩
      refine W.qcall ((lookof_fc (hr_nb77.mono (hG167.trans hG168)) key hv169 (t.rows hg.mem) (fun m hm => ⟨by have h9 := (hg.fit t hk300 m hm).1; omega, (hg.fit t hk300 m hm).2.2⟩)).mono (fun v _ _ _ hv => hv.trans (congrArg (fun o : Option Str => Value.tuple #[.string (o.getD Str.nil).b, .bool o.isSome]) (hg.get t (by omega) h0)))) rfl ?_
      refine W.nil ⟨Le.rfl, ((((List.nil_sublist _).cons_cons _).cons_cons _).cons _).cons_cons _, _, ((((List.nil_sublist _).cons_cons _).cons_cons _).cons _).cons_cons _, List.Sublist.refl _, ?_⟩
      refine WD.take 19 rfl rfl rfl (by kernel_rfl) (by kernel_rfl) (by kernel_rfl) (ok_mv) ?_
      refine WD.take 20 rfl rfl rfl (by kernel_rfl) (by kernel_rfl) (by kernel_rfl) (ok_extract rfl rfl) ?_
      refine WD.take 21 rfl rfl rfl (by kernel_rfl) (by kernel_rfl) (by kernel_rfl) (ok_extract rfl rfl) ?_
      refine WD.take 22 rfl rfl rfl (by kernel_rfl) (by kernel_rfl) (by kernel_rfl) (ok_nilP rfl) ?_
      refine WD.take 23 rfl rfl rfl (by kernel_rfl) (by kernel_rfl) (by kernel_rfl) (ok_fieldB fd98_8 rfl) ?_
      refine WD.take 24 rfl rfl rfl (by kernel_rfl) (by kernel_rfl) (by kernel_rfl) (ok_fieldB fd56_2 rfl) ?_
      refine WD.any [25] (by kernel_rfl) rfl ⟨⟨_, rfl, rfl, ?_⟩, trivial⟩
      refine W.store (i := 1) (vs := [.string _]) (L' := [_, _, _, _, _, _, _, _, _, _, _, .string _, _]) ty9 rfl rfl rfl rfl rfl rfl rfl rfl ?_
      refine W.nil ⟨Le.rfl, ((((List.nil_sublist _).cons_cons _).cons_cons _).cons _).cons_cons _, _, ((((List.nil_sublist _).cons_cons _).cons_cons _).cons _).cons_cons _, List.Sublist.refl _, ?_⟩
      refine WD.take 26 rfl rfl rfl (by kernel_rfl) (by kernel_rfl) (by kernel_rfl) (ok_nilP rfl) ?_
      refine WD.take 27 rfl rfl rfl (by kernel_rfl) (by kernel_rfl) (by kernel_rfl) (ok_fieldB fd98_8 rfl) ?_
      refine WD.take 28 rfl rfl rfl (by kernel_rfl) (by kernel_rfl) (by kernel_rfl) (ok_fieldB fd56_1 rfl) ?_
      refine WD.any [29] (by kernel_rfl) rfl ⟨⟨_, rfl, rfl, ?_⟩, trivial⟩
      refine W.store (i := 1) (vs := [.bool _]) (L' := [_, _, _, _, _, _, _, _, _, _, .bool _, _, _]) ty4 rfl rfl rfl rfl rfl rfl rfl rfl ?_
      refine W.nil ⟨Le.rfl, ((((List.nil_sublist _).cons_cons _).cons_cons _).cons _).cons_cons _, _, ((((List.nil_sublist _).cons_cons _).cons_cons _).cons _).cons_cons _, List.Sublist.refl _, ?_⟩
      refine WD.done (by kernel_rfl) (thn_n ?_)
      exact ⟨(hG167.trans hG168), (), ⟨eqv, trivial⟩, rfl⟩
     ·refine W.ok (ok_loadB (i := 1) (vs := [.string _]) ty9 rfl rfl rfl rfl (by simp)) ?_
      refine W.nil ⟨Le.rfl, ((((List.nil_sublist _).cons_cons _).cons_cons _).cons _).cons_cons _, _, ((((List.nil_sublist _).cons_cons _).cons_cons _).cons _).cons_cons _, List.Sublist.refl _, ?_⟩
      refine WD.any [7, 12] (by kernel_rfl) rfl ⟨⟨_, rfl, rfl, ?_⟩, ⟨_, rfl, rfl, ?_⟩, trivial⟩
      ·refine W.ok (ok_loadB (i := 1) (vs := [.string _]) ty9 rfl rfl rfl rfl (by simp)) ?_
       refine W.nil ⟨Le.rfl, ((((List.nil_sublist _).cons_cons _).cons_cons _).cons _).cons_cons _, _, ((((List.nil_sublist _).cons_cons _).cons_cons _).cons _).cons_cons _, List.Sublist.refl _, ?_⟩
       refine WD.any [12] (by kernel_rfl) rfl ⟨⟨_, rfl, rfl, ?_⟩, trivial⟩
       refine W.qcall (point_fc _ (by first | assumption | omega | (dsimp only; omega))) rfl ?_
       refine W.nil ⟨Le.rfl, ((((List.nil_sublist _).cons_cons _).cons_cons _).cons _).cons_cons _, _, ((((List.nil_sublist _).cons_cons _).cons_cons _).cons _).cons_cons _, List.Sublist.refl _, ?_⟩
       refine WD.any [17] (by kernel_rfl) rfl ⟨⟨_, rfl, rfl, ?_⟩, trivial⟩
       refine W.giveO (h_LM.mono hG76) (pmC (pmC (pmC (pmC (List.Perm.refl _))))) (fun G175 hG175 hv175 => ?_)
       refine W.call (Mp := []) (mpath_fc _ _ _ hv175 (by omega) (by omega) hg.key) rfl (List.Perm.refl _) ?_
       intro _ G176 _ hG176 q178
       refine match q178 with | ⟨e_179, _, e_180, hv177⟩ => ?_
       subst e_179
       subst e_180
       have q182 := hv177.form
       refine match q182 with | ⟨sa_hv177, sc_hv177, e_181⟩ => ?_
       subst e_181
       refine W.nil ⟨(hG175.trans hG176), ((((List.nil_sublist _).cons_cons _).cons_cons _).cons _).cons_cons _, _, ((((List.nil_sublist _).cons_cons _).cons_cons _).cons _).cons_cons _, List.Sublist.refl _, ?_⟩
       refine WD.any [18] (by kernel_rfl) rfl ⟨⟨_, rfl, rfl, ?_⟩, trivial⟩
       refine W.qcall ((lookof_fc (hr_nb77.mono (hG175.trans hG176)) key hv177 (t.rows hg.mem) (fun m hm => ⟨by have h9 := (hg.fit t hk300 m hm).1; omega, (hg.fit t hk300 m hm).2.2⟩)).mono (fun v _ _ _ hv => hv.trans (congrArg (fun o : Option Str => Value.tuple #[.string (o.getD Str.nil).b, .bool o.isSome]) (hg.get t (by omega) h0)))) rfl ?_
       refine W.nil ⟨Le.rfl, ((((List.nil_sublist _).cons_cons _).cons_cons _).cons _).cons_cons _, _, ((((List.nil_sublist _).cons_cons _).cons_cons _).cons _).cons_cons _, List.Sublist.refl _, ?_⟩
       refine WD.take 19 rfl rfl rfl (by kernel_rfl) (by kernel_rfl) (by kernel_rfl) (ok_mv) ?_
       refine WD.take 20 rfl rfl rfl (by kernel_rfl) (by kernel_rfl) (by kernel_rfl) (ok_extract rfl rfl) ?_
       refine WD.take 21 rfl rfl rfl (by kernel_rfl) (by kernel_rfl) (by kernel_rfl) (ok_extract rfl rfl) ?_
       refine WD.take 22 rfl rfl rfl (by kernel_rfl) (by kernel_rfl) (by kernel_rfl) (ok_nilP rfl) ?_
       refine WD.take 23 rfl rfl rfl (by kernel_rfl) (by kernel_rfl) (by kernel_rfl) (ok_fieldB fd98_8 rfl) ?_
       refine WD.take 24 rfl rfl rfl (by kernel_rfl) (by kernel_rfl) (by kernel_rfl) (ok_fieldB fd56_2 rfl) ?_
       refine WD.any [25] (by kernel_rfl) rfl ⟨⟨_, rfl, rfl, ?_⟩, trivial⟩
       refine W.store (i := 1) (vs := [.string _]) (L' := [_, _, _, _, _, _, _, _, _, _, _, .string _, _]) ty9 rfl rfl rfl rfl rfl rfl rfl rfl ?_
       refine W.nil ⟨Le.rfl, ((((List.nil_sublist _).cons_cons _).cons_cons _).cons _).cons_cons _, _, ((((List.nil_sublist _).cons_cons _).cons_cons _).cons _).cons_cons _, List.Sublist.refl _, ?_⟩
       refine WD.take 26 rfl rfl rfl (by kernel_rfl) (by kernel_rfl) (by kernel_rfl) (ok_nilP rfl) ?_
       refine WD.take 27 rfl rfl rfl (by kernel_rfl) (by kernel_rfl) (by kernel_rfl) (ok_fieldB fd98_8 rfl) ?_
       refine WD.take 28 rfl rfl rfl (by kernel_rfl) (by kernel_rfl) (by kernel_rfl) (ok_fieldB fd56_1 rfl) ?_
       refine WD.any [29] (by kernel_rfl) rfl ⟨⟨_, rfl, rfl, ?_⟩, trivial⟩
       refine W.store (i := 1) (vs := [.bool _]) (L' := [_, _, _, _, _, _, _, _, _, _, .bool _, _, _]) ty4 rfl rfl rfl rfl rfl rfl rfl rfl ?_
       refine W.nil ⟨Le.rfl, ((((List.nil_sublist _).cons_cons _).cons_cons _).cons _).cons_cons _, _, ((((List.nil_sublist _).cons_cons _).cons_cons _).cons _).cons_cons _, List.Sublist.refl _, ?_⟩
       refine WD.done (by kernel_rfl) (thn_n ?_)
       exact ⟨(hG175.trans hG176), (), ⟨eqv, trivial⟩, rfl⟩
      ·refine W.qcall (point_fc _ (by first | assumption | omega | (dsimp only; omega))) rfl ?_
       refine W.nil ⟨Le.rfl, ((((List.nil_sublist _).cons_cons _).cons_cons _).cons _).cons_cons _, _, ((((List.nil_sublist _).cons_cons _).cons_cons _).cons _).cons_cons _, List.Sublist.refl _, ?_⟩
       refine WD.any [7, 17] (by kernel_rfl) rfl ⟨⟨_, rfl, rfl, ?_⟩, ⟨_, rfl, rfl, ?_⟩, trivial⟩
       ·refine W.ok (ok_loadB (i := 1) (vs := [.string _]) ty9 rfl rfl rfl rfl (by simp)) ?_
        refine W.nil ⟨Le.rfl, ((((List.nil_sublist _).cons_cons _).cons_cons _).cons _).cons_cons _, _, ((((List.nil_sublist _).cons_cons _).cons_cons _).cons _).cons_cons _, List.Sublist.refl _, ?_⟩
        refine WD.any [17] (by kernel_rfl) rfl ⟨⟨_, rfl, rfl, ?_⟩, trivial⟩
        refine W.giveO (h_LM.mono hG76) (pmC (pmC (pmC (pmC (List.Perm.refl _))))) (fun G183 hG183 hv183 => ?_)
        refine W.call (Mp := []) (mpath_fc _ _ _ hv183 (by omega) (by omega) hg.key) rfl (List.Perm.refl _) ?_
        intro _ G184 _ hG184 q186
        refine match q186 with | ⟨e_187, _, e_188, hv185⟩ => ?_
        subst e_187
        subst e_188
        have q190 := hv185.form
        refine match q190 with | ⟨sa_hv185, sc_hv185, e_189⟩ => ?_
        subst e_189
        refine W.nil ⟨(hG183.trans hG184), ((((List.nil_sublist _).cons_cons _).cons_cons _).cons _).cons_cons _, _, ((((List.nil_sublist _).cons_cons _).cons_cons _).cons _).cons_cons _, List.Sublist.refl _, ?_⟩
        refine WD.any [18] (by kernel_rfl) rfl ⟨⟨_, rfl, rfl, ?_⟩, trivial⟩
        refine W.qcall ((lookof_fc (hr_nb77.mono (hG183.trans hG184)) key hv185 (t.rows hg.mem) (fun m hm => ⟨by have h9 := (hg.fit t hk300 m hm).1; omega, (hg.fit t hk300 m hm).2.2⟩)).mono (fun v _ _ _ hv => hv.trans (congrArg (fun o : Option Str => Value.tuple #[.string (o.getD Str.nil).b, .bool o.isSome]) (hg.get t (by omega) h0)))) rfl ?_
        refine W.nil ⟨Le.rfl, ((((List.nil_sublist _).cons_cons _).cons_cons _).cons _).cons_cons _, _, ((((List.nil_sublist _).cons_cons _).cons_cons _).cons _).cons_cons _, List.Sublist.refl _, ?_⟩
        refine WD.take 19 rfl rfl rfl (by kernel_rfl) (by kernel_rfl) (by kernel_rfl) (ok_mv) ?_
        refine WD.take 20 rfl rfl rfl (by kernel_rfl) (by kernel_rfl) (by kernel_rfl) (ok_extract rfl rfl) ?_
        refine WD.take 21 rfl rfl rfl (by kernel_rfl) (by kernel_rfl) (by kernel_rfl) (ok_extract rfl rfl) ?_
        refine WD.take 22 rfl rfl rfl (by kernel_rfl) (by kernel_rfl) (by kernel_rfl) (ok_nilP rfl) ?_
        refine WD.take 23 rfl rfl rfl (by kernel_rfl) (by kernel_rfl) (by kernel_rfl) (ok_fieldB fd98_8 rfl) ?_
        refine WD.take 24 rfl rfl rfl (by kernel_rfl) (by kernel_rfl) (by kernel_rfl) (ok_fieldB fd56_2 rfl) ?_
        refine WD.any [25] (by kernel_rfl) rfl ⟨⟨_, rfl, rfl, ?_⟩, trivial⟩
        refine W.store (i := 1) (vs := [.string _]) (L' := [_, _, _, _, _, _, _, _, _, _, _, .string _, _]) ty9 rfl rfl rfl rfl rfl rfl rfl rfl ?_
        refine W.nil ⟨Le.rfl, ((((List.nil_sublist _).cons_cons _).cons_cons _).cons _).cons_cons _, _, ((((List.nil_sublist _).cons_cons _).cons_cons _).cons _).cons_cons _, List.Sublist.refl _, ?_⟩
        refine WD.take 26 rfl rfl rfl (by kernel_rfl) (by kernel_rfl) (by kernel_rfl) (ok_nilP rfl) ?_
        refine WD.take 27 rfl rfl rfl (by kernel_rfl) (by kernel_rfl) (by kernel_rfl) (ok_fieldB fd98_8 rfl) ?_
        refine WD.take 28 rfl rfl rfl (by kernel_rfl) (by kernel_rfl) (by kernel_rfl) (ok_fieldB fd56_1 rfl) ?_
        refine WD.any [29] (by kernel_rfl) rfl ⟨⟨_, rfl, rfl, ?_⟩, trivial⟩
        refine W.store (i := 1) (vs := [.bool _]) (L' := [_, _, _, _, _, _, _, _, _, _, .bool _, _, _]) ty4 rfl rfl rfl rfl rfl rfl rfl rfl ?_
        refine W.nil ⟨Le.rfl, ((((List.nil_sublist _).cons_cons _).cons_cons _).cons _).cons_cons _, _, ((((List.nil_sublist _).cons_cons _).cons_cons _).cons _).cons_cons _, List.Sublist.refl _, ?_⟩
        refine WD.done (by kernel_rfl) (thn_n ?_)
        exact ⟨(hG183.trans hG184), (), ⟨eqv, trivial⟩, rfl⟩
       ·refine W.giveO (h_LM.mono hG76) (pmC (pmC (pmC (pmC (List.Perm.refl _))))) (fun G191 hG191 hv191 => ?_)
        refine W.call (Mp := []) (mpath_fc _ _ _ hv191 (by omega) (by omega) hg.key) rfl (List.Perm.refl _) ?_
        intro _ G192 _ hG192 q194
        refine match q194 with | ⟨e_195, _, e_196, hv193⟩ => ?_
        subst e_195
        subst e_196
        have q198 := hv193.form
        refine match q198 with | ⟨sa_hv193, sc_hv193, e_197⟩ => ?_
        subst e_197
        refine W.nil ⟨(hG191.trans hG192), ((((List.nil_sublist _).cons_cons _).cons_cons _).cons _).cons_cons _, _, ((((List.nil_sublist _).cons_cons _).cons_cons _).cons _).cons_cons _, List.Sublist.refl _, ?_⟩
        refine WD.any [7] (by kernel_rfl) rfl ⟨⟨_, rfl, rfl, ?_⟩, trivial⟩
        refine W.ok (ok_loadB (i := 1) (vs := [.string _]) ty9 rfl rfl rfl rfl (by simp)) ?_
        refine W.nil ⟨Le.rfl, ((((List.nil_sublist _).cons_cons _).cons_cons _).cons _).cons_cons _, _, ((((List.nil_sublist _).cons_cons _).cons_cons _).cons _).cons_cons _, List.Sublist.refl _, ?_⟩
        refine WD.any [18] (by kernel_rfl) rfl ⟨⟨_, rfl, rfl, ?_⟩, trivial⟩
        refine W.qcall ((lookof_fc (hr_nb77.mono (hG191.trans hG192)) key hv193 (t.rows hg.mem) (fun m hm => ⟨by have h9 := (hg.fit t hk300 m hm).1; omega, (hg.fit t hk300 m hm).2.2⟩)).mono (fun v _ _ _ hv => hv.trans (congrArg (fun o : Option Str => Value.tuple #[.string (o.getD Str.nil).b, .bool o.isSome]) (hg.get t (by omega) h0)))) rfl ?_
        refine W.nil ⟨Le.rfl, ((((List.nil_sublist _).cons_cons _).cons_cons _).cons _).cons_cons _, _, ((((List.nil_sublist _).cons_cons _).cons_cons _).cons _).cons_cons _, List.Sublist.refl _, ?_⟩
        refine WD.take 19 rfl rfl rfl (by kernel_rfl) (by kernel_rfl) (by kernel_rfl) (ok_mv) ?_
        refine WD.take 20 rfl rfl rfl (by kernel_rfl) (by kernel_rfl) (by kernel_rfl) (ok_extract rfl rfl) ?_
        refine WD.take 21 rfl rfl rfl (by kernel_rfl) (by kernel_rfl) (by kernel_rfl) (ok_extract rfl rfl) ?_
        refine WD.take 22 rfl rfl rfl (by kernel_rfl) (by kernel_rfl) (by kernel_rfl) (ok_nilP rfl) ?_
        refine WD.take 23 rfl rfl rfl (by kernel_rfl) (by kernel_rfl) (by kernel_rfl) (ok_fieldB fd98_8 rfl) ?_
        refine WD.take 24 rfl rfl rfl (by kernel_rfl) (by kernel_rfl) (by kernel_rfl) (ok_fieldB fd56_2 rfl) ?_
        refine WD.any [25] (by kernel_rfl) rfl ⟨⟨_, rfl, rfl, ?_⟩, trivial⟩
        refine W.store (i := 1) (vs := [.string _]) (L' := [_, _, _, _, _, _, _, _, _, _, _, .string _, _]) ty9 rfl rfl rfl rfl rfl rfl rfl rfl ?_
        refine W.nil ⟨Le.rfl, ((((List.nil_sublist _).cons_cons _).cons_cons _).cons _).cons_cons _, _, ((((List.nil_sublist _).cons_cons _).cons_cons _).cons _).cons_cons _, List.Sublist.refl _, ?_⟩
        refine WD.take 26 rfl rfl rfl (by kernel_rfl) (by kernel_rfl) (by kernel_rfl) (ok_nilP rfl) ?_
        refine WD.take 27 rfl rfl rfl (by kernel_rfl) (by kernel_rfl) (by kernel_rfl) (ok_fieldB fd98_8 rfl) ?_
        refine WD.take 28 rfl rfl rfl (by kernel_rfl) (by kernel_rfl) (by kernel_rfl) (ok_fieldB fd56_1 rfl) ?_
        refine WD.any [29] (by kernel_rfl) rfl ⟨⟨_, rfl, rfl, ?_⟩, trivial⟩
        refine W.store (i := 1) (vs := [.bool _]) (L' := [_, _, _, _, _, _, _, _, _, _, .bool _, _, _]) ty4 rfl rfl rfl rfl rfl rfl rfl rfl ?_
        refine W.nil ⟨Le.rfl, ((((List.nil_sublist _).cons_cons _).cons_cons _).cons _).cons_cons _, _, ((((List.nil_sublist _).cons_cons _).cons_cons _).cons _).cons_cons _, List.Sublist.refl _, ?_⟩
        refine WD.done (by kernel_rfl) (thn_n ?_)
        exact ⟨(hG191.trans hG192), (), ⟨eqv, trivial⟩, rfl⟩
   ·rintro u11 gG199 G199 _ hG199 rfl
    refine WC.seq ?_
    refine WC.region ?_
    refine W.mv ?_
    refine W.ok (ok_nilP rfl) ?_
    refine W.ok (ok_fieldB fd98_2 rfl) ?_
    refine W.ok (ok_loadB (i := 1) (vs := [.pointer _]) ty32 rfl rfl rfl rfl (by simp)) ?_
    refine W.call (Mp := ((b_h, .cells (List.toArray [.pointer (some ⟨b_c, 0, none⟩), .int .i64 th, .pointer vw, .int .i64 most]) 79 (0, 0)) :: ((b_c, .cells (List.toArray [.pointer (some ⟨b_s, 0, none⟩), .pointer (some ⟨b_t, 0, none⟩), vM, .int .i64 wt, .int .i64 ch]) 76 (0, 0)) :: Ms_t))) (Mr := ((B_3, .cells (List.toArray [.int .i64 (x.n).slot, .int .i64 (x.n).level, .slice pa_nb77 ((x.n).pivots).length pc_nb77, .slice ka_nb77 ((x.n).kids).length kc_nb77, .string (x.n).high.b, .bool (x.n).top, .int .i64 (x.n).right, .int .i64 (x.n).seen, .slice ma_nb77 ((x.n).msgs).length mc_nb77, .slice ra_nb77 ((x.n).rows).length rc_nb77]) 43 (0, 0)) :: ((b_r, .cells (List.toArray [.int .i64 x.n.slot, .int .i64 x.n.slot, .pointer (some ⟨b_c, 0, none⟩), .pointer (some ⟨b_h, 0, none⟩), .string key.b, .func (.func 44) #[] #[], .slice sa_LM LM.length sc_LM, .bool false, .bool false, .int .i64 0, .bool (getN (mapN l) key).isSome, .string ((getN (mapN l) key).getD Str.nil).b, .slice none 0 0]) 98 (0, 0)) :: (Ms_s ++ [])))) (hletall0_fc (TabR.mono (hG76.trans hG199) h_t)) rfl (((((pmC (pmC (List.Perm.refl _))).cons _).trans ((List.Perm.swap _ _ _).trans (((List.Perm.swap _ _ _).trans ((List.Perm.refl _).cons _)).cons _))).cons _).trans ((List.Perm.swap _ _ _).trans (((List.Perm.swap _ _ _).trans ((List.Perm.refl _).cons _)).cons _))) ?_
    intro v204 G201 Ms203 hG201 q202
    refine match q202 with | ⟨_, vw_u200, Mt_u200, e_205, ht_u200⟩ => ?_
    subst e_205
    refine W.perm (M' := ((B_3, .cells (List.toArray [.int .i64 (x.n).slot, .int .i64 (x.n).level, .slice pa_nb77 ((x.n).pivots).length pc_nb77, .slice ka_nb77 ((x.n).kids).length kc_nb77, .string (x.n).high.b, .bool (x.n).top, .int .i64 (x.n).right, .int .i64 (x.n).seen, .slice ma_nb77 ((x.n).msgs).length mc_nb77, .slice ra_nb77 ((x.n).rows).length rc_nb77]) 43 (0, 0)) :: ((b_r, .cells (List.toArray [.int .i64 x.n.slot, .int .i64 x.n.slot, .pointer (some ⟨b_c, 0, none⟩), .pointer (some ⟨b_h, 0, none⟩), .string key.b, .func (.func 44) #[] #[], .slice sa_LM LM.length sc_LM, .bool false, .bool false, .int .i64 0, .bool (getN (mapN l) key).isSome, .string ((getN (mapN l) key).getD Str.nil).b, .slice none 0 0]) 98 (0, 0)) :: ((b_h, .cells (List.toArray [.pointer (some ⟨b_c, 0, none⟩), .int .i64 th, .pointer vw_u200, .int .i64 most]) 79 (0, 0)) :: ((b_c, .cells (List.toArray [.pointer (some ⟨b_s, 0, none⟩), .pointer (some ⟨b_t, 0, none⟩), vM, .int .i64 wt, .int .i64 ch]) 76 (0, 0)) :: (Mt_u200 ++ (Ms_s ++ []))))))) (((((pmC (pmC (List.Perm.refl _))).cons _).trans ((List.Perm.swap _ _ _).trans (((List.Perm.swap _ _ _).trans ((List.Perm.refl _).cons _)).cons _))).cons _).trans ((List.Perm.swap _ _ _).trans (((List.Perm.swap _ _ _).trans ((List.Perm.refl _).cons _)).cons _))).symm ?_
    refine W.nil (thn_n ?_)
    refine WC.seq ?_
    refine WC.region ?_
    refine W.mv ?_
    refine W.ok (ok_nilP rfl) ?_
    refine W.ok (ok_fieldB fd98_7 rfl) ?_
    refine W.store (i := 1) (vs := [.bool _]) (L' := [_, _, _, _, _, _, _, _, .bool _, _, _, _, _]) ty4 rfl rfl rfl rfl rfl rfl rfl rfl ?_
    refine W.nil (thn_n ?_)
    refine WC.seq ?_
    refine WC.region ?_
    refine W.as ?_
    refine W.nil (thn_n ?_)
    refine WC.sub (M' := ((b_r, .cells (List.toArray [.int .i64 x.n.slot, .int .i64 x.n.slot, .pointer (some ⟨b_c, 0, none⟩), .pointer (some ⟨b_h, 0, none⟩), .string key.b, .func (.func 44) #[] #[], .slice sa_LM LM.length sc_LM, .bool false, .bool true, .int .i64 0, .bool (getN (mapN l) key).isSome, .string ((getN (mapN l) key).getD Str.nil).b, .slice none 0 0]) 98 (0, 0)) :: ((b_h, .cells (List.toArray [.pointer (some ⟨b_c, 0, none⟩), .int .i64 th, .pointer vw_u200, .int .i64 most]) 79 (0, 0)) :: ((b_c, .cells (List.toArray [.pointer (some ⟨b_s, 0, none⟩), .pointer (some ⟨b_t, 0, none⟩), vM, .int .i64 wt, .int .i64 ch]) 76 (0, 0)) :: (Mt_u200 ++ (Ms_s ++ [])))))) (((((List.Sublist.append_left (List.Sublist.append_left (List.Sublist.refl _) _) _).cons_cons _).cons_cons _).cons_cons _).cons _) ?_
    refine WC.ret ?_
    refine ⟨.inr rfl, [_], ⟨rfl, trivial⟩, ((b_r, .cells (List.toArray [.int .i64 x.n.slot, .int .i64 x.n.slot, .pointer (some ⟨b_c, 0, none⟩), .pointer (some ⟨b_h, 0, none⟩), .string key.b, .func (.func 44) #[] #[], .slice sa_LM LM.length sc_LM, .bool false, .bool true, .int .i64 0, .bool (getN (mapN l) key).isSome, .string ((getN (mapN l) key).getD Str.nil).b, .slice none 0 0]) 98 (0, 0)) :: ((b_h, .cells (List.toArray [.pointer (some ⟨b_c, 0, none⟩), .int .i64 th, .pointer vw_u200, .int .i64 most]) 79 (0, 0)) :: ((b_c, .cells (List.toArray [.pointer (some ⟨b_s, 0, none⟩), .pointer (some ⟨b_t, 0, none⟩), vM, .int .i64 wt, .int .i64 ch]) 76 (0, 0)) :: (Mt_u200 ++ Ms_s)))), (((List.Sublist.append_left (List.sublist_append_left _ _) _).cons_cons _).cons_cons _).cons_cons _, ?_⟩
    exact ⟨rfl, _, _, _, congrArg _ (by simp), ⟨vw_u200, _, rfl, ht_u200⟩, (StR.mono ((hG76.trans hG199).trans hG201) h_s)⟩

end Go.Proofs.YtgmnljhiojdigaaGreat
