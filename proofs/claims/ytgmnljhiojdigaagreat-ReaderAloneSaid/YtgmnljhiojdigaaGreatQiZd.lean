/- Walks of a thread's latches. -/
import Derived.Test.YtgmnljhiojdigaaGreatQiZb
set_option maxRecDepth 100000
set_option maxHeartbeats 1600000
set_option linter.unusedVariables false
set_option linter.unusedSimpArgs false
set_option linter.unnecessarySimpa false
namespace Go.Proofs.YtgmnljhiojdigaaGreat
open Go Go.Fw Go.RowKit
theorem hholds0_fc {G : GH} {b_h : Nat} {th : Int} {vw : Option Addr} {most : Int} {b_c : Nat} {vS : Option Addr} {vM : Value} {Th : List Int} {Lw : Lat} {b_t : Nat} {Ms_t : MH} (h_t : TabR 128 132 3 Th b_t G Lw Ms_t) {wt : Int} {ch : Int} :
    Fc Tryz.prog 36 [.pointer (some ⟨b_h, 0, none⟩)] G ((b_h, .cells (List.toArray [.pointer (some ⟨b_c, 0, none⟩), .int .i64 th, .pointer vw, .int .i64 most]) 79 (0, 0)) :: ((b_c, .cells (List.toArray [.pointer vS, .pointer (some ⟨b_t, 0, none⟩), vM, .int .i64 wt, .int .i64 ch]) 76 (0, 0)) :: (Ms_t))) (fun v G' M' => SlR eHld G' v (lofN Lw th) ∧ HcR 128 132 3 79 76 Th b_h b_c b_t vS vM wt ch G' th most Lw M') := by
 refine Fc.intro (rs := [.tmp 2]) cl36 Tryz.func36 rfl Tryz.ntmps36 rfl rfl (fun w0 => ?_)
 refine WC.perm (M' := ((b_h, .cells (List.toArray [.pointer (some ⟨b_c, 0, none⟩), .int .i64 th, .pointer vw, .int .i64 most]) 79 (0, 0)) :: ((b_c, .cells (List.toArray [.pointer vS, .pointer (some ⟨b_t, 0, none⟩), vM, .int .i64 wt, .int .i64 ch]) 76 (0, 0)) :: (Ms_t ++ [])))) (by simp) ?_
 refine WC.seq ?_
 refine WC.region ?_
 refine W.as ?_
 refine W.nil (thn_n ?_)
 refine WC.seq ?_
 refine WC.seq ?_
 refine WC.region ?_
 refine W.mv ?_
 refine W.ok (ok_eqlPN pp32 rfl rfl) ?_
 refine W.nil (thn_n ?_)
 refine WC.cond_f rfl rfl ?_
 refine WC.skip (thn_n ?_)
 refine WC.seq ?_
 refine WC.drawW _ (((List.nil_sublist _).cons_cons _).cons_cons _) mix (by rintro _ _ _ _ ⟨h | h, _⟩ <;> cases h) ?_
 refine WD.take 0 rfl rfl rfl (by kernel_rfl) (by kernel_rfl) (by kernel_rfl) (ok_mv) ?_
 refine WD.take 1 rfl rfl rfl (by kernel_rfl) (by kernel_rfl) (by kernel_rfl) (ok_nilP rfl) ?_
 refine WD.take 2 rfl rfl rfl (by kernel_rfl) (by kernel_rfl) (by kernel_rfl) (ok_fieldB fd79_0 rfl) ?_
 refine WD.take 3 rfl rfl rfl (by kernel_rfl) (by kernel_rfl) (by kernel_rfl) (ok_loadB (i := 0) (vs := [.pointer _]) ty27 rfl rfl rfl rfl (by simp)) ?_
 refine WD.take 4 rfl rfl rfl (by kernel_rfl) (by kernel_rfl) (by kernel_rfl) (ok_nilP rfl) ?_
 refine WD.take 5 rfl rfl rfl (by kernel_rfl) (by kernel_rfl) (by kernel_rfl) (ok_fieldB fd76_1 rfl) ?_
 refine WD.take 6 rfl rfl rfl (by kernel_rfl) (by kernel_rfl) (by kernel_rfl) (ok_loadB (i := 1) (vs := [.pointer _]) ty73 rfl rfl rfl rfl (by simp)) ?_
 refine WD.take 7 rfl rfl rfl (by kernel_rfl) (by kernel_rfl) (by kernel_rfl) (ok_mv) ?_
 refine WD.take 8 rfl rfl rfl (by kernel_rfl) (by kernel_rfl) (by kernel_rfl) (ok_nilP rfl) ?_
 refine WD.take 9 rfl rfl rfl (by kernel_rfl) (by kernel_rfl) (by kernel_rfl) (ok_fieldB fd79_1 rfl) ?_
 refine WD.take 10 rfl rfl rfl (by kernel_rfl) (by kernel_rfl) (by kernel_rfl) (ok_loadB (i := 0) (vs := [.int .i64 _]) ty3 rfl rfl rfl rfl (by simp)) ?_
 refine WD.any [11] (by kernel_rfl) rfl ⟨⟨_, rfl, rfl, ?_⟩, trivial⟩
 refine W.call (Mp := Ms_t) (lof_fc h_t th) rfl (pmC (pmC (List.Perm.refl _))) ?_
 intro v4 G1 Ms3 hG1 q2
 refine match q2 with | ⟨hv_hR5, hR5⟩ => ?_
 refine W.perm (pmC (pmC (List.Perm.refl _))).symm ?_
 have hln_sa6 := hv_hR5.len47
 have q9 := hv_hR5.form
 refine match q9 with | ⟨sa6, sc7, e_8⟩ => ?_
 subst e_8
 refine W.nil ⟨hG1, ((List.nil_sublist _).cons_cons _).cons_cons _, _, ((List.nil_sublist _).cons_cons _).cons_cons _, List.Sublist.refl _, ?_⟩
 refine WD.take 12 rfl rfl rfl (by kernel_rfl) (by kernel_rfl) (by kernel_rfl) (ok_as) ?_
 refine WD.done (by kernel_rfl) (thn_n ?_)
 refine WC.ret ?_
 refine ⟨.inr rfl, [_], ⟨rfl, trivial⟩, ((b_h, .cells (List.toArray [.pointer (some ⟨b_c, 0, none⟩), .int .i64 th, .pointer vw, .int .i64 most]) 79 (0, 0)) :: ((b_c, .cells (List.toArray [.pointer vS, .pointer (some ⟨b_t, 0, none⟩), vM, .int .i64 wt, .int .i64 ch]) 76 (0, 0)) :: Ms3)), ((List.sublist_append_left _ _).cons_cons _).cons_cons _, ?_⟩
 exact ⟨hv_hR5, ⟨_, _, rfl, hR5⟩⟩

theorem htake0_fc {G : GH} {b_h : Nat} {th : Int} {vw : Option Addr} {most : Int} (s : Int) (wr : Bool) {b_c : Nat} {vS : Option Addr} {vM : Value} {Th : List Int} {Lw : Lat} {b_t : Nat} {Ms_t : MH} (h_t : TabR 128 132 3 Th b_t G Lw Ms_t) {wt : Int} {ch : Int} (hth : th ∈ Th) :
    Fc Tryz.prog 9 [.pointer (some ⟨b_h, 0, none⟩), .int .i64 s, .bool wr] G ((b_h, .cells (List.toArray [.pointer (some ⟨b_c, 0, none⟩), .int .i64 th, .pointer vw, .int .i64 most]) 79 (0, 0)) :: ((b_c, .cells (List.toArray [.pointer vS, .pointer (some ⟨b_t, 0, none⟩), vM, .int .i64 wt, .int .i64 ch]) 76 (0, 0)) :: (Ms_t))) (fun v G' M' => v = .bool (htakeN Lw th s wr).1 ∧ HcR 128 132 3 79 76 Th b_h b_c b_t vS vM wt ch G' th (if (htakeN Lw th s wr).1 = true then hmost (htakeN Lw th s wr).2 th most else most) (htakeN Lw th s wr).2 M') := by
 refine Fc.intro (rs := [.tmp 6]) cl9 Tryz.func9 rfl Tryz.ntmps9 rfl rfl (fun w0 => ?_)
 refine WC.perm (M' := ((b_h, .cells (List.toArray [.pointer (some ⟨b_c, 0, none⟩), .int .i64 th, .pointer vw, .int .i64 most]) 79 (0, 0)) :: ((b_c, .cells (List.toArray [.pointer vS, .pointer (some ⟨b_t, 0, none⟩), vM, .int .i64 wt, .int .i64 ch]) 76 (0, 0)) :: (Ms_t ++ [])))) (by simp) ?_
 refine WC.seq ?_
 refine WC.region ?_
 refine W.as ?_
 refine W.nil (thn_n ?_)
 refine WC.seq ?_
 refine WC.seq ?_
 refine WC.region ?_
 refine W.mv ?_
 refine W.ok (ok_eqlPN pp32 rfl rfl) ?_
 refine W.nil (thn_n ?_)
 refine WC.cond_f rfl rfl ?_
 refine WC.skip (thn_n ?_)
 refine WC.seq ?_
 refine WC.drawW _ (((List.nil_sublist _).cons_cons _).cons_cons _) mix (by rintro _ _ _ _ ⟨h | h, _⟩ <;> cases h) ?_
 refine WD.take 0 rfl rfl rfl (by kernel_rfl) (by kernel_rfl) (by kernel_rfl) (ok_mv) ?_
 refine WD.take 1 rfl rfl rfl (by kernel_rfl) (by kernel_rfl) (by kernel_rfl) (ok_nilP rfl) ?_
 refine WD.take 2 rfl rfl rfl (by kernel_rfl) (by kernel_rfl) (by kernel_rfl) (ok_fieldB fd79_0 rfl) ?_
 refine WD.take 3 rfl rfl rfl (by kernel_rfl) (by kernel_rfl) (by kernel_rfl) (ok_loadB (i := 0) (vs := [.pointer _]) ty27 rfl rfl rfl rfl (by simp)) ?_
 refine WD.take 4 rfl rfl rfl (by kernel_rfl) (by kernel_rfl) (by kernel_rfl) (ok_nilP rfl) ?_
 refine WD.take 5 rfl rfl rfl (by kernel_rfl) (by kernel_rfl) (by kernel_rfl) (ok_fieldB fd76_1 rfl) ?_
 refine WD.take 6 rfl rfl rfl (by kernel_rfl) (by kernel_rfl) (by kernel_rfl) (ok_loadB (i := 1) (vs := [.pointer _]) ty73 rfl rfl rfl rfl (by simp)) ?_
 refine WD.take 7 rfl rfl rfl (by kernel_rfl) (by kernel_rfl) (by kernel_rfl) (ok_mv) ?_
 refine WD.take 8 rfl rfl rfl (by kernel_rfl) (by kernel_rfl) (by kernel_rfl) (ok_nilP rfl) ?_
 refine WD.take 9 rfl rfl rfl (by kernel_rfl) (by kernel_rfl) (by kernel_rfl) (ok_fieldB fd79_1 rfl) ?_
 refine WD.take 10 rfl rfl rfl (by kernel_rfl) (by kernel_rfl) (by kernel_rfl) (ok_loadB (i := 0) (vs := [.int .i64 _]) ty3 rfl rfl rfl rfl (by simp)) ?_
 refine WD.take 11 rfl rfl rfl (by kernel_rfl) (by kernel_rfl) (by kernel_rfl) (ok_mv) ?_
 refine WD.any [12] (by kernel_rfl) rfl ⟨⟨_, rfl, rfl, ?_⟩, trivial⟩
 refine W.call (Mp := Ms_t) (lhas_fc h_t th s) rfl (pmC (pmC (List.Perm.refl _))) ?_
 intro v13 G10 Ms12 hG10 q11
 refine match q11 with | ⟨e_15, hR14⟩ => ?_
 subst e_15
 refine W.perm (pmC (pmC (List.Perm.refl _))).symm ?_
 refine W.nil ⟨hG10, ((List.nil_sublist _).cons_cons _).cons_cons _, _, ((List.nil_sublist _).cons_cons _).cons_cons _, List.Sublist.refl _, ?_⟩
 refine WD.take 13 rfl rfl rfl (by kernel_rfl) (by kernel_rfl) (by kernel_rfl) (ok_mv) ?_
 refine WD.take 14 rfl rfl rfl (by kernel_rfl) (by kernel_rfl) (by kernel_rfl) (ok_extract rfl rfl) ?_
 refine WD.take 15 rfl rfl rfl (by kernel_rfl) (by kernel_rfl) (by kernel_rfl) (ok_extract rfl rfl) ?_
 refine WD.take 16 rfl rfl rfl (by kernel_rfl) (by kernel_rfl) (by kernel_rfl) (ok_as) ?_
 refine WD.take 17 rfl rfl rfl (by kernel_rfl) (by kernel_rfl) (by kernel_rfl) (ok_as) ?_
 refine WD.done (by kernel_rfl) (thn_n ?_)
 refine WC.seq ?_
 refine WC.seq ?_
 refine WC.region ?_
 refine W.mv ?_
 refine W.ok (ok_not rfl) ?_
 refine W.mv ?_
 refine W.sp 30 rfl (fun h29 => ?_) (fun h29 => ?_)
 ·refine W.no (dj := 30) rfl rfl h29 ?_
  refine W.no (dj := 30) rfl rfl h29 ?_
  refine W.nou (dj := 32) rfl rfl ?_
  refine W.nou (dj := 32) rfl rfl ?_
  refine W.no (dj := 30) rfl rfl h29 ?_
  refine W.ok (ok_pick_t rfl h29) ?_
  refine W.nil (thn_n ?_)
  refine WC.cond_t rfl rfl ?_
  refine WC.seq ?_
  refine WC.region ?_
  refine W.mv ?_
  refine W.ok (ok_nilP rfl) ?_
  refine W.ok (ok_fieldB fd79_0 rfl) ?_
  refine W.ok (ok_loadB (i := 0) (vs := [.pointer _]) ty27 rfl rfl rfl rfl (by simp)) ?_
  refine W.ok (ok_nilP rfl) ?_
  refine W.ok (ok_fieldB fd76_1 rfl) ?_
  refine W.ok (ok_loadB (i := 1) (vs := [.pointer _]) ty73 rfl rfl rfl rfl (by simp)) ?_
  refine W.ok (ok_makeFn (fst := [.tmp 43]) (caps := []) (vs := [.pointer (some ⟨b_t, 0, none⟩)]) (ws := []) rfl rfl) ?_
  refine W.as ?_
  refine W.nil (thn_n ?_)
  refine WC.seq ?_
  refine WC.seq ?_
  refine WC.region ?_
  refine W.mv ?_
  refine W.nil (thn_n ?_)
  refine WC.cond (b := _) rfl (fun ha_wr => ?_) (fun ha_wr => ?_)
  ·refine WC.region ?_
   refine W.mv ?_
   refine W.ok (ok_nilP rfl) ?_
   refine W.ok (ok_fieldB fd79_0 rfl) ?_
   refine W.ok (ok_loadB (i := 0) (vs := [.pointer _]) ty27 rfl rfl rfl rfl (by simp)) ?_
   refine W.ok (ok_nilP rfl) ?_
   refine W.ok (ok_fieldB fd76_1 rfl) ?_
   refine W.ok (ok_loadB (i := 1) (vs := [.pointer _]) ty73 rfl rfl rfl rfl (by simp)) ?_
   refine W.ok (ok_makeFn (fst := [.tmp 52]) (caps := []) (vs := [.pointer (some ⟨b_t, 0, none⟩)]) (ws := []) rfl rfl) ?_
   refine W.as ?_
   refine W.nil (thn_n ?_)
   refine WC.seq ?_
   refine WC.region ?_
   refine W.mv ?_
   refine W.mv ?_
   refine W.ok (ok_nilP rfl) ?_
   refine W.ok (ok_fieldB fd79_1 rfl) ?_
   refine W.ok (ok_loadB (i := 0) (vs := [.int .i64 _]) ty3 rfl rfl rfl rfl (by simp)) ?_
   refine W.mv ?_
   refine W.callV (g := 35) (fst := [.pointer (some ⟨b_t, 0, none⟩)]) (caps := []) (Mp := Ms12) rfl (lwrite_fc hR14 th s hth) rfl (pmC (pmC (List.Perm.refl _))) ?_
   intro v19 G16 Ms18 hG16 q17
   refine match q17 with | ⟨e_21, hR20⟩ => ?_
   subst e_21
   refine W.perm (pmC (pmC (List.Perm.refl _))).symm ?_
   refine W.ok (ok_neq rfl rfl) ?_
   refine W.nil (thn_n ?_)
   refine WC.cond (b := _) rfl (fun h61 => ?_) (fun h61 => ?_)
   ·have p61 := nd_t h61
    refine WC.seq ?_
    refine WC.region ?_
    refine W.mv ?_
    refine W.mv ?_
    refine W.ok (ok_nilP rfl) ?_
    refine W.ok (ok_fieldB fd79_1 rfl) ?_
    refine W.ok (ok_loadB (i := 0) (vs := [.int .i64 _]) ty3 rfl rfl rfl rfl (by simp)) ?_
    refine W.mv ?_
    refine W.mv ?_
    refine W.ok (ok_build (L := [.int .i64 _, .int .i64 _, .bool _]) pl84 zr84 rfl rfl rfl) ?_
    refine W.box (L := [.int .i64 _, .int .i64 _, .bool _]) rfl rfl (fun b22 => ?_)
    refine W.ok (ok_nilP rfl) ?_
    refine W.ok (ok_fieldB fd79_2 rfl) ?_
    refine W.store (i := 1) (vs := [.pointer _]) (L' := [.pointer _, .int .i64 _, .pointer _, .int .i64 _]) ty77 rfl rfl rfl rfl rfl rfl rfl rfl ?_
    refine W.nil (thn_n ?_)
    refine WC.seq ?_
    refine WC.region ?_
    refine W.as ?_
    refine W.nil (thn_n ?_)
    refine WC.sub (M' := ((b_h, .cells (List.toArray [.pointer (some ⟨b_c, 0, none⟩), .int .i64 th, .pointer (some ⟨b22, 0, none⟩), .int .i64 most]) 79 (0, 0)) :: ((b_c, .cells (List.toArray [.pointer vS, .pointer (some ⟨b_t, 0, none⟩), vM, .int .i64 wt, .int .i64 ch]) 76 (0, 0)) :: (Ms18 ++ [])))) ((((List.Sublist.append_left (List.Sublist.refl _) _).cons_cons _).cons_cons _).cons _) ?_
    refine WC.ret (thn_r ?_)
    refine ⟨.inr rfl, [_], ⟨rfl, trivial⟩, ((b_h, .cells (List.toArray [.pointer (some ⟨b_c, 0, none⟩), .int .i64 th, .pointer (some ⟨b22, 0, none⟩), .int .i64 most]) 79 (0, 0)) :: ((b_c, .cells (List.toArray [.pointer vS, .pointer (some ⟨b_t, 0, none⟩), vM, .int .i64 wt, .int .i64 ch]) 76 (0, 0)) :: Ms18)), ((List.sublist_append_left _ _).cons_cons _).cons_cons _, ?_⟩
    have hno9 : ¬ (lhasN Lw th s = true ∧ (wr = false ∨ ltoN Lw th s = true)) := by
      intro h9
      first | exact absurd h29 (by rw [h9.1]; decide) | (rcases h9.2 with h8 | h8; exact absurd (ha_wr.symm.trans h8) (by decide); exact absurd h34 (by rw [h8]; decide))
    have hE9 := htake_f (s := s) (wr := wr) hno9
    rw [if_pos ha_wr] at hE9
    rw [decide_eq_false p61] at hE9
    exact ⟨(congrArg (fun p : Bool × Lat => Value.bool p.1) hE9).symm, HcR.cast (by rw [hE9]; rfl) (by rw [hE9]) ⟨_, _, rfl, hR20⟩⟩
   ·have p61 := nd_f h61
    refine WC.skip (thn_n ?_)
    refine WC.seq ?_
    refine WC.region ?_
    refine W.mv ?_
    refine W.ok (ok_nilP rfl) ?_
    refine W.ok (ok_fieldB fd79_2 rfl) ?_
    refine W.store (i := 0) (vs := [.pointer _]) (L' := [.pointer _, .int .i64 _, .pointer _, .int .i64 _]) ty77 rfl rfl rfl rfl rfl rfl rfl rfl ?_
    refine W.nil (thn_n ?_)
    refine WC.seq ?_
    refine WC.drawW _ (((List.nil_sublist _).cons_cons _).cons _) mix (by rintro _ _ _ _ ⟨h | h, _⟩ <;> cases h) ?_
    refine WD.take 0 rfl rfl rfl (by kernel_rfl) (by kernel_rfl) (by kernel_rfl) (ok_mv) ?_
    refine WD.take 1 rfl rfl rfl (by kernel_rfl) (by kernel_rfl) (by kernel_rfl) (ok_mv) ?_
    refine WD.take 2 rfl rfl rfl (by kernel_rfl) (by kernel_rfl) (by kernel_rfl) (ok_nilP rfl) ?_
    refine WD.take 3 rfl rfl rfl (by kernel_rfl) (by kernel_rfl) (by kernel_rfl) (ok_fieldB fd79_3 rfl) ?_
    refine WD.take 5 rfl rfl rfl (by kernel_rfl) (by kernel_rfl) (by kernel_rfl) (ok_mv) ?_
    refine WD.any [4, 6] (by kernel_rfl) rfl ⟨⟨_, rfl, rfl, ?_⟩, ⟨_, rfl, rfl, ?_⟩, trivial⟩
    ·refine W.ok (ok_loadB (i := 0) (vs := [.int .i64 _]) ty3 rfl rfl rfl rfl (by simp)) ?_
     refine W.nil ⟨Le.rfl, ((List.nil_sublist _).cons_cons _).cons _, _, ((List.nil_sublist _).cons_cons _).cons _, List.Sublist.refl _, ?_⟩
     refine WD.any [6] (by kernel_rfl) rfl ⟨⟨_, rfl, rfl, ?_⟩, trivial⟩
     refine W.call (Mp := ((b_h, .cells (List.toArray [.pointer (some ⟨b_c, 0, none⟩), .int .i64 th, .pointer none, .int .i64 most]) 79 (0, 0)) :: ((b_c, .cells (List.toArray [.pointer vS, .pointer (some ⟨b_t, 0, none⟩), vM, .int .i64 wt, .int .i64 ch]) 76 (0, 0)) :: Ms18))) (Mr := []) (hholds0_fc (vw := none) hR20) rfl (((((List.Perm.refl _).cons _).trans (List.Perm.refl _)).cons _).trans (List.Perm.refl _)) ?_
     intro v27 G24 Ms26 hG24 q25
     refine match q25 with | ⟨hv_u23, vw_u23, Mt_u23, e_28, ht_u23⟩ => ?_
     subst e_28
     have hln_sa29 := hv_u23.len47
     have q32 := hv_u23.form
     refine match q32 with | ⟨sa29, sc30, e_31⟩ => ?_
     subst e_31
     refine W.perm (M' := ((b_h, .cells (List.toArray [.pointer (some ⟨b_c, 0, none⟩), .int .i64 th, .pointer vw_u23, .int .i64 most]) 79 (0, 0)) :: ((b_c, .cells (List.toArray [.pointer vS, .pointer (some ⟨b_t, 0, none⟩), vM, .int .i64 wt, .int .i64 ch]) 76 (0, 0)) :: (Mt_u23 ++ [])))) (((((List.Perm.refl _).cons _).trans (List.Perm.refl _)).cons _).trans (List.Perm.refl _)).symm ?_
     refine W.nil ⟨hG24, ((List.nil_sublist _).cons_cons _).cons _, _, ((List.nil_sublist _).cons_cons _).cons _, List.Sublist.refl _, ?_⟩
     refine WD.take 7 rfl rfl rfl (by kernel_rfl) (by kernel_rfl) (by kernel_rfl) (ok_len sl58 hv_u23 rfl) ?_
     refine WD.take 8 rfl rfl rfl (by kernel_rfl) (by kernel_rfl) (by kernel_rfl) (Ok.to9 (v' := .int .i64 (hmost ((ltakeN Lw th s 2).2) th most)) (ok_maxi rfl rfl) rfl) ?_
     refine WD.take 9 rfl rfl rfl (by kernel_rfl) (by kernel_rfl) (by kernel_rfl) (ok_nilP rfl) ?_
     refine WD.take 10 rfl rfl rfl (by kernel_rfl) (by kernel_rfl) (by kernel_rfl) (ok_fieldB fd79_3 rfl) ?_
     refine WD.any [11] (by kernel_rfl) rfl ⟨⟨_, rfl, rfl, ?_⟩, trivial⟩
     refine W.store (i := 0) (vs := [.int .i64 _]) (L' := [_, .int .i64 _, _, .int .i64 _]) ty3 rfl rfl rfl rfl rfl rfl rfl rfl ?_
     refine W.nil ⟨Le.rfl, ((List.nil_sublist _).cons_cons _).cons _, _, ((List.nil_sublist _).cons_cons _).cons _, List.Sublist.refl _, ?_⟩
     refine WD.done (by kernel_rfl) (thn_n ?_)
     refine WC.seq ?_
     refine WC.region ?_
     refine W.as ?_
     refine W.nil (thn_n ?_)
     refine WC.ret ?_
     refine ⟨.inr rfl, [_], ⟨rfl, trivial⟩, ((b_h, .cells (List.toArray [.pointer (some ⟨b_c, 0, none⟩), .int .i64 th, .pointer vw_u23, .int .i64 (hmost ((ltakeN Lw th s 2).2) th most)]) 79 (0, 0)) :: ((b_c, .cells (List.toArray [.pointer vS, .pointer (some ⟨b_t, 0, none⟩), vM, .int .i64 wt, .int .i64 ch]) 76 (0, 0)) :: Mt_u23)), ((List.sublist_append_left _ _).cons_cons _).cons_cons _, ?_⟩
     have hno9 : ¬ (lhasN Lw th s = true ∧ (wr = false ∨ ltoN Lw th s = true)) := by
       intro h9
       first | exact absurd h29 (by rw [h9.1]; decide) | (rcases h9.2 with h8 | h8; exact absurd (ha_wr.symm.trans h8) (by decide); exact absurd h34 (by rw [h8]; decide))
     have hE9 := htake_f (s := s) (wr := wr) hno9
     rw [if_pos ha_wr] at hE9
     rw [decide_eq_true p61] at hE9
     exact ⟨(congrArg (fun p : Bool × Lat => Value.bool p.1) hE9).symm, HcR.cast (by rw [hE9]; rfl) (by rw [hE9]) ⟨_, _, rfl, ht_u23⟩⟩
    ·refine W.call (Mp := ((b_h, .cells (List.toArray [.pointer (some ⟨b_c, 0, none⟩), .int .i64 th, .pointer none, .int .i64 most]) 79 (0, 0)) :: ((b_c, .cells (List.toArray [.pointer vS, .pointer (some ⟨b_t, 0, none⟩), vM, .int .i64 wt, .int .i64 ch]) 76 (0, 0)) :: Ms18))) (Mr := []) (hholds0_fc (vw := none) hR20) rfl (((((List.Perm.refl _).cons _).trans (List.Perm.refl _)).cons _).trans (List.Perm.refl _)) ?_
     intro v37 G34 Ms36 hG34 q35
     refine match q35 with | ⟨hv_u33, vw_u33, Mt_u33, e_38, ht_u33⟩ => ?_
     subst e_38
     have hln_sa39 := hv_u33.len47
     have q42 := hv_u33.form
     refine match q42 with | ⟨sa39, sc40, e_41⟩ => ?_
     subst e_41
     refine W.perm (M' := ((b_h, .cells (List.toArray [.pointer (some ⟨b_c, 0, none⟩), .int .i64 th, .pointer vw_u33, .int .i64 most]) 79 (0, 0)) :: ((b_c, .cells (List.toArray [.pointer vS, .pointer (some ⟨b_t, 0, none⟩), vM, .int .i64 wt, .int .i64 ch]) 76 (0, 0)) :: (Mt_u33 ++ [])))) (((((List.Perm.refl _).cons _).trans (List.Perm.refl _)).cons _).trans (List.Perm.refl _)).symm ?_
     refine W.nil ⟨hG34, ((List.nil_sublist _).cons_cons _).cons _, _, ((List.nil_sublist _).cons_cons _).cons _, List.Sublist.refl _, ?_⟩
     refine WD.take 7 rfl rfl rfl (by kernel_rfl) (by kernel_rfl) (by kernel_rfl) (ok_len sl58 hv_u33 rfl) ?_
     refine WD.any [4] (by kernel_rfl) rfl ⟨⟨_, rfl, rfl, ?_⟩, trivial⟩
     refine W.ok (ok_loadB (i := 0) (vs := [.int .i64 _]) ty3 rfl rfl rfl rfl (by simp)) ?_
     refine W.nil ⟨Le.rfl, ((List.nil_sublist _).cons_cons _).cons _, _, ((List.nil_sublist _).cons_cons _).cons _, List.Sublist.refl _, ?_⟩
     refine WD.take 8 rfl rfl rfl (by kernel_rfl) (by kernel_rfl) (by kernel_rfl) (Ok.to9 (v' := .int .i64 (hmost ((ltakeN Lw th s 2).2) th most)) (ok_maxi rfl rfl) rfl) ?_
     refine WD.take 9 rfl rfl rfl (by kernel_rfl) (by kernel_rfl) (by kernel_rfl) (ok_nilP rfl) ?_
     refine WD.take 10 rfl rfl rfl (by kernel_rfl) (by kernel_rfl) (by kernel_rfl) (ok_fieldB fd79_3 rfl) ?_
     refine WD.any [11] (by kernel_rfl) rfl ⟨⟨_, rfl, rfl, ?_⟩, trivial⟩
     refine W.store (i := 0) (vs := [.int .i64 _]) (L' := [_, .int .i64 _, _, .int .i64 _]) ty3 rfl rfl rfl rfl rfl rfl rfl rfl ?_
     refine W.nil ⟨Le.rfl, ((List.nil_sublist _).cons_cons _).cons _, _, ((List.nil_sublist _).cons_cons _).cons _, List.Sublist.refl _, ?_⟩
     refine WD.done (by kernel_rfl) (thn_n ?_)
     refine WC.seq ?_
     refine WC.region ?_
     refine W.as ?_
     refine W.nil (thn_n ?_)
     refine WC.ret ?_
     refine ⟨.inr rfl, [_], ⟨rfl, trivial⟩, ((b_h, .cells (List.toArray [.pointer (some ⟨b_c, 0, none⟩), .int .i64 th, .pointer vw_u33, .int .i64 (hmost ((ltakeN Lw th s 2).2) th most)]) 79 (0, 0)) :: ((b_c, .cells (List.toArray [.pointer vS, .pointer (some ⟨b_t, 0, none⟩), vM, .int .i64 wt, .int .i64 ch]) 76 (0, 0)) :: Mt_u33)), ((List.sublist_append_left _ _).cons_cons _).cons_cons _, ?_⟩
     have hno9 : ¬ (lhasN Lw th s = true ∧ (wr = false ∨ ltoN Lw th s = true)) := by
       intro h9
       first | exact absurd h29 (by rw [h9.1]; decide) | (rcases h9.2 with h8 | h8; exact absurd (ha_wr.symm.trans h8) (by decide); exact absurd h34 (by rw [h8]; decide))
     have hE9 := htake_f (s := s) (wr := wr) hno9
     rw [if_pos ha_wr] at hE9
     rw [decide_eq_true p61] at hE9
     exact ⟨(congrArg (fun p : Bool × Lat => Value.bool p.1) hE9).symm, HcR.cast (by rw [hE9]; rfl) (by rw [hE9]) ⟨_, _, rfl, ht_u33⟩⟩
  ·refine WC.skip (thn_n ?_)
   refine WC.seq ?_
   refine WC.region ?_
   refine W.mv ?_
   refine W.mv ?_
   refine W.ok (ok_nilP rfl) ?_
   refine W.ok (ok_fieldB fd79_1 rfl) ?_
   refine W.ok (ok_loadB (i := 0) (vs := [.int .i64 _]) ty3 rfl rfl rfl rfl (by simp)) ?_
   refine W.mv ?_
   refine W.callV (g := 34) (fst := [.pointer (some ⟨b_t, 0, none⟩)]) (caps := []) (Mp := Ms12) rfl (lread_fc hR14 th s hth) rfl (pmC (pmC (List.Perm.refl _))) ?_
   intro v46 G43 Ms45 hG43 q44
   refine match q44 with | ⟨e_48, hR47⟩ => ?_
   subst e_48
   refine W.perm (pmC (pmC (List.Perm.refl _))).symm ?_
   refine W.ok (ok_neq rfl rfl) ?_
   refine W.nil (thn_n ?_)
   refine WC.cond (b := _) rfl (fun h61 => ?_) (fun h61 => ?_)
   ·have p61 := nd_t h61
    refine WC.seq ?_
    refine WC.region ?_
    refine W.mv ?_
    refine W.mv ?_
    refine W.ok (ok_nilP rfl) ?_
    refine W.ok (ok_fieldB fd79_1 rfl) ?_
    refine W.ok (ok_loadB (i := 0) (vs := [.int .i64 _]) ty3 rfl rfl rfl rfl (by simp)) ?_
    refine W.mv ?_
    refine W.mv ?_
    refine W.ok (ok_build (L := [.int .i64 _, .int .i64 _, .bool _]) pl84 zr84 rfl rfl rfl) ?_
    refine W.box (L := [.int .i64 _, .int .i64 _, .bool _]) rfl rfl (fun b49 => ?_)
    refine W.ok (ok_nilP rfl) ?_
    refine W.ok (ok_fieldB fd79_2 rfl) ?_
    refine W.store (i := 1) (vs := [.pointer _]) (L' := [.pointer _, .int .i64 _, .pointer _, .int .i64 _]) ty77 rfl rfl rfl rfl rfl rfl rfl rfl ?_
    refine W.nil (thn_n ?_)
    refine WC.seq ?_
    refine WC.region ?_
    refine W.as ?_
    refine W.nil (thn_n ?_)
    refine WC.sub (M' := ((b_h, .cells (List.toArray [.pointer (some ⟨b_c, 0, none⟩), .int .i64 th, .pointer (some ⟨b49, 0, none⟩), .int .i64 most]) 79 (0, 0)) :: ((b_c, .cells (List.toArray [.pointer vS, .pointer (some ⟨b_t, 0, none⟩), vM, .int .i64 wt, .int .i64 ch]) 76 (0, 0)) :: (Ms45 ++ [])))) ((((List.Sublist.append_left (List.Sublist.refl _) _).cons_cons _).cons_cons _).cons _) ?_
    refine WC.ret (thn_r ?_)
    refine ⟨.inr rfl, [_], ⟨rfl, trivial⟩, ((b_h, .cells (List.toArray [.pointer (some ⟨b_c, 0, none⟩), .int .i64 th, .pointer (some ⟨b49, 0, none⟩), .int .i64 most]) 79 (0, 0)) :: ((b_c, .cells (List.toArray [.pointer vS, .pointer (some ⟨b_t, 0, none⟩), vM, .int .i64 wt, .int .i64 ch]) 76 (0, 0)) :: Ms45)), ((List.sublist_append_left _ _).cons_cons _).cons_cons _, ?_⟩
    have hno9 : ¬ (lhasN Lw th s = true ∧ (wr = false ∨ ltoN Lw th s = true)) := by
      intro h9
      first | exact absurd h29 (by rw [h9.1]; decide) | (rcases h9.2 with h8 | h8; exact absurd (ha_wr.symm.trans h8) (by decide); exact absurd h34 (by rw [h8]; decide))
    have hE9 := htake_f (s := s) (wr := wr) hno9
    rw [if_neg (by rw [ha_wr]; decide)] at hE9
    rw [decide_eq_false p61] at hE9
    exact ⟨(congrArg (fun p : Bool × Lat => Value.bool p.1) hE9).symm, HcR.cast (by rw [hE9]; rfl) (by rw [hE9]) ⟨_, _, rfl, hR47⟩⟩
   ·have p61 := nd_f h61
    refine WC.skip (thn_n ?_)
    refine WC.seq ?_
    refine WC.region ?_
    refine W.mv ?_
    refine W.ok (ok_nilP rfl) ?_
    refine W.ok (ok_fieldB fd79_2 rfl) ?_
    refine W.store (i := 0) (vs := [.pointer _]) (L' := [.pointer _, .int .i64 _, .pointer _, .int .i64 _]) ty77 rfl rfl rfl rfl rfl rfl rfl rfl ?_
    refine W.nil (thn_n ?_)
    refine WC.seq ?_
    refine WC.drawW _ (((List.nil_sublist _).cons_cons _).cons _) mix (by rintro _ _ _ _ ⟨h | h, _⟩ <;> cases h) ?_
    refine WD.take 0 rfl rfl rfl (by kernel_rfl) (by kernel_rfl) (by kernel_rfl) (ok_mv) ?_
    refine WD.take 1 rfl rfl rfl (by kernel_rfl) (by kernel_rfl) (by kernel_rfl) (ok_mv) ?_
    refine WD.take 2 rfl rfl rfl (by kernel_rfl) (by kernel_rfl) (by kernel_rfl) (ok_nilP rfl) ?_
    refine WD.take 3 rfl rfl rfl (by kernel_rfl) (by kernel_rfl) (by kernel_rfl) (ok_fieldB fd79_3 rfl) ?_
    refine WD.take 5 rfl rfl rfl (by kernel_rfl) (by kernel_rfl) (by kernel_rfl) (ok_mv) ?_
    refine WD.any [4, 6] (by kernel_rfl) rfl ⟨⟨_, rfl, rfl, ?_⟩, ⟨_, rfl, rfl, ?_⟩, trivial⟩
    ·refine W.ok (ok_loadB (i := 0) (vs := [.int .i64 _]) ty3 rfl rfl rfl rfl (by simp)) ?_
     refine W.nil ⟨Le.rfl, ((List.nil_sublist _).cons_cons _).cons _, _, ((List.nil_sublist _).cons_cons _).cons _, List.Sublist.refl _, ?_⟩
     refine WD.any [6] (by kernel_rfl) rfl ⟨⟨_, rfl, rfl, ?_⟩, trivial⟩
     refine W.call (Mp := ((b_h, .cells (List.toArray [.pointer (some ⟨b_c, 0, none⟩), .int .i64 th, .pointer none, .int .i64 most]) 79 (0, 0)) :: ((b_c, .cells (List.toArray [.pointer vS, .pointer (some ⟨b_t, 0, none⟩), vM, .int .i64 wt, .int .i64 ch]) 76 (0, 0)) :: Ms45))) (Mr := []) (hholds0_fc (vw := none) hR47) rfl (((((List.Perm.refl _).cons _).trans (List.Perm.refl _)).cons _).trans (List.Perm.refl _)) ?_
     intro v54 G51 Ms53 hG51 q52
     refine match q52 with | ⟨hv_u50, vw_u50, Mt_u50, e_55, ht_u50⟩ => ?_
     subst e_55
     have hln_sa56 := hv_u50.len47
     have q59 := hv_u50.form
     refine match q59 with | ⟨sa56, sc57, e_58⟩ => ?_
     subst e_58
     refine W.perm (M' := ((b_h, .cells (List.toArray [.pointer (some ⟨b_c, 0, none⟩), .int .i64 th, .pointer vw_u50, .int .i64 most]) 79 (0, 0)) :: ((b_c, .cells (List.toArray [.pointer vS, .pointer (some ⟨b_t, 0, none⟩), vM, .int .i64 wt, .int .i64 ch]) 76 (0, 0)) :: (Mt_u50 ++ [])))) (((((List.Perm.refl _).cons _).trans (List.Perm.refl _)).cons _).trans (List.Perm.refl _)).symm ?_
     refine W.nil ⟨hG51, ((List.nil_sublist _).cons_cons _).cons _, _, ((List.nil_sublist _).cons_cons _).cons _, List.Sublist.refl _, ?_⟩
     refine WD.take 7 rfl rfl rfl (by kernel_rfl) (by kernel_rfl) (by kernel_rfl) (ok_len sl58 hv_u50 rfl) ?_
     refine WD.take 8 rfl rfl rfl (by kernel_rfl) (by kernel_rfl) (by kernel_rfl) (Ok.to9 (v' := .int .i64 (hmost ((ltakeN Lw th s 1).2) th most)) (ok_maxi rfl rfl) rfl) ?_
     refine WD.take 9 rfl rfl rfl (by kernel_rfl) (by kernel_rfl) (by kernel_rfl) (ok_nilP rfl) ?_
     refine WD.take 10 rfl rfl rfl (by kernel_rfl) (by kernel_rfl) (by kernel_rfl) (ok_fieldB fd79_3 rfl) ?_
     refine WD.any [11] (by kernel_rfl) rfl ⟨⟨_, rfl, rfl, ?_⟩, trivial⟩
     refine W.store (i := 0) (vs := [.int .i64 _]) (L' := [_, .int .i64 _, _, .int .i64 _]) ty3 rfl rfl rfl rfl rfl rfl rfl rfl ?_
     refine W.nil ⟨Le.rfl, ((List.nil_sublist _).cons_cons _).cons _, _, ((List.nil_sublist _).cons_cons _).cons _, List.Sublist.refl _, ?_⟩
     refine WD.done (by kernel_rfl) (thn_n ?_)
     refine WC.seq ?_
     refine WC.region ?_
     refine W.as ?_
     refine W.nil (thn_n ?_)
     refine WC.ret ?_
     refine ⟨.inr rfl, [_], ⟨rfl, trivial⟩, ((b_h, .cells (List.toArray [.pointer (some ⟨b_c, 0, none⟩), .int .i64 th, .pointer vw_u50, .int .i64 (hmost ((ltakeN Lw th s 1).2) th most)]) 79 (0, 0)) :: ((b_c, .cells (List.toArray [.pointer vS, .pointer (some ⟨b_t, 0, none⟩), vM, .int .i64 wt, .int .i64 ch]) 76 (0, 0)) :: Mt_u50)), ((List.sublist_append_left _ _).cons_cons _).cons_cons _, ?_⟩
     have hno9 : ¬ (lhasN Lw th s = true ∧ (wr = false ∨ ltoN Lw th s = true)) := by
       intro h9
       first | exact absurd h29 (by rw [h9.1]; decide) | (rcases h9.2 with h8 | h8; exact absurd (ha_wr.symm.trans h8) (by decide); exact absurd h34 (by rw [h8]; decide))
     have hE9 := htake_f (s := s) (wr := wr) hno9
     rw [if_neg (by rw [ha_wr]; decide)] at hE9
     rw [decide_eq_true p61] at hE9
     exact ⟨(congrArg (fun p : Bool × Lat => Value.bool p.1) hE9).symm, HcR.cast (by rw [hE9]; rfl) (by rw [hE9]) ⟨_, _, rfl, ht_u50⟩⟩
    ·refine W.call (Mp := ((b_h, .cells (List.toArray [.pointer (some ⟨b_c, 0, none⟩), .int .i64 th, .pointer none, .int .i64 most]) 79 (0, 0)) :: ((b_c, .cells (List.toArray [.pointer vS, .pointer (some ⟨b_t, 0, none⟩), vM, .int .i64 wt, .int .i64 ch]) 76 (0, 0)) :: Ms45))) (Mr := []) (hholds0_fc (vw := none) hR47) rfl (((((List.Perm.refl _).cons _).trans (List.Perm.refl _)).cons _).trans (List.Perm.refl _)) ?_
     intro v64 G61 Ms63 hG61 q62
     refine match q62 with | ⟨hv_u60, vw_u60, Mt_u60, e_65, ht_u60⟩ => ?_
     subst e_65
     have hln_sa66 := hv_u60.len47
     have q69 := hv_u60.form
     refine match q69 with | ⟨sa66, sc67, e_68⟩ => ?_
     subst e_68
     refine W.perm (M' := ((b_h, .cells (List.toArray [.pointer (some ⟨b_c, 0, none⟩), .int .i64 th, .pointer vw_u60, .int .i64 most]) 79 (0, 0)) :: ((b_c, .cells (List.toArray [.pointer vS, .pointer (some ⟨b_t, 0, none⟩), vM, .int .i64 wt, .int .i64 ch]) 76 (0, 0)) :: (Mt_u60 ++ [])))) (((((List.Perm.refl _).cons _).trans (List.Perm.refl _)).cons _).trans (List.Perm.refl _)).symm ?_
     refine W.nil ⟨hG61, ((List.nil_sublist _).cons_cons _).cons _, _, ((List.nil_sublist _).cons_cons _).cons _, List.Sublist.refl _, ?_⟩
     refine WD.take 7 rfl rfl rfl (by kernel_rfl) (by kernel_rfl) (by kernel_rfl) (ok_len sl58 hv_u60 rfl) ?_
     refine WD.any [4] (by kernel_rfl) rfl ⟨⟨_, rfl, rfl, ?_⟩, trivial⟩
     refine W.ok (ok_loadB (i := 0) (vs := [.int .i64 _]) ty3 rfl rfl rfl rfl (by simp)) ?_
     refine W.nil ⟨Le.rfl, ((List.nil_sublist _).cons_cons _).cons _, _, ((List.nil_sublist _).cons_cons _).cons _, List.Sublist.refl _, ?_⟩
     refine WD.take 8 rfl rfl rfl (by kernel_rfl) (by kernel_rfl) (by kernel_rfl) (Ok.to9 (v' := .int .i64 (hmost ((ltakeN Lw th s 1).2) th most)) (ok_maxi rfl rfl) rfl) ?_
     refine WD.take 9 rfl rfl rfl (by kernel_rfl) (by kernel_rfl) (by kernel_rfl) (ok_nilP rfl) ?_
     refine WD.take 10 rfl rfl rfl (by kernel_rfl) (by kernel_rfl) (by kernel_rfl) (ok_fieldB fd79_3 rfl) ?_
     refine WD.any [11] (by kernel_rfl) rfl ⟨⟨_, rfl, rfl, ?_⟩, trivial⟩
     refine W.store (i := 0) (vs := [.int .i64 _]) (L' := [_, .int .i64 _, _, .int .i64 _]) ty3 rfl rfl rfl rfl rfl rfl rfl rfl ?_
     refine W.nil ⟨Le.rfl, ((List.nil_sublist _).cons_cons _).cons _, _, ((List.nil_sublist _).cons_cons _).cons _, List.Sublist.refl _, ?_⟩
     refine WD.done (by kernel_rfl) (thn_n ?_)
     refine WC.seq ?_
     refine WC.region ?_
     refine W.as ?_
     refine W.nil (thn_n ?_)
     refine WC.ret ?_
     refine ⟨.inr rfl, [_], ⟨rfl, trivial⟩, ((b_h, .cells (List.toArray [.pointer (some ⟨b_c, 0, none⟩), .int .i64 th, .pointer vw_u60, .int .i64 (hmost ((ltakeN Lw th s 1).2) th most)]) 79 (0, 0)) :: ((b_c, .cells (List.toArray [.pointer vS, .pointer (some ⟨b_t, 0, none⟩), vM, .int .i64 wt, .int .i64 ch]) 76 (0, 0)) :: Mt_u60)), ((List.sublist_append_left _ _).cons_cons _).cons_cons _, ?_⟩
     have hno9 : ¬ (lhasN Lw th s = true ∧ (wr = false ∨ ltoN Lw th s = true)) := by
       intro h9
       first | exact absurd h29 (by rw [h9.1]; decide) | (rcases h9.2 with h8 | h8; exact absurd (ha_wr.symm.trans h8) (by decide); exact absurd h34 (by rw [h8]; decide))
     have hE9 := htake_f (s := s) (wr := wr) hno9
     rw [if_neg (by rw [ha_wr]; decide)] at hE9
     rw [decide_eq_true p61] at hE9
     exact ⟨(congrArg (fun p : Bool × Lat => Value.bool p.1) hE9).symm, HcR.cast (by rw [hE9]; rfl) (by rw [hE9]) ⟨_, _, rfl, ht_u60⟩⟩
 ·refine W.yes (dj := 30) rfl rfl h29 ?_
  refine W.mv ?_
  refine W.yes (dj := 30) rfl rfl h29 ?_
  refine W.mv ?_
  refine W.sp 32 rfl (fun ha_wr => ?_) (fun ha_wr => ?_)
  ·refine W.yes (dj := 32) rfl rfl ha_wr ?_
   refine W.mv ?_
   refine W.yes (dj := 32) rfl rfl ha_wr ?_
   refine W.ok (ok_not rfl) ?_
   refine W.yes (dj := 30) rfl rfl h29 ?_
   refine W.ok (ok_pick_t rfl ha_wr) ?_
   refine W.ok (ok_pick_f rfl h29) ?_
   refine W.nil (thn_n ?_)
   refine WC.cond (b := _) rfl (fun h34 => ?_) (fun h34 => ?_)
   ·refine WC.seq ?_
    refine WC.region ?_
    refine W.mv ?_
    refine W.ok (ok_nilP rfl) ?_
    refine W.ok (ok_fieldB fd79_0 rfl) ?_
    refine W.ok (ok_loadB (i := 0) (vs := [.pointer _]) ty27 rfl rfl rfl rfl (by simp)) ?_
    refine W.ok (ok_nilP rfl) ?_
    refine W.ok (ok_fieldB fd76_1 rfl) ?_
    refine W.ok (ok_loadB (i := 1) (vs := [.pointer _]) ty73 rfl rfl rfl rfl (by simp)) ?_
    refine W.ok (ok_makeFn (fst := [.tmp 43]) (caps := []) (vs := [.pointer (some ⟨b_t, 0, none⟩)]) (ws := []) rfl rfl) ?_
    refine W.as ?_
    refine W.nil (thn_n ?_)
    refine WC.seq ?_
    refine WC.seq ?_
    refine WC.region ?_
    refine W.mv ?_
    refine W.nil (thn_n ?_)
    refine WC.cond_t rfl ha_wr ?_
    refine WC.region ?_
    refine W.mv ?_
    refine W.ok (ok_nilP rfl) ?_
    refine W.ok (ok_fieldB fd79_0 rfl) ?_
    refine W.ok (ok_loadB (i := 0) (vs := [.pointer _]) ty27 rfl rfl rfl rfl (by simp)) ?_
    refine W.ok (ok_nilP rfl) ?_
    refine W.ok (ok_fieldB fd76_1 rfl) ?_
    refine W.ok (ok_loadB (i := 1) (vs := [.pointer _]) ty73 rfl rfl rfl rfl (by simp)) ?_
    refine W.ok (ok_makeFn (fst := [.tmp 52]) (caps := []) (vs := [.pointer (some ⟨b_t, 0, none⟩)]) (ws := []) rfl rfl) ?_
    refine W.as ?_
    refine W.nil (thn_n ?_)
    refine WC.seq ?_
    refine WC.region ?_
    refine W.mv ?_
    refine W.mv ?_
    refine W.ok (ok_nilP rfl) ?_
    refine W.ok (ok_fieldB fd79_1 rfl) ?_
    refine W.ok (ok_loadB (i := 0) (vs := [.int .i64 _]) ty3 rfl rfl rfl rfl (by simp)) ?_
    refine W.mv ?_
    refine W.callV (g := 35) (fst := [.pointer (some ⟨b_t, 0, none⟩)]) (caps := []) (Mp := Ms12) rfl (lwrite_fc hR14 th s hth) rfl (pmC (pmC (List.Perm.refl _))) ?_
    intro v73 G70 Ms72 hG70 q71
    refine match q71 with | ⟨e_75, hR74⟩ => ?_
    subst e_75
    refine W.perm (pmC (pmC (List.Perm.refl _))).symm ?_
    refine W.ok (ok_neq rfl rfl) ?_
    refine W.nil (thn_n ?_)
    refine WC.cond (b := _) rfl (fun h61 => ?_) (fun h61 => ?_)
    ·have p61 := nd_t h61
     refine WC.seq ?_
     refine WC.region ?_
     refine W.mv ?_
     refine W.mv ?_
     refine W.ok (ok_nilP rfl) ?_
     refine W.ok (ok_fieldB fd79_1 rfl) ?_
     refine W.ok (ok_loadB (i := 0) (vs := [.int .i64 _]) ty3 rfl rfl rfl rfl (by simp)) ?_
     refine W.mv ?_
     refine W.mv ?_
     refine W.ok (ok_build (L := [.int .i64 _, .int .i64 _, .bool _]) pl84 zr84 rfl rfl rfl) ?_
     refine W.box (L := [.int .i64 _, .int .i64 _, .bool _]) rfl rfl (fun b76 => ?_)
     refine W.ok (ok_nilP rfl) ?_
     refine W.ok (ok_fieldB fd79_2 rfl) ?_
     refine W.store (i := 1) (vs := [.pointer _]) (L' := [.pointer _, .int .i64 _, .pointer _, .int .i64 _]) ty77 rfl rfl rfl rfl rfl rfl rfl rfl ?_
     refine W.nil (thn_n ?_)
     refine WC.seq ?_
     refine WC.region ?_
     refine W.as ?_
     refine W.nil (thn_n ?_)
     refine WC.sub (M' := ((b_h, .cells (List.toArray [.pointer (some ⟨b_c, 0, none⟩), .int .i64 th, .pointer (some ⟨b76, 0, none⟩), .int .i64 most]) 79 (0, 0)) :: ((b_c, .cells (List.toArray [.pointer vS, .pointer (some ⟨b_t, 0, none⟩), vM, .int .i64 wt, .int .i64 ch]) 76 (0, 0)) :: (Ms72 ++ [])))) ((((List.Sublist.append_left (List.Sublist.refl _) _).cons_cons _).cons_cons _).cons _) ?_
     refine WC.ret (thn_r ?_)
     refine ⟨.inr rfl, [_], ⟨rfl, trivial⟩, ((b_h, .cells (List.toArray [.pointer (some ⟨b_c, 0, none⟩), .int .i64 th, .pointer (some ⟨b76, 0, none⟩), .int .i64 most]) 79 (0, 0)) :: ((b_c, .cells (List.toArray [.pointer vS, .pointer (some ⟨b_t, 0, none⟩), vM, .int .i64 wt, .int .i64 ch]) 76 (0, 0)) :: Ms72)), ((List.sublist_append_left _ _).cons_cons _).cons_cons _, ?_⟩
     have hno9 : ¬ (lhasN Lw th s = true ∧ (wr = false ∨ ltoN Lw th s = true)) := by
       intro h9
       first | exact absurd h29 (by rw [h9.1]; decide) | (rcases h9.2 with h8 | h8; exact absurd (ha_wr.symm.trans h8) (by decide); exact absurd h34 (by rw [h8]; decide))
     have hE9 := htake_f (s := s) (wr := wr) hno9
     rw [if_pos ha_wr] at hE9
     rw [decide_eq_false p61] at hE9
     exact ⟨(congrArg (fun p : Bool × Lat => Value.bool p.1) hE9).symm, HcR.cast (by rw [hE9]; rfl) (by rw [hE9]) ⟨_, _, rfl, hR74⟩⟩
    ·have p61 := nd_f h61
     refine WC.skip (thn_n ?_)
     refine WC.seq ?_
     refine WC.region ?_
     refine W.mv ?_
     refine W.ok (ok_nilP rfl) ?_
     refine W.ok (ok_fieldB fd79_2 rfl) ?_
     refine W.store (i := 0) (vs := [.pointer _]) (L' := [.pointer _, .int .i64 _, .pointer _, .int .i64 _]) ty77 rfl rfl rfl rfl rfl rfl rfl rfl ?_
     refine W.nil (thn_n ?_)
     refine WC.seq ?_
     refine WC.drawW _ (((List.nil_sublist _).cons_cons _).cons _) mix (by rintro _ _ _ _ ⟨h | h, _⟩ <;> cases h) ?_
     refine WD.take 0 rfl rfl rfl (by kernel_rfl) (by kernel_rfl) (by kernel_rfl) (ok_mv) ?_
     refine WD.take 1 rfl rfl rfl (by kernel_rfl) (by kernel_rfl) (by kernel_rfl) (ok_mv) ?_
     refine WD.take 2 rfl rfl rfl (by kernel_rfl) (by kernel_rfl) (by kernel_rfl) (ok_nilP rfl) ?_
     refine WD.take 3 rfl rfl rfl (by kernel_rfl) (by kernel_rfl) (by kernel_rfl) (ok_fieldB fd79_3 rfl) ?_
     refine WD.take 5 rfl rfl rfl (by kernel_rfl) (by kernel_rfl) (by kernel_rfl) (ok_mv) ?_
     refine WD.any [4, 6] (by kernel_rfl) rfl ⟨⟨_, rfl, rfl, ?_⟩, ⟨_, rfl, rfl, ?_⟩, trivial⟩
     ·refine W.ok (ok_loadB (i := 0) (vs := [.int .i64 _]) ty3 rfl rfl rfl rfl (by simp)) ?_
      refine W.nil ⟨Le.rfl, ((List.nil_sublist _).cons_cons _).cons _, _, ((List.nil_sublist _).cons_cons _).cons _, List.Sublist.refl _, ?_⟩
      refine WD.any [6] (by kernel_rfl) rfl ⟨⟨_, rfl, rfl, ?_⟩, trivial⟩
      refine W.call (Mp := ((b_h, .cells (List.toArray [.pointer (some ⟨b_c, 0, none⟩), .int .i64 th, .pointer none, .int .i64 most]) 79 (0, 0)) :: ((b_c, .cells (List.toArray [.pointer vS, .pointer (some ⟨b_t, 0, none⟩), vM, .int .i64 wt, .int .i64 ch]) 76 (0, 0)) :: Ms72))) (Mr := []) (hholds0_fc (vw := none) hR74) rfl (((((List.Perm.refl _).cons _).trans (List.Perm.refl _)).cons _).trans (List.Perm.refl _)) ?_
      intro v81 G78 Ms80 hG78 q79
      refine match q79 with | ⟨hv_u77, vw_u77, Mt_u77, e_82, ht_u77⟩ => ?_
      subst e_82
      have hln_sa83 := hv_u77.len47
      have q86 := hv_u77.form
      refine match q86 with | ⟨sa83, sc84, e_85⟩ => ?_
      subst e_85
      refine W.perm (M' := ((b_h, .cells (List.toArray [.pointer (some ⟨b_c, 0, none⟩), .int .i64 th, .pointer vw_u77, .int .i64 most]) 79 (0, 0)) :: ((b_c, .cells (List.toArray [.pointer vS, .pointer (some ⟨b_t, 0, none⟩), vM, .int .i64 wt, .int .i64 ch]) 76 (0, 0)) :: (Mt_u77 ++ [])))) (((((List.Perm.refl _).cons _).trans (List.Perm.refl _)).cons _).trans (List.Perm.refl _)).symm ?_
      refine W.nil ⟨hG78, ((List.nil_sublist _).cons_cons _).cons _, _, ((List.nil_sublist _).cons_cons _).cons _, List.Sublist.refl _, ?_⟩
      refine WD.take 7 rfl rfl rfl (by kernel_rfl) (by kernel_rfl) (by kernel_rfl) (ok_len sl58 hv_u77 rfl) ?_
      refine WD.take 8 rfl rfl rfl (by kernel_rfl) (by kernel_rfl) (by kernel_rfl) (Ok.to9 (v' := .int .i64 (hmost ((ltakeN Lw th s 2).2) th most)) (ok_maxi rfl rfl) rfl) ?_
      refine WD.take 9 rfl rfl rfl (by kernel_rfl) (by kernel_rfl) (by kernel_rfl) (ok_nilP rfl) ?_
      refine WD.take 10 rfl rfl rfl (by kernel_rfl) (by kernel_rfl) (by kernel_rfl) (ok_fieldB fd79_3 rfl) ?_
      refine WD.any [11] (by kernel_rfl) rfl ⟨⟨_, rfl, rfl, ?_⟩, trivial⟩
      refine W.store (i := 0) (vs := [.int .i64 _]) (L' := [_, .int .i64 _, _, .int .i64 _]) ty3 rfl rfl rfl rfl rfl rfl rfl rfl ?_
      refine W.nil ⟨Le.rfl, ((List.nil_sublist _).cons_cons _).cons _, _, ((List.nil_sublist _).cons_cons _).cons _, List.Sublist.refl _, ?_⟩
      refine WD.done (by kernel_rfl) (thn_n ?_)
      refine WC.seq ?_
      refine WC.region ?_
      refine W.as ?_
      refine W.nil (thn_n ?_)
      refine WC.ret ?_
      refine ⟨.inr rfl, [_], ⟨rfl, trivial⟩, ((b_h, .cells (List.toArray [.pointer (some ⟨b_c, 0, none⟩), .int .i64 th, .pointer vw_u77, .int .i64 (hmost ((ltakeN Lw th s 2).2) th most)]) 79 (0, 0)) :: ((b_c, .cells (List.toArray [.pointer vS, .pointer (some ⟨b_t, 0, none⟩), vM, .int .i64 wt, .int .i64 ch]) 76 (0, 0)) :: Mt_u77)), ((List.sublist_append_left _ _).cons_cons _).cons_cons _, ?_⟩
      have hno9 : ¬ (lhasN Lw th s = true ∧ (wr = false ∨ ltoN Lw th s = true)) := by
        intro h9
        first | exact absurd h29 (by rw [h9.1]; decide) | (rcases h9.2 with h8 | h8; exact absurd (ha_wr.symm.trans h8) (by decide); exact absurd h34 (by rw [h8]; decide))
      have hE9 := htake_f (s := s) (wr := wr) hno9
      rw [if_pos ha_wr] at hE9
      rw [decide_eq_true p61] at hE9
      exact ⟨(congrArg (fun p : Bool × Lat => Value.bool p.1) hE9).symm, HcR.cast (by rw [hE9]; rfl) (by rw [hE9]) ⟨_, _, rfl, ht_u77⟩⟩
     ·refine W.call (Mp := ((b_h, .cells (List.toArray [.pointer (some ⟨b_c, 0, none⟩), .int .i64 th, .pointer none, .int .i64 most]) 79 (0, 0)) :: ((b_c, .cells (List.toArray [.pointer vS, .pointer (some ⟨b_t, 0, none⟩), vM, .int .i64 wt, .int .i64 ch]) 76 (0, 0)) :: Ms72))) (Mr := []) (hholds0_fc (vw := none) hR74) rfl (((((List.Perm.refl _).cons _).trans (List.Perm.refl _)).cons _).trans (List.Perm.refl _)) ?_
      intro v91 G88 Ms90 hG88 q89
      refine match q89 with | ⟨hv_u87, vw_u87, Mt_u87, e_92, ht_u87⟩ => ?_
      subst e_92
      have hln_sa93 := hv_u87.len47
      have q96 := hv_u87.form
      refine match q96 with | ⟨sa93, sc94, e_95⟩ => ?_
      subst e_95
      refine W.perm (M' := ((b_h, .cells (List.toArray [.pointer (some ⟨b_c, 0, none⟩), .int .i64 th, .pointer vw_u87, .int .i64 most]) 79 (0, 0)) :: ((b_c, .cells (List.toArray [.pointer vS, .pointer (some ⟨b_t, 0, none⟩), vM, .int .i64 wt, .int .i64 ch]) 76 (0, 0)) :: (Mt_u87 ++ [])))) (((((List.Perm.refl _).cons _).trans (List.Perm.refl _)).cons _).trans (List.Perm.refl _)).symm ?_
      refine W.nil ⟨hG88, ((List.nil_sublist _).cons_cons _).cons _, _, ((List.nil_sublist _).cons_cons _).cons _, List.Sublist.refl _, ?_⟩
      refine WD.take 7 rfl rfl rfl (by kernel_rfl) (by kernel_rfl) (by kernel_rfl) (ok_len sl58 hv_u87 rfl) ?_
      refine WD.any [4] (by kernel_rfl) rfl ⟨⟨_, rfl, rfl, ?_⟩, trivial⟩
      refine W.ok (ok_loadB (i := 0) (vs := [.int .i64 _]) ty3 rfl rfl rfl rfl (by simp)) ?_
      refine W.nil ⟨Le.rfl, ((List.nil_sublist _).cons_cons _).cons _, _, ((List.nil_sublist _).cons_cons _).cons _, List.Sublist.refl _, ?_⟩
      refine WD.take 8 rfl rfl rfl (by kernel_rfl) (by kernel_rfl) (by kernel_rfl) (Ok.to9 (v' := .int .i64 (hmost ((ltakeN Lw th s 2).2) th most)) (ok_maxi rfl rfl) rfl) ?_
      refine WD.take 9 rfl rfl rfl (by kernel_rfl) (by kernel_rfl) (by kernel_rfl) (ok_nilP rfl) ?_
      refine WD.take 10 rfl rfl rfl (by kernel_rfl) (by kernel_rfl) (by kernel_rfl) (ok_fieldB fd79_3 rfl) ?_
      refine WD.any [11] (by kernel_rfl) rfl ⟨⟨_, rfl, rfl, ?_⟩, trivial⟩
      refine W.store (i := 0) (vs := [.int .i64 _]) (L' := [_, .int .i64 _, _, .int .i64 _]) ty3 rfl rfl rfl rfl rfl rfl rfl rfl ?_
      refine W.nil ⟨Le.rfl, ((List.nil_sublist _).cons_cons _).cons _, _, ((List.nil_sublist _).cons_cons _).cons _, List.Sublist.refl _, ?_⟩
      refine WD.done (by kernel_rfl) (thn_n ?_)
      refine WC.seq ?_
      refine WC.region ?_
      refine W.as ?_
      refine W.nil (thn_n ?_)
      refine WC.ret ?_
      refine ⟨.inr rfl, [_], ⟨rfl, trivial⟩, ((b_h, .cells (List.toArray [.pointer (some ⟨b_c, 0, none⟩), .int .i64 th, .pointer vw_u87, .int .i64 (hmost ((ltakeN Lw th s 2).2) th most)]) 79 (0, 0)) :: ((b_c, .cells (List.toArray [.pointer vS, .pointer (some ⟨b_t, 0, none⟩), vM, .int .i64 wt, .int .i64 ch]) 76 (0, 0)) :: Mt_u87)), ((List.sublist_append_left _ _).cons_cons _).cons_cons _, ?_⟩
      have hno9 : ¬ (lhasN Lw th s = true ∧ (wr = false ∨ ltoN Lw th s = true)) := by
        intro h9
        first | exact absurd h29 (by rw [h9.1]; decide) | (rcases h9.2 with h8 | h8; exact absurd (ha_wr.symm.trans h8) (by decide); exact absurd h34 (by rw [h8]; decide))
      have hE9 := htake_f (s := s) (wr := wr) hno9
      rw [if_pos ha_wr] at hE9
      rw [decide_eq_true p61] at hE9
      exact ⟨(congrArg (fun p : Bool × Lat => Value.bool p.1) hE9).symm, HcR.cast (by rw [hE9]; rfl) (by rw [hE9]) ⟨_, _, rfl, ht_u87⟩⟩
   ·refine WC.skip (thn_n ?_)
    refine WC.seq ?_
    refine WC.region ?_
    refine W.mv ?_
    refine W.ok (ok_nilP rfl) ?_
    refine W.ok (ok_fieldB fd79_2 rfl) ?_
    refine W.store (i := 0) (vs := [.pointer _]) (L' := [.pointer _, .int .i64 _, .pointer _, .int .i64 _]) ty77 rfl rfl rfl rfl rfl rfl rfl rfl ?_
    refine W.nil (thn_n ?_)
    refine WC.seq ?_
    refine WC.drawW _ (((List.nil_sublist _).cons_cons _).cons _) mix (by rintro _ _ _ _ ⟨h | h, _⟩ <;> cases h) ?_
    refine WD.take 0 rfl rfl rfl (by kernel_rfl) (by kernel_rfl) (by kernel_rfl) (ok_mv) ?_
    refine WD.take 1 rfl rfl rfl (by kernel_rfl) (by kernel_rfl) (by kernel_rfl) (ok_mv) ?_
    refine WD.take 2 rfl rfl rfl (by kernel_rfl) (by kernel_rfl) (by kernel_rfl) (ok_nilP rfl) ?_
    refine WD.take 3 rfl rfl rfl (by kernel_rfl) (by kernel_rfl) (by kernel_rfl) (ok_fieldB fd79_3 rfl) ?_
    refine WD.take 5 rfl rfl rfl (by kernel_rfl) (by kernel_rfl) (by kernel_rfl) (ok_mv) ?_
    refine WD.any [4, 6] (by kernel_rfl) rfl ⟨⟨_, rfl, rfl, ?_⟩, ⟨_, rfl, rfl, ?_⟩, trivial⟩
    ·refine W.ok (ok_loadB (i := 0) (vs := [.int .i64 _]) ty3 rfl rfl rfl rfl (by simp)) ?_
     refine W.nil ⟨Le.rfl, ((List.nil_sublist _).cons_cons _).cons _, _, ((List.nil_sublist _).cons_cons _).cons _, List.Sublist.refl _, ?_⟩
     refine WD.any [6] (by kernel_rfl) rfl ⟨⟨_, rfl, rfl, ?_⟩, trivial⟩
     refine W.call (Mp := ((b_h, .cells (List.toArray [.pointer (some ⟨b_c, 0, none⟩), .int .i64 th, .pointer none, .int .i64 most]) 79 (0, 0)) :: ((b_c, .cells (List.toArray [.pointer vS, .pointer (some ⟨b_t, 0, none⟩), vM, .int .i64 wt, .int .i64 ch]) 76 (0, 0)) :: Ms12))) (Mr := []) (hholds0_fc (vw := none) hR14) rfl (((((List.Perm.refl _).cons _).trans (List.Perm.refl _)).cons _).trans (List.Perm.refl _)) ?_
     intro v101 G98 Ms100 hG98 q99
     refine match q99 with | ⟨hv_u97, vw_u97, Mt_u97, e_102, ht_u97⟩ => ?_
     subst e_102
     have hln_sa103 := hv_u97.len47
     have q106 := hv_u97.form
     refine match q106 with | ⟨sa103, sc104, e_105⟩ => ?_
     subst e_105
     refine W.perm (M' := ((b_h, .cells (List.toArray [.pointer (some ⟨b_c, 0, none⟩), .int .i64 th, .pointer vw_u97, .int .i64 most]) 79 (0, 0)) :: ((b_c, .cells (List.toArray [.pointer vS, .pointer (some ⟨b_t, 0, none⟩), vM, .int .i64 wt, .int .i64 ch]) 76 (0, 0)) :: (Mt_u97 ++ [])))) (((((List.Perm.refl _).cons _).trans (List.Perm.refl _)).cons _).trans (List.Perm.refl _)).symm ?_
     refine W.nil ⟨hG98, ((List.nil_sublist _).cons_cons _).cons _, _, ((List.nil_sublist _).cons_cons _).cons _, List.Sublist.refl _, ?_⟩
     refine WD.take 7 rfl rfl rfl (by kernel_rfl) (by kernel_rfl) (by kernel_rfl) (ok_len sl58 hv_u97 rfl) ?_
     refine WD.take 8 rfl rfl rfl (by kernel_rfl) (by kernel_rfl) (by kernel_rfl) (Ok.to9 (v' := .int .i64 (hmost Lw th most)) (ok_maxi rfl rfl) rfl) ?_
     refine WD.take 9 rfl rfl rfl (by kernel_rfl) (by kernel_rfl) (by kernel_rfl) (ok_nilP rfl) ?_
     refine WD.take 10 rfl rfl rfl (by kernel_rfl) (by kernel_rfl) (by kernel_rfl) (ok_fieldB fd79_3 rfl) ?_
     refine WD.any [11] (by kernel_rfl) rfl ⟨⟨_, rfl, rfl, ?_⟩, trivial⟩
     refine W.store (i := 0) (vs := [.int .i64 _]) (L' := [_, .int .i64 _, _, .int .i64 _]) ty3 rfl rfl rfl rfl rfl rfl rfl rfl ?_
     refine W.nil ⟨Le.rfl, ((List.nil_sublist _).cons_cons _).cons _, _, ((List.nil_sublist _).cons_cons _).cons _, List.Sublist.refl _, ?_⟩
     refine WD.done (by kernel_rfl) (thn_n ?_)
     refine WC.seq ?_
     refine WC.region ?_
     refine W.as ?_
     refine W.nil (thn_n ?_)
     refine WC.ret ?_
     refine ⟨.inr rfl, [_], ⟨rfl, trivial⟩, ((b_h, .cells (List.toArray [.pointer (some ⟨b_c, 0, none⟩), .int .i64 th, .pointer vw_u97, .int .i64 (hmost Lw th most)]) 79 (0, 0)) :: ((b_c, .cells (List.toArray [.pointer vS, .pointer (some ⟨b_t, 0, none⟩), vM, .int .i64 wt, .int .i64 ch]) 76 (0, 0)) :: Mt_u97)), ((List.sublist_append_left _ _).cons_cons _).cons_cons _, ?_⟩
     have hhas9 : lhasN Lw th s = true := by simpa using h29
     have hwr9 : wr = false ∨ ltoN Lw th s = true := .inr (by simpa using h34)
     have hE9 := htake_t (s := s) (wr := wr) hhas9 hwr9
     exact ⟨(congrArg (fun p : Bool × Lat => Value.bool p.1) hE9).symm, HcR.cast (by rw [hE9]; rfl) (by rw [hE9]) ⟨_, _, rfl, ht_u97⟩⟩
    ·refine W.call (Mp := ((b_h, .cells (List.toArray [.pointer (some ⟨b_c, 0, none⟩), .int .i64 th, .pointer none, .int .i64 most]) 79 (0, 0)) :: ((b_c, .cells (List.toArray [.pointer vS, .pointer (some ⟨b_t, 0, none⟩), vM, .int .i64 wt, .int .i64 ch]) 76 (0, 0)) :: Ms12))) (Mr := []) (hholds0_fc (vw := none) hR14) rfl (((((List.Perm.refl _).cons _).trans (List.Perm.refl _)).cons _).trans (List.Perm.refl _)) ?_
     intro v111 G108 Ms110 hG108 q109
     refine match q109 with | ⟨hv_u107, vw_u107, Mt_u107, e_112, ht_u107⟩ => ?_
     subst e_112
     have hln_sa113 := hv_u107.len47
     have q116 := hv_u107.form
     refine match q116 with | ⟨sa113, sc114, e_115⟩ => ?_
     subst e_115
     refine W.perm (M' := ((b_h, .cells (List.toArray [.pointer (some ⟨b_c, 0, none⟩), .int .i64 th, .pointer vw_u107, .int .i64 most]) 79 (0, 0)) :: ((b_c, .cells (List.toArray [.pointer vS, .pointer (some ⟨b_t, 0, none⟩), vM, .int .i64 wt, .int .i64 ch]) 76 (0, 0)) :: (Mt_u107 ++ [])))) (((((List.Perm.refl _).cons _).trans (List.Perm.refl _)).cons _).trans (List.Perm.refl _)).symm ?_
     refine W.nil ⟨hG108, ((List.nil_sublist _).cons_cons _).cons _, _, ((List.nil_sublist _).cons_cons _).cons _, List.Sublist.refl _, ?_⟩
     refine WD.take 7 rfl rfl rfl (by kernel_rfl) (by kernel_rfl) (by kernel_rfl) (ok_len sl58 hv_u107 rfl) ?_
     refine WD.any [4] (by kernel_rfl) rfl ⟨⟨_, rfl, rfl, ?_⟩, trivial⟩
     refine W.ok (ok_loadB (i := 0) (vs := [.int .i64 _]) ty3 rfl rfl rfl rfl (by simp)) ?_
     refine W.nil ⟨Le.rfl, ((List.nil_sublist _).cons_cons _).cons _, _, ((List.nil_sublist _).cons_cons _).cons _, List.Sublist.refl _, ?_⟩
     refine WD.take 8 rfl rfl rfl (by kernel_rfl) (by kernel_rfl) (by kernel_rfl) (Ok.to9 (v' := .int .i64 (hmost Lw th most)) (ok_maxi rfl rfl) rfl) ?_
     refine WD.take 9 rfl rfl rfl (by kernel_rfl) (by kernel_rfl) (by kernel_rfl) (ok_nilP rfl) ?_
     refine WD.take 10 rfl rfl rfl (by kernel_rfl) (by kernel_rfl) (by kernel_rfl) (ok_fieldB fd79_3 rfl) ?_
     refine WD.any [11] (by kernel_rfl) rfl ⟨⟨_, rfl, rfl, ?_⟩, trivial⟩
     refine W.store (i := 0) (vs := [.int .i64 _]) (L' := [_, .int .i64 _, _, .int .i64 _]) ty3 rfl rfl rfl rfl rfl rfl rfl rfl ?_
     refine W.nil ⟨Le.rfl, ((List.nil_sublist _).cons_cons _).cons _, _, ((List.nil_sublist _).cons_cons _).cons _, List.Sublist.refl _, ?_⟩
     refine WD.done (by kernel_rfl) (thn_n ?_)
     refine WC.seq ?_
     refine WC.region ?_
     refine W.as ?_
     refine W.nil (thn_n ?_)
     refine WC.ret ?_
     refine ⟨.inr rfl, [_], ⟨rfl, trivial⟩, ((b_h, .cells (List.toArray [.pointer (some ⟨b_c, 0, none⟩), .int .i64 th, .pointer vw_u107, .int .i64 (hmost Lw th most)]) 79 (0, 0)) :: ((b_c, .cells (List.toArray [.pointer vS, .pointer (some ⟨b_t, 0, none⟩), vM, .int .i64 wt, .int .i64 ch]) 76 (0, 0)) :: Mt_u107)), ((List.sublist_append_left _ _).cons_cons _).cons_cons _, ?_⟩
     have hhas9 : lhasN Lw th s = true := by simpa using h29
     have hwr9 : wr = false ∨ ltoN Lw th s = true := .inr (by simpa using h34)
     have hE9 := htake_t (s := s) (wr := wr) hhas9 hwr9
     exact ⟨(congrArg (fun p : Bool × Lat => Value.bool p.1) hE9).symm, HcR.cast (by rw [hE9]; rfl) (by rw [hE9]) ⟨_, _, rfl, ht_u107⟩⟩
  ·refine W.no (dj := 32) rfl rfl ha_wr ?_
   refine W.no (dj := 32) rfl rfl ha_wr ?_
   refine W.yes (dj := 30) rfl rfl h29 ?_
   refine W.ok (ok_pick_f rfl ha_wr) ?_
   refine W.ok (ok_pick_f rfl h29) ?_
   refine W.nil (thn_n ?_)
   refine WC.cond_f rfl rfl ?_
   refine WC.skip (thn_n ?_)
   refine WC.seq ?_
   refine WC.region ?_
   refine W.mv ?_
   refine W.ok (ok_nilP rfl) ?_
   refine W.ok (ok_fieldB fd79_2 rfl) ?_
   refine W.store (i := 0) (vs := [.pointer _]) (L' := [.pointer _, .int .i64 _, .pointer _, .int .i64 _]) ty77 rfl rfl rfl rfl rfl rfl rfl rfl ?_
   refine W.nil (thn_n ?_)
   refine WC.seq ?_
   refine WC.drawW _ (((List.nil_sublist _).cons_cons _).cons _) mix (by rintro _ _ _ _ ⟨h | h, _⟩ <;> cases h) ?_
   refine WD.take 0 rfl rfl rfl (by kernel_rfl) (by kernel_rfl) (by kernel_rfl) (ok_mv) ?_
   refine WD.take 1 rfl rfl rfl (by kernel_rfl) (by kernel_rfl) (by kernel_rfl) (ok_mv) ?_
   refine WD.take 2 rfl rfl rfl (by kernel_rfl) (by kernel_rfl) (by kernel_rfl) (ok_nilP rfl) ?_
   refine WD.take 3 rfl rfl rfl (by kernel_rfl) (by kernel_rfl) (by kernel_rfl) (ok_fieldB fd79_3 rfl) ?_
   refine WD.take 5 rfl rfl rfl (by kernel_rfl) (by kernel_rfl) (by kernel_rfl) (ok_mv) ?_
   refine WD.any [4, 6] (by kernel_rfl) rfl ⟨⟨_, rfl, rfl, ?_⟩, ⟨_, rfl, rfl, ?_⟩, trivial⟩
   ·refine W.ok (ok_loadB (i := 0) (vs := [.int .i64 _]) ty3 rfl rfl rfl rfl (by simp)) ?_
    refine W.nil ⟨Le.rfl, ((List.nil_sublist _).cons_cons _).cons _, _, ((List.nil_sublist _).cons_cons _).cons _, List.Sublist.refl _, ?_⟩
    refine WD.any [6] (by kernel_rfl) rfl ⟨⟨_, rfl, rfl, ?_⟩, trivial⟩
    refine W.call (Mp := ((b_h, .cells (List.toArray [.pointer (some ⟨b_c, 0, none⟩), .int .i64 th, .pointer none, .int .i64 most]) 79 (0, 0)) :: ((b_c, .cells (List.toArray [.pointer vS, .pointer (some ⟨b_t, 0, none⟩), vM, .int .i64 wt, .int .i64 ch]) 76 (0, 0)) :: Ms12))) (Mr := []) (hholds0_fc (vw := none) hR14) rfl (((((List.Perm.refl _).cons _).trans (List.Perm.refl _)).cons _).trans (List.Perm.refl _)) ?_
    intro v121 G118 Ms120 hG118 q119
    refine match q119 with | ⟨hv_u117, vw_u117, Mt_u117, e_122, ht_u117⟩ => ?_
    subst e_122
    have hln_sa123 := hv_u117.len47
    have q126 := hv_u117.form
    refine match q126 with | ⟨sa123, sc124, e_125⟩ => ?_
    subst e_125
    refine W.perm (M' := ((b_h, .cells (List.toArray [.pointer (some ⟨b_c, 0, none⟩), .int .i64 th, .pointer vw_u117, .int .i64 most]) 79 (0, 0)) :: ((b_c, .cells (List.toArray [.pointer vS, .pointer (some ⟨b_t, 0, none⟩), vM, .int .i64 wt, .int .i64 ch]) 76 (0, 0)) :: (Mt_u117 ++ [])))) (((((List.Perm.refl _).cons _).trans (List.Perm.refl _)).cons _).trans (List.Perm.refl _)).symm ?_
    refine W.nil ⟨hG118, ((List.nil_sublist _).cons_cons _).cons _, _, ((List.nil_sublist _).cons_cons _).cons _, List.Sublist.refl _, ?_⟩
    refine WD.take 7 rfl rfl rfl (by kernel_rfl) (by kernel_rfl) (by kernel_rfl) (ok_len sl58 hv_u117 rfl) ?_
    refine WD.take 8 rfl rfl rfl (by kernel_rfl) (by kernel_rfl) (by kernel_rfl) (Ok.to9 (v' := .int .i64 (hmost Lw th most)) (ok_maxi rfl rfl) rfl) ?_
    refine WD.take 9 rfl rfl rfl (by kernel_rfl) (by kernel_rfl) (by kernel_rfl) (ok_nilP rfl) ?_
    refine WD.take 10 rfl rfl rfl (by kernel_rfl) (by kernel_rfl) (by kernel_rfl) (ok_fieldB fd79_3 rfl) ?_
    refine WD.any [11] (by kernel_rfl) rfl ⟨⟨_, rfl, rfl, ?_⟩, trivial⟩
    refine W.store (i := 0) (vs := [.int .i64 _]) (L' := [_, .int .i64 _, _, .int .i64 _]) ty3 rfl rfl rfl rfl rfl rfl rfl rfl ?_
    refine W.nil ⟨Le.rfl, ((List.nil_sublist _).cons_cons _).cons _, _, ((List.nil_sublist _).cons_cons _).cons _, List.Sublist.refl _, ?_⟩
    refine WD.done (by kernel_rfl) (thn_n ?_)
    refine WC.seq ?_
    refine WC.region ?_
    refine W.as ?_
    refine W.nil (thn_n ?_)
    refine WC.ret ?_
    refine ⟨.inr rfl, [_], ⟨rfl, trivial⟩, ((b_h, .cells (List.toArray [.pointer (some ⟨b_c, 0, none⟩), .int .i64 th, .pointer vw_u117, .int .i64 (hmost Lw th most)]) 79 (0, 0)) :: ((b_c, .cells (List.toArray [.pointer vS, .pointer (some ⟨b_t, 0, none⟩), vM, .int .i64 wt, .int .i64 ch]) 76 (0, 0)) :: Mt_u117)), ((List.sublist_append_left _ _).cons_cons _).cons_cons _, ?_⟩
    have hhas9 : lhasN Lw th s = true := by simpa using h29
    have hwr9 : wr = false ∨ ltoN Lw th s = true := .inl ha_wr
    have hE9 := htake_t (s := s) (wr := wr) hhas9 hwr9
    exact ⟨(congrArg (fun p : Bool × Lat => Value.bool p.1) hE9).symm, HcR.cast (by rw [hE9]; rfl) (by rw [hE9]) ⟨_, _, rfl, ht_u117⟩⟩
   ·refine W.call (Mp := ((b_h, .cells (List.toArray [.pointer (some ⟨b_c, 0, none⟩), .int .i64 th, .pointer none, .int .i64 most]) 79 (0, 0)) :: ((b_c, .cells (List.toArray [.pointer vS, .pointer (some ⟨b_t, 0, none⟩), vM, .int .i64 wt, .int .i64 ch]) 76 (0, 0)) :: Ms12))) (Mr := []) (hholds0_fc (vw := none) hR14) rfl (((((List.Perm.refl _).cons _).trans (List.Perm.refl _)).cons _).trans (List.Perm.refl _)) ?_
    intro v131 G128 Ms130 hG128 q129
    refine match q129 with | ⟨hv_u127, vw_u127, Mt_u127, e_132, ht_u127⟩ => ?_
    subst e_132
    have hln_sa133 := hv_u127.len47
    have q136 := hv_u127.form
    refine match q136 with | ⟨sa133, sc134, e_135⟩ => ?_
    subst e_135
    refine W.perm (M' := ((b_h, .cells (List.toArray [.pointer (some ⟨b_c, 0, none⟩), .int .i64 th, .pointer vw_u127, .int .i64 most]) 79 (0, 0)) :: ((b_c, .cells (List.toArray [.pointer vS, .pointer (some ⟨b_t, 0, none⟩), vM, .int .i64 wt, .int .i64 ch]) 76 (0, 0)) :: (Mt_u127 ++ [])))) (((((List.Perm.refl _).cons _).trans (List.Perm.refl _)).cons _).trans (List.Perm.refl _)).symm ?_
    refine W.nil ⟨hG128, ((List.nil_sublist _).cons_cons _).cons _, _, ((List.nil_sublist _).cons_cons _).cons _, List.Sublist.refl _, ?_⟩
    refine WD.take 7 rfl rfl rfl (by kernel_rfl) (by kernel_rfl) (by kernel_rfl) (ok_len sl58 hv_u127 rfl) ?_
    refine WD.any [4] (by kernel_rfl) rfl ⟨⟨_, rfl, rfl, ?_⟩, trivial⟩
    refine W.ok (ok_loadB (i := 0) (vs := [.int .i64 _]) ty3 rfl rfl rfl rfl (by simp)) ?_
    refine W.nil ⟨Le.rfl, ((List.nil_sublist _).cons_cons _).cons _, _, ((List.nil_sublist _).cons_cons _).cons _, List.Sublist.refl _, ?_⟩
    refine WD.take 8 rfl rfl rfl (by kernel_rfl) (by kernel_rfl) (by kernel_rfl) (Ok.to9 (v' := .int .i64 (hmost Lw th most)) (ok_maxi rfl rfl) rfl) ?_
    refine WD.take 9 rfl rfl rfl (by kernel_rfl) (by kernel_rfl) (by kernel_rfl) (ok_nilP rfl) ?_
    refine WD.take 10 rfl rfl rfl (by kernel_rfl) (by kernel_rfl) (by kernel_rfl) (ok_fieldB fd79_3 rfl) ?_
    refine WD.any [11] (by kernel_rfl) rfl ⟨⟨_, rfl, rfl, ?_⟩, trivial⟩
    refine W.store (i := 0) (vs := [.int .i64 _]) (L' := [_, .int .i64 _, _, .int .i64 _]) ty3 rfl rfl rfl rfl rfl rfl rfl rfl ?_
    refine W.nil ⟨Le.rfl, ((List.nil_sublist _).cons_cons _).cons _, _, ((List.nil_sublist _).cons_cons _).cons _, List.Sublist.refl _, ?_⟩
    refine WD.done (by kernel_rfl) (thn_n ?_)
    refine WC.seq ?_
    refine WC.region ?_
    refine W.as ?_
    refine W.nil (thn_n ?_)
    refine WC.ret ?_
    refine ⟨.inr rfl, [_], ⟨rfl, trivial⟩, ((b_h, .cells (List.toArray [.pointer (some ⟨b_c, 0, none⟩), .int .i64 th, .pointer vw_u127, .int .i64 (hmost Lw th most)]) 79 (0, 0)) :: ((b_c, .cells (List.toArray [.pointer vS, .pointer (some ⟨b_t, 0, none⟩), vM, .int .i64 wt, .int .i64 ch]) 76 (0, 0)) :: Mt_u127)), ((List.sublist_append_left _ _).cons_cons _).cons_cons _, ?_⟩
    have hhas9 : lhasN Lw th s = true := by simpa using h29
    have hwr9 : wr = false ∨ ltoN Lw th s = true := .inl ha_wr
    have hE9 := htake_t (s := s) (wr := wr) hhas9 hwr9
    exact ⟨(congrArg (fun p : Bool × Lat => Value.bool p.1) hE9).symm, HcR.cast (by rw [hE9]; rfl) (by rw [hE9]) ⟨_, _, rfl, ht_u127⟩⟩

theorem hlet0_fc {G : GH} {b_h : Nat} {th : Int} {vw : Option Addr} {most : Int} (s : Int) {b_c : Nat} {vS : Option Addr} {vM : Value} {Th : List Int} {Lw : Lat} {b_t : Nat} {Ms_t : MH} (h_t : TabR 128 132 3 Th b_t G Lw Ms_t) {wt : Int} {ch : Int} :
    Fc Tryz.prog 70 [.pointer (some ⟨b_h, 0, none⟩), .int .i64 s] G ((b_h, .cells (List.toArray [.pointer (some ⟨b_c, 0, none⟩), .int .i64 th, .pointer vw, .int .i64 most]) 79 (0, 0)) :: ((b_c, .cells (List.toArray [.pointer vS, .pointer (some ⟨b_t, 0, none⟩), vM, .int .i64 wt, .int .i64 ch]) 76 (0, 0)) :: (Ms_t))) (fun v G' M' => v = .tuple #[] ∧ HcR 128 132 3 79 76 Th b_h b_c b_t vS vM wt ch G' th most (lrelN Lw th s).2 M') := by
 refine Fc.intro (rs := []) cl70 Tryz.func70 rfl Tryz.ntmps70 rfl rfl (fun w0 => ?_)
 refine WC.perm (M' := ((b_h, .cells (List.toArray [.pointer (some ⟨b_c, 0, none⟩), .int .i64 th, .pointer vw, .int .i64 most]) 79 (0, 0)) :: ((b_c, .cells (List.toArray [.pointer vS, .pointer (some ⟨b_t, 0, none⟩), vM, .int .i64 wt, .int .i64 ch]) 76 (0, 0)) :: (Ms_t ++ [])))) (by simp) ?_
 refine WC.seq ?_
 refine WC.region ?_
 refine W.mv ?_
 refine W.ok (ok_neqPN pp32 rfl rfl) ?_
 refine W.nil (thn_n ?_)
 refine WC.cond_t rfl rfl ?_
 refine WC.drawW _ (((List.nil_sublist _).cons_cons _).cons_cons _) mix (by rintro _ _ _ _ ⟨h | h, _⟩ <;> cases h) ?_
 refine WD.take 0 rfl rfl rfl (by kernel_rfl) (by kernel_rfl) (by kernel_rfl) (ok_mv) ?_
 refine WD.take 1 rfl rfl rfl (by kernel_rfl) (by kernel_rfl) (by kernel_rfl) (ok_nilP rfl) ?_
 refine WD.take 2 rfl rfl rfl (by kernel_rfl) (by kernel_rfl) (by kernel_rfl) (ok_fieldB fd79_0 rfl) ?_
 refine WD.take 3 rfl rfl rfl (by kernel_rfl) (by kernel_rfl) (by kernel_rfl) (ok_loadB (i := 0) (vs := [.pointer _]) ty27 rfl rfl rfl rfl (by simp)) ?_
 refine WD.take 4 rfl rfl rfl (by kernel_rfl) (by kernel_rfl) (by kernel_rfl) (ok_nilP rfl) ?_
 refine WD.take 5 rfl rfl rfl (by kernel_rfl) (by kernel_rfl) (by kernel_rfl) (ok_fieldB fd76_1 rfl) ?_
 refine WD.take 6 rfl rfl rfl (by kernel_rfl) (by kernel_rfl) (by kernel_rfl) (ok_loadB (i := 1) (vs := [.pointer _]) ty73 rfl rfl rfl rfl (by simp)) ?_
 refine WD.take 7 rfl rfl rfl (by kernel_rfl) (by kernel_rfl) (by kernel_rfl) (ok_mv) ?_
 refine WD.take 8 rfl rfl rfl (by kernel_rfl) (by kernel_rfl) (by kernel_rfl) (ok_nilP rfl) ?_
 refine WD.take 9 rfl rfl rfl (by kernel_rfl) (by kernel_rfl) (by kernel_rfl) (ok_fieldB fd79_1 rfl) ?_
 refine WD.take 10 rfl rfl rfl (by kernel_rfl) (by kernel_rfl) (by kernel_rfl) (ok_loadB (i := 0) (vs := [.int .i64 _]) ty3 rfl rfl rfl rfl (by simp)) ?_
 refine WD.take 11 rfl rfl rfl (by kernel_rfl) (by kernel_rfl) (by kernel_rfl) (ok_mv) ?_
 refine WD.any [12] (by kernel_rfl) rfl ⟨⟨_, rfl, rfl, ?_⟩, trivial⟩
 refine W.call (Mp := Ms_t) (lrel_fc h_t th s) rfl (pmC (pmC (List.Perm.refl _))) ?_
 intro v140 G137 Ms139 hG137 q138
 refine match q138 with | ⟨_, hR141⟩ => ?_
 refine W.perm (pmC (pmC (List.Perm.refl _))).symm ?_
 refine W.nil ⟨hG137, ((List.nil_sublist _).cons_cons _).cons_cons _, _, ((List.nil_sublist _).cons_cons _).cons_cons _, List.Sublist.refl _, ?_⟩
 refine WD.doneP (M' := ((b_h, .cells (List.toArray [.pointer (some ⟨b_c, 0, none⟩), .int .i64 th, .pointer vw, .int .i64 most]) 79 (0, 0)) :: ((b_c, .cells (List.toArray [.pointer vS, .pointer (some ⟨b_t, 0, none⟩), vM, .int .i64 wt, .int .i64 ch]) 76 (0, 0)) :: (Ms139 ++ [])))) (by kernel_rfl) (List.Sublist.refl _) (List.Perm.refl _) ?_
 refine ⟨.inl rfl, [], trivial, ((b_h, .cells (List.toArray [.pointer (some ⟨b_c, 0, none⟩), .int .i64 th, .pointer vw, .int .i64 most]) 79 (0, 0)) :: ((b_c, .cells (List.toArray [.pointer vS, .pointer (some ⟨b_t, 0, none⟩), vM, .int .i64 wt, .int .i64 ch]) 76 (0, 0)) :: Ms139)), ((List.sublist_append_left _ _).cons_cons _).cons_cons _, ?_⟩
 exact ⟨rfl, ⟨_, _, rfl, hR141⟩⟩

theorem hletall0_fc {G : GH} {b_h : Nat} {th : Int} {vw : Option Addr} {most : Int} {b_c : Nat} {vS : Option Addr} {vM : Value} {Th : List Int} {Lw : Lat} {b_t : Nat} {Ms_t : MH} (h_t : TabR 128 132 3 Th b_t G Lw Ms_t) {wt : Int} {ch : Int} :
    Fc Tryz.prog 15 [.pointer (some ⟨b_h, 0, none⟩)] G ((b_h, .cells (List.toArray [.pointer (some ⟨b_c, 0, none⟩), .int .i64 th, .pointer vw, .int .i64 most]) 79 (0, 0)) :: ((b_c, .cells (List.toArray [.pointer vS, .pointer (some ⟨b_t, 0, none⟩), vM, .int .i64 wt, .int .i64 ch]) 76 (0, 0)) :: (Ms_t))) (fun v G' M' => v = .tuple #[] ∧ HcR 128 132 3 79 76 Th b_h b_c b_t vS vM wt ch G' th most (ldropN Lw th) M') := by
 refine Fc.intro (rs := []) cl15 Tryz.func15 rfl Tryz.ntmps15 rfl rfl (fun w0 => ?_)
 refine WC.perm (M' := ((b_h, .cells (List.toArray [.pointer (some ⟨b_c, 0, none⟩), .int .i64 th, .pointer vw, .int .i64 most]) 79 (0, 0)) :: ((b_c, .cells (List.toArray [.pointer vS, .pointer (some ⟨b_t, 0, none⟩), vM, .int .i64 wt, .int .i64 ch]) 76 (0, 0)) :: (Ms_t ++ [])))) (by simp) ?_
 refine WC.seq ?_
 refine WC.region ?_
 refine W.mv ?_
 refine W.ok (ok_neqPN pp32 rfl rfl) ?_
 refine W.nil (thn_n ?_)
 refine WC.cond_t rfl rfl ?_
 refine WC.seq ?_
 refine WC.drawW _ (((List.nil_sublist _).cons_cons _).cons_cons _) mix (by rintro _ _ _ _ ⟨h | h, _⟩ <;> cases h) ?_
 refine WD.take 0 rfl rfl rfl (by kernel_rfl) (by kernel_rfl) (by kernel_rfl) (ok_mv) ?_
 refine WD.take 1 rfl rfl rfl (by kernel_rfl) (by kernel_rfl) (by kernel_rfl) (ok_nilP rfl) ?_
 refine WD.take 2 rfl rfl rfl (by kernel_rfl) (by kernel_rfl) (by kernel_rfl) (ok_fieldB fd79_0 rfl) ?_
 refine WD.take 3 rfl rfl rfl (by kernel_rfl) (by kernel_rfl) (by kernel_rfl) (ok_loadB (i := 0) (vs := [.pointer _]) ty27 rfl rfl rfl rfl (by simp)) ?_
 refine WD.take 4 rfl rfl rfl (by kernel_rfl) (by kernel_rfl) (by kernel_rfl) (ok_nilP rfl) ?_
 refine WD.take 5 rfl rfl rfl (by kernel_rfl) (by kernel_rfl) (by kernel_rfl) (ok_fieldB fd76_1 rfl) ?_
 refine WD.take 6 rfl rfl rfl (by kernel_rfl) (by kernel_rfl) (by kernel_rfl) (ok_loadB (i := 1) (vs := [.pointer _]) ty73 rfl rfl rfl rfl (by simp)) ?_
 refine WD.take 7 rfl rfl rfl (by kernel_rfl) (by kernel_rfl) (by kernel_rfl) (ok_mv) ?_
 refine WD.take 8 rfl rfl rfl (by kernel_rfl) (by kernel_rfl) (by kernel_rfl) (ok_nilP rfl) ?_
 refine WD.take 9 rfl rfl rfl (by kernel_rfl) (by kernel_rfl) (by kernel_rfl) (ok_fieldB fd79_1 rfl) ?_
 refine WD.take 10 rfl rfl rfl (by kernel_rfl) (by kernel_rfl) (by kernel_rfl) (ok_loadB (i := 0) (vs := [.int .i64 _]) ty3 rfl rfl rfl rfl (by simp)) ?_
 refine WD.any [11] (by kernel_rfl) rfl ⟨⟨_, rfl, rfl, ?_⟩, trivial⟩
 refine W.call (Mp := Ms_t) (ldrop_fc h_t th) rfl (pmC (pmC (List.Perm.refl _))) ?_
 intro v145 G142 Ms144 hG142 q143
 refine match q143 with | hR146 => ?_
 refine W.perm (pmC (pmC (List.Perm.refl _))).symm ?_
 refine W.nil ⟨hG142, ((List.nil_sublist _).cons_cons _).cons_cons _, _, ((List.nil_sublist _).cons_cons _).cons_cons _, List.Sublist.refl _, ?_⟩
 refine WD.done (by kernel_rfl) (thn_n ?_)
 refine WC.region ?_
 refine W.mv ?_
 refine W.ok (ok_nilP rfl) ?_
 refine W.ok (ok_fieldB fd79_2 rfl) ?_
 refine W.store (i := 0) (vs := [.pointer _]) (L' := [.pointer _, .int .i64 _, .pointer _, .int .i64 _]) ty77 rfl rfl rfl rfl rfl rfl rfl rfl ?_
 refine W.nil ?_
 refine ⟨.inl rfl, [], trivial, ((b_h, .cells (List.toArray [.pointer (some ⟨b_c, 0, none⟩), .int .i64 th, .pointer none, .int .i64 most]) 79 (0, 0)) :: ((b_c, .cells (List.toArray [.pointer vS, .pointer (some ⟨b_t, 0, none⟩), vM, .int .i64 wt, .int .i64 ch]) 76 (0, 0)) :: Ms144)), ((List.sublist_append_left _ _).cons_cons _).cons_cons _, ?_⟩
 exact ⟨rfl, ⟨_, _, rfl, hR146⟩⟩

theorem hmost0_fc {G : GH} {b_h : Nat} {th : Int} {vw : Option Addr} {most : Int} {b_c : Nat} {vS : Option Addr} {vM : Value} {Th : List Int} {Lw : Lat} {b_t : Nat} {Ms_t : MH} (h_t : TabR 128 132 3 Th b_t G Lw Ms_t) {wt : Int} {ch : Int} :
    Fc Tryz.prog 22 [.pointer (some ⟨b_h, 0, none⟩)] G ((b_h, .cells (List.toArray [.pointer (some ⟨b_c, 0, none⟩), .int .i64 th, .pointer vw, .int .i64 most]) 79 (0, 0)) :: ((b_c, .cells (List.toArray [.pointer vS, .pointer (some ⟨b_t, 0, none⟩), vM, .int .i64 wt, .int .i64 ch]) 76 (0, 0)) :: (Ms_t))) (fun v G' M' => v = .int .i64 most ∧ HcR 128 132 3 79 76 Th b_h b_c b_t vS vM wt ch G' th most Lw M') := by
 refine Fc.intro (rs := [.tmp 2]) cl22 Tryz.func22 rfl Tryz.ntmps22 rfl rfl (fun w0 => ?_)
 refine WC.perm (M' := ((b_h, .cells (List.toArray [.pointer (some ⟨b_c, 0, none⟩), .int .i64 th, .pointer vw, .int .i64 most]) 79 (0, 0)) :: ((b_c, .cells (List.toArray [.pointer vS, .pointer (some ⟨b_t, 0, none⟩), vM, .int .i64 wt, .int .i64 ch]) 76 (0, 0)) :: (Ms_t ++ [])))) (by simp) ?_
 refine WC.seq ?_
 refine WC.region ?_
 refine W.as ?_
 refine W.nil (thn_n ?_)
 refine WC.seq ?_
 refine WC.seq ?_
 refine WC.region ?_
 refine W.mv ?_
 refine W.ok (ok_eqlPN pp32 rfl rfl) ?_
 refine W.nil (thn_n ?_)
 refine WC.cond_f rfl rfl ?_
 refine WC.skip (thn_n ?_)
 refine WC.seq ?_
 refine WC.region ?_
 refine W.mv ?_
 refine W.ok (ok_nilP rfl) ?_
 refine W.ok (ok_fieldB fd79_3 rfl) ?_
 refine W.ok (ok_loadB (i := 0) (vs := [.int .i64 _]) ty3 rfl rfl rfl rfl (by simp)) ?_
 refine W.as ?_
 refine W.nil (thn_n ?_)
 refine WC.ret ?_
 refine ⟨.inr rfl, [_], ⟨rfl, trivial⟩, ((b_h, .cells (List.toArray [.pointer (some ⟨b_c, 0, none⟩), .int .i64 th, .pointer vw, .int .i64 most]) 79 (0, 0)) :: ((b_c, .cells (List.toArray [.pointer vS, .pointer (some ⟨b_t, 0, none⟩), vM, .int .i64 wt, .int .i64 ch]) 76 (0, 0)) :: Ms_t)), ((List.sublist_append_left _ _).cons_cons _).cons_cons _, ?_⟩
 exact ⟨rfl, ⟨_, _, rfl, h_t⟩⟩

theorem htake_fc {G : GH} {Th : List Int} {b_h b_c b_t : Nat} {vS : Option Addr} {vM : Value} {wt ch th most : Int} {Lw : Lat} {Ms : MH} (h : HcR 128 132 3 79 76 Th b_h b_c b_t vS vM wt ch G th most Lw Ms) (s : Int) (wr : Bool) (hth : th ∈ Th) : Fc Tryz.prog 9 [.pointer (some ⟨b_h, 0, none⟩), .int .i64 s, .bool wr] G Ms (fun v G' M' => v = .bool (htakeN Lw th s wr).1 ∧ HcR 128 132 3 79 76 Th b_h b_c b_t vS vM wt ch G' th (if (htakeN Lw th s wr).1 = true then hmost (htakeN Lw th s wr).2 th most else most) (htakeN Lw th s wr).2 M') := by
  obtain ⟨vw, Mt, rfl, h_t⟩ := h
  exact htake0_fc s wr h_t hth
theorem hlet_fc {G : GH} {Th : List Int} {b_h b_c b_t : Nat} {vS : Option Addr} {vM : Value} {wt ch th most : Int} {Lw : Lat} {Ms : MH} (h : HcR 128 132 3 79 76 Th b_h b_c b_t vS vM wt ch G th most Lw Ms) (s : Int) : Fc Tryz.prog 70 [.pointer (some ⟨b_h, 0, none⟩), .int .i64 s] G Ms (fun v G' M' => v = .tuple #[] ∧ HcR 128 132 3 79 76 Th b_h b_c b_t vS vM wt ch G' th most (lrelN Lw th s).2 M') := by
  obtain ⟨vw, Mt, rfl, h_t⟩ := h
  exact hlet0_fc s h_t
theorem hletall_fc {G : GH} {Th : List Int} {b_h b_c b_t : Nat} {vS : Option Addr} {vM : Value} {wt ch th most : Int} {Lw : Lat} {Ms : MH} (h : HcR 128 132 3 79 76 Th b_h b_c b_t vS vM wt ch G th most Lw Ms)  : Fc Tryz.prog 15 [.pointer (some ⟨b_h, 0, none⟩)] G Ms (fun v G' M' => v = .tuple #[] ∧ HcR 128 132 3 79 76 Th b_h b_c b_t vS vM wt ch G' th most (ldropN Lw th) M') := by
  obtain ⟨vw, Mt, rfl, h_t⟩ := h
  exact hletall0_fc h_t
theorem hmost_fc {G : GH} {Th : List Int} {b_h b_c b_t : Nat} {vS : Option Addr} {vM : Value} {wt ch th most : Int} {Lw : Lat} {Ms : MH} (h : HcR 128 132 3 79 76 Th b_h b_c b_t vS vM wt ch G th most Lw Ms)  : Fc Tryz.prog 22 [.pointer (some ⟨b_h, 0, none⟩)] G Ms (fun v G' M' => v = .int .i64 most ∧ HcR 128 132 3 79 76 Th b_h b_c b_t vS vM wt ch G' th most Lw M') := by
  obtain ⟨vw, Mt, rfl, h_t⟩ := h
  exact hmost0_fc h_t
theorem cstore0_fc {G : GH} {b_c : Nat} {vS : Option Addr} {vM : Value} {Th : List Int} {Lw : Lat} {b_t : Nat} {Ms_t : MH} (h_t : TabR 128 132 3 Th b_t G Lw Ms_t) {wt : Int} {ch : Int} :
    Fc Tryz.prog 24 [.pointer (some ⟨b_c, 0, none⟩)] G ((b_c, .cells (List.toArray [.pointer vS, .pointer (some ⟨b_t, 0, none⟩), vM, .int .i64 wt, .int .i64 ch]) 76 (0, 0)) :: (Ms_t)) (fun v G' M' => v = .pointer vS ∧ ∃ Mt, M' = (b_c, .cells (List.toArray [.pointer vS, .pointer (some ⟨b_t, 0, none⟩), vM, .int .i64 wt, .int .i64 ch]) 76 (0, 0)) :: Mt ∧ TabR 128 132 3 Th b_t G' Lw Mt) := by
 refine Fc.intro (rs := [.tmp 2]) cl24 Tryz.func24 rfl Tryz.ntmps24 rfl rfl (fun w0 => ?_)
 refine WC.perm (M' := ((b_c, .cells (List.toArray [.pointer vS, .pointer (some ⟨b_t, 0, none⟩), vM, .int .i64 wt, .int .i64 ch]) 76 (0, 0)) :: (Ms_t ++ []))) (by simp) ?_
 refine WC.seq ?_
 refine WC.region ?_
 refine W.as ?_
 refine W.nil (thn_n ?_)
 refine WC.seq ?_
 refine WC.seq ?_
 refine WC.region ?_
 refine W.mv ?_
 refine W.ok (ok_eqlPN pp27 rfl rfl) ?_
 refine W.nil (thn_n ?_)
 refine WC.cond_f rfl rfl ?_
 refine WC.skip (thn_n ?_)
 refine WC.seq ?_
 refine WC.region ?_
 refine W.mv ?_
 refine W.ok (ok_nilP rfl) ?_
 refine W.ok (ok_fieldB fd76_0 rfl) ?_
 refine W.ok (ok_loadB (i := 0) (vs := [.pointer _]) ty63 rfl rfl rfl rfl (by simp)) ?_
 refine W.as ?_
 refine W.nil (thn_n ?_)
 refine WC.ret ?_
 refine ⟨.inr rfl, [_], ⟨rfl, trivial⟩, ((b_c, .cells (List.toArray [.pointer vS, .pointer (some ⟨b_t, 0, none⟩), vM, .int .i64 wt, .int .i64 ch]) 76 (0, 0)) :: Ms_t), (List.sublist_append_left _ _).cons_cons _, ?_⟩
 exact ⟨rfl, _, rfl, h_t⟩

theorem cholds0_fc {G : GH} {b_c : Nat} {vS : Option Addr} {vM : Value} {Th : List Int} {Lw : Lat} {b_t : Nat} {Ms_t : MH} (h_t : TabR 128 132 3 Th b_t G Lw Ms_t) {wt : Int} {ch : Int} :
    Fc Tryz.prog 20 [.pointer (some ⟨b_c, 0, none⟩)] G ((b_c, .cells (List.toArray [.pointer vS, .pointer (some ⟨b_t, 0, none⟩), vM, .int .i64 wt, .int .i64 ch]) 76 (0, 0)) :: (Ms_t)) (fun v G' M' => SlR eHld G' v (lpickN (fun _ => true) Lw) ∧ ∃ Mt, M' = (b_c, .cells (List.toArray [.pointer vS, .pointer (some ⟨b_t, 0, none⟩), vM, .int .i64 wt, .int .i64 ch]) 76 (0, 0)) :: Mt ∧ TabR 128 132 3 Th b_t G' Lw Mt) := by
 refine Fc.intro (rs := [.tmp 2]) cl20 Tryz.func20 rfl Tryz.ntmps20 rfl rfl (fun w0 => ?_)
 refine WC.perm (M' := ((b_c, .cells (List.toArray [.pointer vS, .pointer (some ⟨b_t, 0, none⟩), vM, .int .i64 wt, .int .i64 ch]) 76 (0, 0)) :: (Ms_t ++ []))) (by simp) ?_
 refine WC.seq ?_
 refine WC.region ?_
 refine W.as ?_
 refine W.nil (thn_n ?_)
 refine WC.seq ?_
 refine WC.seq ?_
 refine WC.region ?_
 refine W.mv ?_
 refine W.ok (ok_eqlPN pp27 rfl rfl) ?_
 refine W.nil (thn_n ?_)
 refine WC.cond_f rfl rfl ?_
 refine WC.skip (thn_n ?_)
 refine WC.seq ?_
 refine WC.region ?_
 refine W.mv ?_
 refine W.ok (ok_nilP rfl) ?_
 refine W.ok (ok_fieldB fd76_1 rfl) ?_
 refine W.ok (ok_loadB (i := 0) (vs := [.pointer _]) ty73 rfl rfl rfl rfl (by simp)) ?_
 refine W.call (Mp := Ms_t) (lall_fc h_t) rfl (pmC (List.Perm.refl _)) ?_
 intro v150 G147 Ms149 hG147 q148
 refine match q148 with | ⟨hv_hR151, hR151⟩ => ?_
 refine W.perm (pmC (List.Perm.refl _)).symm ?_
 have hln_sa152 := hv_hR151.len47
 have q155 := hv_hR151.form
 refine match q155 with | ⟨sa152, sc153, e_154⟩ => ?_
 subst e_154
 refine W.as ?_
 refine W.nil (thn_n ?_)
 refine WC.ret ?_
 refine ⟨.inr rfl, [_], ⟨rfl, trivial⟩, ((b_c, .cells (List.toArray [.pointer vS, .pointer (some ⟨b_t, 0, none⟩), vM, .int .i64 wt, .int .i64 ch]) 76 (0, 0)) :: Ms149), (List.sublist_append_left _ _).cons_cons _, ?_⟩
 exact ⟨hv_hR151, _, rfl, hR151⟩

end Go.Proofs.YtgmnljhiojdigaaGreat
namespace Go.Proofs.YtgmnljhiojdigaaGreat
open Go Go.Fw Go.RowKit
attribute [local irreducible] Ok W WC
theorem hdown_fc {G : GH} {α : Type} [Inhabited α] {lt : α → α → Bool} {x0 : Value} {Rep : GH → List α → MH → Prop} {EV : GH → Value → α → Prop} {pu : Prop} (hK : HeapK Tryz.prog lt x0 Rep EV pu) {l : List α} {Ms_l : MH} (h_l : Rep G l Ms_l) (i0 : Nat) (n : Nat) (f : Nat) (hf : n ≤ i0 + f) (hn : n ≤ l.length) (hi : i0 ≤ 1000000000000000) :
    Fc Tryz.prog 130 [x0, nt9 i0, nt9 n] G Ms_l (fun v G' M' => (∃ b, v = .bool b) ∧ Rep G' (downL lt f l i0 n) M') := by
 have hbd := hK.bound h_l
 refine Fc.go [.tmp 6] Tryz.func130 Tryz.ntmps130 rfl (fun w0 => (WC.perm (M' := (Ms_l ++ [])) (by simp) (g9 13 ?_)))
 refine WC.loop (X := (Nat × Nat × List α) × MH) (fun x => [(7, nt9 x.1.1), (1, nt9 i0), (2, nt9 n), (0, x0)]) (fun x G Ml => Ml = (x.2 ++ []) ∧ Rep G (x.1.2.2) x.2 ∧ downL lt x.1.2.1 x.1.2.2 x.1.1 n = downL lt f l i0 n ∧ n ≤ x.1.1 + x.1.2.1 ∧ x.1.2.2.length = l.length ∧ x.1.1 ≤ n + 1000000000000000) (fun x => n - x.1.1) (((i0, f, l) : Nat × Nat × List α), Ms_l) hs9 ?_ ?_
 ·exact ⟨rfl, (by simpa using h_l), rfl, hf, rfl, by dsimp only; omega⟩
 rintro ⟨⟨i, f9, L⟩, M_0⟩ gG1 G1 _ hG1 ⟨rfl, ho_0, hd, hfi, hL, hib⟩
 try dsimp only at ho_0 hd hfi hL hib
 have hbL : L.length ≤ 140737488355328 := by omega
 refine WC.fr (f := setL gG1 [(7, nt9 i), (1, nt9 i0), (2, nt9 n), (0, x0)]) rfl (g9 4 ?_)
 refine W.ok (ok_mul rfl rfl om9) (W.ok (Ok.int (n := ((2 * i + 1 : Nat) : Int)) (ok_add rfl rfl om9) om9) (g9 10 ?_))
 refine W.sd 18 (fun h17 p17 => ?_) (fun h17 p17 => ?_)
 ·try dsimp only at p17
  refine g9 21 ?_
  refine ⟨.inr rfl, [_], ⟨rfl, trivial⟩, M_0, List.sublist_append_left _ _, ?_⟩
  refine ⟨⟨_, rfl⟩, ?_⟩
  have h := ho_0
  rw [downL_stop om9] at hd
  rw [← hd]; exact h
 try dsimp only at p17
 refine g9 7 ?_
 refine WC.cd (fun h20 p20 => ?_) (fun h20 p20 => ?_)
 ·try dsimp only at p20
  exfalso; omega
 try dsimp only at p20
 have hkj := kidJ_lt (lt := lt) (l := L) (i := i) (n := n) om9
 refine g9 8 ?_
 refine WC.join (X := Unit) (fun u8 => [(9, nt9 ((kidJ lt L i n))), (0, x0), (1, nt9 i0), (2, nt9 n), (7, nt9 i)]) (fun u8 _ Ml => Ml = (M_0 ++ [])) ?_ ?_
 ·refine g9 3 ?_
  refine W.ok (Ok.int (n := ((2 * i + 2 : Nat) : Int)) (ok_add rfl rfl om9) om9) (g9 9 ?_)
  refine W.sd 28 (fun h27 p27 => ?_) (fun h27 p27 => ?_)
  ·try dsimp only at p27
   refine g9 7 ?_
   refine W.inv (hK.less (i := 2 * i + 2) (j := 2 * i + 1) ho_0 om9 om9) rfl rfl pr9 ?_
   intro _ G2 Ms4 hG2 q3
   refine match q3 with | ⟨e_6, eeq3⟩ => ?_
   subst e_6
   have eeq3 := eeq3.symm
   subst eeq3
   refine g9 3 ?_
   refine WC.cond rfl (fun h32 => ?_) (fun h32 => ?_)
   ·refine g9 5 ?_
    exact ⟨hG2, (), ⟨(by exact iv (congrArg Nat.cast (kidJ_t om9 h32).symm)), eqv, eqv, eqv, eqv, trivial⟩, rfl⟩
   refine g9 2 ?_
   exact ⟨hG2, (), ⟨(by exact iv (congrArg Nat.cast (kidJ_f (.inr h32)).symm)), eqv, eqv, eqv, eqv, trivial⟩, rfl⟩
  try dsimp only at p27
  refine g9 10 ?_
  exact ⟨Le.rfl, (), ⟨(by exact iv (congrArg Nat.cast (kidJ_f (.inl om9)).symm)), eqv, eqv, eqv, eqv, trivial⟩, rfl⟩
 rintro u8 gG7 G7 _ hG7 rfl
 refine g9 6 ?_
 refine W.inv (hK.less (i := (kidJ lt L i n)) (j := i) (hK.mono hG7 ho_0) om9 om9) rfl rfl pr9 ?_
 intro _ G8 Ms10 hG8 q9
 refine match q9 with | ⟨e_12, eeq9⟩ => ?_
 subst e_12
 have eeq9 := eeq9.symm
 subst eeq9
 refine g9 3 ?_
 refine WC.cond rfl (fun h39 => ?_) (fun h39 => ?_)
 ·refine g9 15 ?_
  refine ⟨.inr rfl, [_], ⟨rfl, trivial⟩, M_0, List.sublist_append_left _ _, ?_⟩
  refine ⟨⟨_, rfl⟩, ?_⟩
  have h := (hK.mono (hG7.trans hG8) ho_0)
  rw [downL_end om9 (by simpa using h39)] at hd
  rw [← hd]; exact h
 refine g9 7 ?_
 refine W.inv (hK.swap (i := i) (j := (kidJ lt L i n)) (hK.mono lec ho_0) om9 om9) rfl rfl pr9 ?_
 intro _ G13 Ms15 hG13 q14
 refine match q14 with | ⟨e_18, hR17⟩ => ?_
 subst e_18
 refine g9 8 ?_
 exact ⟨lec, ((((kidJ lt L i n), f9 - 1, swapL L i (kidJ lt L i n)) : Nat × Nat × List α), Ms15), hs9, ⟨rfl, (by simpa using hR17), by dsimp only; rw [← hd, downL_go hfi om9 (by simpa using h39)], by dsimp only; omega, by dsimp only; rw [swapL_length]; exact hL, by dsimp only; omega⟩, by dsimp only; omega⟩

theorem hup_fc {G : GH} {α : Type} [Inhabited α] {lt : α → α → Bool} {x0 : Value} {Rep : GH → List α → MH → Prop} {EV : GH → Value → α → Prop} {pu : Prop} (hK : HeapK Tryz.prog lt x0 Rep EV pu) {l : List α} {Ms_l : MH} (h_l : Rep G l Ms_l) (j0 : Nat) (f : Nat) (hf : j0 ≤ f) (hj : j0 < l.length) :
    Fc Tryz.prog 153 [x0, nt9 j0] G Ms_l (fun v G' M' => v = .tuple #[] ∧ Rep G' (upL lt f l j0) M') := by
 have hbd := hK.bound h_l
 refine Fc.go [] Tryz.func153 Tryz.ntmps153 rfl (fun w0 => (WC.perm (M' := (Ms_l ++ [])) (by simp) (g9 1 ?_)))
 refine WC.loop (X := (Nat × Nat × List α) × MH) (fun x => [(1, nt9 x.1.1), (0, x0)]) (fun x G Ml => Ml = (x.2 ++ []) ∧ Rep G (x.1.2.2) x.2 ∧ upL lt x.1.2.1 x.1.2.2 x.1.1 = upL lt f l j0 ∧ x.1.1 ≤ x.1.2.1 ∧ x.1.2.2.length = l.length ∧ x.1.1 < l.length) (fun x => x.1.1) (((j0, f, l) : Nat × Nat × List α), Ms_l) hs9 ?_ ?_
 ·exact ⟨rfl, (by simpa using h_l), rfl, hf, rfl, hj⟩
 rintro ⟨⟨j, f9, L⟩, M_0⟩ gG19 G19 _ hG19 ⟨rfl, ho_0, hd, hfi, hL, hjl⟩
 try dsimp only at ho_0 hd hfi hL hjl
 have hbL : L.length ≤ 140737488355328 := by omega
 refine WC.fr (f := setL gG19 [(1, nt9 j), (0, x0)]) rfl (g9 5 ?_)
 refine W.ok (Ok.int (n := (((j - 1) / 2 : Nat) : Int)) (ok_quo rfl rfl om9 (by rw [show (2 : Int) = 2 from rfl, tdiv_half]; omega)) (tdiv_half j)) (g9 10 ?_)
 refine W.sd 11 (fun h10 p10 => ?_) (fun h10 p10 => ?_)
 ·try dsimp only at p10
  refine g9 14 ?_
  refine ⟨.inl rfl, [], trivial, M_0, List.sublist_append_left _ _, ?_⟩
  refine ⟨rfl, ?_⟩
  have h := ho_0
  rw [upL_end (.inl om9)] at hd
  rw [← hd]; exact h
 try dsimp only at p10
 refine g9 7 ?_
 refine W.inv (hK.less (i := j) (j := (j - 1) / 2) ho_0 om9 om9) rfl rfl pr9 ?_
 intro _ G20 Ms22 hG20 q21
 refine match q21 with | ⟨e_24, eeq21⟩ => ?_
 subst e_24
 have eeq21 := eeq21.symm
 subst eeq21
 refine g9 5 ?_
 refine WC.cond rfl (fun h16 => ?_) (fun h16 => ?_)
 ·refine g9 5 ?_
  refine ⟨.inl rfl, [], trivial, M_0, List.sublist_append_left _ _, ?_⟩
  refine ⟨rfl, ?_⟩
  have h := (hK.mono hG20 ho_0)
  rw [upL_end (.inr (by simpa using h16))] at hd
  rw [← hd]; exact h
 refine g9 7 ?_
 refine W.inv (hK.swap (i := (j - 1) / 2) (j := j) (hK.mono hG20 ho_0) om9 om9) rfl rfl pr9 ?_
 intro _ G25 Ms27 hG25 q26
 refine match q26 with | ⟨e_30, hR29⟩ => ?_
 subst e_30
 refine g9 8 ?_
 exact ⟨lec, ((((j - 1) / 2, f9 - 1, swapL L ((j - 1) / 2) j) : Nat × Nat × List α), Ms27), hs9, ⟨rfl, (by simpa using hR29), by dsimp only; rw [← hd, upL_go hfi om9 (by simpa using h16)], by dsimp only; omega, by dsimp only; rw [swapL_length]; exact hL, by dsimp only; omega⟩, by dsimp only; omega⟩

theorem hpop_fc {G : GH} {α : Type} [Inhabited α] {lt : α → α → Bool} {x0 : Value} {Rep : GH → List α → MH → Prop} {EV : GH → Value → α → Prop} {pu : Prop} (hK : HeapK Tryz.prog lt x0 Rep EV pu) {l : List α} {Ms_l : MH} (h_l : Rep G l Ms_l) (h0 : 0 < l.length) :
    Fc Tryz.prog 114 [x0] G Ms_l (fun v G' M' => EV G' v (nth l 0) ∧ Rep G' (popL lt l) M') := by
 have hbd := hK.bound h_l
 refine Fc.go [.tmp 2] Tryz.func114 Tryz.ntmps114 rfl (fun w0 => (WC.perm (M' := (Ms_l ++ [])) (by simp) (g9 8 ?_)))
 refine W.inv (hK.len h_l) rfl rfl pr9 ?_
 intro _ G31 Ms33 hG31 q32
 refine match q32 with | ⟨e_35, eeq32⟩ => ?_
 subst e_35
 have eeq32 := eeq32.symm
 subst eeq32
 refine W.ok (Ok.int (n := ((l.length - 1 : Nat) : Int)) (ok_sub rfl rfl om9) om9) (g9 7 ?_)
 refine W.inv (hK.swap (i := 0) (j := l.length - 1) (hK.mono hG31 h_l) om9 om9) rfl rfl pr9 ?_
 intro _ G36 Ms38 hG36 q37
 refine match q37 with | ⟨e_41, hR40⟩ => ?_
 subst e_41
 refine g9 6 ?_
 refine W.call (Mp := Ms38) (hdown_fc hK hR40 0 _ l.length om9 (by first | omega | (simp only [swapL_length]; omega)) om9) rfl pr9 ?_
 intro _ G42 Ms44 hG42 q43
 refine match q43 with | ⟨⟨_, e_47⟩, hR46⟩ => ?_
 subst e_47
 refine g9 5 ?_
 refine W.inv (hK.pop hR46 (by rw [downL_length, swapL_length]; omega)) rfl rfl pr9 ?_
 intro v51 G48 Ms50 hG48 q49
 refine match q49 with | ⟨hvhR52, hR52⟩ => ?_
 refine g9 4 ?_
 refine ⟨.inr rfl, [_], ⟨rfl, trivial⟩, Ms50, List.sublist_append_left _ _, ?_⟩
 refine ⟨(by have h := hvhR52; rw [(popL_eq (lt := lt) h0).2] at h; exact h), ?_⟩
 have h := hR52
 rw [(popL_eq h0).1] at h; exact h

theorem hpush_fc {G : GH} {α : Type} [Inhabited α] {lt : α → α → Bool} {x0 : Value} {Rep : GH → List α → MH → Prop} {EV : GH → Value → α → Prop} (hK : HeapK Tryz.prog lt x0 Rep EV) {l : List α} {Ms_l : MH} (h_l : Rep G l Ms_l) {v_a : Value} {a : α} (h_a : EV G v_a a) (hb : l.length < 1000000) (hEV : ∀ {G G' : GH} {v : Value} {a : α}, Le G G' → EV G v a → EV G' v a) :
    Fc Tryz.prog 140 [x0, v_a] G Ms_l (fun v G' M' => v = .tuple #[] ∧ Rep G' (pushL lt l a) M') := by
 have hbd := hK.bound h_l
 have hla : (l ++ [a]).length = l.length + 1 := by simp
 refine Fc.go [] Tryz.func140 Tryz.ntmps140 rfl (fun w0 => (WC.perm (M' := (Ms_l ++ [])) (by simp) (g9 4 ?_)))
 refine W.inv (hK.push trivial h_l om9 h_a) rfl rfl pr9 ?_
 intro _ G53 Ms55 hG53 q54
 refine match q54 with | ⟨e_58, hR57⟩ => ?_
 subst e_58
 refine g9 5 ?_
 refine W.inv (hK.len hR57) rfl rfl pr9 ?_
 intro _ G59 Ms61 hG59 q60
 refine match q60 with | ⟨e_63, eeq60⟩ => ?_
 subst e_63
 have eeq60 := eeq60.symm
 subst eeq60
 refine W.ok (Ok.int (n := ((l.length : Nat) : Int)) (ok_sub rfl rfl om9) om9) (W.call (Mp := Ms55) (hup_fc hK (hK.mono hG59 hR57) _ l.length om9 om9) rfl pr9 ?_)
 intro _ G64 Ms66 hG64 q65
 refine match q65 with | ⟨e_69, hR68⟩ => ?_
 subst e_69
 refine W.nil ?_
 refine ⟨.inl rfl, [], trivial, Ms66, List.sublist_append_left _ _, ?_⟩
 refine ⟨rfl, ?_⟩
 exact hR68

theorem hinit_fc {G : GH} {α : Type} [Inhabited α] {lt : α → α → Bool} {x0 : Value} {Rep : GH → List α → MH → Prop} {EV : GH → Value → α → Prop} {pu : Prop} (hK : HeapK Tryz.prog lt x0 Rep EV pu) {l : List α} {Ms_l : MH} (h_l : Rep G l Ms_l) (hh : Heap lt l) (hb : l.length < 1000000) :
    Fc Tryz.prog 113 [x0] G Ms_l (fun v G' M' => v = .tuple #[] ∧ Rep G' (l) M') := by
 have hbd := hK.bound h_l
 refine Fc.go [] Tryz.func113 Tryz.ntmps113 rfl (fun w0 => (WC.perm (M' := (Ms_l ++ [])) (by simp) (g9 3 ?_)))
 refine W.inv (hK.len h_l) rfl rfl pr9 ?_
 intro _ G70 Ms72 hG70 q71
 refine match q71 with | ⟨e_74, eeq71⟩ => ?_
 subst e_74
 have eeq71 := eeq71.symm
 subst eeq71
 refine g9 6 ?_
 refine W.ok (Ok.int (n := ((l.length / 2 : Nat) : Int)) (ok_quo' rfl rfl om9 om9 om9) om9) (g9 5 ?_)
 refine WC.loop (X := (Int) × MH) (fun z => [(3, iV z.1), (2, nt9 ((l).length)), (0, x0)]) (fun z G Ml => Ml = (z.2 ++ []) ∧ Rep G (l) z.2 ∧ -1 ≤ z.1 ∧ z.1 ≤ l.length) (fun z => (z.1 + 1).toNat) (((((l.length / 2 : Nat) : Int) - 1) : Int), Ms_l) hs9 ?_ ?_
 ·exact ⟨rfl, (by simpa using (hK.mono hG70 h_l)), om9, om9⟩
 rintro ⟨z, M_0⟩ gG75 G75 _ hG75 ⟨rfl, ho_0, hz1, hz2⟩
 try dsimp only at ho_0 hz1 hz2
 refine WC.fr (f := setL gG75 [(3, iV z), (2, nt9 ((l).length)), (0, x0)]) rfl (g9 7 ?_)
 refine WC.cd (fun h10 p10 => ?_) (fun h10 p10 => ?_)
 ·try dsimp only at p10
  obtain ⟨m, rfl⟩ : ∃ m : Nat, z = (m : Int) := ⟨z.toNat, om9⟩
  refine g9 8 ?_
  refine W.call (Mp := M_0) (hdown_fc hK ho_0 _ _ l.length om9 (by first | omega | (simp only [swapL_length]; omega)) om9) rfl pr9 ?_
  intro _ G76 Ms78 hG76 q77
  refine match q77 with | ⟨⟨_, e_81⟩, hR80⟩ => ?_
  subst e_81
  refine g9 9 ?_
  exact ⟨hG76, (((m : Int) - 1), Ms78), hs9, ⟨rfl, (by have h := hR80; rw [downL_id hh] at h; exact h), by dsimp only; omega, by dsimp only; omega⟩, by dsimp only; omega⟩
 try dsimp only at p10
 refine g9 4 ?_
 refine ⟨.inl rfl, [], trivial, M_0, List.sublist_append_left _ _, ?_⟩
 refine ⟨rfl, ?_⟩
 exact ho_0

theorem llen_fc {G : GH} {v_l : Value} {l : List Int} {Ms_l : MH} (h_l : OwnR eInt 3 G v_l l Ms_l) :
    Fc Tryz.prog 180 [v_l] G Ms_l (fun v _ M' => v = iV ((l.length : Int)) ∧ Ms_l = M') := by
 refine Fc.go [.tmp 2] Tryz.func180 Tryz.ntmps180 rfl (fun w0 => (WC.perm (M' := (Ms_l ++ [])) (by simp) (g9 13 ?_)))
 refine ⟨.inr rfl, [_], ⟨rfl, trivial⟩, Ms_l, List.sublist_append_left _ _, ?_⟩
 exact ⟨rfl, rfl⟩

theorem lless_fc {G : GH} {v_l : Value} {l : List Int} {Ms_l : MH} (h_l : OwnR eInt 3 G v_l l Ms_l) (i : Nat) (j : Nat) (hi : i < l.length) (hj : j < l.length) :
    Fc Tryz.prog 181 [v_l, nt9 i, nt9 j] G Ms_l (fun v _ M' => v = .bool (decide (nth l i < nth l j)) ∧ Ms_l = M') := by
 have hl := h_l.len47
 refine Fc.go [.tmp 6] Tryz.func181 Tryz.ntmps181 rfl (fun w0 => (WC.perm (M' := (Ms_l ++ [])) (by simp) (g9 9 ?_)))
 refine h_l.a2 (i := i) om9 (fun he1 hi2 => (W.ok (ok_indexAddrO (i := i) sl148 ty3 h_l rfl rfl ⟨om9, om9⟩) (W.ok (ok_loadO (vs := ic9) ty3 he1 pr9 rfl rfl rfl (by simp)) (g9 2 ?_))))
 refine h_l.a2 (i := j) om9 (fun he5 hi6 => (W.ok (ok_indexAddrO (i := j) sl148 ty3 h_l rfl rfl ⟨om9, om9⟩) (W.ok (ok_loadO (vs := ic9) ty3 he5 pr9 rfl rfl rfl (by simp)) (g9 5 ?_))))
 refine ⟨.inr rfl, [_], ⟨rfl, trivial⟩, Ms_l, List.sublist_append_left _ _, ?_⟩
 exact ⟨by rw [nth_lt hi, nth_lt hj]; rfl, rfl⟩

theorem lswap_fc {G : GH} {v_l : Value} {l : List Int} {Ms_l : MH} (h_l : OwnR eInt 3 G v_l l Ms_l) (i : Nat) (j : Nat) (hi : i < l.length) (hj : j < l.length) :
    Fc Tryz.prog 182 [v_l, nt9 i, nt9 j] G Ms_l (fun v G' M' => v = .tuple #[] ∧ OwnR eInt 3 G' v_l (swapL l i j) M') := by
 have hl := h_l.len47
 have ho_i : i64 l[i] := by obtain ⟨_, _, _, h⟩ := h_l.at hi; exact h
 have ho_j : i64 l[j] := by obtain ⟨_, _, _, h⟩ := h_l.at hj; exact h
 have hls : (l.set i l[j]).length = l.length := List.length_set ..
 refine Fc.go [] Tryz.func182 Tryz.ntmps182 rfl (fun w0 => (WC.perm (M' := (Ms_l ++ [])) (by simp) (WC.dw sn9 (d9 [0, 1, 2, 3, 4, 5] ?_))))
 refine h_l.a2 (i := j) om9 (fun he9 hi10 => (WD.tk 6 rfl (ok_indexAddrO (i := j) sl148 ty3 h_l rfl rfl ⟨om9, om9⟩) (d9 [8, 9] ?_)))
 refine h_l.a2 (i := i) om9 (fun he13 hi14 => (WD.tk 10 rfl (ok_indexAddrO (i := i) sl148 ty3 h_l rfl rfl ⟨om9, om9⟩) ?_))
 refine WD.any [7, 11] (by kernel_rfl) rfl ⟨WD.ap ?_, WD.ap ?_, trivial⟩
 ·refine W.ok (ok_loadO (vs := ic9) ty3 he9 pr9 rfl rfl rfl (by simp)) (W.nn (WD.a1 11 rfl (W.ok (ok_loadO (vs := ic9) ty3 he13 pr9 rfl rfl rfl (by simp)) (W.nn (h_l.a2 (i := i) om9 (fun he17 hi18 => (WD.tk 12 rfl (ok_indexAddrO (i := i) sl148 ty3 h_l rfl rfl ⟨om9, om9⟩) (WD.a1 13 rfl (W.storeO (i := i) (o := 0) (vs := ic9) (a' := l[j]) ty3 rfl rfl rfl rfl rfl (h_l) pr9 om9 (by decide) (fun cs h => by rw [h.1]; exact ⟨rfl, ho_j⟩) (fun Ms21 ho22 => (W.nn (ho22.a2 (i := j) om9 (fun he23 hi24 => (WD.tk 14 rfl (ok_indexAddrO (i := j) sl148 ty3 ho22 rfl rfl ⟨om9, om9⟩) (WD.a1 15 rfl (W.storeO (i := j) (o := 0) (vs := ic9) (a' := l[i]) ty3 rfl rfl rfl rfl rfl (ho22) pr9 om9 (by decide) (fun cs h => by rw [h.1]; exact ⟨rfl, ho_i⟩) (fun Ms27 ho28 => ?_)))))))))))))))))
  refine W.nn (WD.done (by kernel_rfl) ?_)
  refine ⟨.inl rfl, [], trivial, (Ms27 ++ []), sr9, ?_⟩
  have h := ho28
  refine ⟨rfl, ?_⟩
  rw [swapL, nth_lt hi, nth_lt hj, List.append_nil]; exact h
 refine W.ok (ok_loadO (vs := ic9) ty3 he13 pr9 rfl rfl rfl (by simp)) (W.nn (WD.a1 7 rfl (W.ok (ok_loadO (vs := ic9) ty3 he9 pr9 rfl rfl rfl (by simp)) (W.nn (h_l.a2 (i := i) om9 (fun he29 hi30 => (WD.tk 12 rfl (ok_indexAddrO (i := i) sl148 ty3 h_l rfl rfl ⟨om9, om9⟩) (WD.a1 13 rfl (W.storeO (i := i) (o := 0) (vs := ic9) (a' := l[j]) ty3 rfl rfl rfl rfl rfl (h_l) pr9 om9 (by decide) (fun cs h => by rw [h.1]; exact ⟨rfl, ho_j⟩) (fun Ms33 ho34 => (W.nn (ho34.a2 (i := j) om9 (fun he35 hi36 => (WD.tk 14 rfl (ok_indexAddrO (i := j) sl148 ty3 ho34 rfl rfl ⟨om9, om9⟩) (WD.a1 15 rfl (W.storeO (i := j) (o := 0) (vs := ic9) (a' := l[i]) ty3 rfl rfl rfl rfl rfl (ho34) pr9 om9 (by decide) (fun cs h => by rw [h.1]; exact ⟨rfl, ho_i⟩) (fun Ms39 ho40 => ?_)))))))))))))))))
 refine W.nn (WD.done (by kernel_rfl) ?_)
 refine ⟨.inl rfl, [], trivial, (Ms39 ++ []), sr9, ?_⟩
 have h := ho40
 refine ⟨rfl, ?_⟩
 rw [swapL, nth_lt hi, nth_lt hj, List.append_nil]; exact h

theorem lpush_fc {G : GH} {b_b : Nat} {Tb : TypeId} {c0 : Value} {c1 : Value} {v_l : Value} {l : List Int} {Ms_l : MH} (h_l : OwnR eInt 3 G v_l l Ms_l) (a : Int) (hi_a : i64 a) (hb : l.length < 1000000) :
    Fc Tryz.prog 184 [.pointer (some ⟨b_b, 2, none⟩), .iface 3 (iV a)] G ((b_b, ce9 Tb [c0, c1, v_l]) :: (Ms_l)) (fun v G' M' => v = .tuple #[] ∧ ∃ v' Ms', M' = (b_b, ce9 Tb [c0, c1, v']) :: Ms' ∧ OwnR eInt 3 G' v' (l ++ [a]) Ms') := by
 obtain ⟨sa_l, sc_l, rfl⟩ := h_l.form
 refine Fc.go [] Tryz.func184 Tryz.ntmps184 rfl (fun w0 => (WC.perm (M' := ((b_b, ce9 Tb [c0, c1, lV sa_l l.length sc_l]) :: (Ms_l ++ []))) (by simp) (WC.dw (sn9.cons _) (d9 [0, 1, 2, 4] ?_))))
 refine WD.tk 5 rfl (ok_tyA pi3 rfl) ?_
 refine WD.any [3, 6] (by kernel_rfl) rfl ⟨WD.ap ?_, WD.ap ?_, trivial⟩
 ·refine g9 1 ?_
  refine W.nn (WD.a1 6 rfl (W.lit (e := eInt) (l := [a]) (css := [[iV _]]) sl148 ty3 zr3 rfl rfl rfl rfl rfl rfl ⟨⟨rfl, hi_a⟩, trivial⟩ (fun bl41 G41 hG41 hv41 => (W.nn (WD.a1 7 rfl (W.app (e := eInt) sl148 ty3 zr3 rfl by3 rfl rfl ((h_l.mono hG41)) (hv41) (pmC pr9) (by show (_ + 1) * 8 ≤ _; omega) (fun v42 Ms43 ho44 => (W.perm (pmC pr9).symm ?_))))))))
  have q48 := ho44.form
  refine match q48 with | ⟨sa45, sc46, e_47⟩ => ?_
  subst e_47
  refine W.nn (d9 [8, 9] ?_)
  refine WD.done (by kernel_rfl) ?_
  refine ⟨.inl rfl, [], trivial, ((b_b, ce9 Tb [c0, c1, lV sa45 ((l ++ [a])).length sc46]) :: (Ms43 ++ [])), sr9.k9, ?_⟩
  exact ⟨rfl, _, _, congrArg _ (List.append_nil _), ho44⟩
 refine W.lit (e := eInt) (l := [a]) (css := [[iV _]]) sl148 ty3 zr3 rfl rfl rfl rfl rfl rfl ⟨⟨rfl, hi_a⟩, trivial⟩ (fun bl49 G49 hG49 hv49 => (W.nn (WD.a1 3 rfl (g9 1 ?_))))
 refine W.nn (WD.a1 7 rfl (W.app (e := eInt) sl148 ty3 zr3 rfl by3 rfl rfl ((h_l.mono hG49)) (hv49) (pmC pr9) (by show (_ + 1) * 8 ≤ _; omega) (fun v50 Ms51 ho52 => (W.perm (pmC pr9).symm ?_))))
 have q56 := ho52.form
 refine match q56 with | ⟨sa53, sc54, e_55⟩ => ?_
 subst e_55
 refine W.nn (d9 [8, 9] ?_)
 refine WD.done (by kernel_rfl) ?_
 refine ⟨.inl rfl, [], trivial, ((b_b, ce9 Tb [c0, c1, lV sa53 ((l ++ [a])).length sc54]) :: (Ms51 ++ [])), sr9.k9, ?_⟩
 exact ⟨rfl, _, _, congrArg _ (List.append_nil _), ho52⟩

theorem lpop_fc {G : GH} {b_b : Nat} {Tb : TypeId} {c0 : Value} {c1 : Value} {v_l : Value} {l : List Int} {Ms_l : MH} (h_l : OwnR eInt 3 G v_l l Ms_l) (h0 : 0 < l.length) :
    Fc Tryz.prog 183 [.pointer (some ⟨b_b, 2, none⟩)] G ((b_b, ce9 Tb [c0, c1, v_l]) :: (Ms_l)) (fun v G' M' => v = .iface 3 (iV (nth l (l.length - 1))) ∧ i64 (nth l (l.length - 1)) ∧ ∃ v' Ms', M' = (b_b, ce9 Tb [c0, c1, v']) :: Ms' ∧ OwnR eInt 3 G' v' (l.take (l.length - 1)) Ms') := by
 obtain ⟨sa_l, sc_l, rfl⟩ := h_l.form
 have hl := h_l.len47
 have hlast : nth l (l.length - 1) = l[l.length - 1] := nth_lt om9
 have ho_z : i64 l[l.length - 1] := by obtain ⟨_, _, _, h⟩ := h_l.at (i := l.length - 1) om9; exact h
 refine Fc.go [.tmp 2] Tryz.func183 Tryz.ntmps183 rfl (fun w0 => (WC.perm (M' := ((b_b, ce9 Tb [c0, c1, lV sa_l l.length sc_l]) :: (Ms_l ++ []))) (by simp) (g9 11 ?_)))
 refine W.ok (Ok.int (n := ((l.length - 1 : Nat) : Int)) (ok_sub rfl rfl om9) om9) (g9 9 ?_)
 refine h_l.a2 (i := l.length - 1) om9 (fun he57 hi58 => (W.ok (ok_indexAddrO (i := l.length - 1) sl148 ty3 h_l rfl rfl ⟨om9, om9⟩) (W.ok (ok_loadO (vs := ic9) ty3 he57 (pmC pr9) rfl rfl rfl (by simp)) (g9 10 ?_))))
 refine W.shortO (l.length - 1) sl148 ty3 h_l rfl ⟨_, _, rfl, om9⟩ om9 (fun v61 ho62 => ?_)
 have q66 := ho62.form
 refine match q66 with | ⟨sa63, sc64, e_65⟩ => ?_
 subst e_65
 refine g9 7 ?_
 refine W.ok (ok_mkI pi3 rfl) (g9 4 ?_)
 refine ⟨.inr rfl, [_], ⟨rfl, trivial⟩, ((b_b, ce9 Tb [c0, c1, lV sa63 (((l).take (l.length - 1))).length sc64]) :: (Ms_l ++ [])), sr9.k9, ?_⟩
 exact ⟨by rw [hlast]; rfl, by rw [hlast]; exact ho_z, _, _, congrArg _ (List.append_nil _), ho62⟩

theorem hlen_fc {G : GH} {v_l : Value} {l : List Hd} {Ms_l : MH} (h_l : OwnR eHead 208 G v_l l Ms_l) :
    Fc Tryz.prog 141 [v_l] G Ms_l (fun v _ M' => v = iV ((l.length : Int)) ∧ Ms_l = M') := by
 refine Fc.go [.tmp 2] Tryz.func141 Tryz.ntmps141 rfl (fun w0 => (WC.perm (M' := (Ms_l ++ [])) (by simp) (g9 13 ?_)))
 refine ⟨.inr rfl, [_], ⟨rfl, trivial⟩, Ms_l, List.sublist_append_left _ _, ?_⟩
 exact ⟨rfl, rfl⟩

theorem hless_fc {G : GH} {v_l : Value} {l : List Hd} {Ms_l : MH} (h_l : OwnR eHead 208 G v_l l Ms_l) (i : Nat) (j : Nat) (hi : i < l.length) (hj : j < l.length) (hi0 : 0 < l[i].1.length) (hj0 : 0 < l[j].1.length) :
    Fc Tryz.prog 185 [v_l, nt9 i, nt9 j] G Ms_l (fun v _ M' => v = .bool (Hd.lt (nth l i) (nth l j)) ∧ Ms_l = M') := by
 have hl := h_l.len47
 refine Fc.go [.tmp 6] Tryz.func185 Tryz.ntmps185 rfl (fun w0 => (WC.perm (M' := (Ms_l ++ [])) (by simp) (g9 6 ?_)))
 refine WC.dw sr9 (d9 [0, 1] ?_)
 have q4 := h_l.at (i := i) om9
 refine match q4 with | ⟨_, he1, ⟨_, _, e_3, hw_n2, hok_n2⟩⟩ => ?_
 subst e_3
 refine WD.tk 2 rfl (ok_indexAddrO (i := i) sl205 ty208 h_l rfl rfl ⟨om9, om9⟩) (WD.tk 3 rfl (ok_loadO (vs := [lV _ _ _, iV _]) ty208 he1 pr9 rfl rfl rfl (by simp)) (d9 [4, 5] ?_))
 have q8 := h_l.at (i := j) om9
 refine match q8 with | ⟨_, he5, ⟨_, _, e_7, hw_n6, hok_n6⟩⟩ => ?_
 subst e_7
 refine WD.tk 6 rfl (ok_indexAddrO (i := j) sl205 ty208 h_l rfl rfl ⟨om9, om9⟩) (WD.tk 7 rfl (ok_loadO (vs := [lV _ _ _, iV _]) ty208 he5 pr9 rfl rfl rfl (by simp)) ?_)
 refine WD.any [8, 9] (by kernel_rfl) rfl ⟨WD.ap ?_, WD.ap ?_, trivial⟩
 ·refine W.alloc zr208 (fun b9 => (W.nn (WD.a1 9 rfl (W.alloc zr208 (fun b10 => (W.nn (d9 [10, 11] ?_)))))))
  refine g9 6 ?_
  refine hw_n2.a2 (i := 0) om9 (fun he11 hm12 => (W.ok (ok_indexAddr (i := 0) sl40 ty118 hw_n2 rfl rfl ⟨om9, om9⟩) (g9 4 ?_)))
  refine hw_n6.a2 (i := 0) om9 (fun he16 hm17 => (W.ok (ok_indexAddr (i := 0) sl40 ty118 hw_n6 rfl rfl ⟨om9, om9⟩) (g9 4 ?_)))
  refine W.sd 28 (fun h27 p27 => ?_) (fun h27 p27 => ?_)
  ·refine g9 23 ?_
   refine ⟨.inr rfl, [_], ⟨rfl, trivial⟩, Ms_l, ((List.sublist_append_left _ _).cons _).cons _, ?_⟩
   refine ⟨?_, rfl⟩
   refine congrArg Value.bool ?_
   rw [nth_lt hi, nth_lt hj, Hd.lt, Hd.st_at hi0, Hd.st_at hj0]
   simp_all
  refine g9 5 ?_
  refine hw_n2.a2 (i := 0) om9 (fun he21 hm22 => (W.ok (ok_indexAddr (i := 0) sl40 ty118 hw_n2 rfl rfl ⟨om9, om9⟩) (g9 9 ?_)))
  refine hw_n6.a2 (i := 0) om9 (fun he26 hm27 => (W.ok (ok_indexAddr (i := 0) sl40 ty118 hw_n6 rfl rfl ⟨om9, om9⟩) (g9 8 ?_)))
  refine W.sd 40 (fun h39 p39 => ?_) (fun h39 p39 => ?_)
  ·refine g9 17 ?_
   refine ⟨.inr rfl, [_], ⟨rfl, trivial⟩, Ms_l, ((List.sublist_append_left _ _).cons _).cons _, ?_⟩
   refine ⟨?_, rfl⟩
   refine congrArg Value.bool ?_
   rw [nth_lt hi, nth_lt hj, Hd.lt, Hd.st_at hi0, Hd.st_at hj0]
   simp_all
  refine g9 12 ?_
  refine ⟨.inr rfl, [_], ⟨rfl, trivial⟩, Ms_l, ((List.sublist_append_left _ _).cons _).cons _, ?_⟩
  refine ⟨?_, rfl⟩
  refine congrArg Value.bool ?_
  rw [nth_lt hi, nth_lt hj, Hd.lt, Hd.st_at hi0, Hd.st_at hj0]
  simp_all
 refine W.alloc zr208 (fun b31 => (W.nn (WD.a1 8 rfl (W.alloc zr208 (fun b32 => (W.nn (d9 [10, 11] ?_)))))))
 refine g9 6 ?_
 refine hw_n2.a2 (i := 0) om9 (fun he33 hm34 => (W.ok (ok_indexAddr (i := 0) sl40 ty118 hw_n2 rfl rfl ⟨om9, om9⟩) (g9 4 ?_)))
 refine hw_n6.a2 (i := 0) om9 (fun he38 hm39 => (W.ok (ok_indexAddr (i := 0) sl40 ty118 hw_n6 rfl rfl ⟨om9, om9⟩) (g9 4 ?_)))
 refine W.sd 28 (fun h27 p27 => ?_) (fun h27 p27 => ?_)
 ·refine g9 23 ?_
  refine ⟨.inr rfl, [_], ⟨rfl, trivial⟩, Ms_l, ((List.sublist_append_left _ _).cons _).cons _, ?_⟩
  refine ⟨?_, rfl⟩
  refine congrArg Value.bool ?_
  rw [nth_lt hi, nth_lt hj, Hd.lt, Hd.st_at hi0, Hd.st_at hj0]
  simp_all
 refine g9 5 ?_
 refine hw_n2.a2 (i := 0) om9 (fun he43 hm44 => (W.ok (ok_indexAddr (i := 0) sl40 ty118 hw_n2 rfl rfl ⟨om9, om9⟩) (g9 9 ?_)))
 refine hw_n6.a2 (i := 0) om9 (fun he48 hm49 => (W.ok (ok_indexAddr (i := 0) sl40 ty118 hw_n6 rfl rfl ⟨om9, om9⟩) (g9 8 ?_)))
 refine W.sd 40 (fun h39 p39 => ?_) (fun h39 p39 => ?_)
 ·refine g9 17 ?_
  refine ⟨.inr rfl, [_], ⟨rfl, trivial⟩, Ms_l, ((List.sublist_append_left _ _).cons _).cons _, ?_⟩
  refine ⟨?_, rfl⟩
  refine congrArg Value.bool ?_
  rw [nth_lt hi, nth_lt hj, Hd.lt, Hd.st_at hi0, Hd.st_at hj0]
  simp_all
 refine g9 12 ?_
 refine ⟨.inr rfl, [_], ⟨rfl, trivial⟩, Ms_l, ((List.sublist_append_left _ _).cons _).cons _, ?_⟩
 refine ⟨?_, rfl⟩
 refine congrArg Value.bool ?_
 rw [nth_lt hi, nth_lt hj, Hd.lt, Hd.st_at hi0, Hd.st_at hj0]
 simp_all

theorem hswap_fc {G : GH} {v_l : Value} {l : List Hd} {Ms_l : MH} (h_l : OwnR eHead 208 G v_l l Ms_l) (i : Nat) (j : Nat) (hi : i < l.length) (hj : j < l.length) :
    Fc Tryz.prog 188 [v_l, nt9 i, nt9 j] G Ms_l (fun v G' M' => v = .tuple #[] ∧ OwnR eHead 208 G' v_l (swapL l i j) M') := by
 have hl := h_l.len47
 have hls : (l.set i l[j]).length = l.length := List.length_set ..
 refine Fc.go [] Tryz.func188 Tryz.ntmps188 rfl (fun w0 => (WC.perm (M' := (Ms_l ++ [])) (by simp) (WC.dw sn9 (d9 [0, 1, 2, 3, 4, 5] ?_))))
 have q56 := h_l.at (i := j) om9
 refine match q56 with | ⟨_, he53, ⟨_, _, e_55, hw_n54, hok_n54⟩⟩ => ?_
 subst e_55
 refine WD.tk 6 rfl (ok_indexAddrO (i := j) sl205 ty208 h_l rfl rfl ⟨om9, om9⟩) (d9 [8, 9] ?_)
 have q60 := h_l.at (i := i) om9
 refine match q60 with | ⟨_, he57, ⟨_, _, e_59, hw_n58, hok_n58⟩⟩ => ?_
 subst e_59
 refine WD.tk 10 rfl (ok_indexAddrO (i := i) sl205 ty208 h_l rfl rfl ⟨om9, om9⟩) ?_
 refine WD.any [7, 11] (by kernel_rfl) rfl ⟨WD.ap ?_, WD.ap ?_, trivial⟩
 ·refine W.ok (ok_loadO (vs := [lV _ _ _, iV _]) ty208 he53 pr9 rfl rfl rfl (by simp)) (W.nn (WD.a1 11 rfl (W.ok (ok_loadO (vs := [lV _ _ _, iV _]) ty208 he57 pr9 rfl rfl rfl (by simp)) (W.nn ?_))))
  have q64 := h_l.at (i := i) om9
  refine match q64 with | ⟨_, he61, ⟨_, _, e_63, hw_n62, hok_n62⟩⟩ => ?_
  subst e_63
  refine WD.tk 12 rfl (ok_indexAddrO (i := i) sl205 ty208 h_l rfl rfl ⟨om9, om9⟩) (WD.a1 13 rfl (W.storeO (i := i) (o := 0) (vs := [lV _ _ _, iV _]) (a' := l[j]) ty208 rfl rfl rfl rfl rfl (h_l) pr9 om9 (by decide) (fun cs h => by obtain ⟨_, _, rfl, _⟩ := h; exact ⟨_, _, rfl, hw_n54, hok_n54⟩) (fun Ms65 ho66 => (W.nn ?_))))
  have q70 := ho66.at (i := j) om9
  refine match q70 with | ⟨_, he67, ⟨_, _, e_69, hw_n68, hok_n68⟩⟩ => ?_
  subst e_69
  refine WD.tk 14 rfl (ok_indexAddrO (i := j) sl205 ty208 ho66 rfl rfl ⟨om9, om9⟩) (WD.a1 15 rfl (W.storeO (i := j) (o := 0) (vs := [lV _ _ _, iV _]) (a' := l[i]) ty208 rfl rfl rfl rfl rfl (ho66) pr9 om9 (by decide) (fun cs h => by obtain ⟨_, _, rfl, _⟩ := h; exact ⟨_, _, rfl, hw_n58, hok_n58⟩) (fun Ms71 ho72 => (W.nn (WD.done (by kernel_rfl) ?_)))))
  refine ⟨.inl rfl, [], trivial, (Ms71 ++ []), sr9, ?_⟩
  have h := ho72
  refine ⟨rfl, ?_⟩
  rw [swapL, nth_lt hi, nth_lt hj, List.append_nil]; exact h
 refine W.ok (ok_loadO (vs := [lV _ _ _, iV _]) ty208 he57 pr9 rfl rfl rfl (by simp)) (W.nn (WD.a1 7 rfl (W.ok (ok_loadO (vs := [lV _ _ _, iV _]) ty208 he53 pr9 rfl rfl rfl (by simp)) (W.nn ?_))))
 have q76 := h_l.at (i := i) om9
 refine match q76 with | ⟨_, he73, ⟨_, _, e_75, hw_n74, hok_n74⟩⟩ => ?_
 subst e_75
 refine WD.tk 12 rfl (ok_indexAddrO (i := i) sl205 ty208 h_l rfl rfl ⟨om9, om9⟩) (WD.a1 13 rfl (W.storeO (i := i) (o := 0) (vs := [lV _ _ _, iV _]) (a' := l[j]) ty208 rfl rfl rfl rfl rfl (h_l) pr9 om9 (by decide) (fun cs h => by obtain ⟨_, _, rfl, _⟩ := h; exact ⟨_, _, rfl, hw_n54, hok_n54⟩) (fun Ms77 ho78 => (W.nn ?_))))
 have q82 := ho78.at (i := j) om9
 refine match q82 with | ⟨_, he79, ⟨_, _, e_81, hw_n80, hok_n80⟩⟩ => ?_
 subst e_81
 refine WD.tk 14 rfl (ok_indexAddrO (i := j) sl205 ty208 ho78 rfl rfl ⟨om9, om9⟩) (WD.a1 15 rfl (W.storeO (i := j) (o := 0) (vs := [lV _ _ _, iV _]) (a' := l[i]) ty208 rfl rfl rfl rfl rfl (ho78) pr9 om9 (by decide) (fun cs h => by obtain ⟨_, _, rfl, _⟩ := h; exact ⟨_, _, rfl, hw_n58, hok_n58⟩) (fun Ms83 ho84 => (W.nn (WD.done (by kernel_rfl) ?_)))))
 refine ⟨.inl rfl, [], trivial, (Ms83 ++ []), sr9, ?_⟩
 have h := ho84
 refine ⟨rfl, ?_⟩
 rw [swapL, nth_lt hi, nth_lt hj, List.append_nil]; exact h

theorem hdpush_fc {G : GH} {b_b : Nat} {Tb : TypeId} {v_l : Value} {l : List Hd} {Ms_l : MH} (h_l : OwnR eHead 208 G v_l l Ms_l) {pa_a : Option Addr} {pc_a : Nat} {a : Hd} (hw_a : SlR eMsg G (lV pa_a a.1.length pc_a) a.1) (hok_a : i64 a.2) (hb : l.length < 1000000) :
    Fc Tryz.prog 187 [pt9 b_b, .iface 208 (.agg #[lV pa_a a.1.length pc_a, iV a.2])] G ((b_b, ce9 Tb [v_l]) :: (Ms_l)) (fun v G' M' => v = .tuple #[] ∧ ∃ v' Ms', M' = (b_b, ce9 Tb [v']) :: Ms' ∧ OwnR eHead 208 G' v' (l ++ [a]) Ms') := by
 obtain ⟨sa_l, sc_l, rfl⟩ := h_l.form
 refine Fc.go [] Tryz.func187 Tryz.ntmps187 rfl (fun w0 => (WC.perm (M' := ((b_b, ce9 Tb [lV sa_l l.length sc_l]) :: (Ms_l ++ []))) (by simp) (WC.dw (sn9.cons _) (d9 [0, 1, 2, 4] ?_))))
 refine WD.tk 5 rfl (ok_tyA pi208 rfl) ?_
 refine WD.any [3, 6] (by kernel_rfl) rfl ⟨WD.ap ?_, WD.ap ?_, trivial⟩
 ·refine g9 1 ?_
  refine W.nn (WD.a1 6 rfl (W.lit (e := eHead) (l := [a]) (css := [[lV _ _ _, iV _]]) sl205 ty208 zr208 rfl rfl rfl rfl rfl rfl ⟨⟨_, _, rfl, hw_a, hok_a⟩, trivial⟩ (fun bl85 G85 hG85 hv85 => (W.nn (WD.a1 7 rfl (W.app (e := eHead) sl205 ty208 zr208 rfl by208 rfl rfl ((h_l.mono hG85)) (hv85) (pmC pr9) (by show (_ + 1) * 32 ≤ _; omega) (fun v86 Ms87 ho88 => (W.perm (pmC pr9).symm ?_))))))))
  have q92 := ho88.form
  refine match q92 with | ⟨sa89, sc90, e_91⟩ => ?_
  subst e_91
  refine W.nn (d9 [8, 9] ?_)
  refine WD.done (by kernel_rfl) ?_
  refine ⟨.inl rfl, [], trivial, ((b_b, ce9 Tb [lV sa89 ((l ++ [a])).length sc90]) :: (Ms87 ++ [])), sr9.k9, ?_⟩
  exact ⟨rfl, _, _, congrArg _ (List.append_nil _), ho88⟩
 refine W.lit (e := eHead) (l := [a]) (css := [[lV _ _ _, iV _]]) sl205 ty208 zr208 rfl rfl rfl rfl rfl rfl ⟨⟨_, _, rfl, hw_a, hok_a⟩, trivial⟩ (fun bl93 G93 hG93 hv93 => (W.nn (WD.a1 3 rfl (g9 1 ?_))))
 refine W.nn (WD.a1 7 rfl (W.app (e := eHead) sl205 ty208 zr208 rfl by208 rfl rfl ((h_l.mono hG93)) (hv93) (pmC pr9) (by show (_ + 1) * 32 ≤ _; omega) (fun v94 Ms95 ho96 => (W.perm (pmC pr9).symm ?_))))
 have q100 := ho96.form
 refine match q100 with | ⟨sa97, sc98, e_99⟩ => ?_
 subst e_99
 refine W.nn (d9 [8, 9] ?_)
 refine WD.done (by kernel_rfl) ?_
 refine ⟨.inl rfl, [], trivial, ((b_b, ce9 Tb [lV sa97 ((l ++ [a])).length sc98]) :: (Ms95 ++ [])), sr9.k9, ?_⟩
 exact ⟨rfl, _, _, congrArg _ (List.append_nil _), ho96⟩

theorem hdpop_fc {G : GH} {b_b : Nat} {Tb : TypeId} {v_l : Value} {l : List Hd} {Ms_l : MH} (h_l : OwnR eHead 208 G v_l l Ms_l) (h0 : 0 < l.length) :
    Fc Tryz.prog 186 [pt9 b_b] G ((b_b, ce9 Tb [v_l]) :: (Ms_l)) (fun v G' M' => (∃ p c, v = .iface 208 (.agg (List.toArray [lV p (nth l (l.length - 1)).1.length c, iV (nth l (l.length - 1)).2])) ∧ SlR eMsg G' (lV p (nth l (l.length - 1)).1.length c) (nth l (l.length - 1)).1 ∧ i64 (nth l (l.length - 1)).2) ∧ ∃ v' Ms', M' = (b_b, ce9 Tb [v']) :: Ms' ∧ OwnR eHead 208 G' v' (l.take (l.length - 1)) Ms') := by
 obtain ⟨sa_l, sc_l, rfl⟩ := h_l.form
 have hl := h_l.len47
 have hlast : nth l (l.length - 1) = l[l.length - 1] := nth_lt om9
 refine Fc.go [.tmp 2] Tryz.func186 Tryz.ntmps186 rfl (fun w0 => (WC.perm (M' := ((b_b, ce9 Tb [lV sa_l l.length sc_l]) :: (Ms_l ++ []))) (by simp) (g9 11 ?_)))
 refine W.ok (Ok.int (n := ((l.length - 1 : Nat) : Int)) (ok_sub rfl rfl om9) om9) (g9 9 ?_)
 have q104 := h_l.at (i := l.length - 1) om9
 refine match q104 with | ⟨_, he101, ⟨_, _, e_103, hw_n102, hok_n102⟩⟩ => ?_
 subst e_103
 refine W.ok (ok_indexAddrO (i := l.length - 1) sl205 ty208 h_l rfl rfl ⟨om9, om9⟩) (W.ok (ok_loadO (vs := [lV _ _ _, iV _]) ty208 he101 (pmC pr9) rfl rfl rfl (by simp)) (W.alloc zr208 (fun b105 => (g9 10 ?_))))
 refine W.shortO (l.length - 1) sl205 ty208 h_l rfl ⟨_, _, rfl, om9⟩ om9 (fun v106 ho107 => ?_)
 have q111 := ho107.form
 refine match q111 with | ⟨sa108, sc109, e_110⟩ => ?_
 subst e_110
 refine g9 7 ?_
 refine W.ok (ok_mkI pi208 rfl) (g9 4 ?_)
 refine ⟨.inr rfl, [_], ⟨rfl, trivial⟩, ((b_b, ce9 Tb [lV sa108 (((l).take (l.length - 1))).length sc109]) :: (Ms_l ++ [])), sr9.k9.cons _, ?_⟩
 exact ⟨by rw [hlast]; exact ⟨_, _, rfl, hw_n102, hok_n102⟩, _, _, congrArg _ (List.append_nil _), ho107⟩


abbrev LeastR (b : Nat) (Tb : TypeId) (c0 c1 : Value) (G : GH) (l : List Int) (M : MH) : Prop := ∃ v Ms, M = (b, ce9 Tb [c0, c1, v]) :: Ms ∧ OwnR eInt 3 G v l Ms
theorem least_heap {b : Nat} {Tb : TypeId} {c0 c1 : Value} : HeapK Tryz.prog (fun a b : Int => decide (a < b)) (.iface 178 (.pointer (some ⟨b, 2, none⟩))) (LeastR b Tb c0 c1) (fun _ u a => u = .iface 3 (iV a) ∧ i64 a) where
  mono := fun hl ⟨v, Ms, h1, h2⟩ => ⟨v, Ms, h1, h2.mono hl⟩
  bound := fun ⟨v, Ms, h1, h2⟩ => h2.len47
  len := fun {G l M} ⟨v, Ms, h1, h2⟩ => by
    subst h1
    exact Inv.val (e := 148) (by kernel_rfl) (by kernel_rfl) rfl (llen_fc h2) (fun v' G' M' hl ⟨e1, e2⟩ => ⟨e1, by rw [← e2]⟩)
  less := fun {G l M i j} ⟨v, Ms, h1, h2⟩ hi hj => by
    subst h1
    exact Inv.val (e := 148) (by kernel_rfl) (by kernel_rfl) rfl (lless_fc h2 i j hi hj) (fun v' G' M' hl ⟨e1, e2⟩ => ⟨e1, by rw [← e2]⟩)
  swap := fun {G l M i j} ⟨v, Ms, h1, h2⟩ hi hj => by
    subst h1
    exact Inv.val (e := 148) (by kernel_rfl) (by kernel_rfl) rfl (lswap_fc h2 i j hi hj) (fun v' G' M' hl ⟨e1, e2⟩ => ⟨e1, v, M', rfl, e2⟩)
  push := fun _ {G l M u a} ⟨v, Ms, h1, h2⟩ hb ⟨h3, h4⟩ => by
    subst h1 h3
    exact Inv.ptr (g := 184) (by kernel_rfl) (lpush_fc h2 a h4 hb) (fun v' G' M' hl ⟨e1, v2, M2, e2, e3⟩ => ⟨e1, v2, M2, e2, e3⟩)
  pop := fun {G l M} ⟨v, Ms, h1, h2⟩ h0 => by
    subst h1
    exact Inv.ptr (g := 183) (by kernel_rfl) (lpop_fc h2 h0) (fun v' G' M' hl ⟨e1, e4, v2, M2, e2, e3⟩ => ⟨⟨e1, e4⟩, v2, M2, e2, e3⟩)

abbrev HeadsR (b : Nat) (Tb : TypeId) (G : GH) (l : List Hd) (M : MH) : Prop := (∀ h ∈ l, 0 < h.1.length) ∧ ∃ v Ms, M = (b, ce9 Tb [v]) :: Ms ∧ OwnR eHead 208 G v l Ms
abbrev HeadV (G : GH) (u : Value) (a : Hd) : Prop := (∃ p c, u = .iface 208 (.agg (List.toArray [lV p a.1.length c, iV a.2])) ∧ SlR eMsg G (lV p a.1.length c) a.1 ∧ i64 a.2) ∧ 0 < a.1.length
theorem headV_mono {G G' : GH} {v : Value} {a : Hd} (hl : Le G G') (h : HeadV G v a) : HeadV G' v a := by
  obtain ⟨⟨p, c, h1, h2, h3⟩, h4⟩ := h; exact ⟨⟨p, c, h1, h2.mono hl, h3⟩, h4⟩
theorem heads_heap {b : Nat} {Tb : TypeId} : HeapK Tryz.prog Hd.lt (.iface 203 (pt9 b)) (HeadsR b Tb) HeadV where
  mono := fun hl ⟨h0, v, Ms, h1, h2⟩ => ⟨h0, v, Ms, h1, h2.mono hl⟩
  bound := fun ⟨h0, v, Ms, h1, h2⟩ => h2.len47
  len := fun {G l M} ⟨h0, v, Ms, h1, h2⟩ => by
    subst h1
    exact Inv.val (e := 205) (by kernel_rfl) (by kernel_rfl) rfl (hlen_fc h2) (fun v' G' M' hl ⟨e1, e2⟩ => ⟨e1, by rw [← e2]⟩)
  less := fun {G l M i j} ⟨h0, v, Ms, h1, h2⟩ hi hj => by
    subst h1
    exact Inv.val (e := 205) (by kernel_rfl) (by kernel_rfl) rfl (hless_fc h2 i j hi hj (h0 _ (List.getElem_mem hi)) (h0 _ (List.getElem_mem hj))) (fun v' G' M' hl ⟨e1, e2⟩ => ⟨e1, by rw [← e2]⟩)
  swap := fun {G l M i j} ⟨h0, v, Ms, h1, h2⟩ hi hj => by
    subst h1
    exact Inv.val (e := 205) (by kernel_rfl) (by kernel_rfl) rfl (hswap_fc h2 i j hi hj) (fun v' G' M' hl ⟨e1, e2⟩ => ⟨e1, fun x hx => h0 x ((swapL_perm hi hj).mem_iff.1 hx), v, M', rfl, e2⟩)
  push := fun _ {G l M u a} ⟨h0, v, Ms, h1, h2⟩ hb ⟨⟨p, c, h3, h4, h5⟩, h6⟩ => by
    subst h1 h3
    exact Inv.ptr (g := 187) (by kernel_rfl) (hdpush_fc h2 h4 h5 hb) (fun v' G' M' hl ⟨e1, v2, M2, e2, e3⟩ => ⟨e1, fun x hx => (List.mem_append.1 hx).elim (h0 x) (fun hx => by rw [List.mem_singleton.1 hx]; exact h6), v2, M2, e2, e3⟩)
  pop := fun {G l M} ⟨h0, v, Ms, h1, h2⟩ hl0 => by
    subst h1
    exact Inv.ptr (g := 186) (by kernel_rfl) (hdpop_fc h2 hl0) (fun v' G' M' hl ⟨e1, v2, M2, e2, e3⟩ => ⟨⟨e1, by rw [nth_lt om9]; exact h0 _ (List.getElem_mem _)⟩, fun x hx => h0 x (List.mem_of_mem_take hx), v2, M2, e2, e3⟩)
theorem shasn_fc {G : GH} {b_s : Nat} {v_c : Value} {c : List Nd} {Ms_c : MH} (h_c : OwnR eNode 43 G v_c c Ms_c) {v_u : Value} {u : List Bool} {Ms_u : MH} (h_u : OwnR eBool 4 G v_u u Ms_u) {v_f : Value} {f : List Int} {Ms_f : MH} (h_f : OwnR eInt 3 G v_f f Ms_f) (i : Int) :
    Fc Tryz.prog 103 [pt9 b_s, iV i] G ((b_s, ce9 150 [v_c, v_u, v_f]) :: (Ms_c ++ (Ms_u ++ (Ms_f)))) (fun v G' M' => v = .bool (hasN u i) ∧ M' = (b_s, ce9 150 [v_c, v_u, v_f]) :: (Ms_c ++ (Ms_u ++ Ms_f))) := by
 obtain ⟨sa_c, sc_c, rfl⟩ := h_c.form
 obtain ⟨sa_u, sc_u, rfl⟩ := h_u.form
 obtain ⟨sa_f, sc_f, rfl⟩ := h_f.form
 have hl := h_u.len47
 refine Fc.go [.tmp 4] Tryz.func103 Tryz.ntmps103 rfl (fun w0 => (WC.perm (M' := ((b_s, ce9 150 [lV sa_c c.length sc_c, lV sa_u u.length sc_u, lV sa_f f.length sc_f]) :: (Ms_c ++ (Ms_u ++ (Ms_f ++ []))))) (by simp) (g9 8 ?_)))
 refine W.ok (ok_neqPN pp105 rfl rfl) (g9 7 ?_)
 refine W.sd 11 (fun h9 p9 => ?_) (fun h9 p9 => ?_)
 ·refine g9 16 ?_
  refine W.sd 20 (fun h18 p18 => ?_) (fun h18 p18 => ?_)
  ·refine g9 11 ?_
   refine h_u.a1 (i := i.toNat) om9 (fun he1 => (W.ok (ok_indexAddrO (i := i.toNat) sl147 ty4 h_u rfl rfl ⟨om9, om9⟩) (g9 1 ?_)))
   refine W.ok (ok_loadO (vs := bc9) ty4 he1 (pmC (pmA pr9)) rfl rfl rfl (by simp)) (g9 5 ?_)
   refine ⟨.inr rfl, [_], ⟨rfl, trivial⟩, ((b_s, ce9 150 [lV sa_c c.length sc_c, lV sa_u u.length sc_u, lV sa_f f.length sc_f]) :: (Ms_c ++ (Ms_u ++ (Ms_f ++ [])))), sr9.k9, ?_⟩
   exact ⟨congrArg Value.bool (hasN_get om9 om9), by simp⟩
  refine g9 12 ?_
  refine ⟨.inr rfl, [_], ⟨rfl, trivial⟩, ((b_s, ce9 150 [lV sa_c c.length sc_c, lV sa_u u.length sc_u, lV sa_f f.length sc_f]) :: (Ms_c ++ (Ms_u ++ (Ms_f ++ [])))), sr9.k9, ?_⟩
  exact ⟨congrArg Value.bool (hasN_big om9), by simp⟩
 refine g9 21 ?_
 refine ⟨.inr rfl, [_], ⟨rfl, trivial⟩, ((b_s, ce9 150 [lV sa_c c.length sc_c, lV sa_u u.length sc_u, lV sa_f f.length sc_f]) :: (Ms_c ++ (Ms_u ++ (Ms_f ++ [])))), sr9.k9, ?_⟩
 exact ⟨congrArg Value.bool (hasN_neg om9), by simp⟩

theorem ssetn_fc {G : GH} {b_s : Nat} {v_c : Value} {c : List Nd} {Ms_c : MH} (h_c : OwnR eNode 43 G v_c c Ms_c) {v_u : Value} {u : List Bool} {Ms_u : MH} (h_u : OwnR eBool 4 G v_u u Ms_u) {v_f : Value} {f : List Int} {Ms_f : MH} (h_f : OwnR eInt 3 G v_f f Ms_f) (i : Int) {cs_x : List Value} {x : Nd} (h_x : NodeC G cs_x x) (hcu : c.length = u.length) (hn : u.length ≤ 4096) (hh : Heap ltI f) (hp : f.Perm (freeN u)) :
    Fc Tryz.prog 89 [pt9 b_s, iV i, .agg (List.toArray cs_x)] G ((b_s, ce9 150 [v_c, v_u, v_f]) :: (Ms_c ++ (Ms_u ++ (Ms_f)))) (fun v G' M' => v = iV (layA (c, u) i x).1 ∧ ArR eNode 43 4 3 150 b_s G' (layA (c, u) i x).2 M') := by
 obtain ⟨pa_x, pc_x, ka_x, kc_x, ma_x, mc_x, ra_x, rc_x, rfl, hp_x, hk_x, hm_x, hr_x, hok_x⟩ := h_x
 obtain ⟨sa_c, sc_c, rfl⟩ := h_c.form
 obtain ⟨sa_u, sc_u, rfl⟩ := h_u.form
 obtain ⟨sa_f, sc_f, rfl⟩ := h_f.form
 have hl := h_u.len47
 have hlc := h_c.len47
 refine Fc.go [.tmp 6] Tryz.func89 Tryz.ntmps89 rfl (fun w0 => (WC.perm (M' := ((b_s, ce9 150 [lV sa_c c.length sc_c, lV sa_u u.length sc_u, lV sa_f f.length sc_f]) :: (Ms_c ++ (Ms_u ++ (Ms_f ++ []))))) (by simp) (g9 2 ?_)))
 refine W.box (L := [iV _, iV _, lV _ _ _, lV _ _ _, sV _, .bool _, iV _, iV _, lV _ _ _, lV _ _ _]) rfl rfl (fun b5 => (g9 7 ?_))
 refine W.ok (ok_eqlPN pp105 rfl rfl) (g9 10 ?_)
 refine W.call (Mp := ((b_s, ce9 150 [lV sa_c c.length sc_c, lV sa_u u.length sc_u, lV sa_f f.length sc_f]) :: (Ms_c ++ (Ms_u ++ Ms_f)))) (Mr := ((b5, ce9 43 (ndl x pa_x pc_x ka_x kc_x ma_x mc_x ra_x rc_x)) :: [])) (shasn_fc h_c h_u h_f _) rfl (((pmC ((pmF ((pmF pr9).trans pr9)).trans pr9)).cons _).trans ((List.Perm.swap _ _ _).trans (pr9.cons _))) ?_
 intro v9 G6 Ms8 hG6 q7
 refine match q7 with | ⟨e_10, e_11⟩ => ?_
 subst e_10
 subst e_11
 refine W.perm (M' := ((b_s, ce9 150 [lV sa_c c.length sc_c, lV sa_u u.length sc_u, lV sa_f f.length sc_f]) :: ((b5, ce9 43 (ndl x pa_x pc_x ka_x kc_x ma_x mc_x ra_x rc_x)) :: (Ms_c ++ (Ms_u ++ (Ms_f ++ [])))))) (((pmC ((pmF ((pmF pr9).trans pr9)).trans pr9)).cons _).trans pr9).symm (g9 3 ?_)
 refine WC.cond rfl (fun h12 => ?_) (fun h12 => ?_)
 ·refine g9 7 ?_
  refine ⟨.inr rfl, [_], ⟨rfl, trivial⟩, ((b_s, ce9 150 [lV sa_c c.length sc_c, lV sa_u u.length sc_u, lV sa_f f.length sc_f]) :: (Ms_c ++ (Ms_u ++ (Ms_f ++ [])))), (sr9.cons _).k9, ?_⟩
  exact ⟨congrArg (Value.int .i64) (congrArg Prod.fst (layA_f (st := (c, u)) (by simpa using h12))).symm, ArR.cast (st := (c, u)) ⟨_, ⟨_, _, _, _, _, _, rfl, (h_c.mono hG6), (h_u.mono hG6), (h_f.mono hG6)⟩, hcu, hn, hh, hp⟩ (congrArg Prod.snd (layA_f (st := (c, u)) (by simpa using h12))).symm (by simp)⟩
 have hhi : hasN u i = true := by simpa using h12
 have hil := hasN_lt hhi
 refine g9 3 ?_
 refine WC.dw (sn9.k9.k9) (d9 [0, 1, 2, 3, 4, 5] ?_)
 refine (h_c.mono hG6).aN (i := i.toNat) om9 (fun _ _ _ _ _ _ _ _ he12 hp_n13 hk_n13 hm_n13 hr_n13 hok_n13 => (WD.tk 6 rfl (ok_indexAddrO (i := i.toNat) sl24 ty43 (h_c.mono hG6) rfl rfl ⟨om9, om9⟩) (WD.a1 7 rfl (W.storeO (i := i.toNat) (o := 0) (vs := nd9) (a' := x) ty43 rfl rfl rfl rfl rfl ((h_c.mono hG6)) (pmC (pmC pr9)) om9 (by decide) (fun cs h => by obtain ⟨_, _, _, _, _, _, _, _, rfl, _⟩ := h; exact (nm9 hG6 hp_x hk_x hm_x hr_x hok_x)) (fun Ms16 ho17 => (W.perm (pmC (pmC pr9)).symm (W.nn (g9 8 ?_))))))))
 refine ⟨.inr rfl, [_], ⟨rfl, trivial⟩, ((b_s, ce9 150 [lV sa_c c.length sc_c, lV sa_u u.length sc_u, lV sa_f f.length sc_f]) :: (Ms16 ++ (Ms_u ++ (Ms_f ++ [])))), (sr9.cons _).k9, ?_⟩
 exact ⟨congrArg (Value.int .i64) (congrArg Prod.fst (layA_t (st := (c, u)) (by simpa using h12))).symm, ArR.cast (st := (c.set i.toNat x, u)) ⟨_, ⟨_, _, _, _, _, _, rfl, ho17, (h_u.mono hG6), (h_f.mono hG6)⟩, (by rw [List.length_set]; exact hcu), hn, hh, hp⟩ (congrArg Prod.snd (layA_t (st := (c, u)) (by simpa using h12))).symm (by simp)⟩

theorem sallocn_fc {G : GH} {b_s : Nat} {v_c : Value} {c : List Nd} {Ms_c : MH} (h_c : OwnR eNode 43 G v_c c Ms_c) {v_u : Value} {u : List Bool} {Ms_u : MH} (h_u : OwnR eBool 4 G v_u u Ms_u) {v_f : Value} {f : List Int} {Ms_f : MH} (h_f : OwnR eInt 3 G v_f f Ms_f) {cs_x : List Value} {x : Nd} (h_x : NodeC G cs_x x) (hcu : c.length = u.length) (hn : u.length ≤ 4096) (hh : Heap ltI f) (hp : f.Perm (freeN u)) :
    Fc Tryz.prog 88 [pt9 b_s, .agg (List.toArray cs_x)] G ((b_s, ce9 150 [v_c, v_u, v_f]) :: (Ms_c ++ (Ms_u ++ (Ms_f)))) (fun v G' M' => v = .tuple #[iV (nextA (c, u) x).1.1, iV (nextA (c, u) x).1.2] ∧ ArR eNode 43 4 3 150 b_s G' (nextA (c, u) x).2 M') := by
 obtain ⟨pa_x, pc_x, ka_x, kc_x, ma_x, mc_x, ra_x, rc_x, rfl, hp_x, hk_x, hm_x, hr_x, hok_x⟩ := h_x
 obtain ⟨sa_c, sc_c, rfl⟩ := h_c.form
 obtain ⟨sa_u, sc_u, rfl⟩ := h_u.form
 obtain ⟨sa_f, sc_f, rfl⟩ := h_f.form
 have hl := h_u.len47
 have hlc := h_c.len47
 have hlf := h_f.len47
 refine Fc.go [.tmp 4, .tmp 5] Tryz.func88 Tryz.ntmps88 rfl (fun w0 => (WC.perm (M' := ((b_s, ce9 150 [lV sa_c c.length sc_c, lV sa_u u.length sc_u, lV sa_f f.length sc_f]) :: (Ms_c ++ (Ms_u ++ (Ms_f ++ []))))) (by simp) (g9 2 ?_)))
 refine W.box (L := [iV _, iV _, lV _ _ _, lV _ _ _, sV _, .bool _, iV _, iV _, lV _ _ _, lV _ _ _]) rfl rfl (fun b18 => (g9 8 ?_))
 refine W.ok (ok_eqlPN pp105 rfl rfl) (g9 16 ?_)
 refine WC.cd (fun h14 p14 => ?_) (fun h14 p14 => ?_)
 ·refine g9 8 ?_
  refine ⟨.inr rfl, [_, _], ⟨rfl, rfl, trivial⟩, ((b_s, ce9 150 [lV sa_c c.length sc_c, lV sa_u u.length sc_u, lV sa_f f.length sc_f]) :: (Ms_c ++ (Ms_u ++ (Ms_f ++ [])))), sr9.k9.cons _, ?_⟩
  have hE := nextA_f (st := (c, u)) (x := x) (free_zero (u := u) (by have := hp.length_eq; omega))
  exact ⟨congrArg (fun r : Int × Int => Value.tuple #[iV r.1, iV r.2]) (congrArg Prod.fst hE).symm, ArR.cast (st := (c, u)) ⟨_, ⟨_, _, _, _, _, _, rfl, h_c, h_u, h_f⟩, hcu, hn, hh, hp⟩ (congrArg Prod.snd hE).symm (by simp)⟩
 refine g9 7 ?_
 refine W.ok (ok_mkI pi178 rfl) (W.call (Mp := ((b_s, ce9 150 [lV sa_c c.length sc_c, lV sa_u u.length sc_u, lV sa_f f.length sc_f]) :: Ms_f)) (Mr := ((b18, ce9 43 (ndl x pa_x pc_x ka_x kc_x ma_x mc_x ra_x rc_x)) :: (Ms_c ++ (Ms_u ++ [])))) (hpop_fc (least_heap (b := b_s) (Tb := 150) (c0 := lV sa_c c.length sc_c) (c1 := lV sa_u u.length sc_u)) ⟨_, _, rfl, h_f⟩ om9) rfl (((pmC (pmA (pmA pr9))).cons _).trans ((List.Perm.swap _ _ _).trans (pr9.cons _))) ?_)
 intro v22 G19 Ms21 hG19 q20
 refine match q20 with | ⟨⟨hv_z23, hi_z23⟩, ⟨vf_z23, Mf_z23, e_24, hf_z23⟩⟩ => ?_
 subst e_24
 have q26 := hf_z23.form
 refine match q26 with | ⟨sa_z23, sc_z23, e_25⟩ => ?_
 subst e_25
 obtain ⟨hlt, hee, hh2, hp2⟩ := take_first hh hp om9
 rw [hee] at hv_z23
 subst hv_z23
 refine W.perm (M' := ((b_s, ce9 150 [lV sa_c c.length sc_c, lV sa_u u.length sc_u, lV sa_z23 ((popL ltI f)).length sc_z23]) :: ((b18, ce9 43 (ndl x pa_x pc_x ka_x kc_x ma_x mc_x ra_x rc_x)) :: (Mf_z23 ++ (Ms_c ++ (Ms_u ++ [])))))) (((pmC pr9).cons _).trans pr9).symm (W.ok (ok_tyA pi3 rfl) (g9 4 ?_))
 refine WC.dw (sn9.k9.k9) (d9 [0, 1, 2, 3, 4, 5, 6, 7, 8, 9, 10] ?_)
 refine (h_c.mono hG19).aN (i := (firstN u)) om9 (fun _ _ _ _ _ _ _ _ he27 hp_n28 hk_n28 hm_n28 hr_n28 hok_n28 => (WD.tk 11 rfl (ok_indexAddrO (i := (firstN u)) sl24 ty43 (h_c.mono hG19) rfl rfl ⟨om9, om9⟩) (WD.a1 12 rfl (W.storeO (i := (firstN u)) (o := 0) (vs := nd9) (a' := x) ty43 rfl rfl rfl rfl rfl ((h_c.mono hG19)) (pmC (pmC (pmA pr9))) om9 (by decide) (fun cs h => by obtain ⟨_, _, _, _, _, _, _, _, rfl, _⟩ := h; exact (nm9 hG19 hp_x hk_x hm_x hr_x hok_x)) (fun Ms31 ho32 => (W.perm (pmC (pmC pr9)).symm (W.nn ((h_u.mono hG19).a1 (i := (firstN u)) om9 (fun he33 => (WD.tk 13 rfl (ok_indexAddrO (i := (firstN u)) sl147 ty4 (h_u.mono hG19) rfl rfl ⟨om9, om9⟩) (WD.a1 14 rfl (W.storeO (i := (firstN u)) (o := 0) (vs := bc9) (a' := true) ty4 rfl rfl rfl rfl rfl ((h_u.mono hG19)) (pmC (pmC (pmA (pmA pr9)))) om9 (by decide) (fun cs h => by rw [h]; rfl) (fun Ms37 ho38 => (W.perm (pmC (pmC pr9)).symm (W.nn (g9 9 ?_))))))))))))))))
 refine WC.perm (M' := ((b_s, ce9 150 [lV sa_c c.length sc_c, lV sa_u u.length sc_u, lV sa_z23 ((popL ltI f)).length sc_z23]) :: ((b18, ce9 43 (ndl x pa_x pc_x ka_x kc_x ma_x mc_x ra_x rc_x)) :: (Ms31 ++ (Ms37 ++ (Mf_z23 ++ [])))))) ((((List.Perm.append_left _ ((List.Perm.append_left _ ((List.Perm.append_left _ pr9).trans pr9)).trans pr9)).trans (pmA pr9)).cons _).cons _) (WC.ret ?_)
 refine ⟨.inr rfl, [_, _], ⟨rfl, rfl, trivial⟩, ((b_s, ce9 150 [lV sa_c c.length sc_c, lV sa_u u.length sc_u, lV sa_z23 ((popL ltI f)).length sc_z23]) :: (Ms31 ++ (Ms37 ++ (Mf_z23 ++ [])))), (sr9.cons _).k9, ?_⟩
 have hE := nextA_t (st := (c, u)) (x := x) hlt
 exact ⟨congrArg (fun r : Int × Int => Value.tuple #[iV r.1, iV r.2]) (congrArg Prod.fst hE).symm, ArR.cast (st := (c.set (firstN u) x, u.set (firstN u) true)) ⟨_, ⟨_, _, _, _, _, _, rfl, ho32, ho38, hf_z23⟩, (by rw [List.length_set, List.length_set]; exact hcu), (by rw [List.length_set]; exact hn), hh2, hp2⟩ (congrArg Prod.snd hE).symm (by simp)⟩

theorem sgetn_fc {G : GH} {b_s : Nat} {v_c : Value} {c : List Nd} {Ms_c : MH} (h_c : OwnR eNode 43 G v_c c Ms_c) {v_u : Value} {u : List Bool} {Ms_u : MH} (h_u : OwnR eBool 4 G v_u u Ms_u) {v_f : Value} {f : List Int} {Ms_f : MH} (h_f : OwnR eInt 3 G v_f f Ms_f) (i : Int) (hcu : c.length = u.length) :
    Fc Tryz.prog 80 [pt9 b_s, iV i] G ((b_s, ce9 150 [v_c, v_u, v_f]) :: (Ms_c ++ (Ms_u ++ (Ms_f)))) (fun v G' M' => ∃ cs, v = .tuple #[.agg (List.toArray cs), .bool (hasN u i)] ∧ NodeC G' cs (getA (c, u) i Nd.zero) ∧ M' = (b_s, ce9 150 [v_c, v_u, v_f]) :: (Ms_c ++ (Ms_u ++ Ms_f))) := by
 obtain ⟨sa_c, sc_c, rfl⟩ := h_c.form
 obtain ⟨sa_u, sc_u, rfl⟩ := h_u.form
 obtain ⟨sa_f, sc_f, rfl⟩ := h_f.form
 have hl := h_u.len47
 have hlc := h_c.len47
 refine Fc.go [.cell 4 43, .tmp 5] Tryz.func80 Tryz.ntmps80 rfl (fun w0 => (WC.perm (M' := ((b_s, ce9 150 [lV sa_c c.length sc_c, lV sa_u u.length sc_u, lV sa_f f.length sc_f]) :: (Ms_c ++ (Ms_u ++ (Ms_f ++ []))))) (by simp) (g9 2 ?_)))
 refine W.alloc zr43 (fun b39 => (g9 8 ?_))
 refine W.call (Mp := ((b_s, ce9 150 [lV sa_c c.length sc_c, lV sa_u u.length sc_u, lV sa_f f.length sc_f]) :: (Ms_c ++ (Ms_u ++ Ms_f)))) (Mr := ((b39, ce9 43 nz9) :: [])) (shasn_fc h_c h_u h_f _) rfl (((pmC ((pmF ((pmF pr9).trans pr9)).trans pr9)).cons _).trans ((List.Perm.swap _ _ _).trans (pr9.cons _))) ?_
 intro v43 G40 Ms42 hG40 q41
 refine match q41 with | ⟨e_44, e_45⟩ => ?_
 subst e_44
 subst e_45
 refine W.perm (M' := ((b_s, ce9 150 [lV sa_c c.length sc_c, lV sa_u u.length sc_u, lV sa_f f.length sc_f]) :: ((b39, ce9 43 nz9) :: (Ms_c ++ (Ms_u ++ (Ms_f ++ [])))))) (((pmC ((pmF ((pmF pr9).trans pr9)).trans pr9)).cons _).trans pr9).symm (g9 3 ?_)
 refine WC.cond rfl (fun h9 => ?_) (fun h9 => ?_)
 ·have hhi : hasN u i = false := by simpa using h9
  refine g9 9 ?_
  refine ⟨.inr rfl, [_, _], ⟨⟨_, _, _, _, _, rfl, nthM_mem (i := 1) rfl, ty43, (by simp), rfl, rfl⟩, rfl, trivial⟩, ((b_s, ce9 150 [lV sa_c c.length sc_c, lV sa_u u.length sc_u, lV sa_f f.length sc_f]) :: (Ms_c ++ (Ms_u ++ (Ms_f ++ [])))), (sr9.cons _).k9, ?_⟩
  refine ⟨_, ?_, NodeC.cast ⟨_, _, _, _, _, _, _, _, rfl, SlR.nil, SlR.nil, SlR.nil, SlR.nil, Nd.zero_ok⟩ (getA_f (st := (c, u)) hhi).symm, by simp⟩
  rw [hhi]; rfl
 have hhi : hasN u i = true := by simpa using h9
 have hil := hasN_lt hhi
 refine g9 9 ?_
 refine (h_c.mono hG40).aN (i := i.toNat) om9 (fun _ _ _ _ _ _ _ _ he46 hp_n47 hk_n47 hm_n47 hr_n47 hok_n47 => (W.ok (ok_indexAddrO (i := i.toNat) sl24 ty43 (h_c.mono hG40) rfl rfl ⟨om9, om9⟩) (W.ok (ok_loadO (vs := nd9) ty43 he46 (pmC (pmC pr9)) rfl rfl rfl (by simp)) (g9 5 ?_))))
 refine ⟨.inr rfl, [_, _], ⟨⟨_, _, _, _, _, rfl, nthM_mem (i := 1) rfl, ty43, (by simp), rfl, rfl⟩, rfl, trivial⟩, ((b_s, ce9 150 [lV sa_c c.length sc_c, lV sa_u u.length sc_u, lV sa_f f.length sc_f]) :: (Ms_c ++ (Ms_u ++ (Ms_f ++ [])))), (sr9.cons _).k9, ?_⟩
 refine ⟨_, ?_, NodeC.cast (nk9 hp_n47 hk_n47 hm_n47 hr_n47 hok_n47) (getA_t (st := (c, u)) hhi (by show _ < c.length; omega)).symm, by simp⟩
 rw [hhi]; rfl

theorem slistn_fc {G : GH} {b_s : Nat} {v_c : Value} {c : List Nd} {Ms_c : MH} (h_c : OwnR eNode 43 G v_c c Ms_c) {v_u : Value} {u : List Bool} {Ms_u : MH} (h_u : OwnR eBool 4 G v_u u Ms_u) {v_f : Value} {f : List Int} {Ms_f : MH} (h_f : OwnR eInt 3 G v_f f Ms_f) (hcu : c.length = u.length) (hn : u.length ≤ 4096) (hh : Heap ltI f) (hp : f.Perm (freeN u)) :
    Fc Tryz.prog 50 [pt9 b_s] G ((b_s, ce9 150 [v_c, v_u, v_f]) :: (Ms_c ++ (Ms_u ++ (Ms_f)))) (fun v G' M' => SlR eInt G' v (usedN u) ∧ M' = (b_s, ce9 150 [v_c, v_u, v_f]) :: (Ms_c ++ (Ms_u ++ Ms_f))) := by
 obtain ⟨sa_c, sc_c, rfl⟩ := h_c.form
 obtain ⟨sa_u, sc_u, rfl⟩ := h_u.form
 obtain ⟨sa_f, sc_f, rfl⟩ := h_f.form
 have hl := h_u.len47
 have hlf := h_f.len47
 have hfu := free_used u
 have hpl := hp.length_eq
 refine Fc.go [.tmp 2] Tryz.func50 Tryz.ntmps50 rfl (fun w0 => (WC.perm (M' := ((b_s, ce9 150 [lV sa_c c.length sc_c, lV sa_u u.length sc_u, lV sa_f f.length sc_f]) :: (Ms_c ++ (Ms_u ++ (Ms_f ++ []))))) (by simp) (g9 14 ?_)))
 refine W.ok (ok_neqPN pp105 rfl rfl) (g9 14 ?_)
 refine WC.loop (X := (Nat) × Value × MH) (fun k => [(13, nt9 k.1), (11, lV sa_u u.length sc_u), (12, nt9 ((u).length)), (3, k.2.1)]) (fun k G Ml => Ml = ((b_s, ce9 150 [lV sa_c c.length sc_c, lV sa_u u.length sc_u, lV sa_f f.length sc_f]) :: (k.2.2 ++ (Ms_c ++ (Ms_u ++ (Ms_f ++ []))))) ∧ OwnR eInt 3 G k.2.1 (usedK u k.1) k.2.2 ∧ k.1 ≤ u.length) (fun k => u.length - k.1) (0, lV none 0 0, ([] : MH)) hs9 ?_ ?_
 ·exact ⟨rfl, (by exact OwnR.nil), om9⟩
 rintro ⟨k, v_3, M_3⟩ gG50 G50 _ hG50 ⟨rfl, ho_3, hk⟩
 try dsimp only at ho_3 hk
 have hkl := usedK_len u k
 refine WC.fr (f := setL gG50 [(13, nt9 k), (11, lV sa_u u.length sc_u), (12, nt9 ((u).length)), (3, v_3)]) rfl (g9 6 ?_)
 refine WC.cd (fun h14 p14 => ?_) (fun h14 p14 => ?_)
 ·refine g9 7 ?_
  refine (h_u.mono hG50).a1 (i := k) om9 (fun he51 => (W.ok (ok_indexAddrO (i := k) sl147 ty4 (h_u.mono hG50) rfl rfl ⟨om9, om9⟩) (W.ok (ok_loadO (vs := bc9) ty4 he51 (pmC (pmA (pmA pr9))) rfl rfl rfl (by simp)) (g9 9 ?_))))
  refine WC.cond rfl (fun he52 => ?_) (fun he52 => ?_)
  ·refine g9 3 ?_
   refine W.lit (e := eInt) (l := [_]) (css := [[iV _]]) sl39 ty3 zr3 rfl rfl rfl rfl rfl rfl ⟨⟨rfl, om9, om9⟩, trivial⟩ (fun bl55 G55 hG55 hv55 => (W.app (e := eInt) sl39 ty3 zr3 rfl by3 rfl rfl ((ho_3.mono hG55)) (hv55) (pmC pr9) (by show (_ + 1) * 8 ≤ _; omega) (fun v56 Ms57 ho58 => (W.perm (pmC pr9).symm ?_))))
   have q62 := ho58.form
   refine match q62 with | ⟨sa59, sc60, e_61⟩ => ?_
   subst e_61
   refine g9 9 ?_
   exact ⟨hG55, (k + 1, lV sa59 ((usedK u k ++ _)).length sc60, Ms57), hs9, ⟨rfl, (by have h := ho58; rw [usedK_t om9 he52]; exact h), om9⟩, om9⟩
  refine g9 8 ?_
  exact ⟨Le.rfl, (k + 1, v_3, M_3), hs9, ⟨rfl, (by have h := ho_3; rw [usedK_f om9 he52]; exact h), om9⟩, om9⟩
 refine g9 11 ?_
 refine WC.giveO ho_3 (pmC pr9) (fun G63 hG63 hv63 => (WC.ret ?_))
 refine ⟨.inr rfl, [_], ⟨rfl, trivial⟩, ((b_s, ce9 150 [lV sa_c c.length sc_c, lV sa_u u.length sc_u, lV sa_f f.length sc_f]) :: (Ms_c ++ (Ms_u ++ (Ms_f ++ [])))), sr9.k9, ?_⟩
 exact ⟨SlR.cast hv63 (by rw [used_eq]; congr 1; omega), by simp⟩

end Go.Proofs.YtgmnljhiojdigaaGreat
