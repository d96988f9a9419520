/- Walks of the map that nodes stand for, and of what a key has in it. -/
import Derived.Test.YtebkfinhhpelbaaGreatQwUk
import Derived.Test.YtebkfinhhpelbaaGreatQwNs
import Derived.Test.YtebkfinhhpelbaaGreatQwW8
namespace Go.Proofs.YtebkfinhhpelbaaGreat
open Go Go.Fw Go.RowKit
set_option maxRecDepth 100000
set_option maxHeartbeats 1600000
set_option linter.unusedVariables false
set_option linter.unusedSimpArgs false
set_option linter.unnecessarySimpa false
theorem absmap_fc {G : GH} {v_l : Value} {l : List Nd} (h_l : SlR eNode G v_l l) (c2 : Cfg) (ss : List Seat) (t : Tree c2 l ss) :
    Fc Tryz.prog 39 [v_l] G [] (fun v G' M' => M' = [] ∧ ∃ u0, v = u0 ∧ SlR ePair G' u0 (mapN l)) := by
 obtain ⟨sa_l, sc_l, rfl⟩ := h_l.form
 have hl := h_l.len47
 refine Fc.intro (rs := [.tmp 2]) cl39 Tryz.func39 rfl Tryz.ntmps39 rfl rfl (fun w0 => ?_)
 refine WC.seq (WC.region (W.as (W.nil (thn_n (WC.seq (WC.region (W.alloc zr41 (fun b1 => (W.nil (thn_n ?_))))))))))
 refine WC.seq (WC.region (W.mv (W.call (Mp := []) (bysl_fc h_l) rfl (List.Perm.refl _) ?_)))
 intro v2 G3 _ hG3 q4
 refine match q4 with | ⟨e_7, hmp6⟩ => ?_
 subst e_7
 have q9 := hmp6.form
 refine match q9 with | ⟨b5, e_8⟩ => ?_
 subst e_8
 refine W.makeMap (V := vBool) (fun bm10 hm11 => (W.perm (pmC (Ms := [(bm10, Obj.map #[] 0)]) (List.Perm.refl _)).symm (W.ok (ok_makeFn (fst := []) (caps := [.tmp 3]) (vs := []) (ws := [.pointer (some ⟨b1, 0, none⟩)]) rfl rfl) (W.ok (ok_build (L := [.map _, .map _, _]) pl146 zr146 rfl rfl rfl) (W.box (L := [.map _, .map _, _]) rfl rfl (fun b12 => (W.as (W.nil (thn_n (WC.seq ?_))))))))))
 refine WC.region (W.mv (W.qcall (spanall_fc ) rfl (W.ok (ok_build (L := [.string _, .string _, .bool _, .slice _ _ _]) pl137 zr137 rfl rfl rfl) ?_)))
 have hR13 : WkR 88 146 41 69 b12 b1 (bySl l) G3 ([], []) ((b12, .cells (List.toArray [.map (some b5), .map (some bm10), .func (.func 88) #[] #[.pointer (some ⟨b1, 0, none⟩)]]) 146 (0, 0)) :: ((b1, .cells (List.toArray [.slice none 0 0]) 41 (0, 0)) :: [(bm10, Obj.map #[] 0)])) := ⟨_, _, _, [(bm10, Obj.map #[] 0)], [], rfl, hmp6, hm11, OwnR.nil⟩
 refine W.call (Mp := ((b12, .cells (List.toArray [.map (some b5), .map (some bm10), .func (.func 88) #[] #[.pointer (some ⟨b1, 0, none⟩)]]) 146 (0, 0)) :: ((b1, .cells (List.toArray [.slice none 0 0]) 41 (0, 0)) :: [(bm10, Obj.map #[] 0)]))) (Mr := []) (absw_all t _ hR13 t.root rfl (fun y hy => t.inMap hy) (free_root t) (by have := viewsF_le t; rw [List.length_nil]; omega) SlR.nil) (congrArg (fun k : Int => [_, Value.int .i64 k, _]) t.root0.symm) (((((List.Perm.refl _).cons _).trans (List.Perm.refl _)).cons _).trans (List.Perm.refl _)) ?_
 intro v15 G16 Ms17 hG16 q14
 refine match q14 with | ⟨e_18, mt9, hs9, vat9, bm9, vo9, Mm9, Mo9, eM9, hat9, hmt9, ho9⟩ => ?_
 subst e_18
 subst eM9
 have q20 := ho9.form
 refine match q20 with | ⟨sa9, sc9, e_19⟩ => ?_
 subst e_19
 refine W.perm (M' := ((b12, .cells (List.toArray [vat9, .map (some bm9), .func (.func 88) #[] #[.pointer (some ⟨b1, 0, none⟩)]]) 146 (0, 0)) :: ((b1, .cells (List.toArray [.slice sa9 ([] ++ viewsF l (rootS l 0).n.level.toNat (rootS l 0)).length sc9]) 41 (0, 0)) :: (Mm9 ++ (Mo9 ++ []))))) ((((((pmF (List.Perm.refl _)).trans (List.Perm.refl _)).cons _).trans (List.Perm.refl _)).cons _).trans (List.Perm.refl _)).symm (W.nil (thn_n (WC.seq (WC.region (W.ok (ok_loadB (i := 1) (vs := [.slice _ _ _]) ty41 rfl rfl rfl rfl (by simp)) (W.as (W.nil (thn_n (WC.giveO ho9 (pmC (pmC (pmA (List.Perm.refl _)))) (fun G21 hG21 hv21 => ?_))))))))))
 refine WC.ret ?_
 refine ⟨.inr rfl, [_], ⟨rfl, trivial⟩, [], List.nil_sublist _, ?_⟩
 refine ⟨rfl, _, rfl, ?_⟩
 · exact SlR.cast hv21 (by rw [List.nil_append]; exact t.views)

theorem absget_fc {G : GH} {v_l : Value} {l : List Nd} (h_l : SlR eNode G v_l l) (k : Str) (c2 : Cfg) (ss : List Seat) (t : Tree c2 l ss) (hk : k.b.size ≤ 300) :
    Fc Tryz.prog 38 [v_l, .string k.b] G [] (fun v _ _ => v = .tuple #[.string (Str.b (((getN (mapN l) k)).getD Str.nil)), .bool (((getN (mapN l) k)).isSome)]) := by
 obtain ⟨sa_l, sc_l, rfl⟩ := h_l.form
 have hl := h_l.len47
 have hl100 := t.sml.1
 have hrl := t.root_len
 have hr0 : getM (bySl l) 0 = some (rootS l 0).n := by have h := t.inMap t.root; rw [t.root0] at h; exact h
 refine Fc.intro (rs := [.tmp 4, .tmp 5]) cl38 Tryz.func38 rfl Tryz.ntmps38 rfl rfl (fun w0 => ?_)
 refine WC.seq (WC.region (W.as (W.as (W.nil (thn_n (WC.seq (WC.region (W.mv ?_))))))))
 refine W.call (Mp := []) (bysl_fc h_l) rfl (List.Perm.refl _) ?_
 intro v22 G23 _ hG23 q24
 refine match q24 with | ⟨e_27, hmp26⟩ => ?_
 subst e_27
 have q29 := hmp26.form
 refine match q29 with | ⟨b25, e_28⟩ => ?_
 subst e_28
 refine W.qcall (spanall_fc ) rfl (W.ok (ok_build (L := [.string _, .string _, .bool _, .slice _ _ _]) pl137 zr137 rfl rfl rfl) (W.alloc zr137 (fun b30 => (W.as (W.store (i := 0) (vs := [.string _, .string _, .bool _, .slice _ _ _]) (L' := [.string _, .string _, .bool _, .slice _ _ _]) ty137 rfl rfl rfl rfl rfl rfl rfl rfl (W.nil (thn_n (WC.seq (WC.region ?_)))))))))
 refine W.mv (W.lookS (V := vNode) hr0 mk125 mz47 ⟨_, rfl, ⟨_, _, _, _, _, _, _, _, rfl, SlR.nil, SlR.nil, SlR.nil, SlR.nil, Nd.zero_ok⟩⟩ hmp26 rfl rfl (fun v31 hv32 => ?_))
 refine match hv32 with | ⟨_, e_34, ⟨pa_mn33, pc_mn33, ka_mn33, kc_mn33, ma_mn33, mc_mn33, ra_mn33, rc_mn33, e_35, hp_mn33, hk_mn33, hm_mn33, hr_mn33, hok_mn33⟩⟩ => ?_
 subst e_34
 subst e_35
 refine W.mv (W.ok (ok_extract rfl rfl) (W.ok (ok_extract rfl rfl) (W.alloc zr47 (fun b36 => (W.store (i := 0) (vs := [.int .i64 _, .int .i64 _, .slice _ _ _, .slice _ _ _, .string _, .bool _, .int .i64 _, .int .i64 _, .slice _ _ _, .slice _ _ _]) (L' := [.int .i64 _, .int .i64 _, .slice _ _ _, .slice _ _ _, .string _, .bool _, .int .i64 _, .int .i64 _, .slice _ _ _, .slice _ _ _]) ty47 rfl rfl rfl rfl rfl rfl rfl rfl (W.as (W.nil (thn_n (WC.seq ?_)))))))))
 refine WC.seq (WC.region (W.mv (W.ok (ok_len sl24 (h_l.mono hG23) rfl) (W.as (W.nil (thn_n (WC.block ?_)))))))
 refine WC.loop (X := (Seat × List Msg × Int) × List Value × List Value) (fun x => [(9, .bool true), (10, .int .i64 x.1.2.2), (7, .pointer (some ⟨b30, 0, none⟩)), (8, .pointer (some ⟨b36, 0, none⟩)), (1, .string k.b), (6, .map (some b25))]) (fun x G Ml => Ml = [(b36, .cells (List.toArray x.2.2) 47 (0, 0)), (b30, .cells (List.toArray x.2.1) 137 (0, 0))] ∧ WayC G x.2.1 Span.all (x.1.2.1) ∧ NodeC G x.2.2 (x.1.1.n) ∧ Gp l ss k x.1.1 x.1.2.1 ∧ x.1.1.n.level ≤ x.1.2.2 ∧ x.1.2.2 ≤ 100) (fun x => x.1.1.n.level.toNat) (((rootS l 0, [], (l.length : Int)) : Seat × List Msg × Int), ([.string (Span.all).lo.b, .string (Span.all).hi.b, .bool (Span.all).opn, .slice none 0 0] : List Value), ([.int .i64 (rootS l 0).n.slot, .int .i64 (rootS l 0).n.level, .slice pa_mn33 ((rootS l 0).n.pivots).length pc_mn33, .slice ka_mn33 ((rootS l 0).n.kids).length kc_mn33, .string (rootS l 0).n.high.b, .bool (rootS l 0).n.top, .int .i64 (rootS l 0).n.right, .int .i64 (rootS l 0).n.seen, .slice ma_mn33 ((rootS l 0).n.msgs).length mc_mn33, .slice ra_mn33 ((rootS l 0).n.rows).length rc_mn33] : List Value)) ⟨eqv, eqv, eqv, eqv, eqv, eqv, trivial⟩ ?_ ?_
 ·exact ⟨rfl, (by exact ⟨_, rfl, SlR.nil⟩), (by exact ⟨_, _, _, _, _, _, _, _, rfl, hp_mn33, hk_mn33, hm_mn33, hr_mn33, hok_mn33⟩), Gp.init t k, hrl, by dsimp only; omega⟩
 ·rintro ⟨⟨x, Wm, left⟩, C_7, C_8⟩ gG37 G37 _ hG37 ⟨rfl, ho_7, ho_8, gp, hlv, hlf⟩
  try dsimp only at ho_7 ho_8 gp hlv hlf
  have hl0 := t.lvl gp.mem
  have hwl := gp.len5 t
  refine match ho_7 with | ⟨vw7, e_38, hw7⟩ => ?_
  subst e_38
  have q40 := hw7.form
  refine match q40 with | ⟨sa_w7, sc_w7, e_39⟩ => ?_
  subst e_39
  refine match ho_8 with | ⟨pa_nb41, pc_nb41, ka_nb41, kc_nb41, ma_nb41, mc_nb41, ra_nb41, rc_nb41, e_42, hp_nb41, hk_nb41, hm_nb41, hr_nb41, hok_nb41⟩ => ?_
  subst e_42
  refine WC.fr (f := setL gG37 [(9, .bool true), (10, .int .i64 left), (7, .pointer (some ⟨b30, 0, none⟩)), (8, .pointer (some ⟨b36, 0, none⟩)), (1, .string k.b), (6, .map (some b25))]) rfl (WC.seq (WC.seq (WC.region (W.mv (W.mv (W.yes (dj := 23) rfl rfl rfl (W.ok (ok_fieldB fd47_1 rfl) ?_)))))))
  refine W.yes (dj := 23) rfl rfl rfl (W.ok (ok_loadB (i := 0) (vs := [.int .i64 _]) ty3 rfl rfl rfl rfl (by simp)) (W.yes (dj := 23) rfl rfl rfl (W.ok (ok_gtr rfl rfl) (W.ok (ok_pick_t rfl rfl) (W.mv ?_)))))
  refine W.sp 28 rfl (fun h26 => ?_) (fun h26 => ?_)
  ·have p26 := of_decide_eq_true h26
   have g26 : ¬ x.n.level ≤ 0 := by omega
   have hrt := t.route gp.mem g26 k
   have hat := t.at gp.mem (by omega) hrt
   have hml9 := t.msgs_len gp.mem
   have hrr := (rightN_spec (t.right gp.mem g26)).2
   refine W.yes (dj := 28) rfl rfl h26 (W.mv (W.yes (dj := 28) rfl rfl h26 (W.ok (ok_geq rfl rfl) (W.ok (ok_pick_t rfl h26) (W.mv ?_)))))
   refine W.sp 32 rfl (fun h30 => ?_) (fun h30 => ?_)
   ·have p30 := of_decide_eq_true h30
    refine W.yes (dj := 32) rfl rfl h30 (W.ok (ok_fieldB fd47_3 rfl) (W.yes (dj := 32) rfl rfl h30 (W.ok (ok_loadB (i := 0) (vs := [.slice _ _ _]) ty44 rfl rfl rfl rfl (by simp)) (W.yes (dj := 32) rfl rfl h30 (W.ok (ok_len sl44 hk_nb41 rfl) (W.yes (dj := 32) rfl rfl h30 (W.ok (ok_fieldB fd47_2 rfl) ?_)))))))
    refine W.yes (dj := 32) rfl rfl h30 (W.ok (ok_loadB (i := 0) (vs := [.slice _ _ _]) ty43 rfl rfl rfl rfl (by simp)) (W.yes (dj := 32) rfl rfl h30 (W.ok (ok_len sl43 hp_nb41 rfl) (W.yes (dj := 32) rfl rfl h30 (W.ok (ok_gtr rfl rfl) (W.ok (ok_pick_t rfl h30) (W.nil (thn_n ?_))))))))
    refine WC.cond (b := _) rfl (fun h39 => ?_) (fun h39 => ?_)
    ·have p39 := of_decide_eq_true h39
     refine WC.skip (thn_n (WC.seq (WC.block (WC.seq (WC.region (W.ok (ok_fieldB fd47_8 rfl) (W.ok (ok_loadB (i := 0) (vs := [.slice _ _ _]) ty45 rfl rfl rfl rfl (by simp)) (W.ok (ok_fieldB fd137_1 rfl) ?_))))))))
     refine W.ok (ok_loadB (i := 1) (vs := [.slice _ _ _]) ty45 rfl rfl rfl rfl (by simp)) (W.lit (e := (eSl eMsg)) (l := [(x.n).msgs, Wm]) (css := [[.slice _ _ _], [.slice _ _ _]]) sl187 ty45 zr45 rfl rfl rfl rfl rfl rfl ⟨⟨_, rfl, hm_nb41⟩, ⟨_, rfl, hw7⟩, trivial⟩ (fun bl43 G43 hG43 hv43 => (W.call (Mp := []) (mlists_fc hv43 (by have h9 : totN [] = 0 := rfl; rw [totN_cons, totN_cons, h9]; omega) (by show 2 ≤ 100000; omega)) rfl (List.Perm.refl _) ?_)))
     intro _ G44 _ hG44 q46
     refine match q46 with | ⟨e_47, _, e_48, hv45⟩ => ?_
     subst e_47
     subst e_48
     have q50 := hv45.form
     refine match q50 with | ⟨sa_hv45, sc_hv45, e_49⟩ => ?_
     subst e_49
     refine W.ok (ok_fieldB fd137_1 rfl) (W.store (i := 1) (vs := [.slice _ _ _]) (L' := [.string _, .string _, .bool _, .slice _ _ _]) ty45 rfl rfl rfl rfl rfl rfl rfl rfl (W.nil (thn_n (WC.drawW _ (((List.Sublist.refl _).cons_cons _).cons _) mix (by rintro _ _ _ _ ⟨h | h, _⟩ <;> cases h) (WD.take 0 rfl rfl rfl (by kernel_rfl) (by kernel_rfl) (by kernel_rfl) (ok_mv) (WD.take 1 rfl rfl rfl (by kernel_rfl) (by kernel_rfl) (by kernel_rfl) (ok_fieldB fd47_3 rfl) (WD.take 3 rfl rfl rfl (by kernel_rfl) (by kernel_rfl) (by kernel_rfl) (ok_fieldB fd47_2 rfl) (WD.take 5 rfl rfl rfl (by kernel_rfl) (by kernel_rfl) (by kernel_rfl) (ok_mv) ?_))))))))
     refine WD.any [2, 4] (by kernel_rfl) rfl ⟨⟨_, rfl, rfl, ?_⟩, ⟨_, rfl, rfl, ?_⟩, trivial⟩
     ·refine W.ok (ok_loadB (i := 0) (vs := [.slice _ _ _]) ty44 rfl rfl rfl rfl (by simp)) (W.nil ⟨Le.rfl, ((List.Sublist.refl _).cons_cons _).cons _, _, ((List.Sublist.refl _).cons_cons _).cons _, List.Sublist.refl _, (WD.any [4] (by kernel_rfl) rfl ⟨⟨_, rfl, rfl, (W.ok (ok_loadB (i := 0) (vs := [.slice _ _ _]) ty43 rfl rfl rfl rfl (by simp)) (W.nil ⟨Le.rfl, ((List.Sublist.refl _).cons_cons _).cons _, _, ((List.Sublist.refl _).cons_cons _).cons _, List.Sublist.refl _, (WD.any [6] (by kernel_rfl) rfl ⟨⟨_, rfl, rfl, (W.qcall (broute_fc (hp_nb41.mono (hG43.trans hG44)) _ (rightN_spec (t.right gp.mem g26)).1) rfl (W.nil ⟨Le.rfl, ((List.Sublist.refl _).cons_cons _).cons _, _, ((List.Sublist.refl _).cons_cons _).cons _, List.Sublist.refl _, ?_⟩))⟩, trivial⟩)⟩))⟩, trivial⟩)⟩)
      have q54 := (hk_nb41.mono (hG43.trans hG44)).at (i := routeN x.n.pivots k) (by omega)
      refine match q54 with | ⟨_, he51, ⟨e_53, hi52⟩⟩ => ?_
      subst e_53
      refine WD.take 7 rfl rfl rfl (by kernel_rfl) (by kernel_rfl) (by kernel_rfl) (ok_indexAddr (i := routeN x.n.pivots k) sl44 ty3 (hk_nb41.mono (hG43.trans hG44)) rfl rfl ⟨by omega, by omega⟩) (WD.take 8 rfl rfl rfl (by kernel_rfl) (by kernel_rfl) (by kernel_rfl) (ok_loadE (vs := [.int .i64 _]) ty3 he51 rfl rfl rfl (by simp)) (WD.lookS (V := vNode) 9 (show getM (bySl l) (x.n.kids[routeN x.n.pivots k]'(by omega)) = some (kidSt l x (routeN x.n.pivots k)).n from by have h := t.inMap (gp.next t (by omega) g26).mem; rw [At.slot t gp.mem g26 k] at h; exact h) rfl (by kernel_rfl) (by kernel_rfl) (by kernel_rfl) mk125 mz47 ⟨_, rfl, ⟨_, _, _, _, _, _, _, _, rfl, SlR.nil, SlR.nil, SlR.nil, SlR.nil, Nd.zero_ok⟩⟩ (hmp26.mono ((hG37.trans hG43).trans hG44)) rfl rfl (fun v55 hv56 => ?_)))
      refine match hv56 with | ⟨_, e_58, ⟨pa_mn57, pc_mn57, ka_mn57, kc_mn57, ma_mn57, mc_mn57, ra_mn57, rc_mn57, e_59, hp_mn57, hk_mn57, hm_mn57, hr_mn57, hok_mn57⟩⟩ => ?_
      subst e_58
      subst e_59
      refine WD.take 10 rfl rfl rfl (by kernel_rfl) (by kernel_rfl) (by kernel_rfl) (ok_mv) (WD.take 11 rfl rfl rfl (by kernel_rfl) (by kernel_rfl) (by kernel_rfl) (ok_extract rfl rfl) (WD.take 12 rfl rfl rfl (by kernel_rfl) (by kernel_rfl) (by kernel_rfl) (ok_extract rfl rfl) (WD.any [13] (by kernel_rfl) rfl ⟨⟨_, rfl, rfl, (W.store (i := 0) (vs := [.int .i64 _, .int .i64 _, .slice _ _ _, .slice _ _ _, .string _, .bool _, .int .i64 _, .int .i64 _, .slice _ _ _, .slice _ _ _]) (L' := [.int .i64 _, .int .i64 _, .slice _ _ _, .slice _ _ _, .string _, .bool _, .int .i64 _, .int .i64 _, .slice _ _ _, .slice _ _ _]) ty47 rfl rfl rfl rfl rfl rfl rfl rfl (W.nil ⟨Le.rfl, ((List.Sublist.refl _).cons_cons _).cons _, _, ((List.Sublist.refl _).cons_cons _).cons _, List.Sublist.refl _, (WD.take 14 rfl rfl rfl (by kernel_rfl) (by kernel_rfl) (by kernel_rfl) (ok_as) (WD.done (by kernel_rfl) (blk_n (thn_n ?_))))⟩))⟩, trivial⟩)))
      refine WC.region (W.mv (W.ok (ok_sub rfl rfl (by omega)) (W.as (W.nil (thn_n ?_)))))
      exact ⟨(hG43.trans hG44), (((kidSt l x (routeN x.n.pivots k), mergeN [x.n.msgs, Wm], left - 1) : Seat × List Msg × Int), [.string (Span.all).lo.b, .string (Span.all).hi.b, .bool (Span.all).opn, .slice sa_hv45 (mergeN [x.n.msgs, Wm]).length sc_hv45], [.int .i64 (kidSt l x (routeN x.n.pivots k)).n.slot, .int .i64 (kidSt l x (routeN x.n.pivots k)).n.level, .slice pa_mn57 ((kidSt l x (routeN x.n.pivots k)).n.pivots).length pc_mn57, .slice ka_mn57 ((kidSt l x (routeN x.n.pivots k)).n.kids).length kc_mn57, .string (kidSt l x (routeN x.n.pivots k)).n.high.b, .bool (kidSt l x (routeN x.n.pivots k)).n.top, .int .i64 (kidSt l x (routeN x.n.pivots k)).n.right, .int .i64 (kidSt l x (routeN x.n.pivots k)).n.seen, .slice ma_mn57 ((kidSt l x (routeN x.n.pivots k)).n.msgs).length mc_mn57, .slice ra_mn57 ((kidSt l x (routeN x.n.pivots k)).n.rows).length rc_mn57]), ⟨eqv, eqv, eqv, eqv, eqv, eqv, trivial⟩, ⟨rfl, (by exact ⟨_, rfl, hv45⟩), (by exact ⟨_, _, _, _, _, _, _, _, rfl, hp_mn57, hk_mn57, hm_mn57, hr_mn57, hok_mn57⟩), gp.next t (by omega) g26, by have := hat.2.2.2; dsimp only; omega, by dsimp only; omega⟩, by have := hat.2.2.2; dsimp only; omega⟩
     ·refine W.ok (ok_loadB (i := 0) (vs := [.slice _ _ _]) ty43 rfl rfl rfl rfl (by simp)) (W.nil ⟨Le.rfl, ((List.Sublist.refl _).cons_cons _).cons _, _, ((List.Sublist.refl _).cons_cons _).cons _, List.Sublist.refl _, ?_⟩)
      refine WD.any [2, 6] (by kernel_rfl) rfl ⟨⟨_, rfl, rfl, ?_⟩, ⟨_, rfl, rfl, ?_⟩, trivial⟩
      ·refine W.ok (ok_loadB (i := 0) (vs := [.slice _ _ _]) ty44 rfl rfl rfl rfl (by simp)) (W.nil ⟨Le.rfl, ((List.Sublist.refl _).cons_cons _).cons _, _, ((List.Sublist.refl _).cons_cons _).cons _, List.Sublist.refl _, (WD.any [6] (by kernel_rfl) rfl ⟨⟨_, rfl, rfl, (W.qcall (broute_fc (hp_nb41.mono (hG43.trans hG44)) _ (rightN_spec (t.right gp.mem g26)).1) rfl (W.nil ⟨Le.rfl, ((List.Sublist.refl _).cons_cons _).cons _, _, ((List.Sublist.refl _).cons_cons _).cons _, List.Sublist.refl _, ?_⟩))⟩, trivial⟩)⟩)
       have q63 := (hk_nb41.mono (hG43.trans hG44)).at (i := routeN x.n.pivots k) (by omega)
       refine match q63 with | ⟨_, he60, ⟨e_62, hi61⟩⟩ => ?_
       subst e_62
       refine WD.take 7 rfl rfl rfl (by kernel_rfl) (by kernel_rfl) (by kernel_rfl) (ok_indexAddr (i := routeN x.n.pivots k) sl44 ty3 (hk_nb41.mono (hG43.trans hG44)) rfl rfl ⟨by omega, by omega⟩) (WD.take 8 rfl rfl rfl (by kernel_rfl) (by kernel_rfl) (by kernel_rfl) (ok_loadE (vs := [.int .i64 _]) ty3 he60 rfl rfl rfl (by simp)) (WD.lookS (V := vNode) 9 (show getM (bySl l) (x.n.kids[routeN x.n.pivots k]'(by omega)) = some (kidSt l x (routeN x.n.pivots k)).n from by have h := t.inMap (gp.next t (by omega) g26).mem; rw [At.slot t gp.mem g26 k] at h; exact h) rfl (by kernel_rfl) (by kernel_rfl) (by kernel_rfl) mk125 mz47 ⟨_, rfl, ⟨_, _, _, _, _, _, _, _, rfl, SlR.nil, SlR.nil, SlR.nil, SlR.nil, Nd.zero_ok⟩⟩ (hmp26.mono ((hG37.trans hG43).trans hG44)) rfl rfl (fun v64 hv65 => ?_)))
       refine match hv65 with | ⟨_, e_67, ⟨pa_mn66, pc_mn66, ka_mn66, kc_mn66, ma_mn66, mc_mn66, ra_mn66, rc_mn66, e_68, hp_mn66, hk_mn66, hm_mn66, hr_mn66, hok_mn66⟩⟩ => ?_
       subst e_67
       subst e_68
       refine WD.take 10 rfl rfl rfl (by kernel_rfl) (by kernel_rfl) (by kernel_rfl) (ok_mv) (WD.take 11 rfl rfl rfl (by kernel_rfl) (by kernel_rfl) (by kernel_rfl) (ok_extract rfl rfl) (WD.take 12 rfl rfl rfl (by kernel_rfl) (by kernel_rfl) (by kernel_rfl) (ok_extract rfl rfl) (WD.any [13] (by kernel_rfl) rfl ⟨⟨_, rfl, rfl, (W.store (i := 0) (vs := [.int .i64 _, .int .i64 _, .slice _ _ _, .slice _ _ _, .string _, .bool _, .int .i64 _, .int .i64 _, .slice _ _ _, .slice _ _ _]) (L' := [.int .i64 _, .int .i64 _, .slice _ _ _, .slice _ _ _, .string _, .bool _, .int .i64 _, .int .i64 _, .slice _ _ _, .slice _ _ _]) ty47 rfl rfl rfl rfl rfl rfl rfl rfl (W.nil ⟨Le.rfl, ((List.Sublist.refl _).cons_cons _).cons _, _, ((List.Sublist.refl _).cons_cons _).cons _, List.Sublist.refl _, (WD.take 14 rfl rfl rfl (by kernel_rfl) (by kernel_rfl) (by kernel_rfl) (ok_as) (WD.done (by kernel_rfl) (blk_n (thn_n ?_))))⟩))⟩, trivial⟩)))
       refine WC.region (W.mv (W.ok (ok_sub rfl rfl (by omega)) (W.as (W.nil (thn_n ?_)))))
       exact ⟨(hG43.trans hG44), (((kidSt l x (routeN x.n.pivots k), mergeN [x.n.msgs, Wm], left - 1) : Seat × List Msg × Int), [.string (Span.all).lo.b, .string (Span.all).hi.b, .bool (Span.all).opn, .slice sa_hv45 (mergeN [x.n.msgs, Wm]).length sc_hv45], [.int .i64 (kidSt l x (routeN x.n.pivots k)).n.slot, .int .i64 (kidSt l x (routeN x.n.pivots k)).n.level, .slice pa_mn66 ((kidSt l x (routeN x.n.pivots k)).n.pivots).length pc_mn66, .slice ka_mn66 ((kidSt l x (routeN x.n.pivots k)).n.kids).length kc_mn66, .string (kidSt l x (routeN x.n.pivots k)).n.high.b, .bool (kidSt l x (routeN x.n.pivots k)).n.top, .int .i64 (kidSt l x (routeN x.n.pivots k)).n.right, .int .i64 (kidSt l x (routeN x.n.pivots k)).n.seen, .slice ma_mn66 ((kidSt l x (routeN x.n.pivots k)).n.msgs).length mc_mn66, .slice ra_mn66 ((kidSt l x (routeN x.n.pivots k)).n.rows).length rc_mn66]), ⟨eqv, eqv, eqv, eqv, eqv, eqv, trivial⟩, ⟨rfl, (by exact ⟨_, rfl, hv45⟩), (by exact ⟨_, _, _, _, _, _, _, _, rfl, hp_mn66, hk_mn66, hm_mn66, hr_mn66, hok_mn66⟩), gp.next t (by omega) g26, by have := hat.2.2.2; dsimp only; omega, by dsimp only; omega⟩, by have := hat.2.2.2; dsimp only; omega⟩
      ·refine W.qcall (broute_fc (hp_nb41.mono (hG43.trans hG44)) _ (rightN_spec (t.right gp.mem g26)).1) rfl (W.nil ⟨Le.rfl, ((List.Sublist.refl _).cons_cons _).cons _, _, ((List.Sublist.refl _).cons_cons _).cons _, List.Sublist.refl _, (WD.any [2] (by kernel_rfl) rfl ⟨⟨_, rfl, rfl, (W.ok (ok_loadB (i := 0) (vs := [.slice _ _ _]) ty44 rfl rfl rfl rfl (by simp)) (W.nil ⟨Le.rfl, ((List.Sublist.refl _).cons_cons _).cons _, _, ((List.Sublist.refl _).cons_cons _).cons _, List.Sublist.refl _, ?_⟩))⟩, trivial⟩)⟩)
       have q72 := (hk_nb41.mono (hG43.trans hG44)).at (i := routeN x.n.pivots k) (by omega)
       refine match q72 with | ⟨_, he69, ⟨e_71, hi70⟩⟩ => ?_
       subst e_71
       refine WD.take 7 rfl rfl rfl (by kernel_rfl) (by kernel_rfl) (by kernel_rfl) (ok_indexAddr (i := routeN x.n.pivots k) sl44 ty3 (hk_nb41.mono (hG43.trans hG44)) rfl rfl ⟨by omega, by omega⟩) (WD.take 8 rfl rfl rfl (by kernel_rfl) (by kernel_rfl) (by kernel_rfl) (ok_loadE (vs := [.int .i64 _]) ty3 he69 rfl rfl rfl (by simp)) (WD.lookS (V := vNode) 9 (show getM (bySl l) (x.n.kids[routeN x.n.pivots k]'(by omega)) = some (kidSt l x (routeN x.n.pivots k)).n from by have h := t.inMap (gp.next t (by omega) g26).mem; rw [At.slot t gp.mem g26 k] at h; exact h) rfl (by kernel_rfl) (by kernel_rfl) (by kernel_rfl) mk125 mz47 ⟨_, rfl, ⟨_, _, _, _, _, _, _, _, rfl, SlR.nil, SlR.nil, SlR.nil, SlR.nil, Nd.zero_ok⟩⟩ (hmp26.mono ((hG37.trans hG43).trans hG44)) rfl rfl (fun v73 hv74 => ?_)))
       refine match hv74 with | ⟨_, e_76, ⟨pa_mn75, pc_mn75, ka_mn75, kc_mn75, ma_mn75, mc_mn75, ra_mn75, rc_mn75, e_77, hp_mn75, hk_mn75, hm_mn75, hr_mn75, hok_mn75⟩⟩ => ?_
       subst e_76
       subst e_77
       refine WD.take 10 rfl rfl rfl (by kernel_rfl) (by kernel_rfl) (by kernel_rfl) (ok_mv) (WD.take 11 rfl rfl rfl (by kernel_rfl) (by kernel_rfl) (by kernel_rfl) (ok_extract rfl rfl) (WD.take 12 rfl rfl rfl (by kernel_rfl) (by kernel_rfl) (by kernel_rfl) (ok_extract rfl rfl) (WD.any [13] (by kernel_rfl) rfl ⟨⟨_, rfl, rfl, (W.store (i := 0) (vs := [.int .i64 _, .int .i64 _, .slice _ _ _, .slice _ _ _, .string _, .bool _, .int .i64 _, .int .i64 _, .slice _ _ _, .slice _ _ _]) (L' := [.int .i64 _, .int .i64 _, .slice _ _ _, .slice _ _ _, .string _, .bool _, .int .i64 _, .int .i64 _, .slice _ _ _, .slice _ _ _]) ty47 rfl rfl rfl rfl rfl rfl rfl rfl (W.nil ⟨Le.rfl, ((List.Sublist.refl _).cons_cons _).cons _, _, ((List.Sublist.refl _).cons_cons _).cons _, List.Sublist.refl _, (WD.take 14 rfl rfl rfl (by kernel_rfl) (by kernel_rfl) (by kernel_rfl) (ok_as) (WD.done (by kernel_rfl) (blk_n (thn_n ?_))))⟩))⟩, trivial⟩)))
       refine WC.region (W.mv (W.ok (ok_sub rfl rfl (by omega)) (W.as (W.nil (thn_n ?_)))))
       exact ⟨(hG43.trans hG44), (((kidSt l x (routeN x.n.pivots k), mergeN [x.n.msgs, Wm], left - 1) : Seat × List Msg × Int), [.string (Span.all).lo.b, .string (Span.all).hi.b, .bool (Span.all).opn, .slice sa_hv45 (mergeN [x.n.msgs, Wm]).length sc_hv45], [.int .i64 (kidSt l x (routeN x.n.pivots k)).n.slot, .int .i64 (kidSt l x (routeN x.n.pivots k)).n.level, .slice pa_mn75 ((kidSt l x (routeN x.n.pivots k)).n.pivots).length pc_mn75, .slice ka_mn75 ((kidSt l x (routeN x.n.pivots k)).n.kids).length kc_mn75, .string (kidSt l x (routeN x.n.pivots k)).n.high.b, .bool (kidSt l x (routeN x.n.pivots k)).n.top, .int .i64 (kidSt l x (routeN x.n.pivots k)).n.right, .int .i64 (kidSt l x (routeN x.n.pivots k)).n.seen, .slice ma_mn75 ((kidSt l x (routeN x.n.pivots k)).n.msgs).length mc_mn75, .slice ra_mn75 ((kidSt l x (routeN x.n.pivots k)).n.rows).length rc_mn75]), ⟨eqv, eqv, eqv, eqv, eqv, eqv, trivial⟩, ⟨rfl, (by exact ⟨_, rfl, hv45⟩), (by exact ⟨_, _, _, _, _, _, _, _, rfl, hp_mn75, hk_mn75, hm_mn75, hr_mn75, hok_mn75⟩), gp.next t (by omega) g26, by have := hat.2.2.2; dsimp only; omega, by dsimp only; omega⟩, by have := hat.2.2.2; dsimp only; omega⟩
    ·have p39 := of_decide_eq_false h39
     exfalso; omega
   ·have p30 := of_decide_eq_false h30
    exfalso; omega
  ·have p26 := of_decide_eq_false h26
   refine W.no (dj := 28) rfl rfl h26 (W.no (dj := 28) rfl rfl h26 (W.ok (ok_pick_f rfl h26) (W.mv (W.no (dj := 32) rfl rfl rfl (W.no (dj := 32) rfl rfl rfl (W.no (dj := 32) rfl rfl rfl (W.no (dj := 32) rfl rfl rfl ?_)))))))
   refine W.no (dj := 32) rfl rfl rfl (W.no (dj := 32) rfl rfl rfl (W.no (dj := 32) rfl rfl rfl (W.ok (ok_pick_f rfl rfl) (W.nil (thn_n (WC.cond_f rfl rfl (WC.exit (thn_x (thn_x (blk_h (thn_n (WC.seq ?_))))))))))))
   refine WC.seq (WC.region (W.mv (W.ok (ok_not rfl) (W.mv (W.yes (dj := 65) rfl rfl rfl (W.ok (ok_fieldB fd47_1 rfl) (W.yes (dj := 65) rfl rfl rfl ?_)))))))
   refine W.ok (ok_loadB (i := 0) (vs := [.int .i64 _]) ty3 rfl rfl rfl rfl (by simp)) (W.yes (dj := 65) rfl rfl rfl (W.ok (ok_neq rfl rfl) (W.ok (ok_pick_f rfl rfl) (W.nil (thn_n ?_)))))
   refine WC.cond (b := _) rfl (fun h68 => ?_) (fun h68 => ?_)
   ·have p68 := nd_t h68
    exfalso; omega
   ·have p68 := nd_f h68
    refine WC.skip (thn_n (WC.seq (WC.region (W.ok (ok_fieldB fd47_9 rfl) (W.ok (ok_loadB (i := 0) (vs := [.slice _ _ _]) ty41 rfl rfl rfl rfl (by simp)) (W.mv (W.ok (ok_fieldB fd137_1 rfl) (W.ok (ok_loadB (i := 1) (vs := [.slice _ _ _]) ty45 rfl rfl rfl rfl (by simp)) ?_))))))))
    refine W.qcall (merget_fc hr_nb41 k hw7 (t.rows gp.mem) (fun m hm => ⟨by have := (msgR_key (gp.fit m hm)).1; omega, (msgR_key (gp.fit m hm)).2⟩)) rfl (W.ok (ok_extract rfl rfl) (W.ok (ok_extract rfl rfl) (W.as (W.as (W.nil (thn_n (WC.ret ?_)))))))
    refine ⟨.inr rfl, [_, _], ⟨rfl, rfl, trivial⟩, [], List.nil_sublist _, ?_⟩
    exact congrArg (fun o : Option Str => Value.tuple #[.string (o.getD Str.nil).b, .bool o.isSome]) (gp.get t (by omega) (by omega))

end Go.Proofs.YtebkfinhhpelbaaGreat
