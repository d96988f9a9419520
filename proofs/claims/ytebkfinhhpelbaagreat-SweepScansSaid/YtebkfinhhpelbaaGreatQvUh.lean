/- Walks of sweeps through a sound tree. -/
import Derived.Test.YtebkfinhhpelbaaGreatQvUf
import Derived.Test.YtebkfinhhpelbaaGreatQvUe
import Derived.Test.YtebkfinhhpelbaaGreatQvWz
import Derived.Test.YtebkfinhhpelbaaGreatQvNp
namespace Go.Proofs.YtebkfinhhpelbaaGreat
open Go Go.Fw Go.RowKit
set_option maxRecDepth 100000
set_option maxHeartbeats 1600000
set_option linter.unusedVariables false
set_option linter.unusedSimpArgs false
set_option linter.unnecessarySimpa false
theorem sfrom_fc {G : GH} (slo : Str) (shi : Str) (so : Bool) (k : Str) :
    Fc Tryz.prog 109 [.agg #[.string slo.b, .string shi.b, .bool so], .string k.b] G [] (fun v _ _ => v = .agg (List.toArray ((Span.meet ⟨slo, shi, so⟩ ⟨k, Str.nil, true⟩).cells))) := by
 refine Fc.intro (rs := [.cell 4 52]) cl109 Tryz.func109 rfl Tryz.ntmps109 rfl rfl (fun w0 => ?_)
 refine WC.seq (WC.region (W.box (L := [.string _, .string _, .bool _]) rfl rfl (fun b1 => (W.alloc zr52 (fun b2 => (W.nil (thn_n (WC.seq (WC.region (W.ok (ok_loadB (i := 1) (vs := [.string _, .string _, .bool _]) ty52 rfl rfl rfl rfl (by simp)) ?_))))))))))
 refine W.mv (W.ok (ok_build (L := [.string _, .string _, .bool _]) pl52 zr52 rfl rfl rfl) (W.qcall (smeet_fc _ _ _ _ Str.nil _) rfl (W.store (i := 0) (vs := [.string _, .string _, .bool _]) (L' := [.string _, .string _, .bool _]) ty52 rfl rfl rfl rfl rfl rfl rfl rfl (W.nil (thn_n (WC.ret ?_))))))
 refine ⟨.inr rfl, [_], ⟨⟨_, _, _, _, _, rfl, nthM_mem (i := 0) rfl, ty52, (by simp), rfl, rfl⟩, trivial⟩, [], List.nil_sublist _, ?_⟩
 rfl

theorem scan_nil {G : GH}  (xlo : Str) (xhi : Str) (xo : Bool) (n : Int) :
    Fc Tryz.prog 49 [.pointer none, .agg #[.string xlo.b, .string xhi.b, .bool xo], .int .i64 n] G [] (fun v G' M' => M' = [] ∧ ∃ u0, v = u0 ∧ SlR ePair G' u0 (([] : List Pair))) := by
 refine Fc.intro (rs := [.tmp 6]) cl49 Tryz.func49 rfl Tryz.ntmps49 rfl rfl (fun w0 => ?_)
 refine WC.seq (WC.region (W.box (L := [.string _, .string _, .bool _]) rfl rfl (fun b3 => (W.as (W.nil (thn_n (WC.seq (WC.region (W.as ?_)))))))))
 refine W.nil (thn_n (WC.seq (WC.region (W.ok (ok_loadB (i := 0) (vs := [.string _, .string _, .bool _]) ty52 rfl rfl rfl rfl (by simp)) (W.qcall (spannorm_fc _ _ _) rfl (W.alloc zr52 (fun b4 => (W.store (i := 0) (vs := [.string _, .string _, .bool _]) (L' := [.string _, .string _, .bool _]) ty52 rfl rfl rfl rfl rfl rfl rfl rfl (W.nil (thn_n ?_))))))))))
 refine WC.block ?_
 refine WC.loop (X := (Unit) × Nat) (fun y => [(7, .slice none 0 0), (0, .pointer none), (2, .int .i64 n), (8, .pointer (some ⟨y.2, 0, none⟩))]) (fun y G Ml => Ml = [(y.2, .cells (List.toArray [.string (Span.norm ⟨xlo, xhi, xo⟩).lo.b, .string (Span.norm ⟨xlo, xhi, xo⟩).hi.b, .bool (Span.norm ⟨xlo, xhi, xo⟩).opn]) 52 (0, 0)), (b3, .cells (List.toArray [.string xlo.b, .string xhi.b, .bool xo]) 52 (0, 0))]) (fun y => 0) ((), b4) ⟨eqv, eqv, eqv, eqv, trivial⟩ ?_ ?_
 ·exact rfl
 ·rintro ⟨y, B_8⟩ gG5 G5 _ hG5 rfl
  refine WC.fr (f := setL gG5 [(7, .slice none 0 0), (0, .pointer none), (2, .int .i64 n), (8, .pointer (some ⟨B_8, 0, none⟩))]) rfl (WC.perm (M' := [(B_8, .cells (List.toArray [.string (Span.norm ⟨xlo, xhi, xo⟩).lo.b, .string (Span.norm ⟨xlo, xhi, xo⟩).hi.b, .bool (Span.norm ⟨xlo, xhi, xo⟩).opn]) 52 (0, 0)), (b3, .cells (List.toArray [.string xlo.b, .string xhi.b, .bool xo]) 52 (0, 0))]) (List.Perm.refl _) (WC.seq (WC.block (WC.seq (WC.region (W.mv (W.ok (ok_fieldB fd52_0 rfl) ?_)))))))
  refine W.ok (ok_loadB (i := 0) (vs := [.string _]) ty9 rfl rfl rfl rfl (by simp)) (W.call (Mp := []) (leaf_nil _) rfl (List.Perm.refl _) ?_)
  intro _ G6 _ hG6 q8
  refine match q8 with | ⟨e_9, _, e_10, hv7⟩ => ?_
  subst e_9
  subst e_10
  refine match hv7 with | ⟨pa_hv7, pc_hv7, ka_hv7, kc_hv7, ma_hv7, mc_hv7, ra_hv7, rc_hv7, e_11, hp_hv7, hk_hv7, hm_hv7, hr_hv7, hok_hv7⟩ => ?_
  subst e_11
  refine W.mv (W.ok (ok_extract rfl rfl) (W.ok (ok_extract rfl rfl) (W.ok (ok_extract rfl rfl) (W.alloc zr47 (fun b12 => (W.alloc zr52 (fun b13 => (W.store (i := 1) (vs := [.int .i64 _, .int .i64 _, .slice _ _ _, .slice _ _ _, .string _, .bool _, .int .i64 _, .int .i64 _, .slice _ _ _, .slice _ _ _]) (L' := [.int .i64 _, .int .i64 _, .slice _ _ _, .slice _ _ _, .string _, .bool _, .int .i64 _, .int .i64 _, .slice _ _ _, .slice _ _ _]) ty47 rfl rfl rfl rfl rfl rfl rfl rfl (W.store (i := 0) (vs := [.string _, .string _, .bool _]) (L' := [.string _, .string _, .bool _]) ty52 rfl rfl rfl rfl rfl rfl rfl rfl ?_)))))))))
  refine W.as (W.nil (thn_n (WC.seq (WC.seq (WC.region (W.mv (W.ok (ok_not rfl) (W.mv ?_))))))))
  refine W.no (dj := 27) rfl rfl rfl (W.no (dj := 27) rfl rfl rfl (W.ok (ok_pick_t rfl rfl) (W.mv (W.no (dj := 31) rfl rfl rfl (W.no (dj := 31) rfl rfl rfl (W.no (dj := 31) rfl rfl rfl (W.no (dj := 31) rfl rfl rfl ?_)))))))
  refine W.ok (ok_pick_t rfl rfl) (W.nil (thn_n (WC.cond_t rfl rfl (WC.seq (WC.region (W.mv (W.as (W.nil (thn_n ?_)))))))))
  refine WC.ret (thn_r (blk_r (thn_r (thn_r (blk_r ?_)))))
  refine ⟨.inr rfl, [_], ⟨rfl, trivial⟩, [], List.nil_sublist _, ?_⟩
  refine ⟨rfl, _, rfl, ?_⟩
  · exact SlR.nil

theorem swmap_nil {G : GH}  :
    Fc Tryz.prog 51 [.pointer none] G [] (fun v G' M' => M' = [] ∧ ∃ u0, v = u0 ∧ SlR ePair G' u0 (([] : List Pair))) := by
 refine Fc.intro (rs := [.tmp 2]) cl51 Tryz.func51 rfl Tryz.ntmps51 rfl rfl (fun w0 => ?_)
 refine WC.seq (WC.region (W.as (W.nil (thn_n (WC.seq (WC.region (W.mv (W.qcall (spanall_fc ) rfl ?_))))))))
 refine W.call (Mp := []) (scan_nil _ _ _ _) rfl (List.Perm.refl _) ?_
 intro _ G14 _ hG14 q16
 refine match q16 with | ⟨e_17, _, e_18, hv15⟩ => ?_
 subst e_17
 subst e_18
 have q20 := hv15.form
 refine match q20 with | ⟨sa_hv15, sc_hv15, e_19⟩ => ?_
 subst e_19
 refine W.as (W.nil (thn_n (WC.ret ?_)))
 refine ⟨.inr rfl, [_], ⟨rfl, trivial⟩, [], List.nil_sublist _, ?_⟩
 refine ⟨rfl, _, rfl, ?_⟩
 · exact hv15

theorem scan_fc {G : GH} {b_s : Nat} {c c2 : Cfg} {l : List Nd} {ss : List Seat} {Ms_s : MH} (h_s : StR 47 4 3 182 103 b_s c G l Ms_s) (t : Tree c2 l ss) (xlo : Str) (xhi : Str) (xo : Bool) (n : Int) (hxs : xlo.b.size ≤ 300 ∧ xhi.b.size ≤ 300) (hin : i64 n) :
    Fc Tryz.prog 49 [.pointer (some ⟨b_s, 0, none⟩), .agg #[.string xlo.b, .string xhi.b, .bool xo], .int .i64 n] G Ms_s (fun v G' M' => M' = Ms_s ∧ ∃ u0, v = u0 ∧ SlR ePair G' u0 (scanN (mapN l) ⟨xlo, xhi, xo⟩ n)) := by
 obtain ⟨hin1, hin2⟩ := hin
 refine Fc.intro (rs := [.tmp 6]) cl49 Tryz.func49 rfl Tryz.ntmps49 rfl rfl (fun w0 => ?_)
 refine WC.perm (M' := (Ms_s ++ [])) (by simp) (WC.seq (WC.region (W.box (L := [.string _, .string _, .bool _]) rfl rfl (fun b21 => (W.as (W.nil (thn_n (WC.seq (WC.region ?_)))))))))
 refine W.as (W.nil (thn_n (WC.seq (WC.region (W.ok (ok_loadB (i := 0) (vs := [.string _, .string _, .bool _]) ty52 rfl rfl rfl rfl (by simp)) (W.qcall (spannorm_fc _ _ _) rfl (W.alloc zr52 (fun b22 => (W.store (i := 0) (vs := [.string _, .string _, .bool _]) (L' := [.string _, .string _, .bool _]) ty52 rfl rfl rfl rfl rfl rfl rfl rfl ?_)))))))))
 refine W.nil (thn_n (WC.block ?_))
 refine WC.loop (X := (Span × List Pair) × Value × MH × Nat) (fun y => [(0, .pointer (some ⟨b_s, 0, none⟩)), (2, .int .i64 n), (7, y.2.1), (8, .pointer (some ⟨y.2.2.2, 0, none⟩))]) (fun y G Ml => Ml = ((y.2.2.2, .cells (List.toArray [.string (y.1.1).lo.b, .string (y.1.1).hi.b, .bool (y.1.1).opn]) 52 (0, 0)) :: ((b21, .cells (List.toArray [.string xlo.b, .string xhi.b, .bool xo]) 52 (0, 0)) :: (y.2.2.1 ++ (Ms_s ++ [])))) ∧ OwnR ePair 69 G y.2.1 (y.1.2) y.2.2.1 ∧ SwOk l ⟨xlo, xhi, xo⟩ n y.1.1 y.1.2 ∧ (y.1.1.lo.b.size ≤ 300 ∧ y.1.1.hi.b.size ≤ 300)) (fun y => aheadN ss y.1.1) (((Span.norm ⟨xlo, xhi, xo⟩, []) : Span × List Pair), .slice none 0 0, ([] : MH), b22) ⟨eqv, eqv, eqv, eqv, trivial⟩ ?_ ?_
 ·exact ⟨rfl, (by exact OwnR.nil), SwOk.init l _ n, norm_sizes hxs.1 hxs.2⟩
 ·rintro ⟨⟨r, out⟩, v_7, M_7, B_8⟩ gG23 G23 _ hG23 ⟨rfl, ho_7, hw, hrs⟩
  try dsimp only at ho_7 hw hrs
  have hol := hw.olen t
  have hml := t.map_len
  refine WC.fr (f := setL gG23 [(0, .pointer (some ⟨b_s, 0, none⟩)), (2, .int .i64 n), (7, v_7), (8, .pointer (some ⟨B_8, 0, none⟩))]) rfl (WC.perm (M' := ((B_8, .cells (List.toArray [.string (r).lo.b, .string (r).hi.b, .bool (r).opn]) 52 (0, 0)) :: ((b21, .cells (List.toArray [.string xlo.b, .string xhi.b, .bool xo]) 52 (0, 0)) :: (M_7 ++ (Ms_s ++ []))))) (List.Perm.refl _) (WC.seq (WC.block (WC.seq (WC.region (W.mv (W.ok (ok_fieldB fd52_0 rfl) ?_)))))))
  refine W.ok (ok_loadB (i := 0) (vs := [.string _]) ty9 rfl rfl rfl rfl (by simp)) (W.call (Mp := Ms_s) (leaf_fc (StR.mono hG23 h_s) t _) rfl (pmC (pmC (pmA (List.Perm.refl _)))) ?_)
  intro v28 G25 Ms27 hG25 q26
  refine match q26 with | ⟨eeq26, _, e_30, hv24⟩ => ?_
  subst e_30
  have eeq26 := eeq26.symm
  subst eeq26
  refine W.perm (pmC (pmC (List.Perm.refl _))).symm ?_
  refine match hv24 with | ⟨pa_hv24, pc_hv24, ka_hv24, kc_hv24, ma_hv24, mc_hv24, ra_hv24, rc_hv24, e_31, hp_hv24, hk_hv24, hm_hv24, hr_hv24, hok_hv24⟩ => ?_
  subst e_31
  refine W.mv (W.ok (ok_extract rfl rfl) (W.ok (ok_extract rfl rfl) (W.ok (ok_extract rfl rfl) (W.alloc zr47 (fun b32 => (W.alloc zr52 (fun b33 => (W.store (i := 1) (vs := [.int .i64 _, .int .i64 _, .slice _ _ _, .slice _ _ _, .string _, .bool _, .int .i64 _, .int .i64 _, .slice _ _ _, .slice _ _ _]) (L' := [.int .i64 _, .int .i64 _, .slice _ _ _, .slice _ _ _, .string _, .bool _, .int .i64 _, .int .i64 _, .slice _ _ _, .slice _ _ _]) ty47 rfl rfl rfl rfl rfl rfl rfl rfl (W.store (i := 0) (vs := [.string _, .string _, .bool _]) (L' := [.string _, .string _, .bool _]) ty52 rfl rfl rfl rfl rfl rfl rfl rfl ?_)))))))))
  refine W.as (W.nil (thn_n (WC.seq (WC.seq (WC.region (W.mv (W.ok (ok_not rfl) (W.mv ?_))))))))
  refine W.yes (dj := 27) rfl rfl rfl (W.ok (ok_loadB (i := 2) (vs := [.string _, .string _, .bool _]) ty52 rfl rfl rfl rfl (by simp)) (W.yes (dj := 27) rfl rfl rfl (W.qcall (spanempty_fc _ _ _) rfl (W.ok (ok_pick_f rfl rfl) (W.mv ?_)))))
  refine W.sp 31 rfl (fun h29 => ?_) (fun h29 => ?_)
  ·refine W.no (dj := 31) rfl rfl h29 (W.no (dj := 31) rfl rfl h29 (W.no (dj := 31) rfl rfl h29 (W.no (dj := 31) rfl rfl h29 (W.ok (ok_pick_t rfl h29) (W.nil (thn_n (WC.cond_t rfl rfl (WC.seq ?_))))))))
   refine WC.region (W.mv (W.as (W.nil (thn_n (WC.giveO (ho_7.mono hG25) (pmC (pmC (pmC (pmC (pmA (List.Perm.refl _)))))) (fun G34 hG34 hv34 => (WC.ret (thn_r (blk_r (thn_r (thn_r (blk_r ?_))))))))))))
   refine ⟨.inr rfl, [_], ⟨rfl, trivial⟩, Ms_s, ((((List.sublist_append_left _ _).cons _).cons _).cons _).cons _, ?_⟩
   exact ⟨rfl, _, rfl, SlR.cast hv34 (hw.empty h29)⟩
  ·have g := t.leg (rest := r) h29
   have hlo := leafS_lvl t r.lo
   have hft := t.fits _ hlo.1
   have hz9 := meet_sizes (n := 300) hrs (b := (leafS l r.lo).s) ⟨by have := hft.1.1; omega, by have := hft.1.2; omega⟩
   have hz300 := hz9.1
   have hz301 := hz9.2
   have hrl := t.rows_len hlo.1
   have hml2 := (t.ms_len _ hlo.1).1
   refine W.yes (dj := 31) rfl rfl h29 (W.mv (W.yes (dj := 31) rfl rfl h29 (W.ok (ok_lenO sl41 (ho_7.mono hG25) rfl) (W.yes (dj := 31) rfl rfl h29 (W.mv (W.yes (dj := 31) rfl rfl h29 (W.ok (ok_geq rfl rfl) ?_)))))))
   refine W.ok (ok_pick_f rfl h29) (W.nil (thn_n ?_))
   refine WC.cond (b := _) rfl (fun h35 => ?_) (fun h35 => ?_)
   ·have p35 := of_decide_eq_true h35
    refine WC.seq (WC.region (W.mv (W.as (W.nil (thn_n (WC.giveO (ho_7.mono hG25) (pmC (pmC (pmC (pmC (pmA (List.Perm.refl _)))))) (fun G35 hG35 hv35 => (WC.ret (thn_r (blk_r (thn_r (thn_r (blk_r ?_)))))))))))))
    refine ⟨.inr rfl, [_], ⟨rfl, trivial⟩, Ms_s, ((((List.sublist_append_left _ _).cons _).cons _).cons _).cons _, ?_⟩
    exact ⟨rfl, _, rfl, SlR.cast hv35 (hw.full (by omega))⟩
   ·have p35 := of_decide_eq_false h35
    have hpart := Leg.part t hlo.1 hlo.2 g r.lo (n - (out.length : Int))
    have hvl := List.length_filter_le (fun p : Pair => Span.has (r.meet (leafS l r.lo).s) p.key) (mapN l)
    have hcl : (((mapN l).filter fun p => Span.has (r.meet (leafS l r.lo).s) p.key).take (cutN ((mapN l).filter fun p => Span.has (r.meet (leafS l r.lo).s) p.key) (n - (out.length : Int)))).length ≤ ((mapN l).filter fun p => Span.has (r.meet (leafS l r.lo).s) p.key).length := by rw [List.length_take]; omega
    refine WC.skip (thn_n (WC.seq (WC.drawW _ (((((List.nil_sublist _).cons_cons _).cons_cons _).cons_cons _).cons_cons _) mix (by rintro _ _ _ _ ⟨h | h, _⟩ <;> cases h) (WD.take 0 rfl rfl rfl (by kernel_rfl) (by kernel_rfl) (by kernel_rfl) (ok_fieldB fd47_9 rfl) (WD.take 1 rfl rfl rfl (by kernel_rfl) (by kernel_rfl) (by kernel_rfl) (ok_loadB (i := 1) (vs := [.slice _ _ _]) ty41 rfl rfl rfl rfl (by simp)) (WD.take 2 rfl rfl rfl (by kernel_rfl) (by kernel_rfl) (by kernel_rfl) (ok_loadB (i := 2) (vs := [.string _, .string _, .bool _]) ty52 rfl rfl rfl rfl (by simp)) (WD.take 3 rfl rfl rfl (by kernel_rfl) (by kernel_rfl) (by kernel_rfl) (ok_loadB (i := 0) (vs := [.string _, .string _, .bool _]) ty52 rfl rfl rfl rfl (by simp)) (WD.take 5 rfl rfl rfl (by kernel_rfl) (by kernel_rfl) (by kernel_rfl) (ok_mv) ?_))))))))
    refine WD.take 6 rfl rfl rfl (by kernel_rfl) (by kernel_rfl) (by kernel_rfl) (ok_fieldB fd52_0 rfl) (WD.take 7 rfl rfl rfl (by kernel_rfl) (by kernel_rfl) (by kernel_rfl) (ok_loadB (i := 2) (vs := [.string _]) ty9 rfl rfl rfl rfl (by simp)) (WD.take 9 rfl rfl rfl (by kernel_rfl) (by kernel_rfl) (by kernel_rfl) (ok_fieldB fd52_0 rfl) (WD.take 10 rfl rfl rfl (by kernel_rfl) (by kernel_rfl) (by kernel_rfl) (ok_loadB (i := 2) (vs := [.string _]) ty9 rfl rfl rfl rfl (by simp)) (WD.take 11 rfl rfl rfl (by kernel_rfl) (by kernel_rfl) (by kernel_rfl) (ok_mv) (WD.take 12 rfl rfl rfl (by kernel_rfl) (by kernel_rfl) (by kernel_rfl) (ok_mv) (WD.take 13 rfl rfl rfl (by kernel_rfl) (by kernel_rfl) (by kernel_rfl) (ok_lenO sl41 (ho_7.mono hG25) rfl) (WD.take 14 rfl rfl rfl (by kernel_rfl) (by kernel_rfl) (by kernel_rfl) (ok_sub rfl rfl (by omega)) ?_)))))))
    refine WD.any [4] (by kernel_rfl) rfl ⟨⟨_, rfl, rfl, (W.qcall (smeet_fc _ _ _ _ _ _) rfl (W.nil ⟨Le.rfl, ((((List.nil_sublist _).cons_cons _).cons_cons _).cons_cons _).cons_cons _, _, ((((List.nil_sublist _).cons_cons _).cons_cons _).cons_cons _).cons_cons _, List.Sublist.refl _, (WD.any [8] (by kernel_rfl) rfl ⟨⟨_, rfl, rfl, (W.call (Mp := Ms_s) (msgs_fc (StR.mono (hG23.trans hG25) h_s) t _) rfl (pmC (pmC (pmC (pmC (List.Perm.refl _))))) ?_)⟩, trivial⟩)⟩))⟩, trivial⟩
    intro v40 G37 Ms39 hG37 q38
    refine match q38 with | ⟨eeq38, _, e_42, hv36⟩ => ?_
    subst e_42
    have eeq38 := eeq38.symm
    subst eeq38
    refine W.perm (pmC (pmC (pmC (pmC (List.Perm.refl _))))).symm ?_
    have q44 := hv36.form
    refine match q44 with | ⟨sa_hv36, sc_hv36, e_43⟩ => ?_
    subst e_43
    refine W.nil ⟨hG37, ((((List.nil_sublist _).cons_cons _).cons_cons _).cons_cons _).cons_cons _, _, ((((List.nil_sublist _).cons_cons _).cons_cons _).cons_cons _).cons_cons _, List.Sublist.refl _, (WD.any [15] (by kernel_rfl) rfl ⟨⟨_, rfl, rfl, (W.call (Mp := []) (spart_fc (hr_hv24.mono hG37) (r.meet (leafS l r.lo).s).lo (r.meet (leafS l r.lo).s).hi (r.meet (leafS l r.lo).s).opn hv36 r.lo (n - (out.length : Int)) (t.rows hlo.1) (by omega) (fun m hm => msgR_key (hft.2 m hm)) hz300) rfl (List.Perm.refl _) ?_)⟩, trivial⟩)⟩
    intro _ G45 _ hG45 q47
    refine match q47 with | ⟨e_48, _, e_49, _, e_50, hv46⟩ => ?_
    subst e_48
    subst e_49
    subst e_50
    have hc51 := SlR.cast hv46 (l' := (((mapN l).filter fun p => Span.has (r.meet (leafS l r.lo).s) p.key).take (cutN ((mapN l).filter fun p => Span.has (r.meet (leafS l r.lo).s) p.key) (n - (out.length : Int))))) (by rw [hpart])
    have q53 := hc51.form
    refine match q53 with | ⟨sa_hc51, sc_hc51, e_52⟩ => ?_
    subst e_52
    refine W.nil ⟨hG45, ((((List.nil_sublist _).cons_cons _).cons_cons _).cons_cons _).cons_cons _, _, ((((List.nil_sublist _).cons_cons _).cons_cons _).cons_cons _).cons_cons _, List.Sublist.refl _, (WD.take 16 rfl rfl rfl (by kernel_rfl) (by kernel_rfl) (by kernel_rfl) (ok_mv) (WD.take 17 rfl rfl rfl (by kernel_rfl) (by kernel_rfl) (by kernel_rfl) (ok_extract rfl rfl) (WD.take 18 rfl rfl rfl (by kernel_rfl) (by kernel_rfl) (by kernel_rfl) (ok_extract rfl rfl) (WD.take 19 rfl rfl rfl (by kernel_rfl) (by kernel_rfl) (by kernel_rfl) (ok_extract rfl rfl) (WD.take 20 rfl rfl rfl (by kernel_rfl) (by kernel_rfl) (by kernel_rfl) (ok_as) (WD.take 21 rfl rfl rfl (by kernel_rfl) (by kernel_rfl) (by kernel_rfl) (ok_as) (WD.take 22 rfl rfl rfl (by kernel_rfl) (by kernel_rfl) (by kernel_rfl) (ok_as) ?_)))))))⟩
    refine WD.done (by kernel_rfl) (thn_n (WC.seq (WC.region (W.mv (W.mv (W.app (e := ePair) sl41 ty69 zr69 rfl by69 rfl rfl ((ho_7.mono ((hG25.trans hG37).trans hG45))) (hc51) (pmC (pmC (pmC (pmC (pmA (List.Perm.refl _)))))) (by show (List.length _ + List.length _) * 32 ≤ _; omega) (fun v54 Ms55 ho56 => (W.perm (pmC (pmC (pmC (pmC (List.Perm.refl _))))).symm (W.as ?_)))))))))
    refine W.nil (thn_n (WC.seq (WC.seq (WC.region (W.mv (W.mv ?_))))))
    refine W.sp 62 rfl (fun h54_2 => ?_) (fun h54_2 => ?_)
    ·refine W.no (dj := 62) rfl rfl h54_2 (W.no (dj := 62) rfl rfl h54_2 (W.no (dj := 62) rfl rfl h54_2 (W.no (dj := 62) rfl rfl h54_2 (W.ok (ok_pick_t rfl h54_2) (W.nil (thn_n (WC.cond_t rfl rfl (WC.seq ?_))))))))
     refine WC.region (W.mv (W.as (W.nil (thn_n (WC.giveO ho56 (pmC (pmC (pmC (pmC (List.Perm.refl _))))) (fun G57 hG57 hv57 => (WC.ret (thn_r (blk_r (thn_r (thn_r (blk_r ?_))))))))))))
     refine ⟨.inr rfl, [_], ⟨rfl, trivial⟩, Ms_s, ((((List.sublist_append_left _ _).cons _).cons _).cons _).cons _, ?_⟩
     exact ⟨rfl, _, rfl, SlR.cast hv57 (hw.over t (by omega) g (by rw [hpart] at h54_2; exact h54_2))⟩
    ·have hgo := hw.go t (by omega) g (by rw [hpart] at h54_2; exact h54_2)
     have hcur : (partN (leafS l r.lo).n.rows (r.meet (leafS l r.lo).s) (leafS l r.lo).ms r.lo (n - (out.length : Int))).2.1 = (r.meet (leafS l r.lo).s).hi := by rw [hpart]; show (if _ then _ else _) = _; rw [if_neg (by rw [hgo.1]; simp)]
     refine W.yes (dj := 62) rfl rfl h54_2 (W.mv (W.yes (dj := 62) rfl rfl h54_2 (W.ok (ok_fieldB fd52_0 rfl) (W.yes (dj := 62) rfl rfl h54_2 (W.ok (ok_loadB (i := 2) (vs := [.string _]) ty9 rfl rfl rfl rfl (by simp)) (W.yes (dj := 62) rfl rfl h54_2 (W.ok (ok_leqS rfl rfl) ?_)))))))
     refine W.ok (ok_pick_f rfl h54_2) (W.nil (thn_n ?_))
     refine WC.cond (b := _) rfl (fun h66 => ?_) (fun h66 => ?_)
     ·exfalso
      rw [hcur] at h66
      have h0 := g.fin hgo.1
      unfold Str.lt at h0
      rw [h0] at h66
      simp at h66
     ·refine WC.skip (thn_n (WC.region (W.ok (ok_loadB (i := 2) (vs := [.string _, .string _, .bool _]) ty52 rfl rfl rfl rfl (by simp)) (W.mv (W.qcall (sfrom_fc _ _ _ _) rfl (W.store (i := 2) (vs := [.string _, .string _, .bool _]) (L' := [.string _, .string _, .bool _]) ty52 rfl rfl rfl rfl rfl rfl rfl rfl (W.nil (blk_n (thn_n (WC.seq ?_))))))))))
      refine WC.region (W.ok (ok_loadB (i := 2) (vs := [.string _, .string _, .bool _]) ty52 rfl rfl rfl rfl (by simp)) (W.nil (thn_n (WC.sub ((((List.Sublist.refl _).cons _).cons_cons _).cons_cons _) (WC.sub (((List.Sublist.refl _).cons _).cons_cons _) (WC.sub ((List.Sublist.refl _).cons _) (WC.region (W.alloc zr52 (fun b58 => ?_)))))))))
      refine W.store (i := 0) (vs := [.string _, .string _, .bool _]) (L' := [.string _, .string _, .bool _]) ty52 rfl rfl rfl rfl rfl rfl rfl rfl (W.nil (thn_n ?_))
      exact ⟨((hG25.trans hG37).trans hG45), (((r.meet ⟨(partN (leafS l r.lo).n.rows (r.meet (leafS l r.lo).s) (leafS l r.lo).ms r.lo (n - (out.length : Int))).2.1, Str.nil, true⟩, out ++ ((mapN l).filter fun p => Span.has (r.meet (leafS l r.lo).s) p.key)) : Span × List Pair), v54, Ms55, b58), ⟨eqv, eqv, eqv, eqv, trivial⟩, ⟨rfl, (by have h := ho56; rw [hgo.2.2] at h; exact h), by rw [hcur]; exact hgo.2.1, meet_sizes hrs ⟨by rw [hcur]; exact hz301, by show Str.nil.b.size ≤ 300; decide⟩⟩, by rw [hcur]; exact Leg.ahead hlo.1 hlo.2 h29 g hgo.1⟩

theorem swmap_fc {G : GH} {b_s : Nat} {c c2 : Cfg} {l : List Nd} {ss : List Seat} {Ms_s : MH} (h_s : StR 47 4 3 182 103 b_s c G l Ms_s) (t : Tree c2 l ss) :
    Fc Tryz.prog 51 [.pointer (some ⟨b_s, 0, none⟩)] G Ms_s (fun v G' M' => M' = Ms_s ∧ ∃ u0, v = u0 ∧ SlR ePair G' u0 (mapN l)) := by
 have hml := t.map_len
 refine Fc.intro (rs := [.tmp 2]) cl51 Tryz.func51 rfl Tryz.ntmps51 rfl rfl (fun w0 => ?_)
 refine WC.perm (M' := (Ms_s ++ [])) (by simp) (WC.seq (WC.region (W.as (W.nil (thn_n (WC.seq (WC.region (W.mv ?_))))))))
 refine W.qcall (spanall_fc ) rfl (W.call (Mp := Ms_s) (scan_fc h_s t Span.all.lo Span.all.hi Span.all.opn _ ⟨by decide, by decide⟩ ⟨by decide, by decide⟩) rfl (List.Perm.refl _) ?_)
 intro v63 G60 Ms62 hG60 q61
 refine match q61 with | ⟨eeq61, _, e_65, hv59⟩ => ?_
 subst e_65
 have eeq61 := eeq61.symm
 subst eeq61
 have q67 := hv59.form
 refine match q67 with | ⟨sa_hv59, sc_hv59, e_66⟩ => ?_
 subst e_66
 refine W.as (W.nil (thn_n (WC.ret ?_)))
 refine ⟨.inr rfl, [_], ⟨rfl, trivial⟩, Ms_s, List.sublist_append_left _ _, ?_⟩
 refine ⟨rfl, _, rfl, ?_⟩
 · exact SlR.cast hv59 (scan_all (by omega))

end Go.Proofs.YtebkfinhhpelbaaGreat
