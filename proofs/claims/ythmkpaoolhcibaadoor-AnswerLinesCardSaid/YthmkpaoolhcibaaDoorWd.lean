/- Walks of maps behind messages. -/
import Derived.Test.YthmkpaoolhcibaaDoorWc
import Derived.Test.YthmkpaoolhcibaaDoorW6
import Derived.Test.YthmkpaoolhcibaaDoorW9
import Derived.Test.YthmkpaoolhcibaaDoorMi
namespace Go.Proofs.YthmkpaoolhcibaaDoor
open Go Go.Fw Go.RowKit
set_option maxRecDepth 100000
set_option maxHeartbeats 1600000
set_option linter.unusedVariables false
set_option linter.unusedSimpArgs false
set_option linter.unnecessarySimpa false
theorem mwithout_fc {G : GH} {v_l : Value} {l : List Pair} (h_l : SlR ePair G v_l l) (slo : Str) (shi : Str) (so : Bool) :
    Fc Tryd.prog 53 [v_l, .agg #[.string slo.b, .string shi.b, .bool so]] G [] (fun v G' M' => M' = [] ∧ ∃ u0, v = u0 ∧ SlR ePair G' u0 (l.filter (fun p : Pair => !Span.has ⟨slo, shi, so⟩ p.key))) := by
 obtain ⟨sa_l, sc_l, rfl⟩ := h_l.form
 refine Fc.intro (rs := [.tmp 4]) cl53 Tryd.func53 rfl Tryd.ntmps53 rfl rfl (fun w0 => ?_)
 refine WC.seq ?_
 refine WC.region ?_
 refine W.box (L := [.string _, .string _, .bool _]) rfl rfl (fun b1 => ?_)
 refine W.as ?_
 refine W.nil (thn_n ?_)
 refine WC.seq ?_
 refine WC.region ?_
 refine W.mv ?_
 refine W.call (Mp := []) (clonepo_fc h_l) rfl (List.Perm.refl _) ?_
 rintro v3 G2 Ms4 hG2 ho5
 refine W.perm (pmC (List.Perm.refl _)).symm ?_
 refine W.giveB (b := b1) (L := [.string _, .string _, .bool _]) (List.Perm.refl _) (fun G6 hG6 hc6 => ?_)
 refine W.ok (ok_makeFn (fst := []) (caps := [.tmp 3]) (vs := []) (ws := [.pointer (some ⟨b1, 0, none⟩)]) rfl rfl) ?_
 refine W.call (Mp := Ms4) (dfp_fc (ho5.mono hG6) _ _ _ hc6) rfl (List.Perm.refl _) ?_
 rintro v8 G7 Ms9 hG7 ho10
 refine W.as ?_
 refine W.nil (thn_n ?_)
 refine WC.giveO ho10 (List.Perm.refl _) (fun G11 hG11 hv11 => ?_)
 refine WC.ret ?_
 refine ⟨.inr rfl, [_], ⟨rfl, trivial⟩, [], List.nil_sublist _, ?_⟩
 refine ⟨rfl, _, rfl, ?_⟩
 · exact hv11

theorem mtake_fc {G : GH} {v_l : Value} {l : List Pair} (h_l : SlR ePair G v_l l) (ms : Int) (mk : Int) (mkey : Str) (mhi : Str) (mo : Bool) (mv : Str) (hP : PairsR l) (hn : l.length ≤ 1000000) (hk : Msg.fit (⟨ms, mk, mkey, mhi, mo, mv⟩ : Msg)) :
    Fc Tryd.prog 31 [v_l, .agg #[.int .i64 ms, .int .i64 mk, .string mkey.b, .string mhi.b, .bool mo, .string mv.b]] G [] (fun v G' M' => M' = [] ∧ ∃ u0, v = u0 ∧ SlR ePair G' u0 (takeN l (⟨ms, mk, mkey, mhi, mo, mv⟩ : Msg))) := by
 obtain ⟨sa_l, sc_l, rfl⟩ := h_l.form
 obtain ⟨hk1, hk2, hk3⟩ := hk
 dsimp only at hk1 hk2 hk3
 have hl := h_l.len47
 have hov := on_val (m := (⟨ms, mk, mkey, mhi, mo, mv⟩ : Msg)) mkey hk3
 refine Fc.intro (rs := [.tmp 4]) cl31 Tryd.func31 rfl Tryd.ntmps31 rfl rfl (fun w0 => ?_)
 refine WC.seq ?_
 refine WC.region ?_
 refine W.box (L := [.int .i64 _, .int .i64 _, .string _, .string _, .bool _, .string _]) rfl rfl (fun b12 => ?_)
 refine W.as ?_
 refine W.nil (thn_n ?_)
 refine WC.seq ?_
 refine WC.seq ?_
 refine WC.region ?_
 refine W.ok (ok_fieldB fd59_1 rfl) ?_
 refine W.ok (ok_loadB (i := 0) (vs := [.int .i64 _]) ty3 rfl rfl rfl rfl (by simp)) ?_
 refine W.ok (ok_eql rfl rfl) ?_
 refine W.nil (thn_n ?_)
 refine WC.cond (b := _) rfl (fun h7 => ?_) (fun h7 => ?_)
 ·have p7 := of_decide_eq_true h7
  refine WC.seq ?_
  refine WC.region ?_
  refine W.mv ?_
  refine W.ok (ok_loadB (i := 0) (vs := [.int .i64 _, .int .i64 _, .string _, .string _, .bool _, .string _]) ty59 rfl rfl rfl rfl (by simp)) ?_
  refine W.qcall (mspan_fc _ _ _ _ _ _ (by first | assumption | omega | (dsimp only; omega))) rfl ?_
  refine W.call (Mp := []) (mwithout_fc h_l (Msg.span (⟨ms, mk, mkey, mhi, mo, mv⟩ : Msg)).lo (Msg.span (⟨ms, mk, mkey, mhi, mo, mv⟩ : Msg)).hi (Msg.span (⟨ms, mk, mkey, mhi, mo, mv⟩ : Msg)).opn) rfl (List.Perm.refl _) ?_
  intro _ G13 _ hG13 q15
  refine match q15 with | ⟨e_16, _, e_17, hv14⟩ => ?_
  subst e_16
  subst e_17
  have q19 := hv14.form
  refine match q19 with | ⟨sa_hv14, sc_hv14, e_18⟩ => ?_
  subst e_18
  refine W.as ?_
  refine W.nil (thn_n ?_)
  refine WC.ret (thn_r ?_)
  refine ⟨.inr rfl, [_], ⟨rfl, trivial⟩, [], List.nil_sublist _, ?_⟩
  refine ⟨rfl, _, rfl, ?_⟩
  · have h := hv14; rw [takeN, if_pos p7]; exact h
 ·have p7 := of_decide_eq_false h7
  refine WC.skip (thn_n ?_)
  refine WC.seq ?_
  refine WC.drawW _ ((List.Sublist.refl _).cons_cons _) mix (by rintro _ _ _ _ ⟨h | h, _⟩ <;> cases h) ?_
  refine WD.take 0 rfl rfl rfl (by kernel_rfl) (by kernel_rfl) (by kernel_rfl) (ok_mv) ?_
  refine WD.take 1 rfl rfl rfl (by kernel_rfl) (by kernel_rfl) (by kernel_rfl) (ok_fieldB fd59_2 rfl) ?_
  refine WD.take 2 rfl rfl rfl (by kernel_rfl) (by kernel_rfl) (by kernel_rfl) (ok_loadB (i := 0) (vs := [.string _]) ty9 rfl rfl rfl rfl (by simp)) ?_
  refine WD.take 3 rfl rfl rfl (by kernel_rfl) (by kernel_rfl) (by kernel_rfl) (ok_loadB (i := 0) (vs := [.int .i64 _, .int .i64 _, .string _, .string _, .bool _, .string _]) ty59 rfl rfl rfl rfl (by simp)) ?_
  refine WD.take 4 rfl rfl rfl (by kernel_rfl) (by kernel_rfl) (by kernel_rfl) (ok_fieldB fd59_2 rfl) ?_
  refine WD.take 5 rfl rfl rfl (by kernel_rfl) (by kernel_rfl) (by kernel_rfl) (ok_loadB (i := 0) (vs := [.string _]) ty9 rfl rfl rfl rfl (by simp)) ?_
  refine WD.any [6] (by kernel_rfl) rfl ⟨⟨_, rfl, rfl, ?_⟩, trivial⟩
  refine W.qcall (mon_fc ms mk mkey mhi mo mv mkey (by omega)) rfl ?_
  refine W.nil ⟨Le.rfl, (List.Sublist.refl _).cons_cons _, _, (List.Sublist.refl _).cons_cons _, List.Sublist.refl _, ?_⟩
  refine WD.any [7] (by kernel_rfl) rfl ⟨⟨_, rfl, rfl, ?_⟩, trivial⟩
  refine W.call (Mp := []) (mwith_fc h_l mkey (Msg.on (⟨ms, mk, mkey, mhi, mo, mv⟩ : Msg) mkey).kind (Msg.on (⟨ms, mk, mkey, mhi, mo, mv⟩ : Msg) mkey).val hP hn (by omega)) rfl (List.Perm.refl _) ?_
  intro _ G20 _ hG20 q22
  refine match q22 with | ⟨e_23, _, e_24, hv21⟩ => ?_
  subst e_23
  subst e_24
  have q26 := hv21.form
  refine match q26 with | ⟨sa_hv21, sc_hv21, e_25⟩ => ?_
  subst e_25
  refine W.nil ⟨hG20, (List.Sublist.refl _).cons_cons _, _, (List.Sublist.refl _).cons_cons _, List.Sublist.refl _, ?_⟩
  refine WD.take 8 rfl rfl rfl (by kernel_rfl) (by kernel_rfl) (by kernel_rfl) (ok_as) ?_
  refine WD.done (by kernel_rfl) (thn_n ?_)
  refine WC.ret ?_
  refine ⟨.inr rfl, [_], ⟨rfl, trivial⟩, [], List.nil_sublist _, ?_⟩
  refine ⟨rfl, _, rfl, ?_⟩
  · have h := hv21; rw [takeN, if_neg p7]; exact h

theorem rtakeF_fc {G : GH} {v_l : Value} {l : List Pair} (h_l : SlR ePair G v_l l) (ms : Int) (mk : Int) (mkey : Str) (mhi : Str) (mo : Bool) (mv : Str) (hP : PairsR l) (hn : l.length ≤ 1000000) (hk : Msg.fit (⟨ms, mk, mkey, mhi, mo, mv⟩ : Msg)) :
    Fc Tryd.prog 36 [v_l, .agg #[.int .i64 ms, .int .i64 mk, .string mkey.b, .string mhi.b, .bool mo, .string mv.b]] G [] (fun v G' M' => M' = [] ∧ ∃ u0, v = u0 ∧ SlR ePair G' u0 (takeN l (⟨ms, mk, mkey, mhi, mo, mv⟩ : Msg))) := by
 obtain ⟨sa_l, sc_l, rfl⟩ := h_l.form
 obtain ⟨hk1, hk2, hk3⟩ := hk
 dsimp only at hk1 hk2 hk3
 have hl := h_l.len47
 have hov := on_val (m := (⟨ms, mk, mkey, mhi, mo, mv⟩ : Msg)) mkey hk3
 refine Fc.intro (rs := [.tmp 4]) cl36 Tryd.func36 rfl Tryd.ntmps36 rfl rfl (fun w0 => ?_)
 refine WC.seq ?_
 refine WC.region ?_
 refine W.box (L := [.int .i64 _, .int .i64 _, .string _, .string _, .bool _, .string _]) rfl rfl (fun b27 => ?_)
 refine W.as ?_
 refine W.nil (thn_n ?_)
 refine WC.seq ?_
 refine WC.seq ?_
 refine WC.region ?_
 refine W.ok (ok_fieldB fd59_1 rfl) ?_
 refine W.ok (ok_loadB (i := 0) (vs := [.int .i64 _]) ty3 rfl rfl rfl rfl (by simp)) ?_
 refine W.ok (ok_neq rfl rfl) ?_
 refine W.nil (thn_n ?_)
 refine WC.cond (b := _) rfl (fun h9 => ?_) (fun h9 => ?_)
 ·have p9 := nd_t h9
  refine WC.seq ?_
  refine WC.drawW _ ((List.Sublist.refl _).cons_cons _) mix (by rintro _ _ _ _ ⟨h | h, _⟩ <;> cases h) ?_
  refine WD.take 0 rfl rfl rfl (by kernel_rfl) (by kernel_rfl) (by kernel_rfl) (ok_mv) ?_
  refine WD.take 1 rfl rfl rfl (by kernel_rfl) (by kernel_rfl) (by kernel_rfl) (ok_fieldB fd59_2 rfl) ?_
  refine WD.take 2 rfl rfl rfl (by kernel_rfl) (by kernel_rfl) (by kernel_rfl) (ok_loadB (i := 0) (vs := [.string _]) ty9 rfl rfl rfl rfl (by simp)) ?_
  refine WD.take 3 rfl rfl rfl (by kernel_rfl) (by kernel_rfl) (by kernel_rfl) (ok_loadB (i := 0) (vs := [.int .i64 _, .int .i64 _, .string _, .string _, .bool _, .string _]) ty59 rfl rfl rfl rfl (by simp)) ?_
  refine WD.take 4 rfl rfl rfl (by kernel_rfl) (by kernel_rfl) (by kernel_rfl) (ok_fieldB fd59_2 rfl) ?_
  refine WD.take 5 rfl rfl rfl (by kernel_rfl) (by kernel_rfl) (by kernel_rfl) (ok_loadB (i := 0) (vs := [.string _]) ty9 rfl rfl rfl rfl (by simp)) ?_
  refine WD.any [6] (by kernel_rfl) rfl ⟨⟨_, rfl, rfl, ?_⟩, trivial⟩
  refine W.qcall (ron_fc ms mk mkey mhi mo mv mkey (by omega)) rfl ?_
  refine W.nil ⟨Le.rfl, (List.Sublist.refl _).cons_cons _, _, (List.Sublist.refl _).cons_cons _, List.Sublist.refl _, ?_⟩
  refine WD.any [7] (by kernel_rfl) rfl ⟨⟨_, rfl, rfl, ?_⟩, trivial⟩
  refine W.call (Mp := []) (rwith_fc h_l mkey (Msg.on (⟨ms, mk, mkey, mhi, mo, mv⟩ : Msg) mkey).kind (Msg.on (⟨ms, mk, mkey, mhi, mo, mv⟩ : Msg) mkey).val hP hn (by omega)) rfl (List.Perm.refl _) ?_
  intro _ G28 _ hG28 q30
  refine match q30 with | ⟨e_31, _, e_32, hv29⟩ => ?_
  subst e_31
  subst e_32
  have q34 := hv29.form
  refine match q34 with | ⟨sa_hv29, sc_hv29, e_33⟩ => ?_
  subst e_33
  refine W.nil ⟨hG28, (List.Sublist.refl _).cons_cons _, _, (List.Sublist.refl _).cons_cons _, List.Sublist.refl _, ?_⟩
  refine WD.take 8 rfl rfl rfl (by kernel_rfl) (by kernel_rfl) (by kernel_rfl) (ok_as) ?_
  refine WD.done (by kernel_rfl) (thn_n ?_)
  refine WC.ret (thn_r ?_)
  refine ⟨.inr rfl, [_], ⟨rfl, trivial⟩, [], List.nil_sublist _, ?_⟩
  refine ⟨rfl, _, rfl, ?_⟩
  · have h := hv29; rw [takeN, if_neg (by simpa using h9)]; exact h
 ·have p9 := nd_f h9
  refine WC.skip (thn_n ?_)
  refine WC.seq ?_
  refine WC.region ?_
  refine W.as ?_
  refine W.nil (thn_n ?_)
  refine WC.seq ?_
  refine WC.seq ?_
  refine WC.region ?_
  refine W.as ?_
  refine W.nil (thn_n ?_)
  refine WC.block ?_
  refine WC.loop (X := (Nat) × Value × MH) (fun i => [(6, .int .i64 ((i.1 : Nat) : Int)), (3, .pointer (some ⟨b27, 0, none⟩)), (0, .slice sa_l l.length sc_l), (5, i.2.1)]) (fun i G Ml => Ml = ((b27, .cells (List.toArray [.int .i64 ms, .int .i64 mk, .string mkey.b, .string mhi.b, .bool mo, .string mv.b]) 59 (0, 0)) :: (i.2.2 ++ [])) ∧ OwnR ePair 45 G i.2.1 (List.filter (fun p : Pair => !(Msg.span (⟨ms, mk, mkey, mhi, mo, mv⟩ : Msg)).has p.key) (l.take i.1)) i.2.2 ∧ i.1 ≤ l.length) (fun i => l.length - i.1) (0, .slice none 0 0, ([] : MH)) ⟨(by first | rfl | exact iv (by dsimp only; omega) | exact iv (by omega)), (by first | rfl | exact iv (by dsimp only; omega) | exact iv (by omega)), (by first | rfl | exact iv (by dsimp only; omega) | exact iv (by omega)), (by first | rfl | exact iv (by dsimp only; omega) | exact iv (by omega)), trivial⟩ ?_ ?_
  ·exact ⟨rfl, (by simpa using OwnR.nil), by omega⟩
  ·rintro ⟨i, v_5, M_5⟩ gG35 G35 _ hG35 ⟨rfl, ho_5, hi⟩
   try dsimp only at ho_5 hi
   have hfl := filt_le (fun p : Pair => !(Msg.span (⟨ms, mk, mkey, mhi, mo, mv⟩ : Msg)).has p.key) l i
   refine WC.fr (f := setL gG35 [(6, .int .i64 ((i : Nat) : Int)), (3, .pointer (some ⟨b27, 0, none⟩)), (0, .slice sa_l l.length sc_l), (5, v_5)]) rfl ?_
   refine WC.seq ?_
   refine WC.seq ?_
   refine WC.region ?_
   refine W.mv ?_
   refine W.mv ?_
   refine W.ok (ok_len sl25 (h_l.mono hG35) rfl) ?_
   refine W.ok (ok_lss rfl rfl) ?_
   refine W.nil (thn_n ?_)
   refine WC.cond (b := _) rfl (fun h21 => ?_) (fun h21 => ?_)
   ·have p21 := of_decide_eq_true h21
    refine WC.skip (thn_n ?_)
    refine WC.seq ?_
    refine WC.block ?_
    refine WC.seq ?_
    refine WC.draw mix (by kernel_rfl) ?_
    refine W.ok (ok_loadB (i := 0) (vs := [.int .i64 _, .int .i64 _, .string _, .string _, .bool _, .string _]) ty59 rfl rfl rfl rfl (by simp)) ?_
    refine W.qcall (rspan_fc _ _ _ _ _ _ (by first | assumption | omega | (dsimp only; omega))) rfl ?_
    refine W.mv ?_
    refine W.mv ?_
    have q38 := (h_l.mono hG35).at (i := i) (by omega)
    refine match q38 with | ⟨_, he36, e_37⟩ => ?_
    subst e_37
    refine W.ok (ok_indexAddr (i := i) sl25 ty45 (h_l.mono hG35) rfl rfl ⟨by omega, by omega⟩) ?_
    refine W.ok (ok_fieldE fd45_0 rfl he36.form) ?_
    refine W.ok (ok_loadE (vs := [.string _]) ty9 he36 rfl rfl rfl (by simp)) ?_
    refine W.qcall (has_fc _ _ _ _) rfl ?_
    refine W.ok (ok_not rfl) ?_
    refine W.nil (thn_n ?_)
    refine WC.cond (b := _) rfl (fun h32 => ?_) (fun h32 => ?_)
    ·refine WC.region ?_
     refine W.mv ?_
     refine W.mv ?_
     refine W.mv ?_
     have q41 := (h_l.mono hG35).at (i := i) (by omega)
     refine match q41 with | ⟨_, he39, e_40⟩ => ?_
     subst e_40
     refine W.ok (ok_indexAddr (i := i) sl25 ty45 (h_l.mono hG35) rfl rfl ⟨by omega, by omega⟩) ?_
     refine W.ok (ok_loadE (vs := [.string _, .string _]) ty45 he39 rfl rfl rfl (by simp)) ?_
     refine W.lit (e := ePair) (l := [((l)[i])]) (css := [[.string _, .string _]]) sl25 ty45 zr45 rfl rfl rfl rfl rfl rfl ⟨rfl, trivial⟩ (fun bl42 G42 hG42 hv42 => ?_)
     refine W.app (e := ePair) sl25 ty45 zr45 rfl by45 rfl rfl ((ho_5.mono hG42)) (hv42) (pmC (List.Perm.refl _)) (by show (_ + 1) * 32 ≤ _; (try simp only [List.length_append] at *); omega) (fun v43 Ms44 ho45 => ?_)
     refine W.perm (pmC (List.Perm.refl _)).symm ?_
     refine W.as ?_
     refine W.nil (blk_n (thn_n ?_))
     refine WC.region ?_
     refine W.mv ?_
     refine W.ok (ok_add rfl rfl (by omega)) ?_
     refine W.as ?_
     refine W.nil (thn_n ?_)
     exact ⟨hG42, (i + 1, v43, Ms44), ⟨(by first | rfl | exact iv (by dsimp only; omega) | exact iv (by omega)), (by first | rfl | exact iv (by dsimp only; omega) | exact iv (by omega)), (by first | rfl | exact iv (by dsimp only; omega) | exact iv (by omega)), (by first | rfl | exact iv (by dsimp only; omega) | exact iv (by omega)), trivial⟩, ⟨rfl, (by have h := ho45; rw [filt_t (p := (fun p : Pair => !(Msg.span (⟨ms, mk, mkey, mhi, mo, mv⟩ : Msg)).has p.key)) (by omega) (by simpa using h32)]; exact h), by omega⟩, by omega⟩
    ·refine WC.skip (blk_n (thn_n ?_))
     refine WC.region ?_
     refine W.mv ?_
     refine W.ok (ok_add rfl rfl (by omega)) ?_
     refine W.as ?_
     refine W.nil (thn_n ?_)
     exact ⟨Le.rfl, (i + 1, v_5, M_5), ⟨(by first | rfl | exact iv (by dsimp only; omega) | exact iv (by omega)), (by first | rfl | exact iv (by dsimp only; omega) | exact iv (by omega)), (by first | rfl | exact iv (by dsimp only; omega) | exact iv (by omega)), (by first | rfl | exact iv (by dsimp only; omega) | exact iv (by omega)), trivial⟩, ⟨rfl, (by have h := ho_5; rw [filt_f (p := (fun p : Pair => !(Msg.span (⟨ms, mk, mkey, mhi, mo, mv⟩ : Msg)).has p.key)) (by omega) (by simpa using h32)]; exact h), by omega⟩, by omega⟩
   ·have p21 := of_decide_eq_false h21
    refine WC.exit (thn_x (thn_x (blk_h (thn_n ?_))))
    refine WC.seq ?_
    refine WC.region ?_
    refine W.mv ?_
    refine W.as ?_
    refine W.nil (thn_n ?_)
    refine WC.giveO ho_5 (pmC (List.Perm.refl _)) (fun G46 hG46 hv46 => ?_)
    refine WC.ret ?_
    refine ⟨.inr rfl, [_], ⟨rfl, trivial⟩, [], List.nil_sublist _, ?_⟩
    refine ⟨rfl, _, rfl, ?_⟩
    · have h := hv46; rw [List.take_of_length_le (by omega)] at h; rw [takeN, if_pos (by simpa using h9)]; exact h

end Go.Proofs.YthmkpaoolhcibaaDoor
