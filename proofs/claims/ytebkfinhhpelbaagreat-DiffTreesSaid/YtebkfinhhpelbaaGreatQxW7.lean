/- Walks of functions that look through rows. -/
import Derived.Test.YtebkfinhhpelbaaGreatQxW5
namespace Go.Proofs.YtebkfinhhpelbaaGreat
open Go Go.Fw Go.RowKit
set_option maxRecDepth 100000
set_option maxHeartbeats 1600000
set_option linter.unusedVariables false
set_option linter.unusedSimpArgs false
set_option linter.unnecessarySimpa false
theorem mscan_fc {G : GH} {v_l : Value} {l : List Pair} (h_l : SlR ePair G v_l l) (slo : Str) (shi : Str) (so : Bool) (n : Int) (hn : l.length ≤ 100000000) :
    Fc Tryz.prog 205 [v_l, .agg #[.string slo.b, .string shi.b, .bool so], .int .i64 n] G [] (fun v G' M' => M' = [] ∧ ∃ u0, v = u0 ∧ SlR ePair G' u0 (scanN l ⟨slo, shi, so⟩ n)) := by
 obtain ⟨sa_l, sc_l, rfl⟩ := h_l.form
 have hl := h_l.len47
 refine Fc.intro (rs := [.tmp 6]) cl205 Tryz.func205 rfl Tryz.ntmps205 rfl rfl (fun w0 => ?_)
 refine WC.seq (WC.region (W.box (L := [.string _, .string _, .bool _]) rfl rfl (fun b1 => (W.as (W.nil (thn_n (WC.seq (WC.region (W.as ?_)))))))))
 refine W.nil (thn_n (WC.seq (WC.seq (WC.region (W.mv (W.ok (ok_len sl41 h_l rfl) (W.mv (W.nil (thn_n ?_)))))))))
 refine WC.block ?_
 refine WC.loop (X := (Nat) × Value × MH) (fun i => [(12, .int .i64 ((i.1 : Nat) : Int)), (4, .pointer (some ⟨b1, 0, none⟩)), (2, .int .i64 n), (10, .slice sa_l l.length sc_l), (11, .int .i64 (((l).length : Nat) : Int)), (7, i.2.1)]) (fun i G Ml => Ml = ((b1, .cells (List.toArray [.string slo.b, .string shi.b, .bool so]) 52 (0, 0)) :: (i.2.2 ++ [])) ∧ OwnR ePair 69 G i.2.1 (scanN (l.take i.1) ⟨slo, shi, so⟩ n) i.2.2 ∧ i.1 ≤ l.length) (fun i => l.length - i.1) (0, .slice none 0 0, ([] : MH)) ⟨eqv, eqv, eqv, eqv, eqv, eqv, trivial⟩ ?_ ?_
 ·exact ⟨rfl, (by simpa [scanN] using OwnR.nil), by omega⟩
 ·rintro ⟨i, v_7, M_7⟩ gG2 G2 _ hG2 ⟨rfl, ho_7, hi⟩
  try dsimp only at ho_7 hi
  have hsl := scan_len (l := l.take i) (s := ⟨slo, shi, so⟩) (n := n)
  have htl : (l.take i).length ≤ i := by simp; omega
  refine WC.fr (f := setL gG2 [(12, .int .i64 ((i : Nat) : Int)), (4, .pointer (some ⟨b1, 0, none⟩)), (2, .int .i64 n), (10, .slice sa_l l.length sc_l), (11, .int .i64 (((l).length : Nat) : Int)), (7, v_7)]) rfl (WC.seq (WC.region (W.ok (ok_lss rfl rfl) (W.nil (thn_n (WC.seq ?_))))))
  refine WC.cond (b := _) rfl (fun h13 => ?_) (fun h13 => ?_)
  ·have p13 := of_decide_eq_true h13
   refine WC.skip (thn_n (WC.seq (WC.block (WC.seq (WC.region ?_)))))
   have q5 := (h_l.mono hG2).at (i := i) (by omega)
   refine match q5 with | ⟨_, he3, e_4⟩ => ?_
   subst e_4
   refine W.ok (ok_indexAddr (i := i) sl41 ty69 (h_l.mono hG2) rfl rfl ⟨by omega, by omega⟩) (W.ok (ok_loadE (vs := [.string _, .string _]) ty69 he3 rfl rfl rfl (by simp)) (W.alloc zr69 (fun b6 => (W.store (i := 0) (vs := [.string _, .string _]) (L' := [.string _, .string _]) ty69 rfl rfl rfl rfl rfl rfl rfl rfl (W.nil (thn_n (WC.seq (WC.seq (WC.region ?_)))))))))
   refine W.mv (W.ok (ok_lenO sl41 ho_7 rfl) (W.mv (W.ok (ok_geq rfl rfl) (W.nil (thn_n ?_)))))
   refine WC.cond (b := _) rfl (fun h19 => ?_) (fun h19 => ?_)
   ·have p19 := of_decide_eq_true h19
    refine WC.exit (thn_x (blk_m (thn_x (thn_x (blk_h (thn_n (WC.seq (WC.region (W.mv (W.as (W.nil (thn_n (WC.giveO ho_7 (pmC (pmC (List.Perm.refl _))) (fun G7 hG7 hv7 => (WC.ret ?_)))))))))))))))
    refine ⟨.inr rfl, [_], ⟨rfl, trivial⟩, [], List.nil_sublist _, ?_⟩
    refine ⟨rfl, _, rfl, ?_⟩
    · have h := hv7; rw [← scan_full (by omega)] at h; exact h
   ·have p19 := of_decide_eq_false h19
    refine WC.skip (thn_n (WC.seq (WC.region (W.ok (ok_loadB (i := 1) (vs := [.string _, .string _, .bool _]) ty52 rfl rfl rfl rfl (by simp)) (W.ok (ok_fieldB fd69_0 rfl) (W.ok (ok_loadB (i := 0) (vs := [.string _]) ty9 rfl rfl rfl rfl (by simp)) (W.qcall (spanhas_fc _ _ _ _) rfl (W.nil (thn_n ?_)))))))))
    refine WC.cond (b := _) rfl (fun h23 => ?_) (fun h23 => ?_)
    ·refine WC.region (W.mv (W.ok (ok_loadB (i := 0) (vs := [.string _, .string _]) ty69 rfl rfl rfl rfl (by simp)) (W.lit (e := ePair) (l := [⟨((l)[i]).key, ((l)[i]).val⟩]) (css := [[.string _, .string _]]) sl41 ty69 zr69 rfl rfl rfl rfl rfl rfl ⟨rfl, trivial⟩ (fun bl8 G8 hG8 hv8 => (W.app (e := ePair) sl41 ty69 zr69 rfl by69 rfl rfl ((ho_7.mono hG8)) (hv8) (pmC (pmC (List.Perm.refl _))) (by show (_ + 1) * 32 ≤ _; (try simp only [List.length_append] at *); omega) (fun v9 Ms10 ho11 => (W.perm (pmC (pmC (List.Perm.refl _))).symm (W.as (W.nil (blk_n (thn_n ?_)))))))))))
     refine WC.region (W.ok (ok_add rfl rfl (by omega)) (W.mv (W.sub ((List.Sublist.refl _).cons _) (W.nil (thn_n ?_)))))
     exact ⟨hG8, (i + 1, v9, Ms10), ⟨eqv, eqv, eqv, eqv, eqv, eqv, trivial⟩, ⟨rfl, (by have h := ho11; rw [scan_succ_t (by omega) (by omega) (by simpa using h23)]; exact h), by omega⟩, by omega⟩
    ·refine WC.skip (blk_n (thn_n (WC.region (W.ok (ok_add rfl rfl (by omega)) (W.mv (W.sub ((List.Sublist.refl _).cons _) (W.nil (thn_n ?_))))))))
     exact ⟨Le.rfl, (i + 1, v_7, M_7), ⟨eqv, eqv, eqv, eqv, eqv, eqv, trivial⟩, ⟨rfl, (by have h := ho_7; rw [scan_succ_f (by omega) (by simpa using h23)]; exact h), by omega⟩, by omega⟩
  ·have p13 := of_decide_eq_false h13
   refine WC.exit (thn_x (thn_x (blk_h (thn_n (WC.seq (WC.region (W.mv (W.as (W.nil (thn_n (WC.giveO ho_7 (pmC (List.Perm.refl _)) (fun G12 hG12 hv12 => (WC.ret ?_)))))))))))))
   refine ⟨.inr rfl, [_], ⟨rfl, trivial⟩, [], List.nil_sublist _, ?_⟩
   refine ⟨rfl, _, rfl, ?_⟩
   · have h := hv12; rw [List.take_of_length_le (by omega)] at h; exact h

theorem rscan_fc {G : GH} {v_l : Value} {l : List Pair} (h_l : SlR ePair G v_l l) (slo : Str) (shi : Str) (so : Bool) (n : Int) (hn : l.length ≤ 100000000) :
    Fc Tryz.prog 50 [v_l, .agg #[.string slo.b, .string shi.b, .bool so], .int .i64 n] G [] (fun v G' M' => M' = [] ∧ ∃ u0, v = u0 ∧ SlR ePair G' u0 (scanN l ⟨slo, shi, so⟩ n)) := by
 obtain ⟨sa_l, sc_l, rfl⟩ := h_l.form
 have hl := h_l.len47
 refine Fc.intro (rs := [.tmp 6]) cl50 Tryz.func50 rfl Tryz.ntmps50 rfl rfl (fun w0 => ?_)
 refine WC.seq (WC.region (W.box (L := [.string _, .string _, .bool _]) rfl rfl (fun b13 => (W.as (W.nil (thn_n (WC.seq (WC.region (W.as ?_)))))))))
 refine W.nil (thn_n (WC.seq (WC.seq (WC.region (W.as (W.nil (thn_n (WC.block ?_))))))))
 refine WC.loop (X := (Nat) × Value × MH) (fun i => [(8, .int .i64 ((i.1 : Nat) : Int)), (4, .pointer (some ⟨b13, 0, none⟩)), (0, .slice sa_l l.length sc_l), (2, .int .i64 n), (7, i.2.1)]) (fun i G Ml => Ml = ((b13, .cells (List.toArray [.string slo.b, .string shi.b, .bool so]) 52 (0, 0)) :: (i.2.2 ++ [])) ∧ OwnR ePair 69 G i.2.1 (scanN (l.take i.1) ⟨slo, shi, so⟩ n) i.2.2 ∧ i.1 ≤ l.length) (fun i => l.length - i.1) (0, .slice none 0 0, ([] : MH)) ⟨eqv, eqv, eqv, eqv, eqv, trivial⟩ ?_ ?_
 ·exact ⟨rfl, (by simpa [scanN] using OwnR.nil), by omega⟩
 ·rintro ⟨i, v_7, M_7⟩ gG14 G14 _ hG14 ⟨rfl, ho_7, hi⟩
  try dsimp only at ho_7 hi
  have hsl := scan_len (l := l.take i) (s := ⟨slo, shi, so⟩) (n := n)
  have htl : (l.take i).length ≤ i := by simp; omega
  refine WC.fr (f := setL gG14 [(8, .int .i64 ((i : Nat) : Int)), (4, .pointer (some ⟨b13, 0, none⟩)), (0, .slice sa_l l.length sc_l), (2, .int .i64 n), (7, v_7)]) rfl (WC.seq (WC.seq (WC.region (W.mv (W.mv (W.ok (ok_len sl41 (h_l.mono hG14) rfl) (W.ok (ok_lss rfl rfl) ?_)))))))
  refine W.nil (thn_n ?_)
  refine WC.cond (b := _) rfl (fun h12 => ?_) (fun h12 => ?_)
  ·have p12 := of_decide_eq_true h12
   refine WC.skip (thn_n (WC.seq (WC.block (WC.seq (WC.draw mix (by kernel_rfl) (W.ok (ok_loadB (i := 0) (vs := [.string _, .string _, .bool _]) ty52 rfl rfl rfl rfl (by simp)) (W.mv (W.mv ?_))))))))
   have q17 := (h_l.mono hG14).at (i := i) (by omega)
   refine match q17 with | ⟨_, he15, e_16⟩ => ?_
   subst e_16
   refine W.ok (ok_indexAddr (i := i) sl41 ty69 (h_l.mono hG14) rfl rfl ⟨by omega, by omega⟩) (W.ok (ok_fieldE fd69_0 rfl he15.form) (W.ok (ok_loadE (vs := [.string _]) ty9 he15 rfl rfl rfl (by simp)) (W.qcall (has_fc _ _ _ _) rfl (W.mv ?_))))
   refine W.sp 22 rfl (fun h21 => ?_) (fun h21 => ?_)
   ·refine W.yes (dj := 22) rfl rfl h21 (W.mv (W.yes (dj := 22) rfl rfl h21 (W.ok (ok_lenO sl41 ho_7 rfl) (W.yes (dj := 22) rfl rfl h21 (W.mv (W.yes (dj := 22) rfl rfl h21 (W.ok (ok_lss rfl rfl) ?_)))))))
    refine W.ok (ok_pick_t rfl h21) (W.nil (thn_n ?_))
    refine WC.cond (b := _) rfl (fun h26 => ?_) (fun h26 => ?_)
    ·have p26 := of_decide_eq_true h26
     refine WC.region (W.mv (W.mv (W.mv ?_)))
     have q20 := (h_l.mono hG14).at (i := i) (by omega)
     refine match q20 with | ⟨_, he18, e_19⟩ => ?_
     subst e_19
     refine W.ok (ok_indexAddr (i := i) sl41 ty69 (h_l.mono hG14) rfl rfl ⟨by omega, by omega⟩) (W.ok (ok_loadE (vs := [.string _, .string _]) ty69 he18 rfl rfl rfl (by simp)) (W.lit (e := ePair) (l := [((l)[i])]) (css := [[.string _, .string _]]) sl41 ty69 zr69 rfl rfl rfl rfl rfl rfl ⟨rfl, trivial⟩ (fun bl21 G21 hG21 hv21 => (W.app (e := ePair) sl41 ty69 zr69 rfl by69 rfl rfl ((ho_7.mono hG21)) (hv21) (pmC (List.Perm.refl _)) (by show (_ + 1) * 32 ≤ _; (try simp only [List.length_append] at *); omega) (fun v22 Ms23 ho24 => (W.perm (pmC (List.Perm.refl _)).symm (W.as (W.nil (blk_n (thn_n (WC.region ?_)))))))))))
     refine W.mv (W.ok (ok_add rfl rfl (by omega)) (W.as (W.nil (thn_n ?_))))
     exact ⟨hG21, (i + 1, v22, Ms23), ⟨eqv, eqv, eqv, eqv, eqv, trivial⟩, ⟨rfl, (by have h := ho24; rw [scan_succ_t (by omega) (by omega) (by simpa using h21)]; exact h), by omega⟩, by omega⟩
    ·have p26 := of_decide_eq_false h26
     refine WC.skip (blk_n (thn_n (WC.region (W.mv (W.ok (ok_add rfl rfl (by omega)) (W.as (W.nil (thn_n ?_))))))))
     exact ⟨Le.rfl, (i + 1, v_7, M_7), ⟨eqv, eqv, eqv, eqv, eqv, trivial⟩, ⟨rfl, (by have h := ho_7; rw [scan_full' (by omega) (by omega)]; exact h), by omega⟩, by omega⟩
   ·refine W.no (dj := 22) rfl rfl h21 (W.no (dj := 22) rfl rfl h21 (W.no (dj := 22) rfl rfl h21 (W.no (dj := 22) rfl rfl h21 (W.ok (ok_pick_f rfl h21) (W.nil (thn_n (WC.cond_f rfl rfl (WC.skip (blk_n (thn_n ?_))))))))))
    refine WC.region (W.mv (W.ok (ok_add rfl rfl (by omega)) (W.as (W.nil (thn_n ?_)))))
    exact ⟨Le.rfl, (i + 1, v_7, M_7), ⟨eqv, eqv, eqv, eqv, eqv, trivial⟩, ⟨rfl, (by have h := ho_7; rw [scan_succ_f (by omega) (by simpa using h21)]; exact h), by omega⟩, by omega⟩
  ·have p12 := of_decide_eq_false h12
   refine WC.exit (thn_x (thn_x (blk_h (thn_n (WC.seq (WC.region (W.mv (W.as (W.nil (thn_n (WC.giveO ho_7 (pmC (List.Perm.refl _)) (fun G25 hG25 hv25 => (WC.ret ?_)))))))))))))
   refine ⟨.inr rfl, [_], ⟨rfl, trivial⟩, [], List.nil_sublist _, ?_⟩
   refine ⟨rfl, _, rfl, ?_⟩
   · have h := hv25; rw [List.take_of_length_le (by omega)] at h; exact h

theorem within_fc {G : GH} {v_l : Value} {l : List Pair} (h_l : SlR ePair G v_l l) (slo : Str) (shi : Str) (so : Bool) (hn : l.length ≤ 1000000) :
    Fc Tryz.prog 153 [v_l, .agg #[.string slo.b, .string shi.b, .bool so]] G [] (fun v G' M' => M' = [] ∧ ∃ u0, v = u0 ∧ SlR ePair G' u0 (l.filter (fun p : Pair => Span.has ⟨slo, shi, so⟩ p.key))) := by
 obtain ⟨sa_l, sc_l, rfl⟩ := h_l.form
 have hl := h_l.len47
 refine Fc.intro (rs := [.tmp 4]) cl153 Tryz.func153 rfl Tryz.ntmps153 rfl rfl (fun w0 => ?_)
 refine WC.seq (WC.region (W.box (L := [.string _, .string _, .bool _]) rfl rfl (fun b26 => (W.as (W.nil (thn_n (WC.seq (WC.region (W.as ?_)))))))))
 refine W.nil (thn_n (WC.seq (WC.seq (WC.region (W.mv (W.ok (ok_len sl41 h_l rfl) (W.mv (W.nil (thn_n ?_)))))))))
 refine WC.block ?_
 refine WC.loop (X := (Nat) × Value × MH) (fun i => [(10, .int .i64 ((i.1 : Nat) : Int)), (3, .pointer (some ⟨b26, 0, none⟩)), (8, .slice sa_l l.length sc_l), (9, .int .i64 (((l).length : Nat) : Int)), (5, i.2.1)]) (fun i G Ml => Ml = ((b26, .cells (List.toArray [.string slo.b, .string shi.b, .bool so]) 52 (0, 0)) :: (i.2.2 ++ [])) ∧ OwnR ePair 69 G i.2.1 (List.filter (fun p : Pair => Span.has ⟨slo, shi, so⟩ p.key) (l.take i.1)) i.2.2 ∧ i.1 ≤ l.length) (fun i => l.length - i.1) (0, .slice none 0 0, ([] : MH)) ⟨eqv, eqv, eqv, eqv, eqv, trivial⟩ ?_ ?_
 ·exact ⟨rfl, (by simpa using OwnR.nil), by omega⟩
 ·rintro ⟨i, v_5, M_5⟩ gG27 G27 _ hG27 ⟨rfl, ho_5, hi⟩
  try dsimp only at ho_5 hi
  have hfl := filt_le (fun p : Pair => Span.has ⟨slo, shi, so⟩ p.key) l i
  refine WC.fr (f := setL gG27 [(10, .int .i64 ((i : Nat) : Int)), (3, .pointer (some ⟨b26, 0, none⟩)), (8, .slice sa_l l.length sc_l), (9, .int .i64 (((l).length : Nat) : Int)), (5, v_5)]) rfl (WC.seq (WC.region (W.ok (ok_lss rfl rfl) (W.nil (thn_n (WC.seq ?_))))))
  refine WC.cond (b := _) rfl (fun h11 => ?_) (fun h11 => ?_)
  ·have p11 := of_decide_eq_true h11
   refine WC.skip (thn_n (WC.seq (WC.block (WC.seq (WC.region ?_)))))
   have q30 := (h_l.mono hG27).at (i := i) (by omega)
   refine match q30 with | ⟨_, he28, e_29⟩ => ?_
   subst e_29
   refine W.ok (ok_indexAddr (i := i) sl41 ty69 (h_l.mono hG27) rfl rfl ⟨by omega, by omega⟩) (W.ok (ok_loadE (vs := [.string _, .string _]) ty69 he28 rfl rfl rfl (by simp)) (W.alloc zr69 (fun b31 => (W.store (i := 0) (vs := [.string _, .string _]) (L' := [.string _, .string _]) ty69 rfl rfl rfl rfl rfl rfl rfl rfl (W.nil (thn_n (WC.seq (WC.region (W.ok (ok_loadB (i := 1) (vs := [.string _, .string _, .bool _]) ty52 rfl rfl rfl rfl (by simp)) ?_)))))))))
   refine W.ok (ok_fieldB fd69_0 rfl) (W.ok (ok_loadB (i := 0) (vs := [.string _]) ty9 rfl rfl rfl rfl (by simp)) (W.qcall (spanhas_fc _ _ _ _) rfl (W.nil (thn_n ?_))))
   refine WC.cond (b := _) rfl (fun h17 => ?_) (fun h17 => ?_)
   ·refine WC.region (W.mv (W.ok (ok_loadB (i := 0) (vs := [.string _, .string _]) ty69 rfl rfl rfl rfl (by simp)) (W.lit (e := ePair) (l := [⟨((l)[i]).key, ((l)[i]).val⟩]) (css := [[.string _, .string _]]) sl41 ty69 zr69 rfl rfl rfl rfl rfl rfl ⟨rfl, trivial⟩ (fun bl32 G32 hG32 hv32 => (W.app (e := ePair) sl41 ty69 zr69 rfl by69 rfl rfl ((ho_5.mono hG32)) (hv32) (pmC (pmC (List.Perm.refl _))) (by show (_ + 1) * 32 ≤ _; (try simp only [List.length_append] at *); omega) (fun v33 Ms34 ho35 => (W.perm (pmC (pmC (List.Perm.refl _))).symm (W.as (W.nil (blk_n (thn_n ?_)))))))))))
    refine WC.region (W.ok (ok_add rfl rfl (by omega)) (W.mv (W.sub ((List.Sublist.refl _).cons _) (W.nil (thn_n ?_)))))
    exact ⟨hG32, (i + 1, v33, Ms34), ⟨eqv, eqv, eqv, eqv, eqv, trivial⟩, ⟨rfl, (by have h := ho35; rw [filt_t (p := (fun p : Pair => Span.has ⟨slo, shi, so⟩ p.key)) (by omega) (by simpa using h17)]; exact h), by omega⟩, by omega⟩
   ·refine WC.skip (blk_n (thn_n (WC.region (W.ok (ok_add rfl rfl (by omega)) (W.mv (W.sub ((List.Sublist.refl _).cons _) (W.nil (thn_n ?_))))))))
    exact ⟨Le.rfl, (i + 1, v_5, M_5), ⟨eqv, eqv, eqv, eqv, eqv, trivial⟩, ⟨rfl, (by have h := ho_5; rw [filt_f (p := (fun p : Pair => Span.has ⟨slo, shi, so⟩ p.key)) (by omega) (by simpa using h17)]; exact h), by omega⟩, by omega⟩
  ·have p11 := of_decide_eq_false h11
   refine WC.exit (thn_x (thn_x (blk_h (thn_n (WC.seq (WC.region (W.mv (W.as (W.nil (thn_n (WC.giveO ho_5 (pmC (List.Perm.refl _)) (fun G36 hG36 hv36 => (WC.ret ?_)))))))))))))
   refine ⟨.inr rfl, [_], ⟨rfl, trivial⟩, [], List.nil_sublist _, ?_⟩
   refine ⟨rfl, _, rfl, ?_⟩
   · have h := hv36; rw [List.take_of_length_le (by omega)] at h; exact h

end Go.Proofs.YtebkfinhhpelbaaGreat
