/- Walks of functions that look through rows. -/
import Derived.Test.YthmkpaoolhcibaaDoorW5
namespace Go.Proofs.YthmkpaoolhcibaaDoor
open Go Go.Fw Go.RowKit
set_option maxRecDepth 100000
set_option maxHeartbeats 1600000
set_option linter.unusedVariables false
set_option linter.unusedSimpArgs false
set_option linter.unnecessarySimpa false
theorem mscan_fc {G : GH} {v_l : Value} {l : List Pair} (h_l : SlR ePair G v_l l) (slo : Str) (shi : Str) (so : Bool) (n : Int) (hn : l.length ≤ 100000000) :
    Fc Tryd.prog 28 [v_l, .agg #[.string slo.b, .string shi.b, .bool so], .int .i64 n] G [] (fun v G' M' => M' = [] ∧ ∃ u0, v = u0 ∧ SlR ePair G' u0 (scanN l ⟨slo, shi, so⟩ n)) := by
 obtain ⟨sa_l, sc_l, rfl⟩ := h_l.form
 have hl := h_l.len47
 refine Fc.intro (rs := [.tmp 6]) cl28 Tryd.func28 rfl Tryd.ntmps28 rfl rfl (fun w0 => ?_)
 refine WC.seq ?_
 refine WC.region ?_
 refine W.box (L := [.string _, .string _, .bool _]) rfl rfl (fun b1 => ?_)
 refine W.as ?_
 refine W.nil (thn_n ?_)
 refine WC.seq ?_
 refine WC.region ?_
 refine W.as ?_
 refine W.nil (thn_n ?_)
 refine WC.seq ?_
 refine WC.seq ?_
 refine WC.region ?_
 refine W.mv ?_
 refine W.ok (ok_len sl25 h_l rfl) ?_
 refine W.mv ?_
 refine W.nil (thn_n ?_)
 refine WC.block ?_
 refine WC.loop (X := (Nat) × Value × MH) (fun i => [(12, .int .i64 ((i.1 : Nat) : Int)), (4, .pointer (some ⟨b1, 0, none⟩)), (2, .int .i64 n), (10, .slice sa_l l.length sc_l), (11, .int .i64 (((l).length : Nat) : Int)), (7, i.2.1)]) (fun i G Ml => Ml = ((b1, .cells (List.toArray [.string slo.b, .string shi.b, .bool so]) 56 (0, 0)) :: (i.2.2 ++ [])) ∧ OwnR ePair 45 G i.2.1 (scanN (l.take i.1) ⟨slo, shi, so⟩ n) i.2.2 ∧ i.1 ≤ l.length) (fun i => l.length - i.1) (0, .slice none 0 0, ([] : MH)) ⟨(by first | rfl | exact iv (by dsimp only; omega) | exact iv (by omega)), (by first | rfl | exact iv (by dsimp only; omega) | exact iv (by omega)), (by first | rfl | exact iv (by dsimp only; omega) | exact iv (by omega)), (by first | rfl | exact iv (by dsimp only; omega) | exact iv (by omega)), (by first | rfl | exact iv (by dsimp only; omega) | exact iv (by omega)), (by first | rfl | exact iv (by dsimp only; omega) | exact iv (by omega)), trivial⟩ ?_ ?_
 ·exact ⟨rfl, (by simpa [scanN] using OwnR.nil), by omega⟩
 ·rintro ⟨i, v_7, M_7⟩ gG2 G2 _ hG2 ⟨rfl, ho_7, hi⟩
  try dsimp only at ho_7 hi
  have hsl := scan_len (l := l.take i) (s := ⟨slo, shi, so⟩) (n := n)
  have htl : (l.take i).length ≤ i := by simp; omega
  refine WC.fr (f := setL gG2 [(12, .int .i64 ((i : Nat) : Int)), (4, .pointer (some ⟨b1, 0, none⟩)), (2, .int .i64 n), (10, .slice sa_l l.length sc_l), (11, .int .i64 (((l).length : Nat) : Int)), (7, v_7)]) rfl ?_
  refine WC.seq ?_
  refine WC.region ?_
  refine W.ok (ok_lss rfl rfl) ?_
  refine W.nil (thn_n ?_)
  refine WC.seq ?_
  refine WC.cond (b := _) rfl (fun h13 => ?_) (fun h13 => ?_)
  ·have p13 := of_decide_eq_true h13
   refine WC.skip (thn_n ?_)
   refine WC.seq ?_
   refine WC.block ?_
   refine WC.seq ?_
   refine WC.region ?_
   have q5 := (h_l.mono hG2).at (i := i) (by omega)
   refine match q5 with | ⟨_, he3, e_4⟩ => ?_
   subst e_4
   refine W.ok (ok_indexAddr (i := i) sl25 ty45 (h_l.mono hG2) rfl rfl ⟨by omega, by omega⟩) ?_
   refine W.ok (ok_loadE (vs := [.string _, .string _]) ty45 he3 rfl rfl rfl (by simp)) ?_
   refine W.alloc zr45 (fun b6 => ?_)
   refine W.store (i := 0) (vs := [.string _, .string _]) (L' := [.string _, .string _]) ty45 rfl rfl rfl rfl rfl rfl rfl rfl ?_
   refine W.nil (thn_n ?_)
   refine WC.seq ?_
   refine WC.seq ?_
   refine WC.region ?_
   refine W.mv ?_
   refine W.ok (ok_lenO sl25 ho_7 rfl) ?_
   refine W.mv ?_
   refine W.ok (ok_geq rfl rfl) ?_
   refine W.nil (thn_n ?_)
   refine WC.cond (b := _) rfl (fun h19 => ?_) (fun h19 => ?_)
   ·have p19 := of_decide_eq_true h19
    refine WC.exit (thn_x (blk_m (thn_x (thn_x (blk_h (thn_n ?_))))))
    refine WC.seq ?_
    refine WC.region ?_
    refine W.mv ?_
    refine W.as ?_
    refine W.nil (thn_n ?_)
    refine WC.giveO ho_7 (pmC (pmC (List.Perm.refl _))) (fun G7 hG7 hv7 => ?_)
    refine WC.ret ?_
    refine ⟨.inr rfl, [_], ⟨rfl, trivial⟩, [], List.nil_sublist _, ?_⟩
    refine ⟨rfl, _, rfl, ?_⟩
    · have h := hv7; rw [← scan_full (by omega)] at h; exact h
   ·have p19 := of_decide_eq_false h19
    refine WC.skip (thn_n ?_)
    refine WC.seq ?_
    refine WC.region ?_
    refine W.ok (ok_loadB (i := 1) (vs := [.string _, .string _, .bool _]) ty56 rfl rfl rfl rfl (by simp)) ?_
    refine W.ok (ok_fieldB fd45_0 rfl) ?_
    refine W.ok (ok_loadB (i := 0) (vs := [.string _]) ty9 rfl rfl rfl rfl (by simp)) ?_
    refine W.qcall (spanhas_fc _ _ _ _) rfl ?_
    refine W.nil (thn_n ?_)
    refine WC.cond (b := _) rfl (fun h23 => ?_) (fun h23 => ?_)
    ·refine WC.region ?_
     refine W.mv ?_
     refine W.ok (ok_loadB (i := 0) (vs := [.string _, .string _]) ty45 rfl rfl rfl rfl (by simp)) ?_
     refine W.lit (e := ePair) (l := [⟨((l)[i]).key, ((l)[i]).val⟩]) (css := [[.string _, .string _]]) sl25 ty45 zr45 rfl rfl rfl rfl rfl rfl ⟨rfl, trivial⟩ (fun bl8 G8 hG8 hv8 => ?_)
     refine W.app (e := ePair) sl25 ty45 zr45 rfl by45 rfl rfl ((ho_7.mono hG8)) (hv8) (pmC (pmC (List.Perm.refl _))) (by show (_ + 1) * 32 ≤ _; (try simp only [List.length_append] at *); omega) (fun v9 Ms10 ho11 => ?_)
     refine W.perm (pmC (pmC (List.Perm.refl _))).symm ?_
     refine W.as ?_
     refine W.nil (blk_n (thn_n ?_))
     refine WC.region ?_
     refine W.ok (ok_add rfl rfl (by omega)) ?_
     refine W.mv ?_
     refine W.sub ((List.Sublist.refl _).cons _) ?_
     refine W.nil (thn_n ?_)
     exact ⟨hG8, (i + 1, v9, Ms10), ⟨(by first | rfl | exact iv (by dsimp only; omega) | exact iv (by omega)), (by first | rfl | exact iv (by dsimp only; omega) | exact iv (by omega)), (by first | rfl | exact iv (by dsimp only; omega) | exact iv (by omega)), (by first | rfl | exact iv (by dsimp only; omega) | exact iv (by omega)), (by first | rfl | exact iv (by dsimp only; omega) | exact iv (by omega)), (by first | rfl | exact iv (by dsimp only; omega) | exact iv (by omega)), trivial⟩, ⟨rfl, (by have h := ho11; rw [scan_succ_t (by omega) (by omega) (by simpa using h23)]; exact h), by omega⟩, by omega⟩
    ·refine WC.skip (blk_n (thn_n ?_))
     refine WC.region ?_
     refine W.ok (ok_add rfl rfl (by omega)) ?_
     refine W.mv ?_
     refine W.sub ((List.Sublist.refl _).cons _) ?_
     refine W.nil (thn_n ?_)
     exact ⟨Le.rfl, (i + 1, v_7, M_7), ⟨(by first | rfl | exact iv (by dsimp only; omega) | exact iv (by omega)), (by first | rfl | exact iv (by dsimp only; omega) | exact iv (by omega)), (by first | rfl | exact iv (by dsimp only; omega) | exact iv (by omega)), (by first | rfl | exact iv (by dsimp only; omega) | exact iv (by omega)), (by first | rfl | exact iv (by dsimp only; omega) | exact iv (by omega)), (by first | rfl | exact iv (by dsimp only; omega) | exact iv (by omega)), trivial⟩, ⟨rfl, (by have h := ho_7; rw [scan_succ_f (by omega) (by simpa using h23)]; exact h), by omega⟩, by omega⟩
  ·have p13 := of_decide_eq_false h13
   refine WC.exit (thn_x (thn_x (blk_h (thn_n ?_))))
   refine WC.seq ?_
   refine WC.region ?_
   refine W.mv ?_
   refine W.as ?_
   refine W.nil (thn_n ?_)
   refine WC.giveO ho_7 (pmC (List.Perm.refl _)) (fun G12 hG12 hv12 => ?_)
   refine WC.ret ?_
   refine ⟨.inr rfl, [_], ⟨rfl, trivial⟩, [], List.nil_sublist _, ?_⟩
   refine ⟨rfl, _, rfl, ?_⟩
   · have h := hv12; rw [List.take_of_length_le (by omega)] at h; exact h

theorem rscan_fc {G : GH} {v_l : Value} {l : List Pair} (h_l : SlR ePair G v_l l) (slo : Str) (shi : Str) (so : Bool) (n : Int) (hn : l.length ≤ 100000000) :
    Fc Tryd.prog 34 [v_l, .agg #[.string slo.b, .string shi.b, .bool so], .int .i64 n] G [] (fun v G' M' => M' = [] ∧ ∃ u0, v = u0 ∧ SlR ePair G' u0 (scanN l ⟨slo, shi, so⟩ n)) := by
 obtain ⟨sa_l, sc_l, rfl⟩ := h_l.form
 have hl := h_l.len47
 refine Fc.intro (rs := [.tmp 6]) cl34 Tryd.func34 rfl Tryd.ntmps34 rfl rfl (fun w0 => ?_)
 refine WC.seq ?_
 refine WC.region ?_
 refine W.box (L := [.string _, .string _, .bool _]) rfl rfl (fun b13 => ?_)
 refine W.as ?_
 refine W.nil (thn_n ?_)
 refine WC.seq ?_
 refine WC.region ?_
 refine W.as ?_
 refine W.nil (thn_n ?_)
 refine WC.seq ?_
 refine WC.seq ?_
 refine WC.region ?_
 refine W.as ?_
 refine W.nil (thn_n ?_)
 refine WC.block ?_
 refine WC.loop (X := (Nat) × Value × MH) (fun i => [(8, .int .i64 ((i.1 : Nat) : Int)), (4, .pointer (some ⟨b13, 0, none⟩)), (0, .slice sa_l l.length sc_l), (2, .int .i64 n), (7, i.2.1)]) (fun i G Ml => Ml = ((b13, .cells (List.toArray [.string slo.b, .string shi.b, .bool so]) 56 (0, 0)) :: (i.2.2 ++ [])) ∧ OwnR ePair 45 G i.2.1 (scanN (l.take i.1) ⟨slo, shi, so⟩ n) i.2.2 ∧ i.1 ≤ l.length) (fun i => l.length - i.1) (0, .slice none 0 0, ([] : MH)) ⟨(by first | rfl | exact iv (by dsimp only; omega) | exact iv (by omega)), (by first | rfl | exact iv (by dsimp only; omega) | exact iv (by omega)), (by first | rfl | exact iv (by dsimp only; omega) | exact iv (by omega)), (by first | rfl | exact iv (by dsimp only; omega) | exact iv (by omega)), (by first | rfl | exact iv (by dsimp only; omega) | exact iv (by omega)), trivial⟩ ?_ ?_
 ·exact ⟨rfl, (by simpa [scanN] using OwnR.nil), by omega⟩
 ·rintro ⟨i, v_7, M_7⟩ gG14 G14 _ hG14 ⟨rfl, ho_7, hi⟩
  try dsimp only at ho_7 hi
  have hsl := scan_len (l := l.take i) (s := ⟨slo, shi, so⟩) (n := n)
  have htl : (l.take i).length ≤ i := by simp; omega
  refine WC.fr (f := setL gG14 [(8, .int .i64 ((i : Nat) : Int)), (4, .pointer (some ⟨b13, 0, none⟩)), (0, .slice sa_l l.length sc_l), (2, .int .i64 n), (7, v_7)]) rfl ?_
  refine WC.seq ?_
  refine WC.seq ?_
  refine WC.region ?_
  refine W.mv ?_
  refine W.mv ?_
  refine W.ok (ok_len sl25 (h_l.mono hG14) rfl) ?_
  refine W.ok (ok_lss rfl rfl) ?_
  refine W.nil (thn_n ?_)
  refine WC.cond (b := _) rfl (fun h12 => ?_) (fun h12 => ?_)
  ·have p12 := of_decide_eq_true h12
   refine WC.skip (thn_n ?_)
   refine WC.seq ?_
   refine WC.block ?_
   refine WC.seq ?_
   refine WC.draw mix (by kernel_rfl) ?_
   refine W.ok (ok_loadB (i := 0) (vs := [.string _, .string _, .bool _]) ty56 rfl rfl rfl rfl (by simp)) ?_
   refine W.mv ?_
   refine W.mv ?_
   have q17 := (h_l.mono hG14).at (i := i) (by omega)
   refine match q17 with | ⟨_, he15, e_16⟩ => ?_
   subst e_16
   refine W.ok (ok_indexAddr (i := i) sl25 ty45 (h_l.mono hG14) rfl rfl ⟨by omega, by omega⟩) ?_
   refine W.ok (ok_fieldE fd45_0 rfl he15.form) ?_
   refine W.ok (ok_loadE (vs := [.string _]) ty9 he15 rfl rfl rfl (by simp)) ?_
   refine W.qcall (has_fc _ _ _ _) rfl ?_
   refine W.mv ?_
   refine W.sp 22 rfl (fun h21 => ?_) (fun h21 => ?_)
   ·refine W.yes (dj := 22) rfl rfl h21 ?_
    refine W.mv ?_
    refine W.yes (dj := 22) rfl rfl h21 ?_
    refine W.ok (ok_lenO sl25 ho_7 rfl) ?_
    refine W.yes (dj := 22) rfl rfl h21 ?_
    refine W.mv ?_
    refine W.yes (dj := 22) rfl rfl h21 ?_
    refine W.ok (ok_lss rfl rfl) ?_
    refine W.ok (ok_pick_t rfl h21) ?_
    refine W.nil (thn_n ?_)
    refine WC.cond (b := _) rfl (fun h26 => ?_) (fun h26 => ?_)
    ·have p26 := of_decide_eq_true h26
     refine WC.region ?_
     refine W.mv ?_
     refine W.mv ?_
     refine W.mv ?_
     have q20 := (h_l.mono hG14).at (i := i) (by omega)
     refine match q20 with | ⟨_, he18, e_19⟩ => ?_
     subst e_19
     refine W.ok (ok_indexAddr (i := i) sl25 ty45 (h_l.mono hG14) rfl rfl ⟨by omega, by omega⟩) ?_
     refine W.ok (ok_loadE (vs := [.string _, .string _]) ty45 he18 rfl rfl rfl (by simp)) ?_
     refine W.lit (e := ePair) (l := [((l)[i])]) (css := [[.string _, .string _]]) sl25 ty45 zr45 rfl rfl rfl rfl rfl rfl ⟨rfl, trivial⟩ (fun bl21 G21 hG21 hv21 => ?_)
     refine W.app (e := ePair) sl25 ty45 zr45 rfl by45 rfl rfl ((ho_7.mono hG21)) (hv21) (pmC (List.Perm.refl _)) (by show (_ + 1) * 32 ≤ _; (try simp only [List.length_append] at *); omega) (fun v22 Ms23 ho24 => ?_)
     refine W.perm (pmC (List.Perm.refl _)).symm ?_
     refine W.as ?_
     refine W.nil (blk_n (thn_n ?_))
     refine WC.region ?_
     refine W.mv ?_
     refine W.ok (ok_add rfl rfl (by omega)) ?_
     refine W.as ?_
     refine W.nil (thn_n ?_)
     exact ⟨hG21, (i + 1, v22, Ms23), ⟨(by first | rfl | exact iv (by dsimp only; omega) | exact iv (by omega)), (by first | rfl | exact iv (by dsimp only; omega) | exact iv (by omega)), (by first | rfl | exact iv (by dsimp only; omega) | exact iv (by omega)), (by first | rfl | exact iv (by dsimp only; omega) | exact iv (by omega)), (by first | rfl | exact iv (by dsimp only; omega) | exact iv (by omega)), trivial⟩, ⟨rfl, (by have h := ho24; rw [scan_succ_t (by omega) (by omega) (by simpa using h21)]; exact h), by omega⟩, by omega⟩
    ·have p26 := of_decide_eq_false h26
     refine WC.skip (blk_n (thn_n ?_))
     refine WC.region ?_
     refine W.mv ?_
     refine W.ok (ok_add rfl rfl (by omega)) ?_
     refine W.as ?_
     refine W.nil (thn_n ?_)
     exact ⟨Le.rfl, (i + 1, v_7, M_7), ⟨(by first | rfl | exact iv (by dsimp only; omega) | exact iv (by omega)), (by first | rfl | exact iv (by dsimp only; omega) | exact iv (by omega)), (by first | rfl | exact iv (by dsimp only; omega) | exact iv (by omega)), (by first | rfl | exact iv (by dsimp only; omega) | exact iv (by omega)), (by first | rfl | exact iv (by dsimp only; omega) | exact iv (by omega)), trivial⟩, ⟨rfl, (by have h := ho_7; rw [scan_full' (by omega) (by omega)]; exact h), by omega⟩, by omega⟩
   ·refine W.no (dj := 22) rfl rfl h21 ?_
    refine W.no (dj := 22) rfl rfl h21 ?_
    refine W.no (dj := 22) rfl rfl h21 ?_
    refine W.no (dj := 22) rfl rfl h21 ?_
    refine W.ok (ok_pick_f rfl h21) ?_
    refine W.nil (thn_n ?_)
    refine WC.cond_f rfl rfl ?_
    refine WC.skip (blk_n (thn_n ?_))
    refine WC.region ?_
    refine W.mv ?_
    refine W.ok (ok_add rfl rfl (by omega)) ?_
    refine W.as ?_
    refine W.nil (thn_n ?_)
    exact ⟨Le.rfl, (i + 1, v_7, M_7), ⟨(by first | rfl | exact iv (by dsimp only; omega) | exact iv (by omega)), (by first | rfl | exact iv (by dsimp only; omega) | exact iv (by omega)), (by first | rfl | exact iv (by dsimp only; omega) | exact iv (by omega)), (by first | rfl | exact iv (by dsimp only; omega) | exact iv (by omega)), (by first | rfl | exact iv (by dsimp only; omega) | exact iv (by omega)), trivial⟩, ⟨rfl, (by have h := ho_7; rw [scan_succ_f (by omega) (by simpa using h21)]; exact h), by omega⟩, by omega⟩
  ·have p12 := of_decide_eq_false h12
   refine WC.exit (thn_x (thn_x (blk_h (thn_n ?_))))
   refine WC.seq ?_
   refine WC.region ?_
   refine W.mv ?_
   refine W.as ?_
   refine W.nil (thn_n ?_)
   refine WC.giveO ho_7 (pmC (List.Perm.refl _)) (fun G25 hG25 hv25 => ?_)
   refine WC.ret ?_
   refine ⟨.inr rfl, [_], ⟨rfl, trivial⟩, [], List.nil_sublist _, ?_⟩
   refine ⟨rfl, _, rfl, ?_⟩
   · have h := hv25; rw [List.take_of_length_le (by omega)] at h; exact h

theorem eqp_fc {G : GH} {v_a : Value} {a : List Pair} (h_a : SlR ePair G v_a a) {v_b : Value} {b : List Pair} (h_b : SlR ePair G v_b b) :
    Fc Tryd.prog 43 [v_a, v_b] G [] (fun v _ _ => v = .bool (decide (a = b))) := by
 obtain ⟨sa_a, sc_a, rfl⟩ := h_a.form
 obtain ⟨sa_b, sc_b, rfl⟩ := h_b.form
 have ha := h_a.len47
 have hb := h_b.len47
 refine Fc.intro (rs := [.tmp 4]) cl43 Tryd.func43 rfl Tryd.ntmps43 rfl rfl (fun w0 => ?_)
 refine WC.seq ?_
 refine WC.region ?_
 refine W.as ?_
 refine W.nil (thn_n ?_)
 refine WC.seq ?_
 refine WC.seq ?_
 refine WC.region ?_
 refine W.mv ?_
 refine W.ok (ok_len sl25 h_a rfl) ?_
 refine W.mv ?_
 refine W.ok (ok_len sl25 h_b rfl) ?_
 refine W.ok (ok_neq rfl rfl) ?_
 refine W.nil (thn_n ?_)
 refine WC.cond (b := _) rfl (fun h10 => ?_) (fun h10 => ?_)
 ·have p10 := nd_t h10
  refine WC.seq ?_
  refine WC.region ?_
  refine W.as ?_
  refine W.nil (thn_n ?_)
  refine WC.ret (thn_r ?_)
  refine ⟨.inr rfl, [_], ⟨rfl, trivial⟩, [], List.nil_sublist _, ?_⟩
  refine congrArg Value.bool ?_
  exact (decide_eq_false fun e => by subst e; omega).symm
 ·have p10 := nd_f h10
  have hab : a.length = b.length := by omega
  refine WC.skip (thn_n ?_)
  refine WC.seq ?_
  refine WC.seq ?_
  refine WC.region ?_
  refine W.mv ?_
  refine W.ok (ok_len sl25 h_a rfl) ?_
  refine W.mv ?_
  refine W.nil (thn_n ?_)
  refine WC.block ?_
  refine WC.loop (X := Nat) (fun k => [(13, .int .i64 ((k : Nat) : Int)), (0, .slice sa_a a.length sc_a), (1, .slice sa_b b.length sc_b), (12, .int .i64 (((a).length : Nat) : Int))]) (fun k _ Ml => Ml = [] ∧ k ≤ a.length ∧ ∀ i (h : i < a.length) (h2 : i < b.length), i < k → a[i] = b[i]) (fun k => a.length - k) 0 ⟨(by first | rfl | exact iv (by dsimp only; omega) | exact iv (by omega)), (by first | rfl | exact iv (by dsimp only; omega) | exact iv (by omega)), (by first | rfl | exact iv (by dsimp only; omega) | exact iv (by omega)), (by first | rfl | exact iv (by dsimp only; omega) | exact iv (by omega)), trivial⟩ ?_ ?_
  ·exact ⟨rfl, by omega, fun i _ _ h => by omega⟩
  ·rintro k gG26 G26 _ hG26 ⟨rfl, hk0, hk⟩
   refine WC.seq ?_
   refine WC.region ?_
   refine W.ok (ok_lss rfl rfl) ?_
   refine W.nil (thn_n ?_)
   refine WC.seq ?_
   refine WC.cond (b := _) rfl (fun h14 => ?_) (fun h14 => ?_)
   ·have p14 := of_decide_eq_true h14
    refine WC.skip (thn_n ?_)
    refine WC.seq ?_
    refine WC.block ?_
    refine WC.seq ?_
    refine WC.region ?_
    refine W.mv ?_
    refine W.as ?_
    refine W.nil (thn_n ?_)
    refine WC.seq ?_
    refine WC.draw mix (by kernel_rfl) ?_
    refine W.mv ?_
    refine W.mv ?_
    have q29 := (h_a.mono hG26).at (i := k) (by omega)
    refine match q29 with | ⟨_, he27, e_28⟩ => ?_
    subst e_28
    refine W.ok (ok_indexAddr (i := k) sl25 ty45 (h_a.mono hG26) rfl rfl ⟨by omega, by omega⟩) ?_
    refine W.ok (ok_loadE (vs := [.string _, .string _]) ty45 he27 rfl rfl rfl (by simp)) ?_
    refine W.mv ?_
    refine W.mv ?_
    have q32 := (h_b.mono hG26).at (i := k) (by omega)
    refine match q32 with | ⟨_, he30, e_31⟩ => ?_
    subst e_31
    refine W.ok (ok_indexAddr (i := k) sl25 ty45 (h_b.mono hG26) rfl rfl ⟨by omega, by omega⟩) ?_
    refine W.ok (ok_loadE (vs := [.string _, .string _]) ty45 he30 rfl rfl rfl (by simp)) ?_
    refine W.ok (ok_neqA (L1 := [.string _, .string _]) (L2 := [.string _, .string _]) eq45 rfl rfl rfl rfl) ?_
    refine W.nil (thn_n ?_)
    refine WC.cond (b := _) rfl (fun h24 => ?_) (fun h24 => ?_)
    ·refine WC.seq ?_
     refine WC.region ?_
     refine W.as ?_
     refine W.nil (thn_n ?_)
     refine WC.ret (blk_r (thn_r (thn_r (blk_r (thn_r ?_)))))
     refine ⟨.inr rfl, [_], ⟨rfl, trivial⟩, [], List.nil_sublist _, ?_⟩
     refine congrArg Value.bool ?_
     exact (decide_eq_false fun e => by subst e; exact Pair.ne_of h24 rfl).symm
    ·refine WC.skip (blk_n (thn_n ?_))
     refine WC.region ?_
     refine W.ok (ok_add rfl rfl (by omega)) ?_
     refine W.mv ?_
     refine W.nil (thn_n ?_)
     exact ⟨Le.rfl, k + 1, ⟨(by first | rfl | exact iv (by dsimp only; omega) | exact iv (by omega)), (by first | rfl | exact iv (by dsimp only; omega) | exact iv (by omega)), (by first | rfl | exact iv (by dsimp only; omega) | exact iv (by omega)), (by first | rfl | exact iv (by dsimp only; omega) | exact iv (by omega)), trivial⟩, ⟨rfl, by omega, fun i h h2 hi => by
      by_cases e : i = k
      · subst e; exact Pair.eq_of h24
      · exact hk i h h2 (by omega)⟩, by omega⟩
   ·have p14 := of_decide_eq_false h14
    refine WC.exit (thn_x (thn_x (blk_h (thn_n ?_))))
    refine WC.seq ?_
    refine WC.region ?_
    refine W.as ?_
    refine W.nil (thn_n ?_)
    refine WC.ret ?_
    refine ⟨.inr rfl, [_], ⟨rfl, trivial⟩, [], List.nil_sublist _, ?_⟩
    refine congrArg Value.bool ?_
    exact (decide_eq_true (List.ext_getElem (by omega) fun i h h2 => hk i h h2 (by omega))).symm

theorem msame9_fc {G : GH} {v_a : Value} {a : List Pair} (h_a : SlR ePair G v_a a) {v_b : Value} {b : List Pair} (h_b : SlR ePair G v_b b) :
    Fc Tryd.prog 22 [v_a, v_b] G [] (fun v _ _ => v = .bool (decide (a = b))) := by
 obtain ⟨sa_a, sc_a, rfl⟩ := h_a.form
 obtain ⟨sa_b, sc_b, rfl⟩ := h_b.form
 refine Fc.intro (rs := [.tmp 4]) cl22 Tryd.func22 rfl Tryd.ntmps22 rfl rfl (fun w0 => ?_)
 refine WC.seq ?_
 refine WC.region ?_
 refine W.as ?_
 refine W.nil (thn_n ?_)
 refine WC.seq ?_
 refine WC.region ?_
 refine W.mv ?_
 refine W.mv ?_
 refine W.qcall (eqp_fc h_a h_b) rfl ?_
 refine W.as ?_
 refine W.nil (thn_n ?_)
 refine WC.ret ?_
 refine ⟨.inr rfl, [_], ⟨rfl, trivial⟩, [], List.nil_sublist _, ?_⟩
 rfl

end Go.Proofs.YthmkpaoolhcibaaDoor
