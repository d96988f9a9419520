/- Walks of functions that look through rows. -/
import Derived.Test.YtjbbookmgohamaaW5
namespace Go.Proofs.Ytjbbookmgohamaa
open Go Go.Fw Go.RowKit
set_option maxRecDepth 100000
set_option maxHeartbeats 1600000
set_option linter.unusedVariables false
set_option linter.unusedSimpArgs false
set_option linter.unnecessarySimpa false
theorem rscan_fc {G : GH} {v_l : Value} {l : List Pair} (h_l : SlR ePair G v_l l) (slo : Str) (shi : Str) (so : Bool) (n : Int) (hn : l.length ≤ 1000000) :
    Fc Try.prog 133 [v_l, .agg #[.string slo.b, .string shi.b, .bool so], .int .i64 n] G [] (fun v G' M' => M' = [] ∧ ∃ u0, v = u0 ∧ SlR ePair G' u0 (scanN l ⟨slo, shi, so⟩ n)) := by
 obtain ⟨sa_l, sc_l, rfl⟩ := h_l.form
 have hl := h_l.len47
 refine Fc.intro (rs := [.tmp 6]) cl133 Try.func133 rfl Try.ntmps133 rfl rfl (fun w0 => ?_)
 refine WC.seq ?_
 refine WC.region ?_
 refine W.box (L := [.string _, .string _, .bool _]) rfl rfl (fun b1 => ?_)
 refine W.as ?_
 refine W.nil (thn_n ?_)
 refine WC.seq ?_
 refine WC.region ?_
 refine W.as ?_
 refine W.nil (thn_n ?_)
 refine WC.seq ?_
 refine WC.seq ?_
 refine WC.region ?_
 refine W.as ?_
 refine W.nil (thn_n ?_)
 refine WC.block ?_
 refine WC.loop (X := (Nat) × Value × MH) (fun i => [(8, .int .i64 ((i.1 : Nat) : Int)), (4, .pointer (some ⟨b1, 0, none⟩)), (0, .slice sa_l l.length sc_l), (2, .int .i64 n), (7, i.2.1)]) (fun i G Ml => Ml = ((b1, .cells (List.toArray [.string slo.b, .string shi.b, .bool so]) 37 (0, 0)) :: (i.2.2 ++ [])) ∧ OwnR ePair 93 G i.2.1 (scanN (l.take i.1) ⟨slo, shi, so⟩ n) i.2.2 ∧ i.1 ≤ l.length) (fun i => l.length - i.1) (0, .slice none 0 0, ([] : MH)) ⟨(by first | rfl | exact iv (by dsimp only; omega) | exact iv (by omega)), (by first | rfl | exact iv (by dsimp only; omega) | exact iv (by omega)), (by first | rfl | exact iv (by dsimp only; omega) | exact iv (by omega)), (by first | rfl | exact iv (by dsimp only; omega) | exact iv (by omega)), (by first | rfl | exact iv (by dsimp only; omega) | exact iv (by omega)), trivial⟩ ?_ ?_
 ·exact ⟨rfl, (by simpa [scanN] using OwnR.nil), by omega⟩
 ·rintro ⟨i, v_7, M_7⟩ gG2 G2 _ hG2 ⟨rfl, ho_7, hi⟩
  try dsimp only at ho_7 hi
  have hsl := scan_len (l := l.take i) (s := ⟨slo, shi, so⟩) (n := n)
  have htl : (l.take i).length ≤ i := by simp; omega
  refine WC.fr (f := setL gG2 [(8, .int .i64 ((i : Nat) : Int)), (4, .pointer (some ⟨b1, 0, none⟩)), (0, .slice sa_l l.length sc_l), (2, .int .i64 n), (7, v_7)]) rfl ?_
  refine WC.seq ?_
  refine WC.seq ?_
  refine WC.region ?_
  refine W.mv ?_
  refine W.mv ?_
  refine W.ok (ok_len sl31 (h_l.mono hG2) rfl) ?_
  refine W.ok (ok_lss rfl rfl) ?_
  refine W.nil (thn_n ?_)
  refine WC.cond (b := _) rfl (fun h12 => ?_) (fun h12 => ?_)
  ·have p12 := of_decide_eq_true h12
   refine WC.skip (thn_n ?_)
   refine WC.seq ?_
   refine WC.block ?_
   refine WC.seq ?_
   refine WC.draw mix (by kernel_rfl) ?_
   refine W.ok (ok_loadB (i := 0) (vs := [.string _, .string _, .bool _]) ty37 rfl rfl rfl rfl (by simp)) ?_
   refine W.mv ?_
   refine W.mv ?_
   have q5 := (h_l.mono hG2).at (i := i) (by omega)
   refine match q5 with | ⟨_, he3, e_4⟩ => ?_
   subst e_4
   refine W.ok (ok_indexAddr (i := i) sl31 ty93 (h_l.mono hG2) rfl rfl ⟨by omega, by omega⟩) ?_
   refine W.ok (ok_fieldE fd93_0 rfl he3.form) ?_
   refine W.ok (ok_loadE (vs := [.string _]) ty9 he3 rfl rfl rfl (by simp)) ?_
   refine W.qcall (has_fc _ _ _ _) rfl ?_
   refine W.mv ?_
   refine W.sp 22 rfl (fun h21 => ?_) (fun h21 => ?_)
   ·refine W.yes (dj := 22) rfl rfl h21 ?_
    refine W.mv ?_
    refine W.yes (dj := 22) rfl rfl h21 ?_
    refine W.ok (ok_lenO sl31 ho_7 rfl) ?_
    refine W.yes (dj := 22) rfl rfl h21 ?_
    refine W.mv ?_
    refine W.yes (dj := 22) rfl rfl h21 ?_
    refine W.ok (ok_lss rfl rfl) ?_
    refine W.ok (ok_pick_t rfl h21) ?_
    refine W.nil (thn_n ?_)
    refine WC.cond (b := _) rfl (fun h26 => ?_) (fun h26 => ?_)
    ·have p26 := of_decide_eq_true h26
     refine WC.region ?_
     refine W.mv ?_
     refine W.mv ?_
     refine W.mv ?_
     have q8 := (h_l.mono hG2).at (i := i) (by omega)
     refine match q8 with | ⟨_, he6, e_7⟩ => ?_
     subst e_7
     refine W.ok (ok_indexAddr (i := i) sl31 ty93 (h_l.mono hG2) rfl rfl ⟨by omega, by omega⟩) ?_
     refine W.ok (ok_loadE (vs := [.string _, .string _]) ty93 he6 rfl rfl rfl (by simp)) ?_
     refine W.lit (e := ePair) (l := [((l)[i])]) (css := [[.string _, .string _]]) sl31 ty93 zr93 rfl rfl rfl rfl rfl rfl ⟨rfl, trivial⟩ (fun bl9 G9 hG9 hv9 => ?_)
     refine W.app (e := ePair) sl31 ty93 zr93 rfl by93 rfl rfl ((ho_7.mono hG9)) (hv9) (pmC (List.Perm.refl _)) (by show (_ + 1) * 32 ≤ _; (try simp only [List.length_append] at *); omega) (fun v10 Ms11 ho12 => ?_)
     refine W.perm (pmC (List.Perm.refl _)).symm ?_
     refine W.as ?_
     refine W.nil (blk_n (thn_n ?_))
     refine WC.region ?_
     refine W.mv ?_
     refine W.ok (ok_add rfl rfl (by omega)) ?_
     refine W.as ?_
     refine W.nil (thn_n ?_)
     exact ⟨hG9, (i + 1, v10, Ms11), ⟨(by first | rfl | exact iv (by dsimp only; omega) | exact iv (by omega)), (by first | rfl | exact iv (by dsimp only; omega) | exact iv (by omega)), (by first | rfl | exact iv (by dsimp only; omega) | exact iv (by omega)), (by first | rfl | exact iv (by dsimp only; omega) | exact iv (by omega)), (by first | rfl | exact iv (by dsimp only; omega) | exact iv (by omega)), trivial⟩, ⟨rfl, (by have h := ho12; rw [scan_succ_t (by omega) (by omega) (by simpa using h21)]; exact h), by omega⟩, by omega⟩
    ·have p26 := of_decide_eq_false h26
     refine WC.skip (blk_n (thn_n ?_))
     refine WC.region ?_
     refine W.mv ?_
     refine W.ok (ok_add rfl rfl (by omega)) ?_
     refine W.as ?_
     refine W.nil (thn_n ?_)
     exact ⟨Le.rfl, (i + 1, v_7, M_7), ⟨(by first | rfl | exact iv (by dsimp only; omega) | exact iv (by omega)), (by first | rfl | exact iv (by dsimp only; omega) | exact iv (by omega)), (by first | rfl | exact iv (by dsimp only; omega) | exact iv (by omega)), (by first | rfl | exact iv (by dsimp only; omega) | exact iv (by omega)), (by first | rfl | exact iv (by dsimp only; omega) | exact iv (by omega)), trivial⟩, ⟨rfl, (by have h := ho_7; rw [scan_full' (by omega) (by omega)]; exact h), by omega⟩, by omega⟩
   ·refine W.no (dj := 22) rfl rfl h21 ?_
    refine W.no (dj := 22) rfl rfl h21 ?_
    refine W.no (dj := 22) rfl rfl h21 ?_
    refine W.no (dj := 22) rfl rfl h21 ?_
    refine W.ok (ok_pick_f rfl h21) ?_
    refine W.nil (thn_n ?_)
    refine WC.cond_f rfl rfl ?_
    refine WC.skip (blk_n (thn_n ?_))
    refine WC.region ?_
    refine W.mv ?_
    refine W.ok (ok_add rfl rfl (by omega)) ?_
    refine W.as ?_
    refine W.nil (thn_n ?_)
    exact ⟨Le.rfl, (i + 1, v_7, M_7), ⟨(by first | rfl | exact iv (by dsimp only; omega) | exact iv (by omega)), (by first | rfl | exact iv (by dsimp only; omega) | exact iv (by omega)), (by first | rfl | exact iv (by dsimp only; omega) | exact iv (by omega)), (by first | rfl | exact iv (by dsimp only; omega) | exact iv (by omega)), (by first | rfl | exact iv (by dsimp only; omega) | exact iv (by omega)), trivial⟩, ⟨rfl, (by have h := ho_7; rw [scan_succ_f (by omega) (by simpa using h21)]; exact h), by omega⟩, by omega⟩
  ·have p12 := of_decide_eq_false h12
   refine WC.exit (thn_x (thn_x (blk_h (thn_n ?_))))
   refine WC.seq ?_
   refine WC.region ?_
   refine W.mv ?_
   refine W.as ?_
   refine W.nil (thn_n ?_)
   refine WC.giveO ho_7 (pmC (List.Perm.refl _)) (fun G13 hG13 hv13 => ?_)
   refine WC.ret ?_
   refine ⟨.inr rfl, [_], ⟨rfl, trivial⟩, [], List.nil_sublist _, ?_⟩
   refine ⟨rfl, _, rfl, ?_⟩
   · have h := hv13; rw [List.take_of_length_le (by omega)] at h; exact h

theorem within_fc {G : GH} {v_l : Value} {l : List Pair} (h_l : SlR ePair G v_l l) (slo : Str) (shi : Str) (so : Bool) (hn : l.length ≤ 1000000) :
    Fc Try.prog 154 [v_l, .agg #[.string slo.b, .string shi.b, .bool so]] G [] (fun v G' M' => M' = [] ∧ ∃ u0, v = u0 ∧ SlR ePair G' u0 (l.filter (fun p : Pair => Span.has ⟨slo, shi, so⟩ p.key))) := by
 obtain ⟨sa_l, sc_l, rfl⟩ := h_l.form
 have hl := h_l.len47
 refine Fc.intro (rs := [.tmp 4]) cl154 Try.func154 rfl Try.ntmps154 rfl rfl (fun w0 => ?_)
 refine WC.seq ?_
 refine WC.region ?_
 refine W.box (L := [.string _, .string _, .bool _]) rfl rfl (fun b14 => ?_)
 refine W.as ?_
 refine W.nil (thn_n ?_)
 refine WC.seq ?_
 refine WC.region ?_
 refine W.as ?_
 refine W.nil (thn_n ?_)
 refine WC.seq ?_
 refine WC.seq ?_
 refine WC.region ?_
 refine W.mv ?_
 refine W.ok (ok_len sl31 h_l rfl) ?_
 refine W.mv ?_
 refine W.nil (thn_n ?_)
 refine WC.block ?_
 refine WC.loop (X := (Nat) × Value × MH) (fun i => [(10, .int .i64 ((i.1 : Nat) : Int)), (3, .pointer (some ⟨b14, 0, none⟩)), (8, .slice sa_l l.length sc_l), (9, .int .i64 (((l).length : Nat) : Int)), (5, i.2.1)]) (fun i G Ml => Ml = ((b14, .cells (List.toArray [.string slo.b, .string shi.b, .bool so]) 37 (0, 0)) :: (i.2.2 ++ [])) ∧ OwnR ePair 93 G i.2.1 (List.filter (fun p : Pair => Span.has ⟨slo, shi, so⟩ p.key) (l.take i.1)) i.2.2 ∧ i.1 ≤ l.length) (fun i => l.length - i.1) (0, .slice none 0 0, ([] : MH)) ⟨(by first | rfl | exact iv (by dsimp only; omega) | exact iv (by omega)), (by first | rfl | exact iv (by dsimp only; omega) | exact iv (by omega)), (by first | rfl | exact iv (by dsimp only; omega) | exact iv (by omega)), (by first | rfl | exact iv (by dsimp only; omega) | exact iv (by omega)), (by first | rfl | exact iv (by dsimp only; omega) | exact iv (by omega)), trivial⟩ ?_ ?_
 ·exact ⟨rfl, (by simpa using OwnR.nil), by omega⟩
 ·rintro ⟨i, v_5, M_5⟩ gG15 G15 _ hG15 ⟨rfl, ho_5, hi⟩
  try dsimp only at ho_5 hi
  have hfl := filt_le (fun p : Pair => Span.has ⟨slo, shi, so⟩ p.key) l i
  refine WC.fr (f := setL gG15 [(10, .int .i64 ((i : Nat) : Int)), (3, .pointer (some ⟨b14, 0, none⟩)), (8, .slice sa_l l.length sc_l), (9, .int .i64 (((l).length : Nat) : Int)), (5, v_5)]) rfl ?_
  refine WC.seq ?_
  refine WC.region ?_
  refine W.ok (ok_lss rfl rfl) ?_
  refine W.nil (thn_n ?_)
  refine WC.seq ?_
  refine WC.cond (b := _) rfl (fun h11 => ?_) (fun h11 => ?_)
  ·have p11 := of_decide_eq_true h11
   refine WC.skip (thn_n ?_)
   refine WC.seq ?_
   refine WC.block ?_
   refine WC.seq ?_
   refine WC.region ?_
   have q18 := (h_l.mono hG15).at (i := i) (by omega)
   refine match q18 with | ⟨_, he16, e_17⟩ => ?_
   subst e_17
   refine W.ok (ok_indexAddr (i := i) sl31 ty93 (h_l.mono hG15) rfl rfl ⟨by omega, by omega⟩) ?_
   refine W.ok (ok_loadE (vs := [.string _, .string _]) ty93 he16 rfl rfl rfl (by simp)) ?_
   refine W.alloc zr93 (fun b19 => ?_)
   refine W.store (i := 0) (vs := [.string _, .string _]) (L' := [.string _, .string _]) ty93 rfl rfl rfl rfl rfl rfl rfl rfl ?_
   refine W.nil (thn_n ?_)
   refine WC.seq ?_
   refine WC.region ?_
   refine W.ok (ok_loadB (i := 1) (vs := [.string _, .string _, .bool _]) ty37 rfl rfl rfl rfl (by simp)) ?_
   refine W.ok (ok_fieldB fd93_0 rfl) ?_
   refine W.ok (ok_loadB (i := 0) (vs := [.string _]) ty9 rfl rfl rfl rfl (by simp)) ?_
   refine W.qcall (spanhas_fc _ _ _ _) rfl ?_
   refine W.nil (thn_n ?_)
   refine WC.cond (b := _) rfl (fun h17 => ?_) (fun h17 => ?_)
   ·refine WC.region ?_
    refine W.mv ?_
    refine W.ok (ok_loadB (i := 0) (vs := [.string _, .string _]) ty93 rfl rfl rfl rfl (by simp)) ?_
    refine W.lit (e := ePair) (l := [⟨((l)[i]).key, ((l)[i]).val⟩]) (css := [[.string _, .string _]]) sl31 ty93 zr93 rfl rfl rfl rfl rfl rfl ⟨rfl, trivial⟩ (fun bl20 G20 hG20 hv20 => ?_)
    refine W.app (e := ePair) sl31 ty93 zr93 rfl by93 rfl rfl ((ho_5.mono hG20)) (hv20) (pmC (pmC (List.Perm.refl _))) (by show (_ + 1) * 32 ≤ _; (try simp only [List.length_append] at *); omega) (fun v21 Ms22 ho23 => ?_)
    refine W.perm (pmC (pmC (List.Perm.refl _))).symm ?_
    refine W.as ?_
    refine W.nil (blk_n (thn_n ?_))
    refine WC.region ?_
    refine W.ok (ok_add rfl rfl (by omega)) ?_
    refine W.mv ?_
    refine W.sub ((List.Sublist.refl _).cons _) ?_
    refine W.nil (thn_n ?_)
    exact ⟨hG20, (i + 1, v21, Ms22), ⟨(by first | rfl | exact iv (by dsimp only; omega) | exact iv (by omega)), (by first | rfl | exact iv (by dsimp only; omega) | exact iv (by omega)), (by first | rfl | exact iv (by dsimp only; omega) | exact iv (by omega)), (by first | rfl | exact iv (by dsimp only; omega) | exact iv (by omega)), (by first | rfl | exact iv (by dsimp only; omega) | exact iv (by omega)), trivial⟩, ⟨rfl, (by have h := ho23; rw [filt_t (p := (fun p : Pair => Span.has ⟨slo, shi, so⟩ p.key)) (by omega) (by simpa using h17)]; exact h), by omega⟩, by omega⟩
   ·refine WC.skip (blk_n (thn_n ?_))
    refine WC.region ?_
    refine W.ok (ok_add rfl rfl (by omega)) ?_
    refine W.mv ?_
    refine W.sub ((List.Sublist.refl _).cons _) ?_
    refine W.nil (thn_n ?_)
    exact ⟨Le.rfl, (i + 1, v_5, M_5), ⟨(by first | rfl | exact iv (by dsimp only; omega) | exact iv (by omega)), (by first | rfl | exact iv (by dsimp only; omega) | exact iv (by omega)), (by first | rfl | exact iv (by dsimp only; omega) | exact iv (by omega)), (by first | rfl | exact iv (by dsimp only; omega) | exact iv (by omega)), (by first | rfl | exact iv (by dsimp only; omega) | exact iv (by omega)), trivial⟩, ⟨rfl, (by have h := ho_5; rw [filt_f (p := (fun p : Pair => Span.has ⟨slo, shi, so⟩ p.key)) (by omega) (by simpa using h17)]; exact h), by omega⟩, by omega⟩
  ·have p11 := of_decide_eq_false h11
   refine WC.exit (thn_x (thn_x (blk_h (thn_n ?_))))
   refine WC.seq ?_
   refine WC.region ?_
   refine W.mv ?_
   refine W.as ?_
   refine W.nil (thn_n ?_)
   refine WC.giveO ho_5 (pmC (List.Perm.refl _)) (fun G24 hG24 hv24 => ?_)
   refine WC.ret ?_
   refine ⟨.inr rfl, [_], ⟨rfl, trivial⟩, [], List.nil_sublist _, ?_⟩
   refine ⟨rfl, _, rfl, ?_⟩
   · have h := hv24; rw [List.take_of_length_le (by omega)] at h; exact h

theorem short_fc {G : GH} (slo : Str) (shi : Str) (so : Bool) (tlo : Str) (thi : Str) (to : Bool) (k : Str) (n : Int) :
    Fc Try.prog 60 [.agg #[.string slo.b, .string shi.b, .bool so], .agg #[.string tlo.b, .string thi.b, .bool to], .string k.b, .int .i64 n] G [] (fun v _ _ => v = .bool (decide ((slo.b.size : Int) + shi.b.size ≤ n ∧ (tlo.b.size : Int) + thi.b.size ≤ n ∧ (k.b.size : Int) ≤ n))) := by
 have h1 := slo.le
 have h2 := shi.le
 have h3 := tlo.le
 have h4 := thi.le
 have h5 := k.le
 refine Fc.intro (rs := [.tmp 8]) cl60 Try.func60 rfl Try.ntmps60 rfl rfl (fun w0 => ?_)
 refine WC.seq ?_
 refine WC.region ?_
 refine W.box (L := [.string _, .string _, .bool _]) rfl rfl (fun b25 => ?_)
 refine W.box (L := [.string _, .string _, .bool _]) rfl rfl (fun b26 => ?_)
 refine W.as ?_
 refine W.nil (thn_n ?_)
 refine WC.seq ?_
 refine WC.region ?_
 refine W.ok (ok_fieldB fd37_0 rfl) ?_
 refine W.ok (ok_loadB (i := 1) (vs := [.string _]) ty9 rfl rfl rfl rfl (by simp)) ?_
 refine W.ok (ok_lenS st9 rfl) ?_
 refine W.ok (ok_fieldB fd37_1 rfl) ?_
 refine W.ok (ok_loadB (i := 1) (vs := [.string _]) ty9 rfl rfl rfl rfl (by simp)) ?_
 refine W.ok (ok_lenS st9 rfl) ?_
 refine W.ok (ok_add rfl rfl (by omega)) ?_
 refine W.mv ?_
 refine W.ok (ok_leq rfl rfl) ?_
 refine W.mv ?_
 refine W.sp 18 rfl (fun h17 => ?_) (fun h17 => ?_)
 ·have p17 := of_decide_eq_true h17
  refine W.yes (dj := 18) rfl rfl h17 ?_
  refine W.ok (ok_fieldB fd37_0 rfl) ?_
  refine W.yes (dj := 18) rfl rfl h17 ?_
  refine W.ok (ok_loadB (i := 0) (vs := [.string _]) ty9 rfl rfl rfl rfl (by simp)) ?_
  refine W.yes (dj := 18) rfl rfl h17 ?_
  refine W.ok (ok_lenS st9 rfl) ?_
  refine W.yes (dj := 18) rfl rfl h17 ?_
  refine W.ok (ok_fieldB fd37_1 rfl) ?_
  refine W.yes (dj := 18) rfl rfl h17 ?_
  refine W.ok (ok_loadB (i := 0) (vs := [.string _]) ty9 rfl rfl rfl rfl (by simp)) ?_
  refine W.yes (dj := 18) rfl rfl h17 ?_
  refine W.ok (ok_lenS st9 rfl) ?_
  refine W.yes (dj := 18) rfl rfl h17 ?_
  refine W.ok (ok_add rfl rfl (by omega)) ?_
  refine W.yes (dj := 18) rfl rfl h17 ?_
  refine W.mv ?_
  refine W.yes (dj := 18) rfl rfl h17 ?_
  refine W.ok (ok_leq rfl rfl) ?_
  refine W.ok (ok_pick_t rfl h17) ?_
  refine W.mv ?_
  refine W.sp 29 rfl (fun h27 => ?_) (fun h27 => ?_)
  ·have p27 := of_decide_eq_true h27
   refine W.yes (dj := 29) rfl rfl h27 ?_
   refine W.mv ?_
   refine W.yes (dj := 29) rfl rfl h27 ?_
   refine W.ok (ok_lenS st9 rfl) ?_
   refine W.yes (dj := 29) rfl rfl h27 ?_
   refine W.mv ?_
   refine W.yes (dj := 29) rfl rfl h27 ?_
   refine W.ok (ok_leq rfl rfl) ?_
   refine W.ok (ok_pick_t rfl h27) ?_
   refine W.as ?_
   refine W.nil (thn_n ?_)
   refine WC.ret ?_
   refine ⟨.inr rfl, [_], ⟨rfl, trivial⟩, [], List.nil_sublist _, ?_⟩
   refine congrArg Value.bool ?_
   first | (simp_all; done) | (simp_all; omega)
  ·have p27 := of_decide_eq_false h27
   refine W.no (dj := 29) rfl rfl h27 ?_
   refine W.no (dj := 29) rfl rfl h27 ?_
   refine W.no (dj := 29) rfl rfl h27 ?_
   refine W.no (dj := 29) rfl rfl h27 ?_
   refine W.ok (ok_pick_f rfl h27) ?_
   refine W.as ?_
   refine W.nil (thn_n ?_)
   refine WC.ret ?_
   refine ⟨.inr rfl, [_], ⟨rfl, trivial⟩, [], List.nil_sublist _, ?_⟩
   refine congrArg Value.bool ?_
   first | (simp_all; done) | (simp_all; omega)
 ·have p17 := of_decide_eq_false h17
  refine W.no (dj := 18) rfl rfl h17 ?_
  refine W.no (dj := 18) rfl rfl h17 ?_
  refine W.no (dj := 18) rfl rfl h17 ?_
  refine W.no (dj := 18) rfl rfl h17 ?_
  refine W.no (dj := 18) rfl rfl h17 ?_
  refine W.no (dj := 18) rfl rfl h17 ?_
  refine W.no (dj := 18) rfl rfl h17 ?_
  refine W.no (dj := 18) rfl rfl h17 ?_
  refine W.no (dj := 18) rfl rfl h17 ?_
  refine W.ok (ok_pick_f rfl h17) ?_
  refine W.mv ?_
  refine W.no (dj := 29) rfl rfl rfl ?_
  refine W.no (dj := 29) rfl rfl rfl ?_
  refine W.no (dj := 29) rfl rfl rfl ?_
  refine W.no (dj := 29) rfl rfl rfl ?_
  refine W.ok (ok_pick_f rfl rfl) ?_
  refine W.as ?_
  refine W.nil (thn_n ?_)
  refine WC.ret ?_
  refine ⟨.inr rfl, [_], ⟨rfl, trivial⟩, [], List.nil_sublist _, ?_⟩
  refine congrArg Value.bool ?_
  first | (simp_all; done) | (simp_all; omega)

theorem mright9_fc {G : GH} {v_l : Value} {l : List Pair} (h_l : SlR ePair G v_l l) :
    Fc Try.prog 180 [v_l] G [] (fun v _ _ => v = .bool (decide (PairsR l))) := by
 obtain ⟨sa_l, sc_l, rfl⟩ := h_l.form
 have hl := h_l.len47
 refine Fc.intro (rs := [.tmp 2]) cl180 Try.func180 rfl Try.ntmps180 rfl rfl (fun w0 => ?_)
 refine WC.seq ?_
 refine WC.region ?_
 refine W.as ?_
 refine W.nil (thn_n ?_)
 refine WC.seq ?_
 refine WC.seq ?_
 refine WC.region ?_
 refine W.mv ?_
 refine W.ok (ok_len sl31 h_l rfl) ?_
 refine W.mv ?_
 refine W.nil (thn_n ?_)
 refine WC.block ?_
 refine WC.loop (X := Nat) (fun k => [(7, .int .i64 ((k : Nat) : Int)), (0, .slice sa_l l.length sc_l), (5, .slice sa_l l.length sc_l), (6, .int .i64 (((l).length : Nat) : Int))]) (fun k _ Ml => Ml = [] ∧ ∀ i (h : i < l.length), i < k → (l[i].key.b.size ≤ 16 ∧ l[i].val.b.size ≤ 16) ∧ (0 < i → (l[i - 1]'(by omega)).key.lt l[i].key = true)) (fun k => l.length - k) 0 ⟨(by first | rfl | exact iv (by dsimp only; omega) | exact iv (by omega)), (by first | rfl | exact iv (by dsimp only; omega) | exact iv (by omega)), (by first | rfl | exact iv (by dsimp only; omega) | exact iv (by omega)), (by first | rfl | exact iv (by dsimp only; omega) | exact iv (by omega)), trivial⟩ ?_ ?_
 ·exact ⟨rfl, fun i _ h => by omega⟩
 ·rintro k gG27 G27 _ hG27 ⟨rfl, hk⟩
  refine WC.seq ?_
  refine WC.region ?_
  refine W.ok (ok_lss rfl rfl) ?_
  refine W.nil (thn_n ?_)
  refine WC.seq ?_
  refine WC.cond (b := _) rfl (fun h8 => ?_) (fun h8 => ?_)
  ·have p8 := of_decide_eq_true h8
   refine WC.skip (thn_n ?_)
   refine WC.seq ?_
   refine WC.block ?_
   refine WC.seq ?_
   refine WC.region ?_
   refine W.mv ?_
   have q30 := (h_l.mono hG27).at (i := k) (by omega)
   refine match q30 with | ⟨_, he28, e_29⟩ => ?_
   subst e_29
   refine W.ok (ok_indexAddr (i := k) sl31 ty93 (h_l.mono hG27) rfl rfl ⟨by omega, by omega⟩) ?_
   refine W.ok (ok_loadE (vs := [.string _, .string _]) ty93 he28 rfl rfl rfl (by simp)) ?_
   refine W.alloc zr93 (fun b31 => ?_)
   refine W.as ?_
   refine W.store (i := 0) (vs := [.string _, .string _]) (L' := [.string _, .string _]) ty93 rfl rfl rfl rfl rfl rfl rfl rfl ?_
   refine W.nil (thn_n ?_)
   refine WC.seq ?_
   refine WC.draw mix (by kernel_rfl) ?_
   refine W.ok (ok_fieldB fd93_0 rfl) ?_
   refine W.ok (ok_loadB (i := 0) (vs := [.string _]) ty9 rfl rfl rfl rfl (by simp)) ?_
   refine W.qcall (kright_fc _) rfl ?_
   refine W.ok (ok_not rfl) ?_
   refine W.mv ?_
   refine W.sp 16 rfl (fun h15 => ?_) (fun h15 => ?_)
   ·refine W.no (dj := 16) rfl rfl h15 ?_
    refine W.no (dj := 16) rfl rfl h15 ?_
    refine W.no (dj := 16) rfl rfl h15 ?_
    refine W.no (dj := 16) rfl rfl h15 ?_
    refine W.ok (ok_pick_t rfl h15) ?_
    refine W.mv ?_
    refine W.no (dj := 22) rfl rfl rfl ?_
    refine W.no (dj := 22) rfl rfl rfl ?_
    refine W.no (dj := 22) rfl rfl rfl ?_
    refine W.nou (dj := 25) rfl rfl ?_
    refine W.nou (dj := 25) rfl rfl ?_
    refine W.nou (dj := 25) rfl rfl ?_
    refine W.nou (dj := 25) rfl rfl ?_
    refine W.nou (dj := 25) rfl rfl ?_
    refine W.nou (dj := 25) rfl rfl ?_
    refine W.nou (dj := 25) rfl rfl ?_
    refine W.nou (dj := 25) rfl rfl ?_
    refine W.nou (dj := 25) rfl rfl ?_
    refine W.no (dj := 22) rfl rfl rfl ?_
    refine W.ok (ok_pick_t rfl rfl) ?_
    refine W.nil (thn_n ?_)
    refine WC.cond_t rfl rfl ?_
    refine WC.seq ?_
    refine WC.region ?_
    refine W.as ?_
    refine W.nil (thn_n ?_)
    refine WC.ret (blk_r (thn_r (thn_r (blk_r (thn_r ?_)))))
    refine ⟨.inr rfl, [_], ⟨rfl, trivial⟩, [], List.nil_sublist _, ?_⟩
    refine congrArg Value.bool ?_
    exact (decide_eq_false fun h => by have := h k (by omega); simp_all).symm
   ·refine W.yes (dj := 16) rfl rfl h15 ?_
    refine W.ok (ok_fieldB fd93_1 rfl) ?_
    refine W.yes (dj := 16) rfl rfl h15 ?_
    refine W.ok (ok_loadB (i := 0) (vs := [.string _]) ty9 rfl rfl rfl rfl (by simp)) ?_
    refine W.yes (dj := 16) rfl rfl h15 ?_
    refine W.qcall (vright_fc _) rfl ?_
    refine W.yes (dj := 16) rfl rfl h15 ?_
    refine W.ok (ok_not rfl) ?_
    refine W.ok (ok_pick_f rfl h15) ?_
    refine W.mv ?_
    refine W.sp 22 rfl (fun h20 => ?_) (fun h20 => ?_)
    ·refine W.no (dj := 22) rfl rfl h20 ?_
     refine W.no (dj := 22) rfl rfl h20 ?_
     refine W.no (dj := 22) rfl rfl h20 ?_
     refine W.nou (dj := 25) rfl rfl ?_
     refine W.nou (dj := 25) rfl rfl ?_
     refine W.nou (dj := 25) rfl rfl ?_
     refine W.nou (dj := 25) rfl rfl ?_
     refine W.nou (dj := 25) rfl rfl ?_
     refine W.nou (dj := 25) rfl rfl ?_
     refine W.nou (dj := 25) rfl rfl ?_
     refine W.nou (dj := 25) rfl rfl ?_
     refine W.nou (dj := 25) rfl rfl ?_
     refine W.no (dj := 22) rfl rfl h20 ?_
     refine W.ok (ok_pick_t rfl h20) ?_
     refine W.nil (thn_n ?_)
     refine WC.cond_t rfl rfl ?_
     refine WC.seq ?_
     refine WC.region ?_
     refine W.as ?_
     refine W.nil (thn_n ?_)
     refine WC.ret (blk_r (thn_r (thn_r (blk_r (thn_r ?_)))))
     refine ⟨.inr rfl, [_], ⟨rfl, trivial⟩, [], List.nil_sublist _, ?_⟩
     refine congrArg Value.bool ?_
     exact (decide_eq_false fun h => by have := h k (by omega); simp_all).symm
    ·refine W.yes (dj := 22) rfl rfl h20 ?_
     refine W.mv ?_
     refine W.yes (dj := 22) rfl rfl h20 ?_
     refine W.ok (ok_gtr rfl rfl) ?_
     refine W.yes (dj := 22) rfl rfl h20 ?_
     refine W.mv ?_
     refine W.sp 25 rfl (fun h24 => ?_) (fun h24 => ?_)
     ·have p24 := of_decide_eq_true h24
      refine W.yes (dj := 25) rfl rfl h24 ?_
      refine W.mv ?_
      refine W.yes (dj := 25) rfl rfl h24 ?_
      refine W.mv ?_
      refine W.yes (dj := 25) rfl rfl h24 ?_
      refine W.ok (ok_sub rfl rfl (by omega)) ?_
      refine W.yes (dj := 25) rfl rfl h24 ?_
      have q34 := (h_l.mono hG27).at (i := k - 1) (by omega)
      refine match q34 with | ⟨_, he32, e_33⟩ => ?_
      subst e_33
      refine W.ok (ok_indexAddr (i := k - 1) sl31 ty93 (h_l.mono hG27) rfl rfl ⟨by omega, by omega⟩) ?_
      refine W.yes (dj := 25) rfl rfl h24 ?_
      refine W.ok (ok_fieldE fd93_0 rfl he32.form) ?_
      refine W.yes (dj := 25) rfl rfl h24 ?_
      refine W.ok (ok_loadE (vs := [.string _]) ty9 he32 rfl rfl rfl (by simp)) ?_
      refine W.yes (dj := 25) rfl rfl h24 ?_
      refine W.ok (ok_fieldB fd93_0 rfl) ?_
      refine W.yes (dj := 25) rfl rfl h24 ?_
      refine W.ok (ok_loadB (i := 0) (vs := [.string _]) ty9 rfl rfl rfl rfl (by simp)) ?_
      refine W.yes (dj := 25) rfl rfl h24 ?_
      refine W.ok (ok_geqS rfl rfl) ?_
      refine W.yes (dj := 22) rfl rfl h20 ?_
      refine W.ok (ok_pick_t rfl h24) ?_
      refine W.ok (ok_pick_f rfl h20) ?_
      refine W.nil (thn_n ?_)
      refine WC.cond (b := _) rfl (fun h34 => ?_) (fun h34 => ?_)
      ·refine WC.seq ?_
       refine WC.region ?_
       refine W.as ?_
       refine W.nil (thn_n ?_)
       refine WC.ret (blk_r (thn_r (thn_r (blk_r (thn_r ?_)))))
       refine ⟨.inr rfl, [_], ⟨rfl, trivial⟩, [], List.nil_sublist _, ?_⟩
       refine congrArg Value.bool ?_
       exact (decide_eq_false fun h => by have := h k (by omega); have h1 := this.2 (by omega); simp [Str.lt] at h1; simp [h1] at h34).symm
      ·refine WC.skip (blk_n (thn_n ?_))
       refine WC.region ?_
       refine W.ok (ok_add rfl rfl (by omega)) ?_
       refine W.mv ?_
       refine W.sub ((List.Sublist.refl _).cons _) ?_
       refine W.nil (thn_n ?_)
       exact ⟨Le.rfl, k + 1, ⟨(by first | rfl | exact iv (by dsimp only; omega) | exact iv (by omega)), (by first | rfl | exact iv (by dsimp only; omega) | exact iv (by omega)), (by first | rfl | exact iv (by dsimp only; omega) | exact iv (by omega)), (by first | rfl | exact iv (by dsimp only; omega) | exact iv (by omega)), trivial⟩, ⟨rfl, fun i h hi => by
      by_cases e : i = k
      · subst e; exact ⟨⟨by simpa using h15, by simpa using h20⟩, fun h0 => by simpa [Str.lt] using h34⟩
      · exact hk i h (by omega)⟩, by omega⟩
     ·have p24 := of_decide_eq_false h24
      refine W.no (dj := 25) rfl rfl h24 ?_
      refine W.no (dj := 25) rfl rfl h24 ?_
      refine W.no (dj := 25) rfl rfl h24 ?_
      refine W.no (dj := 25) rfl rfl h24 ?_
      refine W.no (dj := 25) rfl rfl h24 ?_
      refine W.no (dj := 25) rfl rfl h24 ?_
      refine W.no (dj := 25) rfl rfl h24 ?_
      refine W.no (dj := 25) rfl rfl h24 ?_
      refine W.no (dj := 25) rfl rfl h24 ?_
      refine W.yes (dj := 22) rfl rfl h20 ?_
      refine W.ok (ok_pick_f rfl h24) ?_
      refine W.ok (ok_pick_f rfl h20) ?_
      refine W.nil (thn_n ?_)
      refine WC.cond_f rfl rfl ?_
      refine WC.skip (blk_n (thn_n ?_))
      refine WC.region ?_
      refine W.ok (ok_add rfl rfl (by omega)) ?_
      refine W.mv ?_
      refine W.sub ((List.Sublist.refl _).cons _) ?_
      refine W.nil (thn_n ?_)
      exact ⟨Le.rfl, k + 1, ⟨(by first | rfl | exact iv (by dsimp only; omega) | exact iv (by omega)), (by first | rfl | exact iv (by dsimp only; omega) | exact iv (by omega)), (by first | rfl | exact iv (by dsimp only; omega) | exact iv (by omega)), (by first | rfl | exact iv (by dsimp only; omega) | exact iv (by omega)), trivial⟩, ⟨rfl, fun i h hi => by
      by_cases e : i = k
      · subst e; exact ⟨⟨by simpa using h15, by simpa using h20⟩, fun h0 => by omega⟩
      · exact hk i h (by omega)⟩, by omega⟩
  ·have p8 := of_decide_eq_false h8
   refine WC.exit (thn_x (thn_x (blk_h (thn_n ?_))))
   refine WC.seq ?_
   refine WC.region ?_
   refine W.as ?_
   refine W.nil (thn_n ?_)
   refine WC.ret ?_
   refine ⟨.inr rfl, [_], ⟨rfl, trivial⟩, [], List.nil_sublist _, ?_⟩
   refine congrArg Value.bool ?_
   exact (decide_eq_true fun i h => hk i h (by omega)).symm

end Go.Proofs.Ytjbbookmgohamaa
