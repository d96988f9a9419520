/- Walks of functions that look through rows. -/
import Derived.Test.YtipdjeemjiimbaaW5
namespace Go.Proofs.Ytipdjeemjiimbaa
open Go Go.Fw Go.RowKit
set_option maxRecDepth 100000
set_option maxHeartbeats 1600000
set_option linter.unusedVariables false
set_option linter.unusedSimpArgs false
set_option linter.unnecessarySimpa false
theorem mscan_fc {G : GH} {v_l : Value} {l : List Pair} (h_l : SlR ePair G v_l l) (slo : Str) (shi : Str) (so : Bool) (n : Int) (hn : l.length ≤ 1000000) :
    Fc Try.prog 54 [v_l, .agg #[.string slo.b, .string shi.b, .bool so], .int .i64 n] G [] (fun v G' M' => M' = [] ∧ ∃ u0, v = u0 ∧ SlR ePair G' u0 (scanN l ⟨slo, shi, so⟩ n)) := by
  obtain ⟨sa_l, sc_l, rfl⟩ := h_l.form
  have hl := h_l.len47
  refine Fc.intro (rs := [.tmp 6]) cl54 Try.func54 rfl Try.ntmps54 rfl rfl (fun w0 => ?_)
  refine WC.seq ?_
  refine WC.region ?_
  refine W.box (L := [.string _, .string _, .bool _]) rfl rfl (fun b1 => ?_)
  refine W.as ?_
  refine W.nil (thn_n ?_)
  refine WC.seq ?_
  refine WC.region ?_
  refine W.as ?_
  refine W.nil (thn_n ?_)
  refine WC.seq ?_
  refine WC.seq ?_
  refine WC.region ?_
  refine W.mv ?_
  refine W.ok (ok_len sl22 h_l rfl) ?_
  refine W.mv ?_
  refine W.nil (thn_n ?_)
  refine WC.block ?_
  refine WC.loop (X := (Nat) × Value × MH) (fun i => [(12, .int .i64 ((i.1 : Nat) : Int)), (4, .pointer (some ⟨b1, 0, none⟩)), (2, .int .i64 n), (10, .slice sa_l l.length sc_l), (11, .int .i64 (((l).length : Nat) : Int)), (7, i.2.1)]) (fun i G Ml => Ml = ((b1, .cells (List.toArray [.string slo.b, .string shi.b, .bool so]) 68 (0, 0)) :: (i.2.2 ++ [])) ∧ OwnR ePair 112 G i.2.1 (scanN (l.take i.1) ⟨slo, shi, so⟩ n) i.2.2 ∧ i.1 ≤ l.length) (fun i => l.length - i.1) (0, .slice none 0 0, ([] : MH)) ⟨(by first | rfl | exact iv (by dsimp only; omega) | exact iv (by omega)), (by first | rfl | exact iv (by dsimp only; omega) | exact iv (by omega)), (by first | rfl | exact iv (by dsimp only; omega) | exact iv (by omega)), (by first | rfl | exact iv (by dsimp only; omega) | exact iv (by omega)), (by first | rfl | exact iv (by dsimp only; omega) | exact iv (by omega)), (by first | rfl | exact iv (by dsimp only; omega) | exact iv (by omega)), trivial⟩ ?_ ?_
  · exact ⟨rfl, (by simpa [scanN] using OwnR.nil), by omega⟩
  · rintro ⟨i, v_7, M_7⟩ gG2 G2 _ hG2 ⟨rfl, ho_7, hi⟩
    try dsimp only at ho_7 hi
    have hsl := scan_len (l := l.take i) (s := ⟨slo, shi, so⟩) (n := n)
    have htl : (l.take i).length ≤ i := by simp; omega
    refine WC.seq ?_
    refine WC.region ?_
    refine W.ok (ok_lss rfl rfl) ?_
    refine W.nil (thn_n ?_)
    refine WC.seq ?_
    refine WC.cond (b := _) rfl (fun h13 => ?_) (fun h13 => ?_)
    · have p13 := of_decide_eq_true h13
      refine WC.skip (thn_n ?_)
      refine WC.seq ?_
      refine WC.block ?_
      refine WC.seq ?_
      refine WC.region ?_
      have q5 := (h_l.mono hG2).at (i := i) (by omega)
      refine match q5 with | ⟨_, he3, e_4⟩ => ?_
      subst e_4
      refine W.ok (ok_indexAddr (i := i) sl22 ty112 (h_l.mono hG2) rfl rfl ⟨by omega, by omega⟩) ?_
      refine W.ok (ok_loadE (vs := [.string _, .string _]) ty112 he3 rfl rfl rfl (by simp)) ?_
      refine W.alloc zr112 (fun b6 => ?_)
      refine W.store (i := 0) (vs := [.string _, .string _]) (L' := [.string _, .string _]) ty112 rfl rfl rfl rfl rfl rfl rfl rfl ?_
      refine W.nil (thn_n ?_)
      refine WC.seq ?_
      refine WC.seq ?_
      refine WC.region ?_
      refine W.mv ?_
      refine W.ok (ok_lenO sl22 ho_7 rfl) ?_
      refine W.mv ?_
      refine W.ok (ok_geq rfl rfl) ?_
      refine W.nil (thn_n ?_)
      refine WC.cond (b := _) rfl (fun h19 => ?_) (fun h19 => ?_)
      · have p19 := of_decide_eq_true h19
        refine WC.exit (thn_x (blk_m (thn_x (thn_x (blk_h (thn_n ?_))))))
        refine WC.seq ?_
        refine WC.region ?_
        refine W.mv ?_
        refine W.as ?_
        refine W.nil (thn_n ?_)
        refine WC.giveO ho_7 (pmC (pmC (List.Perm.refl _))) (fun G7 hG7 hv7 => ?_)
        refine WC.ret ?_
        refine ⟨.inr rfl, [_], ⟨rfl, trivial⟩, [], List.nil_sublist _, ?_⟩
        refine ⟨rfl, _, rfl, ?_⟩
        · have h := hv7; rw [← scan_full (by omega)] at h; exact h
      · have p19 := of_decide_eq_false h19
        refine WC.skip (thn_n ?_)
        refine WC.seq ?_
        refine WC.region ?_
        refine W.ok (ok_loadB (i := 1) (vs := [.string _, .string _, .bool _]) ty68 rfl rfl rfl rfl (by simp)) ?_
        refine W.ok (ok_fieldB fd112_0 rfl) ?_
        refine W.ok (ok_loadB (i := 0) (vs := [.string _]) ty9 rfl rfl rfl rfl (by simp)) ?_
        refine W.qcall (spanhas_fc _ _ _ _) rfl ?_
        refine W.nil (thn_n ?_)
        refine WC.cond (b := _) rfl (fun h23 => ?_) (fun h23 => ?_)
        · refine WC.region ?_
          refine W.mv ?_
          refine W.ok (ok_loadB (i := 0) (vs := [.string _, .string _]) ty112 rfl rfl rfl rfl (by simp)) ?_
          refine W.lit (e := ePair) (l := [⟨((l)[i]).key, ((l)[i]).val⟩]) (css := [[.string _, .string _]]) sl22 ty112 zr112 rfl rfl rfl rfl rfl rfl ⟨rfl, trivial⟩ (fun bl8 G8 hG8 hv8 => ?_)
          refine W.app (e := ePair) sl22 ty112 zr112 rfl by112 rfl rfl ((ho_7.mono hG8)) (hv8) (pmC (pmC (List.Perm.refl _))) (by show (_ + 1) * 32 ≤ _; simp only [List.length_append] at *; omega) (fun v9 Ms10 ho11 => ?_)
          refine W.perm (pmC (pmC (List.Perm.refl _))).symm ?_
          refine W.as ?_
          refine W.nil (blk_n (thn_n ?_))
          refine WC.region ?_
          refine W.ok (ok_add rfl rfl (by omega)) ?_
          refine W.mv ?_
          refine W.sub ((List.Sublist.refl _).cons _) ?_
          refine W.nil (thn_n ?_)
          exact ⟨hG8, (i + 1, v9, Ms10), ⟨(by first | rfl | exact iv (by dsimp only; omega) | exact iv (by omega)), (by first | rfl | exact iv (by dsimp only; omega) | exact iv (by omega)), (by first | rfl | exact iv (by dsimp only; omega) | exact iv (by omega)), (by first | rfl | exact iv (by dsimp only; omega) | exact iv (by omega)), (by first | rfl | exact iv (by dsimp only; omega) | exact iv (by omega)), (by first | rfl | exact iv (by dsimp only; omega) | exact iv (by omega)), trivial⟩, ⟨rfl, (by have h := ho11; rw [scan_succ_t (by omega) (by omega) (by simpa using h23)]; exact h), by omega⟩, by omega⟩
        · refine WC.skip (blk_n (thn_n ?_))
          refine WC.region ?_
          refine W.ok (ok_add rfl rfl (by omega)) ?_
          refine W.mv ?_
          refine W.sub ((List.Sublist.refl _).cons _) ?_
          refine W.nil (thn_n ?_)
          exact ⟨Le.rfl, (i + 1, v_7, M_7), ⟨(by first | rfl | exact iv (by dsimp only; omega) | exact iv (by omega)), (by first | rfl | exact iv (by dsimp only; omega) | exact iv (by omega)), (by first | rfl | exact iv (by dsimp only; omega) | exact iv (by omega)), (by first | rfl | exact iv (by dsimp only; omega) | exact iv (by omega)), (by first | rfl | exact iv (by dsimp only; omega) | exact iv (by omega)), (by first | rfl | exact iv (by dsimp only; omega) | exact iv (by omega)), trivial⟩, ⟨rfl, (by have h := ho_7; rw [scan_succ_f (by omega) (by simpa using h23)]; exact h), by omega⟩, by omega⟩
    · have p13 := of_decide_eq_false h13
      refine WC.exit (thn_x (thn_x (blk_h (thn_n ?_))))
      refine WC.seq ?_
      refine WC.region ?_
      refine W.mv ?_
      refine W.as ?_
      refine W.nil (thn_n ?_)
      refine WC.giveO ho_7 (pmC (List.Perm.refl _)) (fun G12 hG12 hv12 => ?_)
      refine WC.ret ?_
      refine ⟨.inr rfl, [_], ⟨rfl, trivial⟩, [], List.nil_sublist _, ?_⟩
      refine ⟨rfl, _, rfl, ?_⟩
      · have h := hv12; rw [List.take_of_length_le (by omega)] at h; exact h

theorem rscan_fc {G : GH} {v_l : Value} {l : List Pair} (h_l : SlR ePair G v_l l) (slo : Str) (shi : Str) (so : Bool) (n : Int) (hn : l.length ≤ 1000000) :
    Fc Try.prog 55 [v_l, .agg #[.string slo.b, .string shi.b, .bool so], .int .i64 n] G [] (fun v G' M' => M' = [] ∧ ∃ u0, v = u0 ∧ SlR ePair G' u0 (scanN l ⟨slo, shi, so⟩ n)) := by
  obtain ⟨sa_l, sc_l, rfl⟩ := h_l.form
  have hl := h_l.len47
  refine Fc.intro (rs := [.tmp 6]) cl55 Try.func55 rfl Try.ntmps55 rfl rfl (fun w0 => ?_)
  refine WC.seq ?_
  refine WC.region ?_
  refine W.box (L := [.string _, .string _, .bool _]) rfl rfl (fun b13 => ?_)
  refine W.as ?_
  refine W.nil (thn_n ?_)
  refine WC.seq ?_
  refine WC.region ?_
  refine W.as ?_
  refine W.nil (thn_n ?_)
  refine WC.seq ?_
  refine WC.seq ?_
  refine WC.region ?_
  refine W.as ?_
  refine W.nil (thn_n ?_)
  refine WC.block ?_
  refine WC.loop (X := (Nat) × Value × MH) (fun i => [(8, .int .i64 ((i.1 : Nat) : Int)), (4, .pointer (some ⟨b13, 0, none⟩)), (0, .slice sa_l l.length sc_l), (2, .int .i64 n), (7, i.2.1)]) (fun i G Ml => Ml = ((b13, .cells (List.toArray [.string slo.b, .string shi.b, .bool so]) 68 (0, 0)) :: (i.2.2 ++ [])) ∧ OwnR ePair 112 G i.2.1 (scanN (l.take i.1) ⟨slo, shi, so⟩ n) i.2.2 ∧ i.1 ≤ l.length) (fun i => l.length - i.1) (0, .slice none 0 0, ([] : MH)) ⟨(by first | rfl | exact iv (by dsimp only; omega) | exact iv (by omega)), (by first | rfl | exact iv (by dsimp only; omega) | exact iv (by omega)), (by first | rfl | exact iv (by dsimp only; omega) | exact iv (by omega)), (by first | rfl | exact iv (by dsimp only; omega) | exact iv (by omega)), (by first | rfl | exact iv (by dsimp only; omega) | exact iv (by omega)), trivial⟩ ?_ ?_
  · exact ⟨rfl, (by simpa [scanN] using OwnR.nil), by omega⟩
  · rintro ⟨i, v_7, M_7⟩ gG14 G14 _ hG14 ⟨rfl, ho_7, hi⟩
    try dsimp only at ho_7 hi
    have hsl := scan_len (l := l.take i) (s := ⟨slo, shi, so⟩) (n := n)
    have htl : (l.take i).length ≤ i := by simp; omega
    refine WC.seq ?_
    refine WC.seq ?_
    refine WC.region ?_
    refine W.mv ?_
    refine W.mv ?_
    refine W.ok (ok_len sl22 (h_l.mono hG14) rfl) ?_
    refine W.ok (ok_lss rfl rfl) ?_
    refine W.nil (thn_n ?_)
    refine WC.cond (b := _) rfl (fun h12 => ?_) (fun h12 => ?_)
    · have p12 := of_decide_eq_true h12
      refine WC.skip (thn_n ?_)
      refine WC.seq ?_
      refine WC.block ?_
      refine WC.seq ?_
      refine WC.draw mix (by kernel_rfl) ?_
      refine W.ok (ok_loadB (i := 0) (vs := [.string _, .string _, .bool _]) ty68 rfl rfl rfl rfl (by simp)) ?_
      refine W.mv ?_
      refine W.mv ?_
      have q17 := (h_l.mono hG14).at (i := i) (by omega)
      refine match q17 with | ⟨_, he15, e_16⟩ => ?_
      subst e_16
      refine W.ok (ok_indexAddr (i := i) sl22 ty112 (h_l.mono hG14) rfl rfl ⟨by omega, by omega⟩) ?_
      refine W.ok (ok_fieldE fd112_0 rfl he15.form) ?_
      refine W.ok (ok_loadE (vs := [.string _]) ty9 he15 rfl rfl rfl (by simp)) ?_
      refine W.qcall (has_fc _ _ _ _) rfl ?_
      refine W.mv ?_
      refine W.sp 22 rfl (fun h21 => ?_) (fun h21 => ?_)
      · refine W.yes (dj := 22) rfl rfl h21 ?_
        refine W.mv ?_
        refine W.yes (dj := 22) rfl rfl h21 ?_
        refine W.ok (ok_lenO sl22 ho_7 rfl) ?_
        refine W.yes (dj := 22) rfl rfl h21 ?_
        refine W.mv ?_
        refine W.yes (dj := 22) rfl rfl h21 ?_
        refine W.ok (ok_lss rfl rfl) ?_
        refine W.ok (ok_pick_t rfl h21) ?_
        refine W.nil (thn_n ?_)
        refine WC.cond (b := _) rfl (fun h26 => ?_) (fun h26 => ?_)
        · have p26 := of_decide_eq_true h26
          refine WC.region ?_
          refine W.mv ?_
          refine W.mv ?_
          refine W.mv ?_
          have q20 := (h_l.mono hG14).at (i := i) (by omega)
          refine match q20 with | ⟨_, he18, e_19⟩ => ?_
          subst e_19
          refine W.ok (ok_indexAddr (i := i) sl22 ty112 (h_l.mono hG14) rfl rfl ⟨by omega, by omega⟩) ?_
          refine W.ok (ok_loadE (vs := [.string _, .string _]) ty112 he18 rfl rfl rfl (by simp)) ?_
          refine W.lit (e := ePair) (l := [((l)[i])]) (css := [[.string _, .string _]]) sl22 ty112 zr112 rfl rfl rfl rfl rfl rfl ⟨rfl, trivial⟩ (fun bl21 G21 hG21 hv21 => ?_)
          refine W.app (e := ePair) sl22 ty112 zr112 rfl by112 rfl rfl ((ho_7.mono hG21)) (hv21) (pmC (List.Perm.refl _)) (by show (_ + 1) * 32 ≤ _; simp only [List.length_append] at *; omega) (fun v22 Ms23 ho24 => ?_)
          refine W.perm (pmC (List.Perm.refl _)).symm ?_
          refine W.as ?_
          refine W.nil (blk_n (thn_n ?_))
          refine WC.region ?_
          refine W.mv ?_
          refine W.ok (ok_add rfl rfl (by omega)) ?_
          refine W.as ?_
          refine W.nil (thn_n ?_)
          exact ⟨hG21, (i + 1, v22, Ms23), ⟨(by first | rfl | exact iv (by dsimp only; omega) | exact iv (by omega)), (by first | rfl | exact iv (by dsimp only; omega) | exact iv (by omega)), (by first | rfl | exact iv (by dsimp only; omega) | exact iv (by omega)), (by first | rfl | exact iv (by dsimp only; omega) | exact iv (by omega)), (by first | rfl | exact iv (by dsimp only; omega) | exact iv (by omega)), trivial⟩, ⟨rfl, (by have h := ho24; rw [scan_succ_t (by omega) (by omega) (by simpa using h21)]; exact h), by omega⟩, by omega⟩
        · have p26 := of_decide_eq_false h26
          refine WC.skip (blk_n (thn_n ?_))
          refine WC.region ?_
          refine W.mv ?_
          refine W.ok (ok_add rfl rfl (by omega)) ?_
          refine W.as ?_
          refine W.nil (thn_n ?_)
          exact ⟨Le.rfl, (i + 1, v_7, M_7), ⟨(by first | rfl | exact iv (by dsimp only; omega) | exact iv (by omega)), (by first | rfl | exact iv (by dsimp only; omega) | exact iv (by omega)), (by first | rfl | exact iv (by dsimp only; omega) | exact iv (by omega)), (by first | rfl | exact iv (by dsimp only; omega) | exact iv (by omega)), (by first | rfl | exact iv (by dsimp only; omega) | exact iv (by omega)), trivial⟩, ⟨rfl, (by have h := ho_7; rw [scan_full' (by omega) (by omega)]; exact h), by omega⟩, by omega⟩
      · refine W.no (dj := 22) rfl rfl h21 ?_
        refine W.no (dj := 22) rfl rfl h21 ?_
        refine W.no (dj := 22) rfl rfl h21 ?_
        refine W.no (dj := 22) rfl rfl h21 ?_
        refine W.ok (ok_pick_f rfl h21) ?_
        refine W.nil (thn_n ?_)
        refine WC.cond_f rfl rfl ?_
        refine WC.skip (blk_n (thn_n ?_))
        refine WC.region ?_
        refine W.mv ?_
        refine W.ok (ok_add rfl rfl (by omega)) ?_
        refine W.as ?_
        refine W.nil (thn_n ?_)
        exact ⟨Le.rfl, (i + 1, v_7, M_7), ⟨(by first | rfl | exact iv (by dsimp only; omega) | exact iv (by omega)), (by first | rfl | exact iv (by dsimp only; omega) | exact iv (by omega)), (by first | rfl | exact iv (by dsimp only; omega) | exact iv (by omega)), (by first | rfl | exact iv (by dsimp only; omega) | exact iv (by omega)), (by first | rfl | exact iv (by dsimp only; omega) | exact iv (by omega)), trivial⟩, ⟨rfl, (by have h := ho_7; rw [scan_succ_f (by omega) (by simpa using h21)]; exact h), by omega⟩, by omega⟩
    · have p12 := of_decide_eq_false h12
      refine WC.exit (thn_x (thn_x (blk_h (thn_n ?_))))
      refine WC.seq ?_
      refine WC.region ?_
      refine W.mv ?_
      refine W.as ?_
      refine W.nil (thn_n ?_)
      refine WC.giveO ho_7 (pmC (List.Perm.refl _)) (fun G25 hG25 hv25 => ?_)
      refine WC.ret ?_
      refine ⟨.inr rfl, [_], ⟨rfl, trivial⟩, [], List.nil_sublist _, ?_⟩
      refine ⟨rfl, _, rfl, ?_⟩
      · have h := hv25; rw [List.take_of_length_le (by omega)] at h; exact h

theorem within_fc {G : GH} {v_l : Value} {l : List Pair} (h_l : SlR ePair G v_l l) (slo : Str) (shi : Str) (so : Bool) (hn : l.length ≤ 1000000) :
    Fc Try.prog 73 [v_l, .agg #[.string slo.b, .string shi.b, .bool so]] G [] (fun v G' M' => M' = [] ∧ ∃ u0, v = u0 ∧ SlR ePair G' u0 (l.filter (fun p : Pair => Span.has ⟨slo, shi, so⟩ p.key))) := by
  obtain ⟨sa_l, sc_l, rfl⟩ := h_l.form
  have hl := h_l.len47
  refine Fc.intro (rs := [.tmp 4]) cl73 Try.func73 rfl Try.ntmps73 rfl rfl (fun w0 => ?_)
  refine WC.seq ?_
  refine WC.region ?_
  refine W.box (L := [.string _, .string _, .bool _]) rfl rfl (fun b26 => ?_)
  refine W.as ?_
  refine W.nil (thn_n ?_)
  refine WC.seq ?_
  refine WC.region ?_
  refine W.as ?_
  refine W.nil (thn_n ?_)
  refine WC.seq ?_
  refine WC.seq ?_
  refine WC.region ?_
  refine W.mv ?_
  refine W.ok (ok_len sl22 h_l rfl) ?_
  refine W.mv ?_
  refine W.nil (thn_n ?_)
  refine WC.block ?_
  refine WC.loop (X := (Nat) × Value × MH) (fun i => [(10, .int .i64 ((i.1 : Nat) : Int)), (3, .pointer (some ⟨b26, 0, none⟩)), (8, .slice sa_l l.length sc_l), (9, .int .i64 (((l).length : Nat) : Int)), (5, i.2.1)]) (fun i G Ml => Ml = ((b26, .cells (List.toArray [.string slo.b, .string shi.b, .bool so]) 68 (0, 0)) :: (i.2.2 ++ [])) ∧ OwnR ePair 112 G i.2.1 (List.filter (fun p : Pair => Span.has ⟨slo, shi, so⟩ p.key) (l.take i.1)) i.2.2 ∧ i.1 ≤ l.length) (fun i => l.length - i.1) (0, .slice none 0 0, ([] : MH)) ⟨(by first | rfl | exact iv (by dsimp only; omega) | exact iv (by omega)), (by first | rfl | exact iv (by dsimp only; omega) | exact iv (by omega)), (by first | rfl | exact iv (by dsimp only; omega) | exact iv (by omega)), (by first | rfl | exact iv (by dsimp only; omega) | exact iv (by omega)), (by first | rfl | exact iv (by dsimp only; omega) | exact iv (by omega)), trivial⟩ ?_ ?_
  · exact ⟨rfl, (by simpa using OwnR.nil), by omega⟩
  · rintro ⟨i, v_5, M_5⟩ gG27 G27 _ hG27 ⟨rfl, ho_5, hi⟩
    try dsimp only at ho_5 hi
    have hfl := filt_le (fun p : Pair => Span.has ⟨slo, shi, so⟩ p.key) l i
    refine WC.seq ?_
    refine WC.region ?_
    refine W.ok (ok_lss rfl rfl) ?_
    refine W.nil (thn_n ?_)
    refine WC.seq ?_
    refine WC.cond (b := _) rfl (fun h11 => ?_) (fun h11 => ?_)
    · have p11 := of_decide_eq_true h11
      refine WC.skip (thn_n ?_)
      refine WC.seq ?_
      refine WC.block ?_
      refine WC.seq ?_
      refine WC.region ?_
      have q30 := (h_l.mono hG27).at (i := i) (by omega)
      refine match q30 with | ⟨_, he28, e_29⟩ => ?_
      subst e_29
      refine W.ok (ok_indexAddr (i := i) sl22 ty112 (h_l.mono hG27) rfl rfl ⟨by omega, by omega⟩) ?_
      refine W.ok (ok_loadE (vs := [.string _, .string _]) ty112 he28 rfl rfl rfl (by simp)) ?_
      refine W.alloc zr112 (fun b31 => ?_)
      refine W.store (i := 0) (vs := [.string _, .string _]) (L' := [.string _, .string _]) ty112 rfl rfl rfl rfl rfl rfl rfl rfl ?_
      refine W.nil (thn_n ?_)
      refine WC.seq ?_
      refine WC.region ?_
      refine W.ok (ok_loadB (i := 1) (vs := [.string _, .string _, .bool _]) ty68 rfl rfl rfl rfl (by simp)) ?_
      refine W.ok (ok_fieldB fd112_0 rfl) ?_
      refine W.ok (ok_loadB (i := 0) (vs := [.string _]) ty9 rfl rfl rfl rfl (by simp)) ?_
      refine W.qcall (spanhas_fc _ _ _ _) rfl ?_
      refine W.nil (thn_n ?_)
      refine WC.cond (b := _) rfl (fun h17 => ?_) (fun h17 => ?_)
      · refine WC.region ?_
        refine W.mv ?_
        refine W.ok (ok_loadB (i := 0) (vs := [.string _, .string _]) ty112 rfl rfl rfl rfl (by simp)) ?_
        refine W.lit (e := ePair) (l := [⟨((l)[i]).key, ((l)[i]).val⟩]) (css := [[.string _, .string _]]) sl22 ty112 zr112 rfl rfl rfl rfl rfl rfl ⟨rfl, trivial⟩ (fun bl32 G32 hG32 hv32 => ?_)
        refine W.app (e := ePair) sl22 ty112 zr112 rfl by112 rfl rfl ((ho_5.mono hG32)) (hv32) (pmC (pmC (List.Perm.refl _))) (by show (_ + 1) * 32 ≤ _; simp only [List.length_append] at *; omega) (fun v33 Ms34 ho35 => ?_)
        refine W.perm (pmC (pmC (List.Perm.refl _))).symm ?_
        refine W.as ?_
        refine W.nil (blk_n (thn_n ?_))
        refine WC.region ?_
        refine W.ok (ok_add rfl rfl (by omega)) ?_
        refine W.mv ?_
        refine W.sub ((List.Sublist.refl _).cons _) ?_
        refine W.nil (thn_n ?_)
        exact ⟨hG32, (i + 1, v33, Ms34), ⟨(by first | rfl | exact iv (by dsimp only; omega) | exact iv (by omega)), (by first | rfl | exact iv (by dsimp only; omega) | exact iv (by omega)), (by first | rfl | exact iv (by dsimp only; omega) | exact iv (by omega)), (by first | rfl | exact iv (by dsimp only; omega) | exact iv (by omega)), (by first | rfl | exact iv (by dsimp only; omega) | exact iv (by omega)), trivial⟩, ⟨rfl, (by have h := ho35; rw [filt_t (p := (fun p : Pair => Span.has ⟨slo, shi, so⟩ p.key)) (by omega) (by simpa using h17)]; exact h), by omega⟩, by omega⟩
      · refine WC.skip (blk_n (thn_n ?_))
        refine WC.region ?_
        refine W.ok (ok_add rfl rfl (by omega)) ?_
        refine W.mv ?_
        refine W.sub ((List.Sublist.refl _).cons _) ?_
        refine W.nil (thn_n ?_)
        exact ⟨Le.rfl, (i + 1, v_5, M_5), ⟨(by first | rfl | exact iv (by dsimp only; omega) | exact iv (by omega)), (by first | rfl | exact iv (by dsimp only; omega) | exact iv (by omega)), (by first | rfl | exact iv (by dsimp only; omega) | exact iv (by omega)), (by first | rfl | exact iv (by dsimp only; omega) | exact iv (by omega)), (by first | rfl | exact iv (by dsimp only; omega) | exact iv (by omega)), trivial⟩, ⟨rfl, (by have h := ho_5; rw [filt_f (p := (fun p : Pair => Span.has ⟨slo, shi, so⟩ p.key)) (by omega) (by simpa using h17)]; exact h), by omega⟩, by omega⟩
    · have p11 := of_decide_eq_false h11
      refine WC.exit (thn_x (thn_x (blk_h (thn_n ?_))))
      refine WC.seq ?_
      refine WC.region ?_
      refine W.mv ?_
      refine W.as ?_
      refine W.nil (thn_n ?_)
      refine WC.giveO ho_5 (pmC (List.Perm.refl _)) (fun G36 hG36 hv36 => ?_)
      refine WC.ret ?_
      refine ⟨.inr rfl, [_], ⟨rfl, trivial⟩, [], List.nil_sublist _, ?_⟩
      refine ⟨rfl, _, rfl, ?_⟩
      · have h := hv36; rw [List.take_of_length_le (by omega)] at h; exact h

theorem short_fc {G : GH} (slo : Str) (shi : Str) (so : Bool) (tlo : Str) (thi : Str) (to : Bool) (k : Str) (n : Int) :
    Fc Try.prog 51 [.agg #[.string slo.b, .string shi.b, .bool so], .agg #[.string tlo.b, .string thi.b, .bool to], .string k.b, .int .i64 n] G [] (fun v _ _ => v = .bool (decide ((slo.b.size : Int) + shi.b.size ≤ n ∧ (tlo.b.size : Int) + thi.b.size ≤ n ∧ (k.b.size : Int) ≤ n))) := by
  have h1 := slo.le
  have h2 := shi.le
  have h3 := tlo.le
  have h4 := thi.le
  have h5 := k.le
  refine Fc.intro (rs := [.tmp 8]) cl51 Try.func51 rfl Try.ntmps51 rfl rfl (fun w0 => ?_)
  refine WC.seq ?_
  refine WC.region ?_
  refine W.box (L := [.string _, .string _, .bool _]) rfl rfl (fun b37 => ?_)
  refine W.box (L := [.string _, .string _, .bool _]) rfl rfl (fun b38 => ?_)
  refine W.as ?_
  refine W.nil (thn_n ?_)
  refine WC.seq ?_
  refine WC.region ?_
  refine W.ok (ok_fieldB fd68_0 rfl) ?_
  refine W.ok (ok_loadB (i := 1) (vs := [.string _]) ty9 rfl rfl rfl rfl (by simp)) ?_
  refine W.ok (ok_lenS st9 rfl) ?_
  refine W.ok (ok_fieldB fd68_1 rfl) ?_
  refine W.ok (ok_loadB (i := 1) (vs := [.string _]) ty9 rfl rfl rfl rfl (by simp)) ?_
  refine W.ok (ok_lenS st9 rfl) ?_
  refine W.ok (ok_add rfl rfl (by omega)) ?_
  refine W.mv ?_
  refine W.ok (ok_leq rfl rfl) ?_
  refine W.mv ?_
  refine W.sp 18 rfl (fun h17 => ?_) (fun h17 => ?_)
  · have p17 := of_decide_eq_true h17
    refine W.yes (dj := 18) rfl rfl h17 ?_
    refine W.ok (ok_fieldB fd68_0 rfl) ?_
    refine W.yes (dj := 18) rfl rfl h17 ?_
    refine W.ok (ok_loadB (i := 0) (vs := [.string _]) ty9 rfl rfl rfl rfl (by simp)) ?_
    refine W.yes (dj := 18) rfl rfl h17 ?_
    refine W.ok (ok_lenS st9 rfl) ?_
    refine W.yes (dj := 18) rfl rfl h17 ?_
    refine W.ok (ok_fieldB fd68_1 rfl) ?_
    refine W.yes (dj := 18) rfl rfl h17 ?_
    refine W.ok (ok_loadB (i := 0) (vs := [.string _]) ty9 rfl rfl rfl rfl (by simp)) ?_
    refine W.yes (dj := 18) rfl rfl h17 ?_
    refine W.ok (ok_lenS st9 rfl) ?_
    refine W.yes (dj := 18) rfl rfl h17 ?_
    refine W.ok (ok_add rfl rfl (by omega)) ?_
    refine W.yes (dj := 18) rfl rfl h17 ?_
    refine W.mv ?_
    refine W.yes (dj := 18) rfl rfl h17 ?_
    refine W.ok (ok_leq rfl rfl) ?_
    refine W.ok (ok_pick_t rfl h17) ?_
    refine W.mv ?_
    refine W.sp 29 rfl (fun h27 => ?_) (fun h27 => ?_)
    · have p27 := of_decide_eq_true h27
      refine W.yes (dj := 29) rfl rfl h27 ?_
      refine W.mv ?_
      refine W.yes (dj := 29) rfl rfl h27 ?_
      refine W.ok (ok_lenS st9 rfl) ?_
      refine W.yes (dj := 29) rfl rfl h27 ?_
      refine W.mv ?_
      refine W.yes (dj := 29) rfl rfl h27 ?_
      refine W.ok (ok_leq rfl rfl) ?_
      refine W.ok (ok_pick_t rfl h27) ?_
      refine W.as ?_
      refine W.nil (thn_n ?_)
      refine WC.ret ?_
      refine ⟨.inr rfl, [_], ⟨rfl, trivial⟩, [], List.nil_sublist _, ?_⟩
      refine congrArg Value.bool ?_
      first | (simp_all; done) | (simp_all; omega)
    · have p27 := of_decide_eq_false h27
      refine W.no (dj := 29) rfl rfl h27 ?_
      refine W.no (dj := 29) rfl rfl h27 ?_
      refine W.no (dj := 29) rfl rfl h27 ?_
      refine W.no (dj := 29) rfl rfl h27 ?_
      refine W.ok (ok_pick_f rfl h27) ?_
      refine W.as ?_
      refine W.nil (thn_n ?_)
      refine WC.ret ?_
      refine ⟨.inr rfl, [_], ⟨rfl, trivial⟩, [], List.nil_sublist _, ?_⟩
      refine congrArg Value.bool ?_
      first | (simp_all; done) | (simp_all; omega)
  · have p17 := of_decide_eq_false h17
    refine W.no (dj := 18) rfl rfl h17 ?_
    refine W.no (dj := 18) rfl rfl h17 ?_
    refine W.no (dj := 18) rfl rfl h17 ?_
    refine W.no (dj := 18) rfl rfl h17 ?_
    refine W.no (dj := 18) rfl rfl h17 ?_
    refine W.no (dj := 18) rfl rfl h17 ?_
    refine W.no (dj := 18) rfl rfl h17 ?_
    refine W.no (dj := 18) rfl rfl h17 ?_
    refine W.no (dj := 18) rfl rfl h17 ?_
    refine W.ok (ok_pick_f rfl h17) ?_
    refine W.mv ?_
    refine W.no (dj := 29) rfl rfl rfl ?_
    refine W.no (dj := 29) rfl rfl rfl ?_
    refine W.no (dj := 29) rfl rfl rfl ?_
    refine W.no (dj := 29) rfl rfl rfl ?_
    refine W.ok (ok_pick_f rfl rfl) ?_
    refine W.as ?_
    refine W.nil (thn_n ?_)
    refine WC.ret ?_
    refine ⟨.inr rfl, [_], ⟨rfl, trivial⟩, [], List.nil_sublist _, ?_⟩
    refine congrArg Value.bool ?_
    first | (simp_all; done) | (simp_all; omega)

theorem mright9_fc {G : GH} {v_l : Value} {l : List Pair} (h_l : SlR ePair G v_l l) :
    Fc Try.prog 62 [v_l] G [] (fun v _ _ => v = .bool (decide (PairsR l))) := by
  obtain ⟨sa_l, sc_l, rfl⟩ := h_l.form
  have hl := h_l.len47
  refine Fc.intro (rs := [.tmp 2]) cl62 Try.func62 rfl Try.ntmps62 rfl rfl (fun w0 => ?_)
  refine WC.seq ?_
  refine WC.region ?_
  refine W.as ?_
  refine W.nil (thn_n ?_)
  refine WC.seq ?_
  refine WC.seq ?_
  refine WC.region ?_
  refine W.mv ?_
  refine W.ok (ok_len sl22 h_l rfl) ?_
  refine W.mv ?_
  refine W.nil (thn_n ?_)
  refine WC.block ?_
  refine WC.loop (X := Nat) (fun k => [(7, .int .i64 ((k : Nat) : Int)), (0, .slice sa_l l.length sc_l), (5, .slice sa_l l.length sc_l), (6, .int .i64 (((l).length : Nat) : Int))]) (fun k _ Ml => Ml = [] ∧ ∀ i (h : i < l.length), i < k → (l[i].key.b.size ≤ 16 ∧ l[i].val.b.size ≤ 16) ∧ (0 < i → (l[i - 1]'(by omega)).key.lt l[i].key = true)) (fun k => l.length - k) 0 ⟨(by first | rfl | exact iv (by dsimp only; omega) | exact iv (by omega)), (by first | rfl | exact iv (by dsimp only; omega) | exact iv (by omega)), (by first | rfl | exact iv (by dsimp only; omega) | exact iv (by omega)), (by first | rfl | exact iv (by dsimp only; omega) | exact iv (by omega)), trivial⟩ ?_ ?_
  · exact ⟨rfl, fun i _ h => by omega⟩
  · rintro k gG39 G39 _ hG39 ⟨rfl, hk⟩
    refine WC.seq ?_
    refine WC.region ?_
    refine W.ok (ok_lss rfl rfl) ?_
    refine W.nil (thn_n ?_)
    refine WC.seq ?_
    refine WC.cond (b := _) rfl (fun h8 => ?_) (fun h8 => ?_)
    · have p8 := of_decide_eq_true h8
      refine WC.skip (thn_n ?_)
      refine WC.seq ?_
      refine WC.block ?_
      refine WC.seq ?_
      refine WC.region ?_
      refine W.mv ?_
      have q42 := (h_l.mono hG39).at (i := k) (by omega)
      refine match q42 with | ⟨_, he40, e_41⟩ => ?_
      subst e_41
      refine W.ok (ok_indexAddr (i := k) sl22 ty112 (h_l.mono hG39) rfl rfl ⟨by omega, by omega⟩) ?_
      refine W.ok (ok_loadE (vs := [.string _, .string _]) ty112 he40 rfl rfl rfl (by simp)) ?_
      refine W.alloc zr112 (fun b43 => ?_)
      refine W.as ?_
      refine W.store (i := 0) (vs := [.string _, .string _]) (L' := [.string _, .string _]) ty112 rfl rfl rfl rfl rfl rfl rfl rfl ?_
      refine W.nil (thn_n ?_)
      refine WC.seq ?_
      refine WC.draw mix (by kernel_rfl) ?_
      refine W.ok (ok_fieldB fd112_0 rfl) ?_
      refine W.ok (ok_loadB (i := 0) (vs := [.string _]) ty9 rfl rfl rfl rfl (by simp)) ?_
      refine W.qcall (kright_fc _) rfl ?_
      refine W.ok (ok_not rfl) ?_
      refine W.mv ?_
      refine W.sp 16 rfl (fun h15 => ?_) (fun h15 => ?_)
      · refine W.no (dj := 16) rfl rfl h15 ?_
        refine W.no (dj := 16) rfl rfl h15 ?_
        refine W.no (dj := 16) rfl rfl h15 ?_
        refine W.no (dj := 16) rfl rfl h15 ?_
        refine W.ok (ok_pick_t rfl h15) ?_
        refine W.mv ?_
        refine W.no (dj := 22) rfl rfl rfl ?_
        refine W.no (dj := 22) rfl rfl rfl ?_
        refine W.no (dj := 22) rfl rfl rfl ?_
        refine W.nou (dj := 25) rfl rfl ?_
        refine W.nou (dj := 25) rfl rfl ?_
        refine W.nou (dj := 25) rfl rfl ?_
        refine W.nou (dj := 25) rfl rfl ?_
        refine W.nou (dj := 25) rfl rfl ?_
        refine W.nou (dj := 25) rfl rfl ?_
        refine W.nou (dj := 25) rfl rfl ?_
        refine W.nou (dj := 25) rfl rfl ?_
        refine W.nou (dj := 25) rfl rfl ?_
        refine W.no (dj := 22) rfl rfl rfl ?_
        refine W.ok (ok_pick_t rfl rfl) ?_
        refine W.nil (thn_n ?_)
        refine WC.cond_t rfl rfl ?_
        refine WC.seq ?_
        refine WC.region ?_
        refine W.as ?_
        refine W.nil (thn_n ?_)
        refine WC.ret (blk_r (thn_r (thn_r (blk_r (thn_r ?_)))))
        refine ⟨.inr rfl, [_], ⟨rfl, trivial⟩, [], List.nil_sublist _, ?_⟩
        refine congrArg Value.bool ?_
        exact (decide_eq_false fun h => by have := h k (by omega); simp_all).symm
      · refine W.yes (dj := 16) rfl rfl h15 ?_
        refine W.ok (ok_fieldB fd112_1 rfl) ?_
        refine W.yes (dj := 16) rfl rfl h15 ?_
        refine W.ok (ok_loadB (i := 0) (vs := [.string _]) ty9 rfl rfl rfl rfl (by simp)) ?_
        refine W.yes (dj := 16) rfl rfl h15 ?_
        refine W.qcall (vright_fc _) rfl ?_
        refine W.yes (dj := 16) rfl rfl h15 ?_
        refine W.ok (ok_not rfl) ?_
        refine W.ok (ok_pick_f rfl h15) ?_
        refine W.mv ?_
        refine W.sp 22 rfl (fun h20 => ?_) (fun h20 => ?_)
        · refine W.no (dj := 22) rfl rfl h20 ?_
          refine W.no (dj := 22) rfl rfl h20 ?_
          refine W.no (dj := 22) rfl rfl h20 ?_
          refine W.nou (dj := 25) rfl rfl ?_
          refine W.nou (dj := 25) rfl rfl ?_
          refine W.nou (dj := 25) rfl rfl ?_
          refine W.nou (dj := 25) rfl rfl ?_
          refine W.nou (dj := 25) rfl rfl ?_
          refine W.nou (dj := 25) rfl rfl ?_
          refine W.nou (dj := 25) rfl rfl ?_
          refine W.nou (dj := 25) rfl rfl ?_
          refine W.nou (dj := 25) rfl rfl ?_
          refine W.no (dj := 22) rfl rfl h20 ?_
          refine W.ok (ok_pick_t rfl h20) ?_
          refine W.nil (thn_n ?_)
          refine WC.cond_t rfl rfl ?_
          refine WC.seq ?_
          refine WC.region ?_
          refine W.as ?_
          refine W.nil (thn_n ?_)
          refine WC.ret (blk_r (thn_r (thn_r (blk_r (thn_r ?_)))))
          refine ⟨.inr rfl, [_], ⟨rfl, trivial⟩, [], List.nil_sublist _, ?_⟩
          refine congrArg Value.bool ?_
          exact (decide_eq_false fun h => by have := h k (by omega); simp_all).symm
        · refine W.yes (dj := 22) rfl rfl h20 ?_
          refine W.mv ?_
          refine W.yes (dj := 22) rfl rfl h20 ?_
          refine W.ok (ok_gtr rfl rfl) ?_
          refine W.yes (dj := 22) rfl rfl h20 ?_
          refine W.mv ?_
          refine W.sp 25 rfl (fun h24 => ?_) (fun h24 => ?_)
          · have p24 := of_decide_eq_true h24
            refine W.yes (dj := 25) rfl rfl h24 ?_
            refine W.mv ?_
            refine W.yes (dj := 25) rfl rfl h24 ?_
            refine W.mv ?_
            refine W.yes (dj := 25) rfl rfl h24 ?_
            refine W.ok (ok_sub rfl rfl (by omega)) ?_
            refine W.yes (dj := 25) rfl rfl h24 ?_
            have q46 := (h_l.mono hG39).at (i := k - 1) (by omega)
            refine match q46 with | ⟨_, he44, e_45⟩ => ?_
            subst e_45
            refine W.ok (ok_indexAddr (i := k - 1) sl22 ty112 (h_l.mono hG39) rfl rfl ⟨by omega, by omega⟩) ?_
            refine W.yes (dj := 25) rfl rfl h24 ?_
            refine W.ok (ok_fieldE fd112_0 rfl he44.form) ?_
            refine W.yes (dj := 25) rfl rfl h24 ?_
            refine W.ok (ok_loadE (vs := [.string _]) ty9 he44 rfl rfl rfl (by simp)) ?_
            refine W.yes (dj := 25) rfl rfl h24 ?_
            refine W.ok (ok_fieldB fd112_0 rfl) ?_
            refine W.yes (dj := 25) rfl rfl h24 ?_
            refine W.ok (ok_loadB (i := 0) (vs := [.string _]) ty9 rfl rfl rfl rfl (by simp)) ?_
            refine W.yes (dj := 25) rfl rfl h24 ?_
            refine W.ok (ok_geqS rfl rfl) ?_
            refine W.yes (dj := 22) rfl rfl h20 ?_
            refine W.ok (ok_pick_t rfl h24) ?_
            refine W.ok (ok_pick_f rfl h20) ?_
            refine W.nil (thn_n ?_)
            refine WC.cond (b := _) rfl (fun h34 => ?_) (fun h34 => ?_)
            · refine WC.seq ?_
              refine WC.region ?_
              refine W.as ?_
              refine W.nil (thn_n ?_)
              refine WC.ret (blk_r (thn_r (thn_r (blk_r (thn_r ?_)))))
              refine ⟨.inr rfl, [_], ⟨rfl, trivial⟩, [], List.nil_sublist _, ?_⟩
              refine congrArg Value.bool ?_
              exact (decide_eq_false fun h => by have := h k (by omega); have h1 := this.2 (by omega); simp [Str.lt] at h1; simp [h1] at h34).symm
            · refine WC.skip (blk_n (thn_n ?_))
              refine WC.region ?_
              refine W.ok (ok_add rfl rfl (by omega)) ?_
              refine W.mv ?_
              refine W.sub ((List.Sublist.refl _).cons _) ?_
              refine W.nil (thn_n ?_)
              exact ⟨Le.rfl, k + 1, ⟨(by first | rfl | exact iv (by dsimp only; omega) | exact iv (by omega)), (by first | rfl | exact iv (by dsimp only; omega) | exact iv (by omega)), (by first | rfl | exact iv (by dsimp only; omega) | exact iv (by omega)), (by first | rfl | exact iv (by dsimp only; omega) | exact iv (by omega)), trivial⟩, ⟨rfl, fun i h hi => by
      by_cases e : i = k
      · subst e; exact ⟨⟨by simpa using h15, by simpa using h20⟩, fun h0 => by simpa [Str.lt] using h34⟩
      · exact hk i h (by omega)⟩, by omega⟩
          · have p24 := of_decide_eq_false h24
            refine W.no (dj := 25) rfl rfl h24 ?_
            refine W.no (dj := 25) rfl rfl h24 ?_
            refine W.no (dj := 25) rfl rfl h24 ?_
            refine W.no (dj := 25) rfl rfl h24 ?_
            refine W.no (dj := 25) rfl rfl h24 ?_
            refine W.no (dj := 25) rfl rfl h24 ?_
            refine W.no (dj := 25) rfl rfl h24 ?_
            refine W.no (dj := 25) rfl rfl h24 ?_
            refine W.no (dj := 25) rfl rfl h24 ?_
            refine W.yes (dj := 22) rfl rfl h20 ?_
            refine W.ok (ok_pick_f rfl h24) ?_
            refine W.ok (ok_pick_f rfl h20) ?_
            refine W.nil (thn_n ?_)
            refine WC.cond_f rfl rfl ?_
            refine WC.skip (blk_n (thn_n ?_))
            refine WC.region ?_
            refine W.ok (ok_add rfl rfl (by omega)) ?_
            refine W.mv ?_
            refine W.sub ((List.Sublist.refl _).cons _) ?_
            refine W.nil (thn_n ?_)
            exact ⟨Le.rfl, k + 1, ⟨(by first | rfl | exact iv (by dsimp only; omega) | exact iv (by omega)), (by first | rfl | exact iv (by dsimp only; omega) | exact iv (by omega)), (by first | rfl | exact iv (by dsimp only; omega) | exact iv (by omega)), (by first | rfl | exact iv (by dsimp only; omega) | exact iv (by omega)), trivial⟩, ⟨rfl, fun i h hi => by
      by_cases e : i = k
      · subst e; exact ⟨⟨by simpa using h15, by simpa using h20⟩, fun h0 => by omega⟩
      · exact hk i h (by omega)⟩, by omega⟩
    · have p8 := of_decide_eq_false h8
      refine WC.exit (thn_x (thn_x (blk_h (thn_n ?_))))
      refine WC.seq ?_
      refine WC.region ?_
      refine W.as ?_
      refine W.nil (thn_n ?_)
      refine WC.ret ?_
      refine ⟨.inr rfl, [_], ⟨rfl, trivial⟩, [], List.nil_sublist _, ?_⟩
      refine congrArg Value.bool ?_
      exact (decide_eq_true fun i h => hk i h (by omega)).symm

theorem eqp_fc {G : GH} {v_a : Value} {a : List Pair} (h_a : SlR ePair G v_a a) {v_b : Value} {b : List Pair} (h_b : SlR ePair G v_b b) :
    Fc Try.prog 149 [v_a, v_b] G [] (fun v _ _ => v = .bool (decide (a = b))) := by
  obtain ⟨sa_a, sc_a, rfl⟩ := h_a.form
  obtain ⟨sa_b, sc_b, rfl⟩ := h_b.form
  have ha := h_a.len47
  have hb := h_b.len47
  refine Fc.intro (rs := [.tmp 4]) cl149 Try.func149 rfl Try.ntmps149 rfl rfl (fun w0 => ?_)
  refine WC.seq ?_
  refine WC.region ?_
  refine W.as ?_
  refine W.nil (thn_n ?_)
  refine WC.seq ?_
  refine WC.seq ?_
  refine WC.region ?_
  refine W.mv ?_
  refine W.ok (ok_len sl22 h_a rfl) ?_
  refine W.mv ?_
  refine W.ok (ok_len sl22 h_b rfl) ?_
  refine W.ok (ok_neq rfl rfl) ?_
  refine W.nil (thn_n ?_)
  refine WC.cond (b := _) rfl (fun h10 => ?_) (fun h10 => ?_)
  · have p10 := nd_t h10
    refine WC.seq ?_
    refine WC.region ?_
    refine W.as ?_
    refine W.nil (thn_n ?_)
    refine WC.ret (thn_r ?_)
    refine ⟨.inr rfl, [_], ⟨rfl, trivial⟩, [], List.nil_sublist _, ?_⟩
    refine congrArg Value.bool ?_
    exact (decide_eq_false fun e => by subst e; omega).symm
  · have p10 := nd_f h10
    have hab : a.length = b.length := by omega
    refine WC.skip (thn_n ?_)
    refine WC.seq ?_
    refine WC.seq ?_
    refine WC.region ?_
    refine W.mv ?_
    refine W.ok (ok_len sl22 h_a rfl) ?_
    refine W.mv ?_
    refine W.nil (thn_n ?_)
    refine WC.block ?_
    refine WC.loop (X := Nat) (fun k => [(13, .int .i64 ((k : Nat) : Int)), (0, .slice sa_a a.length sc_a), (1, .slice sa_b b.length sc_b), (12, .int .i64 (((a).length : Nat) : Int))]) (fun k _ Ml => Ml = [] ∧ k ≤ a.length ∧ ∀ i (h : i < a.length) (h2 : i < b.length), i < k → a[i] = b[i]) (fun k => a.length - k) 0 ⟨(by first | rfl | exact iv (by dsimp only; omega) | exact iv (by omega)), (by first | rfl | exact iv (by dsimp only; omega) | exact iv (by omega)), (by first | rfl | exact iv (by dsimp only; omega) | exact iv (by omega)), (by first | rfl | exact iv (by dsimp only; omega) | exact iv (by omega)), trivial⟩ ?_ ?_
    · exact ⟨rfl, by omega, fun i _ _ h => by omega⟩
    · rintro k gG47 G47 _ hG47 ⟨rfl, hk0, hk⟩
      refine WC.seq ?_
      refine WC.region ?_
      refine W.ok (ok_lss rfl rfl) ?_
      refine W.nil (thn_n ?_)
      refine WC.seq ?_
      refine WC.cond (b := _) rfl (fun h14 => ?_) (fun h14 => ?_)
      · have p14 := of_decide_eq_true h14
        refine WC.skip (thn_n ?_)
        refine WC.seq ?_
        refine WC.block ?_
        refine WC.seq ?_
        refine WC.region ?_
        refine W.mv ?_
        refine W.as ?_
        refine W.nil (thn_n ?_)
        refine WC.seq ?_
        refine WC.draw mix (by kernel_rfl) ?_
        refine W.mv ?_
        refine W.mv ?_
        have q50 := (h_a.mono hG47).at (i := k) (by omega)
        refine match q50 with | ⟨_, he48, e_49⟩ => ?_
        subst e_49
        refine W.ok (ok_indexAddr (i := k) sl22 ty112 (h_a.mono hG47) rfl rfl ⟨by omega, by omega⟩) ?_
        refine W.ok (ok_loadE (vs := [.string _, .string _]) ty112 he48 rfl rfl rfl (by simp)) ?_
        refine W.mv ?_
        refine W.mv ?_
        have q53 := (h_b.mono hG47).at (i := k) (by omega)
        refine match q53 with | ⟨_, he51, e_52⟩ => ?_
        subst e_52
        refine W.ok (ok_indexAddr (i := k) sl22 ty112 (h_b.mono hG47) rfl rfl ⟨by omega, by omega⟩) ?_
        refine W.ok (ok_loadE (vs := [.string _, .string _]) ty112 he51 rfl rfl rfl (by simp)) ?_
        refine W.ok (ok_neqA (L1 := [.string _, .string _]) (L2 := [.string _, .string _]) eq112 rfl rfl rfl rfl) ?_
        refine W.nil (thn_n ?_)
        refine WC.cond (b := _) rfl (fun h24 => ?_) (fun h24 => ?_)
        · refine WC.seq ?_
          refine WC.region ?_
          refine W.as ?_
          refine W.nil (thn_n ?_)
          refine WC.ret (blk_r (thn_r (thn_r (blk_r (thn_r ?_)))))
          refine ⟨.inr rfl, [_], ⟨rfl, trivial⟩, [], List.nil_sublist _, ?_⟩
          refine congrArg Value.bool ?_
          exact (decide_eq_false fun e => by subst e; exact Pair.ne_of h24 rfl).symm
        · refine WC.skip (blk_n (thn_n ?_))
          refine WC.region ?_
          refine W.ok (ok_add rfl rfl (by omega)) ?_
          refine W.mv ?_
          refine W.nil (thn_n ?_)
          exact ⟨Le.rfl, k + 1, ⟨(by first | rfl | exact iv (by dsimp only; omega) | exact iv (by omega)), (by first | rfl | exact iv (by dsimp only; omega) | exact iv (by omega)), (by first | rfl | exact iv (by dsimp only; omega) | exact iv (by omega)), (by first | rfl | exact iv (by dsimp only; omega) | exact iv (by omega)), trivial⟩, ⟨rfl, by omega, fun i h h2 hi => by
      by_cases e : i = k
      · subst e; exact Pair.eq_of h24
      · exact hk i h h2 (by omega)⟩, by omega⟩
      · have p14 := of_decide_eq_false h14
        refine WC.exit (thn_x (thn_x (blk_h (thn_n ?_))))
        refine WC.seq ?_
        refine WC.region ?_
        refine W.as ?_
        refine W.nil (thn_n ?_)
        refine WC.ret ?_
        refine ⟨.inr rfl, [_], ⟨rfl, trivial⟩, [], List.nil_sublist _, ?_⟩
        refine congrArg Value.bool ?_
        exact (decide_eq_true (List.ext_getElem (by omega) fun i h h2 => hk i h h2 (by omega))).symm

theorem msame9_fc {G : GH} {v_a : Value} {a : List Pair} (h_a : SlR ePair G v_a a) {v_b : Value} {b : List Pair} (h_b : SlR ePair G v_b b) :
    Fc Try.prog 63 [v_a, v_b] G [] (fun v _ _ => v = .bool (decide (a = b))) := by
  obtain ⟨sa_a, sc_a, rfl⟩ := h_a.form
  obtain ⟨sa_b, sc_b, rfl⟩ := h_b.form
  refine Fc.intro (rs := [.tmp 4]) cl63 Try.func63 rfl Try.ntmps63 rfl rfl (fun w0 => ?_)
  refine WC.seq ?_
  refine WC.region ?_
  refine W.as ?_
  refine W.nil (thn_n ?_)
  refine WC.seq ?_
  refine WC.region ?_
  refine W.mv ?_
  refine W.mv ?_
  refine W.qcall (eqp_fc h_a h_b) rfl ?_
  refine W.as ?_
  refine W.nil (thn_n ?_)
  refine WC.ret ?_
  refine ⟨.inr rfl, [_], ⟨rfl, trivial⟩, [], List.nil_sublist _, ?_⟩
  rfl

end Go.Proofs.Ytipdjeemjiimbaa
