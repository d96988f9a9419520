/- The walk of the law QuietBounds and of what it calls. -/
import Derived.Test.YtmadhgdplocfbaaFt
import Derived.Test.YtmadhgdplocfbaaSq
namespace Go.Proofs.Ytmadhgdplocfbaa
open Go Go.Fw Go.RowKit
set_option maxRecDepth 100000
set_option linter.unusedVariables false
theorem bound_fc {G : GH} (f : Int) (l : Int) (hf : i64 f) (hl : i64 l) :
    Fc Try.prog 18 [.int .i64 f, .int .i64 l] G [] (fun v _ _ => v = .int .i64 (boundN f l)) := by
  obtain ⟨hf1, hf2⟩ := hf
  obtain ⟨hl1, hl2⟩ := hl
  have hb : 2 ≤ max f 4 / 2 := by omega
  refine Fc.intro (rs := [.tmp 4]) cl18 Try.func18 rfl Try.ntmps18 rfl rfl (fun w0 => ?_)
  refine WC.seq ?_
  refine WC.region ?_
  refine W.as ?_
  refine W.nil (thn_n ?_)
  refine WC.seq ?_
  refine WC.seq ?_
  refine WC.region ?_
  refine W.mv ?_
  refine W.ok (ok_lss rfl rfl) ?_
  refine W.nil (thn_n ?_)
  refine WC.cond (b := _) rfl (fun h9 => ?_) (fun h9 => ?_)
  · have p9 := of_decide_eq_true h9
    refine WC.seq ?_
    refine WC.region ?_
    refine W.as ?_
    refine W.nil (thn_n ?_)
    refine WC.ret (thn_r ?_)
    refine ⟨.inr rfl, [_], ⟨rfl, trivial⟩, [], List.nil_sublist _, ?_⟩
    refine congrArg (Value.int .i64) ?_
    simp [boundN, p9]
  · have p9 := of_decide_eq_false h9
    refine WC.skip (thn_n ?_)
    refine WC.seq ?_
    refine WC.region ?_
    refine W.as ?_
    refine W.nil (thn_n ?_)
    refine WC.seq ?_
    refine WC.seq ?_
    refine WC.region ?_
    refine W.mv ?_
    refine W.ok (ok_maxi rfl rfl) ?_
    refine W.ok (ok_quo' rfl rfl (by omega) (by omega) (by omega)) ?_
    refine W.mv ?_
    refine W.ok (ok_quo' rfl rfl (by omega) (by omega) (by omega)) ?_
    refine W.as ?_
    refine W.as ?_
    refine W.nil (thn_n ?_)
    refine WC.block ?_
    refine WC.loop (X := Int × Int) (fun x => [(5, .int .i64 x.1), (6, .int .i64 (max f 4 / 2)), (7, .int .i64 x.2)]) (fun x _ Ml => Ml = [] ∧ 2 ≤ x.1 ∧ 0 ≤ x.2 ∧ x.2 ≤ l / 2 ∧ x.1 + boundC (max f 4 / 2) x.2 = 2 + boundC (max f 4 / 2) (l / 2)) (fun x => x.2.toNat) (2, l / 2) ⟨(by first | rfl | exact iv (by dsimp only; omega) | exact iv (by omega)), (by first | rfl | exact iv (by dsimp only; omega) | exact iv (by omega)), (by first | rfl | exact iv (by dsimp only; omega) | exact iv (by omega)), trivial⟩ ?_ ?_
    · exact ⟨rfl, by dsimp only; omega, by dsimp only; omega, by dsimp only; omega, rfl⟩
    · rintro ⟨h, y⟩ gG1 G1 _ hG1 ⟨rfl, h0, hy, hy2, hc⟩
      dsimp only at h0 hy hy2 hc
      have hB := (boundC_le (b := max f 4 / 2) (by omega : 0 ≤ l / 2)).2
      have hB2 := (boundC_le (b := max f 4 / 2) hy).1
      refine WC.seq ?_
      refine WC.seq ?_
      refine WC.region ?_
      refine W.mv ?_
      refine W.mv ?_
      refine W.ok (ok_geq rfl rfl) ?_
      refine W.nil (thn_n ?_)
      refine WC.cond (b := _) rfl (fun h17 => ?_) (fun h17 => ?_)
      · have p17 := of_decide_eq_true h17
        dsimp only at p17
        refine WC.skip (thn_n ?_)
        refine WC.seq ?_
        refine WC.block ?_
        refine WC.region ?_
        refine W.mv ?_
        refine W.ok (ok_add rfl rfl (by dsimp only; omega)) ?_
        refine W.as ?_
        refine W.nil (blk_n (thn_n ?_))
        refine WC.region ?_
        refine W.mv ?_
        refine W.mv ?_
        refine W.ok (ok_quo' rfl rfl (by dsimp only; omega) (by omega) (by dsimp only; omega)) ?_
        refine W.as ?_
        refine W.nil (thn_n ?_)
        exact ⟨Le.rfl, (h + 1, y / (max f 4 / 2)), ⟨(by first | rfl | exact iv (by dsimp only; omega) | exact iv (by omega)), (by first | rfl | exact iv (by dsimp only; omega) | exact iv (by omega)), (by first | rfl | exact iv (by dsimp only; omega) | exact iv (by omega)), trivial⟩, ⟨rfl, by dsimp only; omega, (div_lt hb p17).1, by have := (div_lt hb p17).2; dsimp only; omega, by have := boundC_step hb p17; dsimp only; omega⟩, by have := div_lt hb p17; dsimp only; omega⟩
      · have p17 := of_decide_eq_false h17
        dsimp only at p17
        refine WC.exit (thn_x (thn_x (blk_h (thn_n ?_))))
        refine WC.seq ?_
        refine WC.region ?_
        refine W.mv ?_
        refine W.as ?_
        refine W.nil (thn_n ?_)
        refine WC.ret ?_
        refine ⟨.inr rfl, [_], ⟨rfl, trivial⟩, [], List.nil_sublist _, ?_⟩
        refine congrArg (Value.int .i64) ?_
        rw [boundC_stop hb (by omega)] at hc
        rw [boundN, if_neg p9]; omega

theorem waiting0_fc {G : GH} {v_l : Value} {l : List Nd} (h_l : SlR eNode G v_l l) (h0 : l = []) :
    Fc Try.prog 125 [v_l] G [] (fun v _ _ => v = .int .i64 (0)) := by
  obtain ⟨sa_l, sc_l, rfl⟩ := h_l.form
  subst h0
  refine Fc.intro (rs := [.tmp 2]) cl125 Try.func125 rfl Try.ntmps125 rfl rfl (fun w0 => ?_)
  refine WC.seq ?_
  refine WC.region ?_
  refine W.as ?_
  refine W.nil (thn_n ?_)
  refine WC.seq ?_
  refine WC.region ?_
  refine W.as ?_
  refine W.nil (thn_n ?_)
  refine WC.seq ?_
  refine WC.seq ?_
  refine WC.region ?_
  refine W.mv ?_
  refine W.ok (ok_len sl37 h_l rfl) ?_
  refine W.mv ?_
  refine W.nil (thn_n ?_)
  refine WC.block ?_
  refine WC.loop (X := Unit) (fun x => [(3, .int .i64 0), (7, .int .i64 (0 : Int)), (8, .int .i64 (0 : Int))]) (fun x _ Ml => Ml = []) (fun x => 0) () ⟨(by first | rfl | exact iv (by dsimp only; omega) | exact iv (by omega)), (by first | rfl | exact iv (by dsimp only; omega) | exact iv (by omega)), (by first | rfl | exact iv (by dsimp only; omega) | exact iv (by omega)), trivial⟩ ?_ ?_
  · exact rfl
  · rintro x gG2 G2 _ hG2 rfl
    refine WC.seq ?_
    refine WC.region ?_
    refine W.ok (ok_lss rfl rfl) ?_
    refine W.nil (thn_n ?_)
    refine WC.seq ?_
    refine WC.cond (b := _) rfl (fun h9 => ?_) (fun h9 => ?_)
    · have p9 := of_decide_eq_true h9
      exact absurd p9 (by omega)
    · have p9 := of_decide_eq_false h9
      refine WC.exit (thn_x (thn_x (blk_h (thn_n ?_))))
      refine WC.seq ?_
      refine WC.region ?_
      refine W.mv ?_
      refine W.as ?_
      refine W.nil (thn_n ?_)
      refine WC.ret ?_
      refine ⟨.inr rfl, [_], ⟨rfl, trivial⟩, [], List.nil_sublist _, ?_⟩
      rfl

theorem is0_fc {G : GH} {v_l : Value} {l : List Nd} (h_l : SlR eNode G v_l l) (h0 : l = []) :
    Fc Try.prog 32 [v_l] G [] (fun v _ _ => v = .bool (true)) := by
  obtain ⟨sa_l, sc_l, rfl⟩ := h_l.form
  subst h0
  refine Fc.intro (rs := [.tmp 2]) cl32 Try.func32 rfl Try.ntmps32 rfl rfl (fun w0 => ?_)
  refine WC.seq ?_
  refine WC.region ?_
  refine W.as ?_
  refine W.nil (thn_n ?_)
  refine WC.seq ?_
  refine WC.region ?_
  refine W.mv ?_
  refine W.qcall (waiting0_fc h_l rfl) rfl ?_
  refine W.ok (ok_eql rfl rfl) ?_
  refine W.as ?_
  refine W.nil (thn_n ?_)
  refine WC.ret ?_
  refine ⟨.inr rfl, [_], ⟨rfl, trivial⟩, [], List.nil_sublist _, ?_⟩
  rfl

theorem awake44_fc {G : GH}  :
    Fc Try.prog 19 [] G [] (fun v _ _ => v = .bool (true)) := by
  refine Fc.intro (rs := [.tmp 0]) cl19 Try.func19 rfl Try.ntmps19 rfl rfl (fun w0 => ?_)
  refine WC.seq ?_
  refine WC.region ?_
  refine W.as ?_
  refine W.nil (thn_n ?_)
  refine WC.seq ?_
  refine WC.region ?_
  refine W.qcall (bound_fc _ _ (by first | assumption | exact ⟨by omega, by omega⟩) (by first | assumption | exact ⟨by omega, by omega⟩)) rfl ?_
  refine W.ok (ok_eql rfl rfl) ?_
  refine W.mv ?_
  refine W.sp 3 rfl (fun h2 => ?_) (fun h2 => ?_)
  · have p2 := of_decide_eq_true h2
    refine W.yes (dj := 3) rfl rfl h2 ?_
    refine W.qcall (bound_fc _ _ (by first | assumption | exact ⟨by omega, by omega⟩) (by first | assumption | exact ⟨by omega, by omega⟩)) rfl ?_
    refine W.yes (dj := 3) rfl rfl h2 ?_
    refine W.ok (ok_eql rfl rfl) ?_
    refine W.ok (ok_pick_t rfl h2) ?_
    refine W.mv ?_
    refine W.sp 7 rfl (fun h5 => ?_) (fun h5 => ?_)
    · have p5 := of_decide_eq_true h5
      refine W.yes (dj := 7) rfl rfl h5 ?_
      refine W.qcall (bound_fc _ _ (by first | assumption | exact ⟨by omega, by omega⟩) (by first | assumption | exact ⟨by omega, by omega⟩)) rfl ?_
      refine W.yes (dj := 7) rfl rfl h5 ?_
      refine W.ok (ok_eql rfl rfl) ?_
      refine W.ok (ok_pick_t rfl h5) ?_
      refine W.mv ?_
      refine W.sp 11 rfl (fun h9 => ?_) (fun h9 => ?_)
      · have p9 := of_decide_eq_true h9
        refine W.yes (dj := 11) rfl rfl h9 ?_
        refine W.qcall (bound_fc _ _ (by first | assumption | exact ⟨by omega, by omega⟩) (by first | assumption | exact ⟨by omega, by omega⟩)) rfl ?_
        refine W.yes (dj := 11) rfl rfl h9 ?_
        refine W.ok (ok_eql rfl rfl) ?_
        refine W.ok (ok_pick_t rfl h9) ?_
        refine W.mv ?_
        refine W.sp 15 rfl (fun h13 => ?_) (fun h13 => ?_)
        · have p13 := of_decide_eq_true h13
          refine W.yes (dj := 15) rfl rfl h13 ?_
          refine W.qcall (is0_fc SlR.nil rfl) rfl ?_
          refine W.ok (ok_pick_t rfl h13) ?_
          refine W.as ?_
          refine W.nil (thn_n ?_)
          refine WC.ret ?_
          refine ⟨.inr rfl, [_], ⟨rfl, trivial⟩, [], List.nil_sublist _, ?_⟩
          rfl
        · have p13 := of_decide_eq_false h13
          exact absurd h13 (by decide +kernel)
      · have p9 := of_decide_eq_false h9
        exact absurd h9 (by decide +kernel)
    · have p5 := of_decide_eq_false h5
      exact absurd h5 (by decide +kernel)
  · have p2 := of_decide_eq_false h2
    exact absurd h2 (by decide +kernel)

theorem bounds_fc {G : GH} (f : Int) (l : Int) (hf : i64 f) (hl : i64 l) :
    Fc Try.prog 3 [.int .i64 f, .int .i64 l] G [] (fun v _ _ => v = .bool (true)) := by
  have hf' := hf
  have hl' := hl
  obtain ⟨hf1, hf2⟩ := hf
  obtain ⟨hl1, hl2⟩ := hl
  have hb : 2 ≤ max f 4 / 2 := by omega
  refine Fc.intro (rs := [.tmp 4]) cl3 Try.func3 rfl Try.ntmps3 rfl rfl (fun w0 => ?_)
  refine WC.seq ?_
  refine WC.region ?_
  refine W.as ?_
  refine W.nil (thn_n ?_)
  refine WC.seq ?_
  refine WC.region ?_
  refine W.mv ?_
  refine W.ok (ok_maxi rfl rfl) ?_
  refine W.ok (ok_quo' rfl rfl (by omega) (by omega) (by omega)) ?_
  refine W.as ?_
  refine W.nil (thn_n ?_)
  refine WC.seq ?_
  refine WC.region ?_
  refine W.as ?_
  refine W.nil (thn_n ?_)
  refine WC.seq ?_
  refine WC.seq ?_
  refine WC.region ?_
  refine W.mv ?_
  refine W.ok (ok_geq rfl rfl) ?_
  refine W.nil (thn_n ?_)
  refine WC.cond (b := _) rfl (fun h12 => ?_) (fun h12 => ?_)
  · have p12 := of_decide_eq_true h12
    refine WC.seq ?_
    refine WC.region ?_
    refine W.as ?_
    refine W.nil (thn_n ?_)
    refine WC.seq ?_
    refine WC.region ?_
    refine W.mv ?_
    refine W.as ?_
    refine W.nil (thn_n ?_)
    refine WC.block ?_
    refine WC.loop (X := Int × Int × Int) (fun x => [(0, .int .i64 f), (1, .int .i64 l), (5, .int .i64 (max f 4 / 2)), (6, .int .i64 x.2.2), (7, .int .i64 x.1)]) (fun x _ Ml => Ml = [] ∧ PowOk (max f 4 / 2) (l / 2) x.1 x.2.1 x.2.2) (fun x => x.2.1.toNat) (max f 4 / 2, l / 2, 2) ⟨(by first | rfl | exact iv (by dsimp only; omega) | exact iv (by omega)), (by first | rfl | exact iv (by dsimp only; omega) | exact iv (by omega)), (by first | rfl | exact iv (by dsimp only; omega) | exact iv (by omega)), (by first | rfl | exact iv (by dsimp only; omega) | exact iv (by omega)), (by first | rfl | exact iv (by dsimp only; omega) | exact iv (by omega)), trivial⟩ ?_ ?_
    · exact ⟨rfl, PowOk.start hb⟩
    · rintro ⟨p, y, w⟩ gG3 G3 _ hG3 ⟨rfl, hp⟩
      dsimp only at hp
      have hB := hp.bound hb (by omega)
      have hw2 := hp.w2
      have hpos := hp.pos
      refine WC.seq ?_
      refine WC.seq ?_
      refine WC.region ?_
      refine W.mv ?_
      refine W.mv ?_
      refine W.ok (ok_quo' rfl rfl (by omega) (by omega) (by omega)) ?_
      refine W.ok (ok_leq rfl rfl) ?_
      refine W.nil (thn_n ?_)
      refine WC.cond (b := _) rfl (fun h17 => ?_) (fun h17 => ?_)
      · have p17 := of_decide_eq_true h17
        refine WC.skip (thn_n ?_)
        refine WC.seq ?_
        refine WC.block ?_
        refine WC.seq ?_
        refine WC.region ?_
        refine W.mv ?_
        refine W.ok (ok_add rfl rfl (by dsimp only; omega)) ?_
        refine W.as ?_
        refine W.nil (thn_n ?_)
        refine WC.seq ?_
        refine WC.region ?_
        refine W.mv ?_
        refine W.mv ?_
        refine W.ok (ok_quo' rfl rfl (by omega) (by omega) (by omega)) ?_
        refine W.mv ?_
        refine W.ok (ok_quo' rfl rfl (by omega) (by omega) (by omega)) ?_
        refine W.ok (ok_gtr rfl rfl) ?_
        refine W.nil (thn_n ?_)
        refine WC.cond (b := _) rfl (fun h28 => ?_) (fun h28 => ?_)
        · have p28 := of_decide_eq_true h28
          refine WC.exit (blk_m (thn_x (thn_x (blk_h (thn_n ?_)))))
          refine WC.seq ?_
          refine WC.region ?_
          refine W.mv ?_
          refine W.mv ?_
          refine W.qcall (bound_fc _ _ (by first | assumption | exact ⟨by omega, by omega⟩) (by first | assumption | exact ⟨by omega, by omega⟩)) rfl ?_
          refine W.mv ?_
          refine W.ok (ok_eql rfl rfl) ?_
          refine W.mv ?_
          refine W.sp 34 rfl (fun h33 => ?_) (fun h33 => ?_)
          · have p33 := of_decide_eq_true h33
            refine W.yes (dj := 34) rfl rfl h33 ?_
            refine W.qcall (awake44_fc) rfl ?_
            refine W.ok (ok_pick_t rfl h33) ?_
            refine W.as ?_
            refine W.nil (thn_n ?_)
            refine WC.ret ?_
            refine ⟨.inr rfl, [_], ⟨rfl, trivial⟩, [], List.nil_sublist _, ?_⟩
            rfl
          · have p33 := of_decide_eq_false h33
            exact absurd (by rw [boundN, if_neg (by omega)]; exact (hp.last hb p17 p28).symm) p33
        · have p28 := of_decide_eq_false h28
          refine WC.skip (blk_n (thn_n ?_))
          refine WC.region ?_
          refine W.mv ?_
          refine W.mv ?_
          refine W.ok (ok_mul rfl rfl (mul_fits hb (by have := hp.pos; dsimp only; omega) (by omega) (by omega))) ?_
          refine W.as ?_
          refine W.nil (thn_n ?_)
          exact ⟨Le.rfl, (p * (max f 4 / 2), y / (max f 4 / 2), w + 1), ⟨(by first | rfl | exact iv (by dsimp only; omega) | exact iv (by omega)), (by first | rfl | exact iv (by dsimp only; omega) | exact iv (by omega)), (by first | rfl | exact iv (by dsimp only; omega) | exact iv (by omega)), (by first | rfl | exact iv (by dsimp only; omega) | exact iv (by omega)), (by first | rfl | exact iv (by dsimp only; omega) | exact iv (by omega)), trivial⟩, ⟨rfl, hp.next hb p17⟩, by have h1 := (hp.le_iff hb).1 p17; have := div_lt hb h1; dsimp only; omega⟩
      · have p17 := of_decide_eq_false h17
        refine WC.exit (thn_x (thn_x (blk_h (thn_n ?_))))
        refine WC.seq ?_
        refine WC.region ?_
        refine W.mv ?_
        refine W.mv ?_
        refine W.qcall (bound_fc _ _ (by first | assumption | exact ⟨by omega, by omega⟩) (by first | assumption | exact ⟨by omega, by omega⟩)) rfl ?_
        refine W.mv ?_
        refine W.ok (ok_eql rfl rfl) ?_
        refine W.mv ?_
        refine W.sp 34 rfl (fun h33 => ?_) (fun h33 => ?_)
        · have p33 := of_decide_eq_true h33
          refine W.yes (dj := 34) rfl rfl h33 ?_
          refine W.qcall (awake44_fc) rfl ?_
          refine W.ok (ok_pick_t rfl h33) ?_
          refine W.as ?_
          refine W.nil (thn_n ?_)
          refine WC.ret ?_
          refine ⟨.inr rfl, [_], ⟨rfl, trivial⟩, [], List.nil_sublist _, ?_⟩
          rfl
        · have p33 := of_decide_eq_false h33
          exact absurd (by rw [boundN, if_neg (by omega)]; exact (hp.stop hb p17).symm) p33
  · have p12 := of_decide_eq_false h12
    refine WC.skip (thn_n ?_)
    refine WC.seq ?_
    refine WC.region ?_
    refine W.mv ?_
    refine W.mv ?_
    refine W.qcall (bound_fc _ _ (by first | assumption | exact ⟨by omega, by omega⟩) (by first | assumption | exact ⟨by omega, by omega⟩)) rfl ?_
    refine W.mv ?_
    refine W.ok (ok_eql rfl rfl) ?_
    refine W.mv ?_
    refine W.sp 34 rfl (fun h33 => ?_) (fun h33 => ?_)
    · have p33 := of_decide_eq_true h33
      refine W.yes (dj := 34) rfl rfl h33 ?_
      refine W.qcall (awake44_fc) rfl ?_
      refine W.ok (ok_pick_t rfl h33) ?_
      refine W.as ?_
      refine W.nil (thn_n ?_)
      refine WC.ret ?_
      refine ⟨.inr rfl, [_], ⟨rfl, trivial⟩, [], List.nil_sublist _, ?_⟩
      rfl
    · have p33 := of_decide_eq_false h33
      exact absurd (by rw [boundN, if_pos (by omega)]) p33

end Go.Proofs.Ytmadhgdplocfbaa
