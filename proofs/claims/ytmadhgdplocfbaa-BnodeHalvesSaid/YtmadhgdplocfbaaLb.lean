/- The walk of the law BnodeRoutes. -/
import Derived.Test.YtmadhgdplocfbaaWa
namespace Go.Proofs.Ytmadhgdplocfbaa
open Go Go.Fw Go.RowKit
set_option maxRecDepth 100000
set_option maxHeartbeats 1600000
set_option linter.unusedVariables false
def S_98 : Str := ⟨⟨#[98]⟩, by decide⟩
def S_100 : Str := ⟨⟨#[100]⟩, by decide⟩
def S_99 : Str := ⟨⟨#[99]⟩, by decide⟩
theorem awake15_fc {G : GH}  :
    Fc Try.prog 21 [] G [] (fun v _ _ => v = .bool (true)) := by
  have hri : rising [S_98, S_100] = true := by decide +kernel
  refine Fc.intro (rs := [.tmp 0]) cl21 Try.func21 rfl Try.ntmps21 rfl rfl (fun w0 => ?_)
  refine WC.seq ?_
  refine WC.region ?_
  refine W.as ?_
  refine W.nil (thn_n ?_)
  refine WC.seq ?_
  refine WC.region ?_
  refine W.lit (e := eStr) (l := [S_98, S_100]) (css := [[.string _], [.string _]]) sl25 ty9 zr9 rfl rfl rfl rfl rfl rfl ⟨rfl, rfl, trivial⟩ (fun bl35 G35 hG35 hv35 => ?_)
  refine W.as ?_
  refine W.nil (thn_n ?_)
  refine WC.seq ?_
  refine WC.region ?_
  refine W.mv ?_
  refine W.lit (e := eInt) (l := [_, _, _]) (css := [[.int .i64 _], [.int .i64 _], [.int .i64 _]]) sl26 ty3 zr3 rfl rfl rfl rfl rfl rfl ⟨⟨rfl, by omega, by omega⟩, ⟨rfl, by omega, by omega⟩, ⟨rfl, by omega, by omega⟩, trivial⟩ (fun bl36 G36 hG36 hv36 => ?_)
  refine W.qcall (bright_fc (hv35.mono hG36) hv36) rfl ?_
  refine W.mv ?_
  refine W.sp 6 rfl (fun h5 => ?_) (fun h5 => ?_)
  · refine W.yes (dj := 6) rfl rfl h5 ?_
    refine W.mv ?_
    refine W.yes (dj := 6) rfl rfl h5 ?_
    refine W.qcall (broute_fc (hv35.mono hG36) S_99 (by assumption)) rfl ?_
    refine W.yes (dj := 6) rfl rfl h5 ?_
    refine W.ok (ok_eql rfl rfl) ?_
    refine W.ok (ok_pick_t rfl h5) ?_
    refine W.mv ?_
    refine W.sp 11 rfl (fun h9 => ?_) (fun h9 => ?_)
    · have p9 := of_decide_eq_true h9
      refine W.yes (dj := 11) rfl rfl h9 ?_
      refine W.mv ?_
      refine W.yes (dj := 11) rfl rfl h9 ?_
      refine W.qcall (broute_fc (hv35.mono hG36) S_100 (by assumption)) rfl ?_
      refine W.yes (dj := 11) rfl rfl h9 ?_
      refine W.ok (ok_eql rfl rfl) ?_
      refine W.ok (ok_pick_t rfl h9) ?_
      refine W.mv ?_
      refine W.sp 16 rfl (fun h14 => ?_) (fun h14 => ?_)
      · have p14 := of_decide_eq_true h14
        refine W.yes (dj := 16) rfl rfl h14 ?_
        refine W.mv ?_
        refine W.yes (dj := 16) rfl rfl h14 ?_
        refine W.qcall (brange_fc (hv35.mono hG36) _ (by first | assumption | exact ⟨by omega, by omega⟩)) rfl ?_
        refine W.yes (dj := 16) rfl rfl h14 ?_
        refine W.ok (ok_build (L := [.string _, .string _, .bool _]) pl32 zr32 rfl rfl rfl) ?_
        refine W.yes (dj := 16) rfl rfl h14 ?_
        refine W.ok (ok_eqlA (L1 := [.string _, .string _, .bool _]) (L2 := [.string _, .string _, .bool _]) eq32 rfl rfl rfl rfl) ?_
        refine W.ok (ok_pick_t rfl h14) ?_
        refine W.as ?_
        refine W.nil (thn_n ?_)
        refine WC.ret ?_
        refine ⟨.inr rfl, [_], ⟨rfl, trivial⟩, [], List.nil_sublist _, ?_⟩
        refine congrArg Value.bool ?_
        decide +kernel
      · have p14 := of_decide_eq_false h14
        exact absurd p14 (by decide +kernel)
    · have p9 := of_decide_eq_false h9
      exact absurd p9 (by decide +kernel)
  · exact absurd h5 (by decide +kernel)

theorem routes_fc {G : GH} {v_p : Value} {p : List Str} (h_p : SlR eStr G v_p p) {v_c : Value} {c : List Int} (h_c : SlR eInt G v_c c) (k : Str) (i : Int) (hi : i64 i) :
    Fc Try.prog 4 [v_p, v_c, .string k.b, .int .i64 i] G [] (fun v _ _ => v = .bool (true)) := by
  obtain ⟨sa_p, sc_p, rfl⟩ := h_p.form
  obtain ⟨sa_c, sc_c, rfl⟩ := h_c.form
  have hl := h_p.len47
  have hc := h_c.len47
  refine Fc.intro (rs := [.tmp 8]) cl4 Try.func4 rfl Try.ntmps4 rfl rfl (fun w0 => ?_)
  refine WC.seq ?_
  refine WC.region ?_
  refine W.as ?_
  refine W.nil (thn_n ?_)
  refine WC.seq ?_
  refine WC.seq ?_
  refine WC.region ?_
  refine W.mv ?_
  refine W.qcall (rlong_fc h_p _ (by omega)) rfl ?_
  refine W.ok (ok_gtr rfl rfl) ?_
  refine W.mv ?_
  refine W.sp 14 rfl (fun h13 => ?_) (fun h13 => ?_)
  · have p13 := of_decide_eq_true h13
    refine W.no (dj := 14) rfl rfl h13 ?_
    refine W.no (dj := 14) rfl rfl h13 ?_
    refine W.no (dj := 14) rfl rfl h13 ?_
    refine W.ok (ok_pick_t rfl h13) ?_
    refine W.mv ?_
    refine W.no (dj := 19) rfl rfl rfl ?_
    refine W.no (dj := 19) rfl rfl rfl ?_
    refine W.no (dj := 19) rfl rfl rfl ?_
    refine W.ok (ok_pick_t rfl rfl) ?_
    refine W.nil (thn_n ?_)
    refine WC.cond_t rfl rfl ?_
    refine WC.seq ?_
    refine WC.region ?_
    refine W.qcall (awake15_fc) rfl ?_
    refine W.as ?_
    refine W.nil (thn_n ?_)
    refine WC.ret (thn_r ?_)
    refine ⟨.inr rfl, [_], ⟨rfl, trivial⟩, [], List.nil_sublist _, ?_⟩
    rfl
  · have p13 := of_decide_eq_false h13
    refine W.yes (dj := 14) rfl rfl h13 ?_
    refine W.mv ?_
    refine W.yes (dj := 14) rfl rfl h13 ?_
    refine W.ok (ok_len sl26 h_c rfl) ?_
    refine W.yes (dj := 14) rfl rfl h13 ?_
    refine W.ok (ok_gtr rfl rfl) ?_
    refine W.ok (ok_pick_f rfl h13) ?_
    refine W.mv ?_
    refine W.sp 19 rfl (fun h17 => ?_) (fun h17 => ?_)
    · have p17 := of_decide_eq_true h17
      refine W.no (dj := 19) rfl rfl h17 ?_
      refine W.no (dj := 19) rfl rfl h17 ?_
      refine W.no (dj := 19) rfl rfl h17 ?_
      refine W.ok (ok_pick_t rfl h17) ?_
      refine W.nil (thn_n ?_)
      refine WC.cond_t rfl rfl ?_
      refine WC.seq ?_
      refine WC.region ?_
      refine W.qcall (awake15_fc) rfl ?_
      refine W.as ?_
      refine W.nil (thn_n ?_)
      refine WC.ret (thn_r ?_)
      refine ⟨.inr rfl, [_], ⟨rfl, trivial⟩, [], List.nil_sublist _, ?_⟩
      rfl
    · have p17 := of_decide_eq_false h17
      refine W.yes (dj := 19) rfl rfl h17 ?_
      refine W.mv ?_
      refine W.yes (dj := 19) rfl rfl h17 ?_
      refine W.ok (ok_lenS st9 rfl) ?_
      refine W.yes (dj := 19) rfl rfl h17 ?_
      refine W.ok (ok_gtr rfl rfl) ?_
      refine W.ok (ok_pick_f rfl h17) ?_
      refine W.nil (thn_n ?_)
      refine WC.cond (b := _) rfl (fun h22 => ?_) (fun h22 => ?_)
      · have p22 := of_decide_eq_true h22
        refine WC.seq ?_
        refine WC.region ?_
        refine W.qcall (awake15_fc) rfl ?_
        refine W.as ?_
        refine W.nil (thn_n ?_)
        refine WC.ret (thn_r ?_)
        refine ⟨.inr rfl, [_], ⟨rfl, trivial⟩, [], List.nil_sublist _, ?_⟩
        rfl
      · have p22 := of_decide_eq_false h22
        refine WC.skip (thn_n ?_)
        refine WC.seq ?_
        refine WC.seq ?_
        refine WC.region ?_
        refine W.mv ?_
        refine W.mv ?_
        refine W.qcall (bright_fc h_p h_c) rfl ?_
        refine W.mv ?_
        refine W.mv ?_
        refine W.qcall (rright_fc h_p h_c) rfl ?_
        refine W.ok (ok_neqB bo4 rfl rfl) ?_
        refine W.nil (thn_n ?_)
        refine WC.cond (b := _) rfl (fun h31 => ?_) (fun h31 => ?_)
        · simp at h31
        · refine WC.skip (thn_n ?_)
          refine WC.seq ?_
          refine WC.seq ?_
          refine WC.region ?_
          refine W.mv ?_
          refine W.mv ?_
          refine W.qcall (rright_fc h_p h_c) rfl ?_
          refine W.ok (ok_not rfl) ?_
          refine W.nil (thn_n ?_)
          refine WC.cond (b := _) rfl (fun h35 => ?_) (fun h35 => ?_)
          · refine WC.seq ?_
            refine WC.region ?_
            refine W.qcall (awake15_fc) rfl ?_
            refine W.as ?_
            refine W.nil (thn_n ?_)
            refine WC.ret (thn_r ?_)
            refine ⟨.inr rfl, [_], ⟨rfl, trivial⟩, [], List.nil_sublist _, ?_⟩
            rfl
          · obtain ⟨hr, hcl⟩ := rightN_spec (by simpa using h35)
            refine WC.skip (thn_n ?_)
            refine WC.seq ?_
            refine WC.region ?_
            refine W.mv ?_
            refine W.mv ?_
            refine W.qcall (broute_fc h_p _ (by assumption)) rfl ?_
            refine W.as ?_
            refine W.nil (thn_n ?_)
            refine WC.seq ?_
            refine WC.seq ?_
            refine WC.region ?_
            refine W.mv ?_
            refine W.ok (ok_len sl26 h_c rfl) ?_
            refine W.mv ?_
            refine W.nil (thn_n ?_)
            refine WC.block ?_
            refine WC.loop (X := Nat) (fun j => [(9, .int .i64 ((routeN p k : Nat) : Int)), (41, .int .i64 ((c.length : Nat) : Int)), (42, .int .i64 ((j : Nat) : Int)), (0, .slice sa_p p.length sc_p), (1, .slice sa_c c.length sc_c), (2, .string k.b), (3, .int .i64 i)]) (fun j _ Ml => Ml = [] ∧ j ≤ c.length) (fun j => c.length - j) 0 ⟨(by first | rfl | exact iv (by dsimp only; omega) | exact iv (by omega)), (by first | rfl | exact iv (by dsimp only; omega) | exact iv (by omega)), (by first | rfl | exact iv (by dsimp only; omega) | exact iv (by omega)), (by first | rfl | exact iv (by dsimp only; omega) | exact iv (by omega)), (by first | rfl | exact iv (by dsimp only; omega) | exact iv (by omega)), (by first | rfl | exact iv (by dsimp only; omega) | exact iv (by omega)), (by first | rfl | exact iv (by dsimp only; omega) | exact iv (by omega)), trivial⟩ ?_ ?_
            · exact ⟨rfl, by omega⟩
            · rintro j gG37 G37 _ hG37 ⟨rfl, hj⟩
              refine WC.seq ?_
              refine WC.region ?_
              refine W.ok (ok_lss rfl rfl) ?_
              refine W.nil (thn_n ?_)
              refine WC.seq ?_
              refine WC.cond (b := _) rfl (fun h43 => ?_) (fun h43 => ?_)
              · have p43 := of_decide_eq_true h43
                refine WC.skip (thn_n ?_)
                refine WC.seq ?_
                refine WC.block ?_
                refine WC.seq ?_
                refine WC.region ?_
                refine W.mv ?_
                refine W.as ?_
                refine W.nil (thn_n ?_)
                refine WC.seq ?_
                refine WC.region ?_
                refine W.mv ?_
                refine W.mv ?_
                refine W.qcall (rrange_fc (h_p.mono hG37) _ (by first | assumption | exact ⟨by omega, by omega⟩)) rfl ?_
                refine W.mv ?_
                refine W.qcall (has_fc _ _ _ _) rfl ?_
                refine W.mv ?_
                refine W.mv ?_
                refine W.ok (ok_eql rfl rfl) ?_
                refine W.ok (ok_neqB bo4 rfl rfl) ?_
                refine W.nil (thn_n ?_)
                refine WC.cond (b := _) rfl (fun h53 => ?_) (fun h53 => ?_)
                · exact absurd h53 (by rw [range_has hr k (by omega)]; simp; omega)
                · refine WC.skip (blk_n (thn_n ?_))
                  refine WC.region ?_
                  refine W.ok (ok_add rfl rfl (by omega)) ?_
                  refine W.mv ?_
                  refine W.nil (thn_n ?_)
                  exact ⟨Le.rfl, j + 1, ⟨(by first | rfl | exact iv (by dsimp only; omega) | exact iv (by omega)), (by first | rfl | exact iv (by dsimp only; omega) | exact iv (by omega)), (by first | rfl | exact iv (by dsimp only; omega) | exact iv (by omega)), (by first | rfl | exact iv (by dsimp only; omega) | exact iv (by omega)), (by first | rfl | exact iv (by dsimp only; omega) | exact iv (by omega)), (by first | rfl | exact iv (by dsimp only; omega) | exact iv (by omega)), (by first | rfl | exact iv (by dsimp only; omega) | exact iv (by omega)), trivial⟩, ⟨rfl, by omega⟩, by omega⟩
              · have p43 := of_decide_eq_false h43
                refine WC.exit (thn_x (thn_x (blk_h (thn_n ?_))))
                refine WC.seq ?_
                refine WC.region ?_
                refine W.mv ?_
                refine W.mv ?_
                refine W.mv ?_
                refine W.qcall (rroute_fc (h_p.mono hG37) _) rfl ?_
                refine W.ok (ok_eql rfl rfl) ?_
                refine W.mv ?_
                refine W.sp 60 rfl (fun h59 => ?_) (fun h59 => ?_)
                · have p59 := of_decide_eq_true h59
                  refine W.yes (dj := 60) rfl rfl h59 ?_
                  refine W.mv ?_
                  refine W.yes (dj := 60) rfl rfl h59 ?_
                  refine W.mv ?_
                  refine W.yes (dj := 60) rfl rfl h59 ?_
                  refine W.qcall (brange_fc (h_p.mono hG37) _ (by first | assumption | exact ⟨by omega, by omega⟩)) rfl ?_
                  refine W.yes (dj := 60) rfl rfl h59 ?_
                  refine W.mv ?_
                  refine W.yes (dj := 60) rfl rfl h59 ?_
                  refine W.mv ?_
                  refine W.yes (dj := 60) rfl rfl h59 ?_
                  refine W.qcall (rrange_fc (h_p.mono hG37) _ (by first | assumption | exact ⟨by omega, by omega⟩)) rfl ?_
                  refine W.yes (dj := 60) rfl rfl h59 ?_
                  refine W.ok (ok_eqlA (L1 := [.string _, .string _, .bool _]) (L2 := [.string _, .string _, .bool _]) eq32 rfl rfl rfl rfl) ?_
                  refine W.ok (ok_pick_t rfl h59) ?_
                  refine W.mv ?_
                  refine W.sp 69 rfl (fun h67 => ?_) (fun h67 => ?_)
                  · refine W.yes (dj := 69) rfl rfl h67 ?_
                    refine W.qcall (awake15_fc) rfl ?_
                    refine W.ok (ok_pick_t rfl h67) ?_
                    refine W.as ?_
                    refine W.nil (thn_n ?_)
                    refine WC.ret ?_
                    refine ⟨.inr rfl, [_], ⟨rfl, trivial⟩, [], List.nil_sublist _, ?_⟩
                    rfl
                  · exact absurd ((eqC_self (rangeN p i)).symm.trans h67) (by simp)
                · have p59 := of_decide_eq_false h59
                  exact absurd rfl p59

end Go.Proofs.Ytmadhgdplocfbaa
