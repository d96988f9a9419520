/- The law RowsTake is walked. -/
import Derived.Test.YtipdjeemjiimbaaWe
import Derived.Test.YtipdjeemjiimbaaA14
namespace Go.Proofs.Ytipdjeemjiimbaa
open Go Go.Fw Go.RowKit
set_option maxRecDepth 100000
set_option maxHeartbeats 1600000
set_option linter.unusedVariables false
set_option linter.unusedSimpArgs false
set_option linter.unnecessarySimpa false
theorem rowsTake_fc {G : GH} {v_l : Value} {l : List Pair} (h_l : SlR ePair G v_l l) (k : Str) (ek : Int) (ev : Str) (n : Int) (slo : Str) (shi : Str) (so : Bool) (hi : i64 n) :
    Fc Try.prog 9 [v_l, .string k.b, .agg #[.int .i64 ek, .string ev.b], .int .i64 n, .agg #[.string slo.b, .string shi.b, .bool so]] G [] (fun v _ _ => v = .bool (true)) := by
  obtain ⟨sa_l, sc_l, rfl⟩ := h_l.form
  have hl := h_l.len47
  have hk := k.le
  refine Fc.intro (rs := [.tmp 10]) cl9 Try.func9 rfl Try.ntmps9 rfl rfl (fun w0 => ?_)
  refine WC.seq ?_
  refine WC.region ?_
  refine W.box (L := [.int .i64 _, .string _]) rfl rfl (fun b1 => ?_)
  refine W.box (L := [.string _, .string _, .bool _]) rfl rfl (fun b2 => ?_)
  refine W.as ?_
  refine W.nil (thn_n ?_)
  refine WC.seq ?_
  refine WC.seq ?_
  refine WC.region ?_
  refine W.mv ?_
  refine W.qcall (longp_fc h_l _ (by omega)) rfl ?_
  refine W.ok (ok_not rfl) ?_
  refine W.mv ?_
  refine W.sp 21 rfl (fun h20 => ?_) (fun h20 => ?_)
  · refine W.no (dj := 21) rfl rfl h20 ?_
    refine W.no (dj := 21) rfl rfl h20 ?_
    refine W.no (dj := 21) rfl rfl h20 ?_
    refine W.ok (ok_pick_t rfl h20) ?_
    refine W.mv ?_
    refine W.no (dj := 26) rfl rfl rfl ?_
    refine W.no (dj := 26) rfl rfl rfl ?_
    refine W.no (dj := 26) rfl rfl rfl ?_
    refine W.ok (ok_pick_t rfl rfl) ?_
    refine W.mv ?_
    refine W.no (dj := 31) rfl rfl rfl ?_
    refine W.no (dj := 31) rfl rfl rfl ?_
    refine W.no (dj := 31) rfl rfl rfl ?_
    refine W.ok (ok_pick_t rfl rfl) ?_
    refine W.mv ?_
    refine W.no (dj := 36) rfl rfl rfl ?_
    refine W.no (dj := 36) rfl rfl rfl ?_
    refine W.no (dj := 36) rfl rfl rfl ?_
    refine W.no (dj := 36) rfl rfl rfl ?_
    refine W.ok (ok_pick_t rfl rfl) ?_
    refine W.nil (thn_n ?_)
    refine WC.cond_t rfl rfl ?_
    refine WC.seq ?_
    refine WC.region ?_
    refine W.qcall (awake14_fc) rfl ?_
    refine W.as ?_
    refine W.nil (thn_n ?_)
    refine WC.ret (thn_r ?_)
    refine ⟨.inr rfl, [_], ⟨rfl, trivial⟩, [], List.nil_sublist _, ?_⟩
    rfl
  · refine W.yes (dj := 21) rfl rfl h20 ?_
    refine W.mv ?_
    refine W.yes (dj := 21) rfl rfl h20 ?_
    refine W.qcall (rightp_fc h_l) rfl ?_
    refine W.yes (dj := 21) rfl rfl h20 ?_
    refine W.ok (ok_not rfl) ?_
    refine W.ok (ok_pick_f rfl h20) ?_
    refine W.mv ?_
    refine W.sp 26 rfl (fun h24 => ?_) (fun h24 => ?_)
    · refine W.no (dj := 26) rfl rfl h24 ?_
      refine W.no (dj := 26) rfl rfl h24 ?_
      refine W.no (dj := 26) rfl rfl h24 ?_
      refine W.ok (ok_pick_t rfl h24) ?_
      refine W.mv ?_
      refine W.no (dj := 31) rfl rfl rfl ?_
      refine W.no (dj := 31) rfl rfl rfl ?_
      refine W.no (dj := 31) rfl rfl rfl ?_
      refine W.ok (ok_pick_t rfl rfl) ?_
      refine W.mv ?_
      refine W.no (dj := 36) rfl rfl rfl ?_
      refine W.no (dj := 36) rfl rfl rfl ?_
      refine W.no (dj := 36) rfl rfl rfl ?_
      refine W.no (dj := 36) rfl rfl rfl ?_
      refine W.ok (ok_pick_t rfl rfl) ?_
      refine W.nil (thn_n ?_)
      refine WC.cond_t rfl rfl ?_
      refine WC.seq ?_
      refine WC.region ?_
      refine W.qcall (awake14_fc) rfl ?_
      refine W.as ?_
      refine W.nil (thn_n ?_)
      refine WC.ret (thn_r ?_)
      refine ⟨.inr rfl, [_], ⟨rfl, trivial⟩, [], List.nil_sublist _, ?_⟩
      rfl
    · refine W.yes (dj := 26) rfl rfl h24 ?_
      refine W.mv ?_
      refine W.yes (dj := 26) rfl rfl h24 ?_
      refine W.ok (ok_lenS st9 rfl) ?_
      refine W.yes (dj := 26) rfl rfl h24 ?_
      refine W.ok (ok_gtr rfl rfl) ?_
      refine W.ok (ok_pick_f rfl h24) ?_
      refine W.mv ?_
      refine W.sp 31 rfl (fun h29 => ?_) (fun h29 => ?_)
      · have p29 := of_decide_eq_true h29
        refine W.no (dj := 31) rfl rfl h29 ?_
        refine W.no (dj := 31) rfl rfl h29 ?_
        refine W.no (dj := 31) rfl rfl h29 ?_
        refine W.ok (ok_pick_t rfl h29) ?_
        refine W.mv ?_
        refine W.no (dj := 36) rfl rfl rfl ?_
        refine W.no (dj := 36) rfl rfl rfl ?_
        refine W.no (dj := 36) rfl rfl rfl ?_
        refine W.no (dj := 36) rfl rfl rfl ?_
        refine W.ok (ok_pick_t rfl rfl) ?_
        refine W.nil (thn_n ?_)
        refine WC.cond_t rfl rfl ?_
        refine WC.seq ?_
        refine WC.region ?_
        refine W.qcall (awake14_fc) rfl ?_
        refine W.as ?_
        refine W.nil (thn_n ?_)
        refine WC.ret (thn_r ?_)
        refine ⟨.inr rfl, [_], ⟨rfl, trivial⟩, [], List.nil_sublist _, ?_⟩
        rfl
      · have p29 := of_decide_eq_false h29
        refine W.yes (dj := 31) rfl rfl h29 ?_
        refine W.ok (ok_loadB (i := 1) (vs := [.int .i64 _, .string _]) ty88 rfl rfl rfl rfl (by simp)) ?_
        refine W.yes (dj := 31) rfl rfl h29 ?_
        refine W.qcall (reffr_fc _ _) rfl ?_
        refine W.yes (dj := 31) rfl rfl h29 ?_
        refine W.ok (ok_not rfl) ?_
        refine W.ok (ok_pick_f rfl h29) ?_
        refine W.mv ?_
        refine W.sp 36 rfl (fun h34 => ?_) (fun h34 => ?_)
        · refine W.no (dj := 36) rfl rfl h34 ?_
          refine W.no (dj := 36) rfl rfl h34 ?_
          refine W.no (dj := 36) rfl rfl h34 ?_
          refine W.no (dj := 36) rfl rfl h34 ?_
          refine W.ok (ok_pick_t rfl h34) ?_
          refine W.nil (thn_n ?_)
          refine WC.cond_t rfl rfl ?_
          refine WC.seq ?_
          refine WC.region ?_
          refine W.qcall (awake14_fc) rfl ?_
          refine W.as ?_
          refine W.nil (thn_n ?_)
          refine WC.ret (thn_r ?_)
          refine ⟨.inr rfl, [_], ⟨rfl, trivial⟩, [], List.nil_sublist _, ?_⟩
          rfl
        · refine W.yes (dj := 36) rfl rfl h34 ?_
          refine W.ok (ok_loadB (i := 0) (vs := [.string _, .string _, .bool _]) ty68 rfl rfl rfl rfl (by simp)) ?_
          refine W.yes (dj := 36) rfl rfl h34 ?_
          refine W.ok (ok_loadB (i := 0) (vs := [.string _, .string _, .bool _]) ty68 rfl rfl rfl rfl (by simp)) ?_
          refine W.yes (dj := 36) rfl rfl h34 ?_
          refine W.qcall (short_fc _ _ _ _ _ _ S_ _) rfl ?_
          refine W.yes (dj := 36) rfl rfl h34 ?_
          refine W.ok (ok_not rfl) ?_
          refine W.ok (ok_pick_f rfl h34) ?_
          refine W.nil (thn_n ?_)
          refine WC.cond (b := _) rfl (fun h40 => ?_) (fun h40 => ?_)
          · refine WC.seq ?_
            refine WC.region ?_
            refine W.qcall (awake14_fc) rfl ?_
            refine W.as ?_
            refine W.nil (thn_n ?_)
            refine WC.ret (thn_r ?_)
            refine ⟨.inr rfl, [_], ⟨rfl, trivial⟩, [], List.nil_sublist _, ?_⟩
            rfl
          · have hP : PairsR l := by simpa using h24
            have q1 := longG_len Pair.w_pos (l := l) (n := 0) (m := 2000) (by simpa using h20)
            have q3 : longG Pair.w l 0 2000 ≤ 2000 := by simpa using h20
            have hn : l.length ≤ 1000000 := by omega
            have hr := hP.srt
            have he0 : effR (⟨ek, ev⟩ : Eff) = true := by simpa using h34
            have he : ev.b.size ≤ 16 := effR_val he0
            have hw := fun (h : fitsN l k (⟨ek, ev⟩ : Eff) n = true) => rowWithN_t h
            have hw2 := fun (h : fitsN l k (⟨ek, ev⟩ : Eff) n = false) => rowWithN_f h
            refine WC.skip (thn_n ?_)
            refine WC.seq ?_
            refine WC.region ?_
            refine W.mv ?_
            refine W.mv ?_
            refine W.qcall (rfind_fc h_l _ (by assumption)) rfl ?_
            refine W.mv ?_
            refine W.ok (ok_extract rfl rfl) ?_
            refine W.ok (ok_extract rfl rfl) ?_
            refine W.as ?_
            refine W.as ?_
            refine W.nil (thn_n ?_)
            refine WC.seq ?_
            refine WC.region ?_
            refine W.mv ?_
            refine W.mv ?_
            refine W.qcall (rget_fc h_l _) rfl ?_
            refine W.mv ?_
            refine W.ok (ok_extract rfl rfl) ?_
            refine W.ok (ok_extract rfl rfl) ?_
            refine W.as ?_
            refine W.as ?_
            refine W.nil (thn_n ?_)
            refine WC.seq ?_
            refine WC.region ?_
            refine W.mv ?_
            refine W.mv ?_
            refine W.ok (ok_loadB (i := 1) (vs := [.int .i64 _, .string _]) ty88 rfl rfl rfl rfl (by simp)) ?_
            refine W.mv ?_
            refine W.call (Mp := []) (rowwith_fc h_l _ _ _ _ (by first | assumption | omega | (simp; omega) | (exact PairsR.fold (by assumption) (by assumption))) (by first | assumption | omega | (simp; omega) | (exact PairsR.fold (by assumption) (by assumption))) (by first | assumption | omega | (dsimp only; omega) | (simp; omega))) rfl (List.Perm.refl _) ?_
            intro _ G3 _ hG3 q5
            refine match q5 with | ⟨e_6, _, e_7, _, e_8, hv4⟩ => ?_
            subst e_6
            subst e_7
            subst e_8
            have q10 := hv4.form
            refine match q10 with | ⟨sa_hv4, sc_hv4, e_9⟩ => ?_
            subst e_9
            refine W.mv ?_
            refine W.ok (ok_extract rfl rfl) ?_
            refine W.ok (ok_extract rfl rfl) ?_
            refine W.as ?_
            refine W.as ?_
            refine W.nil (thn_n ?_)
            refine WC.seq ?_
            refine WC.region ?_
            refine W.mv ?_
            refine W.mv ?_
            refine W.ok (ok_loadB (i := 1) (vs := [.int .i64 _, .string _]) ty88 rfl rfl rfl rfl (by simp)) ?_
            refine W.mv ?_
            refine W.qcall (fits14_fc (h_l.mono hG3) _ _ _ _) rfl ?_
            refine W.as ?_
            refine W.nil (thn_n ?_)
            refine WC.seq ?_
            refine WC.seq ?_
            refine WC.region ?_
            refine W.mv ?_
            refine W.mv ?_
            refine W.mv ?_
            refine W.qcall (less14_fc (h_l.mono hG3) _) rfl ?_
            refine W.ok (ok_neq rfl rfl) ?_
            refine W.mv ?_
            refine W.sp 73 rfl (fun h72 => ?_) (fun h72 => ?_)
            · have p72 := nd_t h72
              exact absurd rfl p72
            · have p72 := nd_f h72
              refine W.yes (dj := 73) rfl rfl h72 ?_
              refine W.mv ?_
              refine W.yes (dj := 73) rfl rfl h72 ?_
              refine W.mv ?_
              refine W.yes (dj := 73) rfl rfl h72 ?_
              refine W.ok (ok_neqB bo4 rfl rfl) ?_
              refine W.ok (ok_pick_f rfl h72) ?_
              refine W.mv ?_
              refine W.sp 78 rfl (fun h76 => ?_) (fun h76 => ?_)
              · simp at h76
              · refine W.yes (dj := 78) rfl rfl h76 ?_
                refine W.mv ?_
                refine W.yes (dj := 78) rfl rfl h76 ?_
                refine W.mv ?_
                refine W.yes (dj := 78) rfl rfl h76 ?_
                refine W.ok (ok_loadB (i := 1) (vs := [.int .i64 _, .string _]) ty88 rfl rfl rfl rfl (by simp)) ?_
                refine W.yes (dj := 78) rfl rfl h76 ?_
                refine W.mv ?_
                refine W.yes (dj := 78) rfl rfl h76 ?_
                refine W.qcall (rowfits_fc (h_l.mono hG3) _ _ _ _ (by assumption)) rfl ?_
                refine W.yes (dj := 78) rfl rfl h76 ?_
                refine W.mv ?_
                refine W.yes (dj := 78) rfl rfl h76 ?_
                refine W.ok (ok_neqB bo4 rfl rfl) ?_
                refine W.ok (ok_pick_f rfl h76) ?_
                refine W.mv ?_
                refine W.sp 87 rfl (fun h85 => ?_) (fun h85 => ?_)
                · simp at h85
                · refine W.yes (dj := 87) rfl rfl h85 ?_
                  refine W.mv ?_
                  refine W.yes (dj := 87) rfl rfl h85 ?_
                  refine W.mv ?_
                  refine W.yes (dj := 87) rfl rfl h85 ?_
                  refine W.ok (ok_neqB bo4 rfl rfl) ?_
                  refine W.ok (ok_pick_f rfl h85) ?_
                  refine W.mv ?_
                  refine W.sp 92 rfl (fun h90 => ?_) (fun h90 => ?_)
                  · unfold rowWithN at h90; split at h90 <;> simp_all
                  · refine W.yes (dj := 92) rfl rfl h90 ?_
                    refine W.mv ?_
                    refine W.yes (dj := 92) rfl rfl h90 ?_
                    refine W.mv ?_
                    refine W.sp 94 rfl (fun h67 => ?_) (fun h67 => ?_)
                    · refine W.yes (dj := 94) rfl rfl h67 ?_
                      refine W.mv ?_
                      refine W.yes (dj := 94) rfl rfl h67 ?_
                      refine W.mv ?_
                      refine W.yes (dj := 94) rfl rfl h67 ?_
                      refine W.mv ?_
                      refine W.yes (dj := 94) rfl rfl h67 ?_
                      refine W.ok (ok_loadB (i := 1) (vs := [.int .i64 _, .string _]) ty88 rfl rfl rfl rfl (by simp)) ?_
                      refine W.yes (dj := 94) rfl rfl h67 ?_
                      refine W.call (Mp := []) (rwith_fc (h_l.mono hG3) _ _ _ (by first | assumption | omega | (simp; omega) | (exact PairsR.fold (by assumption) (by assumption))) (by first | assumption | omega | (simp; omega) | (exact PairsR.fold (by assumption) (by assumption))) (by first | assumption | omega | (dsimp only; omega) | (simp; omega))) rfl (List.Perm.refl _) ?_
                      intro _ G11 _ hG11 q13
                      refine match q13 with | ⟨e_14, _, e_15, hv12⟩ => ?_
                      subst e_14
                      subst e_15
                      have q17 := hv12.form
                      refine match q17 with | ⟨sa_hv12, sc_hv12, e_16⟩ => ?_
                      subst e_16
                      refine W.yes (dj := 94) rfl rfl h67 ?_
                      refine W.qcall ((samep_fc (hv4.mono hG11) hv12).mono (fun v _ _ _ hv => hv.trans (congrArg Value.bool (decide_eq_true (by rw [hw (by assumption)]))))) rfl ?_
                      refine W.yes (dj := 94) rfl rfl h67 ?_
                      refine W.ok (ok_not rfl) ?_
                      refine W.yes (dj := 92) rfl rfl h90 ?_
                      refine W.ok (ok_pick_t rfl h67) ?_
                      refine W.ok (ok_pick_f rfl h90) ?_
                      refine W.mv ?_
                      refine W.yes (dj := 104) rfl rfl rfl ?_
                      refine W.mv ?_
                      refine W.yes (dj := 104) rfl rfl rfl ?_
                      refine W.ok (ok_not rfl) ?_
                      refine W.yes (dj := 104) rfl rfl rfl ?_
                      refine W.mv ?_
                      refine W.no (dj := 107) rfl rfl (congrArg not h67) ?_
                      refine W.no (dj := 107) rfl rfl (congrArg not h67) ?_
                      refine W.no (dj := 107) rfl rfl (congrArg not h67) ?_
                      refine W.yes (dj := 104) rfl rfl rfl ?_
                      refine W.ok (ok_pick_f rfl (congrArg not h67)) ?_
                      refine W.ok (ok_pick_f rfl rfl) ?_
                      refine W.nil (thn_n ?_)
                      refine WC.cond_f rfl rfl ?_
                      refine WC.skip (thn_n ?_)
                      refine WC.seq ?_
                      refine WC.drawW _ (((List.Sublist.refl _).cons_cons _).cons_cons _) mix (by rintro _ _ _ _ ⟨h | h, _⟩ <;> cases h) ?_
                      refine WD.take 0 rfl rfl rfl (by kernel_rfl) (by kernel_rfl) (by kernel_rfl) (ok_mv) ?_
                      refine WD.take 1 rfl rfl rfl (by kernel_rfl) (by kernel_rfl) (by kernel_rfl) (ok_loadB (i := 0) (vs := [.string _, .string _, .bool _]) ty68 rfl rfl rfl rfl (by simp)) ?_
                      refine WD.take 3 rfl rfl rfl (by kernel_rfl) (by kernel_rfl) (by kernel_rfl) (ok_mv) ?_
                      refine WD.take 4 rfl rfl rfl (by kernel_rfl) (by kernel_rfl) (by kernel_rfl) (ok_loadB (i := 0) (vs := [.string _, .string _, .bool _]) ty68 rfl rfl rfl rfl (by simp)) ?_
                      refine WD.take 5 rfl rfl rfl (by kernel_rfl) (by kernel_rfl) (by kernel_rfl) (ok_mv) ?_
                      refine WD.take 6 rfl rfl rfl (by kernel_rfl) (by kernel_rfl) (by kernel_rfl) (ok_len sl22 (h_l.mono (hG3.trans hG11)) rfl) ?_
                      refine WD.any [2] (by kernel_rfl) rfl ⟨⟨_, rfl, rfl, ?_⟩, trivial⟩
                      refine W.call (Mp := []) (within_fc (h_l.mono (hG3.trans hG11)) _ _ _ (by first | assumption | omega | (simp; omega) | (exact PairsR.fold (by assumption) (by assumption)))) rfl (List.Perm.refl _) ?_
                      intro _ G18 _ hG18 q20
                      refine match q20 with | ⟨e_21, _, e_22, hv19⟩ => ?_
                      subst e_21
                      subst e_22
                      have q24 := hv19.form
                      refine match q24 with | ⟨sa_hv19, sc_hv19, e_23⟩ => ?_
                      subst e_23
                      refine W.nil ⟨hG18, ((List.Sublist.refl _).cons_cons _).cons_cons _, _, ((List.Sublist.refl _).cons_cons _).cons_cons _, List.Sublist.refl _, ?_⟩
                      refine WD.any [7] (by kernel_rfl) rfl ⟨⟨_, rfl, rfl, ?_⟩, trivial⟩
                      refine W.call (Mp := []) (rscan_fc (h_l.mono ((hG3.trans hG11).trans hG18)) _ _ _ _ (by first | assumption | omega | (simp; omega) | (exact PairsR.fold (by assumption) (by assumption)))) rfl (List.Perm.refl _) ?_
                      intro _ G25 _ hG25 q27
                      refine match q27 with | ⟨e_28, _, e_29, hv26⟩ => ?_
                      subst e_28
                      subst e_29
                      have q31 := hv26.form
                      refine match q31 with | ⟨sa_hv26, sc_hv26, e_30⟩ => ?_
                      subst e_30
                      refine W.nil ⟨hG25, ((List.Sublist.refl _).cons_cons _).cons_cons _, _, ((List.Sublist.refl _).cons_cons _).cons_cons _, List.Sublist.refl _, ?_⟩
                      refine WD.any [8] (by kernel_rfl) rfl ⟨⟨_, rfl, rfl, ?_⟩, trivial⟩
                      refine W.qcall ((samep_fc (hv19.mono hG25) hv26).mono (fun v _ _ _ hv => hv.trans (congrArg Value.bool (decide_eq_true (scan_whole _ _).symm)))) rfl ?_
                      refine W.nil ⟨Le.rfl, ((List.Sublist.refl _).cons_cons _).cons_cons _, _, ((List.Sublist.refl _).cons_cons _).cons_cons _, List.Sublist.refl _, ?_⟩
                      refine WD.take 9 rfl rfl rfl (by kernel_rfl) (by kernel_rfl) (by kernel_rfl) (ok_mv) ?_
                      refine WD.anyG [10] (by kernel_rfl) rfl ⟨⟨_, rfl, .inr ⟨_, 122, _, _, rfl, rfl, rfl, rfl, rfl⟩, ?_⟩, trivial⟩
                      refine W.qcall (awake14_fc) rfl ?_
                      refine W.nil ⟨Le.rfl, ((List.Sublist.refl _).cons_cons _).cons_cons _, _, ((List.Sublist.refl _).cons_cons _).cons_cons _, List.Sublist.refl _, ?_⟩
                      refine WD.take 11 rfl rfl rfl (by kernel_rfl) (by kernel_rfl) (by kernel_rfl) (ok_pick_t rfl rfl) ?_
                      refine WD.take 12 rfl rfl rfl (by kernel_rfl) (by kernel_rfl) (by kernel_rfl) (ok_as) ?_
                      refine WD.done (by kernel_rfl) (thn_n ?_)
                      refine WC.ret ?_
                      refine ⟨.inr rfl, [_], ⟨rfl, trivial⟩, [], List.nil_sublist _, ?_⟩
                      rfl
                    · refine W.no (dj := 94) rfl rfl h67 ?_
                      refine W.no (dj := 94) rfl rfl h67 ?_
                      refine W.no (dj := 94) rfl rfl h67 ?_
                      refine W.no (dj := 94) rfl rfl h67 ?_
                      refine W.no (dj := 94) rfl rfl h67 ?_
                      refine W.no (dj := 94) rfl rfl h67 ?_
                      refine W.no (dj := 94) rfl rfl h67 ?_
                      refine W.yes (dj := 92) rfl rfl h90 ?_
                      refine W.ok (ok_pick_f rfl h67) ?_
                      refine W.ok (ok_pick_f rfl h90) ?_
                      refine W.mv ?_
                      refine W.yes (dj := 104) rfl rfl rfl ?_
                      refine W.mv ?_
                      refine W.yes (dj := 104) rfl rfl rfl ?_
                      refine W.ok (ok_not rfl) ?_
                      refine W.yes (dj := 104) rfl rfl rfl ?_
                      refine W.mv ?_
                      refine W.yes (dj := 107) rfl rfl (congrArg not h67) ?_
                      refine W.mv ?_
                      refine W.yes (dj := 107) rfl rfl (congrArg not h67) ?_
                      refine W.ok (ok_len sl22 hv4 rfl) ?_
                      refine W.yes (dj := 107) rfl rfl (congrArg not h67) ?_
                      refine W.ok (ok_gtr rfl rfl) ?_
                      refine W.yes (dj := 104) rfl rfl rfl ?_
                      refine W.ok (ok_pick_t rfl (congrArg not h67)) ?_
                      refine W.ok (ok_pick_f rfl rfl) ?_
                      refine W.nil (thn_n ?_)
                      refine WC.cond (b := _) rfl (fun h110 => ?_) (fun h110 => ?_)
                      · have p110 := of_decide_eq_true h110
                        have h := hw2 (by assumption); rw [h] at h110; simp at h110
                      · have p110 := of_decide_eq_false h110
                        refine WC.skip (thn_n ?_)
                        refine WC.seq ?_
                        refine WC.drawW _ (((List.Sublist.refl _).cons_cons _).cons_cons _) mix (by rintro _ _ _ _ ⟨h | h, _⟩ <;> cases h) ?_
                        refine WD.take 0 rfl rfl rfl (by kernel_rfl) (by kernel_rfl) (by kernel_rfl) (ok_mv) ?_
                        refine WD.take 1 rfl rfl rfl (by kernel_rfl) (by kernel_rfl) (by kernel_rfl) (ok_loadB (i := 0) (vs := [.string _, .string _, .bool _]) ty68 rfl rfl rfl rfl (by simp)) ?_
                        refine WD.take 3 rfl rfl rfl (by kernel_rfl) (by kernel_rfl) (by kernel_rfl) (ok_mv) ?_
                        refine WD.take 4 rfl rfl rfl (by kernel_rfl) (by kernel_rfl) (by kernel_rfl) (ok_loadB (i := 0) (vs := [.string _, .string _, .bool _]) ty68 rfl rfl rfl rfl (by simp)) ?_
                        refine WD.take 5 rfl rfl rfl (by kernel_rfl) (by kernel_rfl) (by kernel_rfl) (ok_mv) ?_
                        refine WD.take 6 rfl rfl rfl (by kernel_rfl) (by kernel_rfl) (by kernel_rfl) (ok_len sl22 (h_l.mono hG3) rfl) ?_
                        refine WD.any [2] (by kernel_rfl) rfl ⟨⟨_, rfl, rfl, ?_⟩, trivial⟩
                        refine W.call (Mp := []) (within_fc (h_l.mono hG3) _ _ _ (by first | assumption | omega | (simp; omega) | (exact PairsR.fold (by assumption) (by assumption)))) rfl (List.Perm.refl _) ?_
                        intro _ G32 _ hG32 q34
                        refine match q34 with | ⟨e_35, _, e_36, hv33⟩ => ?_
                        subst e_35
                        subst e_36
                        have q38 := hv33.form
                        refine match q38 with | ⟨sa_hv33, sc_hv33, e_37⟩ => ?_
                        subst e_37
                        refine W.nil ⟨hG32, ((List.Sublist.refl _).cons_cons _).cons_cons _, _, ((List.Sublist.refl _).cons_cons _).cons_cons _, List.Sublist.refl _, ?_⟩
                        refine WD.any [7] (by kernel_rfl) rfl ⟨⟨_, rfl, rfl, ?_⟩, trivial⟩
                        refine W.call (Mp := []) (rscan_fc (h_l.mono (hG3.trans hG32)) _ _ _ _ (by first | assumption | omega | (simp; omega) | (exact PairsR.fold (by assumption) (by assumption)))) rfl (List.Perm.refl _) ?_
                        intro _ G39 _ hG39 q41
                        refine match q41 with | ⟨e_42, _, e_43, hv40⟩ => ?_
                        subst e_42
                        subst e_43
                        have q45 := hv40.form
                        refine match q45 with | ⟨sa_hv40, sc_hv40, e_44⟩ => ?_
                        subst e_44
                        refine W.nil ⟨hG39, ((List.Sublist.refl _).cons_cons _).cons_cons _, _, ((List.Sublist.refl _).cons_cons _).cons_cons _, List.Sublist.refl _, ?_⟩
                        refine WD.any [8] (by kernel_rfl) rfl ⟨⟨_, rfl, rfl, ?_⟩, trivial⟩
                        refine W.qcall ((samep_fc (hv33.mono hG39) hv40).mono (fun v _ _ _ hv => hv.trans (congrArg Value.bool (decide_eq_true (scan_whole _ _).symm)))) rfl ?_
                        refine W.nil ⟨Le.rfl, ((List.Sublist.refl _).cons_cons _).cons_cons _, _, ((List.Sublist.refl _).cons_cons _).cons_cons _, List.Sublist.refl _, ?_⟩
                        refine WD.take 9 rfl rfl rfl (by kernel_rfl) (by kernel_rfl) (by kernel_rfl) (ok_mv) ?_
                        refine WD.anyG [10] (by kernel_rfl) rfl ⟨⟨_, rfl, .inr ⟨_, 122, _, _, rfl, rfl, rfl, rfl, rfl⟩, ?_⟩, trivial⟩
                        refine W.qcall (awake14_fc) rfl ?_
                        refine W.nil ⟨Le.rfl, ((List.Sublist.refl _).cons_cons _).cons_cons _, _, ((List.Sublist.refl _).cons_cons _).cons_cons _, List.Sublist.refl _, ?_⟩
                        refine WD.take 11 rfl rfl rfl (by kernel_rfl) (by kernel_rfl) (by kernel_rfl) (ok_pick_t rfl rfl) ?_
                        refine WD.take 12 rfl rfl rfl (by kernel_rfl) (by kernel_rfl) (by kernel_rfl) (ok_as) ?_
                        refine WD.done (by kernel_rfl) (thn_n ?_)
                        refine WC.ret ?_
                        refine ⟨.inr rfl, [_], ⟨rfl, trivial⟩, [], List.nil_sublist _, ?_⟩
                        rfl

end Go.Proofs.Ytipdjeemjiimbaa
