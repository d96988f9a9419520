/- The law MergeViews is walked. -/
import Derived.Test.YtipdjeemjiimbaaWh
import Derived.Test.YtipdjeemjiimbaaW8
import Derived.Test.YtipdjeemjiimbaaA24
namespace Go.Proofs.Ytipdjeemjiimbaa
open Go Go.Fw Go.RowKit
set_option maxRecDepth 100000
set_option maxHeartbeats 1600000
set_option linter.unusedVariables false
set_option linter.unusedSimpArgs false
set_option linter.unnecessarySimpa false
theorem mergeViews_fc {G : GH} {v_l : Value} {l : List Pair} (h_l : SlR ePair G v_l l) (slo : Str) (shi : Str) (so : Bool) {v_ms : Value} {ms : List Msg} (h_ms : SlR eMsg G v_ms ms) (k : Str) :
    Fc Try.prog 17 [v_l, .agg #[.string slo.b, .string shi.b, .bool so], v_ms, .string k.b] G [] (fun v _ _ => v = .bool (true)) := by
  obtain ⟨sa_l, sc_l, rfl⟩ := h_l.form
  obtain ⟨sa_ms, sc_ms, rfl⟩ := h_ms.form
  have hl := h_l.len47
  have hlm := h_ms.len47
  have hk := k.le
  refine Fc.intro (rs := [.tmp 8]) cl17 Try.func17 rfl Try.ntmps17 rfl rfl (fun w0 => ?_)
  refine WC.seq ?_
  refine WC.region ?_
  refine W.box (L := [.string _, .string _, .bool _]) rfl rfl (fun b1 => ?_)
  refine W.as ?_
  refine W.nil (thn_n ?_)
  refine WC.seq ?_
  refine WC.seq ?_
  refine WC.region ?_
  refine W.mv ?_
  refine W.qcall (longp_fc h_l _ (by omega)) rfl ?_
  refine W.ok (ok_not rfl) ?_
  refine W.mv ?_
  refine W.sp 17 rfl (fun h16 => ?_) (fun h16 => ?_)
  · refine W.no (dj := 17) rfl rfl h16 ?_
    refine W.no (dj := 17) rfl rfl h16 ?_
    refine W.no (dj := 17) rfl rfl h16 ?_
    refine W.ok (ok_pick_t rfl h16) ?_
    refine W.mv ?_
    refine W.no (dj := 22) rfl rfl rfl ?_
    refine W.no (dj := 22) rfl rfl rfl ?_
    refine W.no (dj := 22) rfl rfl rfl ?_
    refine W.ok (ok_pick_t rfl rfl) ?_
    refine W.mv ?_
    refine W.no (dj := 27) rfl rfl rfl ?_
    refine W.no (dj := 27) rfl rfl rfl ?_
    refine W.no (dj := 27) rfl rfl rfl ?_
    refine W.ok (ok_pick_t rfl rfl) ?_
    refine W.mv ?_
    refine W.no (dj := 32) rfl rfl rfl ?_
    refine W.no (dj := 32) rfl rfl rfl ?_
    refine W.no (dj := 32) rfl rfl rfl ?_
    refine W.no (dj := 32) rfl rfl rfl ?_
    refine W.ok (ok_pick_t rfl rfl) ?_
    refine W.mv ?_
    refine W.no (dj := 38) rfl rfl rfl ?_
    refine W.no (dj := 38) rfl rfl rfl ?_
    refine W.no (dj := 38) rfl rfl rfl ?_
    refine W.ok (ok_pick_t rfl rfl) ?_
    refine W.nil (thn_n ?_)
    refine WC.cond_t rfl rfl ?_
    refine WC.seq ?_
    refine WC.region ?_
    refine W.qcall (awake24_fc) rfl ?_
    refine W.as ?_
    refine W.nil (thn_n ?_)
    refine WC.ret (thn_r ?_)
    refine ⟨.inr rfl, [_], ⟨rfl, trivial⟩, [], List.nil_sublist _, ?_⟩
    rfl
  · refine W.yes (dj := 17) rfl rfl h16 ?_
    refine W.mv ?_
    refine W.yes (dj := 17) rfl rfl h16 ?_
    refine W.qcall (rightp_fc h_l) rfl ?_
    refine W.yes (dj := 17) rfl rfl h16 ?_
    refine W.ok (ok_not rfl) ?_
    refine W.ok (ok_pick_f rfl h16) ?_
    refine W.mv ?_
    refine W.sp 22 rfl (fun h20 => ?_) (fun h20 => ?_)
    · refine W.no (dj := 22) rfl rfl h20 ?_
      refine W.no (dj := 22) rfl rfl h20 ?_
      refine W.no (dj := 22) rfl rfl h20 ?_
      refine W.ok (ok_pick_t rfl h20) ?_
      refine W.mv ?_
      refine W.no (dj := 27) rfl rfl rfl ?_
      refine W.no (dj := 27) rfl rfl rfl ?_
      refine W.no (dj := 27) rfl rfl rfl ?_
      refine W.ok (ok_pick_t rfl rfl) ?_
      refine W.mv ?_
      refine W.no (dj := 32) rfl rfl rfl ?_
      refine W.no (dj := 32) rfl rfl rfl ?_
      refine W.no (dj := 32) rfl rfl rfl ?_
      refine W.no (dj := 32) rfl rfl rfl ?_
      refine W.ok (ok_pick_t rfl rfl) ?_
      refine W.mv ?_
      refine W.no (dj := 38) rfl rfl rfl ?_
      refine W.no (dj := 38) rfl rfl rfl ?_
      refine W.no (dj := 38) rfl rfl rfl ?_
      refine W.ok (ok_pick_t rfl rfl) ?_
      refine W.nil (thn_n ?_)
      refine WC.cond_t rfl rfl ?_
      refine WC.seq ?_
      refine WC.region ?_
      refine W.qcall (awake24_fc) rfl ?_
      refine W.as ?_
      refine W.nil (thn_n ?_)
      refine WC.ret (thn_r ?_)
      refine ⟨.inr rfl, [_], ⟨rfl, trivial⟩, [], List.nil_sublist _, ?_⟩
      rfl
    · refine W.yes (dj := 22) rfl rfl h20 ?_
      refine W.mv ?_
      refine W.yes (dj := 22) rfl rfl h20 ?_
      refine W.qcall (few_fc h_ms _ (by omega)) rfl ?_
      refine W.yes (dj := 22) rfl rfl h20 ?_
      refine W.ok (ok_not rfl) ?_
      refine W.ok (ok_pick_f rfl h20) ?_
      refine W.mv ?_
      refine W.sp 27 rfl (fun h25 => ?_) (fun h25 => ?_)
      · refine W.no (dj := 27) rfl rfl h25 ?_
        refine W.no (dj := 27) rfl rfl h25 ?_
        refine W.no (dj := 27) rfl rfl h25 ?_
        refine W.ok (ok_pick_t rfl h25) ?_
        refine W.mv ?_
        refine W.no (dj := 32) rfl rfl rfl ?_
        refine W.no (dj := 32) rfl rfl rfl ?_
        refine W.no (dj := 32) rfl rfl rfl ?_
        refine W.no (dj := 32) rfl rfl rfl ?_
        refine W.ok (ok_pick_t rfl rfl) ?_
        refine W.mv ?_
        refine W.no (dj := 38) rfl rfl rfl ?_
        refine W.no (dj := 38) rfl rfl rfl ?_
        refine W.no (dj := 38) rfl rfl rfl ?_
        refine W.ok (ok_pick_t rfl rfl) ?_
        refine W.nil (thn_n ?_)
        refine WC.cond_t rfl rfl ?_
        refine WC.seq ?_
        refine WC.region ?_
        refine W.qcall (awake24_fc) rfl ?_
        refine W.as ?_
        refine W.nil (thn_n ?_)
        refine WC.ret (thn_r ?_)
        refine ⟨.inr rfl, [_], ⟨rfl, trivial⟩, [], List.nil_sublist _, ?_⟩
        rfl
      · refine W.yes (dj := 27) rfl rfl h25 ?_
        refine W.mv ?_
        refine W.yes (dj := 27) rfl rfl h25 ?_
        refine W.qcall (mall_fc h_ms) rfl ?_
        refine W.yes (dj := 27) rfl rfl h25 ?_
        refine W.ok (ok_not rfl) ?_
        refine W.ok (ok_pick_f rfl h25) ?_
        refine W.mv ?_
        refine W.sp 32 rfl (fun h30 => ?_) (fun h30 => ?_)
        · refine W.no (dj := 32) rfl rfl h30 ?_
          refine W.no (dj := 32) rfl rfl h30 ?_
          refine W.no (dj := 32) rfl rfl h30 ?_
          refine W.no (dj := 32) rfl rfl h30 ?_
          refine W.ok (ok_pick_t rfl h30) ?_
          refine W.mv ?_
          refine W.no (dj := 38) rfl rfl rfl ?_
          refine W.no (dj := 38) rfl rfl rfl ?_
          refine W.no (dj := 38) rfl rfl rfl ?_
          refine W.ok (ok_pick_t rfl rfl) ?_
          refine W.nil (thn_n ?_)
          refine WC.cond_t rfl rfl ?_
          refine WC.seq ?_
          refine WC.region ?_
          refine W.qcall (awake24_fc) rfl ?_
          refine W.as ?_
          refine W.nil (thn_n ?_)
          refine WC.ret (thn_r ?_)
          refine ⟨.inr rfl, [_], ⟨rfl, trivial⟩, [], List.nil_sublist _, ?_⟩
          rfl
        · refine W.yes (dj := 32) rfl rfl h30 ?_
          refine W.ok (ok_loadB (i := 0) (vs := [.string _, .string _, .bool _]) ty68 rfl rfl rfl rfl (by simp)) ?_
          refine W.yes (dj := 32) rfl rfl h30 ?_
          refine W.ok (ok_loadB (i := 0) (vs := [.string _, .string _, .bool _]) ty68 rfl rfl rfl rfl (by simp)) ?_
          refine W.yes (dj := 32) rfl rfl h30 ?_
          refine W.qcall (short_fc _ _ _ _ _ _ S_ _) rfl ?_
          refine W.yes (dj := 32) rfl rfl h30 ?_
          refine W.ok (ok_not rfl) ?_
          refine W.ok (ok_pick_f rfl h30) ?_
          refine W.mv ?_
          refine W.sp 38 rfl (fun h36 => ?_) (fun h36 => ?_)
          · refine W.no (dj := 38) rfl rfl h36 ?_
            refine W.no (dj := 38) rfl rfl h36 ?_
            refine W.no (dj := 38) rfl rfl h36 ?_
            refine W.ok (ok_pick_t rfl h36) ?_
            refine W.nil (thn_n ?_)
            refine WC.cond_t rfl rfl ?_
            refine WC.seq ?_
            refine WC.region ?_
            refine W.qcall (awake24_fc) rfl ?_
            refine W.as ?_
            refine W.nil (thn_n ?_)
            refine WC.ret (thn_r ?_)
            refine ⟨.inr rfl, [_], ⟨rfl, trivial⟩, [], List.nil_sublist _, ?_⟩
            rfl
          · refine W.yes (dj := 38) rfl rfl h36 ?_
            refine W.mv ?_
            refine W.yes (dj := 38) rfl rfl h36 ?_
            refine W.ok (ok_lenS st9 rfl) ?_
            refine W.yes (dj := 38) rfl rfl h36 ?_
            refine W.ok (ok_gtr rfl rfl) ?_
            refine W.ok (ok_pick_f rfl h36) ?_
            refine W.nil (thn_n ?_)
            refine WC.cond (b := _) rfl (fun h41 => ?_) (fun h41 => ?_)
            · have p41 := of_decide_eq_true h41
              refine WC.seq ?_
              refine WC.region ?_
              refine W.qcall (awake24_fc) rfl ?_
              refine W.as ?_
              refine W.nil (thn_n ?_)
              refine WC.ret (thn_r ?_)
              refine ⟨.inr rfl, [_], ⟨rfl, trivial⟩, [], List.nil_sublist _, ?_⟩
              rfl
            · have p41 := of_decide_eq_false h41
              have hP : PairsR l := by simpa using h20
              have hR : MsgsR ms := by simpa using h30
              have q1 := longG_len Pair.w_pos (l := l) (n := 0) (m := 2000) (by simpa using h16)
              have q2 := longG_len Msg.w_pos (l := ms) (n := 0) (m := 2000) (by simpa using h25)
              have q3 : longG Pair.w l 0 2000 ≤ 2000 := by simpa using h16
              have q4 : longG Msg.w ms 0 2000 ≤ 2000 := by simpa using h25
              have hm := hR.sizes
              have hm2 : ∀ m ∈ ms, m.key.b.size < 140737488355328 ∧ m.val.b.size ≤ 16 := fun m h => ⟨by have := (hm m h).1; omega, (hm m h).2⟩
              have hks : ∀ m ∈ ms, m.key.b.size < 140737488355328 := fun m h => (hm2 m h).1
              have hfit : ∀ m ∈ ms, m.fit := fun m h => fit_of (hm m h)
              have hg := getN_fold (k := k) (l := l) (ms := ms) (fun m h => by have := hR.kinds m h; exact ⟨(hm2 m h).1, this⟩)
              have hn : l.length + ms.length ≤ 1000000 := by omega
              have hfl := fold_lenF hP hfit
              have hPf := PairsR.foldF hP hfit
              have hs300 : slo.b.size ≤ 300 := by simp at h36; omega
              have hr := hP.srt
              have gv1 : foldN (l.filter fun p => Span.has ⟨k, k.next, false⟩ p.key) (clips ⟨k, k.next, false⟩ ms) = midN (Eff.apply (onsN ms k) (getN l k)) k := (view_fold hr hks).trans ((point_rows hPf.srt (by omega)).trans (by rw [hg]))
              have gv2 : foldN (l.filter fun p => Span.has ⟨slo, shi, so⟩ p.key) (clips ⟨slo, shi, so⟩ ms) = scanN (foldN l ms) ⟨slo, shi, so⟩ 10000 := (view_fold hr hks).trans (by unfold scanN; exact (List.take_of_length_le (by have := List.length_filter_le (fun p : Pair => Span.has ⟨slo, shi, so⟩ p.key) (foldN l ms); omega)).symm)
              have gv3 : (Eff.apply (onsN ms k) (getN l k)).isSome = true → foldN (l.filter fun p => Span.has ⟨k, k.next, false⟩ p.key) (clips ⟨k, k.next, false⟩ ms) = [⟨k, (Eff.apply (onsN ms k) (getN l k)).getD Str.nil⟩] := fun h => by rw [gv1, isSome_getD (d := Str.nil) h]; rfl
              have gv4 : (Eff.apply (onsN ms k) (getN l k)).isSome = decide (((foldN (l.filter fun p => Span.has ⟨k, k.next, false⟩ p.key) (clips ⟨k, k.next, false⟩ ms)).length : Int) = 1) := by
                rw [gv1]
                generalize Eff.apply (onsN ms k) (getN l k) = o
                cases o <;> simp [midN]
              refine WC.skip (thn_n ?_)
              refine WC.seq ?_
              refine WC.region ?_
              refine W.mv ?_
              refine W.mv ?_
              refine W.mv ?_
              refine W.qcall (merget_fc h_l _ h_ms (by assumption) (by assumption)) rfl ?_
              refine W.mv ?_
              refine W.ok (ok_extract rfl rfl) ?_
              refine W.ok (ok_extract rfl rfl) ?_
              refine W.as ?_
              refine W.as ?_
              refine W.nil (thn_n ?_)
              refine WC.seq ?_
              refine WC.region ?_
              refine W.mv ?_
              refine W.mv ?_
              refine W.call (Mp := []) (rfoldF_fc h_l h_ms (by first | assumption | omega | (simp; omega) | (exact PairsR.fold (by assumption) (by assumption))) (by first | assumption | omega | (simp; omega) | (exact PairsR.fold (by assumption) (by assumption))) (by assumption)) rfl (List.Perm.refl _) ?_
              intro _ G2 _ hG2 q4
              refine match q4 with | ⟨e_5, _, e_6, hv3⟩ => ?_
              subst e_5
              subst e_6
              have q8 := hv3.form
              refine match q8 with | ⟨sa_hv3, sc_hv3, e_7⟩ => ?_
              subst e_7
              refine W.mv ?_
              refine W.qcall (rget_fc hv3 _) rfl ?_
              refine W.mv ?_
              refine W.ok (ok_extract rfl rfl) ?_
              refine W.ok (ok_extract rfl rfl) ?_
              refine W.as ?_
              refine W.as ?_
              refine W.nil (thn_n ?_)
              refine WC.seq ?_
              refine WC.region ?_
              refine W.mv ?_
              refine W.mv ?_
              refine W.mv ?_
              refine W.ok (Ok.str (b := (k.next).b) (ok_addS rfl rfl (by show _ + 1 ≤ _; omega)) ((Str.next_b (by omega)).symm)) ?_
              refine W.ok (ok_build (L := [.string _, .string _, .bool _]) pl68 zr68 rfl rfl rfl) ?_
              refine W.mv ?_
              refine W.call (Mp := []) (mview_fc (h_l.mono hG2) _ _ _ (h_ms.mono hG2) (by first | assumption | omega | (simp; omega) | (exact PairsR.fold (by assumption) (by assumption))) (by first | assumption | omega | (simp; omega) | (exact PairsR.fold (by assumption) (by assumption))) (by first | assumption | omega | (simp; omega) | (exact PairsR.fold (by assumption) (by assumption))) (by first | assumption | omega)) rfl (List.Perm.refl _) ?_
              intro _ G9 _ hG9 q11
              refine match q11 with | ⟨e_12, _, e_13, hv10⟩ => ?_
              subst e_12
              subst e_13
              have q15 := hv10.form
              refine match q15 with | ⟨sa_hv10, sc_hv10, e_14⟩ => ?_
              subst e_14
              refine W.as ?_
              refine W.nil (thn_n ?_)
              refine WC.seq ?_
              refine WC.seq ?_
              refine WC.region ?_
              refine W.mv ?_
              refine W.mv ?_
              refine W.ok (ok_neqS rfl rfl) ?_
              refine W.mv ?_
              refine W.sp 69 rfl (fun h68 => ?_) (fun h68 => ?_)
              · have p68 := nd_t h68
                exact absurd (by rw [hg]) p68
              · have p68 := nd_f h68
                refine W.yes (dj := 69) rfl rfl h68 ?_
                refine W.mv ?_
                refine W.yes (dj := 69) rfl rfl h68 ?_
                refine W.mv ?_
                refine W.yes (dj := 69) rfl rfl h68 ?_
                refine W.ok (ok_neqB bo4 rfl rfl) ?_
                refine W.ok (ok_pick_f rfl h68) ?_
                refine W.mv ?_
                refine W.sp 74 rfl (fun h72 => ?_) (fun h72 => ?_)
                · rw [hg] at h72; simp at h72
                · refine W.yes (dj := 74) rfl rfl h72 ?_
                  refine W.mv ?_
                  refine W.yes (dj := 74) rfl rfl h72 ?_
                  refine W.mv ?_
                  refine W.yes (dj := 74) rfl rfl h72 ?_
                  refine W.ok (ok_len sl22 hv10 rfl) ?_
                  refine W.yes (dj := 74) rfl rfl h72 ?_
                  refine W.ok (ok_eql rfl rfl) ?_
                  refine W.yes (dj := 74) rfl rfl h72 ?_
                  refine W.ok (ok_neqB bo4 rfl rfl) ?_
                  refine W.ok (ok_pick_f rfl h72) ?_
                  refine W.mv ?_
                  refine W.sp 81 rfl (fun h79 => ?_) (fun h79 => ?_)
                  · rw [← gv4] at h79; simp at h79
                  · refine W.yes (dj := 81) rfl rfl h79 ?_
                    refine W.mv ?_
                    refine W.yes (dj := 81) rfl rfl h79 ?_
                    refine W.mv ?_
                    refine W.sp 83 rfl (fun h48_1 => ?_) (fun h48_1 => ?_)
                    · refine W.yes (dj := 83) rfl rfl h48_1 ?_
                      refine W.mv ?_
                      refine W.yes (dj := 83) rfl rfl h48_1 ?_
                      have q18 := hv10.at (i := 0) (by rw [gv3 (by assumption)]; simp)
                      refine match q18 with | ⟨_, he16, e_17⟩ => ?_
                      subst e_17
                      refine W.ok (ok_indexAddr (i := 0) sl22 ty112 hv10 rfl rfl ⟨by omega, by rw [gv3 (by assumption)]; simp⟩) ?_
                      refine W.yes (dj := 83) rfl rfl h48_1 ?_
                      refine W.ok (ok_loadE (vs := [.string _, .string _]) ty112 he16 rfl rfl rfl (by simp)) ?_
                      refine W.yes (dj := 83) rfl rfl h48_1 ?_
                      refine W.mv ?_
                      refine W.yes (dj := 83) rfl rfl h48_1 ?_
                      refine W.mv ?_
                      refine W.yes (dj := 83) rfl rfl h48_1 ?_
                      refine W.ok (ok_build (L := [.string _, .string _]) pl112 zr112 rfl rfl rfl) ?_
                      refine W.yes (dj := 83) rfl rfl h48_1 ?_
                      refine W.ok (ok_neqA (L1 := [.string _, .string _]) (L2 := [.string _, .string _]) eq112 rfl rfl rfl rfl) ?_
                      refine W.yes (dj := 81) rfl rfl h79 ?_
                      refine W.ok (ok_pick_t rfl h48_1) ?_
                      refine W.ok (ok_pick_f rfl h79) ?_
                      refine W.nil (thn_n ?_)
                      refine WC.cond (b := _) rfl (fun h90 => ?_) (fun h90 => ?_)
                      · refine absurd ?_ (Pair.ne_of (b := ⟨k, (Eff.apply (onsN ms k) (getN l k)).getD Str.nil⟩) h90)
                        simp only [gv3 (by assumption)]
                        rfl
                      · refine WC.skip (thn_n ?_)
                        refine WC.seq ?_
                        refine WC.drawW _ ((List.Sublist.refl _).cons_cons _) mix (by rintro _ _ _ _ ⟨h | h, _⟩ <;> cases h) ?_
                        refine WD.take 0 rfl rfl rfl (by kernel_rfl) (by kernel_rfl) (by kernel_rfl) (ok_mv) ?_
                        refine WD.take 1 rfl rfl rfl (by kernel_rfl) (by kernel_rfl) (by kernel_rfl) (ok_loadB (i := 0) (vs := [.string _, .string _, .bool _]) ty68 rfl rfl rfl rfl (by simp)) ?_
                        refine WD.take 2 rfl rfl rfl (by kernel_rfl) (by kernel_rfl) (by kernel_rfl) (ok_mv) ?_
                        refine WD.take 4 rfl rfl rfl (by kernel_rfl) (by kernel_rfl) (by kernel_rfl) (ok_mv) ?_
                        refine WD.take 5 rfl rfl rfl (by kernel_rfl) (by kernel_rfl) (by kernel_rfl) (ok_loadB (i := 0) (vs := [.string _, .string _, .bool _]) ty68 rfl rfl rfl rfl (by simp)) ?_
                        refine WD.take 6 rfl rfl rfl (by kernel_rfl) (by kernel_rfl) (by kernel_rfl) (ok_mv) ?_
                        refine WD.any [3] (by kernel_rfl) rfl ⟨⟨_, rfl, rfl, ?_⟩, trivial⟩
                        refine W.call (Mp := []) (mview_fc (h_l.mono (hG2.trans hG9)) _ _ _ (h_ms.mono (hG2.trans hG9)) (by first | assumption | omega | (simp; omega) | (exact PairsR.fold (by assumption) (by assumption))) (by first | assumption | omega | (simp; omega) | (exact PairsR.fold (by assumption) (by assumption))) (by first | assumption | omega | (simp; omega) | (exact PairsR.fold (by assumption) (by assumption))) (by first | assumption | omega)) rfl (List.Perm.refl _) ?_
                        intro _ G19 _ hG19 q21
                        refine match q21 with | ⟨e_22, _, e_23, hv20⟩ => ?_
                        subst e_22
                        subst e_23
                        have q25 := hv20.form
                        refine match q25 with | ⟨sa_hv20, sc_hv20, e_24⟩ => ?_
                        subst e_24
                        refine W.nil ⟨hG19, (List.Sublist.refl _).cons_cons _, _, (List.Sublist.refl _).cons_cons _, List.Sublist.refl _, ?_⟩
                        refine WD.any [7] (by kernel_rfl) rfl ⟨⟨_, rfl, rfl, ?_⟩, trivial⟩
                        refine W.call (Mp := []) (rview_fc (h_l.mono ((hG2.trans hG9).trans hG19)) _ _ _ (h_ms.mono ((hG2.trans hG9).trans hG19)) (by first | assumption | omega | (simp; omega) | (exact PairsR.fold (by assumption) (by assumption))) (by first | assumption | omega | (simp; omega) | (exact PairsR.fold (by assumption) (by assumption))) (by first | assumption | omega | (simp; omega) | (exact PairsR.fold (by assumption) (by assumption))) (by first | assumption | omega)) rfl (List.Perm.refl _) ?_
                        intro _ G26 _ hG26 q28
                        refine match q28 with | ⟨e_29, _, e_30, hv27⟩ => ?_
                        subst e_29
                        subst e_30
                        have q32 := hv27.form
                        refine match q32 with | ⟨sa_hv27, sc_hv27, e_31⟩ => ?_
                        subst e_31
                        refine W.nil ⟨hG26, (List.Sublist.refl _).cons_cons _, _, (List.Sublist.refl _).cons_cons _, List.Sublist.refl _, ?_⟩
                        refine WD.any [8] (by kernel_rfl) rfl ⟨⟨_, rfl, rfl, ?_⟩, trivial⟩
                        refine W.qcall ((samep_fc (hv20.mono hG26) hv27).mono (fun v _ _ _ hv => hv.trans (congrArg Value.bool (decide_eq_true rfl)))) rfl ?_
                        refine W.nil ⟨Le.rfl, (List.Sublist.refl _).cons_cons _, _, (List.Sublist.refl _).cons_cons _, List.Sublist.refl _, ?_⟩
                        refine WD.take 9 rfl rfl rfl (by kernel_rfl) (by kernel_rfl) (by kernel_rfl) (ok_mv) ?_
                        refine WD.takeY 10 102 rfl rfl rfl rfl rfl rfl (by kernel_rfl) (by kernel_rfl) (by kernel_rfl) (ok_mv) ?_
                        refine WD.takeY 11 102 rfl rfl rfl rfl rfl rfl (by kernel_rfl) (by kernel_rfl) (by kernel_rfl) (ok_loadB (i := 0) (vs := [.string _, .string _, .bool _]) ty68 rfl rfl rfl rfl (by simp)) ?_
                        refine WD.takeY 12 102 rfl rfl rfl rfl rfl rfl (by kernel_rfl) (by kernel_rfl) (by kernel_rfl) (ok_mv) ?_
                        refine WD.takeY 14 102 rfl rfl rfl rfl rfl rfl (by kernel_rfl) (by kernel_rfl) (by kernel_rfl) (ok_mv) ?_
                        refine WD.takeY 15 102 rfl rfl rfl rfl rfl rfl (by kernel_rfl) (by kernel_rfl) (by kernel_rfl) (ok_mv) ?_
                        refine WD.takeY 17 102 rfl rfl rfl rfl rfl rfl (by kernel_rfl) (by kernel_rfl) (by kernel_rfl) (ok_loadB (i := 0) (vs := [.string _, .string _, .bool _]) ty68 rfl rfl rfl rfl (by simp)) ?_
                        refine WD.anyG [13] (by kernel_rfl) rfl ⟨⟨_, rfl, .inr ⟨_, 102, _, _, rfl, rfl, rfl, rfl, rfl⟩, ?_⟩, trivial⟩
                        refine W.call (Mp := []) (mview_fc (h_l.mono (((hG2.trans hG9).trans hG19).trans hG26)) _ _ _ (h_ms.mono (((hG2.trans hG9).trans hG19).trans hG26)) (by first | assumption | omega | (simp; omega) | (exact PairsR.fold (by assumption) (by assumption))) (by first | assumption | omega | (simp; omega) | (exact PairsR.fold (by assumption) (by assumption))) (by first | assumption | omega | (simp; omega) | (exact PairsR.fold (by assumption) (by assumption))) (by first | assumption | omega)) rfl (List.Perm.refl _) ?_
                        intro _ G33 _ hG33 q35
                        refine match q35 with | ⟨e_36, _, e_37, hv34⟩ => ?_
                        subst e_36
                        subst e_37
                        have q39 := hv34.form
                        refine match q39 with | ⟨sa_hv34, sc_hv34, e_38⟩ => ?_
                        subst e_38
                        refine W.nil ⟨hG33, (List.Sublist.refl _).cons_cons _, _, (List.Sublist.refl _).cons_cons _, List.Sublist.refl _, ?_⟩
                        refine WD.anyG [16] (by kernel_rfl) rfl ⟨⟨_, rfl, .inr ⟨_, 102, _, _, rfl, rfl, rfl, rfl, rfl⟩, ?_⟩, trivial⟩
                        refine W.call (Mp := []) (rfoldF_fc (h_l.mono ((((hG2.trans hG9).trans hG19).trans hG26).trans hG33)) (h_ms.mono ((((hG2.trans hG9).trans hG19).trans hG26).trans hG33)) (by first | assumption | omega | (simp; omega) | (exact PairsR.fold (by assumption) (by assumption))) (by first | assumption | omega | (simp; omega) | (exact PairsR.fold (by assumption) (by assumption))) (by assumption)) rfl (List.Perm.refl _) ?_
                        intro _ G40 _ hG40 q42
                        refine match q42 with | ⟨e_43, _, e_44, hv41⟩ => ?_
                        subst e_43
                        subst e_44
                        have q46 := hv41.form
                        refine match q46 with | ⟨sa_hv41, sc_hv41, e_45⟩ => ?_
                        subst e_45
                        refine W.nil ⟨hG40, (List.Sublist.refl _).cons_cons _, _, (List.Sublist.refl _).cons_cons _, List.Sublist.refl _, ?_⟩
                        refine WD.anyG [18] (by kernel_rfl) rfl ⟨⟨_, rfl, .inr ⟨_, 102, _, _, rfl, rfl, rfl, rfl, rfl⟩, ?_⟩, trivial⟩
                        refine W.call (Mp := []) (rscan_fc hv41 _ _ _ _ (by first | assumption | omega | (simp; omega) | (exact PairsR.fold (by assumption) (by assumption)))) rfl (List.Perm.refl _) ?_
                        intro _ G47 _ hG47 q49
                        refine match q49 with | ⟨e_50, _, e_51, hv48⟩ => ?_
                        subst e_50
                        subst e_51
                        have q53 := hv48.form
                        refine match q53 with | ⟨sa_hv48, sc_hv48, e_52⟩ => ?_
                        subst e_52
                        refine W.nil ⟨hG47, (List.Sublist.refl _).cons_cons _, _, (List.Sublist.refl _).cons_cons _, List.Sublist.refl _, ?_⟩
                        refine WD.anyG [19] (by kernel_rfl) rfl ⟨⟨_, rfl, .inr ⟨_, 102, _, _, rfl, rfl, rfl, rfl, rfl⟩, ?_⟩, trivial⟩
                        refine W.qcall ((samep_fc (hv34.mono (hG40.trans hG47)) hv48).mono (fun v _ _ _ hv => hv.trans (congrArg Value.bool (decide_eq_true gv2)))) rfl ?_
                        refine W.nil ⟨Le.rfl, (List.Sublist.refl _).cons_cons _, _, (List.Sublist.refl _).cons_cons _, List.Sublist.refl _, ?_⟩
                        refine WD.take 20 rfl rfl rfl (by kernel_rfl) (by kernel_rfl) (by kernel_rfl) (ok_pick_t rfl rfl) ?_
                        refine WD.take 21 rfl rfl rfl (by kernel_rfl) (by kernel_rfl) (by kernel_rfl) (ok_mv) ?_
                        refine WD.anyG [22] (by kernel_rfl) rfl ⟨⟨_, rfl, .inr ⟨_, 114, _, _, rfl, rfl, rfl, rfl, rfl⟩, ?_⟩, trivial⟩
                        refine W.qcall (awake24_fc) rfl ?_
                        refine W.nil ⟨Le.rfl, (List.Sublist.refl _).cons_cons _, _, (List.Sublist.refl _).cons_cons _, List.Sublist.refl _, ?_⟩
                        refine WD.take 23 rfl rfl rfl (by kernel_rfl) (by kernel_rfl) (by kernel_rfl) (ok_pick_t rfl rfl) ?_
                        refine WD.take 24 rfl rfl rfl (by kernel_rfl) (by kernel_rfl) (by kernel_rfl) (ok_as) ?_
                        refine WD.done (by kernel_rfl) (thn_n ?_)
                        refine WC.ret ?_
                        refine ⟨.inr rfl, [_], ⟨rfl, trivial⟩, [], List.nil_sublist _, ?_⟩
                        rfl
                    · refine W.no (dj := 83) rfl rfl h48_1 ?_
                      refine W.no (dj := 83) rfl rfl h48_1 ?_
                      refine W.no (dj := 83) rfl rfl h48_1 ?_
                      refine W.no (dj := 83) rfl rfl h48_1 ?_
                      refine W.no (dj := 83) rfl rfl h48_1 ?_
                      refine W.no (dj := 83) rfl rfl h48_1 ?_
                      refine W.no (dj := 83) rfl rfl h48_1 ?_
                      refine W.yes (dj := 81) rfl rfl h79 ?_
                      refine W.ok (ok_pick_f rfl h48_1) ?_
                      refine W.ok (ok_pick_f rfl h79) ?_
                      refine W.nil (thn_n ?_)
                      refine WC.cond_f rfl rfl ?_
                      refine WC.skip (thn_n ?_)
                      refine WC.seq ?_
                      refine WC.drawW _ ((List.Sublist.refl _).cons_cons _) mix (by rintro _ _ _ _ ⟨h | h, _⟩ <;> cases h) ?_
                      refine WD.take 0 rfl rfl rfl (by kernel_rfl) (by kernel_rfl) (by kernel_rfl) (ok_mv) ?_
                      refine WD.take 1 rfl rfl rfl (by kernel_rfl) (by kernel_rfl) (by kernel_rfl) (ok_loadB (i := 0) (vs := [.string _, .string _, .bool _]) ty68 rfl rfl rfl rfl (by simp)) ?_
                      refine WD.take 2 rfl rfl rfl (by kernel_rfl) (by kernel_rfl) (by kernel_rfl) (ok_mv) ?_
                      refine WD.take 4 rfl rfl rfl (by kernel_rfl) (by kernel_rfl) (by kernel_rfl) (ok_mv) ?_
                      refine WD.take 5 rfl rfl rfl (by kernel_rfl) (by kernel_rfl) (by kernel_rfl) (ok_loadB (i := 0) (vs := [.string _, .string _, .bool _]) ty68 rfl rfl rfl rfl (by simp)) ?_
                      refine WD.take 6 rfl rfl rfl (by kernel_rfl) (by kernel_rfl) (by kernel_rfl) (ok_mv) ?_
                      refine WD.any [3] (by kernel_rfl) rfl ⟨⟨_, rfl, rfl, ?_⟩, trivial⟩
                      refine W.call (Mp := []) (mview_fc (h_l.mono (hG2.trans hG9)) _ _ _ (h_ms.mono (hG2.trans hG9)) (by first | assumption | omega | (simp; omega) | (exact PairsR.fold (by assumption) (by assumption))) (by first | assumption | omega | (simp; omega) | (exact PairsR.fold (by assumption) (by assumption))) (by first | assumption | omega | (simp; omega) | (exact PairsR.fold (by assumption) (by assumption))) (by first | assumption | omega)) rfl (List.Perm.refl _) ?_
                      intro _ G54 _ hG54 q56
                      refine match q56 with | ⟨e_57, _, e_58, hv55⟩ => ?_
                      subst e_57
                      subst e_58
                      have q60 := hv55.form
                      refine match q60 with | ⟨sa_hv55, sc_hv55, e_59⟩ => ?_
                      subst e_59
                      refine W.nil ⟨hG54, (List.Sublist.refl _).cons_cons _, _, (List.Sublist.refl _).cons_cons _, List.Sublist.refl _, ?_⟩
                      refine WD.any [7] (by kernel_rfl) rfl ⟨⟨_, rfl, rfl, ?_⟩, trivial⟩
                      refine W.call (Mp := []) (rview_fc (h_l.mono ((hG2.trans hG9).trans hG54)) _ _ _ (h_ms.mono ((hG2.trans hG9).trans hG54)) (by first | assumption | omega | (simp; omega) | (exact PairsR.fold (by assumption) (by assumption))) (by first | assumption | omega | (simp; omega) | (exact PairsR.fold (by assumption) (by assumption))) (by first | assumption | omega | (simp; omega) | (exact PairsR.fold (by assumption) (by assumption))) (by first | assumption | omega)) rfl (List.Perm.refl _) ?_
                      intro _ G61 _ hG61 q63
                      refine match q63 with | ⟨e_64, _, e_65, hv62⟩ => ?_
                      subst e_64
                      subst e_65
                      have q67 := hv62.form
                      refine match q67 with | ⟨sa_hv62, sc_hv62, e_66⟩ => ?_
                      subst e_66
                      refine W.nil ⟨hG61, (List.Sublist.refl _).cons_cons _, _, (List.Sublist.refl _).cons_cons _, List.Sublist.refl _, ?_⟩
                      refine WD.any [8] (by kernel_rfl) rfl ⟨⟨_, rfl, rfl, ?_⟩, trivial⟩
                      refine W.qcall ((samep_fc (hv55.mono hG61) hv62).mono (fun v _ _ _ hv => hv.trans (congrArg Value.bool (decide_eq_true rfl)))) rfl ?_
                      refine W.nil ⟨Le.rfl, (List.Sublist.refl _).cons_cons _, _, (List.Sublist.refl _).cons_cons _, List.Sublist.refl _, ?_⟩
                      refine WD.take 9 rfl rfl rfl (by kernel_rfl) (by kernel_rfl) (by kernel_rfl) (ok_mv) ?_
                      refine WD.takeY 10 102 rfl rfl rfl rfl rfl rfl (by kernel_rfl) (by kernel_rfl) (by kernel_rfl) (ok_mv) ?_
                      refine WD.takeY 11 102 rfl rfl rfl rfl rfl rfl (by kernel_rfl) (by kernel_rfl) (by kernel_rfl) (ok_loadB (i := 0) (vs := [.string _, .string _, .bool _]) ty68 rfl rfl rfl rfl (by simp)) ?_
                      refine WD.takeY 12 102 rfl rfl rfl rfl rfl rfl (by kernel_rfl) (by kernel_rfl) (by kernel_rfl) (ok_mv) ?_
                      refine WD.takeY 14 102 rfl rfl rfl rfl rfl rfl (by kernel_rfl) (by kernel_rfl) (by kernel_rfl) (ok_mv) ?_
                      refine WD.takeY 15 102 rfl rfl rfl rfl rfl rfl (by kernel_rfl) (by kernel_rfl) (by kernel_rfl) (ok_mv) ?_
                      refine WD.takeY 17 102 rfl rfl rfl rfl rfl rfl (by kernel_rfl) (by kernel_rfl) (by kernel_rfl) (ok_loadB (i := 0) (vs := [.string _, .string _, .bool _]) ty68 rfl rfl rfl rfl (by simp)) ?_
                      refine WD.anyG [13] (by kernel_rfl) rfl ⟨⟨_, rfl, .inr ⟨_, 102, _, _, rfl, rfl, rfl, rfl, rfl⟩, ?_⟩, trivial⟩
                      refine W.call (Mp := []) (mview_fc (h_l.mono (((hG2.trans hG9).trans hG54).trans hG61)) _ _ _ (h_ms.mono (((hG2.trans hG9).trans hG54).trans hG61)) (by first | assumption | omega | (simp; omega) | (exact PairsR.fold (by assumption) (by assumption))) (by first | assumption | omega | (simp; omega) | (exact PairsR.fold (by assumption) (by assumption))) (by first | assumption | omega | (simp; omega) | (exact PairsR.fold (by assumption) (by assumption))) (by first | assumption | omega)) rfl (List.Perm.refl _) ?_
                      intro _ G68 _ hG68 q70
                      refine match q70 with | ⟨e_71, _, e_72, hv69⟩ => ?_
                      subst e_71
                      subst e_72
                      have q74 := hv69.form
                      refine match q74 with | ⟨sa_hv69, sc_hv69, e_73⟩ => ?_
                      subst e_73
                      refine W.nil ⟨hG68, (List.Sublist.refl _).cons_cons _, _, (List.Sublist.refl _).cons_cons _, List.Sublist.refl _, ?_⟩
                      refine WD.anyG [16] (by kernel_rfl) rfl ⟨⟨_, rfl, .inr ⟨_, 102, _, _, rfl, rfl, rfl, rfl, rfl⟩, ?_⟩, trivial⟩
                      refine W.call (Mp := []) (rfoldF_fc (h_l.mono ((((hG2.trans hG9).trans hG54).trans hG61).trans hG68)) (h_ms.mono ((((hG2.trans hG9).trans hG54).trans hG61).trans hG68)) (by first | assumption | omega | (simp; omega) | (exact PairsR.fold (by assumption) (by assumption))) (by first | assumption | omega | (simp; omega) | (exact PairsR.fold (by assumption) (by assumption))) (by assumption)) rfl (List.Perm.refl _) ?_
                      intro _ G75 _ hG75 q77
                      refine match q77 with | ⟨e_78, _, e_79, hv76⟩ => ?_
                      subst e_78
                      subst e_79
                      have q81 := hv76.form
                      refine match q81 with | ⟨sa_hv76, sc_hv76, e_80⟩ => ?_
                      subst e_80
                      refine W.nil ⟨hG75, (List.Sublist.refl _).cons_cons _, _, (List.Sublist.refl _).cons_cons _, List.Sublist.refl _, ?_⟩
                      refine WD.anyG [18] (by kernel_rfl) rfl ⟨⟨_, rfl, .inr ⟨_, 102, _, _, rfl, rfl, rfl, rfl, rfl⟩, ?_⟩, trivial⟩
                      refine W.call (Mp := []) (rscan_fc hv76 _ _ _ _ (by first | assumption | omega | (simp; omega) | (exact PairsR.fold (by assumption) (by assumption)))) rfl (List.Perm.refl _) ?_
                      intro _ G82 _ hG82 q84
                      refine match q84 with | ⟨e_85, _, e_86, hv83⟩ => ?_
                      subst e_85
                      subst e_86
                      have q88 := hv83.form
                      refine match q88 with | ⟨sa_hv83, sc_hv83, e_87⟩ => ?_
                      subst e_87
                      refine W.nil ⟨hG82, (List.Sublist.refl _).cons_cons _, _, (List.Sublist.refl _).cons_cons _, List.Sublist.refl _, ?_⟩
                      refine WD.anyG [19] (by kernel_rfl) rfl ⟨⟨_, rfl, .inr ⟨_, 102, _, _, rfl, rfl, rfl, rfl, rfl⟩, ?_⟩, trivial⟩
                      refine W.qcall ((samep_fc (hv69.mono (hG75.trans hG82)) hv83).mono (fun v _ _ _ hv => hv.trans (congrArg Value.bool (decide_eq_true gv2)))) rfl ?_
                      refine W.nil ⟨Le.rfl, (List.Sublist.refl _).cons_cons _, _, (List.Sublist.refl _).cons_cons _, List.Sublist.refl _, ?_⟩
                      refine WD.take 20 rfl rfl rfl (by kernel_rfl) (by kernel_rfl) (by kernel_rfl) (ok_pick_t rfl rfl) ?_
                      refine WD.take 21 rfl rfl rfl (by kernel_rfl) (by kernel_rfl) (by kernel_rfl) (ok_mv) ?_
                      refine WD.anyG [22] (by kernel_rfl) rfl ⟨⟨_, rfl, .inr ⟨_, 114, _, _, rfl, rfl, rfl, rfl, rfl⟩, ?_⟩, trivial⟩
                      refine W.qcall (awake24_fc) rfl ?_
                      refine W.nil ⟨Le.rfl, (List.Sublist.refl _).cons_cons _, _, (List.Sublist.refl _).cons_cons _, List.Sublist.refl _, ?_⟩
                      refine WD.take 23 rfl rfl rfl (by kernel_rfl) (by kernel_rfl) (by kernel_rfl) (ok_pick_t rfl rfl) ?_
                      refine WD.take 24 rfl rfl rfl (by kernel_rfl) (by kernel_rfl) (by kernel_rfl) (ok_as) ?_
                      refine WD.done (by kernel_rfl) (thn_n ?_)
                      refine WC.ret ?_
                      refine ⟨.inr rfl, [_], ⟨rfl, trivial⟩, [], List.nil_sublist _, ?_⟩
                      rfl

end Go.Proofs.Ytipdjeemjiimbaa
