/- The law LeafDrains is walked. -/
import Derived.Test.YtipdjeemjiimbaaWf
import Derived.Test.YtipdjeemjiimbaaA20
namespace Go.Proofs.Ytipdjeemjiimbaa
open Go Go.Fw Go.RowKit
set_option maxRecDepth 100000
set_option maxHeartbeats 1600000
set_option linter.unusedVariables false
set_option linter.unusedSimpArgs false
set_option linter.unnecessarySimpa false
theorem leafDrains_fc {G : GH} {v_l : Value} {l : List Pair} (h_l : SlR ePair G v_l l) {v_ms : Value} {ms : List Msg} (h_ms : SlR eMsg G v_ms ms) (n : Int) (hi : i64 n) :
    Fc Try.prog 13 [v_l, v_ms, .int .i64 n] G [] (fun v _ _ => v = .bool (true)) := by
  obtain ⟨sa_l, sc_l, rfl⟩ := h_l.form
  obtain ⟨sa_ms, sc_ms, rfl⟩ := h_ms.form
  have hl := h_l.len47
  have hlm := h_ms.len47
  refine Fc.intro (rs := [.tmp 6]) cl13 Try.func13 rfl Try.ntmps13 rfl rfl (fun w0 => ?_)
  refine WC.seq ?_
  refine WC.region ?_
  refine W.as ?_
  refine W.nil (thn_n ?_)
  refine WC.seq ?_
  refine WC.seq ?_
  refine WC.region ?_
  refine W.mv ?_
  refine W.qcall (longp_fc h_l _ (by omega)) rfl ?_
  refine W.ok (ok_not rfl) ?_
  refine W.mv ?_
  refine W.sp 19 rfl (fun h18 => ?_) (fun h18 => ?_)
  · refine W.no (dj := 19) rfl rfl h18 ?_
    refine W.no (dj := 19) rfl rfl h18 ?_
    refine W.no (dj := 19) rfl rfl h18 ?_
    refine W.ok (ok_pick_t rfl h18) ?_
    refine W.mv ?_
    refine W.no (dj := 24) rfl rfl rfl ?_
    refine W.no (dj := 24) rfl rfl rfl ?_
    refine W.no (dj := 24) rfl rfl rfl ?_
    refine W.ok (ok_pick_t rfl rfl) ?_
    refine W.nil (thn_n ?_)
    refine WC.cond_t rfl rfl ?_
    refine WC.seq ?_
    refine WC.region ?_
    refine W.qcall (awake20_fc) rfl ?_
    refine W.as ?_
    refine W.nil (thn_n ?_)
    refine WC.ret (thn_r ?_)
    refine ⟨.inr rfl, [_], ⟨rfl, trivial⟩, [], List.nil_sublist _, ?_⟩
    rfl
  · refine W.yes (dj := 19) rfl rfl h18 ?_
    refine W.mv ?_
    refine W.yes (dj := 19) rfl rfl h18 ?_
    refine W.qcall (rightp_fc h_l) rfl ?_
    refine W.yes (dj := 19) rfl rfl h18 ?_
    refine W.ok (ok_not rfl) ?_
    refine W.ok (ok_pick_f rfl h18) ?_
    refine W.mv ?_
    refine W.sp 24 rfl (fun h22 => ?_) (fun h22 => ?_)
    · refine W.no (dj := 24) rfl rfl h22 ?_
      refine W.no (dj := 24) rfl rfl h22 ?_
      refine W.no (dj := 24) rfl rfl h22 ?_
      refine W.ok (ok_pick_t rfl h22) ?_
      refine W.nil (thn_n ?_)
      refine WC.cond_t rfl rfl ?_
      refine WC.seq ?_
      refine WC.region ?_
      refine W.qcall (awake20_fc) rfl ?_
      refine W.as ?_
      refine W.nil (thn_n ?_)
      refine WC.ret (thn_r ?_)
      refine ⟨.inr rfl, [_], ⟨rfl, trivial⟩, [], List.nil_sublist _, ?_⟩
      rfl
    · refine W.yes (dj := 24) rfl rfl h22 ?_
      refine W.mv ?_
      refine W.yes (dj := 24) rfl rfl h22 ?_
      refine W.qcall (few_fc h_ms _ (by omega)) rfl ?_
      refine W.yes (dj := 24) rfl rfl h22 ?_
      refine W.ok (ok_not rfl) ?_
      refine W.ok (ok_pick_f rfl h22) ?_
      refine W.nil (thn_n ?_)
      refine WC.cond (b := _) rfl (fun h27 => ?_) (fun h27 => ?_)
      · refine WC.seq ?_
        refine WC.region ?_
        refine W.qcall (awake20_fc) rfl ?_
        refine W.as ?_
        refine W.nil (thn_n ?_)
        refine WC.ret (thn_r ?_)
        refine ⟨.inr rfl, [_], ⟨rfl, trivial⟩, [], List.nil_sublist _, ?_⟩
        rfl
      · have hP : PairsR l := by simpa using h22
        have hn9 : longG Pair.w l 0 2000 ≤ 2000 := by simpa using h18
        have hn8 : longG Msg.w ms 0 2000 ≤ 2000 := by simpa using h27
        have q1 := longG_len Pair.w_pos (l := l) (n := 0) (m := 2000) (by simpa using h18)
        have q2 := longG_len Msg.w_pos (l := ms) (n := 0) (m := 2000) (by simpa using h27)
        have hn : l.length + ms.length ≤ 1000000 := by omega
        refine WC.skip (thn_n ?_)
        refine WC.seq ?_
        refine WC.seq ?_
        refine WC.region ?_
        refine W.mv ?_
        refine W.ok (ok_len sl23 h_ms rfl) ?_
        refine W.mv ?_
        refine W.nil (thn_n ?_)
        refine WC.block ?_
        refine WC.loop (X := Nat) (fun k => [(32, .int .i64 ((k : Nat) : Int)), (0, .slice sa_l l.length sc_l), (1, .slice sa_ms ms.length sc_ms), (2, .int .i64 n), (30, .slice sa_ms ms.length sc_ms), (31, .int .i64 (((ms).length : Nat) : Int))]) (fun k _ Ml => Ml = [] ∧ k ≤ ms.length ∧ ∀ j (h : j < ms.length), j < k → ms[j].R) (fun k => ms.length - k) 0 ⟨(by first | rfl | exact iv (by dsimp only; omega) | exact iv (by omega)), (by first | rfl | exact iv (by dsimp only; omega) | exact iv (by omega)), (by first | rfl | exact iv (by dsimp only; omega) | exact iv (by omega)), (by first | rfl | exact iv (by dsimp only; omega) | exact iv (by omega)), (by first | rfl | exact iv (by dsimp only; omega) | exact iv (by omega)), (by first | rfl | exact iv (by dsimp only; omega) | exact iv (by omega)), trivial⟩ ?_ ?_
        · exact ⟨rfl, by omega, fun j _ h => by omega⟩
        · rintro k gG1 G1 _ hG1 ⟨rfl, hk, hj⟩
          refine WC.seq ?_
          refine WC.region ?_
          refine W.ok (ok_lss rfl rfl) ?_
          refine W.nil (thn_n ?_)
          refine WC.seq ?_
          refine WC.cond (b := _) rfl (fun h33 => ?_) (fun h33 => ?_)
          · have p33 := of_decide_eq_true h33
            refine WC.skip (thn_n ?_)
            refine WC.seq ?_
            refine WC.block ?_
            refine WC.seq ?_
            refine WC.region ?_
            have q6 := (h_ms.mono hG1).at (i := k) (by omega)
            refine match q6 with | ⟨_, he2, ⟨e_5, hm3⟩⟩ => ?_
            subst e_5
            refine W.ok (ok_indexAddr (i := k) sl23 ty115 (h_ms.mono hG1) rfl rfl ⟨by omega, by omega⟩) ?_
            refine W.ok (ok_loadE (vs := [.int .i64 _, .int .i64 _, .string _, .string _, .bool _, .string _]) ty115 he2 rfl rfl rfl (by simp)) ?_
            refine W.alloc zr115 (fun b7 => ?_)
            refine W.store (i := 0) (vs := [.int .i64 _, .int .i64 _, .string _, .string _, .bool _, .string _]) (L' := [.int .i64 _, .int .i64 _, .string _, .string _, .bool _, .string _]) ty115 rfl rfl rfl rfl rfl rfl rfl rfl ?_
            refine W.nil (thn_n ?_)
            refine WC.seq ?_
            refine WC.region ?_
            refine W.ok (ok_loadB (i := 0) (vs := [.int .i64 _, .int .i64 _, .string _, .string _, .bool _, .string _]) ty115 rfl rfl rfl rfl (by simp)) ?_
            refine W.qcall (mright_fc _ _ _ _ _ _) rfl ?_
            refine W.ok (ok_not rfl) ?_
            refine W.nil (thn_n ?_)
            refine WC.cond (b := _) rfl (fun h38 => ?_) (fun h38 => ?_)
            · refine WC.seq ?_
              refine WC.region ?_
              refine W.qcall (awake20_fc) rfl ?_
              refine W.as ?_
              refine W.nil (thn_n ?_)
              refine WC.ret (blk_r (thn_r (thn_r (blk_r (thn_r ?_)))))
              refine ⟨.inr rfl, [_], ⟨rfl, trivial⟩, [], List.nil_sublist _, ?_⟩
              rfl
            · refine WC.skip (blk_n (thn_n ?_))
              refine WC.region ?_
              refine W.ok (ok_add rfl rfl (by omega)) ?_
              refine W.mv ?_
              refine W.sub ((List.Sublist.refl _).cons _) ?_
              refine W.nil (thn_n ?_)
              exact ⟨Le.rfl, k + 1, ⟨(by first | rfl | exact iv (by dsimp only; omega) | exact iv (by omega)), (by first | rfl | exact iv (by dsimp only; omega) | exact iv (by omega)), (by first | rfl | exact iv (by dsimp only; omega) | exact iv (by omega)), (by first | rfl | exact iv (by dsimp only; omega) | exact iv (by omega)), (by first | rfl | exact iv (by dsimp only; omega) | exact iv (by omega)), (by first | rfl | exact iv (by dsimp only; omega) | exact iv (by omega)), trivial⟩, ⟨rfl, by omega, fun j h hji => by
      by_cases e2 : j = k
      · subst e2; simpa using h38
      · exact hj j h (by omega)⟩, by omega⟩
          · have p33 := of_decide_eq_false h33
            have hR : ∀ m ∈ ms, m.R := fun m h => by
              obtain ⟨i, hi, rfl⟩ := List.getElem_of_mem h
              exact hj i hi (by omega)
            have hfit : ∀ m ∈ List.drop 0 (List.take (drainN n l ms).2 ms), m.fit := fun m h => fit_of (msgR_sizes (hR m (List.mem_of_mem_take (List.mem_of_mem_drop h))))
            have hdl := drain_le n ms l
            have hdn := drain_len n ms l hP hR
            have hdf := drain_fold n ms l
            refine WC.exit (thn_x (thn_x (blk_h (thn_n ?_))))
            refine WC.seq ?_
            refine WC.region ?_
            refine W.mv ?_
            refine W.mv ?_
            refine W.mv ?_
            refine W.call (Mp := []) (ldrain_fc (h_l.mono hG1) (h_ms.mono hG1) _ (by first | assumption | omega | (simp; omega) | (exact PairsR.fold (by assumption) (by assumption))) (by first | assumption | omega | (simp; omega) | (exact PairsR.fold (by assumption) (by assumption))) (by first | assumption | omega | (simp; omega) | (exact PairsR.fold (by assumption) (by assumption)))) rfl (List.Perm.refl _) ?_
            intro _ G8 _ hG8 q10
            refine match q10 with | ⟨e_11, _, e_12, _, e_13, hv9⟩ => ?_
            subst e_11
            subst e_12
            subst e_13
            have q15 := hv9.form
            refine match q15 with | ⟨sa_hv9, sc_hv9, e_14⟩ => ?_
            subst e_14
            refine W.mv ?_
            refine W.ok (ok_extract rfl rfl) ?_
            refine W.ok (ok_extract rfl rfl) ?_
            refine W.as ?_
            refine W.as ?_
            refine W.nil (thn_n ?_)
            refine WC.seq ?_
            refine WC.region ?_
            refine W.mv ?_
            refine W.mv ?_
            refine W.mv ?_
            refine W.call (Mp := []) (rdrain_fc (h_l.mono (hG1.trans hG8)) (h_ms.mono (hG1.trans hG8)) _ (by first | assumption | omega | (simp; omega) | (exact PairsR.fold (by assumption) (by assumption))) (by first | assumption | omega | (simp; omega) | (exact PairsR.fold (by assumption) (by assumption))) (by first | assumption | omega | (simp; omega) | (exact PairsR.fold (by assumption) (by assumption)))) rfl (List.Perm.refl _) ?_
            intro _ G16 _ hG16 q18
            refine match q18 with | ⟨e_19, _, e_20, _, e_21, hv17⟩ => ?_
            subst e_19
            subst e_20
            subst e_21
            have q23 := hv17.form
            refine match q23 with | ⟨sa_hv17, sc_hv17, e_22⟩ => ?_
            subst e_22
            refine W.mv ?_
            refine W.ok (ok_extract rfl rfl) ?_
            refine W.ok (ok_extract rfl rfl) ?_
            refine W.as ?_
            refine W.as ?_
            refine W.nil (thn_n ?_)
            refine WC.seq ?_
            refine WC.seq ?_
            refine WC.region ?_
            refine W.mv ?_
            refine W.mv ?_
            refine W.ok (ok_neq rfl rfl) ?_
            refine W.mv ?_
            refine W.sp 58 rfl (fun h57 => ?_) (fun h57 => ?_)
            · have p57 := nd_t h57
              exact absurd rfl p57
            · have p57 := nd_f h57
              refine W.yes (dj := 58) rfl rfl h57 ?_
              refine W.mv ?_
              refine W.yes (dj := 58) rfl rfl h57 ?_
              refine W.mv ?_
              refine W.yes (dj := 58) rfl rfl h57 ?_
              refine W.qcall ((samep_fc (hv9.mono hG16) hv17).mono (fun v _ _ _ hv => hv.trans (congrArg Value.bool (decide_eq_true rfl)))) rfl ?_
              refine W.yes (dj := 58) rfl rfl h57 ?_
              refine W.ok (ok_not rfl) ?_
              refine W.ok (ok_pick_f rfl h57) ?_
              refine W.mv ?_
              refine W.yes (dj := 64) rfl rfl rfl ?_
              refine W.mv ?_
              refine W.yes (dj := 64) rfl rfl rfl ?_
              refine W.mv ?_
              refine W.yes (dj := 64) rfl rfl rfl ?_
              refine W.mv ?_
              refine W.yes (dj := 64) rfl rfl rfl ?_
              refine W.mv ?_
              refine W.yes (dj := 64) rfl rfl rfl ?_
              have hs24 := SlR.slice (h_ms.mono ((hG1.trans hG8).trans hG16)) (lo := 0) (hi := (drainN n l ms).2) (by omega) (by omega)
              refine W.ok (ok_slice (0) ((drainN n l ms).2) sl23 ty115 (h_ms.mono ((hG1.trans hG8).trans hG16)) rfl rfl ⟨_, _, rfl, by omega⟩ ⟨by omega, by omega⟩) ?_
              refine W.yes (dj := 64) rfl rfl rfl ?_
              refine W.call (Mp := []) (rfoldF_fc (h_l.mono ((hG1.trans hG8).trans hG16)) hs24 (by first | assumption | omega | (simp; omega) | (exact PairsR.fold (by assumption) (by assumption))) (by first | assumption | omega | (simp; omega) | (exact PairsR.fold (by assumption) (by assumption))) (by assumption)) rfl (List.Perm.refl _) ?_
              intro _ G25 _ hG25 q27
              refine match q27 with | ⟨e_28, _, e_29, hv26⟩ => ?_
              subst e_28
              subst e_29
              have q31 := hv26.form
              refine match q31 with | ⟨sa_hv26, sc_hv26, e_30⟩ => ?_
              subst e_30
              refine W.yes (dj := 64) rfl rfl rfl ?_
              refine W.qcall ((samep_fc (hv9.mono (hG16.trans hG25)) hv26).mono (fun v _ _ _ hv => hv.trans (congrArg Value.bool (decide_eq_true hdf)))) rfl ?_
              refine W.yes (dj := 64) rfl rfl rfl ?_
              refine W.ok (ok_not rfl) ?_
              refine W.ok (ok_pick_f rfl rfl) ?_
              refine W.mv ?_
              refine W.yes (dj := 74) rfl rfl rfl ?_
              refine W.mv ?_
              refine W.yes (dj := 74) rfl rfl rfl ?_
              refine W.ok (ok_len sl22 (hv9.mono (hG16.trans hG25)) rfl) ?_
              refine W.yes (dj := 74) rfl rfl rfl ?_
              refine W.mv ?_
              refine W.yes (dj := 74) rfl rfl rfl ?_
              refine W.ok (ok_len sl22 (h_l.mono (((hG1.trans hG8).trans hG16).trans hG25)) rfl) ?_
              refine W.yes (dj := 74) rfl rfl rfl ?_
              refine W.mv ?_
              refine W.yes (dj := 74) rfl rfl rfl ?_
              refine W.ok (ok_maxi rfl rfl) ?_
              refine W.yes (dj := 74) rfl rfl rfl ?_
              refine W.ok (ok_gtr rfl rfl) ?_
              refine W.ok (ok_pick_f rfl rfl) ?_
              refine W.nil (thn_n ?_)
              refine WC.cond (b := _) rfl (fun h81 => ?_) (fun h81 => ?_)
              · have p81 := of_decide_eq_true h81
                exfalso; omega
              · have p81 := of_decide_eq_false h81
                refine WC.skip (thn_n ?_)
                refine WC.seq ?_
                refine WC.seq ?_
                refine WC.region ?_
                refine W.mv ?_
                refine W.ok (ok_len sl23 (h_ms.mono (((hG1.trans hG8).trans hG16).trans hG25)) rfl) ?_
                refine W.ok (ok_gtr rfl rfl) ?_
                refine W.nil (thn_n ?_)
                refine WC.cond (b := _) rfl (fun h85 => ?_) (fun h85 => ?_)
                · have p85 := of_decide_eq_true h85
                  have hR0 := hR _ (List.getElem_mem (by omega : 0 < ms.length))
                  have hm0 := fit_of (msgR_sizes hR0)
                  have hle := lfits_eq (l := l) (n := n) hR0
                  have hl2 : (leafTakeN l ms[0] n).2 = rfits20N l ms[0] n := by unfold leafTakeN; rw [← hle]; split <;> simp_all
                  have hly : (leafTakeN l ms[0] n).2 = true → (leafTakeN l ms[0] n).1 = takeN l ms[0] := fun h => by unfold leafTakeN at h ⊢; split <;> simp_all
                  have hln : (leafTakeN l ms[0] n).2 = false → (leafTakeN l ms[0] n).1 = [] := fun h => by unfold leafTakeN at h ⊢; split <;> simp_all
                  refine WC.seq ?_
                  refine WC.region ?_
                  refine W.mv ?_
                  refine W.mv ?_
                  have q36 := (h_ms.mono (((hG1.trans hG8).trans hG16).trans hG25)).at (i := 0) (by omega)
                  refine match q36 with | ⟨_, he32, ⟨e_35, hm33⟩⟩ => ?_
                  subst e_35
                  refine W.ok (ok_indexAddr (i := 0) sl23 ty115 (h_ms.mono (((hG1.trans hG8).trans hG16).trans hG25)) rfl rfl ⟨by omega, by omega⟩) ?_
                  refine W.ok (ok_loadE (vs := [.int .i64 _, .int .i64 _, .string _, .string _, .bool _, .string _]) ty115 he32 rfl rfl rfl (by simp)) ?_
                  refine W.mv ?_
                  refine W.call (Mp := []) (leaftake_fc (h_l.mono (((hG1.trans hG8).trans hG16).trans hG25)) _ _ _ _ _ _ _ (by first | assumption | omega | (simp; omega) | (exact PairsR.fold (by assumption) (by assumption))) (by first | assumption | omega | (simp; omega) | (exact PairsR.fold (by assumption) (by assumption))) (by first | assumption | exact fit_of (by assumption))) rfl (List.Perm.refl _) ?_
                  intro _ G37 _ hG37 q39
                  refine match q39 with | ⟨e_40, _, e_41, _, e_42, hv38⟩ => ?_
                  subst e_40
                  subst e_41
                  subst e_42
                  have q44 := hv38.form
                  refine match q44 with | ⟨sa_hv38, sc_hv38, e_43⟩ => ?_
                  subst e_43
                  refine W.mv ?_
                  refine W.ok (ok_extract rfl rfl) ?_
                  refine W.ok (ok_extract rfl rfl) ?_
                  refine W.as ?_
                  refine W.as ?_
                  refine W.nil (thn_n ?_)
                  refine WC.seq ?_
                  refine WC.region ?_
                  refine W.mv ?_
                  refine W.mv ?_
                  have q49 := (h_ms.mono ((((hG1.trans hG8).trans hG16).trans hG25).trans hG37)).at (i := 0) (by omega)
                  refine match q49 with | ⟨_, he45, ⟨e_48, hm46⟩⟩ => ?_
                  subst e_48
                  refine W.ok (ok_indexAddr (i := 0) sl23 ty115 (h_ms.mono ((((hG1.trans hG8).trans hG16).trans hG25).trans hG37)) rfl rfl ⟨by omega, by omega⟩) ?_
                  refine W.ok (ok_loadE (vs := [.int .i64 _, .int .i64 _, .string _, .string _, .bool _, .string _]) ty115 he45 rfl rfl rfl (by simp)) ?_
                  refine W.mv ?_
                  refine W.qcall (fits20_fc (h_l.mono ((((hG1.trans hG8).trans hG16).trans hG25).trans hG37)) _ _ _ _ _ _ _) rfl ?_
                  refine W.as ?_
                  refine W.nil (thn_n ?_)
                  refine WC.seq ?_
                  refine WC.region ?_
                  refine W.mv ?_
                  refine W.mv ?_
                  refine W.ok (ok_neqB bo4 rfl rfl) ?_
                  refine W.mv ?_
                  refine W.sp 104 rfl (fun h103 => ?_) (fun h103 => ?_)
                  · simp [hl2] at h103
                  · refine W.yes (dj := 104) rfl rfl h103 ?_
                    refine W.mv ?_
                    refine W.yes (dj := 104) rfl rfl h103 ?_
                    refine W.mv ?_
                    refine W.yes (dj := 104) rfl rfl h103 ?_
                    have q54 := (h_ms.mono ((((hG1.trans hG8).trans hG16).trans hG25).trans hG37)).at (i := 0) (by omega)
                    refine match q54 with | ⟨_, he50, ⟨e_53, hm51⟩⟩ => ?_
                    subst e_53
                    refine W.ok (ok_indexAddr (i := 0) sl23 ty115 (h_ms.mono ((((hG1.trans hG8).trans hG16).trans hG25).trans hG37)) rfl rfl ⟨by omega, by omega⟩) ?_
                    refine W.yes (dj := 104) rfl rfl h103 ?_
                    refine W.ok (ok_loadE (vs := [.int .i64 _, .int .i64 _, .string _, .string _, .bool _, .string _]) ty115 he50 rfl rfl rfl (by simp)) ?_
                    refine W.yes (dj := 104) rfl rfl h103 ?_
                    refine W.mv ?_
                    refine W.yes (dj := 104) rfl rfl h103 ?_
                    refine W.qcall (leaffits_fc (h_l.mono ((((hG1.trans hG8).trans hG16).trans hG25).trans hG37)) _ _ _ _ _ _ _ (by first | assumption | omega | (simp; omega) | (exact PairsR.fold (by assumption) (by assumption))) (by first | assumption | exact fit_of (by assumption))) rfl ?_
                    refine W.yes (dj := 104) rfl rfl h103 ?_
                    refine W.mv ?_
                    refine W.yes (dj := 104) rfl rfl h103 ?_
                    refine W.ok (ok_neqB bo4 rfl rfl) ?_
                    refine W.ok (ok_pick_f rfl h103) ?_
                    refine W.mv ?_
                    refine W.sp 114 rfl (fun h112 => ?_) (fun h112 => ?_)
                    · simp [hle] at h112
                    · refine W.yes (dj := 114) rfl rfl h112 ?_
                      refine W.mv ?_
                      refine W.yes (dj := 114) rfl rfl h112 ?_
                      refine W.mv ?_
                      refine W.sp 116 rfl (fun h92_1 => ?_) (fun h92_1 => ?_)
                      · refine W.yes (dj := 116) rfl rfl h92_1 ?_
                        refine W.mv ?_
                        refine W.yes (dj := 116) rfl rfl h92_1 ?_
                        refine W.mv ?_
                        refine W.yes (dj := 116) rfl rfl h92_1 ?_
                        refine W.mv ?_
                        refine W.yes (dj := 116) rfl rfl h92_1 ?_
                        have q59 := (h_ms.mono ((((hG1.trans hG8).trans hG16).trans hG25).trans hG37)).at (i := 0) (by omega)
                        refine match q59 with | ⟨_, he55, ⟨e_58, hm56⟩⟩ => ?_
                        subst e_58
                        refine W.ok (ok_indexAddr (i := 0) sl23 ty115 (h_ms.mono ((((hG1.trans hG8).trans hG16).trans hG25).trans hG37)) rfl rfl ⟨by omega, by omega⟩) ?_
                        refine W.yes (dj := 116) rfl rfl h92_1 ?_
                        refine W.ok (ok_loadE (vs := [.int .i64 _, .int .i64 _, .string _, .string _, .bool _, .string _]) ty115 he55 rfl rfl rfl (by simp)) ?_
                        refine W.yes (dj := 116) rfl rfl h92_1 ?_
                        refine W.call (Mp := []) (rtakeF_fc (h_l.mono ((((hG1.trans hG8).trans hG16).trans hG25).trans hG37)) _ _ _ _ _ _ (by first | assumption | omega | (simp; omega) | (exact PairsR.fold (by assumption) (by assumption))) (by first | assumption | omega | (simp; omega) | (exact PairsR.fold (by assumption) (by assumption))) (by first | assumption | exact fit_of (by assumption))) rfl (List.Perm.refl _) ?_
                        intro _ G60 _ hG60 q62
                        refine match q62 with | ⟨e_63, _, e_64, hv61⟩ => ?_
                        subst e_63
                        subst e_64
                        have q66 := hv61.form
                        refine match q66 with | ⟨sa_hv61, sc_hv61, e_65⟩ => ?_
                        subst e_65
                        refine W.yes (dj := 116) rfl rfl h92_1 ?_
                        refine W.qcall ((samep_fc (hv38.mono hG60) hv61).mono (fun v _ _ _ hv => hv.trans (congrArg Value.bool (decide_eq_true (hly (by assumption)))))) rfl ?_
                        refine W.yes (dj := 116) rfl rfl h92_1 ?_
                        refine W.ok (ok_not rfl) ?_
                        refine W.yes (dj := 114) rfl rfl h112 ?_
                        refine W.ok (ok_pick_t rfl h92_1) ?_
                        refine W.ok (ok_pick_f rfl h112) ?_
                        refine W.mv ?_
                        refine W.yes (dj := 127) rfl rfl rfl ?_
                        refine W.mv ?_
                        refine W.yes (dj := 127) rfl rfl rfl ?_
                        refine W.ok (ok_not rfl) ?_
                        refine W.yes (dj := 127) rfl rfl rfl ?_
                        refine W.mv ?_
                        refine W.no (dj := 130) rfl rfl (congrArg not h92_1) ?_
                        refine W.no (dj := 130) rfl rfl (congrArg not h92_1) ?_
                        refine W.no (dj := 130) rfl rfl (congrArg not h92_1) ?_
                        refine W.yes (dj := 127) rfl rfl rfl ?_
                        refine W.ok (ok_pick_f rfl (congrArg not h92_1)) ?_
                        refine W.ok (ok_pick_f rfl rfl) ?_
                        refine W.nil (thn_n ?_)
                        refine WC.cond_f rfl rfl ?_
                        refine WC.skip (thn_n ?_)
                        refine WC.seq ?_
                        refine WC.region ?_
                        refine W.qcall (awake20_fc) rfl ?_
                        refine W.as ?_
                        refine W.nil (thn_n ?_)
                        refine WC.ret ?_
                        refine ⟨.inr rfl, [_], ⟨rfl, trivial⟩, [], List.nil_sublist _, ?_⟩
                        rfl
                      · refine W.no (dj := 116) rfl rfl h92_1 ?_
                        refine W.no (dj := 116) rfl rfl h92_1 ?_
                        refine W.no (dj := 116) rfl rfl h92_1 ?_
                        refine W.no (dj := 116) rfl rfl h92_1 ?_
                        refine W.no (dj := 116) rfl rfl h92_1 ?_
                        refine W.no (dj := 116) rfl rfl h92_1 ?_
                        refine W.no (dj := 116) rfl rfl h92_1 ?_
                        refine W.no (dj := 116) rfl rfl h92_1 ?_
                        refine W.yes (dj := 114) rfl rfl h112 ?_
                        refine W.ok (ok_pick_f rfl h92_1) ?_
                        refine W.ok (ok_pick_f rfl h112) ?_
                        refine W.mv ?_
                        refine W.yes (dj := 127) rfl rfl rfl ?_
                        refine W.mv ?_
                        refine W.yes (dj := 127) rfl rfl rfl ?_
                        refine W.ok (ok_not rfl) ?_
                        refine W.yes (dj := 127) rfl rfl rfl ?_
                        refine W.mv ?_
                        refine W.yes (dj := 130) rfl rfl (congrArg not h92_1) ?_
                        refine W.mv ?_
                        refine W.yes (dj := 130) rfl rfl (congrArg not h92_1) ?_
                        refine W.ok (ok_len sl22 hv38 rfl) ?_
                        refine W.yes (dj := 130) rfl rfl (congrArg not h92_1) ?_
                        refine W.ok (ok_gtr rfl rfl) ?_
                        refine W.yes (dj := 127) rfl rfl rfl ?_
                        refine W.ok (ok_pick_t rfl (congrArg not h92_1)) ?_
                        refine W.ok (ok_pick_f rfl rfl) ?_
                        refine W.nil (thn_n ?_)
                        refine WC.cond (b := _) rfl (fun h133 => ?_) (fun h133 => ?_)
                        · have p133 := of_decide_eq_true h133
                          rw [hln (by assumption)] at h133; simp at h133
                        · have p133 := of_decide_eq_false h133
                          refine WC.skip (thn_n ?_)
                          refine WC.seq ?_
                          refine WC.region ?_
                          refine W.qcall (awake20_fc) rfl ?_
                          refine W.as ?_
                          refine W.nil (thn_n ?_)
                          refine WC.ret ?_
                          refine ⟨.inr rfl, [_], ⟨rfl, trivial⟩, [], List.nil_sublist _, ?_⟩
                          rfl
                · have p85 := of_decide_eq_false h85
                  refine WC.skip (thn_n ?_)
                  refine WC.seq ?_
                  refine WC.region ?_
                  refine W.qcall (awake20_fc) rfl ?_
                  refine W.as ?_
                  refine W.nil (thn_n ?_)
                  refine WC.ret ?_
                  refine ⟨.inr rfl, [_], ⟨rfl, trivial⟩, [], List.nil_sublist _, ?_⟩
                  rfl

end Go.Proofs.Ytipdjeemjiimbaa
