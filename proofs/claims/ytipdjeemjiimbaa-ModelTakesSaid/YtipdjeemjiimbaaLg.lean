/- The law ModelTakes is walked. -/
import Derived.Test.YtipdjeemjiimbaaWe
import Derived.Test.YtipdjeemjiimbaaA09
namespace Go.Proofs.Ytipdjeemjiimbaa
open Go Go.Fw Go.RowKit
set_option maxRecDepth 100000
set_option maxHeartbeats 1600000
set_option linter.unusedVariables false
set_option linter.unusedSimpArgs false
set_option linter.unnecessarySimpa false
theorem modelTakes_fc {G : GH} {v_l : Value} {l : List Pair} (h_l : SlR ePair G v_l l) (key : Str) (ek : Int) (ev : Str) {v_ms : Value} {ms : List Msg} (h_ms : SlR eMsg G v_ms ms) :
    Fc Try.prog 14 [v_l, .string key.b, .agg #[.int .i64 ek, .string ev.b], v_ms] G [] (fun v _ _ => v = .bool (true)) := by
  obtain ⟨sa_l, sc_l, rfl⟩ := h_l.form
  obtain ⟨sa_ms, sc_ms, rfl⟩ := h_ms.form
  have hl := h_l.len47
  have hlm := h_ms.len47
  have hk := key.le
  refine Fc.intro (rs := [.tmp 8]) cl14 Try.func14 rfl Try.ntmps14 rfl rfl (fun w0 => ?_)
  refine WC.seq ?_
  refine WC.region ?_
  refine W.box (L := [.int .i64 _, .string _]) rfl rfl (fun b1 => ?_)
  refine W.as ?_
  refine W.nil (thn_n ?_)
  refine WC.seq ?_
  refine WC.seq ?_
  refine WC.region ?_
  refine W.mv ?_
  refine W.qcall (longp_fc h_l _ (by omega)) rfl ?_
  refine W.ok (ok_not rfl) ?_
  refine W.mv ?_
  refine W.sp 18 rfl (fun h17 => ?_) (fun h17 => ?_)
  · refine W.no (dj := 18) rfl rfl h17 ?_
    refine W.no (dj := 18) rfl rfl h17 ?_
    refine W.no (dj := 18) rfl rfl h17 ?_
    refine W.ok (ok_pick_t rfl h17) ?_
    refine W.mv ?_
    refine W.no (dj := 23) rfl rfl rfl ?_
    refine W.no (dj := 23) rfl rfl rfl ?_
    refine W.no (dj := 23) rfl rfl rfl ?_
    refine W.ok (ok_pick_t rfl rfl) ?_
    refine W.mv ?_
    refine W.no (dj := 28) rfl rfl rfl ?_
    refine W.no (dj := 28) rfl rfl rfl ?_
    refine W.no (dj := 28) rfl rfl rfl ?_
    refine W.ok (ok_pick_t rfl rfl) ?_
    refine W.mv ?_
    refine W.no (dj := 33) rfl rfl rfl ?_
    refine W.no (dj := 33) rfl rfl rfl ?_
    refine W.no (dj := 33) rfl rfl rfl ?_
    refine W.ok (ok_pick_t rfl rfl) ?_
    refine W.nil (thn_n ?_)
    refine WC.cond_t rfl rfl ?_
    refine WC.seq ?_
    refine WC.region ?_
    refine W.qcall (awake09_fc) rfl ?_
    refine W.as ?_
    refine W.nil (thn_n ?_)
    refine WC.ret (thn_r ?_)
    refine ⟨.inr rfl, [_], ⟨rfl, trivial⟩, [], List.nil_sublist _, ?_⟩
    rfl
  · refine W.yes (dj := 18) rfl rfl h17 ?_
    refine W.mv ?_
    refine W.yes (dj := 18) rfl rfl h17 ?_
    refine W.qcall (rightp_fc h_l) rfl ?_
    refine W.yes (dj := 18) rfl rfl h17 ?_
    refine W.ok (ok_not rfl) ?_
    refine W.ok (ok_pick_f rfl h17) ?_
    refine W.mv ?_
    refine W.sp 23 rfl (fun h21 => ?_) (fun h21 => ?_)
    · refine W.no (dj := 23) rfl rfl h21 ?_
      refine W.no (dj := 23) rfl rfl h21 ?_
      refine W.no (dj := 23) rfl rfl h21 ?_
      refine W.ok (ok_pick_t rfl h21) ?_
      refine W.mv ?_
      refine W.no (dj := 28) rfl rfl rfl ?_
      refine W.no (dj := 28) rfl rfl rfl ?_
      refine W.no (dj := 28) rfl rfl rfl ?_
      refine W.ok (ok_pick_t rfl rfl) ?_
      refine W.mv ?_
      refine W.no (dj := 33) rfl rfl rfl ?_
      refine W.no (dj := 33) rfl rfl rfl ?_
      refine W.no (dj := 33) rfl rfl rfl ?_
      refine W.ok (ok_pick_t rfl rfl) ?_
      refine W.nil (thn_n ?_)
      refine WC.cond_t rfl rfl ?_
      refine WC.seq ?_
      refine WC.region ?_
      refine W.qcall (awake09_fc) rfl ?_
      refine W.as ?_
      refine W.nil (thn_n ?_)
      refine WC.ret (thn_r ?_)
      refine ⟨.inr rfl, [_], ⟨rfl, trivial⟩, [], List.nil_sublist _, ?_⟩
      rfl
    · refine W.yes (dj := 23) rfl rfl h21 ?_
      refine W.mv ?_
      refine W.yes (dj := 23) rfl rfl h21 ?_
      refine W.ok (ok_lenS st9 rfl) ?_
      refine W.yes (dj := 23) rfl rfl h21 ?_
      refine W.ok (ok_gtr rfl rfl) ?_
      refine W.ok (ok_pick_f rfl h21) ?_
      refine W.mv ?_
      refine W.sp 28 rfl (fun h26 => ?_) (fun h26 => ?_)
      · have p26 := of_decide_eq_true h26
        refine W.no (dj := 28) rfl rfl h26 ?_
        refine W.no (dj := 28) rfl rfl h26 ?_
        refine W.no (dj := 28) rfl rfl h26 ?_
        refine W.ok (ok_pick_t rfl h26) ?_
        refine W.mv ?_
        refine W.no (dj := 33) rfl rfl rfl ?_
        refine W.no (dj := 33) rfl rfl rfl ?_
        refine W.no (dj := 33) rfl rfl rfl ?_
        refine W.ok (ok_pick_t rfl rfl) ?_
        refine W.nil (thn_n ?_)
        refine WC.cond_t rfl rfl ?_
        refine WC.seq ?_
        refine WC.region ?_
        refine W.qcall (awake09_fc) rfl ?_
        refine W.as ?_
        refine W.nil (thn_n ?_)
        refine WC.ret (thn_r ?_)
        refine ⟨.inr rfl, [_], ⟨rfl, trivial⟩, [], List.nil_sublist _, ?_⟩
        rfl
      · have p26 := of_decide_eq_false h26
        refine W.yes (dj := 28) rfl rfl h26 ?_
        refine W.ok (ok_loadB (i := 0) (vs := [.int .i64 _, .string _]) ty88 rfl rfl rfl rfl (by simp)) ?_
        refine W.yes (dj := 28) rfl rfl h26 ?_
        refine W.qcall (reffr_fc _ _) rfl ?_
        refine W.yes (dj := 28) rfl rfl h26 ?_
        refine W.ok (ok_not rfl) ?_
        refine W.ok (ok_pick_f rfl h26) ?_
        refine W.mv ?_
        refine W.sp 33 rfl (fun h31 => ?_) (fun h31 => ?_)
        · refine W.no (dj := 33) rfl rfl h31 ?_
          refine W.no (dj := 33) rfl rfl h31 ?_
          refine W.no (dj := 33) rfl rfl h31 ?_
          refine W.ok (ok_pick_t rfl h31) ?_
          refine W.nil (thn_n ?_)
          refine WC.cond_t rfl rfl ?_
          refine WC.seq ?_
          refine WC.region ?_
          refine W.qcall (awake09_fc) rfl ?_
          refine W.as ?_
          refine W.nil (thn_n ?_)
          refine WC.ret (thn_r ?_)
          refine ⟨.inr rfl, [_], ⟨rfl, trivial⟩, [], List.nil_sublist _, ?_⟩
          rfl
        · refine W.yes (dj := 33) rfl rfl h31 ?_
          refine W.mv ?_
          refine W.yes (dj := 33) rfl rfl h31 ?_
          refine W.ok (ok_len sl23 h_ms rfl) ?_
          refine W.yes (dj := 33) rfl rfl h31 ?_
          refine W.ok (ok_gtr rfl rfl) ?_
          refine W.ok (ok_pick_f rfl h31) ?_
          refine W.nil (thn_n ?_)
          refine WC.cond (b := _) rfl (fun h36 => ?_) (fun h36 => ?_)
          · have p36 := of_decide_eq_true h36
            refine WC.seq ?_
            refine WC.region ?_
            refine W.qcall (awake09_fc) rfl ?_
            refine W.as ?_
            refine W.nil (thn_n ?_)
            refine WC.ret (thn_r ?_)
            refine ⟨.inr rfl, [_], ⟨rfl, trivial⟩, [], List.nil_sublist _, ?_⟩
            rfl
          · have p36 := of_decide_eq_false h36
            have hP : PairsR l := by simpa using h21
            have hn9 : longG Pair.w l 0 2000 ≤ 2000 := by simpa using h17
            have q1 := longG_len Pair.w_pos (l := l) (n := 0) (m := 2000) (by simpa using h17)
            have hn : l.length + ms.length ≤ 1000000 := by omega
            have he0 : effR (⟨ek, ev⟩ : Eff) = true := by simpa using h31
            have he : ev.b.size ≤ 16 := effR_val he0
            have hr := hP.srt
            refine WC.skip (thn_n ?_)
            refine WC.seq ?_
            refine WC.region ?_
            refine W.lit0 (e := ePair) sl22 ty112 zr112 rfl (fun v2 Ms3 ho4 => ?_)
            refine W.perm (pmC (List.Perm.refl _)).symm ?_
            refine W.mv ?_
            refine W.app (e := ePair) sl22 ty112 zr112 rfl by112 rfl rfl (ho4) (h_l) (pmC (List.Perm.refl _)) (by show (0 + _) * 32 ≤ _; omega) (fun v5 Ms6 ho7 => ?_)
            refine W.perm (pmC (List.Perm.refl _)).symm ?_
            refine W.as ?_
            refine W.nil (thn_n ?_)
            refine WC.seq ?_
            refine WC.region ?_
            refine W.mv ?_
            refine W.as ?_
            refine W.nil (thn_n ?_)
            refine WC.seq ?_
            refine WC.region ?_
            refine W.mv ?_
            refine W.as ?_
            refine W.nil (thn_n ?_)
            refine WC.seq ?_
            refine WC.seq ?_
            refine WC.region ?_
            refine W.mv ?_
            refine W.ok (ok_len sl23 h_ms rfl) ?_
            refine W.mv ?_
            refine W.nil (thn_n ?_)
            refine WC.block ?_
            refine WC.loop (X := (Nat) × Value × Value) (fun k => [(46, .int .i64 ((k.1 : Nat) : Int)), (9, v5), (6, .pointer (some ⟨b1, 0, none⟩)), (0, .slice sa_l l.length sc_l), (1, .string key.b), (3, .slice sa_ms ms.length sc_ms), (44, .slice sa_ms ms.length sc_ms), (45, .int .i64 (((ms).length : Nat) : Int)), (10, k.2.1), (11, k.2.2)]) (fun k G Ml => Ml = ((b1, .cells (List.toArray [.int .i64 ek, .string ev.b]) 88 (0, 0)) :: (Ms6 ++ [])) ∧ SlR ePair G k.2.1 (foldN l (ms.take k.1)) ∧ SlR ePair G k.2.2 (foldN l (ms.take k.1)) ∧ k.1 ≤ ms.length ∧ ∀ j (h : j < ms.length), j < k.1 → ms[j].R) (fun k => ms.length - k.1) (0, .slice sa_l l.length sc_l, .slice sa_l l.length sc_l) ⟨(by first | rfl | exact iv (by dsimp only; omega) | exact iv (by omega)), (by first | rfl | exact iv (by dsimp only; omega) | exact iv (by omega)), (by first | rfl | exact iv (by dsimp only; omega) | exact iv (by omega)), (by first | rfl | exact iv (by dsimp only; omega) | exact iv (by omega)), (by first | rfl | exact iv (by dsimp only; omega) | exact iv (by omega)), (by first | rfl | exact iv (by dsimp only; omega) | exact iv (by omega)), (by first | rfl | exact iv (by dsimp only; omega) | exact iv (by omega)), (by first | rfl | exact iv (by dsimp only; omega) | exact iv (by omega)), (by first | rfl | exact iv (by dsimp only; omega) | exact iv (by omega)), (by first | rfl | exact iv (by dsimp only; omega) | exact iv (by omega)), trivial⟩ ?_ ?_
            · exact ⟨rfl, (by simpa [foldN] using h_l), (by simpa [foldN] using h_l), by omega, fun j _ h => by omega⟩
            · rintro ⟨k, v_10, v_11⟩ gG8 G8 _ hG8 ⟨rfl, ho_10, ho_11, hk9, hj⟩
              try dsimp only at ho_10 ho_11 hk9 hj
              have hft : ∀ m ∈ ms.take k, m.fit := fun m h => by
                obtain ⟨i, hi, rfl⟩ := List.getElem_of_mem h
                rw [List.getElem_take]
                rw [List.length_take] at hi
                exact fit_of (msgR_sizes (hj i (by omega) (by omega)))
              have hPk := PairsR.foldF (ms := ms.take k) hP hft
              have hnk := fold_lenF (ms := ms.take k) hP hft
              have hkl : (ms.take k).length ≤ k := by simp; omega
              refine WC.seq ?_
              refine WC.region ?_
              refine W.ok (ok_lss rfl rfl) ?_
              refine W.nil (thn_n ?_)
              refine WC.seq ?_
              refine WC.cond (b := _) rfl (fun h47 => ?_) (fun h47 => ?_)
              · have p47 := of_decide_eq_true h47
                refine WC.skip (thn_n ?_)
                refine WC.seq ?_
                refine WC.block ?_
                refine WC.seq ?_
                refine WC.region ?_
                have q13 := (h_ms.mono hG8).at (i := k) (by omega)
                refine match q13 with | ⟨_, he9, ⟨e_12, hm10⟩⟩ => ?_
                subst e_12
                refine W.ok (ok_indexAddr (i := k) sl23 ty115 (h_ms.mono hG8) rfl rfl ⟨by omega, by omega⟩) ?_
                refine W.ok (ok_loadE (vs := [.int .i64 _, .int .i64 _, .string _, .string _, .bool _, .string _]) ty115 he9 rfl rfl rfl (by simp)) ?_
                refine W.alloc zr115 (fun b14 => ?_)
                refine W.store (i := 0) (vs := [.int .i64 _, .int .i64 _, .string _, .string _, .bool _, .string _]) (L' := [.int .i64 _, .int .i64 _, .string _, .string _, .bool _, .string _]) ty115 rfl rfl rfl rfl rfl rfl rfl rfl ?_
                refine W.nil (thn_n ?_)
                refine WC.seq ?_
                refine WC.seq ?_
                refine WC.region ?_
                refine W.ok (ok_loadB (i := 0) (vs := [.int .i64 _, .int .i64 _, .string _, .string _, .bool _, .string _]) ty115 rfl rfl rfl rfl (by simp)) ?_
                refine W.qcall (mright_fc _ _ _ _ _ _) rfl ?_
                refine W.ok (ok_not rfl) ?_
                refine W.nil (thn_n ?_)
                refine WC.cond (b := _) rfl (fun h52 => ?_) (fun h52 => ?_)
                · refine WC.seq ?_
                  refine WC.region ?_
                  refine W.qcall (awake09_fc) rfl ?_
                  refine W.as ?_
                  refine W.nil (thn_n ?_)
                  refine WC.ret (thn_r (blk_r (thn_r (thn_r (blk_r (thn_r ?_))))))
                  refine ⟨.inr rfl, [_], ⟨rfl, trivial⟩, [], List.nil_sublist _, ?_⟩
                  rfl
                · have hRk : ms[k].R := by simpa using h52
                  have hfk := fit_of (msgR_sizes hRk)
                  have hsk := (msgR_sizes hRk).1
                  have hsl : (Msg.span ms[k]).lo = ms[k].key := by unfold Msg.span; split <;> rfl
                  have hfs : Msg.fit ⟨0, 4, (Msg.span ms[k]).lo, (Msg.span ms[k]).hi, (Msg.span ms[k]).opn, Str.nil⟩ := ⟨by show (Msg.span ms[k]).lo.b.size ≤ 1000; rw [hsl]; omega, .inl rfl, by show 0 ≤ 16; omega⟩
                  refine WC.skip (thn_n ?_)
                  refine WC.seq ?_
                  refine WC.region ?_
                  refine W.mv ?_
                  refine W.ok (ok_loadB (i := 0) (vs := [.int .i64 _, .int .i64 _, .string _, .string _, .bool _, .string _]) ty115 rfl rfl rfl rfl (by simp)) ?_
                  refine W.call (Mp := []) (rtakeF_fc ho_10 ms[k].stamp ms[k].kind ms[k].key ms[k].hi ms[k].opn ms[k].val hPk (by omega) hfk) rfl (List.Perm.refl _) ?_
                  intro _ G15 _ hG15 q17
                  refine match q17 with | ⟨e_18, _, e_19, hv16⟩ => ?_
                  subst e_18
                  subst e_19
                  have q21 := hv16.form
                  refine match q21 with | ⟨sa_hv16, sc_hv16, e_20⟩ => ?_
                  subst e_20
                  refine W.as ?_
                  refine W.nil (thn_n ?_)
                  refine WC.seq ?_
                  refine WC.region ?_
                  refine W.mv ?_
                  refine W.ok (ok_loadB (i := 0) (vs := [.int .i64 _, .int .i64 _, .string _, .string _, .bool _, .string _]) ty115 rfl rfl rfl rfl (by simp)) ?_
                  refine W.call (Mp := []) (mtake_fc (ho_11.mono hG15) ms[k].stamp ms[k].kind ms[k].key ms[k].hi ms[k].opn ms[k].val hPk (by omega) hfk) rfl (List.Perm.refl _) ?_
                  intro _ G22 _ hG22 q24
                  refine match q24 with | ⟨e_25, _, e_26, hv23⟩ => ?_
                  subst e_25
                  subst e_26
                  have q28 := hv23.form
                  refine match q28 with | ⟨sa_hv23, sc_hv23, e_27⟩ => ?_
                  subst e_27
                  refine W.as ?_
                  refine W.nil (thn_n ?_)
                  refine WC.seq ?_
                  refine WC.region ?_
                  refine W.ok (ok_loadB (i := 0) (vs := [.int .i64 _, .int .i64 _, .string _, .string _, .bool _, .string _]) ty115 rfl rfl rfl rfl (by simp)) ?_
                  refine W.qcall (rspan_fc ms[k].stamp ms[k].kind ms[k].key ms[k].hi ms[k].opn ms[k].val (by omega)) rfl ?_
                  refine W.alloc zr68 (fun b29 => ?_)
                  refine W.store (i := 0) (vs := [.string _, .string _, .bool _]) (L' := [.string _, .string _, .bool _]) ty68 rfl rfl rfl rfl rfl rfl rfl rfl ?_
                  refine W.nil (thn_n ?_)
                  refine WC.seq ?_
                  refine WC.drawW _ ((((List.nil_sublist _).cons_cons _).cons_cons _).cons_cons _) mix (by rintro _ _ _ _ ⟨h | h, _⟩ <;> cases h) ?_
                  refine WD.take 0 rfl rfl rfl (by kernel_rfl) (by kernel_rfl) (by kernel_rfl) (ok_mv) ?_
                  refine WD.take 1 rfl rfl rfl (by kernel_rfl) (by kernel_rfl) (by kernel_rfl) (ok_mv) ?_
                  refine WD.any [2] (by kernel_rfl) rfl ⟨⟨_, rfl, rfl, ?_⟩, trivial⟩
                  refine W.qcall ((samep_fc hv23 (hv16.mono hG22)).mono (fun v _ _ _ hv => hv.trans (congrArg Value.bool (decide_eq_true rfl)))) rfl ?_
                  refine W.nil ⟨Le.rfl, (((List.nil_sublist _).cons_cons _).cons_cons _).cons_cons _, _, (((List.nil_sublist _).cons_cons _).cons_cons _).cons_cons _, List.Sublist.refl _, ?_⟩
                  refine WD.take 3 rfl rfl rfl (by kernel_rfl) (by kernel_rfl) (by kernel_rfl) (ok_not rfl) ?_
                  refine WD.take 4 rfl rfl rfl (by kernel_rfl) (by kernel_rfl) (by kernel_rfl) (ok_mv) ?_
                  refine WD.takeY 5 66 rfl rfl rfl rfl rfl rfl (by kernel_rfl) (by kernel_rfl) (by kernel_rfl) (ok_mv) ?_
                  refine WD.takeY 6 66 rfl rfl rfl rfl rfl rfl (by kernel_rfl) (by kernel_rfl) (by kernel_rfl) (ok_loadB (i := 0) (vs := [.string _, .string _, .bool _]) ty68 rfl rfl rfl rfl (by simp)) ?_
                  refine WD.takeY 8 66 rfl rfl rfl rfl rfl rfl (by kernel_rfl) (by kernel_rfl) (by kernel_rfl) (ok_mv) ?_
                  refine WD.takeY 9 66 rfl rfl rfl rfl rfl rfl (by kernel_rfl) (by kernel_rfl) (by kernel_rfl) (ok_fieldB fd68_0 rfl) ?_
                  refine WD.takeY 10 66 rfl rfl rfl rfl rfl rfl (by kernel_rfl) (by kernel_rfl) (by kernel_rfl) (ok_loadB (i := 0) (vs := [.string _]) ty9 rfl rfl rfl rfl (by simp)) ?_
                  refine WD.takeY 11 66 rfl rfl rfl rfl rfl rfl (by kernel_rfl) (by kernel_rfl) (by kernel_rfl) (ok_fieldB fd68_1 rfl) ?_
                  refine WD.takeY 12 66 rfl rfl rfl rfl rfl rfl (by kernel_rfl) (by kernel_rfl) (by kernel_rfl) (ok_loadB (i := 0) (vs := [.string _]) ty9 rfl rfl rfl rfl (by simp)) ?_
                  refine WD.takeY 13 66 rfl rfl rfl rfl rfl rfl (by kernel_rfl) (by kernel_rfl) (by kernel_rfl) (ok_fieldB fd68_2 rfl) ?_
                  refine WD.takeY 14 66 rfl rfl rfl rfl rfl rfl (by kernel_rfl) (by kernel_rfl) (by kernel_rfl) (ok_loadB (i := 0) (vs := [.bool _]) ty4 rfl rfl rfl rfl (by simp)) ?_
                  refine WD.takeY 15 66 rfl rfl rfl rfl rfl rfl (by kernel_rfl) (by kernel_rfl) (by kernel_rfl) (ok_build (L := [.int .i64 _, .int .i64 _, .string _, .string _, .bool _, .string _]) pl115 zr115 rfl rfl rfl) ?_
                  refine WD.anyG [7] (by kernel_rfl) rfl ⟨⟨_, rfl, .inr ⟨_, 66, _, _, rfl, rfl, rfl, rfl, rfl⟩, ?_⟩, trivial⟩
                  refine W.call (Mp := []) (mwithout_fc (h_l.mono ((hG8.trans hG15).trans hG22)) _ _ _) rfl (List.Perm.refl _) ?_
                  intro _ G30 _ hG30 q32
                  refine match q32 with | ⟨e_33, _, e_34, hv31⟩ => ?_
                  subst e_33
                  subst e_34
                  have q36 := hv31.form
                  refine match q36 with | ⟨sa_hv31, sc_hv31, e_35⟩ => ?_
                  subst e_35
                  refine W.nil ⟨hG30, (((List.nil_sublist _).cons_cons _).cons_cons _).cons_cons _, _, (((List.nil_sublist _).cons_cons _).cons_cons _).cons_cons _, List.Sublist.refl _, ?_⟩
                  refine WD.anyG [16] (by kernel_rfl) rfl ⟨⟨_, rfl, .inr ⟨_, 66, _, _, rfl, rfl, rfl, rfl, rfl⟩, ?_⟩, trivial⟩
                  refine W.call (Mp := []) (rtakeF_fc (h_l.mono (((hG8.trans hG15).trans hG22).trans hG30)) 0 4 (Msg.span ms[k]).lo (Msg.span ms[k]).hi (Msg.span ms[k]).opn Str.nil hP (by omega) hfs) rfl (List.Perm.refl _) ?_
                  intro _ G37 _ hG37 q39
                  refine match q39 with | ⟨e_40, _, e_41, hv38⟩ => ?_
                  subst e_40
                  subst e_41
                  have q43 := hv38.form
                  refine match q43 with | ⟨sa_hv38, sc_hv38, e_42⟩ => ?_
                  subst e_42
                  refine W.nil ⟨hG37, (((List.nil_sublist _).cons_cons _).cons_cons _).cons_cons _, _, (((List.nil_sublist _).cons_cons _).cons_cons _).cons_cons _, List.Sublist.refl _, ?_⟩
                  refine WD.anyG [17] (by kernel_rfl) rfl ⟨⟨_, rfl, .inr ⟨_, 66, _, _, rfl, rfl, rfl, rfl, rfl⟩, ?_⟩, trivial⟩
                  refine W.qcall ((samep_fc (hv31.mono hG37) hv38).mono (fun v _ _ _ hv => hv.trans (congrArg Value.bool (decide_eq_true (by simp [takeN, Msg.span]))))) rfl ?_
                  refine W.nil ⟨Le.rfl, (((List.nil_sublist _).cons_cons _).cons_cons _).cons_cons _, _, (((List.nil_sublist _).cons_cons _).cons_cons _).cons_cons _, List.Sublist.refl _, ?_⟩
                  refine WD.takeY 18 66 rfl rfl rfl rfl rfl rfl (by kernel_rfl) (by kernel_rfl) (by kernel_rfl) (ok_not rfl) ?_
                  refine WD.take 19 rfl rfl rfl (by kernel_rfl) (by kernel_rfl) (by kernel_rfl) (ok_pick_f rfl rfl) ?_
                  refine WD.done (by kernel_rfl) (thn_n ?_)
                  refine WC.cond_f rfl rfl ?_
                  refine WC.skip (blk_n (thn_n ?_))
                  refine WC.region ?_
                  refine W.ok (ok_add rfl rfl (by omega)) ?_
                  refine W.mv ?_
                  refine W.sub (((List.Sublist.refl _).cons _).cons _) ?_
                  refine W.nil (thn_n ?_)
                  exact ⟨(((hG15.trans hG22).trans hG30).trans hG37), (k + 1, .slice sa_hv16 (takeN (foldN l (ms.take k)) ms[k]).length sc_hv16, .slice sa_hv23 (takeN (foldN l (ms.take k)) ms[k]).length sc_hv23), ⟨(by first | rfl | exact iv (by dsimp only; omega) | exact iv (by omega)), (by first | rfl | exact iv (by dsimp only; omega) | exact iv (by omega)), (by first | rfl | exact iv (by dsimp only; omega) | exact iv (by omega)), (by first | rfl | exact iv (by dsimp only; omega) | exact iv (by omega)), (by first | rfl | exact iv (by dsimp only; omega) | exact iv (by omega)), (by first | rfl | exact iv (by dsimp only; omega) | exact iv (by omega)), (by first | rfl | exact iv (by dsimp only; omega) | exact iv (by omega)), (by first | rfl | exact iv (by dsimp only; omega) | exact iv (by omega)), (by first | rfl | exact iv (by dsimp only; omega) | exact iv (by omega)), (by first | rfl | exact iv (by dsimp only; omega) | exact iv (by omega)), trivial⟩, ⟨rfl, (by have h := (hv16.mono ((hG22.trans hG30).trans hG37)); rw [foldN_succ (by omega)]; exact h), (by have h := (hv23.mono (hG30.trans hG37)); rw [foldN_succ (by omega)]; exact h), by omega, fun j h hji => by
      by_cases e2 : j = k
      · subst e2; exact hRk
      · exact hj j h (by omega)⟩, by omega⟩
              · have p47 := of_decide_eq_false h47
                have hR : ∀ m ∈ ms, m.R := fun m h => by
                  obtain ⟨i, hi, rfl⟩ := List.getElem_of_mem h
                  exact hj i hi (by omega)
                have hfit : ∀ m ∈ ms, m.fit := fun m h => fit_of (msgR_sizes (hR m h))
                have hwh : foldN l (ms.take k) = foldN l ms := by rw [List.take_of_length_le (by omega)]
                refine WC.exit (thn_x (thn_x (blk_h (thn_n ?_))))
                refine WC.seq ?_
                refine WC.drawW _ ((List.nil_sublist _).cons_cons _) mix (by rintro _ _ _ _ ⟨h | h, _⟩ <;> cases h) ?_
                refine WD.take 0 rfl rfl rfl (by kernel_rfl) (by kernel_rfl) (by kernel_rfl) (ok_mv) ?_
                refine WD.take 1 rfl rfl rfl (by kernel_rfl) (by kernel_rfl) (by kernel_rfl) (ok_mv) ?_
                refine WD.take 3 rfl rfl rfl (by kernel_rfl) (by kernel_rfl) (by kernel_rfl) (ok_mv) ?_
                refine WD.any [2] (by kernel_rfl) rfl ⟨⟨_, rfl, rfl, ?_⟩, trivial⟩
                refine W.call (Mp := []) (mfold_fc (h_l.mono hG8) (h_ms.mono hG8) (by first | assumption | omega | (simp; omega) | (exact PairsR.fold (by assumption) (by assumption))) (by first | assumption | omega | (simp; omega) | (exact PairsR.fold (by assumption) (by assumption))) (by assumption)) rfl (List.Perm.refl _) ?_
                intro _ G44 _ hG44 q46
                refine match q46 with | ⟨e_47, _, e_48, hv45⟩ => ?_
                subst e_47
                subst e_48
                have q50 := hv45.form
                refine match q50 with | ⟨sa_hv45, sc_hv45, e_49⟩ => ?_
                subst e_49
                refine W.nil ⟨hG44, (List.nil_sublist _).cons_cons _, _, (List.nil_sublist _).cons_cons _, List.Sublist.refl _, ?_⟩
                refine WD.any [4] (by kernel_rfl) rfl ⟨⟨_, rfl, rfl, ?_⟩, trivial⟩
                refine W.qcall ((samep_fc hv45 (ho_10.mono hG44)).mono (fun v _ _ _ hv => hv.trans (congrArg Value.bool (decide_eq_true hwh.symm)))) rfl ?_
                refine W.nil ⟨Le.rfl, (List.nil_sublist _).cons_cons _, _, (List.nil_sublist _).cons_cons _, List.Sublist.refl _, ?_⟩
                refine WD.take 5 rfl rfl rfl (by kernel_rfl) (by kernel_rfl) (by kernel_rfl) (ok_mv) ?_
                refine WD.takeY 6 88 rfl rfl rfl rfl rfl rfl (by kernel_rfl) (by kernel_rfl) (by kernel_rfl) (ok_mv) ?_
                refine WD.anyG [7] (by kernel_rfl) rfl ⟨⟨_, rfl, .inr ⟨_, 88, _, _, rfl, rfl, rfl, rfl, rfl⟩, ?_⟩, trivial⟩
                refine W.qcall ((mright9_fc (ho_10.mono hG44)).mono (fun v _ _ _ hv => hv.trans (congrArg Value.bool (decide_eq_true hPk)))) rfl ?_
                refine W.nil ⟨Le.rfl, (List.nil_sublist _).cons_cons _, _, (List.nil_sublist _).cons_cons _, List.Sublist.refl _, ?_⟩
                refine WD.take 8 rfl rfl rfl (by kernel_rfl) (by kernel_rfl) (by kernel_rfl) (ok_pick_t rfl rfl) ?_
                refine WD.take 9 rfl rfl rfl (by kernel_rfl) (by kernel_rfl) (by kernel_rfl) (ok_mv) ?_
                refine WD.takeY 10 92 rfl rfl rfl rfl rfl rfl (by kernel_rfl) (by kernel_rfl) (by kernel_rfl) (ok_mv) ?_
                refine WD.takeY 11 92 rfl rfl rfl rfl rfl rfl (by kernel_rfl) (by kernel_rfl) (by kernel_rfl) (ok_mv) ?_
                refine WD.takeY 12 92 rfl rfl rfl rfl rfl rfl (by kernel_rfl) (by kernel_rfl) (by kernel_rfl) (ok_loadB (i := 0) (vs := [.int .i64 _, .string _]) ty88 rfl rfl rfl rfl (by simp)) ?_
                refine WD.takeY 14 92 rfl rfl rfl rfl rfl rfl (by kernel_rfl) (by kernel_rfl) (by kernel_rfl) (ok_mv) ?_
                refine WD.takeY 15 92 rfl rfl rfl rfl rfl rfl (by kernel_rfl) (by kernel_rfl) (by kernel_rfl) (ok_mv) ?_
                refine WD.takeY 16 92 rfl rfl rfl rfl rfl rfl (by kernel_rfl) (by kernel_rfl) (by kernel_rfl) (ok_loadB (i := 0) (vs := [.int .i64 _, .string _]) ty88 rfl rfl rfl rfl (by simp)) ?_
                refine WD.anyG [13] (by kernel_rfl) rfl ⟨⟨_, rfl, .inr ⟨_, 92, _, _, rfl, rfl, rfl, rfl, rfl⟩, ?_⟩, trivial⟩
                refine W.call (Mp := []) (mwith_fc (h_l.mono (hG8.trans hG44)) _ _ _ (by first | assumption | omega | (simp; omega) | (exact PairsR.fold (by assumption) (by assumption))) (by first | assumption | omega | (simp; omega) | (exact PairsR.fold (by assumption) (by assumption))) (by first | assumption | omega | (dsimp only; omega) | (simp; omega))) rfl (List.Perm.refl _) ?_
                intro _ G51 _ hG51 q53
                refine match q53 with | ⟨e_54, _, e_55, hv52⟩ => ?_
                subst e_54
                subst e_55
                have q57 := hv52.form
                refine match q57 with | ⟨sa_hv52, sc_hv52, e_56⟩ => ?_
                subst e_56
                refine W.nil ⟨hG51, (List.nil_sublist _).cons_cons _, _, (List.nil_sublist _).cons_cons _, List.Sublist.refl _, ?_⟩
                refine WD.anyG [17] (by kernel_rfl) rfl ⟨⟨_, rfl, .inr ⟨_, 92, _, _, rfl, rfl, rfl, rfl, rfl⟩, ?_⟩, trivial⟩
                refine W.call (Mp := []) (rwith_fc (h_l.mono ((hG8.trans hG44).trans hG51)) _ _ _ (by first | assumption | omega | (simp; omega) | (exact PairsR.fold (by assumption) (by assumption))) (by first | assumption | omega | (simp; omega) | (exact PairsR.fold (by assumption) (by assumption))) (by first | assumption | omega | (dsimp only; omega) | (simp; omega))) rfl (List.Perm.refl _) ?_
                intro _ G58 _ hG58 q60
                refine match q60 with | ⟨e_61, _, e_62, hv59⟩ => ?_
                subst e_61
                subst e_62
                have q64 := hv59.form
                refine match q64 with | ⟨sa_hv59, sc_hv59, e_63⟩ => ?_
                subst e_63
                refine W.nil ⟨hG58, (List.nil_sublist _).cons_cons _, _, (List.nil_sublist _).cons_cons _, List.Sublist.refl _, ?_⟩
                refine WD.anyG [18] (by kernel_rfl) rfl ⟨⟨_, rfl, .inr ⟨_, 92, _, _, rfl, rfl, rfl, rfl, rfl⟩, ?_⟩, trivial⟩
                refine W.qcall ((samep_fc (hv52.mono hG58) hv59).mono (fun v _ _ _ hv => hv.trans (congrArg Value.bool (decide_eq_true rfl)))) rfl ?_
                refine W.nil ⟨Le.rfl, (List.nil_sublist _).cons_cons _, _, (List.nil_sublist _).cons_cons _, List.Sublist.refl _, ?_⟩
                refine WD.take 19 rfl rfl rfl (by kernel_rfl) (by kernel_rfl) (by kernel_rfl) (ok_pick_t rfl rfl) ?_
                refine WD.take 20 rfl rfl rfl (by kernel_rfl) (by kernel_rfl) (by kernel_rfl) (ok_mv) ?_
                refine WD.takeY 21 103 rfl rfl rfl rfl rfl rfl (by kernel_rfl) (by kernel_rfl) (by kernel_rfl) (ok_mv) ?_
                refine WD.takeY 22 103 rfl rfl rfl rfl rfl rfl (by kernel_rfl) (by kernel_rfl) (by kernel_rfl) (ok_mv) ?_
                refine WD.anyG [23] (by kernel_rfl) rfl ⟨⟨_, rfl, .inr ⟨_, 103, _, _, rfl, rfl, rfl, rfl, rfl⟩, ?_⟩, trivial⟩
                refine W.giveO (ho7.mono (((hG8.trans hG44).trans hG51).trans hG58)) (pmC (List.Perm.refl _)) (fun G65 hG65 hv65 => ?_)
                have q67 := hv65.form
                refine match q67 with | ⟨_, _, e_66⟩ => ?_
                subst e_66
                refine W.qcall ((samep_fc (h_l.mono ((((hG8.trans hG44).trans hG51).trans hG58).trans hG65)) hv65).mono (fun v _ _ _ hv => hv.trans (congrArg Value.bool (decide_eq_true rfl)))) rfl ?_
                refine W.nil ⟨hG65, (List.Sublist.refl _).cons_cons _, _, (List.Sublist.refl _).cons_cons _, List.Sublist.refl _, ?_⟩
                refine WD.take 24 rfl rfl rfl (by kernel_rfl) (by kernel_rfl) (by kernel_rfl) (ok_pick_t rfl rfl) ?_
                refine WD.take 25 rfl rfl rfl (by kernel_rfl) (by kernel_rfl) (by kernel_rfl) (ok_mv) ?_
                refine WD.anyG [26] (by kernel_rfl) rfl ⟨⟨_, rfl, .inr ⟨_, 108, _, _, rfl, rfl, rfl, rfl, rfl⟩, ?_⟩, trivial⟩
                refine W.qcall (awake09_fc) rfl ?_
                refine W.nil ⟨Le.rfl, (List.Sublist.refl _).cons_cons _, _, (List.Sublist.refl _).cons_cons _, List.Sublist.refl _, ?_⟩
                refine WD.take 27 rfl rfl rfl (by kernel_rfl) (by kernel_rfl) (by kernel_rfl) (ok_pick_t rfl rfl) ?_
                refine WD.take 28 rfl rfl rfl (by kernel_rfl) (by kernel_rfl) (by kernel_rfl) (ok_as) ?_
                refine WD.done (by kernel_rfl) (thn_n ?_)
                refine WC.ret ?_
                refine ⟨.inr rfl, [_], ⟨rfl, trivial⟩, [], List.nil_sublist _, ?_⟩
                rfl

end Go.Proofs.Ytipdjeemjiimbaa
