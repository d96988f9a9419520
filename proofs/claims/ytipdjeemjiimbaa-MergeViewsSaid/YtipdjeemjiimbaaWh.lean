/- Walks of views and fresh messages. -/
import Derived.Test.YtipdjeemjiimbaaWd
import Derived.Test.YtipdjeemjiimbaaWg
namespace Go.Proofs.Ytipdjeemjiimbaa
open Go Go.Fw Go.RowKit
set_option maxRecDepth 100000
set_option maxHeartbeats 1600000
set_option linter.unusedVariables false
set_option linter.unusedSimpArgs false
set_option linter.unnecessarySimpa false
theorem mview_fc {G : GH} {v_l : Value} {l : List Pair} (h_l : SlR ePair G v_l l) (slo : Str) (shi : Str) (so : Bool) {v_ms : Value} {ms : List Msg} (h_ms : SlR eMsg G v_ms ms) (hP : PairsR l) (hn : l.length + ms.length ≤ 1000000) (hm : ∀ m ∈ ms, m.key.b.size ≤ 16 ∧ m.val.b.size ≤ 16) (hs : slo.b.size ≤ 300) :
    Fc Try.prog 110 [v_l, .agg #[.string slo.b, .string shi.b, .bool so], v_ms] G [] (fun v G' M' => M' = [] ∧ ∃ u0, v = u0 ∧ SlR ePair G' u0 (foldN (l.filter fun p => Span.has ⟨slo, shi, so⟩ p.key) (clips ⟨slo, shi, so⟩ ms))) := by
  obtain ⟨sa_l, sc_l, rfl⟩ := h_l.form
  obtain ⟨sa_ms, sc_ms, rfl⟩ := h_ms.form
  have hPf : PairsR (l.filter fun p => Span.has ⟨slo, shi, so⟩ p.key) := hP.filter _
  have hcm := clips_fit (s := ⟨slo, shi, so⟩) hs hm
  have hcl : (clips ⟨slo, shi, so⟩ ms).length ≤ ms.length := clips_le
  have hfl := List.length_filter_le (fun p : Pair => Span.has ⟨slo, shi, so⟩ p.key) l
  have hks : ∀ m ∈ ms, m.key.b.size < 140737488355328 := fun m h => by have := (hm m h).1; omega
  refine Fc.intro (rs := [.tmp 6]) cl110 Try.func110 rfl Try.ntmps110 rfl rfl (fun w0 => ?_)
  refine WC.seq ?_
  refine WC.region ?_
  refine W.box (L := [.string _, .string _, .bool _]) rfl rfl (fun b1 => ?_)
  refine W.as ?_
  refine W.nil (thn_n ?_)
  refine WC.seq ?_
  refine WC.drawW _ ((List.Sublist.refl _).cons_cons _) mix (by rintro _ _ _ _ ⟨h | h, _⟩ <;> cases h) ?_
  refine WD.take 0 rfl rfl rfl (by kernel_rfl) (by kernel_rfl) (by kernel_rfl) (ok_mv) ?_
  refine WD.take 1 rfl rfl rfl (by kernel_rfl) (by kernel_rfl) (by kernel_rfl) (ok_loadB (i := 0) (vs := [.string _, .string _, .bool _]) ty68 rfl rfl rfl rfl (by simp)) ?_
  refine WD.take 3 rfl rfl rfl (by kernel_rfl) (by kernel_rfl) (by kernel_rfl) (ok_mv) ?_
  refine WD.take 4 rfl rfl rfl (by kernel_rfl) (by kernel_rfl) (by kernel_rfl) (ok_loadB (i := 0) (vs := [.string _, .string _, .bool _]) ty68 rfl rfl rfl rfl (by simp)) ?_
  refine WD.any [2] (by kernel_rfl) rfl ⟨⟨_, rfl, rfl, ?_⟩, trivial⟩
  refine W.call (Mp := []) (within_fc h_l _ _ _ (by first | assumption | omega | (simp; omega) | (exact PairsR.fold (by assumption) (by assumption)))) rfl (List.Perm.refl _) ?_
  intro _ G2 _ hG2 q4
  refine match q4 with | ⟨e_5, _, e_6, hv3⟩ => ?_
  subst e_5
  subst e_6
  have q8 := hv3.form
  refine match q8 with | ⟨sa_hv3, sc_hv3, e_7⟩ => ?_
  subst e_7
  refine W.nil ⟨hG2, (List.Sublist.refl _).cons_cons _, _, (List.Sublist.refl _).cons_cons _, List.Sublist.refl _, ?_⟩
  refine WD.any [5] (by kernel_rfl) rfl ⟨⟨_, rfl, rfl, ?_⟩, trivial⟩
  refine W.call (Mp := []) (bclips_fc (h_ms.mono hG2) slo shi so hks) rfl (List.Perm.refl _) ?_
  intro _ G9 _ hG9 q11
  refine match q11 with | ⟨e_12, _, e_13, hv10⟩ => ?_
  subst e_12
  subst e_13
  have q15 := hv10.form
  refine match q15 with | ⟨sa_hv10, sc_hv10, e_14⟩ => ?_
  subst e_14
  refine W.nil ⟨hG9, (List.Sublist.refl _).cons_cons _, _, (List.Sublist.refl _).cons_cons _, List.Sublist.refl _, ?_⟩
  refine WD.any [6] (by kernel_rfl) rfl ⟨⟨_, rfl, rfl, ?_⟩, trivial⟩
  refine W.call (Mp := []) (mfold_fc (hv3.mono hG9) hv10 hPf (by omega) hcm) rfl (List.Perm.refl _) ?_
  intro _ G16 _ hG16 q18
  refine match q18 with | ⟨e_19, _, e_20, hv17⟩ => ?_
  subst e_19
  subst e_20
  have q22 := hv17.form
  refine match q22 with | ⟨sa_hv17, sc_hv17, e_21⟩ => ?_
  subst e_21
  refine W.nil ⟨hG16, (List.Sublist.refl _).cons_cons _, _, (List.Sublist.refl _).cons_cons _, List.Sublist.refl _, ?_⟩
  refine WD.take 7 rfl rfl rfl (by kernel_rfl) (by kernel_rfl) (by kernel_rfl) (ok_as) ?_
  refine WD.done (by kernel_rfl) (thn_n ?_)
  refine WC.ret ?_
  refine ⟨.inr rfl, [_], ⟨rfl, trivial⟩, [], List.nil_sublist _, ?_⟩
  refine ⟨rfl, _, rfl, ?_⟩
  · exact hv17

theorem rview_fc {G : GH} {v_l : Value} {l : List Pair} (h_l : SlR ePair G v_l l) (slo : Str) (shi : Str) (so : Bool) {v_ms : Value} {ms : List Msg} (h_ms : SlR eMsg G v_ms ms) (hP : PairsR l) (hn : l.length + ms.length ≤ 1000000) (hm : ∀ m ∈ ms, m.key.b.size ≤ 16 ∧ m.val.b.size ≤ 16) (hs : slo.b.size ≤ 300) :
    Fc Try.prog 111 [v_l, .agg #[.string slo.b, .string shi.b, .bool so], v_ms] G [] (fun v G' M' => M' = [] ∧ ∃ u0, v = u0 ∧ SlR ePair G' u0 (foldN (l.filter fun p => Span.has ⟨slo, shi, so⟩ p.key) (clips ⟨slo, shi, so⟩ ms))) := by
  obtain ⟨sa_l, sc_l, rfl⟩ := h_l.form
  obtain ⟨sa_ms, sc_ms, rfl⟩ := h_ms.form
  have hPf : PairsR (l.filter fun p => Span.has ⟨slo, shi, so⟩ p.key) := hP.filter _
  have hcm := clips_fit (s := ⟨slo, shi, so⟩) hs hm
  have hcl : (clips ⟨slo, shi, so⟩ ms).length ≤ ms.length := clips_le
  have hfl := List.length_filter_le (fun p : Pair => Span.has ⟨slo, shi, so⟩ p.key) l
  have hks : ∀ m ∈ ms, m.key.b.size < 140737488355328 := fun m h => by have := (hm m h).1; omega
  refine Fc.intro (rs := [.tmp 6]) cl111 Try.func111 rfl Try.ntmps111 rfl rfl (fun w0 => ?_)
  refine WC.seq ?_
  refine WC.region ?_
  refine W.box (L := [.string _, .string _, .bool _]) rfl rfl (fun b23 => ?_)
  refine W.as ?_
  refine W.nil (thn_n ?_)
  refine WC.seq ?_
  refine WC.drawW _ ((List.Sublist.refl _).cons_cons _) mix (by rintro _ _ _ _ ⟨h | h, _⟩ <;> cases h) ?_
  refine WD.take 0 rfl rfl rfl (by kernel_rfl) (by kernel_rfl) (by kernel_rfl) (ok_mv) ?_
  refine WD.take 1 rfl rfl rfl (by kernel_rfl) (by kernel_rfl) (by kernel_rfl) (ok_loadB (i := 0) (vs := [.string _, .string _, .bool _]) ty68 rfl rfl rfl rfl (by simp)) ?_
  refine WD.take 2 rfl rfl rfl (by kernel_rfl) (by kernel_rfl) (by kernel_rfl) (ok_mv) ?_
  refine WD.take 3 rfl rfl rfl (by kernel_rfl) (by kernel_rfl) (by kernel_rfl) (ok_len sl22 h_l rfl) ?_
  refine WD.take 5 rfl rfl rfl (by kernel_rfl) (by kernel_rfl) (by kernel_rfl) (ok_mv) ?_
  refine WD.take 6 rfl rfl rfl (by kernel_rfl) (by kernel_rfl) (by kernel_rfl) (ok_loadB (i := 0) (vs := [.string _, .string _, .bool _]) ty68 rfl rfl rfl rfl (by simp)) ?_
  refine WD.any [4] (by kernel_rfl) rfl ⟨⟨_, rfl, rfl, ?_⟩, trivial⟩
  refine W.call (Mp := []) (rscan_fc h_l slo shi so (l.length : Int) (by omega)) rfl (List.Perm.refl _) ?_
  intro _ G24 _ hG24 q26
  refine match q26 with | ⟨e_27, _, e_28, hv25⟩ => ?_
  subst e_27
  subst e_28
  have q30 := hv25.form
  refine match q30 with | ⟨sa_hv25, sc_hv25, e_29⟩ => ?_
  subst e_29
  refine W.nil ⟨hG24, (List.Sublist.refl _).cons_cons _, _, (List.Sublist.refl _).cons_cons _, List.Sublist.refl _, ?_⟩
  refine WD.any [7] (by kernel_rfl) rfl ⟨⟨_, rfl, rfl, ?_⟩, trivial⟩
  refine W.call (Mp := []) (rclips_fc (h_ms.mono hG24) slo shi so hks) rfl (List.Perm.refl _) ?_
  intro _ G31 _ hG31 q33
  refine match q33 with | ⟨e_34, _, e_35, hv32⟩ => ?_
  subst e_34
  subst e_35
  have q37 := hv32.form
  refine match q37 with | ⟨sa_hv32, sc_hv32, e_36⟩ => ?_
  subst e_36
  refine W.nil ⟨hG31, (List.Sublist.refl _).cons_cons _, _, (List.Sublist.refl _).cons_cons _, List.Sublist.refl _, ?_⟩
  refine WD.any [8] (by kernel_rfl) rfl ⟨⟨_, rfl, rfl, ?_⟩, trivial⟩
  refine W.call (Mp := []) (rfoldF_fc (SlR.cast (hv25.mono hG31) (scan_whole l ⟨slo, shi, so⟩)) hv32 hPf (by omega) hcm) rfl (List.Perm.refl _) ?_
  intro _ G38 _ hG38 q40
  refine match q40 with | ⟨e_41, _, e_42, hv39⟩ => ?_
  subst e_41
  subst e_42
  have q44 := hv39.form
  refine match q44 with | ⟨sa_hv39, sc_hv39, e_43⟩ => ?_
  subst e_43
  refine W.nil ⟨hG38, (List.Sublist.refl _).cons_cons _, _, (List.Sublist.refl _).cons_cons _, List.Sublist.refl _, ?_⟩
  refine WD.take 9 rfl rfl rfl (by kernel_rfl) (by kernel_rfl) (by kernel_rfl) (ok_as) ?_
  refine WD.done (by kernel_rfl) (thn_n ?_)
  refine WC.ret ?_
  refine ⟨.inr rfl, [_], ⟨rfl, trivial⟩, [], List.nil_sublist _, ?_⟩
  refine ⟨rfl, _, rfl, ?_⟩
  · exact hv39

theorem clonemo_fc {G : GH} {v_a : Value} {a : List Msg} (h_a : SlR eMsg G v_a a) :
    Fc Try.prog 158 [v_a] G [] (fun v G' M' => OwnR eMsg 115 G' v (a) M') := by
  obtain ⟨sa_a, sc_a, rfl⟩ := h_a.form
  have ha := h_a.bytes
  refine Fc.intro (rs := [.tmp 2]) cl158 Try.func158 rfl Try.ntmps158 rfl rfl (fun w0 => ?_)
  refine WC.seq ?_
  refine WC.region ?_
  refine W.as ?_
  refine W.nil (thn_n ?_)
  refine WC.seq ?_
  refine WC.seq ?_
  refine WC.region ?_
  refine W.mv ?_
  refine W.ok (ok_eqlNil sl23 rfl rfl) ?_
  refine W.nil (thn_n ?_)
  refine WC.cond (b := _) rfl (fun h4 => ?_) (fun h4 => ?_)
  · have hn := SlR.isNone h_a h4
    subst hn
    refine WC.seq ?_
    refine WC.region ?_
    refine W.as ?_
    refine W.nil (thn_n ?_)
    refine WC.ret (thn_r ?_)
    refine ⟨.inr rfl, [_], ⟨rfl, trivial⟩, [], List.nil_sublist _, ?_⟩
    exact OwnR.nil
  · refine WC.skip (thn_n ?_)
    refine WC.seq ?_
    refine WC.region ?_
    refine W.lit0 (e := eMsg) sl23 ty115 zr115 rfl (fun v45 Ms46 ho47 => ?_)
    refine W.mv ?_
    refine W.app (e := eMsg) sl23 ty115 zr115 rfl by115 rfl rfl (ho47) (h_a) (List.Perm.refl _) (by simpa using ha) (fun v48 Ms49 ho50 => ?_)
    refine W.as ?_
    refine W.nil (thn_n ?_)
    refine WC.ret ?_
    refine ⟨.inr rfl, [_], ⟨rfl, trivial⟩, Ms49, List.sublist_append_left _ _, ?_⟩
    have h := ho50
    rw [List.nil_append] at h
    exact h

theorem fr1_fc {G : GH} (ms : Int) (mk : Int) (mkey : Str) (mhi : Str) (mo : Bool) (mv : Str) (n : Int) {b_c : Nat} (h_c : CellsG G b_c 0 [.int .i64 n]) (slo : Str) (shi : Str) (so : Bool) {b_s : Nat} (h_s : CellsG G b_s 0 [.string slo.b, .string shi.b, .bool so]) (hk : mkey.b.size < 140737488355328) :
    Fc Try.prog 155 [.agg #[.int .i64 ms, .int .i64 mk, .string mkey.b, .string mhi.b, .bool mo, .string mv.b], .pointer (some ⟨b_c, 0, none⟩), .pointer (some ⟨b_s, 0, none⟩)] G [] (fun v _ _ => v = .bool ((fun m : Msg => decide (m.stamp ≤ n) && !((Msg.span m).meet ⟨slo, shi, so⟩).empty) (⟨ms, mk, mkey, mhi, mo, mv⟩ : Msg))) := by
  refine Fc.intro (rs := [.tmp 4]) cl155 Try.func155 rfl Try.ntmps155 rfl rfl (fun w0 => ?_)
  refine WC.seq ?_
  refine WC.region ?_
  refine W.box (L := [.int .i64 _, .int .i64 _, .string _, .string _, .bool _, .string _]) rfl rfl (fun b51 => ?_)
  refine W.as ?_
  refine W.nil (thn_n ?_)
  refine WC.seq ?_
  refine WC.region ?_
  refine W.ok (ok_fieldB fd115_0 rfl) ?_
  refine W.ok (ok_loadB (i := 0) (vs := [.int .i64 _]) ty3 rfl rfl rfl rfl (by simp)) ?_
  refine W.ok (ok_loadG (vs := [.int .i64 _]) ty3 h_c rfl rfl rfl (by simp)) ?_
  refine W.ok (ok_leq rfl rfl) ?_
  refine W.mv ?_
  refine W.sp 9 rfl (fun h8 => ?_) (fun h8 => ?_)
  · have p8 := of_decide_eq_true h8
    refine W.yes (dj := 9) rfl rfl h8 ?_
    refine W.ok (ok_loadB (i := 0) (vs := [.int .i64 _, .int .i64 _, .string _, .string _, .bool _, .string _]) ty115 rfl rfl rfl rfl (by simp)) ?_
    refine W.yes (dj := 9) rfl rfl h8 ?_
    refine W.ok (ok_loadG (vs := [.string _, .string _, .bool _]) ty68 h_s rfl rfl rfl (by simp)) ?_
    refine W.yes (dj := 9) rfl rfl h8 ?_
    refine W.qcall (touches_fc _ _ _ _ _ _ _ _ _ (by first | assumption | omega | (dsimp only; omega))) rfl ?_
    refine W.ok (ok_pick_t rfl h8) ?_
    refine W.as ?_
    refine W.nil (thn_n ?_)
    refine WC.ret ?_
    refine ⟨.inr rfl, [_], ⟨rfl, trivial⟩, [], List.nil_sublist _, ?_⟩
    refine congrArg Value.bool ?_
    first | (simp_all; done) | (simp_all; omega) | (simp_all; intro h; omega)
  · have p8 := of_decide_eq_false h8
    refine W.no (dj := 9) rfl rfl h8 ?_
    refine W.no (dj := 9) rfl rfl h8 ?_
    refine W.no (dj := 9) rfl rfl h8 ?_
    refine W.ok (ok_pick_f rfl h8) ?_
    refine W.as ?_
    refine W.nil (thn_n ?_)
    refine WC.ret ?_
    refine ⟨.inr rfl, [_], ⟨rfl, trivial⟩, [], List.nil_sublist _, ?_⟩
    refine congrArg Value.bool ?_
    first | (simp_all; done) | (simp_all; omega) | (simp_all; intro h; omega)

theorem ixfm_fc {G : GH} {v_l : Value} {l : List Msg} {Ms_l : MH} (h_l : OwnR eMsg 115 G v_l l Ms_l) (n : Int) {b_c : Nat} (h_c : CellsG G b_c 0 [.int .i64 n]) (slo : Str) (shi : Str) (so : Bool) {b_s : Nat} (h_s : CellsG G b_s 0 [.string slo.b, .string shi.b, .bool so]) (hks : ∀ m ∈ l, m.key.b.size < 140737488355328) :
    Fc Try.prog 203 [v_l, .func (.func 155) #[] #[.pointer (some ⟨b_c, 0, none⟩), .pointer (some ⟨b_s, 0, none⟩)]] G Ms_l (fun v _ M' => v = .int .i64 (idxN (fun m : Msg => decide (m.stamp ≤ n) && !((Msg.span m).meet ⟨slo, shi, so⟩).empty) l) ∧ Ms_l = M') := by
  have hl := h_l.len47
  refine Fc.intro (rs := [.tmp 4]) cl203 Try.func203 rfl Try.ntmps203 rfl rfl (fun w0 => ?_)
  refine WC.perm (M' := (Ms_l ++ [])) (by simp) ?_
  refine WC.seq ?_
  refine WC.region ?_
  refine W.as ?_
  refine W.nil (thn_n ?_)
  refine WC.seq ?_
  refine WC.seq ?_
  refine WC.region ?_
  refine W.mv ?_
  refine W.ok (ok_lenO sl23 h_l rfl) ?_
  refine W.mv ?_
  refine W.nil (thn_n ?_)
  refine WC.block ?_
  refine WC.loop (X := Nat) (fun k => [(8, .int .i64 ((k : Nat) : Int)), (0, v_l), (1, .func (.func 155) #[] #[.pointer (some ⟨b_c, 0, none⟩), .pointer (some ⟨b_s, 0, none⟩)]), (7, .int .i64 (((l).length : Nat) : Int))]) (fun k _ Ml => Ml = (Ms_l ++ []) ∧ k ≤ l.length ∧ ∀ j (h : j < l.length), j < k → (fun m : Msg => decide (m.stamp ≤ n) && !((Msg.span m).meet ⟨slo, shi, so⟩).empty) l[j] = false) (fun k => l.length - k) 0 ⟨(by first | rfl | exact iv (by dsimp only; omega) | exact iv (by omega)), (by first | rfl | exact iv (by dsimp only; omega) | exact iv (by omega)), (by first | rfl | exact iv (by dsimp only; omega) | exact iv (by omega)), (by first | rfl | exact iv (by dsimp only; omega) | exact iv (by omega)), trivial⟩ ?_ ?_
  · exact ⟨rfl, by omega, fun j _ h => by omega⟩
  · rintro k gG52 G52 _ hG52 ⟨rfl, hk, hj⟩
    refine WC.seq ?_
    refine WC.region ?_
    refine W.ok (ok_lss rfl rfl) ?_
    refine W.nil (thn_n ?_)
    refine WC.seq ?_
    refine WC.cond (b := _) rfl (fun h9 => ?_) (fun h9 => ?_)
    · have p9 := of_decide_eq_true h9
      refine WC.skip (thn_n ?_)
      refine WC.seq ?_
      refine WC.block ?_
      refine WC.seq ?_
      refine WC.region ?_
      refine W.mv ?_
      refine W.as ?_
      refine W.nil (thn_n ?_)
      refine WC.seq ?_
      refine WC.region ?_
      refine W.mv ?_
      refine W.mv ?_
      refine W.mv ?_
      have q57 := (h_l.mono hG52).at (i := k) (by omega)
      refine match q57 with | ⟨_, he53, ⟨e_56, hm54⟩⟩ => ?_
      subst e_56
      refine W.ok (ok_indexAddrO (i := k) sl23 ty115 (h_l.mono hG52) rfl rfl ⟨by omega, by omega⟩) ?_
      refine W.ok (ok_loadO (vs := [.int .i64 _, .int .i64 _, .string _, .string _, .bool _, .string _]) ty115 he53 (List.Perm.refl _) rfl rfl rfl (by simp)) ?_
      refine W.qcallV (fst := []) (caps := [.pointer (some ⟨b_c, 0, none⟩), .pointer (some ⟨b_s, 0, none⟩)]) rfl (fr1_fc _ _ _ _ _ _ _ (h_c.mono hG52) _ _ _ (h_s.mono hG52) (hks _ (List.getElem_mem _))) rfl ?_
      refine W.nil (thn_n ?_)
      refine WC.cond (b := _) rfl (fun h16 => ?_) (fun h16 => ?_)
      · refine WC.seq ?_
        refine WC.region ?_
        refine W.mv ?_
        refine W.as ?_
        refine W.nil (thn_n ?_)
        refine WC.ret (blk_r (thn_r (thn_r (blk_r (thn_r ?_)))))
        refine ⟨.inr rfl, [_], ⟨rfl, trivial⟩, Ms_l, List.sublist_append_left _ _, ?_⟩
        refine ⟨congrArg (Value.int .i64) ?_, rfl⟩
        exact (idxN_at (by omega) (h16) hj).symm
      · refine WC.skip (blk_n (thn_n ?_))
        refine WC.region ?_
        refine W.ok (ok_add rfl rfl (by omega)) ?_
        refine W.mv ?_
        refine W.nil (thn_n ?_)
        exact ⟨Le.rfl, k + 1, ⟨(by first | rfl | exact iv (by dsimp only; omega) | exact iv (by omega)), (by first | rfl | exact iv (by dsimp only; omega) | exact iv (by omega)), (by first | rfl | exact iv (by dsimp only; omega) | exact iv (by omega)), (by first | rfl | exact iv (by dsimp only; omega) | exact iv (by omega)), trivial⟩, ⟨rfl, by omega, fun j h hji => by
      by_cases e2 : j = k
      · subst e2; exact h16
      · exact hj j h (by omega)⟩, by omega⟩
    · have p9 := of_decide_eq_false h9
      refine WC.exit (thn_x (thn_x (blk_h (thn_n ?_))))
      refine WC.seq ?_
      refine WC.region ?_
      refine W.as ?_
      refine W.nil (thn_n ?_)
      refine WC.ret ?_
      refine ⟨.inr rfl, [_], ⟨rfl, trivial⟩, Ms_l, List.sublist_append_left _ _, ?_⟩
      refine ⟨congrArg (Value.int .i64) ?_, rfl⟩
      exact (idxN_no (fun j h => hj j h (by omega))).symm

theorem dfm_fc {G : GH} {v_l : Value} {l : List Msg} {Ms_l : MH} (h_l : OwnR eMsg 115 G v_l l Ms_l) (n : Int) {b_c : Nat} (h_c : CellsG G b_c 0 [.int .i64 n]) (slo : Str) (shi : Str) (so : Bool) {b_s : Nat} (h_s : CellsG G b_s 0 [.string slo.b, .string shi.b, .bool so]) (hks : ∀ m ∈ l, m.key.b.size < 140737488355328) :
    Fc Try.prog 157 [v_l, .func (.func 155) #[] #[.pointer (some ⟨b_c, 0, none⟩), .pointer (some ⟨b_s, 0, none⟩)]] G Ms_l (fun v G' M' => OwnR eMsg 115 G' v (l.filter (fun a => !(fun m : Msg => decide (m.stamp ≤ n) && !((Msg.span m).meet ⟨slo, shi, so⟩).empty) a)) M') := by
  have hl := h_l.len47
  have hix := idxN_le (fun m : Msg => decide (m.stamp ≤ n) && !((Msg.span m).meet ⟨slo, shi, so⟩).empty) l
  refine Fc.intro (rs := [.tmp 4]) cl157 Try.func157 rfl Try.ntmps157 rfl rfl (fun w0 => ?_)
  refine WC.perm (M' := (Ms_l ++ [])) (by simp) ?_
  refine WC.seq ?_
  refine WC.region ?_
  refine W.as ?_
  refine W.nil (thn_n ?_)
  refine WC.seq ?_
  refine WC.region ?_
  refine W.mv ?_
  refine W.mv ?_
  refine W.call (Mp := Ms_l) (ixfm_fc h_l _ h_c _ _ _ h_s (by assumption)) rfl (List.Perm.refl _) ?_
  intro _ G58 Ms60 hG58 q59
  refine match q59 with | ⟨e_61, e_62⟩ => ?_
  subst e_61
  subst e_62
  refine W.as ?_
  refine W.nil (thn_n ?_)
  refine WC.seq ?_
  refine WC.seq ?_
  refine WC.region ?_
  refine W.mv ?_
  refine W.ok (ok_eql rfl rfl) ?_
  refine W.nil (thn_n ?_)
  refine WC.cond (b := _) rfl (fun h12 => ?_) (fun h12 => ?_)
  · have p12 := of_decide_eq_true h12
    try dsimp only at p12
    refine WC.seq ?_
    refine WC.region ?_
    refine W.mv ?_
    refine W.as ?_
    refine W.nil (thn_n ?_)
    refine WC.ret (thn_r ?_)
    refine ⟨.inr rfl, [_], ⟨rfl, trivial⟩, Ms_l, List.sublist_append_left _ _, ?_⟩
    have h := (h_l.mono hG58)
    rw [idx_none p12]
    exact h
  · have p12 := of_decide_eq_false h12
    try dsimp only at p12
    refine WC.skip (thn_n ?_)
    refine WC.seq ?_
    refine WC.seq ?_
    refine WC.region ?_
    refine W.mv ?_
    refine W.ok (ok_add rfl rfl (by omega)) ?_
    refine W.as ?_
    refine W.nil (thn_n ?_)
    refine WC.block ?_
    refine WC.loop (X := (Nat × Nat × List Msg) × Value × MH) (fun x => [(5, .int .i64 ((x.1.1 : Nat) : Int)), (6, .int .i64 ((x.1.2.1 : Nat) : Int)), (1, .func (.func 155) #[] #[.pointer (some ⟨b_c, 0, none⟩), .pointer (some ⟨b_s, 0, none⟩)]), (0, x.2.1)]) (fun x G Ml => Ml = (x.2.2 ++ []) ∧ OwnR eMsg 115 G x.2.1 (x.1.2.2) x.2.2 ∧ x.1.1 < x.1.2.1 ∧ x.1.2.1 ≤ l.length ∧ x.1.2.2.length = l.length ∧ x.1.2.2.take x.1.1 = (l.take x.1.2.1).filter (fun a => !(fun m : Msg => decide (m.stamp ≤ n) && !((Msg.span m).meet ⟨slo, shi, so⟩).empty) a) ∧ x.1.2.2.drop x.1.2.1 = l.drop x.1.2.1) (fun x => l.length - x.1.2.1) (((idxN (fun m : Msg => decide (m.stamp ≤ n) && !((Msg.span m).meet ⟨slo, shi, so⟩).empty) l).toNat, (idxN (fun m : Msg => decide (m.stamp ≤ n) && !((Msg.span m).meet ⟨slo, shi, so⟩).empty) l).toNat + 1, l), v_l, Ms_l) ⟨(by first | rfl | exact iv (by dsimp only; omega) | exact iv (by omega)), (by first | rfl | exact iv (by dsimp only; omega) | exact iv (by omega)), (by first | rfl | exact iv (by dsimp only; omega) | exact iv (by omega)), (by first | rfl | exact iv (by dsimp only; omega) | exact iv (by omega)), trivial⟩ ?_ ?_
    · exact ⟨rfl, (by exact (h_l.mono hG58)), by dsimp only; omega, by dsimp only; omega, rfl, idx_first p12, rfl⟩
    · rintro ⟨⟨i, j, m⟩, v_0, M_0⟩ gG63 G63 _ hG63 ⟨rfl, ho_0, hij, hjl, hml, hmt, hmd⟩
      try dsimp only at ho_0 hij hjl hml hmt hmd
      have hmj := fun (h : j < l.length) => drop_get (by omega : j < m.length) h hmd
      refine WC.seq ?_
      refine WC.seq ?_
      refine WC.region ?_
      refine W.mv ?_
      refine W.mv ?_
      refine W.ok (ok_lenO sl23 ho_0 rfl) ?_
      refine W.ok (ok_lss rfl rfl) ?_
      refine W.nil (thn_n ?_)
      refine WC.cond (b := _) rfl (fun h19 => ?_) (fun h19 => ?_)
      · have p19 := of_decide_eq_true h19
        try dsimp only at p19
        refine WC.skip (thn_n ?_)
        refine WC.seq ?_
        refine WC.block ?_
        refine WC.seq ?_
        refine WC.region ?_
        refine W.mv ?_
        refine W.mv ?_
        have q68 := ho_0.at (i := j) (by omega)
        refine match q68 with | ⟨_, he64, ⟨e_67, hm65⟩⟩ => ?_
        subst e_67
        refine W.ok (ok_indexAddrO (i := j) sl23 ty115 ho_0 rfl rfl ⟨by dsimp only, by omega⟩) ?_
        refine W.ok (ok_loadO (vs := [.int .i64 _, .int .i64 _, .string _, .string _, .bool _, .string _]) ty115 he64 (List.Perm.refl _) rfl rfl rfl (by simp)) ?_
        refine W.alloc zr115 (fun b69 => ?_)
        refine W.store (i := 0) (vs := [.int .i64 _, .int .i64 _, .string _, .string _, .bool _, .string _]) (L' := [.int .i64 _, .int .i64 _, .string _, .string _, .bool _, .string _]) ty115 rfl rfl rfl rfl rfl rfl rfl rfl ?_
        refine W.nil (thn_n ?_)
        refine WC.seq ?_
        refine WC.region ?_
        refine W.mv ?_
        refine W.ok (ok_loadB (i := 0) (vs := [.int .i64 _, .int .i64 _, .string _, .string _, .bool _, .string _]) ty115 rfl rfl rfl rfl (by simp)) ?_
        refine W.qcallV (fst := []) (caps := [.pointer (some ⟨b_c, 0, none⟩), .pointer (some ⟨b_s, 0, none⟩)]) rfl (fr1_fc _ _ _ _ _ _ _ (h_c.mono (hG58.trans hG63)) _ _ _ (h_s.mono (hG58.trans hG63)) (by rw [hmj (by omega)]; exact hks _ (List.getElem_mem _))) rfl ?_
        refine W.ok (ok_not rfl) ?_
        refine W.nil (thn_n ?_)
        refine WC.cond (b := _) rfl (fun h29 => ?_) (fun h29 => ?_)
        · refine WC.seq ?_
          refine WC.region ?_
          refine W.mv ?_
          refine W.mv ?_
          refine W.ok (ok_loadB (i := 0) (vs := [.int .i64 _, .int .i64 _, .string _, .string _, .bool _, .string _]) ty115 rfl rfl rfl rfl (by simp)) ?_
          have q74 := ho_0.at (i := i) (by omega)
          refine match q74 with | ⟨_, he70, ⟨e_73, hm71⟩⟩ => ?_
          subst e_73
          refine W.ok (ok_indexAddrO (i := i) sl23 ty115 ho_0 rfl rfl ⟨by dsimp only, by omega⟩) ?_
          refine W.storeO (i := i) (o := 0) (vs := [.int .i64 _, .int .i64 _, .string _, .string _, .bool _, .string _]) (a' := m[j]) ty115 rfl rfl rfl rfl rfl (ho_0) (pmC (List.Perm.refl _)) (by omega) (by decide) (fun cs h => by first | (rw [h]; rfl) | (rw [h.1]; exact ⟨rfl, by assumption⟩)) (fun Ms75 ho76 => ?_)
          refine W.perm (pmC (List.Perm.refl _)).symm ?_
          refine W.nil (thn_n ?_)
          refine WC.region ?_
          refine W.mv ?_
          refine W.ok (ok_add rfl rfl (by dsimp only; omega)) ?_
          refine W.as ?_
          refine W.nil (blk_n (thn_n ?_))
          refine WC.region ?_
          refine W.mv ?_
          refine W.ok (ok_add rfl rfl (by dsimp only; omega)) ?_
          refine W.as ?_
          refine W.sub ((List.Sublist.refl _).cons _) ?_
          refine W.nil (thn_n ?_)
          exact ⟨Le.rfl, ((i + 1, j + 1, m.set i m[j]), v_0, Ms75), ⟨(by first | rfl | exact iv (by dsimp only; omega) | exact iv (by omega)), (by first | rfl | exact iv (by dsimp only; omega) | exact iv (by omega)), (by first | rfl | exact iv (by dsimp only; omega) | exact iv (by omega)), (by first | rfl | exact iv (by dsimp only; omega) | exact iv (by omega)), trivial⟩, ⟨rfl, (by exact ho76), by dsimp only; omega, by dsimp only; omega, by simpa using hml, (del_keep (p := (fun a => !(fun m : Msg => decide (m.stamp ≤ n) && !((Msg.span m).meet ⟨slo, shi, so⟩).empty) a)) hij (by omega) hml hmt hmd (by rw [← hmj (by omega)]; simpa using h29)).1, (del_keep (p := (fun a => !(fun m : Msg => decide (m.stamp ≤ n) && !((Msg.span m).meet ⟨slo, shi, so⟩).empty) a)) hij (by omega) hml hmt hmd (by rw [← hmj (by omega)]; simpa using h29)).2⟩, by dsimp only; omega⟩
        · refine WC.skip (blk_n (thn_n ?_))
          refine WC.region ?_
          refine W.mv ?_
          refine W.ok (ok_add rfl rfl (by dsimp only; omega)) ?_
          refine W.as ?_
          refine W.sub ((List.Sublist.refl _).cons _) ?_
          refine W.nil (thn_n ?_)
          exact ⟨Le.rfl, ((i, j + 1, m), v_0, M_0), ⟨(by first | rfl | exact iv (by dsimp only; omega) | exact iv (by omega)), (by first | rfl | exact iv (by dsimp only; omega) | exact iv (by omega)), (by first | rfl | exact iv (by dsimp only; omega) | exact iv (by omega)), (by first | rfl | exact iv (by dsimp only; omega) | exact iv (by omega)), trivial⟩, ⟨rfl, (by exact ho_0), by dsimp only; omega, by dsimp only; omega, hml, (del_skip (p := (fun a => !(fun m : Msg => decide (m.stamp ≤ n) && !((Msg.span m).meet ⟨slo, shi, so⟩).empty) a)) (by omega) hmt hmd (by rw [← hmj (by omega)]; simpa using h29)).1, (del_skip (p := (fun a => !(fun m : Msg => decide (m.stamp ≤ n) && !((Msg.span m).meet ⟨slo, shi, so⟩).empty) a)) (by omega) hmt hmd (by rw [← hmj (by omega)]; simpa using h29)).2⟩, by dsimp only; omega⟩
      · have p19 := of_decide_eq_false h19
        try dsimp only at p19
        refine WC.exit (thn_x (thn_x (blk_h (thn_n ?_))))
        refine WC.seq ?_
        refine WC.region ?_
        refine W.mv ?_
        refine W.mv ?_
        have q78 := ho_0.formB (by omega)
        refine match q78 with | ⟨b38, c38, e_77⟩ => ?_
        subst e_77
        have hc38 := ho_0.cap_le
        refine W.ok (ok_sliceO i m.length sl23 ty115 ho_0 rfl ⟨_, _, rfl, by first | omega | (dsimp only; omega) | dsimp only⟩ rfl ⟨by omega, .inl (by omega)⟩) ?_
        refine W.clearO (e := eMsg) (lo := i) (hi := m.length) (m := i) sl23 ty115 zr115 rfl rfl ho_0 (List.Perm.refl _) rfl (by omega) hc38 ⟨_, rfl⟩ (by omega) (by omega) (fun Ms38 ho38 => ?_)
        refine W.nil (thn_n ?_)
        refine WC.seq ?_
        refine WC.region ?_
        refine W.mv ?_
        refine W.mv ?_
        refine W.ok (ok_sliceG 0 i sl23 ty115 rfl rfl ⟨_, _, rfl, by first | omega | (dsimp only; omega) | dsimp only⟩ ⟨by omega, by simp only [capV] at hc38; omega⟩) ?_
        refine W.as ?_
        refine W.nil (thn_n ?_)
        refine WC.ret ?_
        refine ⟨.inr rfl, [_], ⟨rfl, trivial⟩, Ms38, List.sublist_append_left _ _, ?_⟩
        have h := ho38
        rw [← List.take_of_length_le (l := l) (i := j) (by omega), ← hmt]
        exact h

theorem mfresh_fc {G : GH} {v_l : Value} {l : List Msg} (h_l : SlR eMsg G v_l l) (slo : Str) (shi : Str) (so : Bool) (n : Int) (hks : ∀ m ∈ l, m.key.b.size < 140737488355328) :
    Fc Try.prog 74 [v_l, .agg #[.string slo.b, .string shi.b, .bool so], .int .i64 n] G [] (fun v G' M' => M' = [] ∧ ∃ u0, v = u0 ∧ SlR eMsg G' u0 (l.filter (fun m : Msg => !(decide (m.stamp ≤ n) && !((Msg.span m).meet ⟨slo, shi, so⟩).empty)))) := by
  obtain ⟨sa_l, sc_l, rfl⟩ := h_l.form
  refine Fc.intro (rs := [.tmp 6]) cl74 Try.func74 rfl Try.ntmps74 rfl rfl (fun w0 => ?_)
  refine WC.seq ?_
  refine WC.region ?_
  refine W.box (L := [.string _, .string _, .bool _]) rfl rfl (fun b79 => ?_)
  refine W.box (L := [.int .i64 _]) rfl rfl (fun b80 => ?_)
  refine W.as ?_
  refine W.nil (thn_n ?_)
  refine WC.seq ?_
  refine WC.region ?_
  refine W.giveB (b := b80) (L := [.int .i64 _]) (List.Perm.refl _) (fun G81 hG81 hc81 => ?_)
  refine W.giveB (b := b79) (L := [.string _, .string _, .bool _]) (List.Perm.refl _) (fun G82 hG82 hc82 => ?_)
  refine W.ok (ok_makeFn (fst := []) (caps := [.tmp 5, .tmp 4]) (vs := []) (ws := [.pointer (some ⟨b80, 0, none⟩), .pointer (some ⟨b79, 0, none⟩)]) rfl rfl) ?_
  refine W.as ?_
  refine W.nil (thn_n ?_)
  refine WC.seq ?_
  refine WC.region ?_
  refine W.mv ?_
  refine W.call (Mp := []) (clonemo_fc (h_l.mono (hG81.trans hG82))) rfl (List.Perm.refl _) ?_
  rintro v84 G83 Ms85 hG83 ho86
  refine W.mv ?_
  refine W.call (Mp := Ms85) (dfm_fc ho86 _ (hc81.mono (hG82.trans hG83)) _ _ _ (hc82.mono hG83) (by assumption)) rfl (List.Perm.refl _) ?_
  rintro v88 G87 Ms89 hG87 ho90
  refine W.as ?_
  refine W.nil (thn_n ?_)
  refine WC.giveO ho90 (List.Perm.refl _) (fun G91 hG91 hv91 => ?_)
  refine WC.ret ?_
  refine ⟨.inr rfl, [_], ⟨rfl, trivial⟩, [], List.nil_sublist _, ?_⟩
  refine ⟨rfl, _, rfl, ?_⟩
  · exact hv91

theorem rfresh_fc {G : GH} {v_l : Value} {l : List Msg} (h_l : SlR eMsg G v_l l) (slo : Str) (shi : Str) (so : Bool) (n : Int) (hks : ∀ m ∈ l, m.key.b.size < 140737488355328) :
    Fc Try.prog 75 [v_l, .agg #[.string slo.b, .string shi.b, .bool so], .int .i64 n] G [] (fun v G' M' => M' = [] ∧ ∃ u0, v = u0 ∧ SlR eMsg G' u0 (l.filter (fun m : Msg => decide (n < m.stamp) || ((Msg.span m).meet ⟨slo, shi, so⟩).empty))) := by
  obtain ⟨sa_l, sc_l, rfl⟩ := h_l.form
  have hl := h_l.len47
  have hlb : l.length * 72 ≤ 140737488355328 := h_l.bytes
  refine Fc.intro (rs := [.tmp 6]) cl75 Try.func75 rfl Try.ntmps75 rfl rfl (fun w0 => ?_)
  refine WC.seq ?_
  refine WC.region ?_
  refine W.box (L := [.string _, .string _, .bool _]) rfl rfl (fun b92 => ?_)
  refine W.as ?_
  refine W.nil (thn_n ?_)
  refine WC.seq ?_
  refine WC.region ?_
  refine W.as ?_
  refine W.nil (thn_n ?_)
  refine WC.seq ?_
  refine WC.seq ?_
  refine WC.region ?_
  refine W.as ?_
  refine W.nil (thn_n ?_)
  refine WC.block ?_
  refine WC.loop (X := (Nat) × Value × MH) (fun i => [(8, .int .i64 ((i.1 : Nat) : Int)), (4, .pointer (some ⟨b92, 0, none⟩)), (0, .slice sa_l l.length sc_l), (2, .int .i64 n), (7, i.2.1)]) (fun i G Ml => Ml = ((b92, .cells (List.toArray [.string slo.b, .string shi.b, .bool so]) 68 (0, 0)) :: (i.2.2 ++ [])) ∧ OwnR eMsg 115 G i.2.1 (List.filter (fun m : Msg => decide (n < m.stamp) || ((Msg.span m).meet ⟨slo, shi, so⟩).empty) (l.take i.1)) i.2.2 ∧ i.1 ≤ l.length) (fun i => l.length - i.1) (0, .slice none 0 0, ([] : MH)) ⟨(by first | rfl | exact iv (by dsimp only; omega) | exact iv (by omega)), (by first | rfl | exact iv (by dsimp only; omega) | exact iv (by omega)), (by first | rfl | exact iv (by dsimp only; omega) | exact iv (by omega)), (by first | rfl | exact iv (by dsimp only; omega) | exact iv (by omega)), (by first | rfl | exact iv (by dsimp only; omega) | exact iv (by omega)), trivial⟩ ?_ ?_
  · exact ⟨rfl, (by simpa using OwnR.nil), by omega⟩
  · rintro ⟨i, v_7, M_7⟩ gG93 G93 _ hG93 ⟨rfl, ho_7, hi⟩
    try dsimp only at ho_7 hi
    have hfl := filt_lt (fun m : Msg => decide (n < m.stamp) || ((Msg.span m).meet ⟨slo, shi, so⟩).empty) l i
    refine WC.seq ?_
    refine WC.seq ?_
    refine WC.region ?_
    refine W.mv ?_
    refine W.mv ?_
    refine W.ok (ok_len sl23 (h_l.mono hG93) rfl) ?_
    refine W.ok (ok_lss rfl rfl) ?_
    refine W.nil (thn_n ?_)
    refine WC.cond (b := _) rfl (fun h12 => ?_) (fun h12 => ?_)
    · have p12 := of_decide_eq_true h12
      refine WC.skip (thn_n ?_)
      refine WC.seq ?_
      refine WC.block ?_
      refine WC.seq ?_
      refine WC.draw mix (by kernel_rfl) ?_
      refine W.mv ?_
      refine W.mv ?_
      have q98 := (h_l.mono hG93).at (i := i) (by omega)
      refine match q98 with | ⟨_, he94, ⟨e_97, hm95⟩⟩ => ?_
      subst e_97
      refine W.ok (ok_indexAddr (i := i) sl23 ty115 (h_l.mono hG93) rfl rfl ⟨by omega, by omega⟩) ?_
      refine W.ok (ok_fieldE fd115_0 rfl he94.form) ?_
      refine W.ok (ok_loadE (vs := [.int .i64 _]) ty3 he94 rfl rfl rfl (by simp)) ?_
      refine W.mv ?_
      refine W.ok (ok_gtr rfl rfl) ?_
      refine W.mv ?_
      refine W.sp 22 rfl (fun h21 => ?_) (fun h21 => ?_)
      · have p21 := of_decide_eq_true h21
        refine W.no (dj := 22) rfl rfl h21 ?_
        refine W.no (dj := 22) rfl rfl h21 ?_
        refine W.no (dj := 22) rfl rfl h21 ?_
        refine W.no (dj := 22) rfl rfl h21 ?_
        refine W.no (dj := 22) rfl rfl h21 ?_
        refine W.no (dj := 22) rfl rfl h21 ?_
        refine W.no (dj := 22) rfl rfl h21 ?_
        refine W.no (dj := 22) rfl rfl h21 ?_
        refine W.ok (ok_pick_t rfl h21) ?_
        refine W.nil (thn_n ?_)
        refine WC.cond_t rfl rfl ?_
        refine WC.region ?_
        refine W.mv ?_
        refine W.mv ?_
        refine W.mv ?_
        have q103 := (h_l.mono hG93).at (i := i) (by omega)
        refine match q103 with | ⟨_, he99, ⟨e_102, hm100⟩⟩ => ?_
        subst e_102
        refine W.ok (ok_indexAddr (i := i) sl23 ty115 (h_l.mono hG93) rfl rfl ⟨by omega, by omega⟩) ?_
        refine W.ok (ok_loadE (vs := [.int .i64 _, .int .i64 _, .string _, .string _, .bool _, .string _]) ty115 he99 rfl rfl rfl (by simp)) ?_
        refine W.lit (e := eMsg) (l := [((l)[i])]) (css := [[.int .i64 _, .int .i64 _, .string _, .string _, .bool _, .string _]]) sl23 ty115 zr115 rfl rfl rfl rfl rfl rfl ⟨⟨rfl, hm100⟩, trivial⟩ (fun bl104 G104 hG104 hv104 => ?_)
        refine W.app (e := eMsg) sl23 ty115 zr115 rfl by115 rfl rfl ((ho_7.mono hG104)) (hv104) (pmC (List.Perm.refl _)) (by show (_ + 1) * 72 ≤ _; omega) (fun v105 Ms106 ho107 => ?_)
        refine W.perm (pmC (List.Perm.refl _)).symm ?_
        refine W.as ?_
        refine W.nil (blk_n (thn_n ?_))
        refine WC.region ?_
        refine W.mv ?_
        refine W.ok (ok_add rfl rfl (by omega)) ?_
        refine W.as ?_
        refine W.nil (thn_n ?_)
        exact ⟨hG104, (i + 1, v105, Ms106), ⟨(by first | rfl | exact iv (by dsimp only; omega) | exact iv (by omega)), (by first | rfl | exact iv (by dsimp only; omega) | exact iv (by omega)), (by first | rfl | exact iv (by dsimp only; omega) | exact iv (by omega)), (by first | rfl | exact iv (by dsimp only; omega) | exact iv (by omega)), (by first | rfl | exact iv (by dsimp only; omega) | exact iv (by omega)), trivial⟩, ⟨rfl, (by have h := ho107; rw [filt_t (p := (fun m : Msg => decide (n < m.stamp) || ((Msg.span m).meet ⟨slo, shi, so⟩).empty)) (by omega) (by simp_all)]; exact h), by omega⟩, by omega⟩
      · have p21 := of_decide_eq_false h21
        refine W.yes (dj := 22) rfl rfl h21 ?_
        refine W.mv ?_
        refine W.yes (dj := 22) rfl rfl h21 ?_
        refine W.mv ?_
        refine W.yes (dj := 22) rfl rfl h21 ?_
        have q112 := (h_l.mono hG93).at (i := i) (by omega)
        refine match q112 with | ⟨_, he108, ⟨e_111, hm109⟩⟩ => ?_
        subst e_111
        refine W.ok (ok_indexAddr (i := i) sl23 ty115 (h_l.mono hG93) rfl rfl ⟨by omega, by omega⟩) ?_
        refine W.yes (dj := 22) rfl rfl h21 ?_
        refine W.ok (ok_loadE (vs := [.int .i64 _, .int .i64 _, .string _, .string _, .bool _, .string _]) ty115 he108 rfl rfl rfl (by simp)) ?_
        refine W.yes (dj := 22) rfl rfl h21 ?_
        refine W.qcall (rspan_fc _ _ _ _ _ _ (hks _ (List.getElem_mem _))) rfl ?_
        refine W.yes (dj := 22) rfl rfl h21 ?_
        refine W.ok (ok_loadB (i := 0) (vs := [.string _, .string _, .bool _]) ty68 rfl rfl rfl rfl (by simp)) ?_
        refine W.yes (dj := 22) rfl rfl h21 ?_
        refine W.qcall (rmeet_fc _ _ _ _ _ _) rfl ?_
        refine W.yes (dj := 22) rfl rfl h21 ?_
        refine W.qcall (empty_fc _ _ _) rfl ?_
        refine W.ok (ok_pick_f rfl h21) ?_
        refine W.nil (thn_n ?_)
        refine WC.cond (b := _) rfl (fun h30 => ?_) (fun h30 => ?_)
        · refine WC.region ?_
          refine W.mv ?_
          refine W.mv ?_
          refine W.mv ?_
          have q117 := (h_l.mono hG93).at (i := i) (by omega)
          refine match q117 with | ⟨_, he113, ⟨e_116, hm114⟩⟩ => ?_
          subst e_116
          refine W.ok (ok_indexAddr (i := i) sl23 ty115 (h_l.mono hG93) rfl rfl ⟨by omega, by omega⟩) ?_
          refine W.ok (ok_loadE (vs := [.int .i64 _, .int .i64 _, .string _, .string _, .bool _, .string _]) ty115 he113 rfl rfl rfl (by simp)) ?_
          refine W.lit (e := eMsg) (l := [((l)[i])]) (css := [[.int .i64 _, .int .i64 _, .string _, .string _, .bool _, .string _]]) sl23 ty115 zr115 rfl rfl rfl rfl rfl rfl ⟨⟨rfl, hm114⟩, trivial⟩ (fun bl118 G118 hG118 hv118 => ?_)
          refine W.app (e := eMsg) sl23 ty115 zr115 rfl by115 rfl rfl ((ho_7.mono hG118)) (hv118) (pmC (List.Perm.refl _)) (by show (_ + 1) * 72 ≤ _; omega) (fun v119 Ms120 ho121 => ?_)
          refine W.perm (pmC (List.Perm.refl _)).symm ?_
          refine W.as ?_
          refine W.nil (blk_n (thn_n ?_))
          refine WC.region ?_
          refine W.mv ?_
          refine W.ok (ok_add rfl rfl (by omega)) ?_
          refine W.as ?_
          refine W.nil (thn_n ?_)
          exact ⟨hG118, (i + 1, v119, Ms120), ⟨(by first | rfl | exact iv (by dsimp only; omega) | exact iv (by omega)), (by first | rfl | exact iv (by dsimp only; omega) | exact iv (by omega)), (by first | rfl | exact iv (by dsimp only; omega) | exact iv (by omega)), (by first | rfl | exact iv (by dsimp only; omega) | exact iv (by omega)), (by first | rfl | exact iv (by dsimp only; omega) | exact iv (by omega)), trivial⟩, ⟨rfl, (by have h := ho121; rw [filt_t (p := (fun m : Msg => decide (n < m.stamp) || ((Msg.span m).meet ⟨slo, shi, so⟩).empty)) (by omega) (by simp_all)]; exact h), by omega⟩, by omega⟩
        · refine WC.skip (blk_n (thn_n ?_))
          refine WC.region ?_
          refine W.mv ?_
          refine W.ok (ok_add rfl rfl (by omega)) ?_
          refine W.as ?_
          refine W.nil (thn_n ?_)
          exact ⟨Le.rfl, (i + 1, v_7, M_7), ⟨(by first | rfl | exact iv (by dsimp only; omega) | exact iv (by omega)), (by first | rfl | exact iv (by dsimp only; omega) | exact iv (by omega)), (by first | rfl | exact iv (by dsimp only; omega) | exact iv (by omega)), (by first | rfl | exact iv (by dsimp only; omega) | exact iv (by omega)), (by first | rfl | exact iv (by dsimp only; omega) | exact iv (by omega)), trivial⟩, ⟨rfl, (by have h := ho_7; rw [filt_f (p := (fun m : Msg => decide (n < m.stamp) || ((Msg.span m).meet ⟨slo, shi, so⟩).empty)) (by omega) (by simp_all)]; exact h), by omega⟩, by omega⟩
    · have p12 := of_decide_eq_false h12
      refine WC.exit (thn_x (thn_x (blk_h (thn_n ?_))))
      refine WC.seq ?_
      refine WC.region ?_
      refine W.mv ?_
      refine W.as ?_
      refine W.nil (thn_n ?_)
      refine WC.giveO ho_7 (pmC (List.Perm.refl _)) (fun G122 hG122 hv122 => ?_)
      refine WC.ret ?_
      refine ⟨.inr rfl, [_], ⟨rfl, trivial⟩, [], List.nil_sublist _, ?_⟩
      refine ⟨rfl, _, rfl, ?_⟩
      · have h := hv122; rw [List.take_of_length_le (by omega)] at h; exact h

end Go.Proofs.Ytipdjeemjiimbaa
