/- Walks of leaves behind messages. -/
import Derived.Test.YtipdjeemjiimbaaWe
namespace Go.Proofs.Ytipdjeemjiimbaa
open Go Go.Fw Go.RowKit
set_option maxRecDepth 100000
set_option maxHeartbeats 1600000
set_option linter.unusedVariables false
set_option linter.unusedSimpArgs false
set_option linter.unnecessarySimpa false
theorem ldrain_fc {G : GH} {v_l : Value} {l : List Pair} (h_l : SlR ePair G v_l l) {v_ms : Value} {ms : List Msg} (h_ms : SlR eMsg G v_ms ms) (n : Int) (hP : PairsR l) (hn : l.length + ms.length ≤ 1000000) (hR : ∀ m ∈ ms, m.R) :
    Fc Try.prog 87 [v_l, v_ms, .int .i64 n] G [] (fun v G' M' => M' = [] ∧ ∃ r : List Pair × Nat, r = drainN n l ms ∧ ∃ u0, v = .tuple #[u0, .int .i64 ((r.2 : Nat) : Int)] ∧ SlR ePair G' u0 (r.1)) := by
  obtain ⟨sa_l, sc_l, rfl⟩ := h_l.form
  obtain ⟨sa_ms, sc_ms, rfl⟩ := h_ms.form
  have hl := h_l.len47
  have hlm := h_ms.len47
  refine Fc.intro (rs := [.tmp 6, .tmp 7]) cl87 Try.func87 rfl Try.ntmps87 rfl rfl (fun w0 => ?_)
  refine WC.seq ?_
  refine WC.region ?_
  refine W.as ?_
  refine W.as ?_
  refine W.nil (thn_n ?_)
  refine WC.seq ?_
  refine WC.region ?_
  refine W.mv ?_
  refine W.call (Mp := []) (clonep_fc h_l) rfl (List.Perm.refl _) ?_
  intro _ G1 _ hG1 q3
  refine match q3 with | ⟨e_4, _, e_5, hv2⟩ => ?_
  subst e_4
  subst e_5
  have q7 := hv2.form
  refine match q7 with | ⟨sa_hv2, sc_hv2, e_6⟩ => ?_
  subst e_6
  refine W.as ?_
  refine W.nil (thn_n ?_)
  refine WC.seq ?_
  refine WC.seq ?_
  refine WC.region ?_
  refine W.mv ?_
  refine W.ok (ok_len sl23 (h_ms.mono hG1) rfl) ?_
  refine W.mv ?_
  refine W.nil (thn_n ?_)
  refine WC.block ?_
  refine WC.loop (X := (Nat) × Value) (fun k => [(17, .int .i64 ((k.1 : Nat) : Int)), (1, .slice sa_ms ms.length sc_ms), (2, .int .i64 n), (15, .slice sa_ms ms.length sc_ms), (16, .int .i64 (((ms).length : Nat) : Int)), (8, k.2)]) (fun k G Ml => Ml = [] ∧ SlR ePair G k.2 (foldN l (ms.take k.1)) ∧ k.1 ≤ ms.length ∧ DrainAt n l ms k.1) (fun k => ms.length - k.1) (0, .slice sa_hv2 ((l)).length sc_hv2) ⟨(by first | rfl | exact iv (by dsimp only; omega) | exact iv (by omega)), (by first | rfl | exact iv (by dsimp only; omega) | exact iv (by omega)), (by first | rfl | exact iv (by dsimp only; omega) | exact iv (by omega)), (by first | rfl | exact iv (by dsimp only; omega) | exact iv (by omega)), (by first | rfl | exact iv (by dsimp only; omega) | exact iv (by omega)), (by first | rfl | exact iv (by dsimp only; omega) | exact iv (by omega)), trivial⟩ ?_ ?_
  · exact ⟨rfl, (by simpa [foldN] using hv2), by omega, DrainAt.zero n l ms⟩
  · rintro ⟨k, v_8⟩ gG8 G8 _ hG8 ⟨rfl, ho_8, hk, hd⟩
    try dsimp only at ho_8 hk hd
    have hm : ∀ m ∈ ms, m.fit := fun m h => fit_of (msgR_sizes (hR m h))
    have hPk := PairsR.foldF (ms := ms.take k) hP (fun m h => hm m (List.mem_of_mem_take h))
    have hnk := fold_lenF (ms := ms.take k) hP (fun m h => hm m (List.mem_of_mem_take h))
    have hkl : (ms.take k).length ≤ k := by simp; omega
    refine WC.seq ?_
    refine WC.region ?_
    refine W.ok (ok_lss rfl rfl) ?_
    refine W.nil (thn_n ?_)
    refine WC.seq ?_
    refine WC.cond (b := _) rfl (fun h18 => ?_) (fun h18 => ?_)
    · have p18 := of_decide_eq_true h18
      refine WC.skip (thn_n ?_)
      refine WC.seq ?_
      refine WC.block ?_
      refine WC.seq ?_
      refine WC.region ?_
      refine W.mv ?_
      have q13 := (h_ms.mono (hG1.trans hG8)).at (i := k) (by omega)
      refine match q13 with | ⟨_, he9, ⟨e_12, hm10⟩⟩ => ?_
      subst e_12
      refine W.ok (ok_indexAddr (i := k) sl23 ty115 (h_ms.mono (hG1.trans hG8)) rfl rfl ⟨by omega, by omega⟩) ?_
      refine W.ok (ok_loadE (vs := [.int .i64 _, .int .i64 _, .string _, .string _, .bool _, .string _]) ty115 he9 rfl rfl rfl (by simp)) ?_
      refine W.alloc zr115 (fun b14 => ?_)
      refine W.as ?_
      refine W.store (i := 0) (vs := [.int .i64 _, .int .i64 _, .string _, .string _, .bool _, .string _]) (L' := [.int .i64 _, .int .i64 _, .string _, .string _, .bool _, .string _]) ty115 rfl rfl rfl rfl rfl rfl rfl rfl ?_
      refine W.nil (thn_n ?_)
      refine WC.seq ?_
      refine WC.region ?_
      refine W.mv ?_
      refine W.ok (ok_loadB (i := 0) (vs := [.int .i64 _, .int .i64 _, .string _, .string _, .bool _, .string _]) ty115 rfl rfl rfl rfl (by simp)) ?_
      refine W.mv ?_
      refine W.call (Mp := []) (leaftake_fc ho_8 ms[k].stamp ms[k].kind ms[k].key ms[k].hi ms[k].opn ms[k].val _ hPk (by omega) (hm _ (List.getElem_mem _))) rfl (List.Perm.refl _) ?_
      intro _ G15 _ hG15 q17
      refine match q17 with | ⟨e_18, _, e_19, _, e_20, hv16⟩ => ?_
      subst e_18
      subst e_19
      subst e_20
      have q22 := hv16.form
      refine match q22 with | ⟨sa_hv16, sc_hv16, e_21⟩ => ?_
      subst e_21
      refine W.mv ?_
      refine W.ok (ok_extract rfl rfl) ?_
      refine W.ok (ok_extract rfl rfl) ?_
      refine W.as ?_
      refine W.as ?_
      refine W.nil (thn_n ?_)
      refine WC.seq ?_
      refine WC.seq ?_
      refine WC.region ?_
      refine W.mv ?_
      refine W.ok (ok_not rfl) ?_
      refine W.nil (thn_n ?_)
      refine WC.cond (b := _) rfl (fun h30 => ?_) (fun h30 => ?_)
      · have hlf : lfitsN (foldN l (ms.take k)) ms[k] n = false := by
          cases h : lfitsN (foldN l (ms.take k)) ms[k] n
          · rfl
          · exfalso; rw [leafTakeN_t h] at h30; simp at h30
        refine WC.seq ?_
        refine WC.region ?_
        refine W.mv ?_
        refine W.mv ?_
        refine W.as ?_
        refine W.as ?_
        refine W.nil (thn_n ?_)
        refine WC.ret (thn_r (blk_r (thn_r (thn_r (blk_r (thn_r ?_))))))
        refine ⟨.inr rfl, [_, _], ⟨rfl, rfl, trivial⟩, [], List.nil_sublist _, ?_⟩
        refine ⟨rfl, _, (hd.stop (by omega) hlf).symm, _, rfl, ?_⟩
        · exact (ho_8.mono hG15)
      · have hlf : lfitsN (foldN l (ms.take k)) ms[k] n = true := by
          by_cases h : lfitsN (foldN l (ms.take k)) ms[k] n = true
          · exact h
          · exfalso; rw [leafTakeN_f (by simpa using h)] at h30; simp at h30
        refine WC.skip (thn_n ?_)
        refine WC.region ?_
        refine W.mv ?_
        refine W.as ?_
        refine W.nil (blk_n (thn_n ?_))
        refine WC.region ?_
        refine W.ok (ok_add rfl rfl (by omega)) ?_
        refine W.mv ?_
        refine W.sub ((List.Sublist.refl _).cons _) ?_
        refine W.nil (thn_n ?_)
        exact ⟨hG15, (k + 1, .slice sa_hv16 ((leafTakeN (foldN l (ms.take k)) ms[k] n).1).length sc_hv16), ⟨(by first | rfl | exact iv (by dsimp only; omega) | exact iv (by omega)), (by first | rfl | exact iv (by dsimp only; omega) | exact iv (by omega)), (by first | rfl | exact iv (by dsimp only; omega) | exact iv (by omega)), (by first | rfl | exact iv (by dsimp only; omega) | exact iv (by omega)), (by first | rfl | exact iv (by dsimp only; omega) | exact iv (by omega)), (by first | rfl | exact iv (by dsimp only; omega) | exact iv (by omega)), trivial⟩, ⟨rfl, (by exact SlR.cast hv16 (by rw [leafTakeN_t hlf, foldN_succ (by omega)])), by omega, hd.succ (by omega) hlf⟩, by omega⟩
    · have p18 := of_decide_eq_false h18
      refine WC.exit (thn_x (thn_x (blk_h (thn_n ?_))))
      refine WC.seq ?_
      refine WC.region ?_
      refine W.mv ?_
      refine W.mv ?_
      refine W.ok (ok_len sl23 (h_ms.mono (hG1.trans hG8)) rfl) ?_
      refine W.as ?_
      refine W.as ?_
      refine W.nil (thn_n ?_)
      refine WC.ret ?_
      refine ⟨.inr rfl, [_, _], ⟨rfl, rfl, trivial⟩, [], List.nil_sublist _, ?_⟩
      refine ⟨rfl, _, ((hd.all (by omega)).trans (by rw [show k = ms.length from by omega])).symm, _, rfl, ?_⟩
      · have h := ho_8; rw [List.take_of_length_le (by omega)] at h; exact h

theorem rdrain_fc {G : GH} {v_l : Value} {l : List Pair} (h_l : SlR ePair G v_l l) {v_ms : Value} {ms : List Msg} (h_ms : SlR eMsg G v_ms ms) (n : Int) (hP : PairsR l) (hn : l.length + ms.length ≤ 1000000) (hR : ∀ m ∈ ms, m.R) :
    Fc Try.prog 88 [v_l, v_ms, .int .i64 n] G [] (fun v G' M' => M' = [] ∧ ∃ r : List Pair × Nat, r = drainN n l ms ∧ ∃ u0, v = .tuple #[u0, .int .i64 ((r.2 : Nat) : Int)] ∧ SlR ePair G' u0 (r.1)) := by
  obtain ⟨sa_l, sc_l, rfl⟩ := h_l.form
  obtain ⟨sa_ms, sc_ms, rfl⟩ := h_ms.form
  have hl := h_l.len47
  have hlm := h_ms.len47
  refine Fc.intro (rs := [.tmp 6, .tmp 7]) cl88 Try.func88 rfl Try.ntmps88 rfl rfl (fun w0 => ?_)
  refine WC.seq ?_
  refine WC.region ?_
  refine W.as ?_
  refine W.as ?_
  refine W.nil (thn_n ?_)
  refine WC.seq ?_
  refine WC.seq ?_
  refine WC.region ?_
  refine W.as ?_
  refine W.nil (thn_n ?_)
  refine WC.block ?_
  refine WC.loop (X := (Nat) × Value) (fun k => [(8, .int .i64 ((k.1 : Nat) : Int)), (1, .slice sa_ms ms.length sc_ms), (2, .int .i64 n), (0, k.2)]) (fun k G Ml => Ml = [] ∧ SlR ePair G k.2 (foldN l (ms.take k.1)) ∧ k.1 ≤ ms.length ∧ DrainAt n l ms k.1) (fun k => ms.length - k.1) (0, .slice sa_l l.length sc_l) ⟨(by first | rfl | exact iv (by dsimp only; omega) | exact iv (by omega)), (by first | rfl | exact iv (by dsimp only; omega) | exact iv (by omega)), (by first | rfl | exact iv (by dsimp only; omega) | exact iv (by omega)), (by first | rfl | exact iv (by dsimp only; omega) | exact iv (by omega)), trivial⟩ ?_ ?_
  · exact ⟨rfl, (by simpa [foldN] using h_l), by omega, DrainAt.zero n l ms⟩
  · rintro ⟨k, v_0⟩ gG23 G23 _ hG23 ⟨rfl, ho_0, hk, hd⟩
    try dsimp only at ho_0 hk hd
    have hm : ∀ m ∈ ms, m.fit := fun m h => fit_of (msgR_sizes (hR m h))
    have hPk := PairsR.foldF (ms := ms.take k) hP (fun m h => hm m (List.mem_of_mem_take h))
    have hnk := fold_lenF (ms := ms.take k) hP (fun m h => hm m (List.mem_of_mem_take h))
    have hkl : (ms.take k).length ≤ k := by simp; omega
    refine WC.seq ?_
    refine WC.seq ?_
    refine WC.region ?_
    refine W.mv ?_
    refine W.mv ?_
    refine W.ok (ok_len sl23 (h_ms.mono hG23) rfl) ?_
    refine W.ok (ok_lss rfl rfl) ?_
    refine W.nil (thn_n ?_)
    refine WC.cond (b := _) rfl (fun h12 => ?_) (fun h12 => ?_)
    · have p12 := of_decide_eq_true h12
      have hRk := hR _ (List.getElem_mem (by omega : k < ms.length))
      refine WC.skip (thn_n ?_)
      refine WC.seq ?_
      refine WC.block ?_
      refine WC.seq ?_
      refine WC.seq ?_
      refine WC.region ?_
      refine W.mv ?_
      refine W.mv ?_
      refine W.mv ?_
      have q28 := (h_ms.mono hG23).at (i := k) (by omega)
      refine match q28 with | ⟨_, he24, ⟨e_27, hm25⟩⟩ => ?_
      subst e_27
      refine W.ok (ok_indexAddr (i := k) sl23 ty115 (h_ms.mono hG23) rfl rfl ⟨by omega, by omega⟩) ?_
      refine W.ok (ok_loadE (vs := [.int .i64 _, .int .i64 _, .string _, .string _, .bool _, .string _]) ty115 he24 rfl rfl rfl (by simp)) ?_
      refine W.mv ?_
      refine W.qcall (fits20_fc ho_0 ms[k].stamp ms[k].kind ms[k].key ms[k].hi ms[k].opn ms[k].val _) rfl ?_
      refine W.ok (ok_not rfl) ?_
      refine W.nil (thn_n ?_)
      refine WC.cond (b := _) rfl (fun h22 => ?_) (fun h22 => ?_)
      · refine WC.seq ?_
        refine WC.region ?_
        refine W.mv ?_
        refine W.mv ?_
        refine W.as ?_
        refine W.as ?_
        refine W.nil (thn_n ?_)
        refine WC.ret (thn_r (blk_r (thn_r (thn_r (blk_r (thn_r ?_))))))
        refine ⟨.inr rfl, [_, _], ⟨rfl, rfl, trivial⟩, [], List.nil_sublist _, ?_⟩
        refine ⟨rfl, _, (hd.stop (by omega) (by rw [lfits_eq hRk]; simpa using h22)).symm, _, rfl, ?_⟩
        · exact ho_0
      · refine WC.skip (thn_n ?_)
        refine WC.region ?_
        refine W.mv ?_
        refine W.mv ?_
        refine W.mv ?_
        have q33 := (h_ms.mono hG23).at (i := k) (by omega)
        refine match q33 with | ⟨_, he29, ⟨e_32, hm30⟩⟩ => ?_
        subst e_32
        refine W.ok (ok_indexAddr (i := k) sl23 ty115 (h_ms.mono hG23) rfl rfl ⟨by omega, by omega⟩) ?_
        refine W.ok (ok_loadE (vs := [.int .i64 _, .int .i64 _, .string _, .string _, .bool _, .string _]) ty115 he29 rfl rfl rfl (by simp)) ?_
        refine W.call (Mp := []) (rtakeF_fc ho_0 ms[k].stamp ms[k].kind ms[k].key ms[k].hi ms[k].opn ms[k].val hPk (by omega) (hm _ (List.getElem_mem _))) rfl (List.Perm.refl _) ?_
        intro _ G34 _ hG34 q36
        refine match q36 with | ⟨e_37, _, e_38, hv35⟩ => ?_
        subst e_37
        subst e_38
        have q40 := hv35.form
        refine match q40 with | ⟨sa_hv35, sc_hv35, e_39⟩ => ?_
        subst e_39
        refine W.as ?_
        refine W.nil (blk_n (thn_n ?_))
        refine WC.region ?_
        refine W.mv ?_
        refine W.ok (ok_add rfl rfl (by omega)) ?_
        refine W.as ?_
        refine W.nil (thn_n ?_)
        exact ⟨hG34, (k + 1, .slice sa_hv35 (takeN (foldN l (ms.take k)) ms[k]).length sc_hv35), ⟨(by first | rfl | exact iv (by dsimp only; omega) | exact iv (by omega)), (by first | rfl | exact iv (by dsimp only; omega) | exact iv (by omega)), (by first | rfl | exact iv (by dsimp only; omega) | exact iv (by omega)), (by first | rfl | exact iv (by dsimp only; omega) | exact iv (by omega)), trivial⟩, ⟨rfl, (by have h := hv35; rw [foldN_succ (by omega)]; exact h), by omega, hd.succ (by omega) (by rw [lfits_eq hRk]; simpa using h22)⟩, by omega⟩
    · have p12 := of_decide_eq_false h12
      refine WC.exit (thn_x (thn_x (blk_h (thn_n ?_))))
      refine WC.seq ?_
      refine WC.region ?_
      refine W.mv ?_
      refine W.mv ?_
      refine W.ok (ok_len sl23 (h_ms.mono hG23) rfl) ?_
      refine W.as ?_
      refine W.as ?_
      refine W.nil (thn_n ?_)
      refine WC.ret ?_
      refine ⟨.inr rfl, [_, _], ⟨rfl, rfl, trivial⟩, [], List.nil_sublist _, ?_⟩
      refine ⟨rfl, _, ((hd.all (by omega)).trans (by rw [show k = ms.length from by omega])).symm, _, rfl, ?_⟩
      · have h := ho_0; rw [List.take_of_length_le (by omega)] at h; exact h

end Go.Proofs.Ytipdjeemjiimbaa
