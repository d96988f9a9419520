/- Walks of leaves behind messages. -/
import Derived.Test.YtmbafmifalppaaaGreatQcWk
import Derived.Test.YtmbafmifalppaaaGreatQcNq
set_option maxRecDepth 100000
set_option maxHeartbeats 1600000
set_option linter.unusedVariables false
set_option linter.unusedSimpArgs false
set_option linter.unnecessarySimpa false
namespace Go.Proofs.YtmbafmifalppaaaGreat
open Go Go.Fw Go.RowKit
theorem ldrain_fc {G : GH} {v_l : Value} {l : List Pair} (h_l : SlR ePair G v_l l) {v_ms : Value} {ms : List Msg} (h_ms : SlR eMsg G v_ms ms) (n : Int) (hP : PairsR l) (hn : l.length + ms.length ≤ 1000000) (hR : ∀ m ∈ ms, m.R) :
    Fc Tryz.prog 165 [v_l, v_ms, .int .i64 n] G [] (fun v G' M' => M' = [] ∧ ∃ r : List Pair × Nat, r = drainN n l ms ∧ ∃ u0, v = .tuple #[u0, .int .i64 ((r.2 : Nat) : Int)] ∧ SlR ePair G' u0 (r.1)) := by
 obtain ⟨sa_l, sc_l, rfl⟩ := h_l.form
 obtain ⟨sa_ms, sc_ms, rfl⟩ := h_ms.form
 have hl := h_l.len47
 have hlm := h_ms.len47
 refine Fc.intro (rs := [.tmp 6, .tmp 7]) cl165 Tryz.func165 rfl Tryz.ntmps165 rfl rfl (fun w0 => ?_)
 refine WC.seq (WC.region (W.as (W.as (W.nil (thn_n (WC.seq (WC.region (W.mv (W.call (Mp := []) (clonep_fc h_l) rfl pr9 ?_)))))))))
 intro _ G1 _ hG1 q3
 refine match q3 with | ⟨e_4, _, e_5, hv2⟩ => ?_
 subst e_4
 subst e_5
 have q7 := hv2.form
 refine match q7 with | ⟨sa_hv2, sc_hv2, e_6⟩ => ?_
 subst e_6
 refine W.as (W.nil (thn_n (WC.seq (WC.seq (WC.region (W.mv (W.ok (ok_len sl40 (h_ms.mono hG1) rfl) (W.mv (W.nil (thn_n (WC.block ?_)))))))))))
 refine WC.loop (X := (Nat) × Value) (fun k => [(17, .int .i64 ((k.1 : Nat) : Int)), (1, .slice sa_ms ms.length sc_ms), (2, .int .i64 n), (15, .slice sa_ms ms.length sc_ms), (16, .int .i64 (((ms).length : Nat) : Int)), (8, k.2)]) (fun k G Ml => Ml = [] ∧ SlR ePair G k.2 (foldN l (ms.take k.1)) ∧ k.1 ≤ ms.length ∧ DrainAt n l ms k.1) (fun k => ms.length - k.1) (0, .slice sa_hv2 ((l)).length sc_hv2) ⟨eqv, eqv, eqv, eqv, eqv, eqv, trivial⟩ ?_ ?_
 ·exact ⟨rfl, (by simpa [foldN] using hv2), by omega, DrainAt.zero n l ms⟩
 rintro ⟨k, v_8⟩ gG8 G8 _ hG8 ⟨rfl, ho_8, hk, hd⟩
 try dsimp only at ho_8 hk hd
 have hm : ∀ m ∈ ms, m.fit := fun m h => fit_of (msgR_sizes (hR m h))
 have hPk := PairsR.foldF (ms := ms.take k) hP (fun m h => hm m (List.mem_of_mem_take h))
 have hnk := fold_lenF (ms := ms.take k) hP (fun m h => hm m (List.mem_of_mem_take h))
 have hkl : (ms.take k).length ≤ k := by simp; omega
 refine WC.fr (f := setL gG8 [(17, .int .i64 ((k : Nat) : Int)), (1, .slice sa_ms ms.length sc_ms), (2, .int .i64 n), (15, .slice sa_ms ms.length sc_ms), (16, .int .i64 (((ms).length : Nat) : Int)), (8, v_8)]) rfl (WC.seq (WC.region (W.ok (ok_lss rfl rfl) (W.nil (thn_n (WC.seq ?_))))))
 refine WC.cond (b := _) rfl (fun h18 => ?_) (fun h18 => ?_)
 ·have p18 := of_decide_eq_true h18
  refine WC.skip (thn_n (WC.seq (WC.block (WC.seq (WC.region (W.mv ?_))))))
  have q13 := (h_ms.mono (hG1.trans hG8)).at (i := k) (by omega)
  refine match q13 with | ⟨_, he9, ⟨e_12, hm10⟩⟩ => ?_
  subst e_12
  refine W.ok (ok_indexAddr (i := k) sl40 ty150 (h_ms.mono (hG1.trans hG8)) rfl rfl ⟨by omega, by omega⟩) (W.ok (ok_loadE (vs := [.int .i64 _, .int .i64 _, .string _, .string _, .bool _, .string _]) ty150 he9 rfl rfl rfl (by simp)) (W.alloc zr150 (fun b14 => (W.as (W.store (i := 0) (vs := [.int .i64 _, .int .i64 _, .string _, .string _, .bool _, .string _]) (L' := [.int .i64 _, .int .i64 _, .string _, .string _, .bool _, .string _]) ty150 rfl rfl rfl rfl rfl rfl rfl rfl (W.nil (thn_n (WC.seq (WC.region (W.mv (W.ok (ok_loadB (i := 0) (vs := [.int .i64 _, .int .i64 _, .string _, .string _, .bool _, .string _]) ty150 rfl rfl rfl rfl (by simp)) (W.mv (W.call (Mp := []) (leaftake_fc ho_8 ms[k].stamp ms[k].kind ms[k].key ms[k].hi ms[k].opn ms[k].val _ hPk (by omega) (hm _ (List.getElem_mem _))) rfl pr9 ?_)))))))))))))
  intro _ G15 _ hG15 q17
  refine match q17 with | ⟨e_18, _, e_19, _, e_20, hv16⟩ => ?_
  subst e_18
  subst e_19
  subst e_20
  have q22 := hv16.form
  refine match q22 with | ⟨sa_hv16, sc_hv16, e_21⟩ => ?_
  subst e_21
  refine W.mv (W.ok (ok_extract rfl rfl) (W.ok (ok_extract rfl rfl) (W.as (W.as (W.nil (thn_n (WC.seq (WC.seq (WC.region (W.mv (W.ok (ok_not rfl) (W.nil (thn_n ?_)))))))))))))
  refine WC.cond (b := _) rfl (fun h30 => ?_) (fun h30 => ?_)
  ·have hlf : lfitsN (foldN l (ms.take k)) ms[k] n = false := by
     cases h : lfitsN (foldN l (ms.take k)) ms[k] n
     · rfl
     exfalso; rw [leafTakeN_t h] at h30; simp at h30
   refine WC.seq (WC.region (W.mv (W.mv (W.as (W.as (W.nil (thn_n (WC.ret (thn_r (blk_r (thn_r (thn_r (blk_r (thn_r ?_))))))))))))))
   refine ⟨.inr rfl, [_, _], ⟨rfl, rfl, trivial⟩, [], sn9, ?_⟩
   refine ⟨rfl, _, (hd.stop (by omega) hlf).symm, _, rfl, ?_⟩
   · exact (ho_8.mono hG15)
  have hlf : lfitsN (foldN l (ms.take k)) ms[k] n = true := by
    by_cases h : lfitsN (foldN l (ms.take k)) ms[k] n = true
    · exact h
    exfalso; rw [leafTakeN_f (by simpa using h)] at h30; simp at h30
  refine WC.skip (thn_n (WC.region (W.mv (W.as (W.nil (blk_n (thn_n (WC.region (W.ok (ok_add rfl rfl (by omega)) (W.mv (W.sub (sr9.cons _) (W.nil (thn_n ?_)))))))))))))
  exact ⟨hG15, (k + 1, .slice sa_hv16 ((leafTakeN (foldN l (ms.take k)) ms[k] n).1).length sc_hv16), ⟨eqv, eqv, eqv, eqv, eqv, eqv, trivial⟩, ⟨rfl, (by exact SlR.cast hv16 (by rw [leafTakeN_t hlf, foldN_succ (by omega)])), by omega, hd.succ (by omega) hlf⟩, by omega⟩
 have p18 := of_decide_eq_false h18
 refine WC.exit (thn_x (thn_x (blk_h (thn_n (WC.seq (WC.region (W.mv (W.mv (W.ok (ok_len sl40 (h_ms.mono (hG1.trans hG8)) rfl) (W.as (W.as (W.nil (thn_n (WC.ret ?_))))))))))))))
 refine ⟨.inr rfl, [_, _], ⟨rfl, rfl, trivial⟩, [], sn9, ?_⟩
 refine ⟨rfl, _, ((hd.all (by omega)).trans (by rw [show k = ms.length from by omega])).symm, _, rfl, ?_⟩
 · have h := ho_8; rw [List.take_of_length_le (by omega)] at h; exact h

theorem rdrain_fc {G : GH} {v_l : Value} {l : List Pair} (h_l : SlR ePair G v_l l) {v_ms : Value} {ms : List Msg} (h_ms : SlR eMsg G v_ms ms) (n : Int) (hP : PairsR l) (hn : l.length + ms.length ≤ 1000000) (hR : ∀ m ∈ ms, m.R) :
    Fc Tryz.prog 169 [v_l, v_ms, .int .i64 n] G [] (fun v G' M' => M' = [] ∧ ∃ r : List Pair × Nat, r = drainN n l ms ∧ ∃ u0, v = .tuple #[u0, .int .i64 ((r.2 : Nat) : Int)] ∧ SlR ePair G' u0 (r.1)) := by
 obtain ⟨sa_l, sc_l, rfl⟩ := h_l.form
 obtain ⟨sa_ms, sc_ms, rfl⟩ := h_ms.form
 have hl := h_l.len47
 have hlm := h_ms.len47
 refine Fc.intro (rs := [.tmp 6, .tmp 7]) cl169 Tryz.func169 rfl Tryz.ntmps169 rfl rfl (fun w0 => ?_)
 refine WC.seq (WC.region (W.as (W.as (W.nil (thn_n (WC.seq (WC.seq (WC.region (W.as (W.nil (thn_n (WC.block ?_))))))))))))
 refine WC.loop (X := (Nat) × Value) (fun k => [(8, .int .i64 ((k.1 : Nat) : Int)), (1, .slice sa_ms ms.length sc_ms), (2, .int .i64 n), (0, k.2)]) (fun k G Ml => Ml = [] ∧ SlR ePair G k.2 (foldN l (ms.take k.1)) ∧ k.1 ≤ ms.length ∧ DrainAt n l ms k.1) (fun k => ms.length - k.1) (0, .slice sa_l l.length sc_l) ⟨eqv, eqv, eqv, eqv, trivial⟩ ?_ ?_
 ·exact ⟨rfl, (by simpa [foldN] using h_l), by omega, DrainAt.zero n l ms⟩
 rintro ⟨k, v_0⟩ gG23 G23 _ hG23 ⟨rfl, ho_0, hk, hd⟩
 try dsimp only at ho_0 hk hd
 have hm : ∀ m ∈ ms, m.fit := fun m h => fit_of (msgR_sizes (hR m h))
 have hPk := PairsR.foldF (ms := ms.take k) hP (fun m h => hm m (List.mem_of_mem_take h))
 have hnk := fold_lenF (ms := ms.take k) hP (fun m h => hm m (List.mem_of_mem_take h))
 have hkl : (ms.take k).length ≤ k := by simp; omega
 refine WC.fr (f := setL gG23 [(8, .int .i64 ((k : Nat) : Int)), (1, .slice sa_ms ms.length sc_ms), (2, .int .i64 n), (0, v_0)]) rfl (WC.seq (WC.seq (WC.region (W.mv (W.mv (W.ok (ok_len sl40 (h_ms.mono hG23) rfl) (W.ok (ok_lss rfl rfl) (W.nil (thn_n ?_)))))))))
 refine WC.cond (b := _) rfl (fun h12 => ?_) (fun h12 => ?_)
 ·have p12 := of_decide_eq_true h12
  have hRk := hR _ (List.getElem_mem (by omega : k < ms.length))
  refine WC.skip (thn_n (WC.seq (WC.block (WC.seq (WC.seq (WC.region (W.mv (W.mv (W.mv ?_)))))))))
  have q28 := (h_ms.mono hG23).at (i := k) (by omega)
  refine match q28 with | ⟨_, he24, ⟨e_27, hm25⟩⟩ => ?_
  subst e_27
  refine W.ok (ok_indexAddr (i := k) sl40 ty150 (h_ms.mono hG23) rfl rfl ⟨by omega, by omega⟩) (W.ok (ok_loadE (vs := [.int .i64 _, .int .i64 _, .string _, .string _, .bool _, .string _]) ty150 he24 rfl rfl rfl (by simp)) (W.mv (W.qcall (fits20_fc ho_0 ms[k].stamp ms[k].kind ms[k].key ms[k].hi ms[k].opn ms[k].val _) rfl (W.ok (ok_not rfl) (W.nil (thn_n ?_))))))
  refine WC.cond (b := _) rfl (fun h22 => ?_) (fun h22 => ?_)
  ·refine WC.seq (WC.region (W.mv (W.mv (W.as (W.as (W.nil (thn_n (WC.ret (thn_r (blk_r (thn_r (thn_r (blk_r (thn_r ?_))))))))))))))
   refine ⟨.inr rfl, [_, _], ⟨rfl, rfl, trivial⟩, [], sn9, ?_⟩
   refine ⟨rfl, _, (hd.stop (by omega) (by rw [lfits_eq hRk]; simpa using h22)).symm, _, rfl, ?_⟩
   · exact ho_0
  refine WC.skip (thn_n (WC.region (W.mv (W.mv (W.mv ?_)))))
  have q33 := (h_ms.mono hG23).at (i := k) (by omega)
  refine match q33 with | ⟨_, he29, ⟨e_32, hm30⟩⟩ => ?_
  subst e_32
  refine W.ok (ok_indexAddr (i := k) sl40 ty150 (h_ms.mono hG23) rfl rfl ⟨by omega, by omega⟩) (W.ok (ok_loadE (vs := [.int .i64 _, .int .i64 _, .string _, .string _, .bool _, .string _]) ty150 he29 rfl rfl rfl (by simp)) (W.call (Mp := []) (rtakeF_fc ho_0 ms[k].stamp ms[k].kind ms[k].key ms[k].hi ms[k].opn ms[k].val hPk (by omega) (hm _ (List.getElem_mem _))) rfl pr9 ?_))
  intro _ G34 _ hG34 q36
  refine match q36 with | ⟨e_37, _, e_38, hv35⟩ => ?_
  subst e_37
  subst e_38
  have q40 := hv35.form
  refine match q40 with | ⟨sa_hv35, sc_hv35, e_39⟩ => ?_
  subst e_39
  refine W.as (W.nil (blk_n (thn_n (WC.region (W.mv (W.ok (ok_add rfl rfl (by omega)) (W.as (W.nil (thn_n ?_)))))))))
  exact ⟨hG34, (k + 1, .slice sa_hv35 (takeN (foldN l (ms.take k)) ms[k]).length sc_hv35), ⟨eqv, eqv, eqv, eqv, trivial⟩, ⟨rfl, (by have h := hv35; rw [foldN_succ (by omega)]; exact h), by omega, hd.succ (by omega) (by rw [lfits_eq hRk]; simpa using h22)⟩, by omega⟩
 have p12 := of_decide_eq_false h12
 refine WC.exit (thn_x (thn_x (blk_h (thn_n (WC.seq (WC.region (W.mv (W.mv (W.ok (ok_len sl40 (h_ms.mono hG23) rfl) (W.as (W.as (W.nil (thn_n (WC.ret ?_))))))))))))))
 refine ⟨.inr rfl, [_, _], ⟨rfl, rfl, trivial⟩, [], sn9, ?_⟩
 refine ⟨rfl, _, ((hd.all (by omega)).trans (by rw [show k = ms.length from by omega])).symm, _, rfl, ?_⟩
 · have h := ho_0; rw [List.take_of_length_le (by omega)] at h; exact h

end Go.Proofs.YtmbafmifalppaaaGreat
namespace Go.Proofs.YtmbafmifalppaaaGreat
open Go Go.Fw Go.RowKit
theorem light_fc {G : GH} {v_l : Value} {l : List Nd} (h_l : SlR eNode G v_l l) (n : Int) (m : Int) (hm : 0 ≤ m ∧ m ≤ 1073741824) :
    Fc Tryz.prog 29 [v_l, .int .i64 n, .int .i64 m] G [] (fun v _ _ => v = .bool (decide (Light l n m))) := by
 obtain ⟨sa_l, sc_l, rfl⟩ := h_l.form
 have hl := h_l.len47
 refine Fc.intro (rs := [.tmp 6]) cl29 Tryz.func29 rfl Tryz.ntmps29 rfl rfl (fun w0 => ?_)
 refine WC.seq (WC.region (W.as (W.nil (thn_n (WC.seq (WC.seq (WC.region (W.mv (W.ok (ok_len sl24 h_l rfl) (W.mv (W.ok (ok_gtr rfl rfl) (W.nil (thn_n ?_)))))))))))))
 refine WC.cond (b := _) rfl (fun h11 => ?_) (fun h11 => ?_)
 ·have p11 := of_decide_eq_true h11
  refine WC.seq (WC.region (W.as (W.nil (thn_n (WC.ret (thn_r ?_))))))
  refine ⟨.inr rfl, [_], ⟨rfl, trivial⟩, [], sn9, ?_⟩
  refine congrArg Value.bool ?_
  exact (decide_eq_false fun h => by have := h.1; omega).symm
 have p11 := of_decide_eq_false h11
 refine WC.skip (thn_n (WC.seq (WC.seq (WC.region (W.as (W.nil (thn_n (WC.block ?_))))))))
 refine WC.loop (X := Nat) (fun k => [(7, .int .i64 ((k : Nat) : Int)), (0, .slice sa_l l.length sc_l), (1, .int .i64 n), (2, .int .i64 m)]) (fun k _ Ml => Ml = [] ∧ ∀ i (h : i < l.length), i < k → l[i].light m) (fun k => l.length - k) 0 ⟨eqv, eqv, eqv, eqv, trivial⟩ ?_ ?_
 ·exact ⟨rfl, fun i _ h => by omega⟩
 rintro k gG12 G12 _ hG12 ⟨rfl, hk⟩
 refine WC.seq (WC.seq (WC.region (W.mv (W.mv (W.ok (ok_len sl24 (h_l.mono hG12) rfl) (W.ok (ok_lss rfl rfl) (W.nil (thn_n ?_))))))))
 refine WC.cond (b := _) rfl (fun h15 => ?_) (fun h15 => ?_)
 ·have p15 := of_decide_eq_true h15
  refine WC.skip (thn_n (WC.seq (WC.block (WC.seq (WC.region (W.mv (W.mv ?_)))))))
  have q16 := (h_l.mono hG12).at (i := k) (by omega)
  refine match q16 with | ⟨_, he13, ⟨pa_n14, pc_n14, ka_n14, kc_n14, ma_n14, mc_n14, ra_n14, rc_n14, e_15, hp_n14, hk_n14, hm_n14, hr_n14, hok_n14⟩⟩ => ?_
  subst e_15
  refine W.ok (ok_indexAddr (i := k) sl24 ty43 (h_l.mono hG12) rfl rfl ⟨by omega, by omega⟩) (W.ok (ok_fieldE fd43_9 rfl he13.form) (W.ok (ok_loadE (vs := [.slice _ _ _]) ty41 he13 rfl rfl rfl (by simp)) (W.mv (W.qcall (longp_fc hr_n14 _ (by omega)) rfl (W.ok (ok_not rfl) (W.mv ?_))))))
  refine W.sp 26 rfl (fun h25 => ?_) (fun h25 => ?_)
  ·refine W.no (dj := 26) rfl rfl h25 (W.no (dj := 26) rfl rfl h25 (W.no (dj := 26) rfl rfl h25 (W.no (dj := 26) rfl rfl h25 (W.no (dj := 26) rfl rfl h25 (W.no (dj := 26) rfl rfl h25 (W.no (dj := 26) rfl rfl h25 (W.no (dj := 26) rfl rfl h25 (W.no (dj := 26) rfl rfl h25 (W.ok (ok_pick_t rfl h25) (W.mv (W.no (dj := 37) rfl rfl rfl (W.no (dj := 37) rfl rfl rfl (W.no (dj := 37) rfl rfl rfl ?_)))))))))))))
   refine W.no (dj := 37) rfl rfl rfl (W.no (dj := 37) rfl rfl rfl (W.no (dj := 37) rfl rfl rfl (W.no (dj := 37) rfl rfl rfl (W.no (dj := 37) rfl rfl rfl (W.ok (ok_pick_t rfl rfl) (W.mv (W.no (dj := 47) rfl rfl rfl (W.no (dj := 47) rfl rfl rfl (W.no (dj := 47) rfl rfl rfl (W.no (dj := 47) rfl rfl rfl (W.no (dj := 47) rfl rfl rfl (W.no (dj := 47) rfl rfl rfl (W.no (dj := 47) rfl rfl rfl ?_)))))))))))))
   refine W.no (dj := 47) rfl rfl rfl (W.ok (ok_pick_t rfl rfl) (W.mv (W.no (dj := 57) rfl rfl rfl (W.no (dj := 57) rfl rfl rfl (W.no (dj := 57) rfl rfl rfl (W.no (dj := 57) rfl rfl rfl (W.no (dj := 57) rfl rfl rfl (W.no (dj := 57) rfl rfl rfl (W.no (dj := 57) rfl rfl rfl (W.no (dj := 57) rfl rfl rfl (W.ok (ok_pick_t rfl rfl) (W.nil (thn_n (WC.cond_t rfl rfl ?_))))))))))))))
   refine WC.seq (WC.region (W.as (W.nil (thn_n (WC.ret (blk_r (thn_r (thn_r (blk_r (thn_r ?_))))))))))
   refine ⟨.inr rfl, [_], ⟨rfl, trivial⟩, [], sn9, ?_⟩
   refine congrArg Value.bool ?_
   exact (decide_eq_false fun h => by obtain ⟨q1, q2, q3, q4, q5⟩ := h.2 k (by omega); first | omega | (simp at h25; omega) | (simp at h55; omega)).symm
  refine W.yes (dj := 26) rfl rfl h25 (W.mv (W.yes (dj := 26) rfl rfl h25 (W.mv (W.yes (dj := 26) rfl rfl h25 ?_))))
  have q20 := (h_l.mono hG12).at (i := k) (by omega)
  refine match q20 with | ⟨_, he17, ⟨pa_n18, pc_n18, ka_n18, kc_n18, ma_n18, mc_n18, ra_n18, rc_n18, e_19, hp_n18, hk_n18, hm_n18, hr_n18, hok_n18⟩⟩ => ?_
  subst e_19
  refine W.ok (ok_indexAddr (i := k) sl24 ty43 (h_l.mono hG12) rfl rfl ⟨by omega, by omega⟩) (W.yes (dj := 26) rfl rfl h25 (W.ok (ok_fieldE fd43_2 rfl he17.form) (W.yes (dj := 26) rfl rfl h25 (W.ok (ok_loadE (vs := [.slice _ _ _]) ty38 he17 rfl rfl rfl (by simp)) (W.yes (dj := 26) rfl rfl h25 (W.mv (W.yes (dj := 26) rfl rfl h25 (W.qcall (rlong_fc hp_n18 _ (by omega)) rfl (W.yes (dj := 26) rfl rfl h25 (W.mv (W.yes (dj := 26) rfl rfl h25 (W.ok (ok_gtr rfl rfl) (W.ok (ok_pick_f rfl h25) ?_)))))))))))))
  refine W.mv ?_
  refine W.sp 37 rfl (fun h35 => ?_) (fun h35 => ?_)
  ·have p35 := of_decide_eq_true h35
   refine W.no (dj := 37) rfl rfl h35 (W.no (dj := 37) rfl rfl h35 (W.no (dj := 37) rfl rfl h35 (W.no (dj := 37) rfl rfl h35 (W.no (dj := 37) rfl rfl h35 (W.no (dj := 37) rfl rfl h35 (W.no (dj := 37) rfl rfl h35 (W.no (dj := 37) rfl rfl h35 (W.ok (ok_pick_t rfl h35) (W.mv (W.no (dj := 47) rfl rfl rfl (W.no (dj := 47) rfl rfl rfl (W.no (dj := 47) rfl rfl rfl (W.no (dj := 47) rfl rfl rfl ?_)))))))))))))
   refine W.no (dj := 47) rfl rfl rfl (W.no (dj := 47) rfl rfl rfl (W.no (dj := 47) rfl rfl rfl (W.no (dj := 47) rfl rfl rfl (W.ok (ok_pick_t rfl rfl) (W.mv (W.no (dj := 57) rfl rfl rfl (W.no (dj := 57) rfl rfl rfl (W.no (dj := 57) rfl rfl rfl (W.no (dj := 57) rfl rfl rfl (W.no (dj := 57) rfl rfl rfl (W.no (dj := 57) rfl rfl rfl (W.no (dj := 57) rfl rfl rfl (W.no (dj := 57) rfl rfl rfl ?_)))))))))))))
   refine W.ok (ok_pick_t rfl rfl) (W.nil (thn_n (WC.cond_t rfl rfl (WC.seq (WC.region (W.as (W.nil (thn_n (WC.ret (blk_r (thn_r (thn_r (blk_r (thn_r ?_))))))))))))))
   refine ⟨.inr rfl, [_], ⟨rfl, trivial⟩, [], sn9, ?_⟩
   refine congrArg Value.bool ?_
   exact (decide_eq_false fun h => by obtain ⟨q1, q2, q3, q4, q5⟩ := h.2 k (by omega); first | omega | (simp at h25; omega) | (simp at h55; omega)).symm
  have p35 := of_decide_eq_false h35
  refine W.yes (dj := 37) rfl rfl h35 (W.mv (W.yes (dj := 37) rfl rfl h35 (W.mv (W.yes (dj := 37) rfl rfl h35 ?_))))
  have q24 := (h_l.mono hG12).at (i := k) (by omega)
  refine match q24 with | ⟨_, he21, ⟨pa_n22, pc_n22, ka_n22, kc_n22, ma_n22, mc_n22, ra_n22, rc_n22, e_23, hp_n22, hk_n22, hm_n22, hr_n22, hok_n22⟩⟩ => ?_
  subst e_23
  refine W.ok (ok_indexAddr (i := k) sl24 ty43 (h_l.mono hG12) rfl rfl ⟨by omega, by omega⟩) (W.yes (dj := 37) rfl rfl h35 (W.ok (ok_fieldE fd43_3 rfl he21.form) (W.yes (dj := 37) rfl rfl h35 (W.ok (ok_loadE (vs := [.slice _ _ _]) ty39 he21 rfl rfl rfl (by simp)) (W.yes (dj := 37) rfl rfl h35 (W.ok (ok_len sl39 hk_n22 rfl) (W.yes (dj := 37) rfl rfl h35 (W.mv (W.yes (dj := 37) rfl rfl h35 (W.ok (ok_gtr rfl rfl) (W.ok (ok_pick_f rfl h35) (W.mv ?_))))))))))))
  refine W.sp 47 rfl (fun h45 => ?_) (fun h45 => ?_)
  ·have p45 := of_decide_eq_true h45
   refine W.no (dj := 47) rfl rfl h45 (W.no (dj := 47) rfl rfl h45 (W.no (dj := 47) rfl rfl h45 (W.no (dj := 47) rfl rfl h45 (W.no (dj := 47) rfl rfl h45 (W.no (dj := 47) rfl rfl h45 (W.no (dj := 47) rfl rfl h45 (W.no (dj := 47) rfl rfl h45 (W.ok (ok_pick_t rfl h45) (W.mv (W.no (dj := 57) rfl rfl rfl (W.no (dj := 57) rfl rfl rfl (W.no (dj := 57) rfl rfl rfl (W.no (dj := 57) rfl rfl rfl ?_)))))))))))))
   refine W.no (dj := 57) rfl rfl rfl (W.no (dj := 57) rfl rfl rfl (W.no (dj := 57) rfl rfl rfl (W.no (dj := 57) rfl rfl rfl (W.ok (ok_pick_t rfl rfl) (W.nil (thn_n (WC.cond_t rfl rfl (WC.seq (WC.region (W.as (W.nil (thn_n (WC.ret (blk_r (thn_r (thn_r (blk_r (thn_r ?_))))))))))))))))))
   refine ⟨.inr rfl, [_], ⟨rfl, trivial⟩, [], sn9, ?_⟩
   refine congrArg Value.bool ?_
   exact (decide_eq_false fun h => by obtain ⟨q1, q2, q3, q4, q5⟩ := h.2 k (by omega); first | omega | (simp at h25; omega) | (simp at h55; omega)).symm
  have p45 := of_decide_eq_false h45
  refine W.yes (dj := 47) rfl rfl h45 (W.mv (W.yes (dj := 47) rfl rfl h45 (W.mv (W.yes (dj := 47) rfl rfl h45 ?_))))
  have q28 := (h_l.mono hG12).at (i := k) (by omega)
  refine match q28 with | ⟨_, he25, ⟨pa_n26, pc_n26, ka_n26, kc_n26, ma_n26, mc_n26, ra_n26, rc_n26, e_27, hp_n26, hk_n26, hm_n26, hr_n26, hok_n26⟩⟩ => ?_
  subst e_27
  refine W.ok (ok_indexAddr (i := k) sl24 ty43 (h_l.mono hG12) rfl rfl ⟨by omega, by omega⟩) (W.yes (dj := 47) rfl rfl h45 (W.ok (ok_fieldE fd43_8 rfl he25.form) (W.yes (dj := 47) rfl rfl h45 (W.ok (ok_loadE (vs := [.slice _ _ _]) ty40 he25 rfl rfl rfl (by simp)) (W.yes (dj := 47) rfl rfl h45 (W.mv (W.yes (dj := 47) rfl rfl h45 (W.qcall (few_fc hm_n26 _ (by omega)) rfl (W.yes (dj := 47) rfl rfl h45 (W.ok (ok_not rfl) (W.ok (ok_pick_f rfl h45) (W.mv ?_))))))))))))
  refine W.sp 57 rfl (fun h55 => ?_) (fun h55 => ?_)
  ·refine W.no (dj := 57) rfl rfl h55 (W.no (dj := 57) rfl rfl h55 (W.no (dj := 57) rfl rfl h55 (W.no (dj := 57) rfl rfl h55 (W.no (dj := 57) rfl rfl h55 (W.no (dj := 57) rfl rfl h55 (W.no (dj := 57) rfl rfl h55 (W.no (dj := 57) rfl rfl h55 (W.ok (ok_pick_t rfl h55) (W.nil (thn_n (WC.cond_t rfl rfl (WC.seq (WC.region (W.as ?_))))))))))))))
   refine W.nil (thn_n (WC.ret (blk_r (thn_r (thn_r (blk_r (thn_r ?_)))))))
   refine ⟨.inr rfl, [_], ⟨rfl, trivial⟩, [], sn9, ?_⟩
   refine congrArg Value.bool ?_
   exact (decide_eq_false fun h => by obtain ⟨q1, q2, q3, q4, q5⟩ := h.2 k (by omega); first | omega | (simp at h25; omega) | (simp at h55; omega)).symm
  refine W.yes (dj := 57) rfl rfl h55 (W.mv (W.yes (dj := 57) rfl rfl h55 (W.mv (W.yes (dj := 57) rfl rfl h55 ?_))))
  have q32 := (h_l.mono hG12).at (i := k) (by omega)
  refine match q32 with | ⟨_, he29, ⟨pa_n30, pc_n30, ka_n30, kc_n30, ma_n30, mc_n30, ra_n30, rc_n30, e_31, hp_n30, hk_n30, hm_n30, hr_n30, hok_n30⟩⟩ => ?_
  subst e_31
  refine W.ok (ok_indexAddr (i := k) sl24 ty43 (h_l.mono hG12) rfl rfl ⟨by omega, by omega⟩) (W.yes (dj := 57) rfl rfl h55 (W.ok (ok_fieldE fd43_4 rfl he29.form) (W.yes (dj := 57) rfl rfl h55 (W.ok (ok_loadE (vs := [.string _]) ty9 he29 rfl rfl rfl (by simp)) (W.yes (dj := 57) rfl rfl h55 (W.ok (ok_lenS st9 rfl) (W.yes (dj := 57) rfl rfl h55 (W.mv (W.yes (dj := 57) rfl rfl h55 (W.ok (ok_gtr rfl rfl) (W.ok (ok_pick_f rfl h55) (W.nil (thn_n ?_)))))))))))))
  refine WC.cond (b := _) rfl (fun h65 => ?_) (fun h65 => ?_)
  ·have p65 := of_decide_eq_true h65
   refine WC.seq (WC.region (W.as (W.nil (thn_n (WC.ret (blk_r (thn_r (thn_r (blk_r (thn_r ?_))))))))))
   refine ⟨.inr rfl, [_], ⟨rfl, trivial⟩, [], sn9, ?_⟩
   refine congrArg Value.bool ?_
   exact (decide_eq_false fun h => by obtain ⟨q1, q2, q3, q4, q5⟩ := h.2 k (by omega); first | omega | (simp at h25; omega) | (simp at h55; omega)).symm
  have p65 := of_decide_eq_false h65
  refine WC.skip (blk_n (thn_n (WC.region (W.mv (W.ok (ok_add rfl rfl (by omega)) (W.as (W.nil (thn_n ?_))))))))
  exact ⟨Le.rfl, k + 1, ⟨eqv, eqv, eqv, eqv, trivial⟩, ⟨rfl, fun i h hi => by
      by_cases e : i = k
      · subst e; exact ⟨by simpa using h25, by omega, by omega, by simpa using h55, by omega⟩
      · exact hk i h (by omega)⟩, by omega⟩
 have p15 := of_decide_eq_false h15
 refine WC.exit (thn_x (thn_x (blk_h (thn_n (WC.seq (WC.region (W.as (W.nil (thn_n (WC.ret ?_))))))))))
 refine ⟨.inr rfl, [_], ⟨rfl, trivial⟩, [], sn9, ?_⟩
 refine congrArg Value.bool ?_
 exact (decide_eq_true ⟨by omega, fun i h => hk i h (by omega)⟩).symm

end Go.Proofs.YtmbafmifalppaaaGreat
